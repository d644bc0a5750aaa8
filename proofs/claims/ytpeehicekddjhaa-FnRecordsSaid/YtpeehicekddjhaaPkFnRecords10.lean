/- Packed by a program of the session (wip/tools/pack.py): what the claim's theorem reaches, of the texts that wip/ and the kit's printer lay. -/
import Derived.Test.YtpeehicekddjhaaPkFnRecords9
section
namespace Go.Proofs.Ytpeehicekddjhaa.F
open Go.RowKit Go.Proofs.YtpeehicekddjhaaW.PrintWords Go.Proofs.YtpeehicekddjhaaW.PrintLast Go.Proofs.YtpeehicekddjhaaW.PrintMore
set_option linter.unusedVariables false
set_option linter.unusedSimpArgs false
theorem bit_zero {o g : Int} (ho : 0 ≤ o) (ho2 : o < 9223372036854775808) (hg : 0 ≤ g) : Go.bits .and .i64 (shr .i64 o g) 1 = 0 ↔ ¬ opn o g = true := by
  obtain ⟨a, rfl⟩ := Int.eq_ofNat_of_zero_le ho
  obtain ⟨n, rfl⟩ := Int.eq_ofNat_of_zero_le hg
  have ha : a < 2 ^ 63 := by omega
  rw [shr_nat ha]
  have h1 : a >>> n < 2 ^ 63 := by rw [Nat.shiftRight_eq_div_pow]; exact Nat.lt_of_le_of_lt (Nat.div_le_self _ _) ha
  have := bits_and_i (a := a >>> n) (b := 1) h1 (by decide)
  rw [show ((1 : Nat) : Int) = 1 from rfl] at this
  rw [this]
  unfold opn
  simp only [Int.toNat_natCast, Nat.testBit, bne_iff_ne, ne_eq, Decidable.not_not]
  rw [Nat.and_comm]
  omega
def otAt (q : Int) (gs : List SGate) (o : Int) : Int := gs.foldl (fun o g => if opn g.f1 q = true then o else setb o g.f0 false) o
def gsok (w h : Int) (gs : List SGate) : Prop := ∀ g ∈ gs, igap w h g.f0 = true ∧ 0 ≤ g.f1 ∧ g.f1 < 64
theorem tmok_iff {w h o p : Int} {gs : List SGate} (H : tmok w h o p gs = true) : mok w h o = true ∧ 1 ≤ p ∧ p ≤ 6 ∧ gs.length ≤ 8 ∧ gsok w h gs := by
  unfold tmok at H
  simp only [Bool.and_eq_true, decide_eq_true_eq, List.all_eq_true] at H
  obtain ⟨⟨⟨M, p1, p6⟩, l8⟩, hall⟩ := H
  refine ⟨M, p1, p6, l8, fun g hg => ?_⟩
  obtain ⟨i, hi, rfl⟩ := List.getElem_of_mem hg
  have := hall i (by rw [List.mem_range]; exact hi)
  have e : rd_Gate gs (i : Int) = gs[i] := by show gs.getD i zGate = _; rw [List.getD_eq_getElem?_getD, List.getElem?_eq_getElem hi]; rfl
  unfold tgp at this
  rw [e] at this
  simp only [Bool.and_eq_true, decide_eq_true_eq] at this
  obtain ⟨⟨a, _⟩, b, c⟩ := this
  have s := shl_small p1 p6
  unfold psg at a
  simp only [Bool.and_eq_true] at a
  exact ⟨a.1.2, b, by omega⟩
theorem setb_false {o g : Int} (ho : 0 ≤ o) (hg : 0 ≤ g) (H : opn o g = false) : setb o g false = o := by
  refine eq_of_opn (by unfold setb; rw [if_neg (by decide)]; omega) ho fun i hi => ?_
  rw [opn_setb _ hg hi]
  by_cases e : i = g
  · rw [if_pos e, e, H]
  · rw [if_neg e]
theorem spec_SetGap_false {w h o g : Int} (M : mok w h o = true) (hg : igap w h g = true) {k : Nat} (hk : 1 ≤ k) : ∃ b, spec_SetGap.f k w h o g false = some (w, h, setb o g false, b) := by
  obtain ⟨m, rfl⟩ : ∃ m, k = m + 1 := ⟨k - 1, by omega⟩
  have s := mok_small M
  have gb := gaps_small hg
  unfold spec_SetGap.f
  rw [spec_MazeOk_eq, Option.bind_some, if_pos M, spec_CountGaps_eq, Option.bind_some, spec_l01In_eq, Option.bind_some]
  have e : decide (0 ≤ g ∧ g ≤ wrap64 (gaps w h - 1)) = true := by
    have a := igap_iff.1 hg
    have b := gaps_bd w h
    rw [w64 (by omega) (by omega)]
    simp; omega
  rw [e]
  simp only [spec_SetGap.j0, Bool.not_true, Bool.false_eq_true, if_false]
  rw [spec_l03Bit_eq s.1 (by omega) gb.1, Option.bind_some]
  cases ob : opn o g with
  | true =>
    rw [if_pos (by decide), if_pos gb.1, xor_shl_eq s.1 (by omega) gb.1 (by omega)]
    refine ⟨true, ?_⟩
    rw [← setb_flip s.1 gb.1, ob]
    rfl
  | false =>
    rw [if_neg (by decide), setb_false s.1 gb.1 ob]
    exact ⟨true, rfl⟩
theorem tmod_nat {m p : Int} (h0 : 0 ≤ m) (h1 : 1 ≤ p) : Int.tmod m p = ((m.toNat % p.toNat : Nat) : Int) := by
  obtain ⟨a, rfl⟩ := Int.eq_ofNat_of_zero_le h0
  obtain ⟨b, rfl⟩ := Int.eq_ofNat_of_zero_le (show 0 ≤ p by omega)
  simp only [Int.toNat_natCast]
  rfl
theorem spec_l29Maze_eq {w h o p m : Int} {gs : List SGate} (T : tmok w h o p gs = true) (h0 : 0 ≤ m) {k : Nat} (hk : 20 ≤ k) : spec_l29Maze.f k w h o p gs m = some (w, h, otAt ((m.toNat % p.toNat : Nat) : Int) gs o) := by
  obtain ⟨M, p1, p6, l8, G⟩ := tmok_iff T
  unfold spec_l29Maze.f
  have key : ∀ (d i k : Nat) (q : Int), i + d = gs.length → d + 3 ≤ k → mok w h q = true → spec_l29Maze.l0 k m (i : Int) w h o p gs w h q = some (w, h, otAt ((m.toNat % p.toNat : Nat) : Int) (gs.drop i) q) := by
    intro d
    induction d with
    | zero =>
      intro i k q hi hk Mq
      obtain ⟨n, rfl⟩ : ∃ n, k = n + 1 := ⟨k - 1, by omega⟩
      simp only [spec_l29Maze.l0]
      rw [if_neg (by omega), List.drop_of_length_le (by omega)]
      rfl
    | succ d ih =>
      intro i k q hi hk Mq
      obtain ⟨n, rfl⟩ : ∃ n, k = n + 1 := ⟨k - 1, by omega⟩
      have hil : i < gs.length := by omega
      have e : rd_Gate gs (i : Int) = gs[i] := by show gs.getD i zGate = _; rw [List.getD_eq_getElem?_getD, List.getElem?_eq_getElem hil]; rfl
      obtain ⟨g1, g2, g3⟩ := G gs[i] (List.getElem_mem hil)
      simp only [spec_l29Maze.l0]
      rw [if_pos (by omega), if_pos (by omega), if_neg (by omega), e, tmod_nat h0 p1, spec_l03Bit_eq g2 (by omega) (by omega), Option.bind_some, w64_succ hil (by omega), List.drop_eq_getElem_cons hil]
      unfold otAt
      rw [List.foldl_cons]
      by_cases b : opn gs[i].f1 ((m.toNat % p.toNat : Nat) : Int) = true
      · rw [if_pos b, if_pos b]
        have := ih (i + 1) n q (by omega) (by omega) Mq
        rw [Int.natCast_add] at this
        exact this
      · obtain ⟨b', eb⟩ := spec_SetGap_false Mq g1 (k := n) (by omega)
        rw [if_neg b, if_neg b, eb, Option.bind_some]
        have := ih (i + 1) n (setb q gs[i].f0 false) (by omega) (by omega) (mok_setb _ Mq g1)
        rw [Int.natCast_add] at this
        exact this
  have := key gs.length 0 k o (by omega) (by omega) M
  simpa using this
theorem impl_MazeAtTime_eq {w h o p m : Int} {gs : List SGate} (T : tmok w h o p gs = true) (h0 : 0 ≤ m) (h1 : m ≤ 1000) {k : Nat} (hk : 30 ≤ k) : impl_MazeAtTime.f k w h o p gs m = some (w, h, otAt ((m.toNat % p.toNat : Nat) : Int) gs o, true) := by
  obtain ⟨M, p1, p6, l8, G⟩ := tmok_iff T
  obtain ⟨k', rfl⟩ : ∃ k', k = k' + 1 := ⟨k - 1, by omega⟩
  unfold impl_MazeAtTime.f
  rw [impl_TimedOk_eq (by omega), Option.bind_some, if_pos T, if_neg (by omega)]
  simp only [impl_MazeAtTime.j0]
  rw [if_neg (by simp; omega)]
  have key : ∀ (d i k : Nat) (q : Int), i + d = gs.length → d + 3 ≤ k → mok w h q = true → impl_MazeAtTime.l0 k m gs (gs.length : Int) (i : Int) w h o p gs w h q = some (w, h, otAt ((m.toNat % p.toNat : Nat) : Int) (gs.drop i) q, true) := by
    intro d
    induction d with
    | zero =>
      intro i k q hi hk Mq
      obtain ⟨n, rfl⟩ : ∃ n, k = n + 1 := ⟨k - 1, by omega⟩
      simp only [impl_MazeAtTime.l0]
      rw [if_neg (by omega), List.drop_of_length_le (by omega)]
      rfl
    | succ d ih =>
      intro i k q hi hk Mq
      obtain ⟨n, rfl⟩ : ∃ n, k = n + 1 := ⟨k - 1, by omega⟩
      have hil : i < gs.length := by omega
      have e : rd_Gate gs (i : Int) = gs[i] := by show gs.getD i zGate = _; rw [List.getD_eq_getElem?_getD, List.getElem?_eq_getElem hil]; rfl
      obtain ⟨g1, g2, g3⟩ := G gs[i] (List.getElem_mem hil)
      have gb := gaps_small g1
      have sq := mok_small Mq
      simp only [impl_MazeAtTime.l0]
      rw [if_pos (by omega), if_pos (by omega), if_pos (by omega), if_neg (by omega), e, tmod_nat h0 p1, if_pos (by omega), w64_succ hil (by omega), List.drop_eq_getElem_cons hil]
      unfold otAt
      rw [List.foldl_cons]
      by_cases b : opn gs[i].f1 ((m.toNat % p.toNat : Nat) : Int) = true
      · rw [if_neg (fun z => (bit_zero g2 (by omega) (by omega)).1 z b), if_pos b]
        have := ih (i + 1) n q (by omega) (by omega) Mq
        rw [Int.natCast_add] at this
        exact this
      · rw [if_pos ((bit_zero g2 (by omega) (by omega)).2 b), if_neg b, impl_with_eq w h false sq.1 (by omega) gb.1 (by omega), Option.bind_some]
        have := ih (i + 1) n (setb q gs[i].f0 false) (by omega) (by omega) (mok_setb _ Mq g1)
        rw [Int.natCast_add] at this
        exact this
  have := key gs.length 0 k' o (by omega) (by omega) M
  simpa using this
theorem or_shl_eq {o g : Int} (ho : 0 ≤ o) (h1 : o < 2 ^ 62) (hg : 0 ≤ g) (h2 : g < 62) : Go.bits .or .i64 o (shl .i64 1 g) = setb o g true := by
  obtain ⟨a, rfl⟩ := Int.eq_ofNat_of_zero_le ho
  obtain ⟨n, rfl⟩ := Int.eq_ofNat_of_zero_le hg
  have hp : (2 : Nat) ^ n < 2 ^ 62 := Nat.pow_lt_pow_right (by decide) (by omega)
  rw [shl_one (by omega), bits_or_i (by omega) (by omega)]
  unfold setb
  rw [if_pos rfl]
  simp only [Int.toNat_natCast]
def nx1 (w h o : Int) (i : Nat) (out : Int) (d : Nat) : Int := if 0 ≤ st w h o i d then setb out (st w h o i d) true else out
def nxc (w h o set : Int) (out : Int) (i : Nat) : Int := if opn set i = true then (List.range' 0 4).foldl (nx1 w h o i) out else out
def nxt (w h o set : Int) : Int := (List.range' 0 (stN w h)).foldl (nxc w h o set) set
def b16 (x : Int) : Prop := 0 ≤ x ∧ x < 2 ^ 16
theorem nx1_b16 {w h o : Int} {i d : Nat} {out : Int} (B : b16 out) : b16 (nx1 w h o i out d) := by
  unfold nx1
  split
  · rename_i H
    obtain ⟨_, _, f3, _, _⟩ := st_facts H
    have a := icell_iff.1 f3
    have b := cells_bd w h
    exact setb_lt (n := 16) true B.1 B.2 a.1 (by omega)
  · exact B
theorem foldl_keep {α σ : Type} {f : σ → α → σ} {I : σ → Prop} (H : ∀ s a, I s → I (f s a)) : ∀ (l : List α) (s : σ), I s → I (l.foldl f s)
  | [], s, h => h
  | a :: l, s, h => by rw [List.foldl_cons]; exact foldl_keep H l _ (H s a h)
theorem nxc_b16 {w h o set : Int} {i : Nat} {out : Int} (B : b16 out) : b16 (nxc w h o set out i) := by
  unfold nxc
  split
  · exact foldl_keep (fun s a hs => nx1_b16 hs) _ _ B
  · exact B
theorem nxt_b16 {w h o set : Int} (B : b16 set) : b16 (nxt w h o set) := foldl_keep (fun s a hs => nxc_b16 hs) _ _ B
theorem opn_foldl {α : Type} {f : Int → α → Int} {P : α → Bool} {y : Int} (H : ∀ s a, opn (f s a) y = (opn s y || P a)) : ∀ (l : List α) (s : Int), opn (l.foldl f s) y = (opn s y || l.any P)
  | [], s => by simp
  | a :: l, s => by rw [List.foldl_cons, opn_foldl H l, H, List.any_cons, Bool.or_assoc]
theorem opn_nx1 {w h o : Int} {i d : Nat} {out y : Int} (hy : 0 ≤ y) : opn (nx1 w h o i out d) y = (opn out y || decide (0 ≤ st w h o i d ∧ st w h o i d = y)) := by
  unfold nx1
  by_cases H : 0 ≤ st w h o i d
  · rw [if_pos H, opn_setb _ H hy]
    by_cases e : y = st w h o i d
    · rw [if_pos e]; simp [H, ← e, hy]
    · rw [if_neg e]
      have : ¬ st w h o i d = y := fun q => e q.symm
      simp [this]
  · rw [if_neg H]; simp [H]
theorem opn_nxt {w h o set y : Int} (hy : 0 ≤ y) : opn (nxt w h o set) y = (opn set y || (List.range' 0 (stN w h)).any fun i => opn set i && (List.range' 0 4).any fun d => decide (0 ≤ st w h o i d ∧ st w h o i d = y)) := by
  unfold nxt
  refine opn_foldl (P := fun i : Nat => opn set i && (List.range' 0 4).any fun d => decide (0 ≤ st w h o i d ∧ st w h o i d = y)) (fun s i => ?_) _ _
  unfold nxc
  by_cases b : opn set (i : Int) = true
  · rw [if_pos b, b, Bool.true_and]
    exact opn_foldl (P := fun d : Nat => decide (0 ≤ st w h o i d ∧ st w h o i d = y)) (fun s d => opn_nx1 hy) _ _
  · rw [if_neg b]; simp [b]
theorem spec_nx_inner {w h o set : Int} {i : Nat} (hs : b16 set) (hi : i < 16) (hb : opn set (i : Int) = true) : ∀ (r d K : Nat) (out : Int), d + r = 4 → 5 ≤ K → b16 out → spec_l29Next.l1 (K + 2 * r + 2) set out (i : Int) (d : Int) w h o = spec_l29Next.l0 K set ((List.range' d r).foldl (nx1 w h o i) out) ((i : Int) + 1) w h o
  | 0, d, K, out, hd, hK, B => by
    obtain rfl : d = 4 := by omega
    rw [show K + 2 * 0 + 2 = (K + 1) + 1 by omega]
    conv => lhs; unfold spec_l29Next.l1
    rw [if_neg (by omega)]
    conv => lhs; unfold spec_l29Next.j2
    rw [if_neg (by decide), w64 (x := (i : Int) + 1) (by omega) (by omega)]
    rfl
  | r + 1, d, K, out, hd, hK, B => by
    rw [show K + 2 * (r + 1) + 2 = (K + 2 * r + 2 + 1) + 1 by omega]
    conv => lhs; unfold spec_l29Next.l1
    have hs2 : set < 65536 := by have := hs.2; simpa using this
    rw [if_pos (by omega), spec_l03Bit_eq hs.1 (by omega) (by omega), Option.bind_some]
    conv => lhs; unfold spec_l29Next.j2
    rw [if_pos hb, spec_Step_eq (by omega), Option.bind_some, w64 (x := (d : Int) + 1) (by omega) (by omega), List.range'_succ, List.foldl_cons]
    have B' := nx1_b16 (w := w) (h := h) (o := o) (i := i) (d := d) B
    have e : nx1 w h o i out d = if 0 ≤ st w h o i d then setb out (st w h o i d) true else out := rfl
    have ih := spec_nx_inner (w := w) (h := h) (o := o) hs hi hb r (d + 1) K (nx1 w h o i out d) (by omega) hK B'
    rw [Int.natCast_add] at ih
    by_cases H : 0 ≤ st w h o i d
    · obtain ⟨_, _, f3, _, _⟩ := st_facts H
      have a := icell_iff.1 f3
      have b := cells_bd w h
      have B2 : out < 65536 := by have := B.2; simpa using this
      rw [if_pos (by omega), if_pos H, or_shl_eq B.1 (by omega) H (by omega)]
      rw [e, if_pos H] at ih ⊢
      exact ih
    · rw [if_neg (by omega)]
      rw [e, if_neg H] at ih ⊢
      exact ih
theorem spec_l29Next_eq {w h o set : Int} (hs : b16 set) {k : Nat} (hk : 220 ≤ k) : spec_l29Next.f k w h o set = some (nxt w h o set) := by
  unfold spec_l29Next.f
  have hN := (show ((stN w h : Nat) : Int) = cells w h by have := cells_bd w h; unfold stN; omega)
  have hL := (show stN w h ≤ 16 by have := cells_bd w h; unfold stN; omega)
  have hs2 : set < 65536 := by have := hs.2; simpa using this
  have key : ∀ (r i k : Nat) (out : Int), i + r = stN w h → 11 * r + 20 ≤ k → b16 out → spec_l29Next.l0 k set out (i : Int) w h o = some ((List.range' i r).foldl (nxc w h o set) out) := by
    intro r
    induction r with
    | zero =>
      intro i k out hi hk B
      obtain ⟨n, rfl⟩ : ∃ n, k = n + 1 := ⟨k - 1, by omega⟩
      conv => lhs; unfold spec_l29Next.l0
      rw [spec_CountCells_eq, Option.bind_some, if_neg (by omega)]
      rfl
    | succ r ih =>
      intro i k out hi hk B
      rw [List.range'_succ, List.foldl_cons]
      by_cases hb : opn set (i : Int) = true
      · obtain ⟨K, rfl⟩ : ∃ K, k = K + 11 := ⟨k - 11, by omega⟩
        rw [show K + 11 = (K + 2 * 4 + 2) + 1 by omega]
        conv => lhs; unfold spec_l29Next.l0
        rw [spec_CountCells_eq, Option.bind_some, if_pos (by omega)]
        have h1 := spec_nx_inner (w := w) (h := h) (o := o) (i := i) hs (by omega) hb 4 0 K out (by omega) (by omega) B
        have h2 := ih (i + 1) K (nxc w h o set out i) (by omega) (by omega) (nxc_b16 B)
        rw [Int.natCast_add] at h2
        have e : nxc w h o set out i = (List.range' 0 4).foldl (nx1 w h o i) out := by unfold nxc; rw [if_pos hb]
        rw [e] at h2 ⊢
        exact h1.trans h2
      · obtain ⟨K, rfl⟩ : ∃ K, k = K + 1 + 1 + 1 := ⟨k - 3, by omega⟩
        conv => lhs; unfold spec_l29Next.l0
        rw [spec_CountCells_eq, Option.bind_some, if_pos (by omega)]
        conv => lhs; unfold spec_l29Next.l1
        rw [if_pos (by decide), spec_l03Bit_eq hs.1 (by omega) (by omega), Option.bind_some]
        conv => lhs; unfold spec_l29Next.j2
        rw [if_neg hb, w64 (x := (i : Int) + 1) (by omega) (by omega)]
        have h2 := ih (i + 1) K (nxc w h o set out i) (by omega) (by omega) (nxc_b16 B)
        rw [Int.natCast_add] at h2
        have e : nxc w h o set out i = out := by unfold nxc; rw [if_neg hb]
        rw [e] at h2 ⊢
        exact h2
  exact key (stN w h) 0 k set (by omega) (by omega) hs
end Go.Proofs.Ytpeehicekddjhaa.F
end

section
namespace Go.Proofs.Ytpeehicekddjhaa.F
open Go.RowKit Go.Proofs.YtpeehicekddjhaaW.PrintWords Go.Proofs.YtpeehicekddjhaaW.PrintLast Go.Proofs.YtpeehicekddjhaaW.PrintMore
set_option linter.unusedVariables false
set_option linter.unusedSimpArgs false
theorem mem_c16 {x : Int} : x ∈ cells16 ↔ 0 ≤ x ∧ x < 16 := by
  unfold cells16
  simp only [List.mem_cons, List.not_mem_nil, or_false]
  omega
theorem stN_i (w h : Int) : ((stN w h : Nat) : Int) = cells w h := by have := cells_bd w h; unfold stN; omega
def Rel (w h : Int) (S : List Int) (set : Int) : Prop := b16 set ∧ (∀ y ∈ S, icell w h y = true) ∧ ∀ y : Int, 0 ≤ y → (y ∈ S ↔ opn set y = true)
theorem rel_start {w h a : Int} (ha : icell w h a = true) : Rel w h [a] ((2 ^ a.toNat : Nat) : Int) := by
  have c := icell_iff.1 ha
  have b := cells_bd w h
  refine ⟨⟨Int.natCast_nonneg _, ?_⟩, fun y hy => by rw [List.mem_singleton] at hy; rw [hy]; exact ha, fun y hy => ?_⟩
  · have := Nat.pow_lt_pow_right (a := 2) (by decide) (show a.toNat < 16 by omega)
    have e : ((2 : Int) ^ 16) = ((2 ^ 16 : Nat) : Int) := by simp
    rw [e]
    exact Int.ofNat_lt.2 this
  · unfold opn
    rw [List.mem_singleton, Int.toNat_natCast, Nat.testBit_two_pow, decide_eq_true_eq]
    omega
theorem rel_step {w h o : Int} {S : List Int} {set : Int} (R : Rel w h S set) : ∃ S2, impl_EarliestAt.l1 w h o S = some S2 ∧ Rel w h S2 (nxt w h o set) := by
  obtain ⟨B, C, E⟩ := R
  have hw : ∀ c, impl_WaysFrom.f 1000 w h o c = some (ways w h o c) := fun c => impl_WaysFrom_eq (by decide) w h o c
  have hst : ∀ c d, impl_Step.f 1000 w h o c d = some (st w h o c d) := fun c d => impl_Step_eq (by decide) w h o c d
  unfold impl_EarliestAt.l1
  simp only [hw, hst]
  rw [if_pos]
  · refine ⟨_, rfl, nxt_b16 B, fun y hy => ?_, fun y hy => ?_⟩
    · rw [List.mem_filter, Bool.or_eq_true, List.any_eq_true, List.contains_iff_mem] at hy
      rcases hy.2 with h1 | ⟨c, hc, h2⟩
      · exact C y h1
      · obtain ⟨d, hd, e⟩ := List.any_eq_true.1 h2
        have e' : st w h o c d = y := by simpa using e
        have := (st_facts (ways_mem hd)).2.2.1
        rwa [e'] at this
    · rw [List.mem_filter, Bool.or_eq_true, List.any_eq_true, List.contains_iff_mem, opn_nxt hy, Bool.or_eq_true, List.any_eq_true, ← E y hy]
      constructor
      · rintro ⟨_, h1 | ⟨c, hc, h2⟩⟩
        · exact Or.inl h1
        · obtain ⟨d, hd, e⟩ := List.any_eq_true.1 h2
          have e' : st w h o c d = y := by simpa using e
          have hd0 := ways_mem hd
          obtain ⟨_, f2, _, f4, f5⟩ := st_facts hd0
          have ic := icell_iff.1 f2
          have hN := stN_i w h
          refine Or.inr ⟨c.toNat, by rw [List.mem_range'_1]; omega, ?_⟩
          have ec : ((c.toNat : Nat) : Int) = c := by omega
          rw [ec, Bool.and_eq_true]
          refine ⟨(E c ic.1).1 hc, List.any_eq_true.2 ⟨d.toNat, by rw [List.mem_range'_1]; omega, ?_⟩⟩
          have ed : ((d.toNat : Nat) : Int) = d := by omega
          rw [ed]
          exact decide_eq_true ⟨hd0, e'⟩
      · rintro (h1 | ⟨i, hi, h2⟩)
        · have := icell_iff.1 (C y h1)
          have hb := cells_bd w h
          exact ⟨mem_c16.2 ⟨hy, by omega⟩, Or.inl h1⟩
        · rw [Bool.and_eq_true] at h2
          obtain ⟨d, hd, e⟩ := List.any_eq_true.1 h2.2
          simp only [decide_eq_true_eq] at e
          obtain ⟨_, f2, f3, f4, f5⟩ := st_facts e.1
          have i3 := icell_iff.1 f3
          have hb := cells_bd w h
          refine ⟨mem_c16.2 ⟨hy, by omega⟩, Or.inr ⟨(i : Int), (E _ (by omega)).2 h2.1, List.any_eq_true.2 ⟨(d : Int), ?_, by simp [e.2]⟩⟩⟩
          unfold ways
          rw [List.mem_filter]
          have : (d : Int) = 0 ∨ (d : Int) = 1 ∨ (d : Int) = 2 ∨ (d : Int) = 3 := by omega
          refine ⟨by simp only [List.mem_cons, List.not_mem_nil, or_false]; omega, decide_eq_true e.1⟩
  · refine List.all_eq_true.2 fun c hc => ?_
    rw [Bool.and_eq_true, List.all_eq_true]
    refine ⟨decide_eq_true (ways_length w h o c), fun d hd => ?_⟩
    have i3 := icell_iff.1 (st_facts (ways_mem hd)).2.2.1
    have hb := cells_bd w h
    exact decide_eq_true ⟨ways_mem hd, by omega⟩
def tset (w h o p : Int) (gs : List SGate) (a m : Int) : Nat → Int
  | 0 => ((2 ^ a.toNat : Nat) : Int)
  | i + 1 => nxt w h (otAt (((m.toNat + i) % p.toNat : Nat) : Int) gs o) (tset w h o p gs a m i)
def ear (T : Nat → Int) (m b : Int) : Nat → Nat → Int
  | 0, _ => -1
  | n + 1, i => if opn (T i) b = true then m + i else ear T m b n (i + 1)
theorem tset_b16 {w h o p a m : Int} {gs : List SGate} (ha : icell w h a = true) : ∀ i, b16 (tset w h o p gs a m i)
  | 0 => (rel_start ha).1
  | i + 1 => nxt_b16 (tset_b16 ha i)
theorem impl_ear {w h o p a m b : Int} {gs : List SGate} (T : tmok w h o p gs = true) (h0 : 0 ≤ m) (h5 : m ≤ 500) (hb : icell w h b = true) : ∀ (n i k : Nat) (S : List Int), i + n = 201 → n + 1 ≤ k → Rel w h S (tset w h o p gs a m i) →
    impl_EarliestAt.l0 w h o p gs m b k S (m + i) = some (ear (tset w h o p gs a m) m b n i)
  | 0, i, k, S, hi, hk, R => by
    obtain ⟨k', rfl⟩ : ∃ k', k = k' + 1 := ⟨k - 1, by omega⟩
    simp only [impl_EarliestAt.l0, ear]
    rw [w64 (x := m + 200) (by omega) (by omega), if_neg (by omega)]
  | n + 1, i, k, S, hi, hk, R => by
    obtain ⟨k', rfl⟩ : ∃ k', k = k' + 1 := ⟨k - 1, by omega⟩
    have cb := icell_iff.1 hb
    simp only [impl_EarliestAt.l0, ear]
    rw [w64 (x := m + 200) (by omega) (by omega), if_pos (by omega)]
    have e : S.contains b = true ↔ opn (tset w h o p gs a m i) b = true := by rw [List.contains_iff_mem]; exact R.2.2 b cb.1
    by_cases q : opn (tset w h o p gs a m i) b = true
    · rw [if_pos (e.2 q), if_pos q]
    · have em : (m + (i : Int)).toNat = m.toNat + i := by omega
      rw [if_neg (fun z => q (e.1 z)), if_neg q, impl_MazeAtTime_eq T (by omega) (by omega) (by decide), Option.bind_some, em]
      obtain ⟨S2, e1, R2⟩ := rel_step (o := otAt (((m.toNat + i) % p.toNat : Nat) : Int) gs o) R
      simp only
      rw [e1, Option.bind_some, w64 (x := m + (i : Int) + 1) (by omega) (by omega), show m + (i : Int) + 1 = m + ((i + 1 : Nat) : Int) by omega]
      exact impl_ear T h0 h5 hb n (i + 1) k' S2 (by omega) (by omega) R2
theorem ear_none {T : Nat → Int} {m b : Int} : ∀ (n i : Nat), (∀ j, i ≤ j → opn (T j) b = false) → ear T m b n i = -1
  | 0, i, H => rfl
  | n + 1, i, H => by
    unfold ear
    rw [H i (Nat.le_refl _)]
    exact ear_none n (i + 1) (fun j hj => H j (by omega))
theorem still {w h o p a m : Int} {gs : List SGate} (p1 : 1 ≤ p) {i : Nat} (hq : p.toNat ≤ i) (H : ∀ j, i - p.toNat ≤ j → j ≤ i → tset w h o p gs a m j = tset w h o p gs a m i) : ∀ n, tset w h o p gs a m (i + n) = tset w h o p gs a m i
  | 0 => rfl
  | n + 1 => by
    have ih := still p1 hq H n
    have hp : 0 < p.toNat := by omega
    have hr := Nat.mod_lt (n) hp
    have e : (m.toNat + (i + n)) % p.toNat = (m.toNat + (i - p.toNat + n % p.toNat)) % p.toNat := by
      have : m.toNat + (i + n) = m.toNat + (i - p.toNat + n % p.toNat) + p.toNat * (n / p.toNat + 1) := by
        have := Nat.div_add_mod n p.toNat
        rw [Nat.mul_add]
        omega
      rw [this, Nat.add_mul_mod_self_left]
    have h1 := H (i - p.toNat + n % p.toNat) (by omega) (by omega)
    have h2 := H (i - p.toNat + n % p.toNat + 1) (by omega) (by omega)
    show nxt w h (otAt (((m.toNat + (i + n)) % p.toNat : Nat) : Int) gs o) (tset w h o p gs a m (i + n)) = _
    rw [e, ih, ← h1]
    exact h2.trans h1.symm
theorem spec_ear {w h o p a m b : Int} {gs : List SGate} (T : tmok w h o p gs = true) (h0 : 0 ≤ m) (h5 : m ≤ 500) (ha : icell w h a = true) (hb : icell w h b = true) : ∀ (n i k qu : Nat), i + n = 201 → 2 * n + 300 ≤ k → qu ≤ i → (∀ j, i - qu ≤ j → j ≤ i → tset w h o p gs a m j = tset w h o p gs a m i) → (0 < qu → opn (tset w h o p gs a m i) b = false) →
    spec_EarliestAt.l0 k m b (tset w h o p gs a m i) (qu : Int) (i : Int) w h o p gs = some (ear (tset w h o p gs a m) m b n i)
  | 0, i, k, qu, hi, hk, hqi, HQ, HO => by
    obtain ⟨k', rfl⟩ : ∃ k', k = k' + 1 + 1 := ⟨k - 2, by omega⟩
    conv => lhs; unfold spec_EarliestAt.l0
    rw [if_neg (by omega)]
    conv => lhs; unfold spec_EarliestAt.j2
    rw [if_neg (by decide)]
    rfl
  | n + 1, i, k, qu, hi, hk, hqi, HQ, HO => by
    obtain ⟨k', rfl⟩ : ∃ k', k = k' + 1 + 1 := ⟨k - 2, by omega⟩
    obtain ⟨M, p1, p6, _, G⟩ := tmok_iff T
    have cb := icell_iff.1 hb
    have B := tset_b16 (o := o) (p := p) (gs := gs) (m := m) ha i
    have B2 : tset w h o p gs a m i < 65536 := by have := B.2; simpa using this
    conv => lhs; unfold spec_EarliestAt.l0
    rw [if_pos (by omega)]
    conv => lhs; unfold spec_EarliestAt.j2
    by_cases hq : (qu : Int) ≤ p
    · rw [if_pos (decide_eq_true hq), spec_l03Bit_eq B.1 (by omega) cb.1, Option.bind_some]
      unfold ear
      by_cases q : opn (tset w h o p gs a m i) b = true
      · rw [if_pos q, if_pos q, w64 (by omega) (by omega)]
      · have em : (m + (i : Int)).toNat = m.toNat + i := by omega
        rw [if_neg q, if_neg q, w64 (x := m + (i : Int)) (by omega) (by omega), spec_l29Maze_eq T (by omega) (by omega), Option.bind_some, em]
        simp only
        rw [spec_l29Next_eq B (by omega), Option.bind_some, w64 (x := (i : Int) + 1) (by omega) (by omega), w64 (x := (qu : Int) + 1) (by omega) (by omega)]
        have e : nxt w h (otAt (((m.toNat + i) % p.toNat : Nat) : Int) gs o) (tset w h o p gs a m i) = tset w h o p gs a m (i + 1) := rfl
        rw [e]
        have q' : opn (tset w h o p gs a m i) b = false := by simpa using q
        by_cases eq : tset w h o p gs a m (i + 1) = tset w h o p gs a m i
        · rw [if_pos eq]
          have := spec_ear T h0 h5 ha hb n (i + 1) k' (qu + 1) (by omega) (by omega) (by omega) (fun j h1 h2 => by
            by_cases e2 : j = i + 1
            · rw [e2]
            · rw [HQ j (by omega) (by omega), eq]) (fun _ => by rw [eq]; exact q')
          rw [Int.natCast_add, Int.natCast_add] at this
          exact this
        · rw [if_neg eq]
          have := spec_ear T h0 h5 ha hb n (i + 1) k' 0 (by omega) (by omega) (by omega) (fun j h1 h2 => by
            obtain rfl : j = i + 1 := by omega
            rfl) (fun z => absurd z (by decide))
          rw [Int.natCast_add] at this
          exact this
    · rw [if_neg (by simpa using hq)]
      have hp : p.toNat ≤ qu := by omega
      have st := still (w := w) (h := h) (o := o) (p := p) (a := a) (m := m) (gs := gs) p1 (i := i) (by omega) (fun j h1 h2 => HQ j (by omega) h2)
      rw [ear_none (n + 1) i (fun j hj => by
        have := st (j - i)
        rw [show i + (j - i) = j by omega] at this
        rw [this]
        exact HO (by omega))]
def early (w h o p : Int) (gs : List SGate) (a m b : Int) : Int :=
  if (tmok w h o p gs && icell w h a && icell w h b && decide (0 ≤ m ∧ m ≤ 500)) = true then ear (tset w h o p gs a m) m b 201 0 else -1
theorem impl_EarliestAt_eq (w h o p : Int) (gs : List SGate) (a m b : Int) : impl_EarliestAt.f w h o p gs a m b = some (early w h o p gs a m b) := by
  unfold impl_EarliestAt.f early
  rw [impl_TimedOk_eq (by decide), Option.bind_some]
  by_cases T : tmok w h o p gs = true
  · have M := (tmok_iff T).1
    rw [if_pos T, impl_isIn_eq, Option.bind_some]
    by_cases C : (icell w h a && icell w h b) = true
    · simp only [Bool.and_eq_true] at C
      rw [if_pos (by simp [M, C.1, C.2])]
      by_cases h0 : m < 0
      · rw [if_pos h0, if_neg (show ¬ (tmok w h o p gs && icell w h a && icell w h b && decide (0 ≤ m ∧ m ≤ 500)) = true by simp; intros; omega)]
      · rw [if_neg h0]
        by_cases h5 : m > 500
        · rw [if_pos h5, if_neg (show ¬ (tmok w h o p gs && icell w h a && icell w h b && decide (0 ≤ m ∧ m ≤ 500)) = true by simp; intros; omega)]
        · have a1 := icell_iff.1 C.1
          have b1 := icell_iff.1 C.2
          have hc := cells_bd w h
          rw [if_neg h5, if_pos (show (0 ≤ a ∧ a < 16) ∧ 0 ≤ b ∧ b < 16 by omega), if_pos (by simp [T, C.1, C.2]; omega)]
          have := impl_ear (a := a) (m := m) T (by omega) (by omega) C.2 201 0 300 [a] (by decide) (by decide) (rel_start C.1)
          simpa using this
    · rw [if_neg (by simpa [M] using C), if_neg (by simp only [Bool.and_eq_true] at C; simp; intro _ x y; exact absurd ⟨x, y⟩ C)]
  · rw [if_neg T, if_neg (by simp [T])]
theorem spec_EarliestAt_eq {k : Nat} (hk : 1000 ≤ k) (w h o p : Int) (gs : List SGate) (a m b : Int) : spec_EarliestAt.f k w h o p gs a m b = some (early w h o p gs a m b) := by
  obtain ⟨k', rfl⟩ : ∃ k', k = k' + 1 := ⟨k - 1, by omega⟩
  have e : spec_EarliestAt.f (k' + 1) w h o p gs a m b = spec_EarliestAt.j0 (k' + 1) a m b (!(tmok w h o p gs && icell w h a && icell w h b && decide (0 ≤ m ∧ m ≤ 500))) w h o p gs := by
    unfold spec_EarliestAt.f
    rw [spec_TimedOk_eq (by omega), Option.bind_some]
    by_cases T : tmok w h o p gs = true
    · have M := (tmok_iff T).1
      rw [if_pos T, spec_l04Has_eq, Option.bind_some, M, Bool.true_and]
      by_cases c1 : icell w h a = true
      · rw [if_pos c1, spec_l04Has_eq, Option.bind_some, M, Bool.true_and]
        by_cases c2 : icell w h b = true
        · rw [if_pos c2, spec_l01In_eq, Option.bind_some, T, c1, c2]
          rfl
        · rw [if_neg c2]; simp [c2]
      · rw [if_neg c1]; simp [c1]
    · rw [if_neg T]; simp [T]
  rw [e]
  simp only [spec_EarliestAt.j0]
  unfold early
  by_cases H : (tmok w h o p gs && icell w h a && icell w h b && decide (0 ≤ m ∧ m ≤ 500)) = true
  · rw [if_neg (by simp only [H]; decide), if_pos H]
    simp only [Bool.and_eq_true, decide_eq_true_eq] at H
    obtain ⟨⟨⟨T, c1⟩, c2⟩, h0, h5⟩ := H
    have a1 := icell_iff.1 c1
    have hc := cells_bd w h
    have es : shl .i64 1 a = tset w h o p gs a m 0 := by
      have := shl_one (g := a.toNat) (by omega)
      rwa [show ((a.toNat : Nat) : Int) = a by omega] at this
    rw [if_pos a1.1, es]
    exact spec_ear T h0 h5 c1 c2 201 0 k' 0 (by decide) (by omega) (Nat.le_refl _) (fun j h1 h2 => by have e0 : j = 0 := (by omega); subst e0; rfl) (fun z => absurd z (by decide))
  · rw [if_pos (by simp only [Bool.not_eq_true] at H; simp only [H]; rfl), if_neg H]
def canF (w h o p : Int) (gs : List SGate) (a0 a1 b0 b1 : Int) : Bool := decide (0 ≤ early w h o p gs a1 a0 b1 ∧ early w h o p gs a1 a0 b1 ≤ b0)
theorem impl_CanFollow_eq (w h o p : Int) (gs : List SGate) (a0 a1 b0 b1 : Int) : impl_CanFollow.f w h o p gs a0 a1 b0 b1 = some (canF w h o p gs a0 a1 b0 b1) := by
  unfold impl_CanFollow.f canF
  rw [impl_EarliestAt_eq, Option.bind_some]
  by_cases q : early w h o p gs a1 a0 b1 ≥ 0
  · rw [if_pos q]; simp [q]
  · rw [if_neg q]; simp; omega
theorem spec_CanFollow_eq {k : Nat} (hk : 1000 ≤ k) (w h o p : Int) (gs : List SGate) (a0 a1 b0 b1 : Int) : spec_CanFollow.f k w h o p gs a0 a1 b0 b1 = some (canF w h o p gs a0 a1 b0 b1) := by
  unfold spec_CanFollow.f canF
  rw [spec_EarliestAt_eq hk, Option.bind_some]
  by_cases q : early w h o p gs a1 a0 b1 ≥ 0
  · rw [if_pos q]; simp [q]
  · rw [if_neg q]; simp; omega
end Go.Proofs.Ytpeehicekddjhaa.F
end

section
namespace Go.Proofs.Ytpeehicekddjhaa.F
open Go.RowKit Go.Proofs.YtpeehicekddjhaaW.PrintWords Go.Proofs.YtpeehicekddjhaaW.PrintLast Go.Proofs.YtpeehicekddjhaaW.PrintMore
set_option linter.unusedVariables false
set_option linter.unusedSimpArgs false
def ints (n : Nat) : List Int := (List.range n).map fun (j : Nat) => (j : Int)
theorem ints_succ (n : Nat) : ints (n + 1) = ints n ++ [(n : Int)] := by
  unfold ints
  rw [List.range_succ, List.map_append]
  rfl
theorem ints_length (n : Nat) : (ints n).length = n := by simp [ints]
theorem mem_ints {n : Nat} {x : Int} : x ∈ ints n ↔ 0 ≤ x ∧ x < n := by
  unfold ints
  rw [List.mem_map]
  constructor
  · rintro ⟨j, hj, rfl⟩
    rw [List.mem_range] at hj
    omega
  · intro h
    exact ⟨x.toNat, by rw [List.mem_range]; omega, by omega⟩
theorem impl_upTo_eq {n k : Nat} (hn : n ≤ 1000) (hk : n + 1 ≤ k) : impl_upTo.f k (n : Int) = some (ints n) := by
  unfold impl_upTo.f
  obtain ⟨s, hs, e⟩ := inv_loop (F := fun k (s : List Int) i => impl_upTo.l0 k (n : Int) s i) (n := n) (c := 0) (fin := fun s => s) (I := fun s i => s = ints i)
    (fun k s i _ hi hs => ⟨ints (i + 1), rfl, by
      subst hs
      simp only [impl_upTo.l0]
      rw [if_pos (by omega), if_pos (by rw [ints_length]; omega), ints_succ, w64 (by omega) (by omega)]⟩)
    (fun k s _ hs => by
      simp only [impl_upTo.l0]
      rw [if_neg (by omega)]) n 0 k [] (by omega) (by omega) rfl
  subst hs
  exact e
def reach (w h o a : Int) : List Int := (ints (stN w h)).filter fun c => !decide (dst w h o a c < 0)
theorem stN_int (w h : Int) : ((stN w h : Nat) : Int) = cells w h := by have := cells_bd w h; unfold stN; omega
theorem stN_le (w h : Int) : stN w h ≤ 16 := by have := cells_bd w h; unfold stN; omega
theorem dst_self {w h o a : Int} (ha : icell w h a = true) : dst w h o a a = 0 := by
  have ca := icell_iff.1 ha
  exact (dists_spec (steps_st w h o) (a := a) ca.1 (by rw [stN_int]; exact ca.2)).2.1
theorem reach_self {w h o a : Int} (ha : icell w h a = true) : a ∈ reach w h o a := by
  have ca := icell_iff.1 ha
  unfold reach
  rw [List.mem_filter, mem_ints, dst_self ha, stN_int]
  exact ⟨ca, rfl⟩
theorem reach_pos {w h o a : Int} (ha : icell w h a = true) : 0 < (reach w h o a).length := List.length_pos_of_mem (reach_self ha)
def pstep (w h o : Int) (n : Int) (i : Nat) : Int := if rd (reach w h o (i : Int)) 0 = (i : Int) then n + 1 else n
def parts (w h o : Int) : Int := if mok w h o = true then (List.range' 0 (stN w h)).foldl (pstep w h o) 0 else 0
def conn (w h o : Int) : Bool := parts w h o == 1
theorem conn_mok {w h o : Int} (H : conn w h o = true) : mok w h o = true := by
  unfold conn parts at H
  by_cases M : mok w h o = true
  · exact M
  · rw [if_neg M] at H; cases H
end Go.Proofs.Ytpeehicekddjhaa.F
end

section
namespace Go.Proofs.Ytpeehicekddjhaa.F
open Go.RowKit Go.Proofs.YtpeehicekddjhaaW.PrintWords Go.Proofs.YtpeehicekddjhaaW.PrintLast Go.Proofs.YtpeehicekddjhaaW.PrintMore
set_option linter.unusedVariables false
set_option linter.unusedSimpArgs false
theorem canF_mok {w h o p a0 a1 b0 b1 : Int} {gs : List SGate} (H : canF w h o p gs a0 a1 b0 b1 = true) : mok w h o = true := by
  unfold canF at H
  simp only [decide_eq_true_eq] at H
  have h1 := H.1
  unfold early at h1
  split at h1
  · rename_i q
    simp only [Bool.and_eq_true] at q
    exact (tmok_iff q.1.1.1).1
  · exact absurd h1 (by decide)
def btw (w h o p : Int) (gs : List SGate) (a0 a1 b0 b1 m : Int) : List Int :=
  if (canF w h o p gs a0 a1 b0 b1 && decide (a0 < m ∧ m < b0)) = true then (ints (stN w h)).filter fun x => canF w h o p gs a0 a1 m x && canF w h o p gs m x b0 b1 else []
theorem impl_btw1 (w h o p : Int) (gs : List SGate) (a0 a1 b0 b1 m x : Int) : impl_BetweenCells.l0 w h o p gs a0 a1 b0 b1 m x = some (!(canF w h o p gs a0 a1 m x && canF w h o p gs m x b0 b1)) := by
  unfold impl_BetweenCells.l0
  rw [impl_CanFollow_eq, Option.bind_some]
  by_cases c : canF w h o p gs a0 a1 m x = true
  · rw [if_pos c, impl_CanFollow_eq, Option.bind_some, c, Bool.true_and]
  · rw [if_neg c]; simp [c]
theorem impl_BetweenCells_eq (w h o p : Int) (gs : List SGate) (a0 a1 b0 b1 m : Int) : impl_BetweenCells.f w h o p gs a0 a1 b0 b1 m = some (btw w h o p gs a0 a1 b0 b1 m) := by
  unfold impl_BetweenCells.f btw
  rw [impl_CanFollow_eq, Option.bind_some]
  by_cases C : canF w h o p gs a0 a1 b0 b1 = true
  · rw [if_pos C, C, Bool.true_and]
    by_cases q1 : m ≤ a0
    · rw [if_pos q1, if_neg (by simp; intro; omega)]
    · rw [if_neg q1]
      by_cases q2 : m ≥ b0
      · rw [if_pos q2, if_neg (by simp; intro; omega)]
      · rw [if_neg q2]
        have hN := stN_int w h
        have hL := stN_le w h
        have M := canF_mok C
        have g := mok_iff.1 M
        have hpos : 0 < stN w h := by
          have := gok_iff.1 g.1
          have h1 : 0 < w * h := Int.mul_pos (by omega) (by omega)
          have h2 : cells w h = w * h := by unfold cells; rw [if_pos g.1]
          omega
        rw [impl_CountCells_eq, Option.bind_some, ← hN, impl_upTo_eq (by omega) (by omega), Option.bind_some, if_pos, if_pos (by simp; omega)]
        · congr 1
          refine List.filter_congr fun x _ => ?_
          rw [impl_btw1]
          simp
        · refine ⟨List.all_eq_true.2 fun x hx => by rw [impl_btw1]; rfl, by rw [ints_length]; exact hpos⟩
  · rw [if_neg C, if_neg (by simp [C])]
end Go.Proofs.Ytpeehicekddjhaa.F
end

section
namespace Go.Proofs.Ytpeehicekddjhaa.F
open Go.RowKit Go.Proofs.YtpeehicekddjhaaW.PrintWords Go.Proofs.YtpeehicekddjhaaW.PrintLast Go.Proofs.YtpeehicekddjhaaW.PrintMore
set_option linter.unusedVariables false
set_option linter.unusedSimpArgs false
def ffr (w h o p : Int) (gs : List SGate) (l : List SEntry) : Nat → Nat → Int
  | 0, _ => -1
  | n + 1, i => if canF w h o p gs (l.getD (i - 1) zEntry).f0 (l.getD (i - 1) zEntry).f1 (l.getD i zEntry).f0 (l.getD i zEntry).f1 = true then ffr w h o p gs l n (i + 1) else (i : Int)
def ffl (w h o p : Int) (gs : List SGate) (l : List SEntry) : Int := if rcok w h o p gs l = true then ffr w h o p gs l (l.length - 1) 1 else -1
theorem ffr_cases (w h o p : Int) (gs : List SGate) (l : List SEntry) : ∀ n i, ffr w h o p gs l n i = -1 ∨ 0 ≤ ffr w h o p gs l n i
  | 0, i => Or.inl rfl
  | n + 1, i => by
    unfold ffr
    split
    · exact ffr_cases w h o p gs l n (i + 1)
    · exact Or.inr (by omega)
theorem ffl_cases (w h o p : Int) (gs : List SGate) (l : List SEntry) : ffl w h o p gs l = -1 ∨ 0 ≤ ffl w h o p gs l := by
  unfold ffl
  split
  · exact ffr_cases w h o p gs l _ _
  · exact Or.inl rfl
theorem impl_FirstFalse_eq {k : Nat} {l : List SEntry} (hl : l.length ≤ 1048576) (hk : l.length + 100 ≤ k) (w h o p : Int) (gs : List SGate) : impl_FirstFalse.f k w h o p gs l = some (ffl w h o p gs l) := by
  unfold impl_FirstFalse.f ffl
  rw [impl_RecordOk_eq hl (by omega), Option.bind_some]
  by_cases R : rcok w h o p gs l = true
  · rw [if_pos R, if_pos R]
    have key : ∀ (n i k : Nat), (i + n = l.length ∨ n = 0 ∧ l.length ≤ i) → 1 ≤ i → i ≤ 1048577 → n + 1 ≤ k → impl_FirstFalse.l0 k l (i : Int) w h o p gs = some (ffr w h o p gs l n i) := by
      intro n
      induction n with
      | zero =>
        intro i k hi h1 h2 hk
        obtain ⟨m, rfl⟩ : ∃ m, k = m + 1 := ⟨k - 1, by omega⟩
        simp only [impl_FirstFalse.l0, ffr]
        rw [if_neg (by omega)]
      | succ n ih =>
        intro i k hi h1 h2 hk
        obtain ⟨m, rfl⟩ : ∃ m, k = m + 1 := ⟨k - 1, by omega⟩
        simp only [impl_FirstFalse.l0, ffr]
        have e1 : (i : Int) - 1 = ((i - 1 : Nat) : Int) := by omega
        rw [if_pos (by omega), w64 (x := (i : Int) - 1) (by omega) (by omega), if_pos (by omega), if_pos (by omega), if_pos (by omega), impl_CanFollow_eq, Option.bind_some, w64 (x := (i : Int) + 1) (by omega) (by omega), e1]
        have := ih (i + 1) m (by omega) (by omega) (by omega) (by omega)
        rw [Int.natCast_add] at this
        show (if canF w h o p gs (l.getD (i - 1) zEntry).f0 (l.getD (i - 1) zEntry).f1 (l.getD i zEntry).f0 (l.getD i zEntry).f1 = true then _ else _) = _
        split
        · exact this
        · rfl
    exact key (l.length - 1) 1 k (by omega) (by omega) (by omega) (by omega)
  · rw [if_neg R, if_neg R]
theorem impl_IsTrueRecord_eq {k : Nat} {l : List SEntry} (hl : l.length ≤ 1048576) (hk : l.length + 100 ≤ k) (w h o p : Int) (gs : List SGate) : impl_IsTrueRecord.f k w h o p gs l = some (rcok w h o p gs l && decide (ffl w h o p gs l < 0)) := by
  unfold impl_IsTrueRecord.f
  rw [impl_RecordOk_eq hl (by omega), Option.bind_some]
  by_cases R : rcok w h o p gs l = true
  · rw [if_pos R, R, impl_FirstFalse_eq hl hk, Option.bind_some, Bool.true_and]
    rcases ffl_cases w h o p gs l with e | e
    · rw [e]; rfl
    · have h1 : (ffl w h o p gs l == -1) = false := beq_eq_false_iff_ne.2 (by omega)
      rw [h1, decide_eq_false (by omega)]
  · rw [if_neg R]; simp [R]
end Go.Proofs.Ytpeehicekddjhaa.F
end

section
namespace Go.Proofs.Ytpeehicekddjhaa.F
open Go.RowKit Go.Proofs.YtpeehicekddjhaaW.PrintWords Go.Proofs.YtpeehicekddjhaaW.PrintLast Go.Proofs.YtpeehicekddjhaaW.PrintMore
set_option linter.unusedVariables false
set_option linter.unusedSimpArgs false
def gen (w h : Int) (M : Nat → Int) (S : Int) : Nat → Int
  | 0 => S
  | i + 1 => nxt w h (M i) (gen w h M S i)
def bit (a : Int) : Int := ((2 ^ a.toNat : Nat) : Int)
theorem opn_bit {a y : Int} (ha : 0 ≤ a) (hy : 0 ≤ y) : opn (bit a) y = true ↔ y = a := by
  unfold opn bit
  rw [Int.toNat_natCast, Nat.testBit_two_pow, decide_eq_true_eq]
  omega
theorem nxt_iff {w h o S y : Int} (hy : 0 ≤ y) : opn (nxt w h o S) y = true ↔ opn S y = true ∨ ∃ i : Nat, i < stN w h ∧ opn S (i : Int) = true ∧ ∃ d : Nat, d < 4 ∧ 0 ≤ st w h o i d ∧ st w h o i d = y := by
  rw [opn_nxt hy, Bool.or_eq_true, List.any_eq_true]
  constructor
  · rintro (h | ⟨i, hi, h⟩)
    · exact Or.inl h
    · rw [Bool.and_eq_true, List.any_eq_true] at h
      obtain ⟨h1, d, hd, h2⟩ := h
      rw [List.mem_range'_1] at hi hd
      rw [decide_eq_true_eq] at h2
      exact Or.inr ⟨i, by omega, h1, d, by omega, h2⟩
  · rintro (h | ⟨i, hi, h1, d, hd, h2⟩)
    · exact Or.inl h
    · refine Or.inr ⟨i, List.mem_range'_1.2 (by omega), ?_⟩
      rw [Bool.and_eq_true, List.any_eq_true]
      exact ⟨h1, d, List.mem_range'_1.2 (by omega), decide_eq_true h2⟩
theorem gen_grow {w h y : Int} {M : Nat → Int} {S : Int} (hy : 0 ≤ y) (i : Nat) (H : opn (gen w h M S i) y = true) : opn (gen w h M S (i + 1)) y = true := (nxt_iff hy).2 (Or.inl H)
theorem gen_grows {w h y : Int} {M : Nat → Int} {S : Int} (hy : 0 ≤ y) (i : Nat) (H : opn (gen w h M S i) y = true) : ∀ n, opn (gen w h M S (i + n)) y = true
  | 0 => H
  | n + 1 => gen_grow hy (i + n) (gen_grows hy i H n)
theorem gen_mono {w h : Int} {M : Nat → Int} {S S' : Int} (H : ∀ y : Int, 0 ≤ y → opn S y = true → opn S' y = true) : ∀ (i : Nat) (y : Int), 0 ≤ y → opn (gen w h M S i) y = true → opn (gen w h M S' i) y = true
  | 0, y, hy, h => H y hy h
  | i + 1, y, hy, h => by
    rcases (nxt_iff hy).1 h with h | ⟨x, hx, h1, h2⟩
    · exact (nxt_iff hy).2 (Or.inl (gen_mono H i y hy h))
    · exact (nxt_iff hy).2 (Or.inr ⟨x, hx, gen_mono H i x (by omega) h1, h2⟩)
theorem gen_add {w h : Int} {M : Nat → Int} {S : Int} (i : Nat) : ∀ j, gen w h M S (i + j) = gen w h (fun n => M (i + n)) (gen w h M S i) j
  | 0 => rfl
  | j + 1 => by
    show nxt w h (M (i + j)) (gen w h M S (i + j)) = nxt w h (M (i + j)) _
    rw [gen_add i j]
theorem gen_from {w h : Int} {M : Nat → Int} {S : Int} : ∀ (i : Nat) (y : Int), 0 ≤ y → opn (gen w h M S i) y = true → ∃ x : Int, 0 ≤ x ∧ opn S x = true ∧ opn (gen w h M (bit x) i) y = true
  | 0, y, hy, h => ⟨y, hy, h, (opn_bit hy hy).2 rfl⟩
  | i + 1, y, hy, h => by
    rcases (nxt_iff hy).1 h with h | ⟨z, hz, h1, h2⟩
    · obtain ⟨x, a, b, c⟩ := gen_from i y hy h
      exact ⟨x, a, b, gen_grow hy i c⟩
    · obtain ⟨x, a, b, c⟩ := gen_from i z (by omega) h1
      exact ⟨x, a, b, (nxt_iff hy).2 (Or.inr ⟨z, hz, c, h2⟩)⟩
def mzs (o p : Int) (gs : List SGate) (m : Int) (n : Nat) : Int := otAt (((m.toNat + n) % p.toNat : Nat) : Int) gs o
theorem tset_gen (w h o p : Int) (gs : List SGate) (a m : Int) : ∀ i, tset w h o p gs a m i = gen w h (mzs o p gs m) (bit a) i
  | 0 => rfl
  | i + 1 => by
    show nxt w h _ (tset w h o p gs a m i) = nxt w h _ _
    rw [tset_gen w h o p gs a m i]
    rfl
theorem mzs_add {o p m : Int} {gs : List SGate} (h0 : 0 ≤ m) (i : Nat) : (fun n => mzs o p gs m (i + n)) = mzs o p gs (m + (i : Int)) := by
  funext n
  unfold mzs
  rw [show (m + (i : Int)).toNat = m.toNat + i by omega, Nat.add_assoc]
theorem tset_add {w h o p m : Int} {gs : List SGate} (a : Int) (h0 : 0 ≤ m) (i j : Nat) : tset w h o p gs a m (i + j) = gen w h (mzs o p gs (m + (i : Int))) (tset w h o p gs a m i) j := by
  rw [tset_gen, tset_gen, gen_add, mzs_add h0]
theorem tset_cell {w h o p m a y : Int} {gs : List SGate} (ha : icell w h a = true) (hy : 0 ≤ y) (i : Nat) (H : opn (tset w h o p gs a m i) y = true) : icell w h y = true := by
  have : ∀ i, ∃ S, Rel w h S (tset w h o p gs a m i) := by
    intro i
    induction i with
    | zero => exact ⟨_, rel_start ha⟩
    | succ i ih =>
      obtain ⟨S, R⟩ := ih
      obtain ⟨S2, _, R2⟩ := rel_step (o := otAt (((m.toNat + i) % p.toNat : Nat) : Int) gs o) R
      exact ⟨S2, R2⟩
  obtain ⟨S, R⟩ := this i
  exact R.2.1 y ((R.2.2 y hy).2 H)
theorem countP_lt {p q : Nat → Bool} : ∀ (l : List Nat), (∀ x ∈ l, p x = true → q x = true) → (∃ x ∈ l, q x = true ∧ p x = false) → l.countP p < l.countP q
  | [], _, ⟨x, h, _⟩ => nomatch h
  | a :: l, H, ⟨x, hx, h1, h2⟩ => by
    have Hl : l.countP p ≤ l.countP q := List.countP_mono_left fun x hx h => H x (List.mem_cons_of_mem _ hx) h
    rw [List.countP_cons, List.countP_cons]
    rcases List.mem_cons.1 hx with rfl | hx
    · rw [if_neg (by simp [h2]), if_pos h1]; omega
    · have := countP_lt l (fun x hx h => H x (List.mem_cons_of_mem _ hx) h) ⟨x, hx, h1, h2⟩
      have ha := H a (List.mem_cons_self ..)
      by_cases pa : p a = true
      · rw [if_pos pa, if_pos (ha pa)]; omega
      · rw [if_neg pa]; omega
theorem tset_cap {w h o p a m : Int} {gs : List SGate} (p1 : 1 ≤ p) (p6 : p ≤ 6) (ha : icell w h a = true) : ∀ k : Nat, k + 1 ≤ ((List.range 16).countP fun x : Nat => opn (tset w h o p gs a m (6 * k)) (x : Int)) ∨ ∃ i, i ≤ 6 * k ∧ ∀ n, tset w h o p gs a m (i + n) = tset w h o p gs a m i
  | 0 => by
    refine Or.inl ?_
    have c := icell_iff.1 ha
    have b := cells_bd w h
    refine List.countP_pos_iff.2 ⟨a.toNat, List.mem_range.2 (by omega), ?_⟩
    have : ((a.toNat : Nat) : Int) = a := by omega
    rw [this]
    exact (opn_bit c.1 c.1).2 rfl
  | k + 1 => by
    rcases tset_cap (o := o) (gs := gs) (m := m) p1 p6 ha k with H | ⟨i, hi, H⟩
    · have gr : ∀ i n y : Nat, opn (tset w h o p gs a m i) (y : Int) = true → opn (tset w h o p gs a m (i + n)) (y : Int) = true := by
        intro i n y h
        rw [tset_gen] at h ⊢
        exact gen_grows (Int.natCast_nonneg y) i h n
      by_cases e : ∃ x ∈ List.range 16, opn (tset w h o p gs a m (6 * k + 6)) (x : Int) = true ∧ opn (tset w h o p gs a m (6 * k)) (x : Int) = false
      · refine Or.inl ?_
        have := countP_lt (p := fun x : Nat => opn (tset w h o p gs a m (6 * k)) (x : Int)) (q := fun x : Nat => opn (tset w h o p gs a m (6 * k + 6)) (x : Int)) (List.range 16) (fun x _ hx => gr (6 * k) 6 x hx) e
        show k + 1 + 1 ≤ (List.range 16).countP fun x : Nat => opn (tset w h o p gs a m (6 * k + 6)) (x : Int)
        omega
      · refine Or.inr ⟨6 * k + 6, by omega, still p1 (by omega) fun j h1 h2 => ?_⟩
        have B := fun i => tset_b16 (w := w) (h := h) (o := o) (p := p) (gs := gs) (m := m) ha i
        refine eq_of_opn (B j).1 (B (6 * k + 6)).1 fun y hy => ?_
        by_cases y16 : y < 16
        · have ey : ((y.toNat : Nat) : Int) = y := by omega
          have up : opn (tset w h o p gs a m j) y = true → opn (tset w h o p gs a m (6 * k + 6)) y = true := by
            intro q
            have := gr j (6 * k + 6 - j) y.toNat (by rw [ey]; exact q)
            rwa [ey, show j + (6 * k + 6 - j) = 6 * k + 6 by omega] at this
          have dn : opn (tset w h o p gs a m (6 * k + 6)) y = true → opn (tset w h o p gs a m j) y = true := by
            intro q
            have h0 : opn (tset w h o p gs a m (6 * k)) y = true := by
              cases z : opn (tset w h o p gs a m (6 * k)) y with
              | true => rfl
              | false => exact absurd ⟨y.toNat, List.mem_range.2 (by omega), by rw [ey]; exact q, by rw [ey]; exact z⟩ e
            have := gr (6 * k) (j - 6 * k) y.toNat (by rw [ey]; exact h0)
            rwa [ey, show 6 * k + (j - 6 * k) = j by omega] at this
          cases z1 : opn (tset w h o p gs a m j) y <;> cases z2 : opn (tset w h o p gs a m (6 * k + 6)) y <;> simp_all
        · have big : ∀ x, b16 x → opn x y = false := by
            intro x hx
            unfold opn
            refine Nat.testBit_lt_two_pow (Nat.lt_of_lt_of_le (show x.toNat < 2 ^ 16 from ?_) (Nat.pow_le_pow_right (by decide) (by omega)))
            have := hx.1
            have := hx.2
            omega
          rw [big _ (B j), big _ (B _)]
    · exact Or.inr ⟨i, by omega, H⟩
theorem tset_soon {w h o p a m y : Int} {gs : List SGate} (p1 : 1 ≤ p) (p6 : p ≤ 6) (ha : icell w h a = true) (j : Nat) (H : opn (tset w h o p gs a m j) y = true) : ∃ i, i ≤ 200 ∧ i ≤ j ∧ opn (tset w h o p gs a m i) y = true := by
  by_cases hj : j ≤ 200
  · exact ⟨j, hj, Nat.le_refl _, H⟩
  · rcases tset_cap (w := w) (h := h) (o := o) (m := m) (gs := gs) p1 p6 ha 16 with c | ⟨i, hi, e⟩
    · have := List.countP_le_length (p := fun x : Nat => opn (tset w h o p gs a m (6 * 16)) (x : Int)) (l := List.range 16)
      rw [List.length_range] at this
      omega
    · refine ⟨i, by omega, by omega, ?_⟩
      have := e (j - i)
      rw [show i + (j - i) = j by omega] at this
      rwa [this] at H
theorem ear_at {T : Nat → Int} {m b : Int} : ∀ (n i j : Nat), i ≤ j → j < i + n → opn (T j) b = true → ∃ q : Nat, q ≤ j ∧ ear T m b n i = m + q
  | 0, i, j, h1, h2, H => by omega
  | n + 1, i, j, h1, h2, H => by
    unfold ear
    by_cases c : opn (T i) b = true
    · rw [if_pos c]; exact ⟨i, h1, rfl⟩
    · rw [if_neg c]
      have : i ≠ j := fun e => c (e ▸ H)
      exact ear_at n (i + 1) j (by omega) (by omega) H
theorem ear_of {T : Nat → Int} {m b : Int} : ∀ (n i : Nat), 0 ≤ ear T m b n i → ∃ j : Nat, j < i + n ∧ opn (T j) b = true ∧ ear T m b n i = m + j
  | 0, i, H => by simp [ear] at H
  | n + 1, i, H => by
    unfold ear at H ⊢
    by_cases c : opn (T i) b = true
    · rw [if_pos c]; exact ⟨i, by omega, c, rfl⟩
    · rw [if_neg c] at H ⊢
      obtain ⟨j, h1, h2⟩ := ear_of n (i + 1) H
      exact ⟨j, by omega, h2⟩
theorem canF_iff {w h o p : Int} {gs : List SGate} {a0 a1 b0 b1 : Int} : canF w h o p gs a0 a1 b0 b1 = true ↔ tmok w h o p gs = true ∧ icell w h a1 = true ∧ icell w h b1 = true ∧ (0 ≤ a0 ∧ a0 ≤ 500) ∧ ∃ j : Nat, opn (tset w h o p gs a1 a0 j) b1 = true ∧ a0 + j ≤ b0 := by
  unfold canF early
  rw [decide_eq_true_eq]
  by_cases C : (tmok w h o p gs && icell w h a1 && icell w h b1 && decide (0 ≤ a0 ∧ a0 ≤ 500)) = true
  · rw [if_pos C]
    simp only [Bool.and_eq_true, decide_eq_true_eq] at C
    obtain ⟨⟨⟨T, c1⟩, c2⟩, h0⟩ := C
    have pp := tmok_iff T
    constructor
    · rintro ⟨h1, h2⟩
      obtain ⟨j, q1, q2, q3⟩ := ear_of _ _ h1
      exact ⟨T, c1, c2, h0, j, q2, by omega⟩
    · rintro ⟨_, _, _, _, j, h1, h2⟩
      obtain ⟨i, i1, i2, i3⟩ := tset_soon pp.2.1 pp.2.2.1 c1 j h1
      obtain ⟨q, q1, q2⟩ := ear_at (m := a0) (b := b1) 201 0 i (Nat.zero_le _) (by omega) i3
      rw [q2]
      omega
  · rw [if_neg C]
    constructor
    · rintro ⟨h1, _⟩; exact absurd h1 (by decide)
    · rintro ⟨T, c1, c2, h0, _⟩
      exact absurd (by simp only [Bool.and_eq_true, decide_eq_true_eq]; exact ⟨⟨⟨T, c1⟩, c2⟩, h0⟩) C
theorem canF_trans {w h o p : Int} {gs : List SGate} {a0 a1 b0 b1 c0 c1 : Int} (H : canF w h o p gs a0 a1 b0 b1 = true) (K : canF w h o p gs b0 b1 c0 c1 = true) : canF w h o p gs a0 a1 c0 c1 = true := by
  obtain ⟨T, ca, cb, h0, j, h1, h2⟩ := canF_iff.1 H
  obtain ⟨_, _, cc, k0, i, k1, k2⟩ := canF_iff.1 K
  have bc := icell_iff.1 cb
  have c1p := icell_iff.1 cc
  refine canF_iff.2 ⟨T, ca, cc, h0, (b0 - a0).toNat + i, ?_, by omega⟩
  rw [tset_add a1 h0.1, show a0 + (((b0 - a0).toNat : Nat) : Int) = b0 by omega]
  rw [tset_gen] at k1
  refine gen_mono (fun y hy q => ?_) i c1 c1p.1 k1
  rw [(opn_bit bc.1 hy).1 q]
  have := h1
  rw [tset_gen] at this ⊢
  have := gen_grows bc.1 j this ((b0 - a0).toNat - j)
  rwa [show j + ((b0 - a0).toNat - j) = (b0 - a0).toNat by omega] at this
theorem canF_between {w h o p : Int} {gs : List SGate} {a0 a1 b0 b1 : Int} (H : canF w h o p gs a0 a1 b0 b1 = true) (hb : a0 + 1 < b0) (b5 : b0 ≤ 500) : ∃ x, icell w h x = true ∧ canF w h o p gs a0 a1 (a0 + 1) x = true ∧ canF w h o p gs (a0 + 1) x b0 b1 = true := by
  obtain ⟨T, ca, cb, h0, j, h1, h2⟩ := canF_iff.1 H
  have ac := icell_iff.1 ca
  have bc := icell_iff.1 cb
  cases j with
  | zero =>
    have e : b1 = a1 := (opn_bit ac.1 bc.1).1 h1
    subst e
    exact ⟨b1, ca, canF_iff.2 ⟨T, ca, ca, h0, 0, h1, by omega⟩, canF_iff.2 ⟨T, ca, ca, by omega, 0, h1, by omega⟩⟩
  | succ j =>
    rw [show j + 1 = 1 + j by omega, tset_add a1 h0.1] at h1
    obtain ⟨x, x0, x1, x2⟩ := gen_from j b1 bc.1 h1
    have cx := tset_cell ca x0 1 x1
    refine ⟨x, cx, canF_iff.2 ⟨T, ca, cx, h0, 1, x1, by omega⟩, canF_iff.2 ⟨T, cx, cb, by omega, j, ?_, by omega⟩⟩
    rw [tset_gen]
    exact x2
theorem ffr_true {w h o p : Int} {gs : List SGate} {l : List SEntry} : ∀ n i, ffr w h o p gs l n i = -1 → ∀ j, i ≤ j → j < i + n → canF w h o p gs (l.getD (j - 1) zEntry).f0 (l.getD (j - 1) zEntry).f1 (l.getD j zEntry).f0 (l.getD j zEntry).f1 = true
  | 0, i, H, j, h1, h2 => by omega
  | n + 1, i, H, j, h1, h2 => by
    unfold ffr at H
    by_cases c : canF w h o p gs (l.getD (i - 1) zEntry).f0 (l.getD (i - 1) zEntry).f1 (l.getD i zEntry).f0 (l.getD i zEntry).f1 = true
    · rw [if_pos c] at H
      by_cases e : j = i
      · subst e; exact c
      · exact ffr_true n (i + 1) H j (by omega) (by omega)
    · rw [if_neg c] at H; omega
theorem ffr_false {w h o p : Int} {gs : List SGate} {l : List SEntry} : ∀ n i, ffr w h o p gs l n i ≠ -1 → ∃ j, i ≤ j ∧ j < i + n ∧ ffr w h o p gs l n i = (j : Int) ∧ canF w h o p gs (l.getD (j - 1) zEntry).f0 (l.getD (j - 1) zEntry).f1 (l.getD j zEntry).f0 (l.getD j zEntry).f1 = false
  | 0, i, H => absurd rfl H
  | n + 1, i, H => by
    unfold ffr at H ⊢
    by_cases c : canF w h o p gs (l.getD (i - 1) zEntry).f0 (l.getD (i - 1) zEntry).f1 (l.getD i zEntry).f0 (l.getD i zEntry).f1 = true
    · rw [if_pos c] at H ⊢
      obtain ⟨j, h1, h2, h3⟩ := ffr_false n (i + 1) H
      exact ⟨j, by omega, by omega, h3⟩
    · rw [if_neg c]
      exact ⟨i, Nat.le_refl _, by omega, rfl, by simpa using c⟩
theorem chain {w h o p : Int} {gs : List SGate} {l : List SEntry} (R : rcok w h o p gs l = true) (F : ffl w h o p gs l = -1) : ∀ j, j + 1 < l.length → canF w h o p gs (l.getD 0 zEntry).f0 (l.getD 0 zEntry).f1 (l.getD (j + 1) zEntry).f0 (l.getD (j + 1) zEntry).f1 = true := by
  unfold ffl at F
  rw [if_pos R] at F
  have A := ffr_true _ _ F
  intro j
  induction j with
  | zero => intro hj; exact A 1 (Nat.le_refl _) (by omega)
  | succ j ih =>
    intro hj
    exact canF_trans (ih (by omega)) (A (j + 2) (by omega) (by omega))
theorem rcok_at {w h o p : Int} {gs : List SGate} {l : List SEntry} (R : rcok w h o p gs l = true) {i : Nat} (hi : i < l.length) : recp w h l i = true := by
  unfold rcok at R
  simp only [Bool.and_eq_true, List.all_eq_true] at R
  exact R.1 i (List.mem_range.2 hi)
theorem rcok_order {w h o p : Int} {gs : List SGate} {l : List SEntry} (R : rcok w h o p gs l = true) : ∀ j, j + 1 < l.length → (l.getD 0 zEntry).f0 < (l.getD (j + 1) zEntry).f0 ∧ (l.getD (j + 1) zEntry).f0 ≤ 500 := by
  have A : ∀ j, j + 1 < l.length → (l.getD j zEntry).f0 < (l.getD (j + 1) zEntry).f0 ∧ (l.getD (j + 1) zEntry).f0 ≤ 500 := by
    intro j hj
    have := rcok_at R hj
    unfold recp at this
    simp only [Bool.and_eq_true, Bool.or_eq_true, decide_eq_true_eq] at this
    obtain ⟨⟨⟨_, q1⟩, _⟩, q2⟩ := this
    have e : ((j + 1 : Nat) : Int) - 1 = (j : Int) := by omega
    rw [e] at q2
    have q3 : (rd_Entry l (j : Int)).f0 < (rd_Entry l ((j + 1 : Nat) : Int)).f0 := by
      rcases q2 with q | q
      · exact absurd q (by omega)
      · exact q
    exact ⟨q3, q1⟩
  intro j
  induction j with
  | zero => intro hj; exact A 0 hj
  | succ j ih =>
    intro hj
    have h1 := ih (by omega)
    have h2 := A (j + 1) hj
    exact ⟨by omega, h2.2⟩
theorem btw_head {w h o p : Int} {gs : List SGate} {a0 a1 b0 b1 : Int} (H : canF w h o p gs a0 a1 b0 b1 = true) (hb : a0 + 1 < b0) (b5 : b0 ≤ 500) : 0 < (btw w h o p gs a0 a1 b0 b1 (a0 + 1)).length ∧ canF w h o p gs a0 a1 (a0 + 1) (rd (btw w h o p gs a0 a1 b0 b1 (a0 + 1)) 0) = true := by
  obtain ⟨x, c, h1, h2⟩ := canF_between H hb b5
  unfold btw
  rw [H, Bool.true_and, if_pos (by simp only [decide_eq_true_eq]; omega)]
  have cx := icell_iff.1 c
  have m : x ∈ ((ints (stN w h)).filter fun x => canF w h o p gs a0 a1 (a0 + 1) x && canF w h o p gs (a0 + 1) x b0 b1) := by
    rw [List.mem_filter]
    refine ⟨?_, by rw [h1, h2]; rfl⟩
    unfold ints
    exact List.mem_map.2 ⟨x.toNat, List.mem_range.2 (by unfold stN; omega), by omega⟩
  generalize el : ((ints (stN w h)).filter fun x => canF w h o p gs a0 a1 (a0 + 1) x && canF w h o p gs (a0 + 1) x b0 b1) = l at m
  have hp : 0 < l.length := List.length_pos_of_mem m
  refine ⟨hp, ?_⟩
  have : rd l 0 ∈ l := rd_memI (Int.le_refl _) (by omega)
  generalize rd l 0 = z at this ⊢
  rw [← el, List.mem_filter, Bool.and_eq_true] at this
  exact this.2.1
end Go.Proofs.Ytpeehicekddjhaa.F
end

section
namespace Go.Proofs.Ytpeehicekddjhaa.F
open Go.RowKit Go.Proofs.YtpeehicekddjhaaW.PrintWords Go.Proofs.YtpeehicekddjhaaW.PrintLast Go.Proofs.YtpeehicekddjhaaW.PrintMore
set_option linter.unusedVariables false
set_option linter.unusedSimpArgs false
def lnk (w h o a b : Int) : Prop := ∃ n, Walk (st w h o) a n b
theorem lnk_refl (w h o a : Int) : lnk w h o a a := ⟨0, Walk.nil⟩
theorem lnk_symm {w h o a b : Int} (H : lnk w h o a b) : lnk w h o b a := by
  obtain ⟨n, H⟩ := H
  exact ⟨n, Walk.rev (steps_st w h o) (sym_st w h o) H⟩
theorem lnk_trans {w h o a b c : Int} (H : lnk w h o a b) (K : lnk w h o b c) : lnk w h o a c := by
  obtain ⟨n, H⟩ := H
  obtain ⟨m, K⟩ := K
  exact ⟨n + m, H.trans K⟩
theorem lnk_step {w h o a d : Int} (H : 0 ≤ st w h o a d) : lnk w h o a (st w h o a d) := ⟨1, Walk.snoc Walk.nil H⟩
theorem dst_lnk {w h o a b : Int} (ha : icell w h a = true) (hb : icell w h b = true) : 0 ≤ dst w h o a b ↔ lnk w h o a b := by
  have ca := icell_iff.1 ha
  have cb := icell_iff.1 hb
  have hN := stN_int w h
  obtain ⟨_, _, p⟩ := dists_spec (steps_st w h o) (a := a) ca.1 (by omega)
  unfold dst lnk
  rcases p b cb.1 (by omega) with ⟨e, n1⟩ | ⟨g1, w1, m1⟩
  · rw [e]
    exact ⟨fun z => absurd z (by decide), fun ⟨n, z⟩ => absurd z (n1 n)⟩
  · exact ⟨fun _ => ⟨_, w1⟩, fun _ => g1⟩
theorem st_more {w h o o2 c d : Int} (M : mok w h o2 = true) (hs : ∀ g, 0 ≤ g → opn o g = true → opn o2 g = true) (H : 0 ≤ st w h o c d) : st w h o2 c d = st w h o c d := by
  obtain ⟨e, p⟩ := st_nb H
  rw [e]
  unfold psg at p
  simp only [Bool.and_eq_true] at p
  have g0 := (igap_iff.1 p.1.2).1
  have : psg w h o2 (gp w h c d) = true := by
    unfold psg
    rw [M, p.1.2, hs _ g0 p.2]; rfl
  unfold st
  rw [if_pos this]
theorem lnk_more {w h o o2 a b : Int} (M : mok w h o2 = true) (hs : ∀ g, 0 ≤ g → opn o g = true → opn o2 g = true) (H : lnk w h o a b) : lnk w h o2 a b := by
  obtain ⟨n, H⟩ := H
  refine ⟨n, ?_⟩
  induction H with
  | nil => exact Walk.nil
  | snoc _ hd ih =>
    have e := st_more M hs hd
    rw [← e]
    exact Walk.snoc ih (by rw [e]; exact hd)
def first (w h o i : Int) : Int := rd (reach w h o i) 0
theorem ints_sorted (n : Nat) : (ints n).Pairwise (· < ·) := by
  unfold ints
  exact List.pairwise_map.2 (List.pairwise_lt_range.imp fun h => by omega)
theorem mem_reach {w h o i x : Int} (hi : icell w h i = true) : x ∈ reach w h o i ↔ icell w h x = true ∧ lnk w h o i x := by
  unfold reach
  rw [List.mem_filter, mem_ints, stN_int]
  constructor
  · intro ⟨h1, h2⟩
    have hx : icell w h x = true := icell_iff.2 h1
    refine ⟨hx, (dst_lnk hi hx).1 ?_⟩
    simpa using h2
  · intro ⟨h1, h2⟩
    refine ⟨icell_iff.1 h1, ?_⟩
    have := (dst_lnk hi h1).2 h2
    simpa using this
theorem first_spec {w h o i : Int} (hi : icell w h i = true) : icell w h (first w h o i) = true ∧ lnk w h o i (first w h o i) ∧ ∀ x, icell w h x = true → lnk w h o i x → first w h o i ≤ x := by
  have hp := reach_pos (o := o) hi
  have hm : first w h o i ∈ reach w h o i := rd_memI (Int.le_refl _) (by omega)
  obtain ⟨h1, h2⟩ := (mem_reach hi).1 hm
  refine ⟨h1, h2, fun x hx hl => ?_⟩
  have hxm := (mem_reach hi).2 ⟨hx, hl⟩
  have hs : (reach w h o i).Pairwise (· < ·) := (ints_sorted _).sublist List.filter_sublist
  unfold first
  cases e : reach w h o i with
  | nil => rw [e] at hp; exact absurd hp (by simp)
  | cons y ys =>
    rw [e] at hs hxm
    have : rd (y :: ys) 0 = y := rfl
    rw [this]
    rcases List.mem_cons.1 hxm with rfl | hz
    · exact Int.le_refl _
    · exact Int.le_of_lt ((List.pairwise_cons.1 hs).1 x hz)
theorem foldl_pstep (w h o : Int) : ∀ (l : List Nat) (n : Int), l.foldl (pstep w h o) n = n + (l.countP fun (i : Nat) => first w h o (i : Int) == (i : Int) : Nat)
  | [], n => by simp
  | i :: l, n => by
    rw [List.foldl_cons, foldl_pstep w h o l, List.countP_cons]
    unfold pstep
    by_cases c : rd (reach w h o (i : Int)) 0 = (i : Int)
    · rw [if_pos c, if_pos (by simpa [first] using c)]
      omega
    · rw [if_neg c, if_neg (by simpa [first] using c)]
      omega
theorem cells_pos {w h : Int} (G : gok w h = true) : 1 ≤ cells w h := by
  unfold cells
  rw [if_pos G]
  exact (gok_mul G).1
theorem icell_zero {w h : Int} (G : gok w h = true) : icell w h 0 = true := icell_iff.2 ⟨Int.le_refl _, by have := cells_pos G; omega⟩
theorem conn_iff {w h o : Int} : conn w h o = true ↔ mok w h o = true ∧ ∀ x, icell w h x = true → lnk w h o 0 x := by
  constructor
  · intro H
    have M := conn_mok H
    have G := (mok_iff.1 M).1
    have h0 := icell_zero G
    have hN := stN_int w h
    have hc := cells_pos G
    refine ⟨M, ?_⟩
    unfold conn parts at H
    rw [if_pos M, foldl_pstep] at H
    obtain ⟨m, hm⟩ : ∃ m, stN w h = m + 1 := ⟨stN w h - 1, by omega⟩
    rw [hm, List.range'_succ, List.countP_cons] at H
    have f0 : first w h o 0 = 0 := by
      obtain ⟨a, _, b⟩ := first_spec (o := o) h0
      have := b 0 h0 (lnk_refl _ _ _ _)
      have := icell_iff.1 a
      omega
    rw [if_pos (by simpa using f0)] at H
    have hz : (List.range' (0 + 1) m).countP (fun (i : Nat) => first w h o (i : Int) == (i : Int)) = 0 := by
      simp only [beq_iff_eq] at H
      omega
    rw [List.countP_eq_zero] at hz
    have key : ∀ (n : Nat) (x : Int), x.toNat ≤ n → icell w h x = true → lnk w h o 0 x := by
      intro n
      induction n with
      | zero =>
        intro x hx hc
        have := icell_iff.1 hc
        obtain rfl : x = 0 := by omega
        exact lnk_refl _ _ _ _
      | succ n ih =>
        intro x hx hc
        have cx := icell_iff.1 hc
        by_cases x0 : x = 0
        · rw [x0]; exact lnk_refl _ _ _ _
        obtain ⟨a, b, c⟩ := first_spec (o := o) hc
        have h1 := c x hc (lnk_refl _ _ _ _)
        have h2 := hz x.toNat (by rw [List.mem_range'_1]; omega)
        rw [show ((x.toNat : Nat) : Int) = x by omega] at h2
        have h3 : first w h o x ≠ x := by simpa using h2
        have ca := icell_iff.1 a
        exact lnk_trans (ih _ (by omega) a) (lnk_symm b)
    exact fun x hx => key _ x (Nat.le_refl _) hx
  · intro ⟨M, H⟩
    have G := (mok_iff.1 M).1
    have h0 := icell_zero G
    have hN := stN_int w h
    have hc := cells_pos G
    unfold conn parts
    rw [if_pos M, foldl_pstep]
    obtain ⟨m, hm⟩ : ∃ m, stN w h = m + 1 := ⟨stN w h - 1, by omega⟩
    have f0 : ∀ x, icell w h x = true → first w h o x = 0 := fun x hx => by
      obtain ⟨a, _, b⟩ := first_spec (o := o) hx
      have := b 0 h0 (lnk_symm (H x hx))
      have := icell_iff.1 a
      omega
    rw [hm, List.range'_succ, List.countP_cons, if_pos (by simpa using f0 0 h0)]
    have hz : (List.range' (0 + 1) m).countP (fun (i : Nat) => first w h o (i : Int) == (i : Int)) = 0 := by
      rw [List.countP_eq_zero]
      intro i hi
      rw [List.mem_range'_1] at hi
      rw [f0 i (icell_iff.2 (by omega))]
      simp
      omega
    rw [hz]
    rfl
end Go.Proofs.Ytpeehicekddjhaa.F
end

section
namespace Go.Proofs.Ytpeehicekddjhaa.F
open Go.RowKit Go.Proofs.YtpeehicekddjhaaW.PrintWords Go.Proofs.YtpeehicekddjhaaW.PrintLast Go.Proofs.YtpeehicekddjhaaW.PrintMore
set_option linter.unusedVariables false
set_option linter.unusedSimpArgs false
theorem and_mask (x : Int) (m : Nat) (hm : m < 2 ^ 63) : 0 ≤ Go.bits .and .i64 x (m : Int) ∧ Go.bits .and .i64 x (m : Int) ≤ m := by
  have hm' : m % 2 ^ 64 = m := Nat.mod_eq_of_lt (by omega)
  have e : Go.bits .and .i64 x (m : Int) = IntKind.i64.wrap (((BitVec.ofInt 64 x &&& BitVec.ofInt 64 (m : Int)).toNat : Nat) : Int) := rfl
  have h : (BitVec.ofInt 64 x &&& BitVec.ofInt 64 (m : Int)).toNat ≤ m := by
    rw [BitVec.ofInt_natCast, BitVec.toNat_and, BitVec.toNat_ofNat, hm']
    exact Nat.and_le_right
  rw [e, wrapi_nat (by omega)]
  omega
theorem byte_draw {l : List Int} {i h : Int} (hi : 0 ≤ i) (hl : l.length ≤ 1048576) : ∃ b i' h', spec_l01Byte.f l i h = some (b, i', h') ∧ 0 ≤ b ∧ b ≤ 255 ∧ 0 ≤ i' := by
  unfold spec_l01Byte.f
  by_cases c : i < (l.length : Int)
  · rw [if_pos c, if_pos hi]
    exact ⟨_, _, _, rfl, (and_mask _ 255 (by decide)).1, (and_mask _ 255 (by decide)).2, by rw [w64 (by omega) (by omega)]; omega⟩
  · rw [if_neg c]
    exact ⟨_, _, _, rfl, (and_mask _ 255 (by decide)).1, (and_mask _ 255 (by decide)).2, hi⟩
theorem below_draw {l : List Int} {i h n : Int} (hi : 0 ≤ i) (hl : l.length ≤ 1048576) (hn : 1 ≤ n) (hn2 : n ≤ 256) : ∃ b i' h', spec_l01Below.f l i h n = some (b, i', h') ∧ 0 ≤ b ∧ b < n ∧ 0 ≤ i' := by
  obtain ⟨b, i', h', e, h0, h1, h2⟩ := byte_draw (h := h) hi hl
  unfold spec_l01Below.f
  rw [if_neg (by omega), if_pos hn2, e, Option.bind_some, if_neg (by omega)]
  exact ⟨_, _, _, rfl, Int.tmod_nonneg _ h0, Int.tmod_lt_of_pos _ (by omega), h2⟩
theorem new_draw {k : Nat} {l : List Int} (hl : l.length ≤ 1048576) (hk : l.length + 1 ≤ k) : ∃ h, spec_l01New.f k l = some (l, 0, h) := by
  unfold spec_l01New.f
  obtain ⟨s, _, e⟩ := inv_loop (n := min l.length 4000) (c := 0) (F := fun k (s : Int) i => spec_l01New.l0 k l s i) (fin := fun s => (l, (0 : Int), s)) (I := fun _ _ => True)
    (fun k s i _ hi _ => ⟨_, trivial, by
      simp only [spec_l01New.l0]
      rw [if_pos (by omega), if_pos (by omega), if_pos (by omega), w64_succ hi (by omega)]⟩)
    (fun k s _ _ => by
      simp only [spec_l01New.l0]
      by_cases c : ((min l.length 4000 : Nat) : Int) < (l.length : Int)
      · rw [if_pos c, if_neg (by omega)]
      · rw [if_neg c]) (min l.length 4000) 0 k _ (by omega) (by omega) trivial
  exact ⟨s, e⟩
end Go.Proofs.Ytpeehicekddjhaa.F
end

section
namespace Go.Proofs.Ytpeehicekddjhaa.F
open Go.RowKit Go.Proofs.YtpeehicekddjhaaW.PrintWords Go.Proofs.YtpeehicekddjhaaW.PrintLast Go.Proofs.YtpeehicekddjhaaW.PrintMore
set_option linter.unusedVariables false
set_option linter.unusedSimpArgs false
def pcn (n m : Nat) : Nat := (List.range m).countP fun i => n.testBit i
end Go.Proofs.Ytpeehicekddjhaa.F
end

section
namespace Go.Proofs.Ytpeehicekddjhaa.F
open Go.RowKit Go.Proofs.YtpeehicekddjhaaW.PrintWords Go.Proofs.YtpeehicekddjhaaW.PrintLast Go.Proofs.YtpeehicekddjhaaW.PrintMore
set_option linter.unusedVariables false
set_option linter.unusedSimpArgs false
def ends (w h g : Int) : Int × Int := (spec_EndsOf.f w h g).getD (0, 0)
def four : List Int := [1, 2, 3, 4]
def gaps24 : List Int := [0, 1, 2, 3, 4, 5, 6, 7, 8, 9, 10, 11, 12, 13, 14, 15, 16, 17, 18, 19, 20, 21, 22, 23]
theorem ends_all : ∀ w ∈ four, ∀ h ∈ four, ∀ g ∈ gaps24, igap w h g = true → spec_EndsOf.f w h g = some (ends w h g) ∧ icell w h (ends w h g).1 = true ∧ icell w h (ends w h g).2 = true ∧ (nb w h (ends w h g).1 1 = (ends w h g).2 ∧ gp w h (ends w h g).1 1 = g ∨ nb w h (ends w h g).1 2 = (ends w h g).2 ∧ gp w h (ends w h g).1 2 = g) := by
  decide +kernel
theorem down_all : ∀ w ∈ four, ∀ h ∈ four, ∀ c ∈ cells16, icell w h c = true → c ≠ 0 → ∃ g ∈ gaps24, igap w h g = true ∧ (ends w h g).2 = c ∧ (ends w h g).1 < c := by
  decide +kernel
theorem mem_four {w h : Int} (G : gok w h = true) : w ∈ four ∧ h ∈ four := by
  have := gok_iff.1 G
  constructor <;> simp [four] <;> omega
theorem mem_gaps24 {w h g : Int} (H : igap w h g = true) : g ∈ gaps24 := by
  have := gaps_small H
  simp [gaps24]; omega
theorem ends_spec {w h g : Int} (G : gok w h = true) (H : igap w h g = true) : spec_EndsOf.f w h g = some (ends w h g) ∧ icell w h (ends w h g).1 = true ∧ icell w h (ends w h g).2 = true ∧ (nb w h (ends w h g).1 1 = (ends w h g).2 ∧ gp w h (ends w h g).1 1 = g ∨ nb w h (ends w h g).1 2 = (ends w h g).2 ∧ gp w h (ends w h g).1 2 = g) :=
  ends_all w (mem_four G).1 h (mem_four G).2 g (mem_gaps24 H) H
theorem ends_down {w h c : Int} (G : gok w h = true) (H : icell w h c = true) (h0 : c ≠ 0) : ∃ g, igap w h g = true ∧ (ends w h g).2 = c ∧ (ends w h g).1 < c := by
  have cb := icell_iff.1 H
  have b := cells_bd w h
  obtain ⟨g, _, r⟩ := down_all w (mem_four G).1 h (mem_four G).2 c (by simp [cells16]; omega) H h0
  exact ⟨g, r⟩
theorem lnk_gap {w h o g : Int} (M : mok w h o = true) (H : igap w h g = true) (ho : opn o g = true) : lnk w h o (ends w h g).1 (ends w h g).2 := by
  have G := (mok_iff.1 M).1
  obtain ⟨_, h1, h2, h3⟩ := ends_spec G H
  have c2 := icell_iff.1 h2
  have hp : psg w h o g = true := by unfold psg; rw [M, H, ho]; rfl
  rcases h3 with ⟨a, b⟩ | ⟨a, b⟩
  · have e : st w h o (ends w h g).1 1 = (ends w h g).2 := by unfold st; rw [b, if_pos hp, a]
    have := lnk_step (w := w) (h := h) (o := o) (a := (ends w h g).1) (d := 1) (by rw [e]; exact c2.1)
    rwa [e] at this
  · have e : st w h o (ends w h g).1 2 = (ends w h g).2 := by unfold st; rw [b, if_pos hp, a]
    have := lnk_step (w := w) (h := h) (o := o) (a := (ends w h g).1) (d := 2) (by rw [e]; exact c2.1)
    rwa [e] at this
theorem countP_one {α : Type} [DecidableEq α] {p q : α → Bool} {x : α} (hp : p x = false) (hq : q x = true) (he : ∀ y, y ≠ x → p y = q y) : ∀ {l : List α}, l.Nodup → x ∈ l → l.countP q = l.countP p + 1
  | [], _, h => absurd h (by simp)
  | y :: l, hn, h => by
    rw [List.nodup_cons] at hn
    rw [List.countP_cons, List.countP_cons]
    by_cases e : y = x
    · subst e
      have : l.countP q = l.countP p := by
        rw [List.countP_eq_length_filter, List.countP_eq_length_filter]
        congr 1
        refine List.filter_congr fun z hz => (he z ?_).symm
        rintro rfl
        exact hn.1 hz
      rw [hp, hq, this]
      simp
    · have hx : x ∈ l := by
        rcases List.mem_cons.1 h with h | h
        · exact absurd h.symm e
        · exact h
      rw [countP_one hp hq he hn.2 hx, he y e]
      omega
theorem pcn_setb {o g : Int} (h0 : 0 ≤ g) (h1 : g < 24) (ho : opn o g = false) : pcn (setb o g true).toNat 24 = pcn o.toNat 24 + 1 := by
  unfold pcn
  refine countP_one (x := g.toNat) ?_ ?_ (fun y hy => ?_) List.nodup_range (by rw [List.mem_range]; omega)
  · exact ho
  · have := opn_setb (o := o) true h0 h0
    rw [if_pos rfl] at this
    exact this
  · have := opn_setb (o := o) (i := (y : Int)) true h0 (by omega)
    rw [if_neg (by omega)] at this
    unfold opn at this
    simp only [Int.toNat_natCast] at this
    exact this.symm
theorem rd_map {P : List Int} {f : Int → Int} {x : Int} (h0 : 0 ≤ x) (h1 : x < P.length) : rd (P.map f) x = f (rd P x) := by
  obtain ⟨n, rfl⟩ := Int.eq_ofNat_of_zero_le h0
  have hn : n < P.length := by omega
  rw [rd_nat, rd_nat, List.getD_eq_getElem?_getD, List.getD_eq_getElem?_getD, List.getElem?_map, List.getElem?_eq_getElem hn]
  rfl
structure TI_p (w h o : Int) (P : List Int) : Prop where
  len : P.length = stN w h
  rng : ∀ x, icell w h x = true → icell w h (rd P x) = true ∧ rd P (rd P x) = rd P x
  lk : ∀ x y, icell w h x = true → icell w h y = true → rd P x = rd P y → lnk w h o x y
  ok : mok w h o = true
  op : ∀ g, igap w h g = true → opn o g = true → rd P (ends w h g).1 = rd P (ends w h g).2
  cnt : pcn o.toNat 24 + (ints (stN w h)).countP (fun x => rd P x == x) = stN w h
theorem rd_ints {n : Nat} {x : Int} (h0 : 0 ≤ x) (h1 : x < n) : rd (ints n) x = x := by
  obtain ⟨m, rfl⟩ := Int.eq_ofNat_of_zero_le h0
  have hm : m < n := by omega
  rw [rd_nat, List.getD_eq_getElem?_getD]
  unfold ints
  rw [List.getElem?_map, List.getElem?_range hm]
  rfl
theorem ti_init {w h : Int} (G : gok w h = true) : TI_p w h 0 (ints (stN w h)) := by
  have hN := stN_int w h
  have hr : ∀ x, icell w h x = true → rd (ints (stN w h)) x = x := fun x hx => by
    have := icell_iff.1 hx
    exact rd_ints this.1 (by omega)
  refine ⟨ints_length _, fun x hx => ?_, fun x y hx hy e => ?_, ?_, fun g _ ho => ?_, ?_⟩
  · rw [hr x hx]; exact ⟨hx, hr x hx⟩
  · rw [hr x hx, hr y hy] at e; rw [e]; exact lnk_refl _ _ _ _
  · refine mok_iff.2 ⟨G, Int.le_refl _, ?_⟩
    have := gpow w h
    omega
  · unfold opn at ho; simp at ho
  · have e : (ints (stN w h)).countP (fun x => rd (ints (stN w h)) x == x) = (ints (stN w h)).length := by
      rw [List.countP_eq_length]
      intro x hx
      have := mem_ints.1 hx
      rw [rd_ints this.1 this.2]
      simp
    rw [e, ints_length]
    have : pcn (0 : Int).toNat 24 = 0 := by decide
    omega
def sub1 (old new v : Int) : Int := if v = old then new else v
theorem sub1_pos {old new v : Int} (h : v = old) : sub1 old new v = new := by unfold sub1; rw [if_pos h]
theorem sub1_neg {old new v : Int} (h : v ≠ old) : sub1 old new v = v := by unfold sub1; rw [if_neg h]
theorem ti_step {w h o g : Int} {P : List Int} (T : TI_p w h o P) (H : igap w h g = true) (hne : rd P (ends w h g).1 ≠ rd P (ends w h g).2) : TI_p w h (setb o g true) (P.map (sub1 (rd P (ends w h g).2) (rd P (ends w h g).1))) := by
  have G := (mok_iff.1 T.ok).1
  obtain ⟨_, ca, cb, _⟩ := ends_spec G H
  have hg := gaps_small H
  have M' := mok_setb true T.ok H
  have hN := stN_int w h
  have hin : ∀ x, icell w h x = true → 0 ≤ x ∧ x < P.length := fun x hx => by have := icell_iff.1 hx; have := T.len; omega
  have hr : ∀ x, icell w h x = true → rd (P.map (sub1 (rd P (ends w h g).2) (rd P (ends w h g).1))) x = sub1 (rd P (ends w h g).2) (rd P (ends w h g).1) (rd P x) := fun x hx => rd_map (hin x hx).1 (hin x hx).2
  have more : ∀ j, 0 ≤ j → opn o j = true → opn (setb o g true) j = true := fun j hj ho => by
    rw [opn_setb true hg.1 hj]
    split
    · rfl
    · exact ho
  have og : opn (setb o g true) g = true := by rw [opn_setb true hg.1 hg.1, if_pos rfl]
  have ab := lnk_gap M' H og
  obtain ⟨ra, ra2⟩ := T.rng _ ca
  obtain ⟨rb, rb2⟩ := T.rng _ cb
  generalize hA : rd P (ends w h g).1 = A at *
  generalize hB : rd P (ends w h g).2 = B at *
  refine ⟨by rw [List.length_map]; exact T.len, fun x hx => ?_, fun x y hx hy e => ?_, M', fun j hj ho => ?_, ?_⟩
  · obtain ⟨r1, r2⟩ := T.rng x hx
    rw [hr x hx]
    by_cases c : rd P x = B
    · rw [sub1_pos c]
      refine ⟨ra, ?_⟩
      rw [hr _ ra, ra2, sub1_neg hne]
    · rw [sub1_neg c]
      refine ⟨r1, ?_⟩
      rw [hr _ r1, r2, sub1_neg c]
  · rw [hr x hx, hr y hy] at e
    have lm : ∀ x y, icell w h x = true → icell w h y = true → rd P x = rd P y → lnk w h (setb o g true) x y := fun x y hx hy e => lnk_more M' more (T.lk x y hx hy e)
    unfold sub1 at e
    by_cases c1 : rd P x = B <;> by_cases c2 : rd P y = B
    · exact lm x y hx hy (c1.trans c2.symm)
    · rw [if_pos c1, if_neg c2] at e
      exact lnk_trans (lm _ _ hx cb (c1.trans hB.symm)) (lnk_trans (lnk_symm ab) (lm _ _ ca hy (hA.trans e)))
    · rw [if_neg c1, if_pos c2] at e
      exact lnk_trans (lm _ _ hx ca (e.trans hA.symm)) (lnk_trans ab (lm _ _ cb hy (hB.trans c2.symm)))
    · rw [if_neg c1, if_neg c2] at e
      exact lm x y hx hy e
  · obtain ⟨_, c1, c2, _⟩ := ends_spec G hj
    rw [hr _ c1, hr _ c2]
    rw [opn_setb true hg.1 (igap_iff.1 hj).1] at ho
    by_cases e : j = g
    · subst e
      rw [hA, hB]
      unfold sub1
      rw [if_neg hne, if_pos rfl]
    · rw [if_neg e] at ho
      rw [T.op j hj ho]
  · have ho : opn o g = false := by
      cases e : opn o g with
      | false => rfl
      | true => exact absurd (by have := T.op g H e; rw [hA, hB] at this; exact this) hne
    rw [pcn_setb hg.1 hg.2 ho]
    have hb := icell_iff.1 rb
    have key := countP_one (p := fun x => rd (P.map (sub1 B A)) x == x) (q := fun x => rd P x == x) (x := B) (l := ints (stN w h)) ?_ ?_ ?_ (by
      unfold ints
      exact List.pairwise_map.2 (List.nodup_range.imp fun h e => h (by omega))) (mem_ints.2 ⟨hb.1, by omega⟩)
    · have := T.cnt
      omega
    · show (rd (P.map (sub1 B A)) B == B) = false
      rw [hr _ rb, rb2]
      unfold sub1
      rw [if_pos rfl]
      simpa using hne
    · show (rd P B == B) = true
      rw [rb2]; simp
    · intro y hy
      show (rd (P.map (sub1 B A)) y == y) = (rd P y == y)
      by_cases cy : icell w h y = true
      · rw [hr y cy]
        unfold sub1
        by_cases c : rd P y = B
        · rw [if_pos c]
          have h1 : A ≠ y := by
            rintro rfl
            exact hne (ra2.symm.trans c)
          have h2 : rd P y ≠ y := by rw [c]; exact fun e => hy e.symm
          rw [beq_eq_false_iff_ne.2 h1, beq_eq_false_iff_ne.2 h2]
        · rw [if_neg c]
      · have hl : P.length = (P.map (sub1 B A)).length := by simp
        by_cases hy0 : 0 ≤ y
        · have hy1 : P.length ≤ y.toNat := by
            have h1 : ¬ (0 ≤ y ∧ y < cells w h) := fun z => cy (icell_iff.2 z)
            have := T.len
            omega
          unfold rd
          rw [List.getD_eq_getElem?_getD, List.getD_eq_getElem?_getD, List.getElem?_eq_none (by rw [List.length_map]; exact hy1), List.getElem?_eq_none hy1]
        · have ht : y.toNat = 0 := by omega
          have e0 : ∀ L : List Int, rd L y = rd L 0 := fun L => by unfold rd; rw [ht]; rfl
          have c0 := icell_zero G
          have n1 : ∀ z, icell w h z = true → (z == y) = false := fun z hz => by
            have := icell_iff.1 hz
            rw [beq_eq_false_iff_ne]; omega
          rw [e0, e0, n1 _ (T.rng 0 c0).1, hr 0 c0]
          unfold sub1
          split
          · exact n1 _ ra
          · exact n1 _ (T.rng 0 c0).1
theorem ti_end {w h o : Int} {P : List Int} (T : TI_p w h o P) (H : ∀ g, igap w h g = true → rd P (ends w h g).1 = rd P (ends w h g).2) : conn w h o = true ∧ ((pcn o.toNat 24 : Nat) : Int) = cells w h - 1 := by
  have G := (mok_iff.1 T.ok).1
  have c0 := icell_zero G
  have hN := stN_int w h
  have key : ∀ (n : Nat) (x : Int), x.toNat ≤ n → icell w h x = true → rd P x = rd P 0 := by
    intro n
    induction n with
    | zero =>
      intro x hx hc
      have := icell_iff.1 hc
      obtain rfl : x = 0 := by omega
      rfl
    | succ n ih =>
      intro x hx hc
      by_cases x0 : x = 0
      · rw [x0]
      · obtain ⟨g, hg, e1, e2⟩ := ends_down G hc x0
        obtain ⟨_, c1, _, _⟩ := ends_spec G hg
        have := icell_iff.1 c1
        rw [← e1, ← H g hg]
        exact ih _ (by omega) c1
  refine ⟨conn_iff.2 ⟨T.ok, fun x hx => T.lk 0 x c0 hx (key _ x (Nat.le_refl _) hx).symm⟩, ?_⟩
  have h1 : (ints (stN w h)).countP (fun x => rd P x == x) = 1 := by
    obtain ⟨r1, r2⟩ := T.rng 0 c0
    have cr := icell_iff.1 r1
    have e1 : (ints (stN w h)).countP (fun x => rd P x == x) = (ints (stN w h)).countP (fun x => x == rd P 0) := by
      rw [List.countP_eq_length_filter, List.countP_eq_length_filter]
      congr 1
      refine List.filter_congr fun x hx => ?_
      have hm := mem_ints.1 hx
      have hc : icell w h x = true := icell_iff.2 ⟨hm.1, by omega⟩
      rw [key _ x (Nat.le_refl _) hc, Bool.eq_iff_iff]
      simp only [beq_iff_eq]
      exact ⟨fun h => h.symm, fun h => h.symm⟩
    have e2 := countP_one (p := fun _ => false) (q := fun x => x == rd P 0) (x := rd P 0) (l := ints (stN w h)) rfl (by simp) (fun y hy => (beq_eq_false_iff_ne.2 hy).symm) (by
      unfold ints
      exact List.pairwise_map.2 (List.nodup_range.imp fun h e => h (by omega))) (mem_ints.2 ⟨cr.1, by omega⟩)
    rw [e1, e2]
    simp
  have := T.cnt
  omega
theorem or_shl_tr {o g : Int} (ho : 0 ≤ o) (h1 : o < 2 ^ 62) (hg : 0 ≤ g) (h2 : g < 62) : Go.bits .or .i64 o (shl .i64 1 g) = setb o g true := by
  obtain ⟨a, rfl⟩ := Int.eq_ofNat_of_zero_le ho
  obtain ⟨n, rfl⟩ := Int.eq_ofNat_of_zero_le hg
  have hp : (2 : Nat) ^ n < 2 ^ 63 := Nat.pow_lt_pow_right (by decide) (by omega)
  rw [shl_one (by omega), bits_or_i (by omega) hp]
  unfold setb
  rw [if_pos rfl]
  simp
theorem tree_l3 {w h o n f s a old new : Int} {i0 : Int} {l : List Int} {s1 s2 : Int} {P : List Int} (ha : 0 ≤ a ∧ a < P.length) (hA : rd P a = new) (hne : new ≠ old) (hP : P.length ≤ 100) : ∀ (t i k : Nat) (Q : List Int), i + t = P.length → t + 1 ≤ k → Q.length = P.length →
    (∀ j : Nat, j < P.length → rd Q (j : Int) = if j < i then sub1 old new (rd P (j : Int)) else rd P (j : Int)) →
    spec_l03Tree.l3 k n Q f s i0 a old (i : Int) l s1 s2 w h w h o = spec_l03Tree.l2 (k - t - 1) n (P.map (sub1 old new)) f s (wrap64 (i0 + 1)) l s1 s2 w h w h o
  | 0, i, k, Q, hi, hk, hl, hQ => by
    obtain ⟨m, rfl⟩ : ∃ m, k = m + 1 := ⟨k - 1, by omega⟩
    simp only [spec_l03Tree.l3]
    rw [if_neg (by omega)]
    have e : Q = P.map (sub1 old new) := by
      apply List.ext_getElem
      · rw [List.length_map, hl]
      · intro j h1 h2
        have := hQ j (by omega)
        rw [if_pos (by omega), rd_nat, rd_nat, List.getD_eq_getElem?_getD, List.getD_eq_getElem?_getD, List.getElem?_eq_getElem h1, List.getElem?_eq_getElem (by omega)] at this
        simpa using this
    rw [e]
    rfl
  | t + 1, i, k, Q, hi, hk, hl, hQ => by
    obtain ⟨m, rfl⟩ : ∃ m, k = m + 1 := ⟨k - 1, by omega⟩
    have hil : i < P.length := by omega
    have hi0 := hQ i hil
    rw [if_neg (Nat.lt_irrefl _)] at hi0
    have hqa : rd Q a = new := by
      obtain ⟨j, rfl⟩ := Int.eq_ofNat_of_zero_le ha.1
      rw [hQ j (by omega), hA]
      unfold sub1
      rw [if_neg hne]
      split <;> rfl
    simp only [spec_l03Tree.l3]
    rw [if_pos (by omega), if_pos (by omega), hi0, w64 (x := (i : Int) + 1) (by omega) (by omega)]
    have step : ∀ Q2 : List Int, Q2.length = P.length → (∀ j : Nat, j < P.length → rd Q2 (j : Int) = if j < i + 1 then sub1 old new (rd P (j : Int)) else rd P (j : Int)) → spec_l03Tree.l3 m n Q2 f s i0 a old ((i : Int) + 1) l s1 s2 w h w h o = spec_l03Tree.l2 (m + 1 - (t + 1) - 1) n (P.map (sub1 old new)) f s (wrap64 (i0 + 1)) l s1 s2 w h w h o := fun Q2 h1 h2 => by
      have := tree_l3 (w := w) (h := h) (o := o) (n := n) (f := f) (s := s) (i0 := i0) (l := l) (s1 := s1) (s2 := s2) ha hA hne hP t (i + 1) m Q2 (by omega) (by omega) h1 h2
      rw [Int.natCast_add] at this
      rw [show m + 1 - (t + 1) - 1 = m - t - 1 by omega]
      exact this
    by_cases c : rd P (i : Int) = old
    · rw [if_pos c, if_pos ha.1, if_pos (by omega), hqa]
      refine step _ (by simpa using hl) fun j hj => ?_
      rw [rd_set (by omega) (by omega) (by omega)]
      by_cases e : (j : Int) = (i : Int)
      · have e' : j = i := by omega
        subst e'
        rw [if_pos rfl, if_pos (by omega)]
        unfold sub1
        rw [if_pos c]
      · rw [if_neg e, hQ j hj]
        by_cases q : j < i
        · rw [if_pos q, if_pos (by omega)]
        · rw [if_neg q, if_neg (by omega)]
    · rw [if_neg c]
      refine step _ hl fun j hj => ?_
      rw [hQ j hj]
      by_cases e : j = i
      · subst e
        rw [if_neg (Nat.lt_irrefl _), if_pos (by omega)]
        unfold sub1
        rw [if_neg c]
      · by_cases q : j < i
        · rw [if_pos q, if_pos (by omega)]
        · rw [if_neg q, if_neg (by omega)]
def gapi (n f s i : Nat) : Int := (((f + i * s) % n : Nat) : Int)
theorem tree_l2 {w h : Int} {n f s : Nat} {l : List Int} {s1 s2 : Int} (G : gok w h = true) (hn : (n : Int) = gaps w h) (hn0 : 0 < n) (hf : f < n) (hs : s ≤ 25) : ∀ (t i k : Nat) (P : List Int) (o : Int), i + t = n → 30 * t + 30 ≤ k → TI_p w h o P → (∀ j, j < i → rd P (ends w h (gapi n f s j)).1 = rd P (ends w h (gapi n f s j)).2) →
    ∃ o' P', spec_l03Tree.l2 k (n : Int) P (f : Int) (s : Int) (i : Int) l s1 s2 w h w h o = some (w, h, o', s1, s2) ∧ TI_p w h o' P' ∧ ∀ j, j < n → rd P' (ends w h (gapi n f s j)).1 = rd P' (ends w h (gapi n f s j)).2
  | 0, i, k, P, o, hi, hk, T, hd => by
    obtain ⟨m, rfl⟩ : ∃ m, k = m + 1 := ⟨k - 1, by omega⟩
    refine ⟨o, P, ?_, T, fun j hj => hd j (by omega)⟩
    simp only [spec_l03Tree.l2]
    rw [if_neg (by omega)]
  | t + 1, i, k, P, o, hi, hk, T, hd => by
    obtain ⟨m, rfl⟩ : ∃ m, k = m + 1 := ⟨k - 1, by omega⟩
    have hb := gaps_bd w h
    have hN := stN_int w h
    have hN2 := stN_le w h
    have hl := T.len
    have hmul : i * s ≤ 24 * 25 := Nat.mul_le_mul (by omega) hs
    have e : Int.tmod (wrap64 ((f : Int) + wrap64 ((i : Int) * (s : Int)))) (n : Int) = gapi n f s i := by
      rw [show ((i : Int) * (s : Int)) = ((i * s : Nat) : Int) by simp, w64 (x := ((i * s : Nat) : Int)) (by omega) (by omega), w64 (by omega) (by omega)]
      rw [show ((f : Int) + ((i * s : Nat) : Int)) = ((f + i * s : Nat) : Int) by simp]
      unfold gapi
      rw [Int.tmod_eq_emod_of_nonneg (by omega)]
      rfl
    have hg : igap w h (gapi n f s i) = true := by
      rw [igap_iff, ← hn]
      have := Nat.mod_lt (f + i * s) hn0
      unfold gapi
      omega
    have gs := gaps_small hg
    obtain ⟨e1, c1, c2, _⟩ := ends_spec G hg
    have b1 := icell_iff.1 c1
    have b2 := icell_iff.1 c2
    have ms := mok_small T.ok
    simp only [spec_l03Tree.l2]
    rw [if_pos (by omega), if_neg (by omega), e, e1, Option.bind_some, if_pos b1.1, if_pos (by omega), if_pos b2.1, if_pos (by omega), w64 (x := (i : Int) + 1) (by omega) (by omega)]
    by_cases c : rd P (ends w h (gapi n f s i)).1 = rd P (ends w h (gapi n f s i)).2
    · rw [if_pos c]
      have := tree_l2 (l := l) (s1 := s1) (s2 := s2) G hn hn0 hf hs t (i + 1) m P o (by omega) (by omega) T (fun j hj => by
        by_cases q : j = i
        · rw [q]; exact c
        · exact hd j (by omega))
      rw [Int.natCast_add] at this
      exact this
    · rw [if_neg c, if_pos gs.1, or_shl_tr ms.1 (by omega) gs.1 (by omega)]
      have T' := ti_step T hg c
      have := tree_l3 (w := w) (h := h) (o := setb o (gapi n f s i) true) (n := n) (f := f) (s := s) (i0 := i) (l := l) (s1 := s1) (s2 := s2) (P := P) (a := (ends w h (gapi n f s i)).1) (old := rd P (ends w h (gapi n f s i)).2) (new := rd P (ends w h (gapi n f s i)).1) (by omega) rfl c (by omega) P.length 0 m P (by omega) (by omega) rfl (fun j hj => by rw [if_neg (Nat.not_lt_zero _)])
      have h3 : spec_l03Tree.l3 m (n : Int) P (f : Int) (s : Int) (i : Int) (ends w h (gapi n f s i)).1 (rd P (ends w h (gapi n f s i)).2) 0 l s1 s2 w h w h (setb o (gapi n f s i) true) = _ := this
      rw [h3, w64 (x := (i : Int) + 1) (by omega) (by omega)]
      have hmap : ∀ x, icell w h x = true → rd (P.map (sub1 (rd P (ends w h (gapi n f s i)).2) (rd P (ends w h (gapi n f s i)).1))) x = sub1 (rd P (ends w h (gapi n f s i)).2) (rd P (ends w h (gapi n f s i)).1) (rd P x) := fun x hx => by
        have := icell_iff.1 hx
        exact rd_map this.1 (by omega)
      have := tree_l2 (l := l) (s1 := s1) (s2 := s2) G hn hn0 hf hs t (i + 1) (m - P.length - 1) _ _ (by omega) (by omega) T' (fun j hj => by
        have hgj : igap w h (gapi n f s j) = true := by
          rw [igap_iff, ← hn]
          have := Nat.mod_lt (f + j * s) hn0
          unfold gapi
          omega
        obtain ⟨_, d1, d2, _⟩ := ends_spec G hgj
        rw [hmap _ d1, hmap _ d2]
        by_cases q : j = i
        · subst q
          unfold sub1
          rw [if_neg c, if_pos rfl]
        · rw [hd j (by omega)])
      rw [Int.natCast_add] at this
      exact this
def cop (s n : Int) : Option Bool := spec_l03Common.f 40 s n
def nats25 : List Nat := List.range 26
theorem cop_all : ∀ n ∈ nats25, ∀ s ∈ nats25, 0 < n → 0 < s → (cop (s : Int) (n : Int) = some true ∨ cop (s : Int) (n : Int) = some false ∧ ∃ v ∈ nats25, (v * s) % n = 1 % n) := by
  decide +kernel
theorem cop_next : ∀ n ∈ nats25, 0 < n → n ≤ 24 → cop ((n + 1 : Nat) : Int) (n : Int) = some false := by
  decide +kernel
theorem cop_more {k : Nat} {s n : Int} {b : Bool} (h : cop s n = some b) (hk : 40 ≤ k) : spec_l03Common.f k s n = some b :=
  at_rounds (g := fun k => spec_l03Common.f k s n) (fun k => spec_l03Common.mono s n k) (k := 40) hk h
theorem mod_reach {n f s v g : Nat} (hn : 0 < n) (hf : f < n) (hv : (v * s) % n = 1 % n) (hg : g < n) : ∃ i, i < n ∧ (f + i * s) % n = g := by
  refine ⟨((g + (n - f)) * v) % n, Nat.mod_lt _ hn, ?_⟩
  have e1 : (((g + (n - f)) * v) % n * s) % n = (g + (n - f)) % n := by
    rw [Nat.mod_mul_mod, Nat.mul_assoc, ← Nat.mul_mod_mod, hv, Nat.mul_mod_mod, Nat.mul_one]
  rw [← Nat.add_mod_mod, e1, Nat.add_mod_mod, show f + (g + (n - f)) = g + n by omega, Nat.add_mod_right, Nat.mod_eq_of_lt hg]
theorem tree_l1 {w h : Int} {n f : Nat} {l : List Int} {s1 s2 : Int} {P : List Int} (hn0 : 0 < n) (hn : n ≤ 24) : ∀ (t s k : Nat), s + t = n + 1 → 0 < s → t + 50 ≤ k →
    ∃ s' k', s' ≤ 25 ∧ k ≤ k' + t + 1 ∧ (∃ v, (v * s') % n = 1 % n) ∧ spec_l03Tree.l1 k (n : Int) P (f : Int) (s : Int) l s1 s2 w h w h 0 = spec_l03Tree.l2 k' (n : Int) P (f : Int) (s' : Int) 0 l s1 s2 w h w h 0
  | 0, s, k, hs, h0, hk => by
    obtain ⟨m, rfl⟩ : ∃ m, k = m + 1 := ⟨k - 1, by omega⟩
    obtain rfl : s = n + 1 := by omega
    have hc := cop_next n (by simp [nats25]; omega) hn0 hn
    have hv : ∃ v, (v * (n + 1)) % n = 1 % n := by
      rcases cop_all n (by simp [nats25]; omega) (n + 1) (by simp [nats25]; omega) hn0 (by omega) with h | ⟨_, v, _, h⟩
      · rw [hc] at h; exact absurd h (by decide)
      · exact ⟨v, h⟩
    refine ⟨n + 1, m, by omega, by omega, hv, ?_⟩
    simp only [spec_l03Tree.l1]
    rw [cop_more hc (by omega), Option.bind_some, if_neg Bool.false_ne_true]
  | t + 1, s, k, hs, h0, hk => by
    obtain ⟨m, rfl⟩ : ∃ m, k = m + 1 := ⟨k - 1, by omega⟩
    rcases cop_all n (by simp [nats25]; omega) s (by simp [nats25]; omega) hn0 h0 with hc | ⟨hc, v, _, hv⟩
    · obtain ⟨s', k', h1, h2, h3, h4⟩ := tree_l1 (w := w) (h := h) (f := f) (l := l) (s1 := s1) (s2 := s2) (P := P) hn0 hn t (s + 1) m (by omega) (by omega) (by omega)
      refine ⟨s', k', h1, by omega, h3, ?_⟩
      rw [← h4]
      simp only [spec_l03Tree.l1]
      rw [cop_more hc (by omega), Option.bind_some, if_pos rfl, w64 (by omega) (by omega)]
      rfl
    · refine ⟨s, m, by omega, by omega, ⟨v, hv⟩, ?_⟩
      simp only [spec_l03Tree.l1]
      rw [cop_more hc (by omega), Option.bind_some, if_neg Bool.false_ne_true]
theorem tree_l0 {w h n : Int} {l : List Int} {s1 s2 : Int} {N : Nat} (hN : N ≤ 100) : ∀ (t i k : Nat) (Q : List Int), i + t = N → t + 1 ≤ k → Q.length = N → (∀ j : Nat, j < i → rd Q (j : Int) = j) →
    spec_l03Tree.l0 k n Q (i : Int) l s1 s2 w h w h 0 = if n = 0 then some (w, h, 0, s1, s2) else (spec_l01Below.f l s1 s2 n).bind fun b => (spec_l01Below.f l b.2.1 b.2.2 n).bind fun c => spec_l03Tree.l1 (k - t - 1) n (ints N) b.1 (wrap64 (1 + c.1)) l c.2.1 c.2.2 w h w h 0
  | 0, i, k, Q, hi, hk, hl, hQ => by
    obtain ⟨m, rfl⟩ : ∃ m, k = m + 1 := ⟨k - 1, by omega⟩
    simp only [spec_l03Tree.l0]
    rw [if_neg (by omega)]
    have e : Q = ints N := by
      apply List.ext_getElem
      · rw [ints_length, hl]
      · intro j h1 h2
        have := hQ j (by omega)
        rw [rd_nat, List.getD_eq_getElem?_getD, List.getElem?_eq_getElem h1] at this
        simp only [ints, List.getElem_map, List.getElem_range]
        simpa using this
    rw [e]
    rfl
  | t + 1, i, k, Q, hi, hk, hl, hQ => by
    obtain ⟨m, rfl⟩ : ∃ m, k = m + 1 := ⟨k - 1, by omega⟩
    simp only [spec_l03Tree.l0]
    rw [if_pos (by omega), if_pos (by omega), w64 (by omega) (by omega)]
    have := tree_l0 (w := w) (h := h) (n := n) (l := l) (s1 := s1) (s2 := s2) hN t (i + 1) m (Q.set i (i : Int)) (by omega) (by omega) (by simpa using hl) (fun j hj => by
      have := rd_set (D := Q) (i := (i : Int)) (x := (j : Int)) (v := (i : Int)) (by omega) (by omega) (by omega)
      rw [Int.toNat_natCast] at this
      rw [this]
      by_cases e : (j : Int) = (i : Int)
      · rw [if_pos e]; exact e.symm
      · rw [if_neg e]; exact hQ j (by omega))
    rw [Int.natCast_add] at this
    rw [show m + 1 - (t + 1) - 1 = m - t - 1 by omega]
    rw [Int.toNat_natCast]
    exact this
theorem tree_draw {k : Nat} {l : List Int} {i s w h : Int} (G : gok w h = true) (hi : 0 ≤ i) (hl : l.length ≤ 1048576) (hk : 1000 ≤ k) :
    ∃ o i' s', spec_l03Tree.f k l i s w h = some (w, h, o, i', s') ∧ 0 ≤ i' ∧ conn w h o = true ∧ ((pcn o.toNat 24 : Nat) : Int) = cells w h - 1 := by
  have hN := stN_int w h
  have hN2 := stN_le w h
  have hb := gaps_bd w h
  have T0 := ti_init G
  unfold spec_l03Tree.f
  rw [spec_CountGaps_eq, Option.bind_some, spec_CountCells_eq, Option.bind_some, ← hN, if_pos (by omega), if_pos (by omega), Int.toNat_natCast]
  have e0 := tree_l0 (w := w) (h := h) (n := gaps w h) (l := l) (s1 := i) (s2 := s) (N := stN w h) (by omega) (stN w h) 0 k (List.replicate (stN w h) 0) (by omega) (by omega) (by simp) (fun j hj => absurd hj (Nat.not_lt_zero _))
  have e1 : spec_l03Tree.l0 k (gaps w h) (List.replicate (stN w h) 0) 0 l i s w h w h 0 = _ := e0
  rw [e1]
  by_cases n0 : gaps w h = 0
  · rw [if_pos n0]
    obtain ⟨q1, q2⟩ := ti_end T0 (fun g hg => by have := igap_iff.1 hg; omega)
    exact ⟨0, i, s, rfl, hi, q1, by rw [hN]; exact q2⟩
  · rw [if_neg n0]
    obtain ⟨f, i1, h1, d1, f0, f1, j1⟩ := below_draw (h := s) hi hl (n := gaps w h) (by omega) (by omega)
    obtain ⟨c, i2, h2, d2, c0, c1, j2⟩ := below_draw (h := h1) j1 hl (n := gaps w h) (by omega) (by omega)
    rw [d1, Option.bind_some, d2, Option.bind_some, w64 (by omega) (by omega)]
    simp only
    obtain ⟨n, hn⟩ := Int.eq_ofNat_of_zero_le hb.1
    obtain ⟨f, rfl⟩ := Int.eq_ofNat_of_zero_le f0
    obtain ⟨c, rfl⟩ := Int.eq_ofNat_of_zero_le c0
    rw [show (1 : Int) + (c : Int) = ((c + 1 : Nat) : Int) by omega, hn]
    obtain ⟨s', k', q1, q2, ⟨v, hv⟩, q4⟩ := tree_l1 (w := w) (h := h) (n := n) (f := f) (l := l) (s1 := i2) (s2 := h2) (P := ints (stN w h)) (by omega) (by omega) (n - c) (c + 1) (k - stN w h - 1) (by omega) (by omega) (by omega)
    rw [q4]
    obtain ⟨o, P', r1, r2, r3⟩ := tree_l2 (l := l) (s1 := i2) (s2 := h2) G (n := n) (f := f) (s := s') (by omega) (by omega) (by omega) q1 n 0 k' (ints (stN w h)) 0 (by omega) (by omega) T0 (fun j hj => absurd hj (Nat.not_lt_zero _))
    have r1' : spec_l03Tree.l2 k' (n : Int) (ints (stN w h)) (f : Int) (s' : Int) 0 l i2 h2 w h w h 0 = some (w, h, o, i2, h2) := r1
    obtain ⟨z1, z2⟩ := ti_end r2 (fun g hg => by
      have gb := igap_iff.1 hg
      obtain ⟨g, rfl⟩ := Int.eq_ofNat_of_zero_le gb.1
      obtain ⟨j, hj, e⟩ := mod_reach (n := n) (f := f) (s := s') (v := v) (g := g) (by omega) (by omega) hv (by omega)
      have := r3 j hj
      unfold gapi at this
      rw [e] at this
      exact this)
    exact ⟨o, i2, h2, r1', j2, z1, by rw [hN]; exact z2⟩
end Go.Proofs.Ytpeehicekddjhaa.F
end

section
namespace Go.Proofs.Ytpeehicekddjhaa.F
open Go.RowKit Go.Proofs.YtpeehicekddjhaaW.PrintWords Go.Proofs.YtpeehicekddjhaaW.PrintLast Go.Proofs.YtpeehicekddjhaaW.PrintMore
set_option linter.unusedVariables false
set_option linter.unusedSimpArgs false
theorem spec_SetGap_in {k : Nat} (hk : 1 ≤ k) {w h o g : Int} (M : mok w h o = true) (hg : igap w h g = true) (b : Bool) : spec_SetGap.f k w h o g b = some (w, h, setb o g b, true) := by
  obtain ⟨m, rfl⟩ : ∃ m, k = m + 1 := ⟨k - 1, by omega⟩
  have ms := mok_small M
  have gs := gaps_small hg
  unfold spec_SetGap.f
  rw [spec_MazeOk_eq, Option.bind_some, if_pos M, spec_CountGaps_eq, Option.bind_some, spec_l01In_eq, Option.bind_some, in_gaps, hg]
  simp only [spec_SetGap.j0]
  rw [if_neg (by decide), spec_l03Bit_eq ms.1 (by omega) gs.1, Option.bind_some, xor_shl_eq ms.1 (by omega) gs.1 (by omega)]
  by_cases c : opn o g = b
  · rw [if_neg (by simp [c])]
    have : setb o g b = o := by
      refine eq_of_opn ?_ ms.1 fun i hi => ?_
      · unfold setb; split <;> exact Int.natCast_nonneg _
      · rw [opn_setb b gs.1 hi]
        split
        · rename_i e; rw [e, c]
        · rfl
    rw [this]
  · rw [if_pos (by simpa using c), if_pos gs.1]
    have hb : b = !opn o g := by cases b <;> cases e : opn o g <;> simp_all
    rw [hb, setb_flip ms.1 gs.1]
end Go.Proofs.Ytpeehicekddjhaa.F
end

section
namespace Go.Proofs.Ytpeehicekddjhaa.F
open Go.RowKit Go.Proofs.YtpeehicekddjhaaW.PrintWords Go.Proofs.YtpeehicekddjhaaW.PrintLast Go.Proofs.YtpeehicekddjhaaW.PrintMore
set_option linter.unusedVariables false
set_option linter.unusedSimpArgs false
theorem once_draw {l : List Int} {i s n : Int} (hi : 0 ≤ i) (hl : l.length ≤ 1048576) (hn : 1 ≤ n) (hn2 : n ≤ 256) : ∃ b i' s', spec_l01Once.f l i s n = some (b, i', s') ∧ 0 ≤ i' := by
  obtain ⟨b, i1, h1, e, _, _, j⟩ := below_draw (h := s) hi hl hn hn2
  unfold spec_l01Once.f
  rw [e, Option.bind_some]
  exact ⟨_, _, _, rfl, j⟩
theorem rdG_old {gs : List SGate} {x : SGate} {i : Int} (h0 : 0 ≤ i) (h : i < gs.length) : rd_Gate (gs ++ [x]) i = rd_Gate gs i := by
  unfold rd_Gate
  rw [List.getD_eq_getElem?_getD, List.getD_eq_getElem?_getD, List.getElem?_append_left (by omega)]
theorem rdG_new {gs : List SGate} {x : SGate} : rd_Gate (gs ++ [x]) (gs.length : Int) = x := by
  unfold rd_Gate
  rw [Int.toNat_natCast, List.getD_eq_getElem?_getD, List.getElem?_append_right (Nat.le_refl _)]
  simp
theorem rdE_old {gs : List SEntry} {x : SEntry} {i : Int} (h0 : 0 ≤ i) (h : i < gs.length) : rd_Entry (gs ++ [x]) i = rd_Entry gs i := by
  unfold rd_Entry
  rw [List.getD_eq_getElem?_getD, List.getD_eq_getElem?_getD, List.getElem?_append_left (by omega)]
theorem rdE_new {gs : List SEntry} {x : SEntry} : rd_Entry (gs ++ [x]) (gs.length : Int) = x := by
  unfold rd_Entry
  rw [Int.toNat_natCast, List.getD_eq_getElem?_getD, List.getElem?_append_right (Nat.le_refl _)]
  simp
def JG (w h o p : Int) (gs : List SGate) (x : Int) : Prop := gs.length ≤ 5 ∧ ∀ i : Nat, i < gs.length → tgp w h o p gs i = true ∧ (rd_Gate gs i).f0 < x
theorem JG_more {w h o p x y : Int} {gs : List SGate} (J : JG w h o p gs x) (H : x ≤ y) : JG w h o p gs y := ⟨J.1, fun i hi => ⟨(J.2 i hi).1, by have := (J.2 i hi).2; omega⟩⟩
theorem JG_snoc {w h o p x b : Int} {gs : List SGate} (J : JG w h o p gs x) (hl : gs.length < 5) (hp : psg w h o x = true) (b0 : 0 ≤ b) (b1 : b < shl .i64 1 p) : JG w h o p (gs ++ [⟨x, b⟩]) (x + 1) := by
  refine ⟨by rw [List.length_append]; simp; omega, fun i hi => ?_⟩
  rw [List.length_append, List.length_singleton] at hi
  by_cases hlt : i < gs.length
  · obtain ⟨h1, h2⟩ := J.2 i hlt
    have e1 : rd_Gate (gs ++ [(⟨x, b⟩ : SGate)]) (i : Int) = rd_Gate gs i := rdG_old (by omega) (by omega)
    refine ⟨?_, by rw [e1]; omega⟩
    unfold tgp at h1 ⊢
    rw [e1]
    by_cases h0 : i = 0
    · rw [decide_eq_true h0] at h1 ⊢
      simpa using h1
    · rw [rdG_old (by omega) (by omega)]
      exact h1
  · have hi' : i = gs.length := by omega
    subst hi'
    have e1 : rd_Gate (gs ++ [(⟨x, b⟩ : SGate)]) (gs.length : Int) = ⟨x, b⟩ := rdG_new
    refine ⟨?_, by rw [e1]; show x < x + 1; omega⟩
    unfold tgp
    rw [e1]
    simp only [Bool.and_eq_true, Bool.or_eq_true, decide_eq_true_eq]
    refine ⟨⟨hp, ?_⟩, b0, b1⟩
    by_cases h0 : gs.length = 0
    · exact .inl h0
    · refine .inr ?_
      rw [rdG_old (by omega) (by omega)]
      have := (J.2 (gs.length - 1) (by omega)).2
      rwa [show ((gs.length - 1 : Nat) : Int) = (gs.length : Int) - 1 by omega] at this
theorem timed_loop {w h o p : Int} {l : List Int} (M : mok w h o = true) (p1 : 1 ≤ p) (p6 : p ≤ 6) (hl : l.length ≤ 1048576) : ∀ (r x k : Nat) (i s : Int) (gs : List SGate), (x : Int) + r = gaps w h → 2 * r + 2 ≤ k → 0 ≤ i → JG w h o p gs x →
    ∃ gs' i' s' y, spec_l29Timed.l0 k (gaps w h) (x : Int) l i s w h o w h o p gs = some (w, h, o, p, gs', i', s') ∧ JG w h o p gs' y ∧ 0 ≤ i' := by
  have ms := mok_small M
  have gb := gaps_bd w h
  have sp := shl_small p1 p6
  intro r
  induction r with
  | zero =>
    intro x k i s gs hx hk hi J
    obtain ⟨k, rfl⟩ : ∃ m, k = m + 2 := ⟨k - 2, by omega⟩
    simp only [spec_l29Timed.l0]
    rw [if_neg (by omega)]
    simp only [spec_l29Timed.j3]
    rw [if_neg (by decide)]
    exact ⟨_, _, _, _, rfl, J, hi⟩
  | succ r ih =>
    intro x k i s gs hx hk hi J
    obtain ⟨k, rfl⟩ : ∃ m, k = m + 2 := ⟨k - 2, by omega⟩
    simp only [spec_l29Timed.l0]
    rw [if_pos (by omega)]
    simp only [spec_l29Timed.j3]
    have hw : wrap64 ((x : Int) + 1) = ((x + 1 : Nat) : Int) := by rw [w64 (by omega) (by omega)]; omega
    by_cases c : (gs.length : Int) < 5
    · rw [if_pos (decide_eq_true c), spec_l03Bit_eq ms.1 (by omega) (by omega), Option.bind_some]
      by_cases ob : opn o (x : Int) = true
      · rw [if_pos ob]
        obtain ⟨b, i1, s1, e1, j1⟩ := once_draw (l := l) (i := i) (s := s) (n := 3) hi hl (by decide) (by decide)
        rw [e1, Option.bind_some]
        simp only
        by_cases cb : b = true
        · rw [if_pos cb, if_pos (by omega)]
          obtain ⟨q, i2, s2, e2, q0, q1, j2⟩ := below_draw (l := l) (i := i1) (h := s1) (n := shl .i64 1 p) j1 hl (by omega) (by omega)
          rw [e2, Option.bind_some]
          simp only
          rw [if_pos (by have := J.1; omega), hw]
          refine ih (x + 1) k i2 s2 _ (by omega) (by omega) j2 ?_
          have := JG_snoc J (by omega) (show psg w h o (x : Int) = true by unfold psg; rw [M, ob, igap_iff.2 (by omega)]; rfl) q0 q1
          rwa [show (x : Int) + 1 = ((x + 1 : Nat) : Int) by omega] at this
        · rw [if_neg cb, hw]
          exact ih (x + 1) k i1 s1 gs (by omega) (by omega) j1 (JG_more J (by omega))
      · rw [if_neg ob, hw]
        exact ih (x + 1) k i s gs (by omega) (by omega) hi (JG_more J (by omega))
    · rw [if_neg (by simpa using c)]
      exact ⟨_, _, _, _, rfl, J, hi⟩
theorem timed_draw {k : Nat} {l : List Int} {i s : Int} (hi : 0 ≤ i) (hl : l.length ≤ 1048576) (hk : 1000 ≤ k) : ∃ w h o p gs i' s', spec_l29Timed.f k l i s = some (w, h, o, p, gs, i', s') ∧ tmok w h o p gs = true ∧ 0 ≤ i' := by
  obtain ⟨a, i1, s1, e1, a0, a1, j1⟩ := below_draw (l := l) (i := i) (h := s) (n := 3) hi hl (by decide) (by decide)
  obtain ⟨b, i2, s2, e2, b0, b1, j2⟩ := below_draw (l := l) (i := i1) (h := s1) (n := 3) j1 hl (by decide) (by decide)
  unfold spec_l29Timed.f
  rw [e1, Option.bind_some]
  simp only
  rw [e2, Option.bind_some]
  simp only
  rw [w64 (x := 1 + a) (by omega) (by omega), w64 (x := 1 + b) (by omega) (by omega)]
  have G : gok (1 + a) (1 + b) = true := gok_iff.2 (by omega)
  obtain ⟨o, i3, s3, e3, j3, C, _⟩ := tree_draw (k := k) (l := l) (i := i2) (s := s2) G j2 hl hk
  rw [e3, Option.bind_some, spec_CountGaps_eq, Option.bind_some]
  simp only
  have gb := gaps_bd (1 + a) (1 + b)
  obtain ⟨k, rfl⟩ : ∃ m, k = m + 2 := ⟨k - 2, by omega⟩
  have fin : ∀ (o2 i4 s4 : Int), 0 ≤ i4 → mok (1 + a) (1 + b) o2 = true → ∀ m, 100 ≤ m → ∃ w h o p gs i' s', spec_l29Timed.j1 m (gaps (1 + a) (1 + b)) l i4 s4 (1 + a) (1 + b) o2 = some (w, h, o, p, gs, i', s') ∧ tmok w h o p gs = true ∧ 0 ≤ i' := by
    intro o2 i4 s4 j4 M2 m hm
    obtain ⟨m, rfl⟩ : ∃ q, m = q + 1 := ⟨m - 1, by omega⟩
    simp only [spec_l29Timed.j1]
    obtain ⟨c, i5, s5, e5, c0, c1, j5⟩ := below_draw (l := l) (i := i4) (h := s4) (n := 6) j4 hl (by decide) (by decide)
    rw [e5, Option.bind_some]
    simp only
    rw [w64 (x := 1 + c) (by omega) (by omega)]
    obtain ⟨gs, i6, s6, y, e6, J, j6⟩ := timed_loop (p := 1 + c) M2 (by omega) (by omega) hl (gaps (1 + a) (1 + b)).toNat 0 m i5 s5 [] (by omega) (by omega) j5 ⟨by simp, fun i hi => by simp at hi⟩
    refine ⟨_, _, _, _, _, _, _, e6, ?_, j6⟩
    unfold tmok
    simp only [Bool.and_eq_true, decide_eq_true_eq, List.all_eq_true]
    exact ⟨⟨⟨M2, by omega, by omega⟩, by have := J.1; omega⟩, fun i hi => (J.2 i (List.mem_range.1 hi)).1⟩
  have M := conn_mok C
  by_cases c : gaps (1 + a) (1 + b) > 0
  · rw [if_pos c]
    obtain ⟨q, i4, s4, e4, j4⟩ := once_draw (l := l) (i := i3) (s := s3) (n := 2) j3 hl (by decide) (by decide)
    rw [e4, Option.bind_some]
    simp only [spec_l29Timed.j0]
    by_cases cq : q = true
    · rw [if_pos cq]
      obtain ⟨g, i5, s5, e5, g0, g1, j5⟩ := below_draw (l := l) (i := i4) (h := s4) (n := gaps (1 + a) (1 + b)) j4 hl (by omega) (by omega)
      rw [e5, Option.bind_some]
      simp only
      have hg : igap (1 + a) (1 + b) g = true := igap_iff.2 ⟨g0, g1⟩
      rw [spec_SetGap_in (by omega) M hg true, Option.bind_some]
      exact fin _ _ _ j5 (mok_setb true M hg) (k + 1) (by omega)
    · rw [if_neg cq]
      exact fin _ _ _ j4 M (k + 1) (by omega)
  · rw [if_neg c]
    simp only [spec_l29Timed.j0]
    rw [if_neg (by decide)]
    exact fin _ _ _ j3 M (k + 1) (by omega)
def JE (w h : Int) (es : List SEntry) (x : Int) : Prop := ∀ i : Nat, i < es.length → recp w h es i = true ∧ (rd_Entry es i).f0 < x
theorem JE_snoc {w h x y c : Int} {es : List SEntry} (J : JE w h es x) (x0 : 0 ≤ x) (x5 : x ≤ 500) (hc : icell w h c = true) (hy : x < y) : JE w h (es ++ [⟨x, c⟩]) y := by
  intro i hi
  rw [List.length_append, List.length_singleton] at hi
  by_cases hlt : i < es.length
  · obtain ⟨h1, h2⟩ := J i hlt
    have e1 : rd_Entry (es ++ [(⟨x, c⟩ : SEntry)]) (i : Int) = rd_Entry es i := rdE_old (by omega) (by omega)
    refine ⟨?_, by rw [e1]; omega⟩
    unfold recp at h1 ⊢
    rw [e1]
    by_cases h0 : i = 0
    · rw [decide_eq_true h0] at h1 ⊢
      simpa using h1
    · rw [rdE_old (by omega) (by omega)]
      exact h1
  · have hi' : i = es.length := by omega
    subst hi'
    have e1 : rd_Entry (es ++ [(⟨x, c⟩ : SEntry)]) (es.length : Int) = ⟨x, c⟩ := rdE_new
    refine ⟨?_, by rw [e1]; exact hy⟩
    unfold recp
    rw [e1]
    simp only [Bool.and_eq_true, Bool.or_eq_true, decide_eq_true_eq]
    refine ⟨⟨⟨x0, x5⟩, hc⟩, ?_⟩
    by_cases h0 : es.length = 0
    · exact .inl h0
    · refine .inr ?_
      rw [rdE_old (by omega) (by omega)]
      have := (J (es.length - 1) (by omega)).2
      rwa [show ((es.length - 1 : Nat) : Int) = (es.length : Int) - 1 by omega] at this
theorem elist_loop {w h o p n : Int} {gs : List SGate} {l : List Int} (G : gok w h = true) (n5 : n ≤ 5) (hl : l.length ≤ 1048576) : ∀ (r x k : Nat) (at' i s : Int) (es : List SEntry), (x : Int) + r = n → r + 1 ≤ k → 0 ≤ i → es.length = x → 0 ≤ at' → at' ≤ 3 + 7 * x → JE w h es at' →
    ∃ es' i' s' y, spec_l36List.l0 k es n at' (x : Int) l i s w h o p gs = some (es', i', s') ∧ JE w h es' y ∧ es'.length ≤ 5 := by
  intro r
  induction r with
  | zero =>
    intro x k at' i s es hx hk hi he a0 a1 J
    obtain ⟨k, rfl⟩ : ∃ m, k = m + 1 := ⟨k - 1, by omega⟩
    simp only [spec_l36List.l0]
    rw [if_neg (by omega)]
    exact ⟨_, _, _, _, rfl, J, by omega⟩
  | succ r ih =>
    intro x k at' i s es hx hk hi he a0 a1 J
    obtain ⟨k, rfl⟩ : ∃ m, k = m + 1 := ⟨k - 1, by omega⟩
    have cp := cells_pos G
    have cb := cells_bd w h
    have hmx : mx 1 (cells w h) = cells w h := by unfold mx; split <;> omega
    simp only [spec_l36List.l0]
    rw [if_pos (by omega), spec_CountCells_eq, Option.bind_some, hmx]
    obtain ⟨b, i1, s1, e1, b0, b1, j1⟩ := below_draw (l := l) (i := i) (h := s) (n := cells w h) hi hl (by omega) (by omega)
    rw [e1, Option.bind_some]
    simp only
    rw [if_pos (by omega)]
    obtain ⟨c, i2, s2, e2, c0, c1, j2⟩ := below_draw (l := l) (i := i1) (h := s1) (n := 7) j1 hl (by omega) (by omega)
    rw [e2, Option.bind_some]
    simp only
    rw [w64 (x := at' + 1) (by omega) (by omega), w64 (x := at' + 1 + c) (by omega) (by omega), w64 (x := (x : Int) + 1) (by omega) (by omega), show (x : Int) + 1 = ((x + 1 : Nat) : Int) by omega]
    exact ih (x + 1) k (at' + 1 + c) i2 s2 _ (by omega) (by omega) j2 (by rw [List.length_append]; simp; omega) (by omega) (by omega) (JE_snoc J a0 (by omega) (icell_iff.2 ⟨b0, b1⟩) (by omega))
theorem record_draw {k : Nat} {l : List Int} (hl : l.length ≤ 1048576) (hk : l.length + 1000 ≤ k) : ∃ w h o p gs es, spec_DrawRecord.f k l = some (w, h, o, p, gs, es) ∧ rcok w h o p gs es = true ∧ es.length ≤ 5 := by
  obtain ⟨s, e0⟩ := new_draw (k := k) hl (by omega)
  unfold spec_DrawRecord.f
  rw [e0, Option.bind_some]
  simp only
  obtain ⟨w, h, o, p, gs, i1, s1, e1, T, j1⟩ := timed_draw (k := k) (l := l) (i := 0) (s := s) (Int.le_refl _) hl (by omega)
  rw [e1, Option.bind_some]
  simp only
  have M := (tmok_iff T).1
  have G : gok w h = true := by unfold mok at M; simp only [Bool.and_eq_true] at M; exact M.1
  unfold spec_l36List.f
  obtain ⟨n, i2, s2, e2, n0, n1, j2⟩ := below_draw (l := l) (i := i1) (h := s1) (n := 6) j1 hl (by decide) (by decide)
  obtain ⟨a, i3, s3, e3, a0, a1, j3⟩ := below_draw (l := l) (i := i2) (h := s2) (n := 4) j2 hl (by decide) (by decide)
  rw [e2, Option.bind_some]
  simp only
  rw [e3, Option.bind_some]
  simp only
  obtain ⟨es, i4, s4, y, e4, J, h5⟩ := elist_loop (o := o) (p := p) (gs := gs) (n := n) G (by omega) hl n.toNat 0 k a i3 s3 [] (by omega) (by omega) j3 rfl a0 (by omega) (fun i hi => by simp at hi)
  rw [show ((0 : Nat) : Int) = 0 from rfl] at e4
  rw [e4, Option.bind_some]
  refine ⟨w, h, o, p, gs, es, rfl, ?_, h5⟩
  unfold rcok
  simp only [Bool.and_eq_true, List.all_eq_true, decide_eq_true_eq]
  exact ⟨fun i hi => (J i (List.mem_range.1 hi)).1, T, by omega⟩
end Go.Proofs.Ytpeehicekddjhaa.F
end

section
namespace Go.Proofs.Ytpeehicekddjhaa.F
open Go.RowKit Go.Proofs.YtpeehicekddjhaaW.PrintWords Go.Proofs.YtpeehicekddjhaaW.PrintLast Go.Proofs.YtpeehicekddjhaaW.PrintMore
set_option linter.unusedVariables false
set_option linter.unusedSimpArgs false
theorem rdE (l : List SEntry) (j : Nat) : rd_Entry l (j : Int) = l.getD j zEntry := by unfold rd_Entry; rw [Int.toNat_natCast]
theorem records_end {w h o p : Int} {gs : List SGate} {a0 a1 b0 b1 : Int} (hb : a0 < b0) (b5 : b0 ≤ 500) (a00 : 0 ≤ a0) {k : Nat} (hk : 1100 ≤ k) : laws_FnRecords.j1 k false w h o p gs a0 a1 b0 b1 = some true := by
  obtain ⟨k, rfl⟩ : ∃ m, k = m + 1 := ⟨k - 1, by omega⟩
  simp only [laws_FnRecords.j1]
  rw [if_neg (by decide), w64 (x := a0 + 1) (by omega) (by omega), impl_BetweenCells_eq, Option.bind_some, impl_CanFollow_eq, Option.bind_some]
  by_cases c : canF w h o p gs a0 a1 b0 b1 = true
  · rw [if_pos c]
    by_cases e : b0 = a0 + 1
    · rw [if_pos e]
    · obtain ⟨h1, h2⟩ := btw_head c (by omega) b5
      rw [if_neg e, if_pos (by omega), if_pos (by omega), spec_CanFollow_eq (by omega), Option.bind_some, h2]
  · rw [if_neg c]
theorem FnRecords_pure : ∀ (l0 : List (Int)), ((l0).length ≤ 9223372036854775807 ∧ ∀ y ∈ l0, 0 ≤ y ∧ y ≤ 255) → ∃ k, laws_FnRecords.f k l0 = some true := by
  intro l hl
  refine ⟨l.length + 3000, ?_⟩
  unfold laws_FnRecords.f laws_big.f
  rw [Option.bind_some]
  by_cases hbig : (l.length : Int) > 1048576
  · rw [if_pos (by simpa using hbig)]
  · rw [if_neg (by simpa using hbig)]
    obtain ⟨w, h, o, p, gs, es, e, R, h5⟩ := record_draw (k := l.length + 3000) (l := l) (by omega) (by omega)
    rw [e, Option.bind_some]
    simp only
    rw [impl_IsTrueRecord_eq (by omega) (by omega), Option.bind_some, impl_FirstFalse_eq (by omega) (by omega), Option.bind_some, impl_RecordOk_eq (by omega) (by omega), Option.bind_some, R, if_pos rfl, Bool.true_and]
    have e2 : ffl w h o p gs es = ffr w h o p gs es (es.length - 1) 1 := by unfold ffl; rw [if_pos R]
    rw [if_neg (by simp)]
    have key : ∀ m : Nat, 2000 ≤ m → laws_FnRecords.j0 m es (decide (ffl w h o p gs es < 0)) (ffl w h o p gs es) false w h o p gs = some true := by
      intro m hm
      obtain ⟨m, rfl⟩ : ∃ q, m = q + 1 := ⟨m - 1, by omega⟩
      simp only [laws_FnRecords.j0]
      rw [if_neg (by decide)]
      by_cases h2 : (es.length : Int) < 2
      · rw [if_pos h2]
        have : ffl w h o p gs es = -1 := by
          rw [e2, show es.length - 1 = 0 by omega]
          rfl
        rw [this]
        rfl
      · obtain ⟨q, hq⟩ : ∃ q, es.length = q + 2 := ⟨es.length - 2, by omega⟩
        have hw : wrap64 ((es.length : Int) - 1) = ((q + 1 : Nat) : Int) := by rw [w64 (by omega) (by omega)]; omega
        have hz : rd_Entry es 0 = es.getD 0 zEntry := rdE es 0
        have ord := rcok_order R q (by omega)
        have r0 := rcok_at R (show 0 < es.length by omega)
        unfold recp at r0
        simp only [Bool.and_eq_true, decide_eq_true_eq] at r0
        have a00 : 0 ≤ (es.getD 0 zEntry).f0 := by rw [← hz]; exact r0.1.1.1
        rw [if_neg h2, if_pos (by omega), hw, if_pos (by omega), if_pos (by omega), rdE es (q + 1), hz]
        have fin := records_end (w := w) (h := h) (o := o) (p := p) (gs := gs) (a1 := (es.getD 0 zEntry).f1) (b1 := (es.getD (q + 1) zEntry).f1) ord.1 ord.2 a00 (k := m) (by omega)
        by_cases F : ffl w h o p gs es = -1
        · have ch := chain R F q (by omega)
          rw [F, if_pos (by decide), impl_CanFollow_eq, Option.bind_some, ch, if_pos rfl, if_neg (by decide)]
          exact fin
        · obtain ⟨j, j1, j2, j3, j4⟩ := ffr_false _ _ (by rw [← e2]; exact F)
          rw [e2, j3]
          have hw2 : wrap64 ((j : Int) - 1) = ((j - 1 : Nat) : Int) := by rw [w64 (by omega) (by omega)]; omega
          rw [if_neg (by simp), if_pos (by omega), hw2, if_pos (by omega), if_pos (by omega), if_pos (by omega), if_pos (by omega), rdE es (j - 1), rdE es j, impl_CanFollow_eq, Option.bind_some, j4]
          exact fin
    have hge : decide (ffl w h o p gs es ≥ (es.length : Int)) = false := by
      refine decide_eq_false ?_
      by_cases F : ffl w h o p gs es = -1
      · omega
      · obtain ⟨j, j1, j2, j3, j4⟩ := ffr_false _ _ (by rw [← e2]; exact F)
        rw [e2, j3]; omega
    have hne : ffl w h o p gs es ≠ 0 := by
      by_cases F : ffl w h o p gs es = -1
      · omega
      · obtain ⟨j, j1, j2, j3, j4⟩ := ffr_false _ _ (by rw [← e2]; exact F)
        rw [e2, j3]; omega
    rw [if_neg hne, hge]
    exact key _ (by omega)
end Go.Proofs.Ytpeehicekddjhaa.F
end
