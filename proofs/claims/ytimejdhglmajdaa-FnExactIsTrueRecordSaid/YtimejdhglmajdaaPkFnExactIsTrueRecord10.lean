/- Packed by a program of the session (wip/tools/pack.py): what the claim's theorem reaches, of the texts that wip/ and the kit's printer lay. -/
import Derived.Test.YtimejdhglmajdaaPkFnExactIsTrueRecord9
section
namespace Go.Proofs.Ytimejdhglmajdaa.F
open Go.RowKit Go.Proofs.YtimejdhglmajdaaW.PrintWords Go.Proofs.YtimejdhglmajdaaW.PrintLast Go.Proofs.YtimejdhglmajdaaW.PrintMore
set_option linter.unusedVariables false
set_option linter.unusedSimpArgs false
theorem bit_zero {o g : Int} (ho : 0 ≤ o) (ho2 : o < 9223372036854775808) (hg : 0 ≤ g) : Go.bits .and .i64 (shr .i64 o g) 1 = 0 ↔ ¬ opn o g = true := by
  obtain ⟨a, rfl⟩ := Int.eq_ofNat_of_zero_le ho
  obtain ⟨n, rfl⟩ := Int.eq_ofNat_of_zero_le hg
  have ha : a < 2 ^ 63 := by omega
  rw [shr_nat ha]
  have h1 : a >>> n < 2 ^ 63 := by rw [Nat.shiftRight_eq_div_pow]; exact Nat.lt_of_le_of_lt (Nat.div_le_self _ _) ha
  have := bits_and_i (a := a >>> n) (b := 1) h1 (by decide)
  rw [show ((1 : Nat) : Int) = 1 from rfl] at this
  rw [this]
  unfold opn
  simp only [Int.toNat_natCast, Nat.testBit, bne_iff_ne, ne_eq, Decidable.not_not]
  rw [Nat.and_comm]
  omega
def otAt (q : Int) (gs : List SGate) (o : Int) : Int := gs.foldl (fun o g => if opn g.f1 q = true then o else setb o g.f0 false) o
def gsok (w h : Int) (gs : List SGate) : Prop := ∀ g ∈ gs, igap w h g.f0 = true ∧ 0 ≤ g.f1 ∧ g.f1 < 64
theorem tmok_iff {w h o p : Int} {gs : List SGate} (H : tmok w h o p gs = true) : mok w h o = true ∧ 1 ≤ p ∧ p ≤ 6 ∧ gs.length ≤ 8 ∧ gsok w h gs := by
  unfold tmok at H
  simp only [Bool.and_eq_true, decide_eq_true_eq, List.all_eq_true] at H
  obtain ⟨⟨⟨M, p1, p6⟩, l8⟩, hall⟩ := H
  refine ⟨M, p1, p6, l8, fun g hg => ?_⟩
  obtain ⟨i, hi, rfl⟩ := List.getElem_of_mem hg
  have := hall i (by rw [List.mem_range]; exact hi)
  have e : rd_Gate gs (i : Int) = gs[i] := by show gs.getD i zGate = _; rw [List.getD_eq_getElem?_getD, List.getElem?_eq_getElem hi]; rfl
  unfold tgp at this
  rw [e] at this
  simp only [Bool.and_eq_true, decide_eq_true_eq] at this
  obtain ⟨⟨a, _⟩, b, c⟩ := this
  have s := shl_small p1 p6
  unfold psg at a
  simp only [Bool.and_eq_true] at a
  exact ⟨a.1.2, b, by omega⟩
theorem setb_false {o g : Int} (ho : 0 ≤ o) (hg : 0 ≤ g) (H : opn o g = false) : setb o g false = o := by
  refine eq_of_opn (by unfold setb; rw [if_neg (by decide)]; omega) ho fun i hi => ?_
  rw [opn_setb _ hg hi]
  by_cases e : i = g
  · rw [if_pos e, e, H]
  · rw [if_neg e]
theorem spec_SetGap_false {w h o g : Int} (M : mok w h o = true) (hg : igap w h g = true) {k : Nat} (hk : 1 ≤ k) : ∃ b, spec_SetGap.f k w h o g false = some (w, h, setb o g false, b) := by
  obtain ⟨m, rfl⟩ : ∃ m, k = m + 1 := ⟨k - 1, by omega⟩
  have s := mok_small M
  have gb := gaps_small hg
  unfold spec_SetGap.f
  rw [spec_MazeOk_eq, Option.bind_some, if_pos M, spec_CountGaps_eq, Option.bind_some, spec_l01In_eq, Option.bind_some]
  have e : decide (0 ≤ g ∧ g ≤ wrap64 (gaps w h - 1)) = true := by
    have a := igap_iff.1 hg
    have b := gaps_bd w h
    rw [w64 (by omega) (by omega)]
    simp; omega
  rw [e]
  simp only [spec_SetGap.j0, Bool.not_true, Bool.false_eq_true, if_false]
  rw [spec_l03Bit_eq s.1 (by omega) gb.1, Option.bind_some]
  cases ob : opn o g with
  | true =>
    rw [if_pos (by decide), if_pos gb.1, xor_shl_eq s.1 (by omega) gb.1 (by omega)]
    refine ⟨true, ?_⟩
    rw [← setb_flip s.1 gb.1, ob]
    rfl
  | false =>
    rw [if_neg (by decide), setb_false s.1 gb.1 ob]
    exact ⟨true, rfl⟩
theorem tmod_nat {m p : Int} (h0 : 0 ≤ m) (h1 : 1 ≤ p) : Int.tmod m p = ((m.toNat % p.toNat : Nat) : Int) := by
  obtain ⟨a, rfl⟩ := Int.eq_ofNat_of_zero_le h0
  obtain ⟨b, rfl⟩ := Int.eq_ofNat_of_zero_le (show 0 ≤ p by omega)
  simp only [Int.toNat_natCast]
  rfl
theorem spec_l29Maze_eq {w h o p m : Int} {gs : List SGate} (T : tmok w h o p gs = true) (h0 : 0 ≤ m) {k : Nat} (hk : 20 ≤ k) : spec_l29Maze.f k w h o p gs m = some (w, h, otAt ((m.toNat % p.toNat : Nat) : Int) gs o) := by
  obtain ⟨M, p1, p6, l8, G⟩ := tmok_iff T
  unfold spec_l29Maze.f
  have key : ∀ (d i k : Nat) (q : Int), i + d = gs.length → d + 3 ≤ k → mok w h q = true → spec_l29Maze.l0 k m (i : Int) w h o p gs w h q = some (w, h, otAt ((m.toNat % p.toNat : Nat) : Int) (gs.drop i) q) := by
    intro d
    induction d with
    | zero =>
      intro i k q hi hk Mq
      obtain ⟨n, rfl⟩ : ∃ n, k = n + 1 := ⟨k - 1, by omega⟩
      simp only [spec_l29Maze.l0]
      rw [if_neg (by omega), List.drop_of_length_le (by omega)]
      rfl
    | succ d ih =>
      intro i k q hi hk Mq
      obtain ⟨n, rfl⟩ : ∃ n, k = n + 1 := ⟨k - 1, by omega⟩
      have hil : i < gs.length := by omega
      have e : rd_Gate gs (i : Int) = gs[i] := by show gs.getD i zGate = _; rw [List.getD_eq_getElem?_getD, List.getElem?_eq_getElem hil]; rfl
      obtain ⟨g1, g2, g3⟩ := G gs[i] (List.getElem_mem hil)
      simp only [spec_l29Maze.l0]
      rw [if_pos (by omega), if_pos (by omega), if_neg (by omega), e, tmod_nat h0 p1, spec_l03Bit_eq g2 (by omega) (by omega), Option.bind_some, w64_succ hil (by omega), List.drop_eq_getElem_cons hil]
      unfold otAt
      rw [List.foldl_cons]
      by_cases b : opn gs[i].f1 ((m.toNat % p.toNat : Nat) : Int) = true
      · rw [if_pos b, if_pos b]
        have := ih (i + 1) n q (by omega) (by omega) Mq
        rw [Int.natCast_add] at this
        exact this
      · obtain ⟨b', eb⟩ := spec_SetGap_false Mq g1 (k := n) (by omega)
        rw [if_neg b, if_neg b, eb, Option.bind_some]
        have := ih (i + 1) n (setb q gs[i].f0 false) (by omega) (by omega) (mok_setb _ Mq g1)
        rw [Int.natCast_add] at this
        exact this
  have := key gs.length 0 k o (by omega) (by omega) M
  simpa using this
theorem impl_MazeAtTime_eq {w h o p m : Int} {gs : List SGate} (T : tmok w h o p gs = true) (h0 : 0 ≤ m) (h1 : m ≤ 1000) {k : Nat} (hk : 30 ≤ k) : impl_MazeAtTime.f k w h o p gs m = some (w, h, otAt ((m.toNat % p.toNat : Nat) : Int) gs o, true) := by
  obtain ⟨M, p1, p6, l8, G⟩ := tmok_iff T
  obtain ⟨k', rfl⟩ : ∃ k', k = k' + 1 := ⟨k - 1, by omega⟩
  unfold impl_MazeAtTime.f
  rw [impl_TimedOk_eq (by omega), Option.bind_some, if_pos T, if_neg (by omega)]
  simp only [impl_MazeAtTime.j0]
  rw [if_neg (by simp; omega)]
  have key : ∀ (d i k : Nat) (q : Int), i + d = gs.length → d + 3 ≤ k → mok w h q = true → impl_MazeAtTime.l0 k m gs (gs.length : Int) (i : Int) w h o p gs w h q = some (w, h, otAt ((m.toNat % p.toNat : Nat) : Int) (gs.drop i) q, true) := by
    intro d
    induction d with
    | zero =>
      intro i k q hi hk Mq
      obtain ⟨n, rfl⟩ : ∃ n, k = n + 1 := ⟨k - 1, by omega⟩
      simp only [impl_MazeAtTime.l0]
      rw [if_neg (by omega), List.drop_of_length_le (by omega)]
      rfl
    | succ d ih =>
      intro i k q hi hk Mq
      obtain ⟨n, rfl⟩ : ∃ n, k = n + 1 := ⟨k - 1, by omega⟩
      have hil : i < gs.length := by omega
      have e : rd_Gate gs (i : Int) = gs[i] := by show gs.getD i zGate = _; rw [List.getD_eq_getElem?_getD, List.getElem?_eq_getElem hil]; rfl
      obtain ⟨g1, g2, g3⟩ := G gs[i] (List.getElem_mem hil)
      have gb := gaps_small g1
      have sq := mok_small Mq
      simp only [impl_MazeAtTime.l0]
      rw [if_pos (by omega), if_pos (by omega), if_pos (by omega), if_neg (by omega), e, tmod_nat h0 p1, if_pos (by omega), w64_succ hil (by omega), List.drop_eq_getElem_cons hil]
      unfold otAt
      rw [List.foldl_cons]
      by_cases b : opn gs[i].f1 ((m.toNat % p.toNat : Nat) : Int) = true
      · rw [if_neg (fun z => (bit_zero g2 (by omega) (by omega)).1 z b), if_pos b]
        have := ih (i + 1) n q (by omega) (by omega) Mq
        rw [Int.natCast_add] at this
        exact this
      · rw [if_pos ((bit_zero g2 (by omega) (by omega)).2 b), if_neg b, impl_with_eq w h false sq.1 (by omega) gb.1 (by omega), Option.bind_some]
        have := ih (i + 1) n (setb q gs[i].f0 false) (by omega) (by omega) (mok_setb _ Mq g1)
        rw [Int.natCast_add] at this
        exact this
  have := key gs.length 0 k' o (by omega) (by omega) M
  simpa using this
theorem or_shl_eq {o g : Int} (ho : 0 ≤ o) (h1 : o < 2 ^ 62) (hg : 0 ≤ g) (h2 : g < 62) : Go.bits .or .i64 o (shl .i64 1 g) = setb o g true := by
  obtain ⟨a, rfl⟩ := Int.eq_ofNat_of_zero_le ho
  obtain ⟨n, rfl⟩ := Int.eq_ofNat_of_zero_le hg
  have hp : (2 : Nat) ^ n < 2 ^ 62 := Nat.pow_lt_pow_right (by decide) (by omega)
  rw [shl_one (by omega), bits_or_i (by omega) (by omega)]
  unfold setb
  rw [if_pos rfl]
  simp only [Int.toNat_natCast]
def nx1 (w h o : Int) (i : Nat) (out : Int) (d : Nat) : Int := if 0 ≤ st w h o i d then setb out (st w h o i d) true else out
def nxc (w h o set : Int) (out : Int) (i : Nat) : Int := if opn set i = true then (List.range' 0 4).foldl (nx1 w h o i) out else out
def nxt (w h o set : Int) : Int := (List.range' 0 (stN w h)).foldl (nxc w h o set) set
def b16 (x : Int) : Prop := 0 ≤ x ∧ x < 2 ^ 16
theorem nx1_b16 {w h o : Int} {i d : Nat} {out : Int} (B : b16 out) : b16 (nx1 w h o i out d) := by
  unfold nx1
  split
  · rename_i H
    obtain ⟨_, _, f3, _, _⟩ := st_facts H
    have a := icell_iff.1 f3
    have b := cells_bd w h
    exact setb_lt (n := 16) true B.1 B.2 a.1 (by omega)
  · exact B
theorem foldl_keep {α σ : Type} {f : σ → α → σ} {I : σ → Prop} (H : ∀ s a, I s → I (f s a)) : ∀ (l : List α) (s : σ), I s → I (l.foldl f s)
  | [], s, h => h
  | a :: l, s, h => by rw [List.foldl_cons]; exact foldl_keep H l _ (H s a h)
theorem nxc_b16 {w h o set : Int} {i : Nat} {out : Int} (B : b16 out) : b16 (nxc w h o set out i) := by
  unfold nxc
  split
  · exact foldl_keep (fun s a hs => nx1_b16 hs) _ _ B
  · exact B
theorem nxt_b16 {w h o set : Int} (B : b16 set) : b16 (nxt w h o set) := foldl_keep (fun s a hs => nxc_b16 hs) _ _ B
theorem opn_foldl {α : Type} {f : Int → α → Int} {P : α → Bool} {y : Int} (H : ∀ s a, opn (f s a) y = (opn s y || P a)) : ∀ (l : List α) (s : Int), opn (l.foldl f s) y = (opn s y || l.any P)
  | [], s => by simp
  | a :: l, s => by rw [List.foldl_cons, opn_foldl H l, H, List.any_cons, Bool.or_assoc]
theorem opn_nx1 {w h o : Int} {i d : Nat} {out y : Int} (hy : 0 ≤ y) : opn (nx1 w h o i out d) y = (opn out y || decide (0 ≤ st w h o i d ∧ st w h o i d = y)) := by
  unfold nx1
  by_cases H : 0 ≤ st w h o i d
  · rw [if_pos H, opn_setb _ H hy]
    by_cases e : y = st w h o i d
    · rw [if_pos e]; simp [H, ← e, hy]
    · rw [if_neg e]
      have : ¬ st w h o i d = y := fun q => e q.symm
      simp [this]
  · rw [if_neg H]; simp [H]
theorem opn_nxt {w h o set y : Int} (hy : 0 ≤ y) : opn (nxt w h o set) y = (opn set y || (List.range' 0 (stN w h)).any fun i => opn set i && (List.range' 0 4).any fun d => decide (0 ≤ st w h o i d ∧ st w h o i d = y)) := by
  unfold nxt
  refine opn_foldl (P := fun i : Nat => opn set i && (List.range' 0 4).any fun d => decide (0 ≤ st w h o i d ∧ st w h o i d = y)) (fun s i => ?_) _ _
  unfold nxc
  by_cases b : opn set (i : Int) = true
  · rw [if_pos b, b, Bool.true_and]
    exact opn_foldl (P := fun d : Nat => decide (0 ≤ st w h o i d ∧ st w h o i d = y)) (fun s d => opn_nx1 hy) _ _
  · rw [if_neg b]; simp [b]
theorem spec_nx_inner {w h o set : Int} {i : Nat} (hs : b16 set) (hi : i < 16) (hb : opn set (i : Int) = true) : ∀ (r d K : Nat) (out : Int), d + r = 4 → 5 ≤ K → b16 out → spec_l29Next.l1 (K + 2 * r + 2) set out (i : Int) (d : Int) w h o = spec_l29Next.l0 K set ((List.range' d r).foldl (nx1 w h o i) out) ((i : Int) + 1) w h o
  | 0, d, K, out, hd, hK, B => by
    obtain rfl : d = 4 := by omega
    rw [show K + 2 * 0 + 2 = (K + 1) + 1 by omega]
    conv => lhs; unfold spec_l29Next.l1
    rw [if_neg (by omega)]
    conv => lhs; unfold spec_l29Next.j2
    rw [if_neg (by decide), w64 (x := (i : Int) + 1) (by omega) (by omega)]
    rfl
  | r + 1, d, K, out, hd, hK, B => by
    rw [show K + 2 * (r + 1) + 2 = (K + 2 * r + 2 + 1) + 1 by omega]
    conv => lhs; unfold spec_l29Next.l1
    have hs2 : set < 65536 := by have := hs.2; simpa using this
    rw [if_pos (by omega), spec_l03Bit_eq hs.1 (by omega) (by omega), Option.bind_some]
    conv => lhs; unfold spec_l29Next.j2
    rw [if_pos hb, spec_Step_eq (by omega), Option.bind_some, w64 (x := (d : Int) + 1) (by omega) (by omega), List.range'_succ, List.foldl_cons]
    have B' := nx1_b16 (w := w) (h := h) (o := o) (i := i) (d := d) B
    have e : nx1 w h o i out d = if 0 ≤ st w h o i d then setb out (st w h o i d) true else out := rfl
    have ih := spec_nx_inner (w := w) (h := h) (o := o) hs hi hb r (d + 1) K (nx1 w h o i out d) (by omega) hK B'
    rw [Int.natCast_add] at ih
    by_cases H : 0 ≤ st w h o i d
    · obtain ⟨_, _, f3, _, _⟩ := st_facts H
      have a := icell_iff.1 f3
      have b := cells_bd w h
      have B2 : out < 65536 := by have := B.2; simpa using this
      rw [if_pos (by omega), if_pos H, or_shl_eq B.1 (by omega) H (by omega)]
      rw [e, if_pos H] at ih ⊢
      exact ih
    · rw [if_neg (by omega)]
      rw [e, if_neg H] at ih ⊢
      exact ih
theorem spec_l29Next_eq {w h o set : Int} (hs : b16 set) {k : Nat} (hk : 220 ≤ k) : spec_l29Next.f k w h o set = some (nxt w h o set) := by
  unfold spec_l29Next.f
  have hN := (show ((stN w h : Nat) : Int) = cells w h by have := cells_bd w h; unfold stN; omega)
  have hL := (show stN w h ≤ 16 by have := cells_bd w h; unfold stN; omega)
  have hs2 : set < 65536 := by have := hs.2; simpa using this
  have key : ∀ (r i k : Nat) (out : Int), i + r = stN w h → 11 * r + 20 ≤ k → b16 out → spec_l29Next.l0 k set out (i : Int) w h o = some ((List.range' i r).foldl (nxc w h o set) out) := by
    intro r
    induction r with
    | zero =>
      intro i k out hi hk B
      obtain ⟨n, rfl⟩ : ∃ n, k = n + 1 := ⟨k - 1, by omega⟩
      conv => lhs; unfold spec_l29Next.l0
      rw [spec_CountCells_eq, Option.bind_some, if_neg (by omega)]
      rfl
    | succ r ih =>
      intro i k out hi hk B
      rw [List.range'_succ, List.foldl_cons]
      by_cases hb : opn set (i : Int) = true
      · obtain ⟨K, rfl⟩ : ∃ K, k = K + 11 := ⟨k - 11, by omega⟩
        rw [show K + 11 = (K + 2 * 4 + 2) + 1 by omega]
        conv => lhs; unfold spec_l29Next.l0
        rw [spec_CountCells_eq, Option.bind_some, if_pos (by omega)]
        have h1 := spec_nx_inner (w := w) (h := h) (o := o) (i := i) hs (by omega) hb 4 0 K out (by omega) (by omega) B
        have h2 := ih (i + 1) K (nxc w h o set out i) (by omega) (by omega) (nxc_b16 B)
        rw [Int.natCast_add] at h2
        have e : nxc w h o set out i = (List.range' 0 4).foldl (nx1 w h o i) out := by unfold nxc; rw [if_pos hb]
        rw [e] at h2 ⊢
        exact h1.trans h2
      · obtain ⟨K, rfl⟩ : ∃ K, k = K + 1 + 1 + 1 := ⟨k - 3, by omega⟩
        conv => lhs; unfold spec_l29Next.l0
        rw [spec_CountCells_eq, Option.bind_some, if_pos (by omega)]
        conv => lhs; unfold spec_l29Next.l1
        rw [if_pos (by decide), spec_l03Bit_eq hs.1 (by omega) (by omega), Option.bind_some]
        conv => lhs; unfold spec_l29Next.j2
        rw [if_neg hb, w64 (x := (i : Int) + 1) (by omega) (by omega)]
        have h2 := ih (i + 1) K (nxc w h o set out i) (by omega) (by omega) (nxc_b16 B)
        rw [Int.natCast_add] at h2
        have e : nxc w h o set out i = out := by unfold nxc; rw [if_neg hb]
        rw [e] at h2 ⊢
        exact h2
  exact key (stN w h) 0 k set (by omega) (by omega) hs
end Go.Proofs.Ytimejdhglmajdaa.F
end

section
namespace Go.Proofs.Ytimejdhglmajdaa.F
open Go.RowKit Go.Proofs.YtimejdhglmajdaaW.PrintWords Go.Proofs.YtimejdhglmajdaaW.PrintLast Go.Proofs.YtimejdhglmajdaaW.PrintMore
set_option linter.unusedVariables false
set_option linter.unusedSimpArgs false
theorem mem_c16 {x : Int} : x ∈ cells16 ↔ 0 ≤ x ∧ x < 16 := by
  unfold cells16
  simp only [List.mem_cons, List.not_mem_nil, or_false]
  omega
theorem stN_i (w h : Int) : ((stN w h : Nat) : Int) = cells w h := by have := cells_bd w h; unfold stN; omega
def Rel (w h : Int) (S : List Int) (set : Int) : Prop := b16 set ∧ (∀ y ∈ S, icell w h y = true) ∧ ∀ y : Int, 0 ≤ y → (y ∈ S ↔ opn set y = true)
theorem rel_start {w h a : Int} (ha : icell w h a = true) : Rel w h [a] ((2 ^ a.toNat : Nat) : Int) := by
  have c := icell_iff.1 ha
  have b := cells_bd w h
  refine ⟨⟨Int.natCast_nonneg _, ?_⟩, fun y hy => by rw [List.mem_singleton] at hy; rw [hy]; exact ha, fun y hy => ?_⟩
  · have := Nat.pow_lt_pow_right (a := 2) (by decide) (show a.toNat < 16 by omega)
    have e : ((2 : Int) ^ 16) = ((2 ^ 16 : Nat) : Int) := by simp
    rw [e]
    exact Int.ofNat_lt.2 this
  · unfold opn
    rw [List.mem_singleton, Int.toNat_natCast, Nat.testBit_two_pow, decide_eq_true_eq]
    omega
theorem rel_step {w h o : Int} {S : List Int} {set : Int} (R : Rel w h S set) : ∃ S2, impl_EarliestAt.l1 w h o S = some S2 ∧ Rel w h S2 (nxt w h o set) := by
  obtain ⟨B, C, E⟩ := R
  have hw : ∀ c, impl_WaysFrom.f 1000 w h o c = some (ways w h o c) := fun c => impl_WaysFrom_eq (by decide) w h o c
  have hst : ∀ c d, impl_Step.f 1000 w h o c d = some (st w h o c d) := fun c d => impl_Step_eq (by decide) w h o c d
  unfold impl_EarliestAt.l1
  simp only [hw, hst]
  rw [if_pos]
  · refine ⟨_, rfl, nxt_b16 B, fun y hy => ?_, fun y hy => ?_⟩
    · rw [List.mem_filter, Bool.or_eq_true, List.any_eq_true, List.contains_iff_mem] at hy
      rcases hy.2 with h1 | ⟨c, hc, h2⟩
      · exact C y h1
      · obtain ⟨d, hd, e⟩ := List.any_eq_true.1 h2
        have e' : st w h o c d = y := by simpa using e
        have := (st_facts (ways_mem hd)).2.2.1
        rwa [e'] at this
    · rw [List.mem_filter, Bool.or_eq_true, List.any_eq_true, List.contains_iff_mem, opn_nxt hy, Bool.or_eq_true, List.any_eq_true, ← E y hy]
      constructor
      · rintro ⟨_, h1 | ⟨c, hc, h2⟩⟩
        · exact Or.inl h1
        · obtain ⟨d, hd, e⟩ := List.any_eq_true.1 h2
          have e' : st w h o c d = y := by simpa using e
          have hd0 := ways_mem hd
          obtain ⟨_, f2, _, f4, f5⟩ := st_facts hd0
          have ic := icell_iff.1 f2
          have hN := stN_i w h
          refine Or.inr ⟨c.toNat, by rw [List.mem_range'_1]; omega, ?_⟩
          have ec : ((c.toNat : Nat) : Int) = c := by omega
          rw [ec, Bool.and_eq_true]
          refine ⟨(E c ic.1).1 hc, List.any_eq_true.2 ⟨d.toNat, by rw [List.mem_range'_1]; omega, ?_⟩⟩
          have ed : ((d.toNat : Nat) : Int) = d := by omega
          rw [ed]
          exact decide_eq_true ⟨hd0, e'⟩
      · rintro (h1 | ⟨i, hi, h2⟩)
        · have := icell_iff.1 (C y h1)
          have hb := cells_bd w h
          exact ⟨mem_c16.2 ⟨hy, by omega⟩, Or.inl h1⟩
        · rw [Bool.and_eq_true] at h2
          obtain ⟨d, hd, e⟩ := List.any_eq_true.1 h2.2
          simp only [decide_eq_true_eq] at e
          obtain ⟨_, f2, f3, f4, f5⟩ := st_facts e.1
          have i3 := icell_iff.1 f3
          have hb := cells_bd w h
          refine ⟨mem_c16.2 ⟨hy, by omega⟩, Or.inr ⟨(i : Int), (E _ (by omega)).2 h2.1, List.any_eq_true.2 ⟨(d : Int), ?_, by simp [e.2]⟩⟩⟩
          unfold ways
          rw [List.mem_filter]
          have : (d : Int) = 0 ∨ (d : Int) = 1 ∨ (d : Int) = 2 ∨ (d : Int) = 3 := by omega
          refine ⟨by simp only [List.mem_cons, List.not_mem_nil, or_false]; omega, decide_eq_true e.1⟩
  · refine List.all_eq_true.2 fun c hc => ?_
    rw [Bool.and_eq_true, List.all_eq_true]
    refine ⟨decide_eq_true (ways_length w h o c), fun d hd => ?_⟩
    have i3 := icell_iff.1 (st_facts (ways_mem hd)).2.2.1
    have hb := cells_bd w h
    exact decide_eq_true ⟨ways_mem hd, by omega⟩
def tset (w h o p : Int) (gs : List SGate) (a m : Int) : Nat → Int
  | 0 => ((2 ^ a.toNat : Nat) : Int)
  | i + 1 => nxt w h (otAt (((m.toNat + i) % p.toNat : Nat) : Int) gs o) (tset w h o p gs a m i)
def ear (T : Nat → Int) (m b : Int) : Nat → Nat → Int
  | 0, _ => -1
  | n + 1, i => if opn (T i) b = true then m + i else ear T m b n (i + 1)
theorem tset_b16 {w h o p a m : Int} {gs : List SGate} (ha : icell w h a = true) : ∀ i, b16 (tset w h o p gs a m i)
  | 0 => (rel_start ha).1
  | i + 1 => nxt_b16 (tset_b16 ha i)
theorem impl_ear {w h o p a m b : Int} {gs : List SGate} (T : tmok w h o p gs = true) (h0 : 0 ≤ m) (h5 : m ≤ 500) (hb : icell w h b = true) : ∀ (n i k : Nat) (S : List Int), i + n = 201 → n + 1 ≤ k → Rel w h S (tset w h o p gs a m i) →
    impl_EarliestAt.l0 w h o p gs m b k S (m + i) = some (ear (tset w h o p gs a m) m b n i)
  | 0, i, k, S, hi, hk, R => by
    obtain ⟨k', rfl⟩ : ∃ k', k = k' + 1 := ⟨k - 1, by omega⟩
    simp only [impl_EarliestAt.l0, ear]
    rw [w64 (x := m + 200) (by omega) (by omega), if_neg (by omega)]
  | n + 1, i, k, S, hi, hk, R => by
    obtain ⟨k', rfl⟩ : ∃ k', k = k' + 1 := ⟨k - 1, by omega⟩
    have cb := icell_iff.1 hb
    simp only [impl_EarliestAt.l0, ear]
    rw [w64 (x := m + 200) (by omega) (by omega), if_pos (by omega)]
    have e : S.contains b = true ↔ opn (tset w h o p gs a m i) b = true := by rw [List.contains_iff_mem]; exact R.2.2 b cb.1
    by_cases q : opn (tset w h o p gs a m i) b = true
    · rw [if_pos (e.2 q), if_pos q]
    · have em : (m + (i : Int)).toNat = m.toNat + i := by omega
      rw [if_neg (fun z => q (e.1 z)), if_neg q, impl_MazeAtTime_eq T (by omega) (by omega) (by decide), Option.bind_some, em]
      obtain ⟨S2, e1, R2⟩ := rel_step (o := otAt (((m.toNat + i) % p.toNat : Nat) : Int) gs o) R
      simp only
      rw [e1, Option.bind_some, w64 (x := m + (i : Int) + 1) (by omega) (by omega), show m + (i : Int) + 1 = m + ((i + 1 : Nat) : Int) by omega]
      exact impl_ear T h0 h5 hb n (i + 1) k' S2 (by omega) (by omega) R2
theorem ear_none {T : Nat → Int} {m b : Int} : ∀ (n i : Nat), (∀ j, i ≤ j → opn (T j) b = false) → ear T m b n i = -1
  | 0, i, H => rfl
  | n + 1, i, H => by
    unfold ear
    rw [H i (Nat.le_refl _)]
    exact ear_none n (i + 1) (fun j hj => H j (by omega))
theorem still {w h o p a m : Int} {gs : List SGate} (p1 : 1 ≤ p) {i : Nat} (hq : p.toNat ≤ i) (H : ∀ j, i - p.toNat ≤ j → j ≤ i → tset w h o p gs a m j = tset w h o p gs a m i) : ∀ n, tset w h o p gs a m (i + n) = tset w h o p gs a m i
  | 0 => rfl
  | n + 1 => by
    have ih := still p1 hq H n
    have hp : 0 < p.toNat := by omega
    have hr := Nat.mod_lt (n) hp
    have e : (m.toNat + (i + n)) % p.toNat = (m.toNat + (i - p.toNat + n % p.toNat)) % p.toNat := by
      have : m.toNat + (i + n) = m.toNat + (i - p.toNat + n % p.toNat) + p.toNat * (n / p.toNat + 1) := by
        have := Nat.div_add_mod n p.toNat
        rw [Nat.mul_add]
        omega
      rw [this, Nat.add_mul_mod_self_left]
    have h1 := H (i - p.toNat + n % p.toNat) (by omega) (by omega)
    have h2 := H (i - p.toNat + n % p.toNat + 1) (by omega) (by omega)
    show nxt w h (otAt (((m.toNat + (i + n)) % p.toNat : Nat) : Int) gs o) (tset w h o p gs a m (i + n)) = _
    rw [e, ih, ← h1]
    exact h2.trans h1.symm
theorem spec_ear {w h o p a m b : Int} {gs : List SGate} (T : tmok w h o p gs = true) (h0 : 0 ≤ m) (h5 : m ≤ 500) (ha : icell w h a = true) (hb : icell w h b = true) : ∀ (n i k qu : Nat), i + n = 201 → 2 * n + 300 ≤ k → qu ≤ i → (∀ j, i - qu ≤ j → j ≤ i → tset w h o p gs a m j = tset w h o p gs a m i) → (0 < qu → opn (tset w h o p gs a m i) b = false) →
    spec_EarliestAt.l0 k m b (tset w h o p gs a m i) (qu : Int) (i : Int) w h o p gs = some (ear (tset w h o p gs a m) m b n i)
  | 0, i, k, qu, hi, hk, hqi, HQ, HO => by
    obtain ⟨k', rfl⟩ : ∃ k', k = k' + 1 + 1 := ⟨k - 2, by omega⟩
    conv => lhs; unfold spec_EarliestAt.l0
    rw [if_neg (by omega)]
    conv => lhs; unfold spec_EarliestAt.j2
    rw [if_neg (by decide)]
    rfl
  | n + 1, i, k, qu, hi, hk, hqi, HQ, HO => by
    obtain ⟨k', rfl⟩ : ∃ k', k = k' + 1 + 1 := ⟨k - 2, by omega⟩
    obtain ⟨M, p1, p6, _, G⟩ := tmok_iff T
    have cb := icell_iff.1 hb
    have B := tset_b16 (o := o) (p := p) (gs := gs) (m := m) ha i
    have B2 : tset w h o p gs a m i < 65536 := by have := B.2; simpa using this
    conv => lhs; unfold spec_EarliestAt.l0
    rw [if_pos (by omega)]
    conv => lhs; unfold spec_EarliestAt.j2
    by_cases hq : (qu : Int) ≤ p
    · rw [if_pos (decide_eq_true hq), spec_l03Bit_eq B.1 (by omega) cb.1, Option.bind_some]
      unfold ear
      by_cases q : opn (tset w h o p gs a m i) b = true
      · rw [if_pos q, if_pos q, w64 (by omega) (by omega)]
      · have em : (m + (i : Int)).toNat = m.toNat + i := by omega
        rw [if_neg q, if_neg q, w64 (x := m + (i : Int)) (by omega) (by omega), spec_l29Maze_eq T (by omega) (by omega), Option.bind_some, em]
        simp only
        rw [spec_l29Next_eq B (by omega), Option.bind_some, w64 (x := (i : Int) + 1) (by omega) (by omega), w64 (x := (qu : Int) + 1) (by omega) (by omega)]
        have e : nxt w h (otAt (((m.toNat + i) % p.toNat : Nat) : Int) gs o) (tset w h o p gs a m i) = tset w h o p gs a m (i + 1) := rfl
        rw [e]
        have q' : opn (tset w h o p gs a m i) b = false := by simpa using q
        by_cases eq : tset w h o p gs a m (i + 1) = tset w h o p gs a m i
        · rw [if_pos eq]
          have := spec_ear T h0 h5 ha hb n (i + 1) k' (qu + 1) (by omega) (by omega) (by omega) (fun j h1 h2 => by
            by_cases e2 : j = i + 1
            · rw [e2]
            · rw [HQ j (by omega) (by omega), eq]) (fun _ => by rw [eq]; exact q')
          rw [Int.natCast_add, Int.natCast_add] at this
          exact this
        · rw [if_neg eq]
          have := spec_ear T h0 h5 ha hb n (i + 1) k' 0 (by omega) (by omega) (by omega) (fun j h1 h2 => by
            obtain rfl : j = i + 1 := by omega
            rfl) (fun z => absurd z (by decide))
          rw [Int.natCast_add] at this
          exact this
    · rw [if_neg (by simpa using hq)]
      have hp : p.toNat ≤ qu := by omega
      have st := still (w := w) (h := h) (o := o) (p := p) (a := a) (m := m) (gs := gs) p1 (i := i) (by omega) (fun j h1 h2 => HQ j (by omega) h2)
      rw [ear_none (n + 1) i (fun j hj => by
        have := st (j - i)
        rw [show i + (j - i) = j by omega] at this
        rw [this]
        exact HO (by omega))]
def early (w h o p : Int) (gs : List SGate) (a m b : Int) : Int :=
  if (tmok w h o p gs && icell w h a && icell w h b && decide (0 ≤ m ∧ m ≤ 500)) = true then ear (tset w h o p gs a m) m b 201 0 else -1
theorem impl_EarliestAt_eq (w h o p : Int) (gs : List SGate) (a m b : Int) : impl_EarliestAt.f w h o p gs a m b = some (early w h o p gs a m b) := by
  unfold impl_EarliestAt.f early
  rw [impl_TimedOk_eq (by decide), Option.bind_some]
  by_cases T : tmok w h o p gs = true
  · have M := (tmok_iff T).1
    rw [if_pos T, impl_isIn_eq, Option.bind_some]
    by_cases C : (icell w h a && icell w h b) = true
    · simp only [Bool.and_eq_true] at C
      rw [if_pos (by simp [M, C.1, C.2])]
      by_cases h0 : m < 0
      · rw [if_pos h0, if_neg (show ¬ (tmok w h o p gs && icell w h a && icell w h b && decide (0 ≤ m ∧ m ≤ 500)) = true by simp; intros; omega)]
      · rw [if_neg h0]
        by_cases h5 : m > 500
        · rw [if_pos h5, if_neg (show ¬ (tmok w h o p gs && icell w h a && icell w h b && decide (0 ≤ m ∧ m ≤ 500)) = true by simp; intros; omega)]
        · have a1 := icell_iff.1 C.1
          have b1 := icell_iff.1 C.2
          have hc := cells_bd w h
          rw [if_neg h5, if_pos (show (0 ≤ a ∧ a < 16) ∧ 0 ≤ b ∧ b < 16 by omega), if_pos (by simp [T, C.1, C.2]; omega)]
          have := impl_ear (a := a) (m := m) T (by omega) (by omega) C.2 201 0 300 [a] (by decide) (by decide) (rel_start C.1)
          simpa using this
    · rw [if_neg (by simpa [M] using C), if_neg (by simp only [Bool.and_eq_true] at C; simp; intro _ x y; exact absurd ⟨x, y⟩ C)]
  · rw [if_neg T, if_neg (by simp [T])]
theorem spec_EarliestAt_eq {k : Nat} (hk : 1000 ≤ k) (w h o p : Int) (gs : List SGate) (a m b : Int) : spec_EarliestAt.f k w h o p gs a m b = some (early w h o p gs a m b) := by
  obtain ⟨k', rfl⟩ : ∃ k', k = k' + 1 := ⟨k - 1, by omega⟩
  have e : spec_EarliestAt.f (k' + 1) w h o p gs a m b = spec_EarliestAt.j0 (k' + 1) a m b (!(tmok w h o p gs && icell w h a && icell w h b && decide (0 ≤ m ∧ m ≤ 500))) w h o p gs := by
    unfold spec_EarliestAt.f
    rw [spec_TimedOk_eq (by omega), Option.bind_some]
    by_cases T : tmok w h o p gs = true
    · have M := (tmok_iff T).1
      rw [if_pos T, spec_l04Has_eq, Option.bind_some, M, Bool.true_and]
      by_cases c1 : icell w h a = true
      · rw [if_pos c1, spec_l04Has_eq, Option.bind_some, M, Bool.true_and]
        by_cases c2 : icell w h b = true
        · rw [if_pos c2, spec_l01In_eq, Option.bind_some, T, c1, c2]
          rfl
        · rw [if_neg c2]; simp [c2]
      · rw [if_neg c1]; simp [c1]
    · rw [if_neg T]; simp [T]
  rw [e]
  simp only [spec_EarliestAt.j0]
  unfold early
  by_cases H : (tmok w h o p gs && icell w h a && icell w h b && decide (0 ≤ m ∧ m ≤ 500)) = true
  · rw [if_neg (by simp only [H]; decide), if_pos H]
    simp only [Bool.and_eq_true, decide_eq_true_eq] at H
    obtain ⟨⟨⟨T, c1⟩, c2⟩, h0, h5⟩ := H
    have a1 := icell_iff.1 c1
    have hc := cells_bd w h
    have es : shl .i64 1 a = tset w h o p gs a m 0 := by
      have := shl_one (g := a.toNat) (by omega)
      rwa [show ((a.toNat : Nat) : Int) = a by omega] at this
    rw [if_pos a1.1, es]
    exact spec_ear T h0 h5 c1 c2 201 0 k' 0 (by decide) (by omega) (Nat.le_refl _) (fun j h1 h2 => by have e0 : j = 0 := (by omega); subst e0; rfl) (fun z => absurd z (by decide))
  · rw [if_pos (by simp only [Bool.not_eq_true] at H; simp only [H]; rfl), if_neg H]
def canF (w h o p : Int) (gs : List SGate) (a0 a1 b0 b1 : Int) : Bool := decide (0 ≤ early w h o p gs a1 a0 b1 ∧ early w h o p gs a1 a0 b1 ≤ b0)
theorem impl_CanFollow_eq (w h o p : Int) (gs : List SGate) (a0 a1 b0 b1 : Int) : impl_CanFollow.f w h o p gs a0 a1 b0 b1 = some (canF w h o p gs a0 a1 b0 b1) := by
  unfold impl_CanFollow.f canF
  rw [impl_EarliestAt_eq, Option.bind_some]
  by_cases q : early w h o p gs a1 a0 b1 ≥ 0
  · rw [if_pos q]; simp [q]
  · rw [if_neg q]; simp; omega
theorem spec_CanFollow_eq {k : Nat} (hk : 1000 ≤ k) (w h o p : Int) (gs : List SGate) (a0 a1 b0 b1 : Int) : spec_CanFollow.f k w h o p gs a0 a1 b0 b1 = some (canF w h o p gs a0 a1 b0 b1) := by
  unfold spec_CanFollow.f canF
  rw [spec_EarliestAt_eq hk, Option.bind_some]
  by_cases q : early w h o p gs a1 a0 b1 ≥ 0
  · rw [if_pos q]; simp [q]
  · rw [if_neg q]; simp; omega
theorem toTimed_eq {k : Nat} {gs : List SlaGate} (hl : gs.length ≤ 1048576) (hk : gs.length + 1 ≤ k) (w h o p : Int) : laws_toTimed.f k w h o p gs = some (w, h, o, p, gs.map toGate) := by
  unfold laws_toTimed.f
  simp only [laws_toMaze.f, laws_toGrid.f, Option.bind_some]
  rw [laws_toGateS_eq hl hk]
  rfl
theorem eqTimed_refl {k : Nat} {gs : List SGate} (hl : gs.length ≤ 1048576) (hk : gs.length + 1 ≤ k) (w h o p : Int) : laws_eqTimed.f k w h o p gs w h o p gs = some true := by
  unfold laws_eqTimed.f laws_eqMaze.f laws_eqGrid.f
  simp only [if_true, Option.bind_some]
  rw [laws_eqGateS_refl (by omega) hk]
  simp
end Go.Proofs.Ytimejdhglmajdaa.F
end

section
namespace Go.Proofs.Ytimejdhglmajdaa.F
open Go.RowKit Go.Proofs.YtimejdhglmajdaaW.PrintWords Go.Proofs.YtimejdhglmajdaaW.PrintLast Go.Proofs.YtimejdhglmajdaaW.PrintMore
set_option linter.unusedVariables false
set_option linter.unusedSimpArgs false
def ffr (w h o p : Int) (gs : List SGate) (l : List SEntry) : Nat → Nat → Int
  | 0, _ => -1
  | n + 1, i => if canF w h o p gs (l.getD (i - 1) zEntry).f0 (l.getD (i - 1) zEntry).f1 (l.getD i zEntry).f0 (l.getD i zEntry).f1 = true then ffr w h o p gs l n (i + 1) else (i : Int)
def ffl (w h o p : Int) (gs : List SGate) (l : List SEntry) : Int := if rcok w h o p gs l = true then ffr w h o p gs l (l.length - 1) 1 else -1
theorem ffr_cases (w h o p : Int) (gs : List SGate) (l : List SEntry) : ∀ n i, ffr w h o p gs l n i = -1 ∨ 0 ≤ ffr w h o p gs l n i
  | 0, i => Or.inl rfl
  | n + 1, i => by
    unfold ffr
    split
    · exact ffr_cases w h o p gs l n (i + 1)
    · exact Or.inr (by omega)
theorem ffl_cases (w h o p : Int) (gs : List SGate) (l : List SEntry) : ffl w h o p gs l = -1 ∨ 0 ≤ ffl w h o p gs l := by
  unfold ffl
  split
  · exact ffr_cases w h o p gs l _ _
  · exact Or.inl rfl
theorem impl_FirstFalse_eq {k : Nat} {l : List SEntry} (hl : l.length ≤ 1048576) (hk : l.length + 100 ≤ k) (w h o p : Int) (gs : List SGate) : impl_FirstFalse.f k w h o p gs l = some (ffl w h o p gs l) := by
  unfold impl_FirstFalse.f ffl
  rw [impl_RecordOk_eq hl (by omega), Option.bind_some]
  by_cases R : rcok w h o p gs l = true
  · rw [if_pos R, if_pos R]
    have key : ∀ (n i k : Nat), (i + n = l.length ∨ n = 0 ∧ l.length ≤ i) → 1 ≤ i → i ≤ 1048577 → n + 1 ≤ k → impl_FirstFalse.l0 k l (i : Int) w h o p gs = some (ffr w h o p gs l n i) := by
      intro n
      induction n with
      | zero =>
        intro i k hi h1 h2 hk
        obtain ⟨m, rfl⟩ : ∃ m, k = m + 1 := ⟨k - 1, by omega⟩
        simp only [impl_FirstFalse.l0, ffr]
        rw [if_neg (by omega)]
      | succ n ih =>
        intro i k hi h1 h2 hk
        obtain ⟨m, rfl⟩ : ∃ m, k = m + 1 := ⟨k - 1, by omega⟩
        simp only [impl_FirstFalse.l0, ffr]
        have e1 : (i : Int) - 1 = ((i - 1 : Nat) : Int) := by omega
        rw [if_pos (by omega), w64 (x := (i : Int) - 1) (by omega) (by omega), if_pos (by omega), if_pos (by omega), if_pos (by omega), impl_CanFollow_eq, Option.bind_some, w64 (x := (i : Int) + 1) (by omega) (by omega), e1]
        have := ih (i + 1) m (by omega) (by omega) (by omega) (by omega)
        rw [Int.natCast_add] at this
        show (if canF w h o p gs (l.getD (i - 1) zEntry).f0 (l.getD (i - 1) zEntry).f1 (l.getD i zEntry).f0 (l.getD i zEntry).f1 = true then _ else _) = _
        split
        · exact this
        · rfl
    exact key (l.length - 1) 1 k (by omega) (by omega) (by omega) (by omega)
  · rw [if_neg R, if_neg R]
set_option maxRecDepth 20000 in
theorem spec_FirstFalse_eq {k : Nat} {l : List SEntry} (hl : l.length ≤ 1048576) (hk : 3 * l.length + 1200 ≤ k) (w h o p : Int) (gs : List SGate) : spec_FirstFalse.f k w h o p gs l = some (ffl w h o p gs l) := by
  unfold spec_FirstFalse.f ffl
  by_cases R : rcok w h o p gs l = true
  · rw [if_pos R]
    have key : ∀ (n i k : Nat), (i + n = l.length ∨ n = 0 ∧ l.length ≤ i) → 1 ≤ i → i ≤ 1048577 → 2 * n + (l.length + 1100) ≤ k → spec_FirstFalse.l0 k l (i : Int) w h o p gs = some (ffr w h o p gs l n i) := by
      intro n
      induction n with
      | zero =>
        intro i k hi h1 h2 hk
        obtain ⟨m, rfl⟩ : ∃ m, k = m + 1 + 1 := ⟨k - 2, by omega⟩
        simp only [spec_FirstFalse.l0, spec_FirstFalse.j1, ffr]
        rw [if_neg (by omega), if_neg (by decide)]
      | succ n ih =>
        intro i k hi h1 h2 hk
        obtain ⟨m, rfl⟩ : ∃ m, k = m + 1 + 1 := ⟨k - 2, by omega⟩
        have hm1 : l.length + 40 ≤ m + 1 := by omega
        have hm2 : 1000 ≤ m := by omega
        have hlt : (i : Int) < (l.length : Int) := by omega
        conv => lhs; unfold spec_FirstFalse.l0
        rw [if_pos hlt, spec_RecordOk_eq hl hm1, Option.bind_some]
        conv => lhs; unfold spec_FirstFalse.j1
        unfold ffr
        have e1 : (i : Int) - 1 = ((i - 1 : Nat) : Int) := by omega
        rw [if_pos R, w64 (x := (i : Int) - 1) (by omega) (by omega), if_pos (show (0 : Int) ≤ (i : Int) - 1 by omega), if_pos (show (i : Int) - 1 < (l.length : Int) by omega), if_pos (show (0 : Int) ≤ (i : Int) by omega), if_pos hlt, spec_CanFollow_eq hm2, Option.bind_some, w64 (x := (i : Int) + 1) (by omega) (by omega), e1]
        have := ih (i + 1) m (by omega) (by omega) (by omega) (by omega)
        rw [Int.natCast_add] at this
        show (if canF w h o p gs (l.getD (i - 1) zEntry).f0 (l.getD (i - 1) zEntry).f1 (l.getD i zEntry).f0 (l.getD i zEntry).f1 = true then _ else _) = _
        split
        · exact this
        · rfl
    exact key (l.length - 1) 1 k (by omega) (by omega) (by omega) (by omega)
  · rw [if_neg R]
    obtain ⟨m, rfl⟩ : ∃ m, k = m + 1 + 1 := ⟨k - 2, by omega⟩
    simp only [spec_FirstFalse.l0, spec_FirstFalse.j1]
    split
    · rw [spec_RecordOk_eq hl (by omega), Option.bind_some, if_neg R]
    · rw [if_neg (by decide)]
theorem impl_IsTrueRecord_eq {k : Nat} {l : List SEntry} (hl : l.length ≤ 1048576) (hk : l.length + 100 ≤ k) (w h o p : Int) (gs : List SGate) : impl_IsTrueRecord.f k w h o p gs l = some (rcok w h o p gs l && decide (ffl w h o p gs l < 0)) := by
  unfold impl_IsTrueRecord.f
  rw [impl_RecordOk_eq hl (by omega), Option.bind_some]
  by_cases R : rcok w h o p gs l = true
  · rw [if_pos R, R, impl_FirstFalse_eq hl hk, Option.bind_some, Bool.true_and]
    rcases ffl_cases w h o p gs l with e | e
    · rw [e]; rfl
    · have h1 : (ffl w h o p gs l == -1) = false := beq_eq_false_iff_ne.2 (by omega)
      rw [h1, decide_eq_false (by omega)]
  · rw [if_neg R]; simp [R]
set_option maxRecDepth 20000 in
theorem spec_IsTrueRecord_eq {k : Nat} {l : List SEntry} (hl : l.length ≤ 1048576) (hk : 3 * l.length + 1200 ≤ k) (w h o p : Int) (gs : List SGate) : spec_IsTrueRecord.f k w h o p gs l = some (rcok w h o p gs l && decide (ffl w h o p gs l < 0)) := by
  unfold spec_IsTrueRecord.f
  rw [spec_RecordOk_eq hl (by omega), Option.bind_some]
  by_cases R : rcok w h o p gs l = true
  · rw [if_pos R, R, spec_FirstFalse_eq hl hk, Option.bind_some, Bool.true_and]
  · rw [if_neg R]; simp [R]
end Go.Proofs.Ytimejdhglmajdaa.F
end

section
namespace Go.Proofs.Ytimejdhglmajdaa.F
open Go.RowKit Go.Proofs.YtimejdhglmajdaaW.PrintWords Go.Proofs.YtimejdhglmajdaaW.PrintLast Go.Proofs.YtimejdhglmajdaaW.PrintMore
set_option linter.unusedVariables false
set_option linter.unusedSimpArgs false
set_option maxRecDepth 20000 in
theorem FnExactIsTrueRecord_pure : ∀ (a0_0 : Int) (a0_1 : Int) (a0_2 : Int) (a0_3 : Int) (l0_4 : List (SlaGate)) (l1 : List (SlaEntry)), (I64 (a0_0)) → (I64 (a0_1)) → (I64 (a0_2)) → (I64 (a0_3)) → ((l0_4).length ≤ 9223372036854775807 ∧ ∀ y ∈ l0_4, (I64 (y.f0)) ∧ (I64 (y.f1))) → ((l1).length ≤ 9223372036854775807 ∧ ∀ y ∈ l1, (I64 (y.f0)) ∧ (I64 (y.f1))) → ∃ k, laws_FnExactIsTrueRecord.f k a0_0 a0_1 a0_2 a0_3 l0_4 l1 = some true := by
  intro w h o p gs l _ _ _ _ hg hl
  refine ⟨gs.length + 3 * l.length + 1300, ?_⟩
  unfold laws_FnExactIsTrueRecord.f laws_szTimed.f
  rw [sz_Gate (by decide) (by decide) hg.1, Option.bind_some]
  by_cases h1 : (gs.length : Int) ≤ 1048576
  · rw [if_pos h1, if_neg (by omega), Option.bind_some, if_neg (by omega), sz_Entry (by omega) (by omega) hl.1, Option.bind_some]
    by_cases h2 : (l.length : Int) ≤ 1048576 - gs.length
    · have he : laws_toEntryS.f (gs.length + 3 * l.length + 1300) l = some (l.map toEntry) := laws_toEntryS_eq (by omega) (by omega)
      have ll : (l.map toEntry).length = l.length := List.length_map ..
      have gl : (gs.map toGate).length = gs.length := List.length_map ..
      rw [if_pos h2, if_neg (by omega), toTimed_eq (by omega) (by omega)]
      simp only [Option.bind_some, he]
      rw [spec_IsTrueRecord_eq (by omega) (by omega), impl_IsTrueRecord_eq (by omega) (by omega)]
      simp only [Option.bind_some, bne_self_eq_false, Bool.false_eq_true, if_false]
      rw [eqTimed_refl (by omega) (by omega)]
      simp only [Option.bind_some, if_true]
      rw [laws_eqEntryS_refl (by omega) (by omega)]
      simp
    · rw [if_neg h2, if_pos (by omega)]
  · rw [if_neg h1, if_pos (by omega), Option.bind_some, if_pos (by omega)]
end Go.Proofs.Ytimejdhglmajdaa.F
end
