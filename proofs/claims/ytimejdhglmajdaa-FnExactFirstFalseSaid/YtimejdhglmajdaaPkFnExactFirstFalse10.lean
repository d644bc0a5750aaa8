/- Packed by a program of the session (wip/tools/pack.py): what the claim's theorem reaches, of the texts that wip/ and the kit's printer lay. -/
import Derived.Test.YtimejdhglmajdaaPkFnExactFirstFalse9
section
namespace Go.Proofs.Ytimejdhglmajdaa.F
open Go.RowKit Go.Proofs.YtimejdhglmajdaaW.PrintWords Go.Proofs.YtimejdhglmajdaaW.PrintLast Go.Proofs.YtimejdhglmajdaaW.PrintMore
set_option linter.unusedVariables false
set_option linter.unusedSimpArgs false
theorem mem_c16 {x : Int} : x ∈ cells16 ↔ 0 ≤ x ∧ x < 16 := by
  unfold cells16
  simp only [List.mem_cons, List.not_mem_nil, or_false]
  omega
theorem stN_i (w h : Int) : ((stN w h : Nat) : Int) = cells w h := by have := cells_bd w h; unfold stN; omega
def Rel (w h : Int) (S : List Int) (set : Int) : Prop := b16 set ∧ (∀ y ∈ S, icell w h y = true) ∧ ∀ y : Int, 0 ≤ y → (y ∈ S ↔ opn set y = true)
theorem rel_start {w h a : Int} (ha : icell w h a = true) : Rel w h [a] ((2 ^ a.toNat : Nat) : Int) := by
  have c := icell_iff.1 ha
  have b := cells_bd w h
  refine ⟨⟨Int.natCast_nonneg _, ?_⟩, fun y hy => by rw [List.mem_singleton] at hy; rw [hy]; exact ha, fun y hy => ?_⟩
  · have := Nat.pow_lt_pow_right (a := 2) (by decide) (show a.toNat < 16 by omega)
    have e : ((2 : Int) ^ 16) = ((2 ^ 16 : Nat) : Int) := by simp
    rw [e]
    exact Int.ofNat_lt.2 this
  · unfold opn
    rw [List.mem_singleton, Int.toNat_natCast, Nat.testBit_two_pow, decide_eq_true_eq]
    omega
theorem rel_step {w h o : Int} {S : List Int} {set : Int} (R : Rel w h S set) : ∃ S2, impl_EarliestAt.l1 w h o S = some S2 ∧ Rel w h S2 (nxt w h o set) := by
  obtain ⟨B, C, E⟩ := R
  have hw : ∀ c, impl_WaysFrom.f 1000 w h o c = some (ways w h o c) := fun c => impl_WaysFrom_eq (by decide) w h o c
  have hst : ∀ c d, impl_Step.f 1000 w h o c d = some (st w h o c d) := fun c d => impl_Step_eq (by decide) w h o c d
  unfold impl_EarliestAt.l1
  simp only [hw, hst]
  rw [if_pos]
  · refine ⟨_, rfl, nxt_b16 B, fun y hy => ?_, fun y hy => ?_⟩
    · rw [List.mem_filter, Bool.or_eq_true, List.any_eq_true, List.contains_iff_mem] at hy
      rcases hy.2 with h1 | ⟨c, hc, h2⟩
      · exact C y h1
      · obtain ⟨d, hd, e⟩ := List.any_eq_true.1 h2
        have e' : st w h o c d = y := by simpa using e
        have := (st_facts (ways_mem hd)).2.2.1
        rwa [e'] at this
    · rw [List.mem_filter, Bool.or_eq_true, List.any_eq_true, List.contains_iff_mem, opn_nxt hy, Bool.or_eq_true, List.any_eq_true, ← E y hy]
      constructor
      · rintro ⟨_, h1 | ⟨c, hc, h2⟩⟩
        · exact Or.inl h1
        · obtain ⟨d, hd, e⟩ := List.any_eq_true.1 h2
          have e' : st w h o c d = y := by simpa using e
          have hd0 := ways_mem hd
          obtain ⟨_, f2, _, f4, f5⟩ := st_facts hd0
          have ic := icell_iff.1 f2
          have hN := stN_i w h
          refine Or.inr ⟨c.toNat, by rw [List.mem_range'_1]; omega, ?_⟩
          have ec : ((c.toNat : Nat) : Int) = c := by omega
          rw [ec, Bool.and_eq_true]
          refine ⟨(E c ic.1).1 hc, List.any_eq_true.2 ⟨d.toNat, by rw [List.mem_range'_1]; omega, ?_⟩⟩
          have ed : ((d.toNat : Nat) : Int) = d := by omega
          rw [ed]
          exact decide_eq_true ⟨hd0, e'⟩
      · rintro (h1 | ⟨i, hi, h2⟩)
        · have := icell_iff.1 (C y h1)
          have hb := cells_bd w h
          exact ⟨mem_c16.2 ⟨hy, by omega⟩, Or.inl h1⟩
        · rw [Bool.and_eq_true] at h2
          obtain ⟨d, hd, e⟩ := List.any_eq_true.1 h2.2
          simp only [decide_eq_true_eq] at e
          obtain ⟨_, f2, f3, f4, f5⟩ := st_facts e.1
          have i3 := icell_iff.1 f3
          have hb := cells_bd w h
          refine ⟨mem_c16.2 ⟨hy, by omega⟩, Or.inr ⟨(i : Int), (E _ (by omega)).2 h2.1, List.any_eq_true.2 ⟨(d : Int), ?_, by simp [e.2]⟩⟩⟩
          unfold ways
          rw [List.mem_filter]
          have : (d : Int) = 0 ∨ (d : Int) = 1 ∨ (d : Int) = 2 ∨ (d : Int) = 3 := by omega
          refine ⟨by simp only [List.mem_cons, List.not_mem_nil, or_false]; omega, decide_eq_true e.1⟩
  · refine List.all_eq_true.2 fun c hc => ?_
    rw [Bool.and_eq_true, List.all_eq_true]
    refine ⟨decide_eq_true (ways_length w h o c), fun d hd => ?_⟩
    have i3 := icell_iff.1 (st_facts (ways_mem hd)).2.2.1
    have hb := cells_bd w h
    exact decide_eq_true ⟨ways_mem hd, by omega⟩
def tset (w h o p : Int) (gs : List SGate) (a m : Int) : Nat → Int
  | 0 => ((2 ^ a.toNat : Nat) : Int)
  | i + 1 => nxt w h (otAt (((m.toNat + i) % p.toNat : Nat) : Int) gs o) (tset w h o p gs a m i)
def ear (T : Nat → Int) (m b : Int) : Nat → Nat → Int
  | 0, _ => -1
  | n + 1, i => if opn (T i) b = true then m + i else ear T m b n (i + 1)
theorem tset_b16 {w h o p a m : Int} {gs : List SGate} (ha : icell w h a = true) : ∀ i, b16 (tset w h o p gs a m i)
  | 0 => (rel_start ha).1
  | i + 1 => nxt_b16 (tset_b16 ha i)
theorem impl_ear {w h o p a m b : Int} {gs : List SGate} (T : tmok w h o p gs = true) (h0 : 0 ≤ m) (h5 : m ≤ 500) (hb : icell w h b = true) : ∀ (n i k : Nat) (S : List Int), i + n = 201 → n + 1 ≤ k → Rel w h S (tset w h o p gs a m i) →
    impl_EarliestAt.l0 w h o p gs m b k S (m + i) = some (ear (tset w h o p gs a m) m b n i)
  | 0, i, k, S, hi, hk, R => by
    obtain ⟨k', rfl⟩ : ∃ k', k = k' + 1 := ⟨k - 1, by omega⟩
    simp only [impl_EarliestAt.l0, ear]
    rw [w64 (x := m + 200) (by omega) (by omega), if_neg (by omega)]
  | n + 1, i, k, S, hi, hk, R => by
    obtain ⟨k', rfl⟩ : ∃ k', k = k' + 1 := ⟨k - 1, by omega⟩
    have cb := icell_iff.1 hb
    simp only [impl_EarliestAt.l0, ear]
    rw [w64 (x := m + 200) (by omega) (by omega), if_pos (by omega)]
    have e : S.contains b = true ↔ opn (tset w h o p gs a m i) b = true := by rw [List.contains_iff_mem]; exact R.2.2 b cb.1
    by_cases q : opn (tset w h o p gs a m i) b = true
    · rw [if_pos (e.2 q), if_pos q]
    · have em : (m + (i : Int)).toNat = m.toNat + i := by omega
      rw [if_neg (fun z => q (e.1 z)), if_neg q, impl_MazeAtTime_eq T (by omega) (by omega) (by decide), Option.bind_some, em]
      obtain ⟨S2, e1, R2⟩ := rel_step (o := otAt (((m.toNat + i) % p.toNat : Nat) : Int) gs o) R
      simp only
      rw [e1, Option.bind_some, w64 (x := m + (i : Int) + 1) (by omega) (by omega), show m + (i : Int) + 1 = m + ((i + 1 : Nat) : Int) by omega]
      exact impl_ear T h0 h5 hb n (i + 1) k' S2 (by omega) (by omega) R2
theorem ear_none {T : Nat → Int} {m b : Int} : ∀ (n i : Nat), (∀ j, i ≤ j → opn (T j) b = false) → ear T m b n i = -1
  | 0, i, H => rfl
  | n + 1, i, H => by
    unfold ear
    rw [H i (Nat.le_refl _)]
    exact ear_none n (i + 1) (fun j hj => H j (by omega))
theorem still {w h o p a m : Int} {gs : List SGate} (p1 : 1 ≤ p) {i : Nat} (hq : p.toNat ≤ i) (H : ∀ j, i - p.toNat ≤ j → j ≤ i → tset w h o p gs a m j = tset w h o p gs a m i) : ∀ n, tset w h o p gs a m (i + n) = tset w h o p gs a m i
  | 0 => rfl
  | n + 1 => by
    have ih := still p1 hq H n
    have hp : 0 < p.toNat := by omega
    have hr := Nat.mod_lt (n) hp
    have e : (m.toNat + (i + n)) % p.toNat = (m.toNat + (i - p.toNat + n % p.toNat)) % p.toNat := by
      have : m.toNat + (i + n) = m.toNat + (i - p.toNat + n % p.toNat) + p.toNat * (n / p.toNat + 1) := by
        have := Nat.div_add_mod n p.toNat
        rw [Nat.mul_add]
        omega
      rw [this, Nat.add_mul_mod_self_left]
    have h1 := H (i - p.toNat + n % p.toNat) (by omega) (by omega)
    have h2 := H (i - p.toNat + n % p.toNat + 1) (by omega) (by omega)
    show nxt w h (otAt (((m.toNat + (i + n)) % p.toNat : Nat) : Int) gs o) (tset w h o p gs a m (i + n)) = _
    rw [e, ih, ← h1]
    exact h2.trans h1.symm
theorem spec_ear {w h o p a m b : Int} {gs : List SGate} (T : tmok w h o p gs = true) (h0 : 0 ≤ m) (h5 : m ≤ 500) (ha : icell w h a = true) (hb : icell w h b = true) : ∀ (n i k qu : Nat), i + n = 201 → 2 * n + 300 ≤ k → qu ≤ i → (∀ j, i - qu ≤ j → j ≤ i → tset w h o p gs a m j = tset w h o p gs a m i) → (0 < qu → opn (tset w h o p gs a m i) b = false) →
    spec_EarliestAt.l0 k m b (tset w h o p gs a m i) (qu : Int) (i : Int) w h o p gs = some (ear (tset w h o p gs a m) m b n i)
  | 0, i, k, qu, hi, hk, hqi, HQ, HO => by
    obtain ⟨k', rfl⟩ : ∃ k', k = k' + 1 + 1 := ⟨k - 2, by omega⟩
    conv => lhs; unfold spec_EarliestAt.l0
    rw [if_neg (by omega)]
    conv => lhs; unfold spec_EarliestAt.j2
    rw [if_neg (by decide)]
    rfl
  | n + 1, i, k, qu, hi, hk, hqi, HQ, HO => by
    obtain ⟨k', rfl⟩ : ∃ k', k = k' + 1 + 1 := ⟨k - 2, by omega⟩
    obtain ⟨M, p1, p6, _, G⟩ := tmok_iff T
    have cb := icell_iff.1 hb
    have B := tset_b16 (o := o) (p := p) (gs := gs) (m := m) ha i
    have B2 : tset w h o p gs a m i < 65536 := by have := B.2; simpa using this
    conv => lhs; unfold spec_EarliestAt.l0
    rw [if_pos (by omega)]
    conv => lhs; unfold spec_EarliestAt.j2
    by_cases hq : (qu : Int) ≤ p
    · rw [if_pos (decide_eq_true hq), spec_l03Bit_eq B.1 (by omega) cb.1, Option.bind_some]
      unfold ear
      by_cases q : opn (tset w h o p gs a m i) b = true
      · rw [if_pos q, if_pos q, w64 (by omega) (by omega)]
      · have em : (m + (i : Int)).toNat = m.toNat + i := by omega
        rw [if_neg q, if_neg q, w64 (x := m + (i : Int)) (by omega) (by omega), spec_l29Maze_eq T (by omega) (by omega), Option.bind_some, em]
        simp only
        rw [spec_l29Next_eq B (by omega), Option.bind_some, w64 (x := (i : Int) + 1) (by omega) (by omega), w64 (x := (qu : Int) + 1) (by omega) (by omega)]
        have e : nxt w h (otAt (((m.toNat + i) % p.toNat : Nat) : Int) gs o) (tset w h o p gs a m i) = tset w h o p gs a m (i + 1) := rfl
        rw [e]
        have q' : opn (tset w h o p gs a m i) b = false := by simpa using q
        by_cases eq : tset w h o p gs a m (i + 1) = tset w h o p gs a m i
        · rw [if_pos eq]
          have := spec_ear T h0 h5 ha hb n (i + 1) k' (qu + 1) (by omega) (by omega) (by omega) (fun j h1 h2 => by
            by_cases e2 : j = i + 1
            · rw [e2]
            · rw [HQ j (by omega) (by omega), eq]) (fun _ => by rw [eq]; exact q')
          rw [Int.natCast_add, Int.natCast_add] at this
          exact this
        · rw [if_neg eq]
          have := spec_ear T h0 h5 ha hb n (i + 1) k' 0 (by omega) (by omega) (by omega) (fun j h1 h2 => by
            obtain rfl : j = i + 1 := by omega
            rfl) (fun z => absurd z (by decide))
          rw [Int.natCast_add] at this
          exact this
    · rw [if_neg (by simpa using hq)]
      have hp : p.toNat ≤ qu := by omega
      have st := still (w := w) (h := h) (o := o) (p := p) (a := a) (m := m) (gs := gs) p1 (i := i) (by omega) (fun j h1 h2 => HQ j (by omega) h2)
      rw [ear_none (n + 1) i (fun j hj => by
        have := st (j - i)
        rw [show i + (j - i) = j by omega] at this
        rw [this]
        exact HO (by omega))]
def early (w h o p : Int) (gs : List SGate) (a m b : Int) : Int :=
  if (tmok w h o p gs && icell w h a && icell w h b && decide (0 ≤ m ∧ m ≤ 500)) = true then ear (tset w h o p gs a m) m b 201 0 else -1
theorem impl_EarliestAt_eq (w h o p : Int) (gs : List SGate) (a m b : Int) : impl_EarliestAt.f w h o p gs a m b = some (early w h o p gs a m b) := by
  unfold impl_EarliestAt.f early
  rw [impl_TimedOk_eq (by decide), Option.bind_some]
  by_cases T : tmok w h o p gs = true
  · have M := (tmok_iff T).1
    rw [if_pos T, impl_isIn_eq, Option.bind_some]
    by_cases C : (icell w h a && icell w h b) = true
    · simp only [Bool.and_eq_true] at C
      rw [if_pos (by simp [M, C.1, C.2])]
      by_cases h0 : m < 0
      · rw [if_pos h0, if_neg (show ¬ (tmok w h o p gs && icell w h a && icell w h b && decide (0 ≤ m ∧ m ≤ 500)) = true by simp; intros; omega)]
      · rw [if_neg h0]
        by_cases h5 : m > 500
        · rw [if_pos h5, if_neg (show ¬ (tmok w h o p gs && icell w h a && icell w h b && decide (0 ≤ m ∧ m ≤ 500)) = true by simp; intros; omega)]
        · have a1 := icell_iff.1 C.1
          have b1 := icell_iff.1 C.2
          have hc := cells_bd w h
          rw [if_neg h5, if_pos (show (0 ≤ a ∧ a < 16) ∧ 0 ≤ b ∧ b < 16 by omega), if_pos (by simp [T, C.1, C.2]; omega)]
          have := impl_ear (a := a) (m := m) T (by omega) (by omega) C.2 201 0 300 [a] (by decide) (by decide) (rel_start C.1)
          simpa using this
    · rw [if_neg (by simpa [M] using C), if_neg (by simp only [Bool.and_eq_true] at C; simp; intro _ x y; exact absurd ⟨x, y⟩ C)]
  · rw [if_neg T, if_neg (by simp [T])]
theorem spec_EarliestAt_eq {k : Nat} (hk : 1000 ≤ k) (w h o p : Int) (gs : List SGate) (a m b : Int) : spec_EarliestAt.f k w h o p gs a m b = some (early w h o p gs a m b) := by
  obtain ⟨k', rfl⟩ : ∃ k', k = k' + 1 := ⟨k - 1, by omega⟩
  have e : spec_EarliestAt.f (k' + 1) w h o p gs a m b = spec_EarliestAt.j0 (k' + 1) a m b (!(tmok w h o p gs && icell w h a && icell w h b && decide (0 ≤ m ∧ m ≤ 500))) w h o p gs := by
    unfold spec_EarliestAt.f
    rw [spec_TimedOk_eq (by omega), Option.bind_some]
    by_cases T : tmok w h o p gs = true
    · have M := (tmok_iff T).1
      rw [if_pos T, spec_l04Has_eq, Option.bind_some, M, Bool.true_and]
      by_cases c1 : icell w h a = true
      · rw [if_pos c1, spec_l04Has_eq, Option.bind_some, M, Bool.true_and]
        by_cases c2 : icell w h b = true
        · rw [if_pos c2, spec_l01In_eq, Option.bind_some, T, c1, c2]
          rfl
        · rw [if_neg c2]; simp [c2]
      · rw [if_neg c1]; simp [c1]
    · rw [if_neg T]; simp [T]
  rw [e]
  simp only [spec_EarliestAt.j0]
  unfold early
  by_cases H : (tmok w h o p gs && icell w h a && icell w h b && decide (0 ≤ m ∧ m ≤ 500)) = true
  · rw [if_neg (by simp only [H]; decide), if_pos H]
    simp only [Bool.and_eq_true, decide_eq_true_eq] at H
    obtain ⟨⟨⟨T, c1⟩, c2⟩, h0, h5⟩ := H
    have a1 := icell_iff.1 c1
    have hc := cells_bd w h
    have es : shl .i64 1 a = tset w h o p gs a m 0 := by
      have := shl_one (g := a.toNat) (by omega)
      rwa [show ((a.toNat : Nat) : Int) = a by omega] at this
    rw [if_pos a1.1, es]
    exact spec_ear T h0 h5 c1 c2 201 0 k' 0 (by decide) (by omega) (Nat.le_refl _) (fun j h1 h2 => by have e0 : j = 0 := (by omega); subst e0; rfl) (fun z => absurd z (by decide))
  · rw [if_pos (by simp only [Bool.not_eq_true] at H; simp only [H]; rfl), if_neg H]
def canF (w h o p : Int) (gs : List SGate) (a0 a1 b0 b1 : Int) : Bool := decide (0 ≤ early w h o p gs a1 a0 b1 ∧ early w h o p gs a1 a0 b1 ≤ b0)
theorem impl_CanFollow_eq (w h o p : Int) (gs : List SGate) (a0 a1 b0 b1 : Int) : impl_CanFollow.f w h o p gs a0 a1 b0 b1 = some (canF w h o p gs a0 a1 b0 b1) := by
  unfold impl_CanFollow.f canF
  rw [impl_EarliestAt_eq, Option.bind_some]
  by_cases q : early w h o p gs a1 a0 b1 ≥ 0
  · rw [if_pos q]; simp [q]
  · rw [if_neg q]; simp; omega
theorem spec_CanFollow_eq {k : Nat} (hk : 1000 ≤ k) (w h o p : Int) (gs : List SGate) (a0 a1 b0 b1 : Int) : spec_CanFollow.f k w h o p gs a0 a1 b0 b1 = some (canF w h o p gs a0 a1 b0 b1) := by
  unfold spec_CanFollow.f canF
  rw [spec_EarliestAt_eq hk, Option.bind_some]
  by_cases q : early w h o p gs a1 a0 b1 ≥ 0
  · rw [if_pos q]; simp [q]
  · rw [if_neg q]; simp; omega
theorem toTimed_eq {k : Nat} {gs : List SlaGate} (hl : gs.length ≤ 1048576) (hk : gs.length + 1 ≤ k) (w h o p : Int) : laws_toTimed.f k w h o p gs = some (w, h, o, p, gs.map toGate) := by
  unfold laws_toTimed.f
  simp only [laws_toMaze.f, laws_toGrid.f, Option.bind_some]
  rw [laws_toGateS_eq hl hk]
  rfl
theorem eqTimed_refl {k : Nat} {gs : List SGate} (hl : gs.length ≤ 1048576) (hk : gs.length + 1 ≤ k) (w h o p : Int) : laws_eqTimed.f k w h o p gs w h o p gs = some true := by
  unfold laws_eqTimed.f laws_eqMaze.f laws_eqGrid.f
  simp only [if_true, Option.bind_some]
  rw [laws_eqGateS_refl (by omega) hk]
  simp
end Go.Proofs.Ytimejdhglmajdaa.F
end

section
namespace Go.Proofs.Ytimejdhglmajdaa.F
open Go.RowKit Go.Proofs.YtimejdhglmajdaaW.PrintWords Go.Proofs.YtimejdhglmajdaaW.PrintLast Go.Proofs.YtimejdhglmajdaaW.PrintMore
set_option linter.unusedVariables false
set_option linter.unusedSimpArgs false
def ffr (w h o p : Int) (gs : List SGate) (l : List SEntry) : Nat → Nat → Int
  | 0, _ => -1
  | n + 1, i => if canF w h o p gs (l.getD (i - 1) zEntry).f0 (l.getD (i - 1) zEntry).f1 (l.getD i zEntry).f0 (l.getD i zEntry).f1 = true then ffr w h o p gs l n (i + 1) else (i : Int)
def ffl (w h o p : Int) (gs : List SGate) (l : List SEntry) : Int := if rcok w h o p gs l = true then ffr w h o p gs l (l.length - 1) 1 else -1
theorem impl_FirstFalse_eq {k : Nat} {l : List SEntry} (hl : l.length ≤ 1048576) (hk : l.length + 100 ≤ k) (w h o p : Int) (gs : List SGate) : impl_FirstFalse.f k w h o p gs l = some (ffl w h o p gs l) := by
  unfold impl_FirstFalse.f ffl
  rw [impl_RecordOk_eq hl (by omega), Option.bind_some]
  by_cases R : rcok w h o p gs l = true
  · rw [if_pos R, if_pos R]
    have key : ∀ (n i k : Nat), (i + n = l.length ∨ n = 0 ∧ l.length ≤ i) → 1 ≤ i → i ≤ 1048577 → n + 1 ≤ k → impl_FirstFalse.l0 k l (i : Int) w h o p gs = some (ffr w h o p gs l n i) := by
      intro n
      induction n with
      | zero =>
        intro i k hi h1 h2 hk
        obtain ⟨m, rfl⟩ : ∃ m, k = m + 1 := ⟨k - 1, by omega⟩
        simp only [impl_FirstFalse.l0, ffr]
        rw [if_neg (by omega)]
      | succ n ih =>
        intro i k hi h1 h2 hk
        obtain ⟨m, rfl⟩ : ∃ m, k = m + 1 := ⟨k - 1, by omega⟩
        simp only [impl_FirstFalse.l0, ffr]
        have e1 : (i : Int) - 1 = ((i - 1 : Nat) : Int) := by omega
        rw [if_pos (by omega), w64 (x := (i : Int) - 1) (by omega) (by omega), if_pos (by omega), if_pos (by omega), if_pos (by omega), impl_CanFollow_eq, Option.bind_some, w64 (x := (i : Int) + 1) (by omega) (by omega), e1]
        have := ih (i + 1) m (by omega) (by omega) (by omega) (by omega)
        rw [Int.natCast_add] at this
        show (if canF w h o p gs (l.getD (i - 1) zEntry).f0 (l.getD (i - 1) zEntry).f1 (l.getD i zEntry).f0 (l.getD i zEntry).f1 = true then _ else _) = _
        split
        · exact this
        · rfl
    exact key (l.length - 1) 1 k (by omega) (by omega) (by omega) (by omega)
  · rw [if_neg R, if_neg R]
set_option maxRecDepth 20000 in
theorem spec_FirstFalse_eq {k : Nat} {l : List SEntry} (hl : l.length ≤ 1048576) (hk : 3 * l.length + 1200 ≤ k) (w h o p : Int) (gs : List SGate) : spec_FirstFalse.f k w h o p gs l = some (ffl w h o p gs l) := by
  unfold spec_FirstFalse.f ffl
  by_cases R : rcok w h o p gs l = true
  · rw [if_pos R]
    have key : ∀ (n i k : Nat), (i + n = l.length ∨ n = 0 ∧ l.length ≤ i) → 1 ≤ i → i ≤ 1048577 → 2 * n + (l.length + 1100) ≤ k → spec_FirstFalse.l0 k l (i : Int) w h o p gs = some (ffr w h o p gs l n i) := by
      intro n
      induction n with
      | zero =>
        intro i k hi h1 h2 hk
        obtain ⟨m, rfl⟩ : ∃ m, k = m + 1 + 1 := ⟨k - 2, by omega⟩
        simp only [spec_FirstFalse.l0, spec_FirstFalse.j1, ffr]
        rw [if_neg (by omega), if_neg (by decide)]
      | succ n ih =>
        intro i k hi h1 h2 hk
        obtain ⟨m, rfl⟩ : ∃ m, k = m + 1 + 1 := ⟨k - 2, by omega⟩
        have hm1 : l.length + 40 ≤ m + 1 := by omega
        have hm2 : 1000 ≤ m := by omega
        have hlt : (i : Int) < (l.length : Int) := by omega
        conv => lhs; unfold spec_FirstFalse.l0
        rw [if_pos hlt, spec_RecordOk_eq hl hm1, Option.bind_some]
        conv => lhs; unfold spec_FirstFalse.j1
        unfold ffr
        have e1 : (i : Int) - 1 = ((i - 1 : Nat) : Int) := by omega
        rw [if_pos R, w64 (x := (i : Int) - 1) (by omega) (by omega), if_pos (show (0 : Int) ≤ (i : Int) - 1 by omega), if_pos (show (i : Int) - 1 < (l.length : Int) by omega), if_pos (show (0 : Int) ≤ (i : Int) by omega), if_pos hlt, spec_CanFollow_eq hm2, Option.bind_some, w64 (x := (i : Int) + 1) (by omega) (by omega), e1]
        have := ih (i + 1) m (by omega) (by omega) (by omega) (by omega)
        rw [Int.natCast_add] at this
        show (if canF w h o p gs (l.getD (i - 1) zEntry).f0 (l.getD (i - 1) zEntry).f1 (l.getD i zEntry).f0 (l.getD i zEntry).f1 = true then _ else _) = _
        split
        · exact this
        · rfl
    exact key (l.length - 1) 1 k (by omega) (by omega) (by omega) (by omega)
  · rw [if_neg R]
    obtain ⟨m, rfl⟩ : ∃ m, k = m + 1 + 1 := ⟨k - 2, by omega⟩
    simp only [spec_FirstFalse.l0, spec_FirstFalse.j1]
    split
    · rw [spec_RecordOk_eq hl (by omega), Option.bind_some, if_neg R]
    · rw [if_neg (by decide)]
end Go.Proofs.Ytimejdhglmajdaa.F
end

section
namespace Go.Proofs.Ytimejdhglmajdaa.F
open Go.RowKit Go.Proofs.YtimejdhglmajdaaW.PrintWords Go.Proofs.YtimejdhglmajdaaW.PrintLast Go.Proofs.YtimejdhglmajdaaW.PrintMore
set_option linter.unusedVariables false
set_option linter.unusedSimpArgs false
set_option maxRecDepth 20000 in
theorem FnExactFirstFalse_pure : ∀ (a0_0 : Int) (a0_1 : Int) (a0_2 : Int) (a0_3 : Int) (l0_4 : List (SlaGate)) (l1 : List (SlaEntry)), (I64 (a0_0)) → (I64 (a0_1)) → (I64 (a0_2)) → (I64 (a0_3)) → ((l0_4).length ≤ 9223372036854775807 ∧ ∀ y ∈ l0_4, (I64 (y.f0)) ∧ (I64 (y.f1))) → ((l1).length ≤ 9223372036854775807 ∧ ∀ y ∈ l1, (I64 (y.f0)) ∧ (I64 (y.f1))) → ∃ k, laws_FnExactFirstFalse.f k a0_0 a0_1 a0_2 a0_3 l0_4 l1 = some true := by
  intro w h o p gs l _ _ _ _ hg hl
  refine ⟨gs.length + 3 * l.length + 1300, ?_⟩
  unfold laws_FnExactFirstFalse.f laws_szTimed.f
  rw [sz_Gate (by decide) (by decide) hg.1, Option.bind_some]
  by_cases h1 : (gs.length : Int) ≤ 1048576
  · rw [if_pos h1, if_neg (by omega), Option.bind_some, if_neg (by omega), sz_Entry (by omega) (by omega) hl.1, Option.bind_some]
    by_cases h2 : (l.length : Int) ≤ 1048576 - gs.length
    · have he : laws_toEntryS.f (gs.length + 3 * l.length + 1300) l = some (l.map toEntry) := laws_toEntryS_eq (by omega) (by omega)
      have ll : (l.map toEntry).length = l.length := List.length_map ..
      have gl : (gs.map toGate).length = gs.length := List.length_map ..
      rw [if_pos h2, if_neg (by omega), toTimed_eq (by omega) (by omega)]
      simp only [Option.bind_some, he]
      rw [spec_FirstFalse_eq (by omega) (by omega), impl_FirstFalse_eq (by omega) (by omega)]
      simp only [Option.bind_some, if_true]
      rw [eqTimed_refl (by omega) (by omega)]
      simp only [Option.bind_some, if_true]
      rw [laws_eqEntryS_refl (by omega) (by omega)]
      simp
    · rw [if_neg h2, if_pos (by omega)]
  · rw [if_neg h1, if_pos (by omega), Option.bind_some, if_pos (by omega)]
end Go.Proofs.Ytimejdhglmajdaa.F
end
