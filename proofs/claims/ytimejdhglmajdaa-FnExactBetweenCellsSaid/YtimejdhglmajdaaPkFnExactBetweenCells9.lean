/- Packed by a program of the session (wip/tools/pack.py): what the claim's theorem reaches, of the texts that wip/ and the kit's printer lay. -/
import Derived.Test.YtimejdhglmajdaaPkFnExactBetweenCells8
section
namespace Go.Proofs.Ytimejdhglmajdaa.F
open Go.RowKit Go.Proofs.YtimejdhglmajdaaW.PrintWords Go.Proofs.YtimejdhglmajdaaW.PrintLast Go.Proofs.YtimejdhglmajdaaW.PrintMore
set_option linter.unusedVariables false
set_option linter.unusedSimpArgs false
theorem mem_c16 {x : Int} : x ∈ cells16 ↔ 0 ≤ x ∧ x < 16 := by
  unfold cells16
  simp only [List.mem_cons, List.not_mem_nil, or_false]
  omega
theorem stN_i (w h : Int) : ((stN w h : Nat) : Int) = cells w h := by have := cells_bd w h; unfold stN; omega
def Rel (w h : Int) (S : List Int) (set : Int) : Prop := b16 set ∧ (∀ y ∈ S, icell w h y = true) ∧ ∀ y : Int, 0 ≤ y → (y ∈ S ↔ opn set y = true)
theorem rel_start {w h a : Int} (ha : icell w h a = true) : Rel w h [a] ((2 ^ a.toNat : Nat) : Int) := by
  have c := icell_iff.1 ha
  have b := cells_bd w h
  refine ⟨⟨Int.natCast_nonneg _, ?_⟩, fun y hy => by rw [List.mem_singleton] at hy; rw [hy]; exact ha, fun y hy => ?_⟩
  · have := Nat.pow_lt_pow_right (a := 2) (by decide) (show a.toNat < 16 by omega)
    have e : ((2 : Int) ^ 16) = ((2 ^ 16 : Nat) : Int) := by simp
    rw [e]
    exact Int.ofNat_lt.2 this
  · unfold opn
    rw [List.mem_singleton, Int.toNat_natCast, Nat.testBit_two_pow, decide_eq_true_eq]
    omega
theorem rel_step {w h o : Int} {S : List Int} {set : Int} (R : Rel w h S set) : ∃ S2, impl_EarliestAt.l1 w h o S = some S2 ∧ Rel w h S2 (nxt w h o set) := by
  obtain ⟨B, C, E⟩ := R
  have hw : ∀ c, impl_WaysFrom.f 1000 w h o c = some (ways w h o c) := fun c => impl_WaysFrom_eq (by decide) w h o c
  have hst : ∀ c d, impl_Step.f 1000 w h o c d = some (st w h o c d) := fun c d => impl_Step_eq (by decide) w h o c d
  unfold impl_EarliestAt.l1
  simp only [hw, hst]
  rw [if_pos]
  · refine ⟨_, rfl, nxt_b16 B, fun y hy => ?_, fun y hy => ?_⟩
    · rw [List.mem_filter, Bool.or_eq_true, List.any_eq_true, List.contains_iff_mem] at hy
      rcases hy.2 with h1 | ⟨c, hc, h2⟩
      · exact C y h1
      · obtain ⟨d, hd, e⟩ := List.any_eq_true.1 h2
        have e' : st w h o c d = y := by simpa using e
        have := (st_facts (ways_mem hd)).2.2.1
        rwa [e'] at this
    · rw [List.mem_filter, Bool.or_eq_true, List.any_eq_true, List.contains_iff_mem, opn_nxt hy, Bool.or_eq_true, List.any_eq_true, ← E y hy]
      constructor
      · rintro ⟨_, h1 | ⟨c, hc, h2⟩⟩
        · exact Or.inl h1
        · obtain ⟨d, hd, e⟩ := List.any_eq_true.1 h2
          have e' : st w h o c d = y := by simpa using e
          have hd0 := ways_mem hd
          obtain ⟨_, f2, _, f4, f5⟩ := st_facts hd0
          have ic := icell_iff.1 f2
          have hN := stN_i w h
          refine Or.inr ⟨c.toNat, by rw [List.mem_range'_1]; omega, ?_⟩
          have ec : ((c.toNat : Nat) : Int) = c := by omega
          rw [ec, Bool.and_eq_true]
          refine ⟨(E c ic.1).1 hc, List.any_eq_true.2 ⟨d.toNat, by rw [List.mem_range'_1]; omega, ?_⟩⟩
          have ed : ((d.toNat : Nat) : Int) = d := by omega
          rw [ed]
          exact decide_eq_true ⟨hd0, e'⟩
      · rintro (h1 | ⟨i, hi, h2⟩)
        · have := icell_iff.1 (C y h1)
          have hb := cells_bd w h
          exact ⟨mem_c16.2 ⟨hy, by omega⟩, Or.inl h1⟩
        · rw [Bool.and_eq_true] at h2
          obtain ⟨d, hd, e⟩ := List.any_eq_true.1 h2.2
          simp only [decide_eq_true_eq] at e
          obtain ⟨_, f2, f3, f4, f5⟩ := st_facts e.1
          have i3 := icell_iff.1 f3
          have hb := cells_bd w h
          refine ⟨mem_c16.2 ⟨hy, by omega⟩, Or.inr ⟨(i : Int), (E _ (by omega)).2 h2.1, List.any_eq_true.2 ⟨(d : Int), ?_, by simp [e.2]⟩⟩⟩
          unfold ways
          rw [List.mem_filter]
          have : (d : Int) = 0 ∨ (d : Int) = 1 ∨ (d : Int) = 2 ∨ (d : Int) = 3 := by omega
          refine ⟨by simp only [List.mem_cons, List.not_mem_nil, or_false]; omega, decide_eq_true e.1⟩
  · refine List.all_eq_true.2 fun c hc => ?_
    rw [Bool.and_eq_true, List.all_eq_true]
    refine ⟨decide_eq_true (ways_length w h o c), fun d hd => ?_⟩
    have i3 := icell_iff.1 (st_facts (ways_mem hd)).2.2.1
    have hb := cells_bd w h
    exact decide_eq_true ⟨ways_mem hd, by omega⟩
def tset (w h o p : Int) (gs : List SGate) (a m : Int) : Nat → Int
  | 0 => ((2 ^ a.toNat : Nat) : Int)
  | i + 1 => nxt w h (otAt (((m.toNat + i) % p.toNat : Nat) : Int) gs o) (tset w h o p gs a m i)
def ear (T : Nat → Int) (m b : Int) : Nat → Nat → Int
  | 0, _ => -1
  | n + 1, i => if opn (T i) b = true then m + i else ear T m b n (i + 1)
theorem tset_b16 {w h o p a m : Int} {gs : List SGate} (ha : icell w h a = true) : ∀ i, b16 (tset w h o p gs a m i)
  | 0 => (rel_start ha).1
  | i + 1 => nxt_b16 (tset_b16 ha i)
theorem impl_ear {w h o p a m b : Int} {gs : List SGate} (T : tmok w h o p gs = true) (h0 : 0 ≤ m) (h5 : m ≤ 500) (hb : icell w h b = true) : ∀ (n i k : Nat) (S : List Int), i + n = 201 → n + 1 ≤ k → Rel w h S (tset w h o p gs a m i) →
    impl_EarliestAt.l0 w h o p gs m b k S (m + i) = some (ear (tset w h o p gs a m) m b n i)
  | 0, i, k, S, hi, hk, R => by
    obtain ⟨k', rfl⟩ : ∃ k', k = k' + 1 := ⟨k - 1, by omega⟩
    simp only [impl_EarliestAt.l0, ear]
    rw [w64 (x := m + 200) (by omega) (by omega), if_neg (by omega)]
  | n + 1, i, k, S, hi, hk, R => by
    obtain ⟨k', rfl⟩ : ∃ k', k = k' + 1 := ⟨k - 1, by omega⟩
    have cb := icell_iff.1 hb
    simp only [impl_EarliestAt.l0, ear]
    rw [w64 (x := m + 200) (by omega) (by omega), if_pos (by omega)]
    have e : S.contains b = true ↔ opn (tset w h o p gs a m i) b = true := by rw [List.contains_iff_mem]; exact R.2.2 b cb.1
    by_cases q : opn (tset w h o p gs a m i) b = true
    · rw [if_pos (e.2 q), if_pos q]
    · have em : (m + (i : Int)).toNat = m.toNat + i := by omega
      rw [if_neg (fun z => q (e.1 z)), if_neg q, impl_MazeAtTime_eq T (by omega) (by omega) (by decide), Option.bind_some, em]
      obtain ⟨S2, e1, R2⟩ := rel_step (o := otAt (((m.toNat + i) % p.toNat : Nat) : Int) gs o) R
      simp only
      rw [e1, Option.bind_some, w64 (x := m + (i : Int) + 1) (by omega) (by omega), show m + (i : Int) + 1 = m + ((i + 1 : Nat) : Int) by omega]
      exact impl_ear T h0 h5 hb n (i + 1) k' S2 (by omega) (by omega) R2
theorem ear_none {T : Nat → Int} {m b : Int} : ∀ (n i : Nat), (∀ j, i ≤ j → opn (T j) b = false) → ear T m b n i = -1
  | 0, i, H => rfl
  | n + 1, i, H => by
    unfold ear
    rw [H i (Nat.le_refl _)]
    exact ear_none n (i + 1) (fun j hj => H j (by omega))
theorem still {w h o p a m : Int} {gs : List SGate} (p1 : 1 ≤ p) {i : Nat} (hq : p.toNat ≤ i) (H : ∀ j, i - p.toNat ≤ j → j ≤ i → tset w h o p gs a m j = tset w h o p gs a m i) : ∀ n, tset w h o p gs a m (i + n) = tset w h o p gs a m i
  | 0 => rfl
  | n + 1 => by
    have ih := still p1 hq H n
    have hp : 0 < p.toNat := by omega
    have hr := Nat.mod_lt (n) hp
    have e : (m.toNat + (i + n)) % p.toNat = (m.toNat + (i - p.toNat + n % p.toNat)) % p.toNat := by
      have : m.toNat + (i + n) = m.toNat + (i - p.toNat + n % p.toNat) + p.toNat * (n / p.toNat + 1) := by
        have := Nat.div_add_mod n p.toNat
        rw [Nat.mul_add]
        omega
      rw [this, Nat.add_mul_mod_self_left]
    have h1 := H (i - p.toNat + n % p.toNat) (by omega) (by omega)
    have h2 := H (i - p.toNat + n % p.toNat + 1) (by omega) (by omega)
    show nxt w h (otAt (((m.toNat + (i + n)) % p.toNat : Nat) : Int) gs o) (tset w h o p gs a m (i + n)) = _
    rw [e, ih, ← h1]
    exact h2.trans h1.symm
theorem spec_ear {w h o p a m b : Int} {gs : List SGate} (T : tmok w h o p gs = true) (h0 : 0 ≤ m) (h5 : m ≤ 500) (ha : icell w h a = true) (hb : icell w h b = true) : ∀ (n i k qu : Nat), i + n = 201 → 2 * n + 300 ≤ k → qu ≤ i → (∀ j, i - qu ≤ j → j ≤ i → tset w h o p gs a m j = tset w h o p gs a m i) → (0 < qu → opn (tset w h o p gs a m i) b = false) →
    spec_EarliestAt.l0 k m b (tset w h o p gs a m i) (qu : Int) (i : Int) w h o p gs = some (ear (tset w h o p gs a m) m b n i)
  | 0, i, k, qu, hi, hk, hqi, HQ, HO => by
    obtain ⟨k', rfl⟩ : ∃ k', k = k' + 1 + 1 := ⟨k - 2, by omega⟩
    conv => lhs; unfold spec_EarliestAt.l0
    rw [if_neg (by omega)]
    conv => lhs; unfold spec_EarliestAt.j2
    rw [if_neg (by decide)]
    rfl
  | n + 1, i, k, qu, hi, hk, hqi, HQ, HO => by
    obtain ⟨k', rfl⟩ : ∃ k', k = k' + 1 + 1 := ⟨k - 2, by omega⟩
    obtain ⟨M, p1, p6, _, G⟩ := tmok_iff T
    have cb := icell_iff.1 hb
    have B := tset_b16 (o := o) (p := p) (gs := gs) (m := m) ha i
    have B2 : tset w h o p gs a m i < 65536 := by have := B.2; simpa using this
    conv => lhs; unfold spec_EarliestAt.l0
    rw [if_pos (by omega)]
    conv => lhs; unfold spec_EarliestAt.j2
    by_cases hq : (qu : Int) ≤ p
    · rw [if_pos (decide_eq_true hq), spec_l03Bit_eq B.1 (by omega) cb.1, Option.bind_some]
      unfold ear
      by_cases q : opn (tset w h o p gs a m i) b = true
      · rw [if_pos q, if_pos q, w64 (by omega) (by omega)]
      · have em : (m + (i : Int)).toNat = m.toNat + i := by omega
        rw [if_neg q, if_neg q, w64 (x := m + (i : Int)) (by omega) (by omega), spec_l29Maze_eq T (by omega) (by omega), Option.bind_some, em]
        simp only
        rw [spec_l29Next_eq B (by omega), Option.bind_some, w64 (x := (i : Int) + 1) (by omega) (by omega), w64 (x := (qu : Int) + 1) (by omega) (by omega)]
        have e : nxt w h (otAt (((m.toNat + i) % p.toNat : Nat) : Int) gs o) (tset w h o p gs a m i) = tset w h o p gs a m (i + 1) := rfl
        rw [e]
        have q' : opn (tset w h o p gs a m i) b = false := by simpa using q
        by_cases eq : tset w h o p gs a m (i + 1) = tset w h o p gs a m i
        · rw [if_pos eq]
          have := spec_ear T h0 h5 ha hb n (i + 1) k' (qu + 1) (by omega) (by omega) (by omega) (fun j h1 h2 => by
            by_cases e2 : j = i + 1
            · rw [e2]
            · rw [HQ j (by omega) (by omega), eq]) (fun _ => by rw [eq]; exact q')
          rw [Int.natCast_add, Int.natCast_add] at this
          exact this
        · rw [if_neg eq]
          have := spec_ear T h0 h5 ha hb n (i + 1) k' 0 (by omega) (by omega) (by omega) (fun j h1 h2 => by
            obtain rfl : j = i + 1 := by omega
            rfl) (fun z => absurd z (by decide))
          rw [Int.natCast_add] at this
          exact this
    · rw [if_neg (by simpa using hq)]
      have hp : p.toNat ≤ qu := by omega
      have st := still (w := w) (h := h) (o := o) (p := p) (a := a) (m := m) (gs := gs) p1 (i := i) (by omega) (fun j h1 h2 => HQ j (by omega) h2)
      rw [ear_none (n + 1) i (fun j hj => by
        have := st (j - i)
        rw [show i + (j - i) = j by omega] at this
        rw [this]
        exact HO (by omega))]
def early (w h o p : Int) (gs : List SGate) (a m b : Int) : Int :=
  if (tmok w h o p gs && icell w h a && icell w h b && decide (0 ≤ m ∧ m ≤ 500)) = true then ear (tset w h o p gs a m) m b 201 0 else -1
theorem impl_EarliestAt_eq (w h o p : Int) (gs : List SGate) (a m b : Int) : impl_EarliestAt.f w h o p gs a m b = some (early w h o p gs a m b) := by
  unfold impl_EarliestAt.f early
  rw [impl_TimedOk_eq (by decide), Option.bind_some]
  by_cases T : tmok w h o p gs = true
  · have M := (tmok_iff T).1
    rw [if_pos T, impl_isIn_eq, Option.bind_some]
    by_cases C : (icell w h a && icell w h b) = true
    · simp only [Bool.and_eq_true] at C
      rw [if_pos (by simp [M, C.1, C.2])]
      by_cases h0 : m < 0
      · rw [if_pos h0, if_neg (show ¬ (tmok w h o p gs && icell w h a && icell w h b && decide (0 ≤ m ∧ m ≤ 500)) = true by simp; intros; omega)]
      · rw [if_neg h0]
        by_cases h5 : m > 500
        · rw [if_pos h5, if_neg (show ¬ (tmok w h o p gs && icell w h a && icell w h b && decide (0 ≤ m ∧ m ≤ 500)) = true by simp; intros; omega)]
        · have a1 := icell_iff.1 C.1
          have b1 := icell_iff.1 C.2
          have hc := cells_bd w h
          rw [if_neg h5, if_pos (show (0 ≤ a ∧ a < 16) ∧ 0 ≤ b ∧ b < 16 by omega), if_pos (by simp [T, C.1, C.2]; omega)]
          have := impl_ear (a := a) (m := m) T (by omega) (by omega) C.2 201 0 300 [a] (by decide) (by decide) (rel_start C.1)
          simpa using this
    · rw [if_neg (by simpa [M] using C), if_neg (by simp only [Bool.and_eq_true] at C; simp; intro _ x y; exact absurd ⟨x, y⟩ C)]
  · rw [if_neg T, if_neg (by simp [T])]
theorem spec_EarliestAt_eq {k : Nat} (hk : 1000 ≤ k) (w h o p : Int) (gs : List SGate) (a m b : Int) : spec_EarliestAt.f k w h o p gs a m b = some (early w h o p gs a m b) := by
  obtain ⟨k', rfl⟩ : ∃ k', k = k' + 1 := ⟨k - 1, by omega⟩
  have e : spec_EarliestAt.f (k' + 1) w h o p gs a m b = spec_EarliestAt.j0 (k' + 1) a m b (!(tmok w h o p gs && icell w h a && icell w h b && decide (0 ≤ m ∧ m ≤ 500))) w h o p gs := by
    unfold spec_EarliestAt.f
    rw [spec_TimedOk_eq (by omega), Option.bind_some]
    by_cases T : tmok w h o p gs = true
    · have M := (tmok_iff T).1
      rw [if_pos T, spec_l04Has_eq, Option.bind_some, M, Bool.true_and]
      by_cases c1 : icell w h a = true
      · rw [if_pos c1, spec_l04Has_eq, Option.bind_some, M, Bool.true_and]
        by_cases c2 : icell w h b = true
        · rw [if_pos c2, spec_l01In_eq, Option.bind_some, T, c1, c2]
          rfl
        · rw [if_neg c2]; simp [c2]
      · rw [if_neg c1]; simp [c1]
    · rw [if_neg T]; simp [T]
  rw [e]
  simp only [spec_EarliestAt.j0]
  unfold early
  by_cases H : (tmok w h o p gs && icell w h a && icell w h b && decide (0 ≤ m ∧ m ≤ 500)) = true
  · rw [if_neg (by simp only [H]; decide), if_pos H]
    simp only [Bool.and_eq_true, decide_eq_true_eq] at H
    obtain ⟨⟨⟨T, c1⟩, c2⟩, h0, h5⟩ := H
    have a1 := icell_iff.1 c1
    have hc := cells_bd w h
    have es : shl .i64 1 a = tset w h o p gs a m 0 := by
      have := shl_one (g := a.toNat) (by omega)
      rwa [show ((a.toNat : Nat) : Int) = a by omega] at this
    rw [if_pos a1.1, es]
    exact spec_ear T h0 h5 c1 c2 201 0 k' 0 (by decide) (by omega) (Nat.le_refl _) (fun j h1 h2 => by have e0 : j = 0 := (by omega); subst e0; rfl) (fun z => absurd z (by decide))
  · rw [if_pos (by simp only [Bool.not_eq_true] at H; simp only [H]; rfl), if_neg H]
def canF (w h o p : Int) (gs : List SGate) (a0 a1 b0 b1 : Int) : Bool := decide (0 ≤ early w h o p gs a1 a0 b1 ∧ early w h o p gs a1 a0 b1 ≤ b0)
theorem impl_CanFollow_eq (w h o p : Int) (gs : List SGate) (a0 a1 b0 b1 : Int) : impl_CanFollow.f w h o p gs a0 a1 b0 b1 = some (canF w h o p gs a0 a1 b0 b1) := by
  unfold impl_CanFollow.f canF
  rw [impl_EarliestAt_eq, Option.bind_some]
  by_cases q : early w h o p gs a1 a0 b1 ≥ 0
  · rw [if_pos q]; simp [q]
  · rw [if_neg q]; simp; omega
theorem spec_CanFollow_eq {k : Nat} (hk : 1000 ≤ k) (w h o p : Int) (gs : List SGate) (a0 a1 b0 b1 : Int) : spec_CanFollow.f k w h o p gs a0 a1 b0 b1 = some (canF w h o p gs a0 a1 b0 b1) := by
  unfold spec_CanFollow.f canF
  rw [spec_EarliestAt_eq hk, Option.bind_some]
  by_cases q : early w h o p gs a1 a0 b1 ≥ 0
  · rw [if_pos q]; simp [q]
  · rw [if_neg q]; simp; omega
theorem toTimed_eq {k : Nat} {gs : List SlaGate} (hl : gs.length ≤ 1048576) (hk : gs.length + 1 ≤ k) (w h o p : Int) : laws_toTimed.f k w h o p gs = some (w, h, o, p, gs.map toGate) := by
  unfold laws_toTimed.f
  simp only [laws_toMaze.f, laws_toGrid.f, Option.bind_some]
  rw [laws_toGateS_eq hl hk]
  rfl
theorem eqTimed_refl {k : Nat} {gs : List SGate} (hl : gs.length ≤ 1048576) (hk : gs.length + 1 ≤ k) (w h o p : Int) : laws_eqTimed.f k w h o p gs w h o p gs = some true := by
  unfold laws_eqTimed.f laws_eqMaze.f laws_eqGrid.f
  simp only [if_true, Option.bind_some]
  rw [laws_eqGateS_refl (by omega) hk]
  simp
end Go.Proofs.Ytimejdhglmajdaa.F
end

section
namespace Go.Proofs.Ytimejdhglmajdaa.F
open Go.RowKit Go.Proofs.YtimejdhglmajdaaW.PrintWords Go.Proofs.YtimejdhglmajdaaW.PrintLast Go.Proofs.YtimejdhglmajdaaW.PrintMore
set_option linter.unusedVariables false
set_option linter.unusedSimpArgs false
def ints (n : Nat) : List Int := (List.range n).map fun (j : Nat) => (j : Int)
theorem ints_succ (n : Nat) : ints (n + 1) = ints n ++ [(n : Int)] := by
  unfold ints
  rw [List.range_succ, List.map_append]
  rfl
theorem ints_length (n : Nat) : (ints n).length = n := by simp [ints]
theorem impl_upTo_eq {n k : Nat} (hn : n ≤ 1000) (hk : n + 1 ≤ k) : impl_upTo.f k (n : Int) = some (ints n) := by
  unfold impl_upTo.f
  obtain ⟨s, hs, e⟩ := inv_loop (F := fun k (s : List Int) i => impl_upTo.l0 k (n : Int) s i) (n := n) (c := 0) (fin := fun s => s) (I := fun s i => s = ints i)
    (fun k s i _ hi hs => ⟨ints (i + 1), rfl, by
      subst hs
      simp only [impl_upTo.l0]
      rw [if_pos (by omega), if_pos (by rw [ints_length]; omega), ints_succ, w64 (by omega) (by omega)]⟩)
    (fun k s _ hs => by
      simp only [impl_upTo.l0]
      rw [if_neg (by omega)]) n 0 k [] (by omega) (by omega) rfl
  subst hs
  exact e
theorem stN_int (w h : Int) : ((stN w h : Nat) : Int) = cells w h := by have := cells_bd w h; unfold stN; omega
theorem stN_le (w h : Int) : stN w h ≤ 16 := by have := cells_bd w h; unfold stN; omega
end Go.Proofs.Ytimejdhglmajdaa.F
end

section
namespace Go.Proofs.Ytimejdhglmajdaa.F
open Go.RowKit Go.Proofs.YtimejdhglmajdaaW.PrintWords Go.Proofs.YtimejdhglmajdaaW.PrintLast Go.Proofs.YtimejdhglmajdaaW.PrintMore
set_option linter.unusedVariables false
set_option linter.unusedSimpArgs false
theorem markG_some {k : Nat} {l : List SGate} {a : Int} (h0 : 0 ≤ a) (h1 : a ≤ 1000000000) (hl : l.length ≤ 100000000) (hk : l.length + 1 ≤ k) :
    ∃ l', laws_markGateS.f k l a = some (a + 2 * l.length, l') := by
  obtain ⟨s, ⟨e1, e2⟩, e4⟩ := inv_loop (n := l.length) (c := 0) (F := fun k (s : List SGate × Int) i => laws_markGateS.l0 k s.1 s.2 i) (fin := fun s => (s.2, s.1))
    (I := fun s i => s.1.length = l.length ∧ s.2 = a + 2 * i)
    (fun k s i _ hi ⟨i1, i2⟩ => by
      obtain ⟨y, hy⟩ : ∃ y : List SGate, y = s.1.set i ⟨s.2, (rd_Gate s.1 (i : Int)).f1⟩ := ⟨_, rfl⟩
      refine ⟨(y.set i ⟨(rd_Gate y (i : Int)).f0, s.2 + 1⟩, s.2 + 2), ⟨by rw [hy]; simpa using i1, by simp only; omega⟩, ?_⟩
      · simp only [laws_markGateS.l0]
        rw [if_pos (by omega), if_pos (by omega), Option.bind_some, w64_succ hi (by omega), w64 (x := s.2 + 1) (by omega) (by omega), w64 (by omega) (by omega), show s.2 + 1 + 1 = s.2 + 2 by omega, Int.toNat_natCast, ← hy])
    (fun k s _ h => by
      simp only [laws_markGateS.l0]
      rw [if_neg (by omega)]) l.length 0 k (l, a) (by omega) (by omega) ⟨rfl, by simp⟩
  exact ⟨s.1, by rw [← e2]; exact e4⟩
theorem canF_mok {w h o p a0 a1 b0 b1 : Int} {gs : List SGate} (H : canF w h o p gs a0 a1 b0 b1 = true) : mok w h o = true := by
  unfold canF at H
  simp only [decide_eq_true_eq] at H
  have h1 := H.1
  unfold early at h1
  split at h1
  · rename_i q
    simp only [Bool.and_eq_true] at q
    exact (tmok_iff q.1.1.1).1
  · exact absurd h1 (by decide)
def btw (w h o p : Int) (gs : List SGate) (a0 a1 b0 b1 m : Int) : List Int :=
  if (canF w h o p gs a0 a1 b0 b1 && decide (a0 < m ∧ m < b0)) = true then (ints (stN w h)).filter fun x => canF w h o p gs a0 a1 m x && canF w h o p gs m x b0 b1 else []
theorem btw_len (w h o p : Int) (gs : List SGate) (a0 a1 b0 b1 m : Int) : (btw w h o p gs a0 a1 b0 b1 m).length ≤ 16 := by
  unfold btw
  split
  · exact Nat.le_trans (List.length_filter_le _ _) (by rw [ints_length]; exact stN_le w h)
  · simp
theorem impl_btw1 (w h o p : Int) (gs : List SGate) (a0 a1 b0 b1 m x : Int) : impl_BetweenCells.l0 w h o p gs a0 a1 b0 b1 m x = some (!(canF w h o p gs a0 a1 m x && canF w h o p gs m x b0 b1)) := by
  unfold impl_BetweenCells.l0
  rw [impl_CanFollow_eq, Option.bind_some]
  by_cases c : canF w h o p gs a0 a1 m x = true
  · rw [if_pos c, impl_CanFollow_eq, Option.bind_some, c, Bool.true_and]
  · rw [if_neg c]; simp [c]
theorem impl_BetweenCells_eq (w h o p : Int) (gs : List SGate) (a0 a1 b0 b1 m : Int) : impl_BetweenCells.f w h o p gs a0 a1 b0 b1 m = some (btw w h o p gs a0 a1 b0 b1 m) := by
  unfold impl_BetweenCells.f btw
  rw [impl_CanFollow_eq, Option.bind_some]
  by_cases C : canF w h o p gs a0 a1 b0 b1 = true
  · rw [if_pos C, C, Bool.true_and]
    by_cases q1 : m ≤ a0
    · rw [if_pos q1, if_neg (by simp; intro; omega)]
    · rw [if_neg q1]
      by_cases q2 : m ≥ b0
      · rw [if_pos q2, if_neg (by simp; intro; omega)]
      · rw [if_neg q2]
        have hN := stN_int w h
        have hL := stN_le w h
        have M := canF_mok C
        have g := mok_iff.1 M
        have hpos : 0 < stN w h := by
          have := gok_iff.1 g.1
          have h1 : 0 < w * h := Int.mul_pos (by omega) (by omega)
          have h2 : cells w h = w * h := by unfold cells; rw [if_pos g.1]
          omega
        rw [impl_CountCells_eq, Option.bind_some, ← hN, impl_upTo_eq (by omega) (by omega), Option.bind_some, if_pos, if_pos (by simp; omega)]
        · congr 1
          refine List.filter_congr fun x _ => ?_
          rw [impl_btw1]
          simp
        · refine ⟨List.all_eq_true.2 fun x hx => by rw [impl_btw1]; rfl, by rw [ints_length]; exact hpos⟩
  · rw [if_neg C, if_neg (by simp [C])]
theorem spec_btw {w h o p a0 a1 b0 b1 m : Int} {gs : List SGate} {k : Nat} (hk : 1100 ≤ k) : spec_BetweenCells.l0 k m [] 0 w h o p gs a0 a1 b0 b1 = some ((ints (stN w h)).filter fun x => canF w h o p gs a0 a1 m x && canF w h o p gs m x b0 b1) := by
  have hN := stN_int w h
  have hL := stN_le w h
  obtain ⟨s, hs, e⟩ := inv_loop (F := fun k (s : List Int) i => spec_BetweenCells.l0 k m s i w h o p gs a0 a1 b0 b1) (n := stN w h) (c := 1000) (fin := fun s => s) (I := fun s i => s = (ints i).filter fun x => canF w h o p gs a0 a1 m x && canF w h o p gs m x b0 b1)
    (fun k s i hk2 hi hs => ⟨(ints (i + 1)).filter fun x => canF w h o p gs a0 a1 m x && canF w h o p gs m x b0 b1, rfl, by
      subst hs
      have hle : ((ints i).filter fun x => canF w h o p gs a0 a1 m x && canF w h o p gs m x b0 b1).length ≤ 16 := Nat.le_trans (List.length_filter_le _ _) (by rw [ints_length]; omega)
      simp only [spec_BetweenCells.l0]
      rw [spec_CountCells_eq, Option.bind_some, if_pos (by omega), spec_CanFollow_eq (by omega), Option.bind_some, w64 (x := (i : Int) + 1) (by omega) (by omega), ints_succ, List.filter_append, List.filter_cons, List.filter_nil]
      by_cases c1 : canF w h o p gs a0 a1 m (i : Int) = true
      · rw [if_pos c1, spec_CanFollow_eq (by omega), Option.bind_some, c1, Bool.true_and]
        by_cases c2 : canF w h o p gs m (i : Int) b0 b1 = true
        · rw [if_pos c2, if_pos (by omega), if_pos c2]
        · rw [if_neg c2, if_neg c2, List.append_nil]
      · rw [if_neg c1, if_neg (by simp [c1]), List.append_nil]⟩)
    (fun k s _ hs => by
      simp only [spec_BetweenCells.l0]
      rw [spec_CountCells_eq, Option.bind_some, if_neg (by omega)]) (stN w h) 0 k [] (by omega) (by omega) rfl
  subst hs
  exact e
theorem spec_BetweenCells_eq {k : Nat} (hk : 1200 ≤ k) (w h o p : Int) (gs : List SGate) (a0 a1 b0 b1 m : Int) : spec_BetweenCells.f k w h o p gs a0 a1 b0 b1 m = some (btw w h o p gs a0 a1 b0 b1 m) := by
  obtain ⟨k', rfl⟩ : ∃ k', k = k' + 1 := ⟨k - 1, by omega⟩
  unfold spec_BetweenCells.f btw
  rw [Option.bind_some, spec_CanFollow_eq (by omega), Option.bind_some]
  simp only [spec_BetweenCells.j0]
  by_cases C : canF w h o p gs a0 a1 b0 b1 = true
  · rw [if_pos C, C, Bool.true_and]
    by_cases q1 : m ≤ a0
    · rw [if_pos q1, if_pos trivial, if_neg (by simp; intro; omega)]
    · rw [if_neg q1]
      by_cases q2 : m ≥ b0
      · rw [if_pos (by simpa using q2), if_neg (by simp; intro; omega)]
      · rw [if_neg (by simpa using q2), if_pos (by simp; omega)]
        exact spec_btw (by omega)
  · rw [if_neg C, if_pos trivial, if_neg (by simp [C])]
end Go.Proofs.Ytimejdhglmajdaa.F
end

section
namespace Go.Proofs.Ytimejdhglmajdaa.F
open Go.RowKit Go.Proofs.YtimejdhglmajdaaW.PrintWords Go.Proofs.YtimejdhglmajdaaW.PrintLast Go.Proofs.YtimejdhglmajdaaW.PrintMore
set_option linter.unusedVariables false
set_option linter.unusedSimpArgs false
theorem FnExactBetweenCells_pure : ∀ (a0_0 : Int) (a0_1 : Int) (a0_2 : Int) (a0_3 : Int) (l0_4 : List (SlaGate)) (a1_0 : Int) (a1_1 : Int) (a2_0 : Int) (a2_1 : Int) (a3 : Int), (I64 (a0_0)) → (I64 (a0_1)) → (I64 (a0_2)) → (I64 (a0_3)) → ((l0_4).length ≤ 9223372036854775807 ∧ ∀ y ∈ l0_4, (I64 (y.f0)) ∧ (I64 (y.f1))) → (I64 (a1_0)) → (I64 (a1_1)) → (I64 (a2_0)) → (I64 (a2_1)) → (I64 (a3)) → ∃ k, laws_FnExactBetweenCells.f k a0_0 a0_1 a0_2 a0_3 l0_4 a1_0 a1_1 a2_0 a2_1 a3 = some true := by
  intro w h o p gs a0 a1 b0 b1 m _ _ _ _ hg _ _ _ _ _
  refine ⟨gs.length + 1300 + 1, ?_⟩
  unfold laws_FnExactBetweenCells.f laws_szTimed.f
  rw [sz_Gate (by decide) (by decide) hg.1, Option.bind_some]
  by_cases h1 : (gs.length : Int) ≤ 1048576
  · rw [if_pos h1, if_neg (by omega), Option.bind_some, if_neg (by omega)]
    have t1 := toTimed_eq (k := gs.length + 1300 + 1) (gs := gs) (by omega) (by omega) w h o p
    have t2 := toTimed_eq (k := gs.length + 1300) (gs := gs) (by omega) (by omega) w h o p
    have hf := btw_len w h o p (gs.map toGate) a0 a1 b0 b1 m
    obtain ⟨ls, s1⟩ := markG_some (k := gs.length + 1300 + 1) (l := gs.map toGate) (a := 1) (by decide) (by decide) (by rw [List.length_map]; omega) (by rw [List.length_map]; omega)
    obtain ⟨l', e1, e2, e3⟩ := mark_held (k := gs.length + 1300) (l := btw w h o p (gs.map toGate) a0 a1 b0 b1 m) (a := 1) (by decide) (by decide) (by omega) (by omega)
    have q1 : laws_eqIntS.f (gs.length + 1300 + 1) (btw w h o p (gs.map toGate) a0 a1 b0 b1 m) (btw w h o p (gs.map toGate) a0 a1 b0 b1 m) = some true := laws_eqIntS_refl (by omega) (by omega)
    have q2 : laws_eqIntS.f (gs.length + 1300) (btw w h o p (gs.map toGate) a0 a1 b0 b1 m) (btw w h o p (gs.map toGate) a0 a1 b0 b1 m) = some true := laws_eqIntS_refl (by omega) (by omega)
    have g1 := eqTimed_refl (k := gs.length + 1300 + 1) (gs := gs.map toGate) (by rw [List.length_map]; omega) (by rw [List.length_map]; omega) w h o p
    have p1 := spec_BetweenCells_eq (k := gs.length + 1300 + 1) (by omega) w h o p (gs.map toGate) a0 a1 b0 b1 m
    have hn : ¬ (1 + ((btw w h o p (gs.map toGate) a0 a1 b0 b1 m).length : Int) < 0) := by omega
    have hn2 : ¬ (1 + 2 * ((gs.map toGate).length : Int) < 0) := by omega
    simp only [laws_toEntry.f, Option.bind_some, t1, p1, impl_BetweenCells_eq, q1, if_true, g1, laws_markTimed.f, s1, if_neg hn2, laws_FnExactBetweenCells.j0, Bool.not_true, Bool.false_eq_true, if_false, e1, e3 (gs.length + 1300) (by omega), if_neg hn, t2, q2]
  · rw [if_neg h1, if_pos (by omega), Option.bind_some, if_pos (by omega)]
end Go.Proofs.Ytimejdhglmajdaa.F
end
