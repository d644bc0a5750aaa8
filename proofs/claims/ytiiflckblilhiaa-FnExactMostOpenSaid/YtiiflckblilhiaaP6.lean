/- The gaps that two mazes differ in; how many bits are set. -/
import Derived.Test.YtiiflckblilhiaaP5
namespace Go.Proofs.Ytiiflckblilhiaa.F
open Go.RowKit Go.Proofs.YtiiflckblilhiaaW.PrintWords Go.Proofs.YtiiflckblilhiaaW.PrintLast Go.Proofs.YtiiflckblilhiaaW.PrintMore
set_option linter.unusedVariables false
set_option linter.unusedSimpArgs false

/-- The bits that are set, from i on, below n. -/
def setFrom (o : Int) (i d : Nat) : List Int := ((List.range' i d).map fun (j : Nat) => (j : Int)).filter fun g => opn o g
theorem setFrom_succ (o : Int) (i d : Nat) : setFrom o i (d + 1) = (if opn o i then [(i : Int)] else []) ++ setFrom o (i + 1) d := by
  unfold setFrom
  rw [List.range'_succ, List.map_cons, List.filter_cons]
  split <;> simp
theorem shr_pos {o : Int} (h0 : 0 ≤ o) (h1 : o < 9223372036854775808) (i : Nat) : (shr .i64 o i > 0 ↔ 2 ^ i ≤ o.toNat) := by
  obtain ⟨a, rfl⟩ := Int.eq_ofNat_of_zero_le h0
  have ha : a < 2 ^ 63 := by omega
  rw [shr_nat ha, Nat.shiftRight_eq_div_pow]
  have hp : 0 < 2 ^ i := Nat.two_pow_pos i
  have : 0 < a / 2 ^ i ↔ 2 ^ i ≤ a := by
    rw [Nat.lt_iff_add_one_le, Nat.le_div_iff_mul_le hp]
    simp
  simp only [Int.toNat_natCast]
  omega
theorem setFrom_none {o : Int} {i : Nat} (h : o.toNat < 2 ^ i) (d : Nat) : setFrom o i d = [] := by
  unfold setFrom
  rw [List.filter_eq_nil_iff]
  intro g hg
  obtain ⟨j, hj, rfl⟩ := List.mem_map.1 hg
  have := (List.mem_range'_1.1 hj).1
  unfold opn
  rw [Int.toNat_natCast, Nat.testBit_lt_two_pow (Nat.lt_of_lt_of_le h (Nat.pow_le_pow_right (by decide) this))]
  simp
theorem impl_gapsOf_eq {o : Int} {n : Nat} (h0 : 0 ≤ o) (h1 : o < 2 ^ n) (hn : n ≤ 60) {k : Nat} (hk : n + 2 ≤ k) : impl_gapsOf.f k o = some (setFrom o 0 n) := by
  have e : ((2 : Int) ^ n) = ((2 ^ n : Nat) : Int) := by simp
  rw [e] at h1
  have h2 : o.toNat < 2 ^ n := by omega
  have p : (2 : Nat) ^ n ≤ 2 ^ 60 := Nat.pow_le_pow_right (by decide) hn
  have h3 : o < 9223372036854775808 := by omega
  have key : ∀ (d i k : Nat) (acc : List Int), i + d = n → d + 1 ≤ k → acc.length ≤ i → impl_gapsOf.l0 k o acc (i : Int) = some (acc ++ setFrom o i d) := by
    intro d
    induction d with
    | zero =>
      intro i k acc hi hk ha
      obtain ⟨m, rfl⟩ : ∃ m, k = m + 1 := ⟨k - 1, by omega⟩
      obtain rfl : i = n := by omega
      simp only [impl_gapsOf.l0]
      rw [if_pos (by omega), if_neg (by rw [shr_pos h0 h3]; omega)]
      simp [setFrom]
    | succ d ih =>
      intro i k acc hi hk ha
      obtain ⟨m, rfl⟩ : ∃ m, k = m + 1 := ⟨k - 1, by omega⟩
      simp only [impl_gapsOf.l0]
      rw [if_pos (by omega)]
      by_cases hs : shr .i64 o i > 0
      · rw [if_pos hs, setFrom_succ]
        have bt := bit_test (g := (i : Int)) h0 h3 (by omega)
        by_cases hb : opn o i = true
        · rw [hb] at bt
          rw [if_pos (by simpa using bt), if_pos (by omega), if_pos hb, w64 (by omega) (by omega)]
          have := ih (i + 1) m (acc ++ [(i : Int)]) (by omega) (by omega) (by simp; omega)
          rw [Int.natCast_add] at this
          refine this.trans ?_
          simp
        · rw [Bool.not_eq_true] at hb
          rw [hb] at bt
          rw [if_neg (by simpa using bt), if_neg (by simp [hb]), w64 (by omega) (by omega)]
          have := ih (i + 1) m acc (by omega) (by omega) (by omega)
          rw [Int.natCast_add] at this
          refine this.trans ?_
          simp
      · rw [if_neg hs, setFrom_none (by rw [shr_pos h0 h3] at hs; omega)]
        simp
  have := key n 0 k [] (by omega) (by omega) (by simp)
  simpa [impl_gapsOf.f] using this

theorem xor_lt {a b : Int} {n : Nat} (ha : 0 ≤ a) (ha2 : a < 2 ^ n) (hb : 0 ≤ b) (hb2 : b < 2 ^ n) (hn : n ≤ 60) : ∃ c : Int, Go.bits .xor .i64 a b = c ∧ 0 ≤ c ∧ c < 2 ^ n ∧ c = ((a.toNat ^^^ b.toNat : Nat) : Int) := by
  have e : ((2 : Int) ^ n) = ((2 ^ n : Nat) : Int) := by simp
  rw [e] at ha2 hb2 ⊢
  have p : (2 : Nat) ^ n ≤ 2 ^ 60 := Nat.pow_le_pow_right (by decide) hn
  obtain ⟨a, rfl⟩ := Int.eq_ofNat_of_zero_le ha
  obtain ⟨b, rfl⟩ := Int.eq_ofNat_of_zero_le hb
  have := Nat.xor_lt_two_pow (n := n) (x := a) (y := b) (by omega) (by omega)
  refine ⟨_, bits_xor_i (by omega) (by omega), by omega, by omega, rfl⟩
/-- The gaps in which two mazes differ. -/
def diff (w h o w2 h2 o2 : Int) : List Int := if mok w h o && mok w2 h2 o2 && decide (w = w2 ∧ h = h2) then setFrom ((o.toNat ^^^ o2.toNat : Nat) : Int) 0 (gaps w h).toNat else []
theorem impl_ChangesBetween_eq {k : Nat} (hk : 30 ≤ k) (w h o w2 h2 o2 : Int) : impl_ChangesBetween.f k w h o w2 h2 o2 = some (diff w h o w2 h2 o2) := by
  unfold impl_ChangesBetween.f diff
  rw [impl_MazeOk_eq, impl_MazeOk_eq]
  simp only [Option.bind_some]
  by_cases M : mok w h o = true
  · rw [if_pos M]
    by_cases M2 : mok w2 h2 o2 = true
    · rw [if_pos M2]
      by_cases E : w = w2 ∧ h = h2
      · obtain ⟨rfl, rfl⟩ := E
        have b := gaps_bd w h
        obtain ⟨c, e1, c0, c1, e2⟩ := xor_lt (mok_iff.1 M).2.1 (mok_iff.1 M).2.2 (mok_iff.1 M2).2.1 (mok_iff.1 M2).2.2 (by omega : (gaps w h).toNat ≤ 60)
        rw [if_neg (by simp), e1, impl_gapsOf_eq c0 c1 (by omega) (by omega), if_pos (by simp [M, M2])]
        rw [e2]
        rfl
      · rw [if_pos (by simp; omega), if_neg (by simp [M, M2]; omega)]
    · rw [if_neg M2, if_neg (by simp [M2])]
  · rw [if_neg M, if_neg (by simp [M])]
theorem spec_ChangesBetween_eq {k : Nat} (hk : 60 ≤ k) (w h o w2 h2 o2 : Int) : spec_ChangesBetween.f k w h o w2 h2 o2 = some (diff w h o w2 h2 o2) := by
  refine at_rounds (g := fun k => spec_ChangesBetween.f k w h o w2 h2 o2) (fun k => spec_ChangesBetween.mono w h o w2 h2 o2 k) (k := 2 * (gaps w h).toNat + 2) (by have := gaps_bd w h; omega) ?_
  show spec_ChangesBetween.f _ w h o w2 h2 o2 = _
  unfold spec_ChangesBetween.f diff
  have b := gaps_bd w h
  by_cases E : (mok w h o && mok w2 h2 o2 && decide (w = w2 ∧ h = h2)) = true
  · rw [if_pos E]
    simp only [Bool.and_eq_true, decide_eq_true_eq] at E
    obtain ⟨⟨M, M2⟩, rfl, rfl⟩ := E
    obtain ⟨c, e1, c0, c1, e2⟩ := xor_lt (mok_iff.1 M).2.1 (mok_iff.1 M).2.2 (mok_iff.1 M2).2.1 (mok_iff.1 M2).2.2 (by omega : (gaps w h).toNat ≤ 60)
    have gp := gpow w h
    have key : ∀ (d i : Nat) (acc : List Int), i + d = (gaps w h).toNat → acc.length ≤ i → spec_ChangesBetween.l0 (2 * d + 2) acc (i : Int) w h o w h o2 = some (acc ++ setFrom c i d) := by
      intro d
      induction d with
      | zero =>
        intro i acc hi ha
        simp only [spec_ChangesBetween.l0, spec_ChangesBetween.j1, spec_CountGaps_eq, Option.bind_some]
        rw [if_neg (by omega)]
        simp [setFrom]
      | succ d ih =>
        intro i acc hi ha
        rw [show 2 * (d + 1) + 2 = (2 * d + 2) + 1 + 1 by omega]
        obtain ⟨q, hq⟩ : ∃ q, q = 2 * d + 2 := ⟨_, rfl⟩
        rw [← hq] at ih ⊢
        simp only [spec_ChangesBetween.l0, spec_ChangesBetween.j1, spec_CountGaps_eq, spec_MazeOk_eq, Option.bind_some, M, M2, e1]
        rw [if_pos (by omega)]
        simp only [if_true, beq_self_eq_true, Bool.and_self]
        rw [spec_l03Bit_eq c0 (by omega) (by omega), Option.bind_some, setFrom_succ, w64 (by omega) (by omega)]
        by_cases hb : opn c i = true
        · rw [if_pos hb, if_pos hb, if_pos (by omega)]
          have := ih (i + 1) (acc ++ [(i : Int)]) (by omega) (by simp; omega)
          rw [Int.natCast_add] at this
          refine this.trans ?_
          simp
        · rw [if_neg hb, if_neg hb]
          have := ih (i + 1) acc (by omega) (by omega)
          rw [Int.natCast_add] at this
          refine this.trans ?_
          simp
    have := key (gaps w h).toNat 0 [] (by omega) (by simp)
    rw [← e2]
    simpa using this
  · rw [if_neg E]
    rw [show 2 * (gaps w h).toNat + 2 = 2 * (gaps w h).toNat + 1 + 1 by omega]
    obtain ⟨q, hq⟩ : ∃ q, q = 2 * (gaps w h).toNat := ⟨_, rfl⟩
    rw [← hq]
    simp only [spec_ChangesBetween.l0, spec_ChangesBetween.j1, spec_CountGaps_eq, spec_MazeOk_eq, Option.bind_some]
    by_cases g0 : 0 < gaps w h
    · rw [if_pos g0]
      by_cases M : mok w h o = true
      · rw [if_pos M]
        by_cases M2 : mok w2 h2 o2 = true
        · rw [if_pos M2, if_neg (by
            intro q2
            simp at q2
            exact E (by obtain ⟨rfl, rfl⟩ := q2; simp [M, M2]))]
        · rw [if_neg M2]; simp
      · rw [if_neg M]; simp
    · rw [if_neg g0]; simp
theorem setFrom_length (o : Int) (i d : Nat) : (setFrom o i d).length ≤ d := by
  unfold setFrom
  refine Nat.le_trans (List.length_filter_le _ _) ?_
  simp
theorem diff_length (w h o w2 h2 o2 : Int) : (diff w h o w2 h2 o2).length ≤ 24 := by
  unfold diff
  have b := gaps_bd w h
  split
  · have := setFrom_length ((o.toNat ^^^ o2.toNat : Nat) : Int) 0 (gaps w h).toNat
    omega
  · simp
end Go.Proofs.Ytiiflckblilhiaa.F
