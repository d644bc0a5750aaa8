/- Acts: which are valid. -/
import Derived.Test.YtiiflckblilhiaaP0
import Derived.Test.YtiiflckblilhiaaDx501464
import Derived.Test.YtiiflckblilhiaaDx538800
namespace Go.Proofs.Ytiiflckblilhiaa.F
open Go.RowKit Go.Proofs.YtiiflckblilhiaaW.PrintWords Go.Proofs.YtiiflckblilhiaaW.PrintLast Go.Proofs.YtiiflckblilhiaaW.PrintMore
set_option linter.unusedVariables false
set_option linter.unusedSimpArgs false

def aok (t a b : Int) : Bool :=
  if t = 1 then decide (1 ≤ a ∧ a ≤ 20 ∧ b = 0) else if t = 3 then decide (0 ≤ a ∧ a ≤ 5 ∧ 0 ≤ b ∧ b ≤ 3) else if t = 5 then decide (0 ≤ a ∧ a ≤ 5 ∧ b = 0) else if t = 2 ∨ t = 4 ∨ t = 6 then decide (a = 0 ∧ b = 0) else false
theorem impl_isDirection_eq (d : Int) : impl_isDirection.f d = some (decide (0 ≤ d ∧ d ≤ 3)) := by
  unfold impl_isDirection.f
  by_cases h1 : d ≥ 0 <;> simp [h1] <;> omega
theorem spec_l01In_eqA (x a b : Int) : spec_l01In.f x a b = some (decide (a ≤ x ∧ x ≤ b)) := by
  unfold spec_l01In.f
  by_cases h1 : x ≥ a
  · simp [h1]
  · rw [if_neg h1]; simp; omega
theorem impl_ActOk_eq {k : Nat} (hk : 1 ≤ k) (t a b : Int) : impl_ActOk.f k t a b = some (aok t a b) := by
  obtain ⟨m, rfl⟩ : ∃ m, k = m + 1 := ⟨k - 1, by omega⟩
  have e : impl_ActOk.f (m + 1) t a b = impl_ActOk.j0 (m + 1) (decide (0 ≤ a ∧ a ≤ 5)) t a b := by
    unfold impl_ActOk.f
    by_cases h : a ≥ 0
    · rw [if_pos h]; congr 1; rw [Bool.eq_iff_iff]; simp; omega
    · rw [if_neg h]; congr 1; symm; simp; omega
  rw [e]
  simp only [impl_ActOk.j0, impl_isDirection_eq, Option.bind_some]
  unfold aok
  by_cases t1 : t = 1
  · simp only [t1, if_true]
    by_cases h1 : a ≥ 1
    · rw [if_pos h1]
      by_cases h2 : a ≤ 20
      · rw [if_pos h2]; congr 1; rw [Bool.eq_iff_iff]; simp; omega
      · rw [if_neg h2]; congr 1; symm; simp; omega
    · rw [if_neg h1]; congr 1; symm; simp; omega
  by_cases t3 : t = 3
  · simp only [t3]
    by_cases h1 : 0 ≤ a ∧ a ≤ 5
    · simp [h1]
    · simp [h1]; omega
  by_cases t5 : t = 5
  · simp only [t5]
    by_cases h1 : 0 ≤ a ∧ a ≤ 5
    · simp [h1]; rw [Bool.eq_iff_iff]; simp
    · simp [h1]; omega
  by_cases t2 : t = 2
  · simp only [t2]
    by_cases h1 : a = 0
    · simp [h1]; rw [Bool.eq_iff_iff]; simp
    · simp [h1]
  by_cases t4 : t = 4
  · simp only [t4]
    by_cases h1 : a = 0
    · simp [h1]; rw [Bool.eq_iff_iff]; simp
    · simp [h1]
  by_cases t6 : t = 6
  · simp only [t6]
    by_cases h1 : a = 0
    · simp [h1]; rw [Bool.eq_iff_iff]; simp
    · simp [h1]
  simp [t1, t2, t3, t4, t5, t6]
theorem spec_ActOk_eq {k : Nat} (hk : 1 ≤ k) (t a b : Int) : spec_ActOk.f k t a b = some (aok t a b) := by
  obtain ⟨m, rfl⟩ : ∃ m, k = m + 1 := ⟨k - 1, by omega⟩
  have e : spec_ActOk.f (m + 1) t a b = spec_ActOk.j0 (m + 1) t (decide (t = 2 ∨ t = 4 ∨ t = 6)) t a b := by
    unfold spec_ActOk.f
    by_cases h : t = 2
    · subst h; rfl
    · by_cases h4 : t = 4
      · subst h4; rfl
      · rw [if_neg h, if_neg h4]
        congr 1
        rw [Bool.eq_iff_iff]; simp [h, h4]
  rw [e]
  simp only [spec_ActOk.j0, spec_l01In_eqA, Option.bind_some]
  unfold aok
  by_cases t1 : t = 1
  · simp only [t1]
    by_cases h1 : 1 ≤ a ∧ a ≤ 20
    · simp [h1]; rw [Bool.eq_iff_iff]; simp
    · simp [h1]; omega
  by_cases t3 : t = 3
  · simp only [t3]
    by_cases h1 : 0 ≤ a ∧ a ≤ 5
    · simp [h1]
    · simp [h1]; omega
  by_cases t5 : t = 5
  · simp only [t5]
    by_cases h1 : 0 ≤ a ∧ a ≤ 5
    · simp [h1]; rw [Bool.eq_iff_iff]; simp
    · simp [h1]; omega
  by_cases t2 : t = 2 ∨ t = 4 ∨ t = 6
  · simp only [t2, t1, t3, t5]
    by_cases h1 : a = 0
    · simp [h1]; rw [Bool.eq_iff_iff]; simp
    · simp [h1]
  simp [t1, t2, t3, t5]
end Go.Proofs.Ytiiflckblilhiaa.F
