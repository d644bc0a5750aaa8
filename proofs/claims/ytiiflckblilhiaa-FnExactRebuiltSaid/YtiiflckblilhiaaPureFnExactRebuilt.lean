/- For every maze and every list, the program's Rebuilt and the reference's answer the same. -/
import Derived.Test.YtiiflckblilhiaaP5
namespace Go.Proofs.Ytiiflckblilhiaa.F
open Go.RowKit Go.Proofs.YtiiflckblilhiaaW.PrintWords Go.Proofs.YtiiflckblilhiaaW.PrintLast Go.Proofs.YtiiflckblilhiaaW.PrintMore
set_option linter.unusedVariables false
set_option linter.unusedSimpArgs false

theorem FnExactRebuilt_pure : ∀ (a0_0 : Int) (a0_1 : Int) (a0_2 : Int) (l1 : List (Int)), (I64 (a0_0)) → (I64 (a0_1)) → (I64 (a0_2)) → ((l1).length ≤ 9223372036854775807 ∧ ∀ y ∈ l1, I64 (y)) → ∃ k, laws_FnExactRebuilt.f k a0_0 a0_1 a0_2 l1 = some true := by
  intro w h o l _ _ _ hl
  refine ⟨l.length + 5, ?_⟩
  unfold laws_FnExactRebuilt.f
  by_cases hs : l.length ≤ 1048576
  · rw [if_neg (by omega)]
    simp only [laws_toMaze.f, laws_toGrid.f, Option.bind_some, laws_toIntS_eq hs (show l.length + 1 ≤ l.length + 5 by omega), spec_Rebuilt_eq w h o hs (show l.length + 2 ≤ l.length + 5 by omega), impl_Rebuilt_eq w h o hs (show l.length + 3 ≤ l.length + 5 by omega)]
    cases pok w h o l
    all_goals
      simp only [laws_eqMaze_refl, Option.bind_some, if_true, Bool.false_eq_true, if_false, bne_self_eq_false, laws_FnExactRebuilt.j0, laws_toIntS_eq hs (show l.length + 1 ≤ l.length + 4 by omega), laws_eqIntS_refl (show l.length ≤ 9223372036854775806 by omega) (show l.length + 1 ≤ l.length + 4 by omega)]
  · rw [if_pos (by omega)]
end Go.Proofs.Ytiiflckblilhiaa.F
