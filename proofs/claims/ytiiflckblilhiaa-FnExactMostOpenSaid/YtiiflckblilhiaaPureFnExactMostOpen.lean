/- For every maze and list, the program's MostOpen and the reference's tell the same number. -/
import Derived.Test.YtiiflckblilhiaaP8
namespace Go.Proofs.Ytiiflckblilhiaa.F
open Go.RowKit Go.Proofs.YtiiflckblilhiaaW.PrintWords Go.Proofs.YtiiflckblilhiaaW.PrintLast Go.Proofs.YtiiflckblilhiaaW.PrintMore
set_option linter.unusedVariables false
set_option linter.unusedSimpArgs false

theorem FnExactMostOpen_pure : ∀ (a0_0 : Int) (a0_1 : Int) (a0_2 : Int) (l1 : List (Int)), (I64 (a0_0)) → (I64 (a0_1)) → (I64 (a0_2)) → ((l1).length ≤ 9223372036854775807 ∧ ∀ y ∈ l1, I64 (y)) → ∃ k, laws_FnExactMostOpen.f k a0_0 a0_1 a0_2 l1 = some true := by
  intro w h o l _ _ _ hl
  refine ⟨l.length + 62, ?_⟩
  unfold laws_FnExactMostOpen.f
  by_cases hs : l.length ≤ 1048576
  · rw [if_neg (by omega)]
    simp only [laws_toMaze.f, laws_toGrid.f, Option.bind_some, laws_toIntS_eq hs (show l.length + 1 ≤ l.length + 62 by omega), spec_MostOpen_eq w h o hs (show l.length + 62 ≤ l.length + 62 by omega), impl_MostOpen_eq w h o hs (show l.length + 5 ≤ l.length + 62 by omega), if_true, laws_eqIntS_refl (show l.length ≤ 9223372036854775806 by omega) (show l.length + 1 ≤ l.length + 62 by omega)]
  · rw [if_pos (by omega)]
end Go.Proofs.Ytiiflckblilhiaa.F
