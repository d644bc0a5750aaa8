/- For every maze and sign, the program's SignOk and the reference's answer the same. -/
import Derived.Test.YtiiflckblilhiaaP4
namespace Go.Proofs.Ytiiflckblilhiaa.F
open Go.RowKit Go.Proofs.YtiiflckblilhiaaW.PrintWords Go.Proofs.YtiiflckblilhiaaW.PrintLast Go.Proofs.YtiiflckblilhiaaW.PrintMore
set_option linter.unusedVariables false
set_option linter.unusedSimpArgs false

theorem FnExactSignOk_pure : ∀ (a0_0 : Int) (a0_1 : Int) (a0_2 : Int) (a1_0 : Int) (a1_1 : Int), (I64 (a0_0)) → (I64 (a0_1)) → (I64 (a0_2)) → (I64 (a1_0)) → (I64 (a1_1)) → ∃ k, laws_FnExactSignOk.f k a0_0 a0_1 a0_2 a1_0 a1_1 = some true := by
  intro w h o c d _ _ _ _ _
  refine ⟨8, ?_⟩
  unfold laws_FnExactSignOk.f laws_toSign.f
  simp only [laws_toMaze.f, laws_toGrid.f, Option.bind_some, spec_SignOk_eq (show 1 ≤ 8 by decide), impl_SignOk_eq (show 3 ≤ 8 by decide)]
  simp
end Go.Proofs.Ytiiflckblilhiaa.F
