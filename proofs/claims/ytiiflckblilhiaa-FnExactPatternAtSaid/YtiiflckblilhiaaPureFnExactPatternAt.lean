/- For every maze and walker, the program's PatternAt and the reference's tell the same number. -/
import Derived.Test.YtiiflckblilhiaaP4
import Derived.Test.YtiiflckblilhiaaDLFnExactPatternAt
import Derived.Test.YtiiflckblilhiaaDx250f53
import Derived.Test.YtiiflckblilhiaaDx3c0de6
namespace Go.Proofs.Ytiiflckblilhiaa.F
open Go.RowKit Go.Proofs.YtiiflckblilhiaaW.PrintWords Go.Proofs.YtiiflckblilhiaaW.PrintLast Go.Proofs.YtiiflckblilhiaaW.PrintMore
set_option linter.unusedVariables false
set_option linter.unusedSimpArgs false

theorem FnExactPatternAt_pure : ∀ (a0_0 : Int) (a0_1 : Int) (a0_2 : Int) (a1_0 : Int) (a1_1 : Int), (I64 (a0_0)) → (I64 (a0_1)) → (I64 (a0_2)) → (I64 (a1_0)) → (I64 (a1_1)) → ∃ k, laws_FnExactPatternAt.f k a0_0 a0_1 a0_2 a1_0 a1_1 = some true := by
  intro w h o c f _ _ _ _ _
  refine ⟨8, ?_⟩
  unfold laws_FnExactPatternAt.f laws_toWalker.f
  simp only [laws_toMaze.f, laws_toGrid.f, Option.bind_some, spec_PatternAt_eq (show 8 ≤ 8 by decide), impl_PatternAt_eq (show 8 ≤ 8 by decide)]
  simp
end Go.Proofs.Ytiiflckblilhiaa.F
