/- For every act, the program's ActOk and the reference's answer the same. -/
import Derived.Test.YtiiflckblilhiaaPA
namespace Go.Proofs.Ytiiflckblilhiaa.F
open Go.RowKit Go.Proofs.YtiiflckblilhiaaW.PrintWords Go.Proofs.YtiiflckblilhiaaW.PrintLast Go.Proofs.YtiiflckblilhiaaW.PrintMore
set_option linter.unusedVariables false
set_option linter.unusedSimpArgs false

theorem FnExactActOk_pure : ∀ (a0_0 : Int) (a0_1 : Int) (a0_2 : Int), (I64 (a0_0)) → (I64 (a0_1)) → (I64 (a0_2)) → ∃ k, laws_FnExactActOk.f k a0_0 a0_1 a0_2 = some true := by
  intro t a b _ _ _
  refine ⟨1, ?_⟩
  unfold laws_FnExactActOk.f laws_toAct.f
  simp only [Option.bind_some, spec_ActOk_eq (Nat.le_refl 1), impl_ActOk_eq (Nat.le_refl 1)]
  simp
end Go.Proofs.Ytiiflckblilhiaa.F
