/- For every ticket, the program's TicketOk and the reference's answer the same. -/
import Derived.Test.YtiiflckblilhiaaPT
namespace Go.Proofs.Ytiiflckblilhiaa.F
open Go.RowKit Go.Proofs.YtiiflckblilhiaaW.PrintWords Go.Proofs.YtiiflckblilhiaaW.PrintLast Go.Proofs.YtiiflckblilhiaaW.PrintMore
set_option linter.unusedVariables false
set_option linter.unusedSimpArgs false

theorem FnExactTicketOk_pure : ∀ (a0_0 : Int) (a0_1 : Int), (I64 (a0_0)) → (I64 (a0_1)) → laws_FnExactTicketOk.f a0_0 a0_1 = some true := by
  intro a b _ _
  have h1 := impl_TicketOk_eq ⟨a, b⟩
  have h2 := spec_TicketOk_eq ⟨a, b⟩
  simp only at h1 h2
  unfold laws_FnExactTicketOk.f laws_toTicket.f
  simp only [Option.bind_some, h1, h2]
  simp
end Go.Proofs.Ytiiflckblilhiaa.F
