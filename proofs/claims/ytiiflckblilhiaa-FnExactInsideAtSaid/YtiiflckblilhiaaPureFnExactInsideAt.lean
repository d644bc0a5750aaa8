/- For all tickets and moments, the program's InsideAt and the reference's tell the same number. -/
import Derived.Test.YtiiflckblilhiaaPT
namespace Go.Proofs.Ytiiflckblilhiaa.F
open Go.RowKit Go.Proofs.YtiiflckblilhiaaW.PrintWords Go.Proofs.YtiiflckblilhiaaW.PrintLast Go.Proofs.YtiiflckblilhiaaW.PrintMore
set_option linter.unusedVariables false
set_option linter.unusedSimpArgs false

theorem FnExactInsideAt_pure : ∀ (l0 : List (SlaTicket)) (a1 : Int), ((l0).length ≤ 9223372036854775807 ∧ ∀ y ∈ l0, (I64 (y.f0)) ∧ (I64 (y.f1))) → (I64 (a1)) → ∃ k, laws_FnExactInsideAt.f k l0 a1 = some true := by
  intro l m hl _
  refine ⟨l.length + 2, ?_⟩
  unfold laws_FnExactInsideAt.f
  rw [sz_Ticket hl.1, Option.bind_some]
  by_cases h : l.length ≤ 1048576
  · rw [if_pos h, if_neg (by omega), laws_toTicketS_eq h (by omega)]
    simp only [Option.bind_some]
    rw [spec_InsideAt_eq (by simp; omega) (by simp), impl_InsideAt_eq (by simp; omega) (by simp)]
    simp only [Option.bind_some]
    rw [laws_eqTicketS_refl (by simp; omega) (by simp)]
    simp
  · rw [if_neg h, if_pos (by omega)]
end Go.Proofs.Ytiiflckblilhiaa.F
