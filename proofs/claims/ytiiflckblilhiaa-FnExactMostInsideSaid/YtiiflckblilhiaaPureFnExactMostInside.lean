/- For all tickets, the program's MostInside and the reference's tell the same. -/
import Derived.Test.YtiiflckblilhiaaPT2
namespace Go.Proofs.Ytiiflckblilhiaa.F
open Go.RowKit Go.Proofs.YtiiflckblilhiaaW.PrintWords Go.Proofs.YtiiflckblilhiaaW.PrintLast Go.Proofs.YtiiflckblilhiaaW.PrintMore
set_option linter.unusedVariables false
set_option linter.unusedSimpArgs false

theorem FnExactMostInside_pure : ∀ (l0 : List (SlaTicket)), ((l0).length ≤ 9223372036854775807 ∧ ∀ y ∈ l0, (I64 (y.f0)) ∧ (I64 (y.f1))) → ∃ k, laws_FnExactMostInside.f k l0 = some true := by
  intro l hl
  refine ⟨3 * l.length + 12, ?_⟩
  unfold laws_FnExactMostInside.f
  rw [sz_Ticket hl.1, Option.bind_some]
  by_cases h : l.length ≤ 1048576
  · rw [if_pos h, if_neg (by omega), laws_toTicketS_eq h (by omega)]
    simp only [Option.bind_some]
    rw [spec_MostInside_eq (by simp; omega) (by simp), impl_MostInside_eq (by simp; omega) (by simp; omega)]
    simp only [Option.bind_some, if_true, bne_self_eq_false, laws_FnExactMostInside.j0, Bool.false_eq_true, if_false]
    rw [laws_toTicketS_eq h (by omega), Option.bind_some, laws_eqTicketS_refl (by simp; omega) (by simp; omega)]
    simp
  · rw [if_neg h, if_pos (by omega)]
end Go.Proofs.Ytiiflckblilhiaa.F
