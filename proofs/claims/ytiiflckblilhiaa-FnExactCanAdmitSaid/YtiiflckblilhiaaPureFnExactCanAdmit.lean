/- For all tickets, the program's CanAdmit and the reference's tell the same. -/
import Derived.Test.YtiiflckblilhiaaPT3
import Derived.Test.YtiiflckblilhiaaDLFnExactCanAdmit
import Derived.Test.YtiiflckblilhiaaDxbfdc49
namespace Go.Proofs.Ytiiflckblilhiaa.F
open Go.RowKit Go.Proofs.YtiiflckblilhiaaW.PrintWords Go.Proofs.YtiiflckblilhiaaW.PrintLast Go.Proofs.YtiiflckblilhiaaW.PrintMore
set_option linter.unusedVariables false
set_option linter.unusedSimpArgs false

theorem FnExactCanAdmit_pure : ∀ (l0 : List (SlaTicket)) (a1_0 : Int) (a1_1 : Int) (a2 : Int), ((l0).length ≤ 9223372036854775807 ∧ ∀ y ∈ l0, (I64 (y.f0)) ∧ (I64 (y.f1))) → (I64 (a1_0)) → (I64 (a1_1)) → (I64 (a2)) → ∃ k, laws_FnExactCanAdmit.f k l0 a1_0 a1_1 a2 = some true := by
  intro l a b m hl _ _ _
  refine ⟨2 * l.length + 12, ?_⟩
  unfold laws_FnExactCanAdmit.f laws_toTicket.f
  rw [sz_Ticket hl.1, Option.bind_some]
  by_cases h : l.length ≤ 1048576
  · rw [if_pos h, if_neg (by omega), laws_toTicketS_eq h (by omega)]
    simp only [Option.bind_some]
    rw [spec_CanAdmit_eq (x := ⟨a, b⟩) (by simp; omega) (by simp), impl_CanAdmit_eq (x := ⟨a, b⟩) (by simp; omega) (by simp)]
    simp only [Option.bind_some, bne_self_eq_false, Bool.false_eq_true, if_false]
    rw [laws_eqTicketS_refl (by simp; omega) (by simp; omega)]
    simp
  · rw [if_neg h, if_pos (by omega)]

