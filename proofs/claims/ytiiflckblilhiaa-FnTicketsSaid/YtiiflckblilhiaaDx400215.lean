/- Written by a program of the session (wip/tools/mk.py): functions of the program as plain Lean. -/
import Derived.Test.YtiiflckblilhiaaD
import Derived.Test.YtiiflckblilhiaaDx1caa52
import Derived.Test.YtiiflckblilhiaaDxbfdc49
namespace Go.Proofs.Ytiiflckblilhiaa.F
open Go.RowKit Go.Proofs.YtiiflckblilhiaaW.PrintWords Go.Proofs.YtiiflckblilhiaaW.PrintLast Go.Proofs.YtiiflckblilhiaaW.PrintMore
set_option linter.unusedVariables false
set_option linter.unusedSimpArgs false
def impl_greatest.f (k : Nat) (l0 : List (STicket)) : Option (Int) := (impl_most.f k l0).bind fun bt380 => (some bt380.1)
theorem impl_greatest.mono : ∀ a0 k, LeO (impl_greatest.f k a0) (impl_greatest.f (k + 1) a0) := by
  intro a0 k
  unfold impl_greatest.f
  repeat' first
      | (with_reducible exact impl_most.mono _ _)
      | (with_reducible exact LeO.refl _)
      | (with_reducible exact LeO.none _)
      | (with_reducible refine LeO.ite ?_ ?_)
      | (with_reducible refine LeO.bind ?_ (fun _ => ?_))
      | exact impl_most.mono _ _
      | exact LeO.none _
      | refine LeO.ite ?_ ?_
      | refine LeO.bind ?_ (fun _ => ?_)
def slices_Clone_impl_Ticket.f (l0 : List STicket) : Option (List STicket) := if l0.length < 8796093022208 then some l0 else none
def impl_CanAdmit.f (k : Nat) (l0 : List (STicket)) (a1_0 : Int) (a1_1 : Int) (a2 : Int) : Option (Bool) := (impl_TicketOk.f a1_0 a1_1).bind fun t383 => (if t383 = true then ((impl_areTickets.f l0).bind fun t384 => (if t384 = true then ((slices_Clone_impl_Ticket.f l0).bind fun t385 => ((some (([(⟨a1_0, a1_1⟩ : STicket)] : List (STicket)) : List (STicket))).bind fun y388 => (if t385.length + y388.length < 8796093022208 then ((impl_greatest.f k (t385 ++ y388)).bind fun t394 => (some (decide (t394 ≤ a2)))) else (none)))) else (some false))) else (some false))
theorem impl_CanAdmit.mono : ∀ a0 a1 a2 a3 k, LeO (impl_CanAdmit.f k a0 a1 a2 a3) (impl_CanAdmit.f (k + 1) a0 a1 a2 a3) := by
  intro a0 a1 a2 a3 k
  unfold impl_CanAdmit.f
  repeat' first
      | (with_reducible exact impl_greatest.mono _ _)
      | (with_reducible exact LeO.refl _)
      | (with_reducible exact LeO.none _)
      | (with_reducible refine LeO.ite ?_ ?_)
      | (with_reducible refine LeO.bind ?_ (fun _ => ?_))
      | exact impl_greatest.mono _ _
      | exact LeO.none _
      | refine LeO.ite ?_ ?_
      | refine LeO.bind ?_ (fun _ => ?_)
end Go.Proofs.Ytiiflckblilhiaa.F
