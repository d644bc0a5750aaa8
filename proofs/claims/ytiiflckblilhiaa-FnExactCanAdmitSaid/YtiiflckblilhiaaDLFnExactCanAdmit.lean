/- Written by a program of the session (wip/tools/mk.py): functions of the program as plain Lean. -/
import Derived.Test.YtiiflckblilhiaaD
import Derived.Test.YtiiflckblilhiaaDx0ae7e7
import Derived.Test.YtiiflckblilhiaaDx400215
import Derived.Test.YtiiflckblilhiaaDxbae494
import Derived.Test.YtiiflckblilhiaaDxbfdc49
namespace Go.Proofs.Ytiiflckblilhiaa.F
open Go.RowKit Go.Proofs.YtiiflckblilhiaaW.PrintWords Go.Proofs.YtiiflckblilhiaaW.PrintLast Go.Proofs.YtiiflckblilhiaaW.PrintMore
set_option linter.unusedVariables false
set_option linter.unusedSimpArgs false
def laws_FnExactCanAdmit.f (k : Nat) (l0 : List (SlaTicket)) (a1_0 : Int) (a1_1 : Int) (a2 : Int) : Option (Bool) := (laws_szTicketS.f l0 1048576).bind fun t396 => (if t396 < 0 then (some true) else ((laws_toTicketS.f k l0).bind fun t397 => ((laws_toTicket.f a1_0 a1_1).bind fun bt400 => ((spec_CanAdmit.f k t397 bt400.1 bt400.2 a2).bind fun t402 => ((laws_toTicketS.f k l0).bind fun t403 => ((laws_toTicket.f a1_0 a1_1).bind fun bt406 => ((impl_CanAdmit.f k t403 bt406.1 bt406.2 a2).bind fun t408 => (if (t408 != t402) = true then (some false) else ((laws_toTicketS.f k l0).bind fun t409 => ((laws_eqTicketS.f k t403 t409).bind fun t412 => (if t412 = true then (some true) else (some false))))))))))))
theorem laws_FnExactCanAdmit.mono : ∀ a0 a1 a2 a3 k, LeO (laws_FnExactCanAdmit.f k a0 a1 a2 a3) (laws_FnExactCanAdmit.f (k + 1) a0 a1 a2 a3) := by
  intro a0 a1 a2 a3 k
  unfold laws_FnExactCanAdmit.f
  repeat' first
      | (with_reducible exact impl_CanAdmit.mono _ _ _ _ _)
      | (with_reducible exact laws_eqTicketS.mono _ _ _)
      | (with_reducible exact laws_toTicketS.mono _ _)
      | (with_reducible exact spec_CanAdmit.mono _ _ _ _ _)
      | (with_reducible exact LeO.refl _)
      | (with_reducible exact LeO.none _)
      | (with_reducible refine LeO.ite ?_ ?_)
      | (with_reducible refine LeO.bind ?_ (fun _ => ?_))
      | exact impl_CanAdmit.mono _ _ _ _ _
      | exact laws_eqTicketS.mono _ _ _
      | exact laws_toTicketS.mono _ _
      | exact spec_CanAdmit.mono _ _ _ _ _
      | exact LeO.none _
      | refine LeO.ite ?_ ?_
      | refine LeO.bind ?_ (fun _ => ?_)
end Go.Proofs.Ytiiflckblilhiaa.F
