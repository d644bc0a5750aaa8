/- Written by a program of the session (wip/tools/mk.py): functions of the program as plain Lean. -/
import Derived.Test.YtiiflckblilhiaaD
import Derived.Test.YtiiflckblilhiaaDx538800
namespace Go.Proofs.Ytiiflckblilhiaa.F
open Go.RowKit Go.Proofs.YtiiflckblilhiaaW.PrintWords Go.Proofs.YtiiflckblilhiaaW.PrintLast Go.Proofs.YtiiflckblilhiaaW.PrintMore
set_option linter.unusedVariables false
set_option linter.unusedSimpArgs false
def spec_TicketOk.f (a0_0 : Int) (a0_1 : Int) : Option (Bool) := (spec_l01In.f a0_0 0 10000).bind fun t102 => (if t102 = true then ((spec_l01In.f a0_1 0 10000).bind fun t103 => (if t103 = true then (some (decide (a0_0 < a0_1))) else (some false))) else (some false))
def spec_l35Ok.l0 : Nat → List (STicket) → Int → Option (Bool)
  | 0, _, _ => none
  | k + 1, x0, x3 => if x3 < (x0.length : Int) then (if 0 ≤ x3 then ((spec_TicketOk.f ((rd_Ticket x0 x3).f0) ((rd_Ticket x0 x3).f1)).bind fun t250 => (if t250 = true then (spec_l35Ok.l0 k x0 (wrap64 (x3 + 1))) else (some false))) else (none)) else (some true)
def spec_l35Ok.f (k : Nat) (l0 : List (STicket)) : Option (Bool) := spec_l35Ok.l0 k l0 0
theorem spec_l35Ok.mono_l : ∀ k, (∀ y0 y1, LeO (spec_l35Ok.l0 k y0 y1) (spec_l35Ok.l0 (k + 1) y0 y1))
  | 0 => fun _ _ r h => by simp [spec_l35Ok.l0] at h
  | k + 1 => by
    have ih0 := spec_l35Ok.mono_l k
    · intro y0 y1
      unfold spec_l35Ok.l0
      repeat' first
      | (with_reducible exact ih0 _ _)
      | (with_reducible exact LeO.refl _)
      | (with_reducible exact LeO.none _)
      | (with_reducible refine LeO.ite ?_ ?_)
      | (with_reducible refine LeO.bind ?_ (fun _ => ?_))
      | exact ih0 _ _
      | exact LeO.none _
      | refine LeO.ite ?_ ?_
      | refine LeO.bind ?_ (fun _ => ?_)
theorem spec_l35Ok.mono : ∀ a0 k, LeO (spec_l35Ok.f k a0) (spec_l35Ok.f (k + 1) a0) := by
  intro a0 k
  have ih0 := spec_l35Ok.mono_l k
  unfold spec_l35Ok.f
  repeat' first
      | (with_reducible exact ih0 _ _)
      | (with_reducible exact LeO.refl _)
      | (with_reducible exact LeO.none _)
      | (with_reducible refine LeO.ite ?_ ?_)
      | (with_reducible refine LeO.bind ?_ (fun _ => ?_))
      | exact ih0 _ _
      | exact LeO.none _
      | refine LeO.ite ?_ ?_
      | refine LeO.bind ?_ (fun _ => ?_)
end Go.Proofs.Ytiiflckblilhiaa.F
