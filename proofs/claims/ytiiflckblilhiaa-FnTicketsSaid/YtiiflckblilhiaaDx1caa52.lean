/- Written by a program of the session (wip/tools/mk.py): functions of the program as plain Lean. -/
import Derived.Test.YtiiflckblilhiaaD
import Derived.Test.YtiiflckblilhiaaDxbfdc49
import Derived.Test.YtiiflckblilhiaaDxc23560
namespace Go.Proofs.Ytiiflckblilhiaa.F
open Go.RowKit Go.Proofs.YtiiflckblilhiaaW.PrintWords Go.Proofs.YtiiflckblilhiaaW.PrintLast Go.Proofs.YtiiflckblilhiaaW.PrintMore
set_option linter.unusedVariables false
set_option linter.unusedSimpArgs false
def impl_areTickets_1.f (a0_0 : Int) (a0_1 : Int) : Option (Bool) := (impl_TicketOk.f a0_0 a0_1).bind fun t258 => (some (!t258))
def impl_areTickets.f (l0 : List STicket) : Option Bool := allO (fun x => impl_TicketOk.f x.f0 x.f1) l0
def impl_most.l0 : Nat → List (STicket) → Int → Int → List (STicket) → Int → Int → Option (Int × Int)
  | 0, _, _, _, _, _, _ => none
  | k + 1, x0, x4, x5, x9, x10, x11 => if x11 < x10 then (if 0 ≤ x11 then (if x11 < (x9.length : Int) then ((impl_InsideAt.f k x0 ((rd_Ticket x9 x11).f0)).bind fun t261 => (if t261 > x4 then (impl_most.l0 k x0 t261 ((rd_Ticket x9 x11).f0) x9 x10 (wrap64 (x11 + 1))) else (if t261 = x4 then (if ((rd_Ticket x9 x11).f0) < x5 then (impl_most.l0 k x0 t261 ((rd_Ticket x9 x11).f0) x9 x10 (wrap64 (x11 + 1))) else (impl_most.l0 k x0 x4 x5 x9 x10 (wrap64 (x11 + 1)))) else (impl_most.l0 k x0 x4 x5 x9 x10 (wrap64 (x11 + 1)))))) else (none)) else (none)) else (some (x4, x5))
def impl_most.f (k : Nat) (l0 : List (STicket)) : Option (Int × Int) := impl_most.l0 k l0 0 0 l0 (l0.length : Int) 0
theorem impl_most.mono_l : ∀ k, (∀ y0 y1 y2 y3 y4 y5, LeO (impl_most.l0 k y0 y1 y2 y3 y4 y5) (impl_most.l0 (k + 1) y0 y1 y2 y3 y4 y5))
  | 0 => fun _ _ _ _ _ _ r h => by simp [impl_most.l0] at h
  | k + 1 => by
    have ih0 := impl_most.mono_l k
    · intro y0 y1 y2 y3 y4 y5
      unfold impl_most.l0
      repeat' first
      | (with_reducible exact ih0 _ _ _ _ _ _)
      | (with_reducible exact impl_InsideAt.mono _ _ _)
      | (with_reducible exact LeO.refl _)
      | (with_reducible exact LeO.none _)
      | (with_reducible refine LeO.ite ?_ ?_)
      | (with_reducible refine LeO.bind ?_ (fun _ => ?_))
      | exact ih0 _ _ _ _ _ _
      | exact impl_InsideAt.mono _ _ _
      | exact LeO.none _
      | refine LeO.ite ?_ ?_
      | refine LeO.bind ?_ (fun _ => ?_)
theorem impl_most.mono : ∀ a0 k, LeO (impl_most.f k a0) (impl_most.f (k + 1) a0) := by
  intro a0 k
  have ih0 := impl_most.mono_l k
  unfold impl_most.f
  repeat' first
      | (with_reducible exact ih0 _ _ _ _ _ _)
      | (with_reducible exact impl_InsideAt.mono _ _ _)
      | (with_reducible exact LeO.refl _)
      | (with_reducible exact LeO.none _)
      | (with_reducible refine LeO.ite ?_ ?_)
      | (with_reducible refine LeO.bind ?_ (fun _ => ?_))
      | exact ih0 _ _ _ _ _ _
      | exact impl_InsideAt.mono _ _ _
      | exact LeO.none _
      | refine LeO.ite ?_ ?_
      | refine LeO.bind ?_ (fun _ => ?_)
def impl_MostInside.f (k : Nat) (l0 : List (STicket)) : Option (Int × Int) := if (l0.length : Int) > 40 then (some (0, 0)) else ((impl_areTickets.f l0).bind fun t262 => (if t262 = true then ((impl_most.f k l0).bind fun bt263 => (some (bt263.1, bt263.2))) else (some (0, 0))))
theorem impl_MostInside.mono : ∀ a0 k, LeO (impl_MostInside.f k a0) (impl_MostInside.f (k + 1) a0) := by
  intro a0 k
  unfold impl_MostInside.f
  repeat' first
      | (with_reducible exact impl_most.mono _ _)
      | (with_reducible exact LeO.refl _)
      | (with_reducible exact LeO.none _)
      | (with_reducible refine LeO.ite ?_ ?_)
      | (with_reducible refine LeO.bind ?_ (fun _ => ?_))
      | exact impl_most.mono _ _
      | exact LeO.none _
      | refine LeO.ite ?_ ?_
      | refine LeO.bind ?_ (fun _ => ?_)
def impl_FewestRooms.f (k : Nat) (l0 : List (STicket)) : Option (Int) := (impl_MostInside.f k l0).bind fun bt348 => (some bt348.1)
theorem impl_FewestRooms.mono : ∀ a0 k, LeO (impl_FewestRooms.f k a0) (impl_FewestRooms.f (k + 1) a0) := by
  intro a0 k
  unfold impl_FewestRooms.f
  repeat' first
      | (with_reducible exact impl_MostInside.mono _ _)
      | (with_reducible exact LeO.refl _)
      | (with_reducible exact LeO.none _)
      | (with_reducible refine LeO.ite ?_ ?_)
      | (with_reducible refine LeO.bind ?_ (fun _ => ?_))
      | exact impl_MostInside.mono _ _
      | exact LeO.none _
      | refine LeO.ite ?_ ?_
      | refine LeO.bind ?_ (fun _ => ?_)
end Go.Proofs.Ytiiflckblilhiaa.F
