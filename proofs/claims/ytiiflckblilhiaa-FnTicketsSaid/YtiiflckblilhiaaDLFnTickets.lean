/- Written by a program of the session (wip/tools/mk.py): functions of the program as plain Lean. -/
import Derived.Test.YtiiflckblilhiaaD
import Derived.Test.YtiiflckblilhiaaDx1caa52
import Derived.Test.YtiiflckblilhiaaDx400215
import Derived.Test.YtiiflckblilhiaaDxa115a5
import Derived.Test.YtiiflckblilhiaaDxc23560
namespace Go.Proofs.Ytiiflckblilhiaa.F
open Go.RowKit Go.Proofs.YtiiflckblilhiaaW.PrintWords Go.Proofs.YtiiflckblilhiaaW.PrintLast Go.Proofs.YtiiflckblilhiaaW.PrintMore
set_option linter.unusedVariables false
set_option linter.unusedSimpArgs false
mutual
def laws_FnTickets.l0 : Nat → List (STicket) → Int → List Int → List (STicket) → Int → Option (Bool)
  | 0, _, _, _, _, _ => none
  | k + 1, x3, x4, x5, x6, x7 => if x7 < (x5.length : Int) then (if 0 ≤ x7 then (if (rd x5 x7) < 0 then (some false) else (if (rd x5 x7) ≥ (x3.length : Int) then (some false) else (if x7 > 0 then (if 0 ≤ (wrap64 (x7 - 1)) then (if (wrap64 (x7 - 1)) < (x5.length : Int) then (if (rd x5 x7) ≤ (rd x5 (wrap64 (x7 - 1))) then (some false) else (if 0 ≤ (rd x5 x7) then (if (rd x5 x7) < (x3.length : Int) then (if x6.length < 8796093022208 then (laws_FnTickets.l0 k x3 x4 x5 (x6 ++ [(⟨(rd_Ticket x3 (rd x5 x7)).f0, (rd_Ticket x3 (rd x5 x7)).f1⟩ : STicket)]) (wrap64 (x7 + 1))) else (none)) else (none)) else (none))) else (none)) else (none)) else (if 0 ≤ (rd x5 x7) then (if (rd x5 x7) < (x3.length : Int) then (if x6.length < 8796093022208 then (laws_FnTickets.l0 k x3 x4 x5 (x6 ++ [(⟨(rd_Ticket x3 (rd x5 x7)).f0, (rd_Ticket x3 (rd x5 x7)).f1⟩ : STicket)]) (wrap64 (x7 + 1))) else (none)) else (none)) else (none))))) else (none)) else ((impl_MostInside.f k x3).bind fun bt503 => ((impl_MostInside.f k x6).bind fun bt505 => (laws_FnTickets.l1 k x3 x4 x5 bt503.1 bt503.2 bt505.1 0)))
def laws_FnTickets.l1 : Nat → List (STicket) → Int → List Int → Int → Int → Int → Int → Option (Bool)
  | 0, _, _, _, _, _, _, _ => none
  | k + 1, x3, x4, x5, x8, x9, x10, x12 => if x12 < 40 then ((impl_InsideAt.f k x3 x12).bind fun t515 => (if t515 > x8 then (some false) else ((impl_InsideAt.f k x3 x12).bind fun t516 => (if t516 = x8 then (if x8 > 0 then (if x12 < x9 then (some false) else (laws_FnTickets.l1 k x3 x4 x5 x8 x9 x10 (wrap64 (x12 + 1)))) else (laws_FnTickets.l1 k x3 x4 x5 x8 x9 x10 (wrap64 (x12 + 1)))) else (laws_FnTickets.l1 k x3 x4 x5 x8 x9 x10 (wrap64 (x12 + 1))))))) else (if x10 ≤ x4 then (if (((x5.length : Int) == (x3.length : Int)) == (decide (x8 ≤ x4))) = true then ((impl_InsideAt.f k x3 x9).bind fun t507 => (if t507 = x8 then ((impl_FewestRooms.f k x3).bind fun t508 => (if t508 = x8 then (if (x3.length : Int) = 0 then (some true) else (if 1 ≤ (x3.length : Int) then (if 0 < (x3.length : Int) then ((impl_CanAdmit.f k (x3.drop 1) ((rd_Ticket x3 0).f0) ((rd_Ticket x3 0).f1) x8).bind fun t514 => (some t514)) else (none)) else (none))) else (some false))) else (some false))) else (some false)) else (some false))
end
def laws_FnTickets.f (k : Nat) (l0 : List Int) : Option (Bool) := (laws_big.f l0).bind fun t478 => (if t478 = true then (some true) else ((spec_DrawTickets.f k l0).bind fun t479 => ((laws_at.f l0 0).bind fun t482 => ((impl_AdmitAll.f k t479 (Int.tmod t482 5)).bind fun t483 => (laws_FnTickets.l0 k t479 (Int.tmod t482 5) t483 (([] : List (STicket))) 0)))))
theorem laws_FnTickets.mono_l : ∀ k, (∀ y0 y1 y2 y3 y4, LeO (laws_FnTickets.l0 k y0 y1 y2 y3 y4) (laws_FnTickets.l0 (k + 1) y0 y1 y2 y3 y4)) ∧ (∀ y0 y1 y2 y3 y4 y5 y6, LeO (laws_FnTickets.l1 k y0 y1 y2 y3 y4 y5 y6) (laws_FnTickets.l1 (k + 1) y0 y1 y2 y3 y4 y5 y6))
  | 0 => ⟨fun _ _ _ _ _ r h => by simp [laws_FnTickets.l0] at h, fun _ _ _ _ _ _ _ r h => by simp [laws_FnTickets.l1] at h⟩
  | k + 1 => by
    obtain ⟨ih0, ih1⟩ := laws_FnTickets.mono_l k
    refine ⟨?_, ?_⟩
    · intro y0 y1 y2 y3 y4
      unfold laws_FnTickets.l0
      repeat' first
      | (with_reducible exact ih0 _ _ _ _ _)
      | (with_reducible exact ih1 _ _ _ _ _ _ _)
      | (with_reducible exact impl_AdmitAll.mono _ _ _)
      | (with_reducible exact impl_CanAdmit.mono _ _ _ _ _)
      | (with_reducible exact impl_FewestRooms.mono _ _)
      | (with_reducible exact impl_InsideAt.mono _ _ _)
      | (with_reducible exact impl_MostInside.mono _ _)
      | (with_reducible exact spec_DrawTickets.mono _ _)
      | (with_reducible exact LeO.refl _)
      | (with_reducible exact LeO.none _)
      | (with_reducible refine LeO.ite ?_ ?_)
      | (with_reducible refine LeO.bind ?_ (fun _ => ?_))
      | exact ih0 _ _ _ _ _
      | exact ih1 _ _ _ _ _ _ _
      | exact impl_AdmitAll.mono _ _ _
      | exact impl_CanAdmit.mono _ _ _ _ _
      | exact impl_FewestRooms.mono _ _
      | exact impl_InsideAt.mono _ _ _
      | exact impl_MostInside.mono _ _
      | exact spec_DrawTickets.mono _ _
      | exact LeO.none _
      | refine LeO.ite ?_ ?_
      | refine LeO.bind ?_ (fun _ => ?_)
    · intro y0 y1 y2 y3 y4 y5 y6
      unfold laws_FnTickets.l1
      repeat' first
      | (with_reducible exact ih0 _ _ _ _ _)
      | (with_reducible exact ih1 _ _ _ _ _ _ _)
      | (with_reducible exact impl_AdmitAll.mono _ _ _)
      | (with_reducible exact impl_CanAdmit.mono _ _ _ _ _)
      | (with_reducible exact impl_FewestRooms.mono _ _)
      | (with_reducible exact impl_InsideAt.mono _ _ _)
      | (with_reducible exact impl_MostInside.mono _ _)
      | (with_reducible exact spec_DrawTickets.mono _ _)
      | (with_reducible exact LeO.refl _)
      | (with_reducible exact LeO.none _)
      | (with_reducible refine LeO.ite ?_ ?_)
      | (with_reducible refine LeO.bind ?_ (fun _ => ?_))
      | exact ih0 _ _ _ _ _
      | exact ih1 _ _ _ _ _ _ _
      | exact impl_AdmitAll.mono _ _ _
      | exact impl_CanAdmit.mono _ _ _ _ _
      | exact impl_FewestRooms.mono _ _
      | exact impl_InsideAt.mono _ _ _
      | exact impl_MostInside.mono _ _
      | exact spec_DrawTickets.mono _ _
      | exact LeO.none _
      | refine LeO.ite ?_ ?_
      | refine LeO.bind ?_ (fun _ => ?_)
theorem laws_FnTickets.mono : ∀ a0 k, LeO (laws_FnTickets.f k a0) (laws_FnTickets.f (k + 1) a0) := by
  intro a0 k
  obtain ⟨ih0, ih1⟩ := laws_FnTickets.mono_l k
  unfold laws_FnTickets.f
  repeat' first
      | (with_reducible exact ih0 _ _ _ _ _)
      | (with_reducible exact ih1 _ _ _ _ _ _ _)
      | (with_reducible exact impl_AdmitAll.mono _ _ _)
      | (with_reducible exact impl_CanAdmit.mono _ _ _ _ _)
      | (with_reducible exact impl_FewestRooms.mono _ _)
      | (with_reducible exact impl_InsideAt.mono _ _ _)
      | (with_reducible exact impl_MostInside.mono _ _)
      | (with_reducible exact spec_DrawTickets.mono _ _)
      | (with_reducible exact LeO.refl _)
      | (with_reducible exact LeO.none _)
      | (with_reducible refine LeO.ite ?_ ?_)
      | (with_reducible refine LeO.bind ?_ (fun _ => ?_))
      | exact ih0 _ _ _ _ _
      | exact ih1 _ _ _ _ _ _ _
      | exact impl_AdmitAll.mono _ _ _
      | exact impl_CanAdmit.mono _ _ _ _ _
      | exact impl_FewestRooms.mono _ _
      | exact impl_InsideAt.mono _ _ _
      | exact impl_MostInside.mono _ _
      | exact spec_DrawTickets.mono _ _
      | exact LeO.none _
      | refine LeO.ite ?_ ?_
      | refine LeO.bind ?_ (fun _ => ?_)
end Go.Proofs.Ytiiflckblilhiaa.F
