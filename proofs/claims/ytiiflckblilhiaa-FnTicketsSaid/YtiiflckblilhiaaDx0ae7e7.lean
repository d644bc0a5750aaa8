/- Written by a program of the session (wip/tools/mk.py): functions of the program as plain Lean. -/
import Derived.Test.YtiiflckblilhiaaD
import Derived.Test.YtiiflckblilhiaaDxbfdc49
namespace Go.Proofs.Ytiiflckblilhiaa.F
open Go.RowKit Go.Proofs.YtiiflckblilhiaaW.PrintWords Go.Proofs.YtiiflckblilhiaaW.PrintLast Go.Proofs.YtiiflckblilhiaaW.PrintMore
set_option linter.unusedVariables false
set_option linter.unusedSimpArgs false
def laws_szTicketS.f (l0 : List (SlaTicket)) (a1 : Int) : Option (Int) := if (wrap64 (a1 - (l0.length : Int))) < 0 then (some (-1)) else (some (wrap64 (a1 - (l0.length : Int))))
def spec_InsideAt.l0 : Nat → List (STicket) → Int → Int → Int → Option (Int)
  | 0, _, _, _, _ => none
  | k + 1, x0, x1, x5, x6 => if x6 < (x0.length : Int) then (if 0 ≤ x6 then (if ((rd_Ticket x0 x6).f0) ≤ x1 then (if x1 < ((rd_Ticket x0 x6).f1) then (spec_InsideAt.l0 k x0 x1 (wrap64 (x5 + 1)) (wrap64 (x6 + 1))) else (spec_InsideAt.l0 k x0 x1 x5 (wrap64 (x6 + 1)))) else (spec_InsideAt.l0 k x0 x1 x5 (wrap64 (x6 + 1)))) else (none)) else (some x5)
def spec_InsideAt.f (k : Nat) (l0 : List (STicket)) (a1 : Int) : Option (Int) := spec_InsideAt.l0 k l0 a1 0 0
theorem spec_InsideAt.mono_l : ∀ k, (∀ y0 y1 y2 y3, LeO (spec_InsideAt.l0 k y0 y1 y2 y3) (spec_InsideAt.l0 (k + 1) y0 y1 y2 y3))
  | 0 => fun _ _ _ _ r h => by simp [spec_InsideAt.l0] at h
  | k + 1 => by
    have ih0 := spec_InsideAt.mono_l k
    · intro y0 y1 y2 y3
      unfold spec_InsideAt.l0
      repeat' first
      | (with_reducible exact ih0 _ _ _ _)
      | (with_reducible exact LeO.refl _)
      | (with_reducible exact LeO.none _)
      | (with_reducible refine LeO.ite ?_ ?_)
      | (with_reducible refine LeO.bind ?_ (fun _ => ?_))
      | exact ih0 _ _ _ _
      | exact LeO.none _
      | refine LeO.ite ?_ ?_
      | refine LeO.bind ?_ (fun _ => ?_)
theorem spec_InsideAt.mono : ∀ a0 a1 k, LeO (spec_InsideAt.f k a0 a1) (spec_InsideAt.f (k + 1) a0 a1) := by
  intro a0 a1 k
  have ih0 := spec_InsideAt.mono_l k
  unfold spec_InsideAt.f
  repeat' first
      | (with_reducible exact ih0 _ _ _ _)
      | (with_reducible exact LeO.refl _)
      | (with_reducible exact LeO.none _)
      | (with_reducible refine LeO.ite ?_ ?_)
      | (with_reducible refine LeO.bind ?_ (fun _ => ?_))
      | exact ih0 _ _ _ _
      | exact LeO.none _
      | refine LeO.ite ?_ ?_
      | refine LeO.bind ?_ (fun _ => ?_)
def laws_toTicketS.l0 : Nat → List (SlaTicket) → List (STicket) → Int → Option ((List (STicket)))
  | 0, _, _, _ => none
  | k + 1, x0, x3, x4 => if x4 < (x0.length : Int) then (if 0 ≤ x4 then ((laws_toTicket.f ((rd_laTicket x0 x4).f0) ((rd_laTicket x0 x4).f1)).bind fun bt140 => (if x4 < (x3.length : Int) then (laws_toTicketS.l0 k x0 (x3.set (x4 : Int).toNat (⟨bt140.1, bt140.2⟩ : STicket)) (wrap64 (x4 + 1))) else (none))) else (none)) else (some x3)
def laws_toTicketS.f (k : Nat) (l0 : List (SlaTicket)) : Option ((List (STicket))) := if 0 ≤ (l0.length : Int) then (if ((l0.length : Int) : Int).toNat ≤ 17592186044416 then (laws_toTicketS.l0 k l0 (List.replicate ((l0.length : Int) : Int).toNat zTicket) 0) else (none)) else (none)
theorem laws_toTicketS.mono_l : ∀ k, (∀ y0 y1 y2, LeO (laws_toTicketS.l0 k y0 y1 y2) (laws_toTicketS.l0 (k + 1) y0 y1 y2))
  | 0 => fun _ _ _ r h => by simp [laws_toTicketS.l0] at h
  | k + 1 => by
    have ih0 := laws_toTicketS.mono_l k
    · intro y0 y1 y2
      unfold laws_toTicketS.l0
      repeat' first
      | (with_reducible exact ih0 _ _ _)
      | (with_reducible exact LeO.refl _)
      | (with_reducible exact LeO.none _)
      | (with_reducible refine LeO.ite ?_ ?_)
      | (with_reducible refine LeO.bind ?_ (fun _ => ?_))
      | exact ih0 _ _ _
      | exact LeO.none _
      | refine LeO.ite ?_ ?_
      | refine LeO.bind ?_ (fun _ => ?_)
theorem laws_toTicketS.mono : ∀ a0 k, LeO (laws_toTicketS.f k a0) (laws_toTicketS.f (k + 1) a0) := by
  intro a0 k
  have ih0 := laws_toTicketS.mono_l k
  unfold laws_toTicketS.f
  repeat' first
      | (with_reducible exact ih0 _ _ _)
      | (with_reducible exact LeO.refl _)
      | (with_reducible exact LeO.none _)
      | (with_reducible refine LeO.ite ?_ ?_)
      | (with_reducible refine LeO.bind ?_ (fun _ => ?_))
      | exact ih0 _ _ _
      | exact LeO.none _
      | refine LeO.ite ?_ ?_
      | refine LeO.bind ?_ (fun _ => ?_)
def laws_eqTicket.f (a0_0 : Int) (a0_1 : Int) (a1_0 : Int) (a1_1 : Int) : Option (Bool) := if a0_0 = a1_0 then (if a0_1 = a1_1 then (some true) else (some false)) else (some false)
def laws_eqTicketS.l0 : Nat → List (STicket) → List (STicket) → Int → Option (Bool)
  | 0, _, _, _ => none
  | k + 1, x0, x1, x5 => if x5 < (x0.length : Int) then (if 0 ≤ x5 then (if x5 < (x1.length : Int) then ((laws_eqTicket.f ((rd_Ticket x0 x5).f0) ((rd_Ticket x0 x5).f1) ((rd_Ticket x1 x5).f0) ((rd_Ticket x1 x5).f1)).bind fun t149 => (if t149 = true then (laws_eqTicketS.l0 k x0 x1 (wrap64 (x5 + 1))) else (some false))) else (none)) else (none)) else (some true)
def laws_eqTicketS.f (k : Nat) (l0 : List (STicket)) (l1 : List (STicket)) : Option (Bool) := if (l0.length : Int) = (l1.length : Int) then (laws_eqTicketS.l0 k l0 l1 0) else (some false)
theorem laws_eqTicketS.mono_l : ∀ k, (∀ y0 y1 y2, LeO (laws_eqTicketS.l0 k y0 y1 y2) (laws_eqTicketS.l0 (k + 1) y0 y1 y2))
  | 0 => fun _ _ _ r h => by simp [laws_eqTicketS.l0] at h
  | k + 1 => by
    have ih0 := laws_eqTicketS.mono_l k
    · intro y0 y1 y2
      unfold laws_eqTicketS.l0
      repeat' first
      | (with_reducible exact ih0 _ _ _)
      | (with_reducible exact LeO.refl _)
      | (with_reducible exact LeO.none _)
      | (with_reducible refine LeO.ite ?_ ?_)
      | (with_reducible refine LeO.bind ?_ (fun _ => ?_))
      | exact ih0 _ _ _
      | exact LeO.none _
      | refine LeO.ite ?_ ?_
      | refine LeO.bind ?_ (fun _ => ?_)
theorem laws_eqTicketS.mono : ∀ a0 a1 k, LeO (laws_eqTicketS.f k a0 a1) (laws_eqTicketS.f (k + 1) a0 a1) := by
  intro a0 a1 k
  have ih0 := laws_eqTicketS.mono_l k
  unfold laws_eqTicketS.f
  repeat' first
      | (with_reducible exact ih0 _ _ _)
      | (with_reducible exact LeO.refl _)
      | (with_reducible exact LeO.none _)
      | (with_reducible refine LeO.ite ?_ ?_)
      | (with_reducible refine LeO.bind ?_ (fun _ => ?_))
      | exact ih0 _ _ _
      | exact LeO.none _
      | refine LeO.ite ?_ ?_
      | refine LeO.bind ?_ (fun _ => ?_)
end Go.Proofs.Ytiiflckblilhiaa.F
