/- Written by a program of the session (wip/tools/mk.py): functions of the program as plain Lean. -/
import Derived.Test.YtioplamkdoelpaaD
import Derived.Test.YtioplamkdoelpaaDxda4ea2
namespace Go.Proofs.Ytioplamkdoelpaa.F
open Go.RowKit Go.Proofs.YtioplamkdoelpaaW.PrintWords Go.Proofs.YtioplamkdoelpaaW.PrintLast Go.Proofs.YtioplamkdoelpaaW.PrintMore
set_option linter.unusedVariables false
set_option linter.unusedSimpArgs false
def laws_szTicketS.f (l0 : List (SlaTicket)) (a1 : Int) : Option (Int) := if (wrap64 (a1 - (l0.length : Int))) < 0 then (some (-1)) else (some (wrap64 (a1 - (l0.length : Int))))
def spec_TicketOk.f (a0_0 : Int) (a0_1 : Int) : Option (Bool) := (spec_l01In.f a0_0 0 10000).bind fun t102 => (if t102 = true then ((spec_l01In.f a0_1 0 10000).bind fun t103 => (if t103 = true then (some (decide (a0_0 < a0_1))) else (some false))) else (some false))
def spec_l35Ok.l0 : Nat → List (STicket) → Int → Option (Bool)
  | 0, _, _ => none
  | k + 1, x0, x3 => if x3 < (x0.length : Int) then (if 0 ≤ x3 then ((spec_TicketOk.f ((rd_Ticket x0 x3).f0) ((rd_Ticket x0 x3).f1)).bind fun t105 => (if t105 = true then (spec_l35Ok.l0 k x0 (wrap64 (x3 + 1))) else (some false))) else (none)) else (some true)
def spec_l35Ok.f (k : Nat) (l0 : List (STicket)) : Option (Bool) := spec_l35Ok.l0 k l0 0
theorem spec_l35Ok.mono_l : ∀ k, (∀ y0 y1, LeO (spec_l35Ok.l0 k y0 y1) (spec_l35Ok.l0 (k + 1) y0 y1))
  | 0 => fun _ _ r h => by simp [spec_l35Ok.l0] at h
  | k + 1 => by
    have ih0 := spec_l35Ok.mono_l k
    · intro y0 y1
      unfold spec_l35Ok.l0
      repeat' first
      | (with_reducible exact ih0 _ _)
      | (with_reducible exact LeO.refl _)
      | (with_reducible exact LeO.none _)
      | (with_reducible refine LeO.ite ?_ ?_)
      | (with_reducible refine LeO.bind ?_ (fun _ => ?_))
      | exact ih0 _ _
      | exact LeO.none _
      | refine LeO.ite ?_ ?_
      | refine LeO.bind ?_ (fun _ => ?_)
theorem spec_l35Ok.mono : ∀ a0 k, LeO (spec_l35Ok.f k a0) (spec_l35Ok.f (k + 1) a0) := by
  intro a0 k
  have ih0 := spec_l35Ok.mono_l k
  unfold spec_l35Ok.f
  repeat' first
      | (with_reducible exact ih0 _ _)
      | (with_reducible exact LeO.refl _)
      | (with_reducible exact LeO.none _)
      | (with_reducible refine LeO.ite ?_ ?_)
      | (with_reducible refine LeO.bind ?_ (fun _ => ?_))
      | exact ih0 _ _
      | exact LeO.none _
      | refine LeO.ite ?_ ?_
      | refine LeO.bind ?_ (fun _ => ?_)
def spec_InsideAt.l0 : Nat → List (STicket) → Int → Int → Int → Option (Int)
  | 0, _, _, _, _ => none
  | k + 1, x0, x1, x5, x6 => if x6 < (x0.length : Int) then (if 0 ≤ x6 then (if ((rd_Ticket x0 x6).f0) ≤ x1 then (if x1 < ((rd_Ticket x0 x6).f1) then (spec_InsideAt.l0 k x0 x1 (wrap64 (x5 + 1)) (wrap64 (x6 + 1))) else (spec_InsideAt.l0 k x0 x1 x5 (wrap64 (x6 + 1)))) else (spec_InsideAt.l0 k x0 x1 x5 (wrap64 (x6 + 1)))) else (none)) else (some x5)
def spec_InsideAt.f (k : Nat) (l0 : List (STicket)) (a1 : Int) : Option (Int) := spec_InsideAt.l0 k l0 a1 0 0
theorem spec_InsideAt.mono_l : ∀ k, (∀ y0 y1 y2 y3, LeO (spec_InsideAt.l0 k y0 y1 y2 y3) (spec_InsideAt.l0 (k + 1) y0 y1 y2 y3))
  | 0 => fun _ _ _ _ r h => by simp [spec_InsideAt.l0] at h
  | k + 1 => by
    have ih0 := spec_InsideAt.mono_l k
    · intro y0 y1 y2 y3
      unfold spec_InsideAt.l0
      repeat' first
      | (with_reducible exact ih0 _ _ _ _)
      | (with_reducible exact LeO.refl _)
      | (with_reducible exact LeO.none _)
      | (with_reducible refine LeO.ite ?_ ?_)
      | (with_reducible refine LeO.bind ?_ (fun _ => ?_))
      | exact ih0 _ _ _ _
      | exact LeO.none _
      | refine LeO.ite ?_ ?_
      | refine LeO.bind ?_ (fun _ => ?_)
theorem spec_InsideAt.mono : ∀ a0 a1 k, LeO (spec_InsideAt.f k a0 a1) (spec_InsideAt.f (k + 1) a0 a1) := by
  intro a0 a1 k
  have ih0 := spec_InsideAt.mono_l k
  unfold spec_InsideAt.f
  repeat' first
      | (with_reducible exact ih0 _ _ _ _)
      | (with_reducible exact LeO.refl _)
      | (with_reducible exact LeO.none _)
      | (with_reducible refine LeO.ite ?_ ?_)
      | (with_reducible refine LeO.bind ?_ (fun _ => ?_))
      | exact ih0 _ _ _ _
      | exact LeO.none _
      | refine LeO.ite ?_ ?_
      | refine LeO.bind ?_ (fun _ => ?_)
def spec_l35Most.l0 : Nat → List (STicket) → Int → Int → Option (Int)
  | 0, _, _, _ => none
  | k + 1, x0, x3, x4 => if x4 < (x0.length : Int) then (if 0 ≤ x4 then ((spec_InsideAt.f k x0 ((rd_Ticket x0 x4).f0)).bind fun t109 => (spec_l35Most.l0 k x0 (mx x3 t109) (wrap64 (x4 + 1)))) else (none)) else (some x3)
def spec_l35Most.f (k : Nat) (l0 : List (STicket)) : Option (Int) := spec_l35Most.l0 k l0 0 0
theorem spec_l35Most.mono_l : ∀ k, (∀ y0 y1 y2, LeO (spec_l35Most.l0 k y0 y1 y2) (spec_l35Most.l0 (k + 1) y0 y1 y2))
  | 0 => fun _ _ _ r h => by simp [spec_l35Most.l0] at h
  | k + 1 => by
    have ih0 := spec_l35Most.mono_l k
    · intro y0 y1 y2
      unfold spec_l35Most.l0
      repeat' first
      | (with_reducible exact ih0 _ _ _)
      | (with_reducible exact spec_InsideAt.mono _ _ _)
      | (with_reducible exact LeO.refl _)
      | (with_reducible exact LeO.none _)
      | (with_reducible refine LeO.ite ?_ ?_)
      | (with_reducible refine LeO.bind ?_ (fun _ => ?_))
      | exact ih0 _ _ _
      | exact spec_InsideAt.mono _ _ _
      | exact LeO.none _
      | refine LeO.ite ?_ ?_
      | refine LeO.bind ?_ (fun _ => ?_)
theorem spec_l35Most.mono : ∀ a0 k, LeO (spec_l35Most.f k a0) (spec_l35Most.f (k + 1) a0) := by
  intro a0 k
  have ih0 := spec_l35Most.mono_l k
  unfold spec_l35Most.f
  repeat' first
      | (with_reducible exact ih0 _ _ _)
      | (with_reducible exact spec_InsideAt.mono _ _ _)
      | (with_reducible exact LeO.refl _)
      | (with_reducible exact LeO.none _)
      | (with_reducible refine LeO.ite ?_ ?_)
      | (with_reducible refine LeO.bind ?_ (fun _ => ?_))
      | exact ih0 _ _ _
      | exact spec_InsideAt.mono _ _ _
      | exact LeO.none _
      | refine LeO.ite ?_ ?_
      | refine LeO.bind ?_ (fun _ => ?_)
def spec_CanAdmit.f (k : Nat) (l0 : List (STicket)) (a1_0 : Int) (a1_1 : Int) (a2 : Int) : Option (Bool) := (some (([] : List (STicket)) : List (STicket))).bind fun y111 => (if y111.length + l0.length < 8796093022208 then ((some (y111 ++ l0 : List (STicket))).bind fun y114 => ((some (([(⟨a1_0, a1_1⟩ : STicket)] : List (STicket)) : List (STicket))).bind fun y117 => (if y114.length + y117.length < 8796093022208 then ((some (y114 ++ y117 : List (STicket))).bind fun y120 => ((spec_l35Ok.f k y120).bind fun t123 => (if t123 = true then ((spec_l35Most.f k y120).bind fun t124 => (some (decide (t124 ≤ a2)))) else (some false)))) else (none)))) else (none))
theorem spec_CanAdmit.mono : ∀ a0 a1 a2 a3 k, LeO (spec_CanAdmit.f k a0 a1 a2 a3) (spec_CanAdmit.f (k + 1) a0 a1 a2 a3) := by
  intro a0 a1 a2 a3 k
  unfold spec_CanAdmit.f
  repeat' first
      | (with_reducible exact spec_l35Most.mono _ _)
      | (with_reducible exact spec_l35Ok.mono _ _)
      | (with_reducible exact LeO.refl _)
      | (with_reducible exact LeO.none _)
      | (with_reducible refine LeO.ite ?_ ?_)
      | (with_reducible refine LeO.bind ?_ (fun _ => ?_))
      | exact spec_l35Most.mono _ _
      | exact spec_l35Ok.mono _ _
      | exact LeO.none _
      | refine LeO.ite ?_ ?_
      | refine LeO.bind ?_ (fun _ => ?_)
mutual
def spec_AdmitAll.l0 : Nat → List (STicket) → Int → List Int → List (STicket) → Int → Option (List Int)
  | 0, _, _, _, _, _ => none
  | k + 1, x0, x1, x5, x6, x7 => if x7 < (x0.length : Int) then (spec_AdmitAll.j1 k x0 x1 x5 x6 x7 (decide ((x0.length : Int) ≤ 40))) else (spec_AdmitAll.j1 k x0 x1 x5 x6 x7 false)
def spec_AdmitAll.j1 : Nat → List (STicket) → Int → List Int → List (STicket) → Int → Bool → Option (List Int)
  | 0, _, _, _, _, _, _ => none
  | k + 1, x0, x1, x5, x6, x7, x18 => if x18 = true then (if 0 ≤ x7 then (if x7 < (x0.length : Int) then ((spec_CanAdmit.f k x6 ((rd_Ticket x0 x7).f0) ((rd_Ticket x0 x7).f1) x1).bind fun t132 => (if t132 = true then (if x6.length < 8796093022208 then (if x5.length < 17592186044416 then (spec_AdmitAll.l0 k x0 x1 (x5 ++ [x7]) (x6 ++ [(⟨(rd_Ticket x0 x7).f0, (rd_Ticket x0 x7).f1⟩ : STicket)]) (wrap64 (x7 + 1))) else (none)) else (none)) else (spec_AdmitAll.l0 k x0 x1 x5 x6 (wrap64 (x7 + 1))))) else (none)) else (none)) else (some x5)
end
def spec_AdmitAll.f (k : Nat) (l0 : List (STicket)) (a1 : Int) : Option (List Int) := spec_AdmitAll.l0 k l0 a1 (([] : List Int)) (([] : List (STicket))) 0
theorem spec_AdmitAll.mono_l : ∀ k, (∀ y0 y1 y2 y3 y4, LeO (spec_AdmitAll.l0 k y0 y1 y2 y3 y4) (spec_AdmitAll.l0 (k + 1) y0 y1 y2 y3 y4)) ∧ (∀ y0 y1 y2 y3 y4 y5, LeO (spec_AdmitAll.j1 k y0 y1 y2 y3 y4 y5) (spec_AdmitAll.j1 (k + 1) y0 y1 y2 y3 y4 y5))
  | 0 => ⟨fun _ _ _ _ _ r h => by simp [spec_AdmitAll.l0] at h, fun _ _ _ _ _ _ r h => by simp [spec_AdmitAll.j1] at h⟩
  | k + 1 => by
    obtain ⟨ih0, ih1⟩ := spec_AdmitAll.mono_l k
    refine ⟨?_, ?_⟩
    · intro y0 y1 y2 y3 y4
      unfold spec_AdmitAll.l0
      repeat' first
      | (with_reducible exact ih0 _ _ _ _ _)
      | (with_reducible exact ih1 _ _ _ _ _ _)
      | (with_reducible exact spec_CanAdmit.mono _ _ _ _ _)
      | (with_reducible exact LeO.refl _)
      | (with_reducible exact LeO.none _)
      | (with_reducible refine LeO.ite ?_ ?_)
      | (with_reducible refine LeO.bind ?_ (fun _ => ?_))
      | exact ih0 _ _ _ _ _
      | exact ih1 _ _ _ _ _ _
      | exact spec_CanAdmit.mono _ _ _ _ _
      | exact LeO.none _
      | refine LeO.ite ?_ ?_
      | refine LeO.bind ?_ (fun _ => ?_)
    · intro y0 y1 y2 y3 y4 y5
      unfold spec_AdmitAll.j1
      repeat' first
      | (with_reducible exact ih0 _ _ _ _ _)
      | (with_reducible exact ih1 _ _ _ _ _ _)
      | (with_reducible exact spec_CanAdmit.mono _ _ _ _ _)
      | (with_reducible exact LeO.refl _)
      | (with_reducible exact LeO.none _)
      | (with_reducible refine LeO.ite ?_ ?_)
      | (with_reducible refine LeO.bind ?_ (fun _ => ?_))
      | exact ih0 _ _ _ _ _
      | exact ih1 _ _ _ _ _ _
      | exact spec_CanAdmit.mono _ _ _ _ _
      | exact LeO.none _
      | refine LeO.ite ?_ ?_
      | refine LeO.bind ?_ (fun _ => ?_)
theorem spec_AdmitAll.mono : ∀ a0 a1 k, LeO (spec_AdmitAll.f k a0 a1) (spec_AdmitAll.f (k + 1) a0 a1) := by
  intro a0 a1 k
  obtain ⟨ih0, ih1⟩ := spec_AdmitAll.mono_l k
  unfold spec_AdmitAll.f
  repeat' first
      | (with_reducible exact ih0 _ _ _ _ _)
      | (with_reducible exact ih1 _ _ _ _ _ _)
      | (with_reducible exact spec_CanAdmit.mono _ _ _ _ _)
      | (with_reducible exact LeO.refl _)
      | (with_reducible exact LeO.none _)
      | (with_reducible refine LeO.ite ?_ ?_)
      | (with_reducible refine LeO.bind ?_ (fun _ => ?_))
      | exact ih0 _ _ _ _ _
      | exact ih1 _ _ _ _ _ _
      | exact spec_CanAdmit.mono _ _ _ _ _
      | exact LeO.none _
      | refine LeO.ite ?_ ?_
      | refine LeO.bind ?_ (fun _ => ?_)
def laws_toTicket.f (a0_0 : Int) (a0_1 : Int) : Option (Int × Int) := some (a0_0, a0_1)
def laws_toTicketS.l0 : Nat → List (SlaTicket) → List (STicket) → Int → Option ((List (STicket)))
  | 0, _, _, _ => none
  | k + 1, x0, x3, x4 => if x4 < (x0.length : Int) then (if 0 ≤ x4 then ((laws_toTicket.f ((rd_laTicket x0 x4).f0) ((rd_laTicket x0 x4).f1)).bind fun bt147 => (if x4 < (x3.length : Int) then (laws_toTicketS.l0 k x0 (x3.set (x4 : Int).toNat (⟨bt147.1, bt147.2⟩ : STicket)) (wrap64 (x4 + 1))) else (none))) else (none)) else (some x3)
def laws_toTicketS.f (k : Nat) (l0 : List (SlaTicket)) : Option ((List (STicket))) := if 0 ≤ (l0.length : Int) then (if ((l0.length : Int) : Int).toNat ≤ 17592186044416 then (laws_toTicketS.l0 k l0 (List.replicate ((l0.length : Int) : Int).toNat zTicket) 0) else (none)) else (none)
theorem laws_toTicketS.mono_l : ∀ k, (∀ y0 y1 y2, LeO (laws_toTicketS.l0 k y0 y1 y2) (laws_toTicketS.l0 (k + 1) y0 y1 y2))
  | 0 => fun _ _ _ r h => by simp [laws_toTicketS.l0] at h
  | k + 1 => by
    have ih0 := laws_toTicketS.mono_l k
    · intro y0 y1 y2
      unfold laws_toTicketS.l0
      repeat' first
      | (with_reducible exact ih0 _ _ _)
      | (with_reducible exact LeO.refl _)
      | (with_reducible exact LeO.none _)
      | (with_reducible refine LeO.ite ?_ ?_)
      | (with_reducible refine LeO.bind ?_ (fun _ => ?_))
      | exact ih0 _ _ _
      | exact LeO.none _
      | refine LeO.ite ?_ ?_
      | refine LeO.bind ?_ (fun _ => ?_)
theorem laws_toTicketS.mono : ∀ a0 k, LeO (laws_toTicketS.f k a0) (laws_toTicketS.f (k + 1) a0) := by
  intro a0 k
  have ih0 := laws_toTicketS.mono_l k
  unfold laws_toTicketS.f
  repeat' first
      | (with_reducible exact ih0 _ _ _)
      | (with_reducible exact LeO.refl _)
      | (with_reducible exact LeO.none _)
      | (with_reducible refine LeO.ite ?_ ?_)
      | (with_reducible refine LeO.bind ?_ (fun _ => ?_))
      | exact ih0 _ _ _
      | exact LeO.none _
      | refine LeO.ite ?_ ?_
      | refine LeO.bind ?_ (fun _ => ?_)
def impl_TicketOk.f (a0_0 : Int) (a0_1 : Int) : Option (Bool) := if a0_0 ≥ 0 then (if a0_1 ≤ 10000 then (some (decide (a0_0 < a0_1))) else (some false)) else (some false)
def impl_areTickets_1.f (a0_0 : Int) (a0_1 : Int) : Option (Bool) := (impl_TicketOk.f a0_0 a0_1).bind fun t152 => (some (!t152))
def impl_areTickets.f (l0 : List STicket) : Option Bool := allO (fun x => impl_TicketOk.f x.f0 x.f1) l0
def impl_InsideAt.l0 : Nat → Int → Int → List (STicket) → Int → Int → Option (Int)
  | 0, _, _, _, _, _ => none
  | k + 1, x1, x5, x8, x9, x10 => if x10 < x9 then (if 0 ≤ x10 then (if x10 < (x8.length : Int) then (if ((rd_Ticket x8 x10).f0) ≤ x1 then (if x1 < ((rd_Ticket x8 x10).f1) then (impl_InsideAt.l0 k x1 (wrap64 (x5 + 1)) x8 x9 (wrap64 (x10 + 1))) else (impl_InsideAt.l0 k x1 x5 x8 x9 (wrap64 (x10 + 1)))) else (impl_InsideAt.l0 k x1 x5 x8 x9 (wrap64 (x10 + 1)))) else (none)) else (none)) else (some x5)
def impl_InsideAt.f (k : Nat) (l0 : List (STicket)) (a1 : Int) : Option (Int) := impl_InsideAt.l0 k a1 0 l0 (l0.length : Int) 0
theorem impl_InsideAt.mono_l : ∀ k, (∀ y0 y1 y2 y3 y4, LeO (impl_InsideAt.l0 k y0 y1 y2 y3 y4) (impl_InsideAt.l0 (k + 1) y0 y1 y2 y3 y4))
  | 0 => fun _ _ _ _ _ r h => by simp [impl_InsideAt.l0] at h
  | k + 1 => by
    have ih0 := impl_InsideAt.mono_l k
    · intro y0 y1 y2 y3 y4
      unfold impl_InsideAt.l0
      repeat' first
      | (with_reducible exact ih0 _ _ _ _ _)
      | (with_reducible exact LeO.refl _)
      | (with_reducible exact LeO.none _)
      | (with_reducible refine LeO.ite ?_ ?_)
      | (with_reducible refine LeO.bind ?_ (fun _ => ?_))
      | exact ih0 _ _ _ _ _
      | exact LeO.none _
      | refine LeO.ite ?_ ?_
      | refine LeO.bind ?_ (fun _ => ?_)
theorem impl_InsideAt.mono : ∀ a0 a1 k, LeO (impl_InsideAt.f k a0 a1) (impl_InsideAt.f (k + 1) a0 a1) := by
  intro a0 a1 k
  have ih0 := impl_InsideAt.mono_l k
  unfold impl_InsideAt.f
  repeat' first
      | (with_reducible exact ih0 _ _ _ _ _)
      | (with_reducible exact LeO.refl _)
      | (with_reducible exact LeO.none _)
      | (with_reducible refine LeO.ite ?_ ?_)
      | (with_reducible refine LeO.bind ?_ (fun _ => ?_))
      | exact ih0 _ _ _ _ _
      | exact LeO.none _
      | refine LeO.ite ?_ ?_
      | refine LeO.bind ?_ (fun _ => ?_)
def impl_most.l0 : Nat → List (STicket) → Int → Int → List (STicket) → Int → Int → Option (Int × Int)
  | 0, _, _, _, _, _, _ => none
  | k + 1, x0, x4, x5, x9, x10, x11 => if x11 < x10 then (if 0 ≤ x11 then (if x11 < (x9.length : Int) then ((impl_InsideAt.f k x0 ((rd_Ticket x9 x11).f0)).bind fun t157 => (if t157 > x4 then (impl_most.l0 k x0 t157 ((rd_Ticket x9 x11).f0) x9 x10 (wrap64 (x11 + 1))) else (if t157 = x4 then (if ((rd_Ticket x9 x11).f0) < x5 then (impl_most.l0 k x0 t157 ((rd_Ticket x9 x11).f0) x9 x10 (wrap64 (x11 + 1))) else (impl_most.l0 k x0 x4 x5 x9 x10 (wrap64 (x11 + 1)))) else (impl_most.l0 k x0 x4 x5 x9 x10 (wrap64 (x11 + 1)))))) else (none)) else (none)) else (some (x4, x5))
def impl_most.f (k : Nat) (l0 : List (STicket)) : Option (Int × Int) := impl_most.l0 k l0 0 0 l0 (l0.length : Int) 0
theorem impl_most.mono_l : ∀ k, (∀ y0 y1 y2 y3 y4 y5, LeO (impl_most.l0 k y0 y1 y2 y3 y4 y5) (impl_most.l0 (k + 1) y0 y1 y2 y3 y4 y5))
  | 0 => fun _ _ _ _ _ _ r h => by simp [impl_most.l0] at h
  | k + 1 => by
    have ih0 := impl_most.mono_l k
    · intro y0 y1 y2 y3 y4 y5
      unfold impl_most.l0
      repeat' first
      | (with_reducible exact ih0 _ _ _ _ _ _)
      | (with_reducible exact impl_InsideAt.mono _ _ _)
      | (with_reducible exact LeO.refl _)
      | (with_reducible exact LeO.none _)
      | (with_reducible refine LeO.ite ?_ ?_)
      | (with_reducible refine LeO.bind ?_ (fun _ => ?_))
      | exact ih0 _ _ _ _ _ _
      | exact impl_InsideAt.mono _ _ _
      | exact LeO.none _
      | refine LeO.ite ?_ ?_
      | refine LeO.bind ?_ (fun _ => ?_)
theorem impl_most.mono : ∀ a0 k, LeO (impl_most.f k a0) (impl_most.f (k + 1) a0) := by
  intro a0 k
  have ih0 := impl_most.mono_l k
  unfold impl_most.f
  repeat' first
      | (with_reducible exact ih0 _ _ _ _ _ _)
      | (with_reducible exact impl_InsideAt.mono _ _ _)
      | (with_reducible exact LeO.refl _)
      | (with_reducible exact LeO.none _)
      | (with_reducible refine LeO.ite ?_ ?_)
      | (with_reducible refine LeO.bind ?_ (fun _ => ?_))
      | exact ih0 _ _ _ _ _ _
      | exact impl_InsideAt.mono _ _ _
      | exact LeO.none _
      | refine LeO.ite ?_ ?_
      | refine LeO.bind ?_ (fun _ => ?_)
def impl_greatest.f (k : Nat) (l0 : List (STicket)) : Option (Int) := (impl_most.f k l0).bind fun bt158 => (some bt158.1)
theorem impl_greatest.mono : ∀ a0 k, LeO (impl_greatest.f k a0) (impl_greatest.f (k + 1) a0) := by
  intro a0 k
  unfold impl_greatest.f
  repeat' first
      | (with_reducible exact impl_most.mono _ _)
      | (with_reducible exact LeO.refl _)
      | (with_reducible exact LeO.none _)
      | (with_reducible refine LeO.ite ?_ ?_)
      | (with_reducible refine LeO.bind ?_ (fun _ => ?_))
      | exact impl_most.mono _ _
      | exact LeO.none _
      | refine LeO.ite ?_ ?_
      | refine LeO.bind ?_ (fun _ => ?_)
def slices_Clone_impl_Ticket.f (l0 : List STicket) : Option (List STicket) := if l0.length < 8796093022208 then some l0 else none
def impl_CanAdmit.f (k : Nat) (l0 : List (STicket)) (a1_0 : Int) (a1_1 : Int) (a2 : Int) : Option (Bool) := (impl_TicketOk.f a1_0 a1_1).bind fun t161 => (if t161 = true then ((impl_areTickets.f l0).bind fun t162 => (if t162 = true then ((slices_Clone_impl_Ticket.f l0).bind fun t163 => ((some (([(⟨a1_0, a1_1⟩ : STicket)] : List (STicket)) : List (STicket))).bind fun y166 => (if t163.length + y166.length < 8796093022208 then ((impl_greatest.f k (t163 ++ y166)).bind fun t172 => (some (decide (t172 ≤ a2)))) else (none)))) else (some false))) else (some false))
theorem impl_CanAdmit.mono : ∀ a0 a1 a2 a3 k, LeO (impl_CanAdmit.f k a0 a1 a2 a3) (impl_CanAdmit.f (k + 1) a0 a1 a2 a3) := by
  intro a0 a1 a2 a3 k
  unfold impl_CanAdmit.f
  repeat' first
      | (with_reducible exact impl_greatest.mono _ _)
      | (with_reducible exact LeO.refl _)
      | (with_reducible exact LeO.none _)
      | (with_reducible refine LeO.ite ?_ ?_)
      | (with_reducible refine LeO.bind ?_ (fun _ => ?_))
      | exact impl_greatest.mono _ _
      | exact LeO.none _
      | refine LeO.ite ?_ ?_
      | refine LeO.bind ?_ (fun _ => ?_)
def impl_AdmitAll.l0 : Nat → Int → List Int → List (STicket) → List (STicket) → Int → Int → Option (List Int)
  | 0, _, _, _, _, _, _ => none
  | k + 1, x1, x5, x6, x12, x13, x14 => if x14 < x13 then (if 0 ≤ x14 then (if x14 < (x12.length : Int) then ((impl_CanAdmit.f k x6 ((rd_Ticket x12 x14).f0) ((rd_Ticket x12 x14).f1) x1).bind fun t175 => (if t175 = true then ((some (([x14] : List Int) : List Int)).bind fun y176 => (if x5.length + y176.length < 17592186044416 then ((some (([(⟨(rd_Ticket x12 x14).f0, (rd_Ticket x12 x14).f1⟩ : STicket)] : List (STicket)) : List (STicket))).bind fun y182 => (if x6.length + y182.length < 8796093022208 then (impl_AdmitAll.l0 k x1 (x5 ++ y176) (x6 ++ y182) x12 x13 (wrap64 (x14 + 1))) else (none))) else (none))) else (impl_AdmitAll.l0 k x1 x5 x6 x12 x13 (wrap64 (x14 + 1))))) else (none)) else (none)) else (some x5)
def impl_AdmitAll.f (k : Nat) (l0 : List (STicket)) (a1 : Int) : Option (List Int) := if (l0.length : Int) > 40 then (some ([] : List Int)) else (impl_AdmitAll.l0 k a1 ([] : List Int) ([] : List (STicket)) l0 (l0.length : Int) 0)
theorem impl_AdmitAll.mono_l : ∀ k, (∀ y0 y1 y2 y3 y4 y5, LeO (impl_AdmitAll.l0 k y0 y1 y2 y3 y4 y5) (impl_AdmitAll.l0 (k + 1) y0 y1 y2 y3 y4 y5))
  | 0 => fun _ _ _ _ _ _ r h => by simp [impl_AdmitAll.l0] at h
  | k + 1 => by
    have ih0 := impl_AdmitAll.mono_l k
    · intro y0 y1 y2 y3 y4 y5
      unfold impl_AdmitAll.l0
      repeat' first
      | (with_reducible exact ih0 _ _ _ _ _ _)
      | (with_reducible exact impl_CanAdmit.mono _ _ _ _ _)
      | (with_reducible exact LeO.refl _)
      | (with_reducible exact LeO.none _)
      | (with_reducible refine LeO.ite ?_ ?_)
      | (with_reducible refine LeO.bind ?_ (fun _ => ?_))
      | exact ih0 _ _ _ _ _ _
      | exact impl_CanAdmit.mono _ _ _ _ _
      | exact LeO.none _
      | refine LeO.ite ?_ ?_
      | refine LeO.bind ?_ (fun _ => ?_)
theorem impl_AdmitAll.mono : ∀ a0 a1 k, LeO (impl_AdmitAll.f k a0 a1) (impl_AdmitAll.f (k + 1) a0 a1) := by
  intro a0 a1 k
  have ih0 := impl_AdmitAll.mono_l k
  unfold impl_AdmitAll.f
  repeat' first
      | (with_reducible exact ih0 _ _ _ _ _ _)
      | (with_reducible exact impl_CanAdmit.mono _ _ _ _ _)
      | (with_reducible exact LeO.refl _)
      | (with_reducible exact LeO.none _)
      | (with_reducible refine LeO.ite ?_ ?_)
      | (with_reducible refine LeO.bind ?_ (fun _ => ?_))
      | exact ih0 _ _ _ _ _ _
      | exact impl_CanAdmit.mono _ _ _ _ _
      | exact LeO.none _
      | refine LeO.ite ?_ ?_
      | refine LeO.bind ?_ (fun _ => ?_)
def laws_eqTicket.f (a0_0 : Int) (a0_1 : Int) (a1_0 : Int) (a1_1 : Int) : Option (Bool) := if a0_0 = a1_0 then (if a0_1 = a1_1 then (some true) else (some false)) else (some false)
def laws_eqTicketS.l0 : Nat → List (STicket) → List (STicket) → Int → Option (Bool)
  | 0, _, _, _ => none
  | k + 1, x0, x1, x5 => if x5 < (x0.length : Int) then (if 0 ≤ x5 then (if x5 < (x1.length : Int) then ((laws_eqTicket.f ((rd_Ticket x0 x5).f0) ((rd_Ticket x0 x5).f1) ((rd_Ticket x1 x5).f0) ((rd_Ticket x1 x5).f1)).bind fun t194 => (if t194 = true then (laws_eqTicketS.l0 k x0 x1 (wrap64 (x5 + 1))) else (some false))) else (none)) else (none)) else (some true)
def laws_eqTicketS.f (k : Nat) (l0 : List (STicket)) (l1 : List (STicket)) : Option (Bool) := if (l0.length : Int) = (l1.length : Int) then (laws_eqTicketS.l0 k l0 l1 0) else (some false)
theorem laws_eqTicketS.mono_l : ∀ k, (∀ y0 y1 y2, LeO (laws_eqTicketS.l0 k y0 y1 y2) (laws_eqTicketS.l0 (k + 1) y0 y1 y2))
  | 0 => fun _ _ _ r h => by simp [laws_eqTicketS.l0] at h
  | k + 1 => by
    have ih0 := laws_eqTicketS.mono_l k
    · intro y0 y1 y2
      unfold laws_eqTicketS.l0
      repeat' first
      | (with_reducible exact ih0 _ _ _)
      | (with_reducible exact LeO.refl _)
      | (with_reducible exact LeO.none _)
      | (with_reducible refine LeO.ite ?_ ?_)
      | (with_reducible refine LeO.bind ?_ (fun _ => ?_))
      | exact ih0 _ _ _
      | exact LeO.none _
      | refine LeO.ite ?_ ?_
      | refine LeO.bind ?_ (fun _ => ?_)
theorem laws_eqTicketS.mono : ∀ a0 a1 k, LeO (laws_eqTicketS.f k a0 a1) (laws_eqTicketS.f (k + 1) a0 a1) := by
  intro a0 a1 k
  have ih0 := laws_eqTicketS.mono_l k
  unfold laws_eqTicketS.f
  repeat' first
      | (with_reducible exact ih0 _ _ _)
      | (with_reducible exact LeO.refl _)
      | (with_reducible exact LeO.none _)
      | (with_reducible refine LeO.ite ?_ ?_)
      | (with_reducible refine LeO.bind ?_ (fun _ => ?_))
      | exact ih0 _ _ _
      | exact LeO.none _
      | refine LeO.ite ?_ ?_
      | refine LeO.bind ?_ (fun _ => ?_)
def laws_markTicketS.l0 : Nat → List (STicket) → Int → Int → Option (Int × (List (STicket)))
  | 0, _, _, _ => none
  | k + 1, x0, x1, x5 => if x5 < (x0.length : Int) then (if 0 ≤ x5 then ((some (x0.set (x5 : Int).toNat (⟨x1, (rd_Ticket x0 x5).f1⟩ : STicket) : List (STicket))).bind fun y195 => (laws_markTicketS.l0 k (y195.set (x5 : Int).toNat (⟨(rd_Ticket y195 x5).f0, wrap64 (x1 + 1)⟩ : STicket)) (wrap64 ((wrap64 (x1 + 1)) + 1)) (wrap64 (x5 + 1)))) else (none)) else (some (x1, x0))
def laws_markTicketS.f (k : Nat) (l0 : List (STicket)) (a1 : Int) : Option (Int × (List (STicket))) := laws_markTicketS.l0 k l0 a1 0
theorem laws_markTicketS.mono_l : ∀ k, (∀ y0 y1 y2, LeO (laws_markTicketS.l0 k y0 y1 y2) (laws_markTicketS.l0 (k + 1) y0 y1 y2))
  | 0 => fun _ _ _ r h => by simp [laws_markTicketS.l0] at h
  | k + 1 => by
    have ih0 := laws_markTicketS.mono_l k
    · intro y0 y1 y2
      unfold laws_markTicketS.l0
      repeat' first
      | (with_reducible exact ih0 _ _ _)
      | (with_reducible exact LeO.refl _)
      | (with_reducible exact LeO.none _)
      | (with_reducible refine LeO.ite ?_ ?_)
      | (with_reducible refine LeO.bind ?_ (fun _ => ?_))
      | exact ih0 _ _ _
      | exact LeO.none _
      | refine LeO.ite ?_ ?_
      | refine LeO.bind ?_ (fun _ => ?_)
theorem laws_markTicketS.mono : ∀ a0 a1 k, LeO (laws_markTicketS.f k a0 a1) (laws_markTicketS.f (k + 1) a0 a1) := by
  intro a0 a1 k
  have ih0 := laws_markTicketS.mono_l k
  unfold laws_markTicketS.f
  repeat' first
      | (with_reducible exact ih0 _ _ _)
      | (with_reducible exact LeO.refl _)
      | (with_reducible exact LeO.none _)
      | (with_reducible refine LeO.ite ?_ ?_)
      | (with_reducible refine LeO.bind ?_ (fun _ => ?_))
      | exact ih0 _ _ _
      | exact LeO.none _
      | refine LeO.ite ?_ ?_
      | refine LeO.bind ?_ (fun _ => ?_)
end Go.Proofs.Ytioplamkdoelpaa.F
