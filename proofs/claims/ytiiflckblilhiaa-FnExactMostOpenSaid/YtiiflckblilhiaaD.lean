/- Written by a program of the session (wip/tools/mk.py): the functions of the program as plain Lean. -/
import Derived.Test.YtiiflckblilhiaaBase
namespace Go.Proofs.Ytiiflckblilhiaa.F
open Go.RowKit Go.Proofs.YtiiflckblilhiaaW.PrintWords Go.Proofs.YtiiflckblilhiaaW.PrintLast Go.Proofs.YtiiflckblilhiaaW.PrintMore
set_option linter.unusedVariables false
set_option linter.unusedSimpArgs false
structure SlaTicket where
  f0 : Int
  f1 : Int
def zlaTicket : SlaTicket := ⟨(0 : Int), (0 : Int)⟩
def rd_laTicket (xs : List SlaTicket) (i : Int) : SlaTicket := xs.getD i.toNat zlaTicket
structure SlaAct where
  f0 : Int
  f1 : Int
  f2 : Int
def zlaAct : SlaAct := ⟨(0 : Int), (0 : Int), (0 : Int)⟩
def rd_laAct (xs : List SlaAct) (i : Int) : SlaAct := xs.getD i.toNat zlaAct
structure STicket where
  f0 : Int
  f1 : Int
def zTicket : STicket := ⟨(0 : Int), (0 : Int)⟩
def rd_Ticket (xs : List STicket) (i : Int) : STicket := xs.getD i.toNat zTicket
def rd_LlaTicket (xs : List (List SlaTicket)) (i : Int) : (List SlaTicket) := xs.getD i.toNat ([] : List SlaTicket)
structure SlaGrid where
  f0 : Int
  f1 : Int
def zlaGrid : SlaGrid := ⟨(0 : Int), (0 : Int)⟩
def rd_laGrid (xs : List SlaGrid) (i : Int) : SlaGrid := xs.getD i.toNat zlaGrid
structure SlaMaze where
  f0 : SlaGrid
  f1 : Int
def zlaMaze : SlaMaze := ⟨zlaGrid, (0 : Int)⟩
def rd_laMaze (xs : List SlaMaze) (i : Int) : SlaMaze := xs.getD i.toNat zlaMaze
def rd_LInt (xs : List (List Int)) (i : Int) : (List Int) := xs.getD i.toNat ([] : List Int)
def rd_LU8 (xs : List (List Int)) (i : Int) : (List Int) := xs.getD i.toNat ([] : List Int)
structure SlaSign where
  f0 : Int
  f1 : Int
def zlaSign : SlaSign := ⟨(0 : Int), (0 : Int)⟩
def rd_laSign (xs : List SlaSign) (i : Int) : SlaSign := xs.getD i.toNat zlaSign
structure SlaWalker where
  f0 : Int
  f1 : Int
def zlaWalker : SlaWalker := ⟨(0 : Int), (0 : Int)⟩
def rd_laWalker (xs : List SlaWalker) (i : Int) : SlaWalker := xs.getD i.toNat zlaWalker
def spec_l01In.f (a0 : Int) (a1 : Int) (a2 : Int) : Option (Bool) := if a0 ≥ a1 then (some (decide (a0 ≤ a2))) else (some false)
def spec_TicketOk.f (a0_0 : Int) (a0_1 : Int) : Option (Bool) := (spec_l01In.f a0_0 0 10000).bind fun t102 => (if t102 = true then ((spec_l01In.f a0_1 0 10000).bind fun t103 => (if t103 = true then (some (decide (a0_0 < a0_1))) else (some false))) else (some false))
def laws_toTicket.f (a0_0 : Int) (a0_1 : Int) : Option (Int × Int) := some (a0_0, a0_1)
def impl_TicketOk.f (a0_0 : Int) (a0_1 : Int) : Option (Bool) := if a0_0 ≥ 0 then (if a0_1 ≤ 10000 then (some (decide (a0_0 < a0_1))) else (some false)) else (some false)
def laws_FnExactTicketOk.f (a0_0 : Int) (a0_1 : Int) : Option (Bool) := (laws_toTicket.f a0_0 a0_1).bind fun bt109 => ((spec_TicketOk.f bt109.1 bt109.2).bind fun t111 => ((laws_toTicket.f a0_0 a0_1).bind fun bt112 => ((impl_TicketOk.f bt112.1 bt112.2).bind fun t114 => (if (t114 != t111) = true then (some false) else (some true)))))
def spec_ActOk.j0 : Nat → Int → Bool → Int → Int → Int → Option (Bool)
  | 0, _, _, _, _, _ => none
  | k + 1, x4, x5, x116000, x116001, x116002 => if x5 = true then (if x116001 = 0 then (some (x116002 == 0)) else (some false)) else (if x4 = 1 then ((spec_l01In.f x116001 1 20).bind fun t116 => (if t116 = true then (some (x116002 == 0)) else (some false))) else (if x4 = 3 then ((spec_l01In.f x116001 0 5).bind fun t117 => (if t117 = true then ((spec_l01In.f x116002 0 3).bind fun t118 => (some t118)) else (some false))) else (if x4 = 5 then ((spec_l01In.f x116001 0 5).bind fun t119 => (if t119 = true then (some (x116002 == 0)) else (some false))) else (some false))))
def spec_ActOk.f (k : Nat) (a0_0 : Int) (a0_1 : Int) (a0_2 : Int) : Option (Bool) := if a0_0 = 2 then (spec_ActOk.j0 k a0_0 (a0_0 == 2) a0_0 a0_1 a0_2) else (if a0_0 = 4 then (spec_ActOk.j0 k a0_0 (a0_0 == 4) a0_0 a0_1 a0_2) else (spec_ActOk.j0 k a0_0 (a0_0 == 6) a0_0 a0_1 a0_2))
theorem spec_ActOk.mono_l : ∀ k, (∀ y0 y1 y2 y3 y4, LeO (spec_ActOk.j0 k y0 y1 y2 y3 y4) (spec_ActOk.j0 (k + 1) y0 y1 y2 y3 y4))
  | 0 => fun _ _ _ _ _ r h => by simp [spec_ActOk.j0] at h
  | k + 1 => by
    have ih0 := spec_ActOk.mono_l k
    · intro y0 y1 y2 y3 y4
      unfold spec_ActOk.j0
      repeat' first
      | (with_reducible exact ih0 _ _ _ _ _)
      | (with_reducible exact LeO.refl _)
      | (with_reducible exact LeO.none _)
      | (with_reducible refine LeO.ite ?_ ?_)
      | (with_reducible refine LeO.bind ?_ (fun _ => ?_))
      | exact ih0 _ _ _ _ _
      | exact LeO.none _
      | refine LeO.ite ?_ ?_
      | refine LeO.bind ?_ (fun _ => ?_)
theorem spec_ActOk.mono : ∀ a0 a1 a2 k, LeO (spec_ActOk.f k a0 a1 a2) (spec_ActOk.f (k + 1) a0 a1 a2) := by
  intro a0 a1 a2 k
  have ih0 := spec_ActOk.mono_l k
  unfold spec_ActOk.f
  repeat' first
      | (with_reducible exact ih0 _ _ _ _ _)
      | (with_reducible exact LeO.refl _)
      | (with_reducible exact LeO.none _)
      | (with_reducible refine LeO.ite ?_ ?_)
      | (with_reducible refine LeO.bind ?_ (fun _ => ?_))
      | exact ih0 _ _ _ _ _
      | exact LeO.none _
      | refine LeO.ite ?_ ?_
      | refine LeO.bind ?_ (fun _ => ?_)
def laws_toAct.f (a0_0 : Int) (a0_1 : Int) (a0_2 : Int) : Option (Int × Int × Int) := some (a0_0, a0_1, a0_2)
def impl_isDirection.f (a0 : Int) : Option (Bool) := if a0 ≥ 0 then (some (decide (a0 ≤ 3))) else (some false)
def impl_ActOk.j0 : Nat → Bool → Int → Int → Int → Option (Bool)
  | 0, _, _, _, _ => none
  | k + 1, x3, x124000, x124001, x124002 => if x124000 = 1 then (if x124001 ≥ 1 then (if x124001 ≤ 20 then (some (x124002 == 0)) else (some false)) else (some false)) else (if x124000 = 3 then (if x3 = true then ((impl_isDirection.f x124002).bind fun t124 => (some t124)) else (some false)) else (if x124000 = 5 then (if x3 = true then (some (x124002 == 0)) else (some false)) else (if x124000 = 2 then (if x124001 = 0 then (some (x124002 == 0)) else (some false)) else (if x124000 = 4 then (if x124001 = 0 then (some (x124002 == 0)) else (some false)) else (if x124000 = 6 then (if x124001 = 0 then (some (x124002 == 0)) else (some false)) else (some false))))))
def impl_ActOk.f (k : Nat) (a0_0 : Int) (a0_1 : Int) (a0_2 : Int) : Option (Bool) := if a0_1 ≥ 0 then (impl_ActOk.j0 k (decide (a0_1 < 6)) a0_0 a0_1 a0_2) else (impl_ActOk.j0 k false a0_0 a0_1 a0_2)
theorem impl_ActOk.mono_l : ∀ k, (∀ y0 y1 y2 y3, LeO (impl_ActOk.j0 k y0 y1 y2 y3) (impl_ActOk.j0 (k + 1) y0 y1 y2 y3))
  | 0 => fun _ _ _ _ r h => by simp [impl_ActOk.j0] at h
  | k + 1 => by
    have ih0 := impl_ActOk.mono_l k
    · intro y0 y1 y2 y3
      unfold impl_ActOk.j0
      repeat' first
      | (with_reducible exact ih0 _ _ _ _)
      | (with_reducible exact LeO.refl _)
      | (with_reducible exact LeO.none _)
      | (with_reducible refine LeO.ite ?_ ?_)
      | (with_reducible refine LeO.bind ?_ (fun _ => ?_))
      | exact ih0 _ _ _ _
      | exact LeO.none _
      | refine LeO.ite ?_ ?_
      | refine LeO.bind ?_ (fun _ => ?_)
theorem impl_ActOk.mono : ∀ a0 a1 a2 k, LeO (impl_ActOk.f k a0 a1 a2) (impl_ActOk.f (k + 1) a0 a1 a2) := by
  intro a0 a1 a2 k
  have ih0 := impl_ActOk.mono_l k
  unfold impl_ActOk.f
  repeat' first
      | (with_reducible exact ih0 _ _ _ _)
      | (with_reducible exact LeO.refl _)
      | (with_reducible exact LeO.none _)
      | (with_reducible refine LeO.ite ?_ ?_)
      | (with_reducible refine LeO.bind ?_ (fun _ => ?_))
      | exact ih0 _ _ _ _
      | exact LeO.none _
      | refine LeO.ite ?_ ?_
      | refine LeO.bind ?_ (fun _ => ?_)
def laws_FnExactActOk.f (k : Nat) (a0_0 : Int) (a0_1 : Int) (a0_2 : Int) : Option (Bool) := (laws_toAct.f a0_0 a0_1 a0_2).bind fun bt126 => ((spec_ActOk.f k bt126.1 bt126.2.1 bt126.2.2).bind fun t129 => ((laws_toAct.f a0_0 a0_1 a0_2).bind fun bt130 => ((impl_ActOk.f k bt130.1 bt130.2.1 bt130.2.2).bind fun t133 => (if (t133 != t129) = true then (some false) else (some true)))))
theorem laws_FnExactActOk.mono : ∀ a0 a1 a2 k, LeO (laws_FnExactActOk.f k a0 a1 a2) (laws_FnExactActOk.f (k + 1) a0 a1 a2) := by
  intro a0 a1 a2 k
  unfold laws_FnExactActOk.f
  repeat' first
      | (with_reducible exact impl_ActOk.mono _ _ _ _)
      | (with_reducible exact spec_ActOk.mono _ _ _ _)
      | (with_reducible exact LeO.refl _)
      | (with_reducible exact LeO.none _)
      | (with_reducible refine LeO.ite ?_ ?_)
      | (with_reducible refine LeO.bind ?_ (fun _ => ?_))
      | exact impl_ActOk.mono _ _ _ _
      | exact spec_ActOk.mono _ _ _ _
      | exact LeO.none _
      | refine LeO.ite ?_ ?_
      | refine LeO.bind ?_ (fun _ => ?_)
def laws_szTicketS.f (l0 : List (SlaTicket)) (a1 : Int) : Option (Int) := if (wrap64 (a1 - (l0.length : Int))) < 0 then (some (-1)) else (some (wrap64 (a1 - (l0.length : Int))))
def spec_InsideAt.l0 : Nat → List (STicket) → Int → Int → Int → Option (Int)
  | 0, _, _, _, _ => none
  | k + 1, x0, x1, x5, x6 => if x6 < (x0.length : Int) then (if 0 ≤ x6 then (if ((rd_Ticket x0 x6).f0) ≤ x1 then (if x1 < ((rd_Ticket x0 x6).f1) then (spec_InsideAt.l0 k x0 x1 (wrap64 (x5 + 1)) (wrap64 (x6 + 1))) else (spec_InsideAt.l0 k x0 x1 x5 (wrap64 (x6 + 1)))) else (spec_InsideAt.l0 k x0 x1 x5 (wrap64 (x6 + 1)))) else (none)) else (some x5)
def spec_InsideAt.f (k : Nat) (l0 : List (STicket)) (a1 : Int) : Option (Int) := spec_InsideAt.l0 k l0 a1 0 0
theorem spec_InsideAt.mono_l : ∀ k, (∀ y0 y1 y2 y3, LeO (spec_InsideAt.l0 k y0 y1 y2 y3) (spec_InsideAt.l0 (k + 1) y0 y1 y2 y3))
  | 0 => fun _ _ _ _ r h => by simp [spec_InsideAt.l0] at h
  | k + 1 => by
    have ih0 := spec_InsideAt.mono_l k
    · intro y0 y1 y2 y3
      unfold spec_InsideAt.l0
      repeat' first
      | (with_reducible exact ih0 _ _ _ _)
      | (with_reducible exact LeO.refl _)
      | (with_reducible exact LeO.none _)
      | (with_reducible refine LeO.ite ?_ ?_)
      | (with_reducible refine LeO.bind ?_ (fun _ => ?_))
      | exact ih0 _ _ _ _
      | exact LeO.none _
      | refine LeO.ite ?_ ?_
      | refine LeO.bind ?_ (fun _ => ?_)
theorem spec_InsideAt.mono : ∀ a0 a1 k, LeO (spec_InsideAt.f k a0 a1) (spec_InsideAt.f (k + 1) a0 a1) := by
  intro a0 a1 k
  have ih0 := spec_InsideAt.mono_l k
  unfold spec_InsideAt.f
  repeat' first
      | (with_reducible exact ih0 _ _ _ _)
      | (with_reducible exact LeO.refl _)
      | (with_reducible exact LeO.none _)
      | (with_reducible refine LeO.ite ?_ ?_)
      | (with_reducible refine LeO.bind ?_ (fun _ => ?_))
      | exact ih0 _ _ _ _
      | exact LeO.none _
      | refine LeO.ite ?_ ?_
      | refine LeO.bind ?_ (fun _ => ?_)
def laws_toTicketS.l0 : Nat → List (SlaTicket) → List (STicket) → Int → Option ((List (STicket)))
  | 0, _, _, _ => none
  | k + 1, x0, x3, x4 => if x4 < (x0.length : Int) then (if 0 ≤ x4 then ((laws_toTicket.f ((rd_laTicket x0 x4).f0) ((rd_laTicket x0 x4).f1)).bind fun bt140 => (if x4 < (x3.length : Int) then (laws_toTicketS.l0 k x0 (x3.set (x4 : Int).toNat (⟨bt140.1, bt140.2⟩ : STicket)) (wrap64 (x4 + 1))) else (none))) else (none)) else (some x3)
def laws_toTicketS.f (k : Nat) (l0 : List (SlaTicket)) : Option ((List (STicket))) := if 0 ≤ (l0.length : Int) then (if ((l0.length : Int) : Int).toNat ≤ 17592186044416 then (laws_toTicketS.l0 k l0 (List.replicate ((l0.length : Int) : Int).toNat zTicket) 0) else (none)) else (none)
theorem laws_toTicketS.mono_l : ∀ k, (∀ y0 y1 y2, LeO (laws_toTicketS.l0 k y0 y1 y2) (laws_toTicketS.l0 (k + 1) y0 y1 y2))
  | 0 => fun _ _ _ r h => by simp [laws_toTicketS.l0] at h
  | k + 1 => by
    have ih0 := laws_toTicketS.mono_l k
    · intro y0 y1 y2
      unfold laws_toTicketS.l0
      repeat' first
      | (with_reducible exact ih0 _ _ _)
      | (with_reducible exact LeO.refl _)
      | (with_reducible exact LeO.none _)
      | (with_reducible refine LeO.ite ?_ ?_)
      | (with_reducible refine LeO.bind ?_ (fun _ => ?_))
      | exact ih0 _ _ _
      | exact LeO.none _
      | refine LeO.ite ?_ ?_
      | refine LeO.bind ?_ (fun _ => ?_)
theorem laws_toTicketS.mono : ∀ a0 k, LeO (laws_toTicketS.f k a0) (laws_toTicketS.f (k + 1) a0) := by
  intro a0 k
  have ih0 := laws_toTicketS.mono_l k
  unfold laws_toTicketS.f
  repeat' first
      | (with_reducible exact ih0 _ _ _)
      | (with_reducible exact LeO.refl _)
      | (with_reducible exact LeO.none _)
      | (with_reducible refine LeO.ite ?_ ?_)
      | (with_reducible refine LeO.bind ?_ (fun _ => ?_))
      | exact ih0 _ _ _
      | exact LeO.none _
      | refine LeO.ite ?_ ?_
      | refine LeO.bind ?_ (fun _ => ?_)
def impl_InsideAt.l0 : Nat → Int → Int → List (STicket) → Int → Int → Option (Int)
  | 0, _, _, _, _, _ => none
  | k + 1, x1, x5, x8, x9, x10 => if x10 < x9 then (if 0 ≤ x10 then (if x10 < (x8.length : Int) then (if ((rd_Ticket x8 x10).f0) ≤ x1 then (if x1 < ((rd_Ticket x8 x10).f1) then (impl_InsideAt.l0 k x1 (wrap64 (x5 + 1)) x8 x9 (wrap64 (x10 + 1))) else (impl_InsideAt.l0 k x1 x5 x8 x9 (wrap64 (x10 + 1)))) else (impl_InsideAt.l0 k x1 x5 x8 x9 (wrap64 (x10 + 1)))) else (none)) else (none)) else (some x5)
def impl_InsideAt.f (k : Nat) (l0 : List (STicket)) (a1 : Int) : Option (Int) := impl_InsideAt.l0 k a1 0 l0 (l0.length : Int) 0
theorem impl_InsideAt.mono_l : ∀ k, (∀ y0 y1 y2 y3 y4, LeO (impl_InsideAt.l0 k y0 y1 y2 y3 y4) (impl_InsideAt.l0 (k + 1) y0 y1 y2 y3 y4))
  | 0 => fun _ _ _ _ _ r h => by simp [impl_InsideAt.l0] at h
  | k + 1 => by
    have ih0 := impl_InsideAt.mono_l k
    · intro y0 y1 y2 y3 y4
      unfold impl_InsideAt.l0
      repeat' first
      | (with_reducible exact ih0 _ _ _ _ _)
      | (with_reducible exact LeO.refl _)
      | (with_reducible exact LeO.none _)
      | (with_reducible refine LeO.ite ?_ ?_)
      | (with_reducible refine LeO.bind ?_ (fun _ => ?_))
      | exact ih0 _ _ _ _ _
      | exact LeO.none _
      | refine LeO.ite ?_ ?_
      | refine LeO.bind ?_ (fun _ => ?_)
theorem impl_InsideAt.mono : ∀ a0 a1 k, LeO (impl_InsideAt.f k a0 a1) (impl_InsideAt.f (k + 1) a0 a1) := by
  intro a0 a1 k
  have ih0 := impl_InsideAt.mono_l k
  unfold impl_InsideAt.f
  repeat' first
      | (with_reducible exact ih0 _ _ _ _ _)
      | (with_reducible exact LeO.refl _)
      | (with_reducible exact LeO.none _)
      | (with_reducible refine LeO.ite ?_ ?_)
      | (with_reducible refine LeO.bind ?_ (fun _ => ?_))
      | exact ih0 _ _ _ _ _
      | exact LeO.none _
      | refine LeO.ite ?_ ?_
      | refine LeO.bind ?_ (fun _ => ?_)
def laws_eqTicket.f (a0_0 : Int) (a0_1 : Int) (a1_0 : Int) (a1_1 : Int) : Option (Bool) := if a0_0 = a1_0 then (if a0_1 = a1_1 then (some true) else (some false)) else (some false)
def laws_eqTicketS.l0 : Nat → List (STicket) → List (STicket) → Int → Option (Bool)
  | 0, _, _, _ => none
  | k + 1, x0, x1, x5 => if x5 < (x0.length : Int) then (if 0 ≤ x5 then (if x5 < (x1.length : Int) then ((laws_eqTicket.f ((rd_Ticket x0 x5).f0) ((rd_Ticket x0 x5).f1) ((rd_Ticket x1 x5).f0) ((rd_Ticket x1 x5).f1)).bind fun t149 => (if t149 = true then (laws_eqTicketS.l0 k x0 x1 (wrap64 (x5 + 1))) else (some false))) else (none)) else (none)) else (some true)
def laws_eqTicketS.f (k : Nat) (l0 : List (STicket)) (l1 : List (STicket)) : Option (Bool) := if (l0.length : Int) = (l1.length : Int) then (laws_eqTicketS.l0 k l0 l1 0) else (some false)
theorem laws_eqTicketS.mono_l : ∀ k, (∀ y0 y1 y2, LeO (laws_eqTicketS.l0 k y0 y1 y2) (laws_eqTicketS.l0 (k + 1) y0 y1 y2))
  | 0 => fun _ _ _ r h => by simp [laws_eqTicketS.l0] at h
  | k + 1 => by
    have ih0 := laws_eqTicketS.mono_l k
    · intro y0 y1 y2
      unfold laws_eqTicketS.l0
      repeat' first
      | (with_reducible exact ih0 _ _ _)
      | (with_reducible exact LeO.refl _)
      | (with_reducible exact LeO.none _)
      | (with_reducible refine LeO.ite ?_ ?_)
      | (with_reducible refine LeO.bind ?_ (fun _ => ?_))
      | exact ih0 _ _ _
      | exact LeO.none _
      | refine LeO.ite ?_ ?_
      | refine LeO.bind ?_ (fun _ => ?_)
theorem laws_eqTicketS.mono : ∀ a0 a1 k, LeO (laws_eqTicketS.f k a0 a1) (laws_eqTicketS.f (k + 1) a0 a1) := by
  intro a0 a1 k
  have ih0 := laws_eqTicketS.mono_l k
  unfold laws_eqTicketS.f
  repeat' first
      | (with_reducible exact ih0 _ _ _)
      | (with_reducible exact LeO.refl _)
      | (with_reducible exact LeO.none _)
      | (with_reducible refine LeO.ite ?_ ?_)
      | (with_reducible refine LeO.bind ?_ (fun _ => ?_))
      | exact ih0 _ _ _
      | exact LeO.none _
      | refine LeO.ite ?_ ?_
      | refine LeO.bind ?_ (fun _ => ?_)
def laws_FnExactInsideAt.f (k : Nat) (l0 : List (SlaTicket)) (a1 : Int) : Option (Bool) := (laws_szTicketS.f l0 1048576).bind fun t150 => (if t150 < 0 then (some true) else ((laws_toTicketS.f k l0).bind fun t151 => ((spec_InsideAt.f k t151 a1).bind fun t154 => ((laws_toTicketS.f k l0).bind fun t155 => ((impl_InsideAt.f k t155 a1).bind fun t158 => (if t158 = t154 then ((laws_toTicketS.f k l0).bind fun t159 => ((laws_eqTicketS.f k t155 t159).bind fun t162 => (if t162 = true then (some true) else (some false)))) else (some false)))))))
theorem laws_FnExactInsideAt.mono : ∀ a0 a1 k, LeO (laws_FnExactInsideAt.f k a0 a1) (laws_FnExactInsideAt.f (k + 1) a0 a1) := by
  intro a0 a1 k
  unfold laws_FnExactInsideAt.f
  repeat' first
      | (with_reducible exact impl_InsideAt.mono _ _ _)
      | (with_reducible exact laws_eqTicketS.mono _ _ _)
      | (with_reducible exact laws_toTicketS.mono _ _)
      | (with_reducible exact spec_InsideAt.mono _ _ _)
      | (with_reducible exact LeO.refl _)
      | (with_reducible exact LeO.none _)
      | (with_reducible refine LeO.ite ?_ ?_)
      | (with_reducible refine LeO.bind ?_ (fun _ => ?_))
      | exact impl_InsideAt.mono _ _ _
      | exact laws_eqTicketS.mono _ _ _
      | exact laws_toTicketS.mono _ _
      | exact spec_InsideAt.mono _ _ _
      | exact LeO.none _
      | refine LeO.ite ?_ ?_
      | refine LeO.bind ?_ (fun _ => ?_)
def spec_GridOk.f (a0_0 : Int) (a0_1 : Int) : Option (Bool) := (spec_l01In.f a0_0 1 4).bind fun t164 => (if t164 = true then ((spec_l01In.f a0_1 1 4).bind fun t165 => (some t165)) else (some false))
def spec_l02East.f (a0_0 : Int) (a0_1 : Int) : Option (Int) := some (wrap64 (a0_1 * (wrap64 (a0_0 - 1))))
def spec_CountGaps.f (a0_0 : Int) (a0_1 : Int) : Option (Int) := (spec_GridOk.f a0_0 a0_1).bind fun t168 => (if t168 = true then ((spec_l02East.f a0_0 a0_1).bind fun t169 => (some (wrap64 (t169 + (wrap64 (a0_0 * (wrap64 (a0_1 - 1)))))))) else (some 0))
def spec_MazeOk.f (a0_0 : Int) (a0_1 : Int) (a0_2 : Int) : Option (Bool) := (spec_GridOk.f a0_0 a0_1).bind fun t171 => (if t171 = true then ((spec_CountGaps.f a0_0 a0_1).bind fun t172 => (if 0 ≤ t172 then ((spec_l01In.f a0_2 0 (wrap64 ((shl .i64 1 t172) - 1))).bind fun t173 => (some t173)) else (none))) else (some false))
def spec_l03Bit.f (a0 : Int) (a1 : Int) : Option (Bool) := if 0 ≤ a1 then (some ((Go.bits .and .i64 (shr .i64 a0 a1) 1) == 1)) else (none)
mutual
def spec_ChangesBetween.l0 : Nat → List Int → Int → Int → Int → Int → Int → Int → Int → Option (List Int)
  | 0, _, _, _, _, _, _, _, _ => none
  | k + 1, x5, x6, x175000, x175001, x175002, x176000, x176001, x176002 => (spec_CountGaps.f x175000 x175001).bind fun t179 => (if x6 < t179 then ((spec_MazeOk.f x175000 x175001 x175002).bind fun t180 => (if t180 = true then ((spec_MazeOk.f x176000 x176001 x176002).bind fun t181 => (if t181 = true then (spec_ChangesBetween.j1 k x5 x6 (x175000 == x176000 && (x175001 == x176001)) x175000 x175001 x175002 x176000 x176001 x176002) else (spec_ChangesBetween.j1 k x5 x6 false x175000 x175001 x175002 x176000 x176001 x176002))) else (spec_ChangesBetween.j1 k x5 x6 false x175000 x175001 x175002 x176000 x176001 x176002))) else (spec_ChangesBetween.j1 k x5 x6 false x175000 x175001 x175002 x176000 x176001 x176002))
def spec_ChangesBetween.j1 : Nat → List Int → Int → Bool → Int → Int → Int → Int → Int → Int → Option (List Int)
  | 0, _, _, _, _, _, _, _, _, _ => none
  | k + 1, x5, x6, x27, x175000, x175001, x175002, x176000, x176001, x176002 => if x27 = true then ((spec_l03Bit.f (Go.bits .xor .i64 x175002 x176002) x6).bind fun t182 => (if t182 = true then (if x5.length < 17592186044416 then (spec_ChangesBetween.l0 k (x5 ++ [x6]) (wrap64 (x6 + 1)) x175000 x175001 x175002 x176000 x176001 x176002) else (none)) else (spec_ChangesBetween.l0 k x5 (wrap64 (x6 + 1)) x175000 x175001 x175002 x176000 x176001 x176002))) else (some x5)
end
def spec_ChangesBetween.f (k : Nat) (a0_0 : Int) (a0_1 : Int) (a0_2 : Int) (a1_0 : Int) (a1_1 : Int) (a1_2 : Int) : Option (List Int) := spec_ChangesBetween.l0 k (([] : List Int)) 0 a0_0 a0_1 a0_2 a1_0 a1_1 a1_2
theorem spec_ChangesBetween.mono_l : ∀ k, (∀ y0 y1 y2 y3 y4 y5 y6 y7, LeO (spec_ChangesBetween.l0 k y0 y1 y2 y3 y4 y5 y6 y7) (spec_ChangesBetween.l0 (k + 1) y0 y1 y2 y3 y4 y5 y6 y7)) ∧ (∀ y0 y1 y2 y3 y4 y5 y6 y7 y8, LeO (spec_ChangesBetween.j1 k y0 y1 y2 y3 y4 y5 y6 y7 y8) (spec_ChangesBetween.j1 (k + 1) y0 y1 y2 y3 y4 y5 y6 y7 y8))
  | 0 => ⟨fun _ _ _ _ _ _ _ _ r h => by simp [spec_ChangesBetween.l0] at h, fun _ _ _ _ _ _ _ _ _ r h => by simp [spec_ChangesBetween.j1] at h⟩
  | k + 1 => by
    obtain ⟨ih0, ih1⟩ := spec_ChangesBetween.mono_l k
    refine ⟨?_, ?_⟩
    · intro y0 y1 y2 y3 y4 y5 y6 y7
      unfold spec_ChangesBetween.l0
      repeat' first
      | (with_reducible exact ih0 _ _ _ _ _ _ _ _)
      | (with_reducible exact ih1 _ _ _ _ _ _ _ _ _)
      | (with_reducible exact LeO.refl _)
      | (with_reducible exact LeO.none _)
      | (with_reducible refine LeO.ite ?_ ?_)
      | (with_reducible refine LeO.bind ?_ (fun _ => ?_))
      | exact ih0 _ _ _ _ _ _ _ _
      | exact ih1 _ _ _ _ _ _ _ _ _
      | exact LeO.none _
      | refine LeO.ite ?_ ?_
      | refine LeO.bind ?_ (fun _ => ?_)
    · intro y0 y1 y2 y3 y4 y5 y6 y7 y8
      unfold spec_ChangesBetween.j1
      repeat' first
      | (with_reducible exact ih0 _ _ _ _ _ _ _ _)
      | (with_reducible exact ih1 _ _ _ _ _ _ _ _ _)
      | (with_reducible exact LeO.refl _)
      | (with_reducible exact LeO.none _)
      | (with_reducible refine LeO.ite ?_ ?_)
      | (with_reducible refine LeO.bind ?_ (fun _ => ?_))
      | exact ih0 _ _ _ _ _ _ _ _
      | exact ih1 _ _ _ _ _ _ _ _ _
      | exact LeO.none _
      | refine LeO.ite ?_ ?_
      | refine LeO.bind ?_ (fun _ => ?_)
theorem spec_ChangesBetween.mono : ∀ a0 a1 a2 a3 a4 a5 k, LeO (spec_ChangesBetween.f k a0 a1 a2 a3 a4 a5) (spec_ChangesBetween.f (k + 1) a0 a1 a2 a3 a4 a5) := by
  intro a0 a1 a2 a3 a4 a5 k
  obtain ⟨ih0, ih1⟩ := spec_ChangesBetween.mono_l k
  unfold spec_ChangesBetween.f
  repeat' first
      | (with_reducible exact ih0 _ _ _ _ _ _ _ _)
      | (with_reducible exact ih1 _ _ _ _ _ _ _ _ _)
      | (with_reducible exact LeO.refl _)
      | (with_reducible exact LeO.none _)
      | (with_reducible refine LeO.ite ?_ ?_)
      | (with_reducible refine LeO.bind ?_ (fun _ => ?_))
      | exact ih0 _ _ _ _ _ _ _ _
      | exact ih1 _ _ _ _ _ _ _ _ _
      | exact LeO.none _
      | refine LeO.ite ?_ ?_
      | refine LeO.bind ?_ (fun _ => ?_)
def laws_toGrid.f (a0_0 : Int) (a0_1 : Int) : Option (Int × Int) := some (a0_0, a0_1)
def laws_toMaze.f (a0_0 : Int) (a0_1 : Int) (a0_2 : Int) : Option (Int × Int × Int) := (laws_toGrid.f a0_0 a0_1).bind fun bt192 => (some (bt192.1, bt192.2, a0_2))
def impl_GridOk.f (a0_0 : Int) (a0_1 : Int) : Option (Bool) := if a0_0 ≥ 1 then (if a0_0 ≤ 4 then (if a0_1 ≥ 1 then (some (decide (a0_1 ≤ 4))) else (some false)) else (some false)) else (some false)
def impl_CountGaps.f (a0_0 : Int) (a0_1 : Int) : Option (Int) := (impl_GridOk.f a0_0 a0_1).bind fun t196 => (if t196 = true then (some (wrap64 ((wrap64 ((wrap64 (a0_0 - 1)) * a0_1)) + (wrap64 (a0_0 * (wrap64 (a0_1 - 1))))))) else (some 0))
def impl_MazeOk.f (a0_0 : Int) (a0_1 : Int) (a0_2 : Int) : Option (Bool) := (impl_GridOk.f a0_0 a0_1).bind fun t198 => (if t198 = true then (if a0_2 ≥ 0 then ((impl_CountGaps.f a0_0 a0_1).bind fun t199 => (if 0 ≤ t199 then (some (decide (a0_2 < (shl .i64 1 t199)))) else (none))) else (some false)) else (some false))
def impl_gapsOf.l0 : Nat → Int → List Int → Int → Option (List Int)
  | 0, _, _, _ => none
  | k + 1, x0, x3, x4 => if 0 ≤ x4 then (if (shr .i64 x0 x4) > 0 then (if (Go.bits .and .i64 (shr .i64 x0 x4) 1) = 1 then (if x3.length < 17592186044416 then (impl_gapsOf.l0 k x0 (x3 ++ [x4]) (wrap64 (x4 + 1))) else (none)) else (impl_gapsOf.l0 k x0 x3 (wrap64 (x4 + 1)))) else (some x3)) else (none)
def impl_gapsOf.f (k : Nat) (a0 : Int) : Option (List Int) := impl_gapsOf.l0 k a0 ([] : List Int) 0
theorem impl_gapsOf.mono_l : ∀ k, (∀ y0 y1 y2, LeO (impl_gapsOf.l0 k y0 y1 y2) (impl_gapsOf.l0 (k + 1) y0 y1 y2))
  | 0 => fun _ _ _ r h => by simp [impl_gapsOf.l0] at h
  | k + 1 => by
    have ih0 := impl_gapsOf.mono_l k
    · intro y0 y1 y2
      unfold impl_gapsOf.l0
      repeat' first
      | (with_reducible exact ih0 _ _ _)
      | (with_reducible exact LeO.refl _)
      | (with_reducible exact LeO.none _)
      | (with_reducible refine LeO.ite ?_ ?_)
      | (with_reducible refine LeO.bind ?_ (fun _ => ?_))
      | exact ih0 _ _ _
      | exact LeO.none _
      | refine LeO.ite ?_ ?_
      | refine LeO.bind ?_ (fun _ => ?_)
theorem impl_gapsOf.mono : ∀ a0 k, LeO (impl_gapsOf.f k a0) (impl_gapsOf.f (k + 1) a0) := by
  intro a0 k
  have ih0 := impl_gapsOf.mono_l k
  unfold impl_gapsOf.f
  repeat' first
      | (with_reducible exact ih0 _ _ _)
      | (with_reducible exact LeO.refl _)
      | (with_reducible exact LeO.none _)
      | (with_reducible refine LeO.ite ?_ ?_)
      | (with_reducible refine LeO.bind ?_ (fun _ => ?_))
      | exact ih0 _ _ _
      | exact LeO.none _
      | refine LeO.ite ?_ ?_
      | refine LeO.bind ?_ (fun _ => ?_)
def impl_ChangesBetween.f (k : Nat) (a0_0 : Int) (a0_1 : Int) (a0_2 : Int) (a1_0 : Int) (a1_1 : Int) (a1_2 : Int) : Option (List Int) := (impl_MazeOk.f a0_0 a0_1 a0_2).bind fun t205 => (if t205 = true then ((impl_MazeOk.f a1_0 a1_1 a1_2).bind fun t206 => (if t206 = true then (if (!(a0_0 == a1_0) || (!(a0_1 == a1_1))) = true then (some ([] : List Int)) else ((impl_gapsOf.f k (Go.bits .xor .i64 a0_2 a1_2)).bind fun t207 => (some t207))) else (some ([] : List Int)))) else (some ([] : List Int)))
theorem impl_ChangesBetween.mono : ∀ a0 a1 a2 a3 a4 a5 k, LeO (impl_ChangesBetween.f k a0 a1 a2 a3 a4 a5) (impl_ChangesBetween.f (k + 1) a0 a1 a2 a3 a4 a5) := by
  intro a0 a1 a2 a3 a4 a5 k
  unfold impl_ChangesBetween.f
  repeat' first
      | (with_reducible exact impl_gapsOf.mono _ _)
      | (with_reducible exact LeO.refl _)
      | (with_reducible exact LeO.none _)
      | (with_reducible refine LeO.ite ?_ ?_)
      | (with_reducible refine LeO.bind ?_ (fun _ => ?_))
      | exact impl_gapsOf.mono _ _
      | exact LeO.none _
      | refine LeO.ite ?_ ?_
      | refine LeO.bind ?_ (fun _ => ?_)
def laws_eqIntS.l0 : Nat → List Int → List Int → Int → Option (Bool)
  | 0, _, _, _ => none
  | k + 1, x0, x1, x5 => if x5 < (x0.length : Int) then (if 0 ≤ x5 then (if x5 < (x1.length : Int) then (if (rd x0 x5) = (rd x1 x5) then (laws_eqIntS.l0 k x0 x1 (wrap64 (x5 + 1))) else (some false)) else (none)) else (none)) else (some true)
def laws_eqIntS.f (k : Nat) (l0 : List Int) (l1 : List Int) : Option (Bool) := if (l0.length : Int) = (l1.length : Int) then (laws_eqIntS.l0 k l0 l1 0) else (some false)
theorem laws_eqIntS.mono_l : ∀ k, (∀ y0 y1 y2, LeO (laws_eqIntS.l0 k y0 y1 y2) (laws_eqIntS.l0 (k + 1) y0 y1 y2))
  | 0 => fun _ _ _ r h => by simp [laws_eqIntS.l0] at h
  | k + 1 => by
    have ih0 := laws_eqIntS.mono_l k
    · intro y0 y1 y2
      unfold laws_eqIntS.l0
      repeat' first
      | (with_reducible exact ih0 _ _ _)
      | (with_reducible exact LeO.refl _)
      | (with_reducible exact LeO.none _)
      | (with_reducible refine LeO.ite ?_ ?_)
      | (with_reducible refine LeO.bind ?_ (fun _ => ?_))
      | exact ih0 _ _ _
      | exact LeO.none _
      | refine LeO.ite ?_ ?_
      | refine LeO.bind ?_ (fun _ => ?_)
theorem laws_eqIntS.mono : ∀ a0 a1 k, LeO (laws_eqIntS.f k a0 a1) (laws_eqIntS.f (k + 1) a0 a1) := by
  intro a0 a1 k
  have ih0 := laws_eqIntS.mono_l k
  unfold laws_eqIntS.f
  repeat' first
      | (with_reducible exact ih0 _ _ _)
      | (with_reducible exact LeO.refl _)
      | (with_reducible exact LeO.none _)
      | (with_reducible refine LeO.ite ?_ ?_)
      | (with_reducible refine LeO.bind ?_ (fun _ => ?_))
      | exact ih0 _ _ _
      | exact LeO.none _
      | refine LeO.ite ?_ ?_
      | refine LeO.bind ?_ (fun _ => ?_)
def laws_markIntS.l0 : Nat → List Int → Int → Int → Option (Int × List Int)
  | 0, _, _, _ => none
  | k + 1, x0, x1, x5 => if x5 < (x0.length : Int) then (if 0 ≤ x5 then (laws_markIntS.l0 k (x0.set (x5 : Int).toNat x1) (wrap64 (x1 + 1)) (wrap64 (x5 + 1))) else (none)) else (some (x1, x0))
def laws_markIntS.f (k : Nat) (l0 : List Int) (a1 : Int) : Option (Int × List Int) := laws_markIntS.l0 k l0 a1 0
theorem laws_markIntS.mono_l : ∀ k, (∀ y0 y1 y2, LeO (laws_markIntS.l0 k y0 y1 y2) (laws_markIntS.l0 (k + 1) y0 y1 y2))
  | 0 => fun _ _ _ r h => by simp [laws_markIntS.l0] at h
  | k + 1 => by
    have ih0 := laws_markIntS.mono_l k
    · intro y0 y1 y2
      unfold laws_markIntS.l0
      repeat' first
      | (with_reducible exact ih0 _ _ _)
      | (with_reducible exact LeO.refl _)
      | (with_reducible exact LeO.none _)
      | (with_reducible refine LeO.ite ?_ ?_)
      | (with_reducible refine LeO.bind ?_ (fun _ => ?_))
      | exact ih0 _ _ _
      | exact LeO.none _
      | refine LeO.ite ?_ ?_
      | refine LeO.bind ?_ (fun _ => ?_)
theorem laws_markIntS.mono : ∀ a0 a1 k, LeO (laws_markIntS.f k a0 a1) (laws_markIntS.f (k + 1) a0 a1) := by
  intro a0 a1 k
  have ih0 := laws_markIntS.mono_l k
  unfold laws_markIntS.f
  repeat' first
      | (with_reducible exact ih0 _ _ _)
      | (with_reducible exact LeO.refl _)
      | (with_reducible exact LeO.none _)
      | (with_reducible refine LeO.ite ?_ ?_)
      | (with_reducible refine LeO.bind ?_ (fun _ => ?_))
      | exact ih0 _ _ _
      | exact LeO.none _
      | refine LeO.ite ?_ ?_
      | refine LeO.bind ?_ (fun _ => ?_)
def laws_heldIntS.l0 : Nat → List Int → Int → Int → Option (Int)
  | 0, _, _, _ => none
  | k + 1, x0, x1, x5 => if x5 < (x0.length : Int) then (if 0 ≤ x5 then (if (rd x0 x5) = x1 then (laws_heldIntS.l0 k x0 (wrap64 (x1 + 1)) (wrap64 (x5 + 1))) else (some (-1))) else (none)) else (some x1)
def laws_heldIntS.f (k : Nat) (l0 : List Int) (a1 : Int) : Option (Int) := laws_heldIntS.l0 k l0 a1 0
theorem laws_heldIntS.mono_l : ∀ k, (∀ y0 y1 y2, LeO (laws_heldIntS.l0 k y0 y1 y2) (laws_heldIntS.l0 (k + 1) y0 y1 y2))
  | 0 => fun _ _ _ r h => by simp [laws_heldIntS.l0] at h
  | k + 1 => by
    have ih0 := laws_heldIntS.mono_l k
    · intro y0 y1 y2
      unfold laws_heldIntS.l0
      repeat' first
      | (with_reducible exact ih0 _ _ _)
      | (with_reducible exact LeO.refl _)
      | (with_reducible exact LeO.none _)
      | (with_reducible refine LeO.ite ?_ ?_)
      | (with_reducible refine LeO.bind ?_ (fun _ => ?_))
      | exact ih0 _ _ _
      | exact LeO.none _
      | refine LeO.ite ?_ ?_
      | refine LeO.bind ?_ (fun _ => ?_)
theorem laws_heldIntS.mono : ∀ a0 a1 k, LeO (laws_heldIntS.f k a0 a1) (laws_heldIntS.f (k + 1) a0 a1) := by
  intro a0 a1 k
  have ih0 := laws_heldIntS.mono_l k
  unfold laws_heldIntS.f
  repeat' first
      | (with_reducible exact ih0 _ _ _)
      | (with_reducible exact LeO.refl _)
      | (with_reducible exact LeO.none _)
      | (with_reducible refine LeO.ite ?_ ?_)
      | (with_reducible refine LeO.bind ?_ (fun _ => ?_))
      | exact ih0 _ _ _
      | exact LeO.none _
      | refine LeO.ite ?_ ?_
      | refine LeO.bind ?_ (fun _ => ?_)
def laws_FnExactChangesBetween.f (k : Nat) (a0_0 : Int) (a0_1 : Int) (a0_2 : Int) (a1_0 : Int) (a1_1 : Int) (a1_2 : Int) : Option (Bool) := (laws_toMaze.f a0_0 a0_1 a0_2).bind fun bt216 => ((laws_toMaze.f a1_0 a1_1 a1_2).bind fun bt219 => ((spec_ChangesBetween.f k bt216.1 bt216.2.1 bt216.2.2 bt219.1 bt219.2.1 bt219.2.2).bind fun t222 => ((laws_toMaze.f a0_0 a0_1 a0_2).bind fun bt225 => ((laws_toMaze.f a1_0 a1_1 a1_2).bind fun bt228 => ((impl_ChangesBetween.f k bt225.1 bt225.2.1 bt225.2.2 bt228.1 bt228.2.1 bt228.2.2).bind fun t231 => ((laws_eqIntS.f k t231 t222).bind fun t234 => (if t234 = true then ((laws_markIntS.f k t231 1).bind fun bt235 => ((laws_heldIntS.f k bt235.2 1).bind fun t237 => (if t237 < 0 then (some false) else (if t237 = bt235.1 then ((laws_toMaze.f a0_0 a0_1 a0_2).bind fun bt238 => ((laws_toMaze.f a1_0 a1_1 a1_2).bind fun bt241 => ((impl_ChangesBetween.f k bt238.1 bt238.2.1 bt238.2.2 bt241.1 bt241.2.1 bt241.2.2).bind fun t244 => ((laws_eqIntS.f k t244 t222).bind fun t247 => (if t247 = true then ((laws_heldIntS.f k bt235.2 1).bind fun t248 => (if t248 < 0 then (some false) else (if t248 = bt235.1 then (some true) else (some false)))) else (some false)))))) else (some false))))) else (some false))))))))
theorem laws_FnExactChangesBetween.mono : ∀ a0 a1 a2 a3 a4 a5 k, LeO (laws_FnExactChangesBetween.f k a0 a1 a2 a3 a4 a5) (laws_FnExactChangesBetween.f (k + 1) a0 a1 a2 a3 a4 a5) := by
  intro a0 a1 a2 a3 a4 a5 k
  unfold laws_FnExactChangesBetween.f
  repeat' first
      | (with_reducible exact impl_ChangesBetween.mono _ _ _ _ _ _ _)
      | (with_reducible exact laws_eqIntS.mono _ _ _)
      | (with_reducible exact laws_heldIntS.mono _ _ _)
      | (with_reducible exact laws_markIntS.mono _ _ _)
      | (with_reducible exact spec_ChangesBetween.mono _ _ _ _ _ _ _)
      | (with_reducible exact LeO.refl _)
      | (with_reducible exact LeO.none _)
      | (with_reducible refine LeO.ite ?_ ?_)
      | (with_reducible refine LeO.bind ?_ (fun _ => ?_))
      | exact impl_ChangesBetween.mono _ _ _ _ _ _ _
      | exact laws_eqIntS.mono _ _ _
      | exact laws_heldIntS.mono _ _ _
      | exact laws_markIntS.mono _ _ _
      | exact spec_ChangesBetween.mono _ _ _ _ _ _ _
      | exact LeO.none _
      | refine LeO.ite ?_ ?_
      | refine LeO.bind ?_ (fun _ => ?_)
def spec_l35Ok.l0 : Nat → List (STicket) → Int → Option (Bool)
  | 0, _, _ => none
  | k + 1, x0, x3 => if x3 < (x0.length : Int) then (if 0 ≤ x3 then ((spec_TicketOk.f ((rd_Ticket x0 x3).f0) ((rd_Ticket x0 x3).f1)).bind fun t250 => (if t250 = true then (spec_l35Ok.l0 k x0 (wrap64 (x3 + 1))) else (some false))) else (none)) else (some true)
def spec_l35Ok.f (k : Nat) (l0 : List (STicket)) : Option (Bool) := spec_l35Ok.l0 k l0 0
theorem spec_l35Ok.mono_l : ∀ k, (∀ y0 y1, LeO (spec_l35Ok.l0 k y0 y1) (spec_l35Ok.l0 (k + 1) y0 y1))
  | 0 => fun _ _ r h => by simp [spec_l35Ok.l0] at h
  | k + 1 => by
    have ih0 := spec_l35Ok.mono_l k
    · intro y0 y1
      unfold spec_l35Ok.l0
      repeat' first
      | (with_reducible exact ih0 _ _)
      | (with_reducible exact LeO.refl _)
      | (with_reducible exact LeO.none _)
      | (with_reducible refine LeO.ite ?_ ?_)
      | (with_reducible refine LeO.bind ?_ (fun _ => ?_))
      | exact ih0 _ _
      | exact LeO.none _
      | refine LeO.ite ?_ ?_
      | refine LeO.bind ?_ (fun _ => ?_)
theorem spec_l35Ok.mono : ∀ a0 k, LeO (spec_l35Ok.f k a0) (spec_l35Ok.f (k + 1) a0) := by
  intro a0 k
  have ih0 := spec_l35Ok.mono_l k
  unfold spec_l35Ok.f
  repeat' first
      | (with_reducible exact ih0 _ _)
      | (with_reducible exact LeO.refl _)
      | (with_reducible exact LeO.none _)
      | (with_reducible refine LeO.ite ?_ ?_)
      | (with_reducible refine LeO.bind ?_ (fun _ => ?_))
      | exact ih0 _ _
      | exact LeO.none _
      | refine LeO.ite ?_ ?_
      | refine LeO.bind ?_ (fun _ => ?_)
mutual
def spec_MostInside.l0 : Nat → List (STicket) → Int → Int → Int → Option (Int × Int)
  | 0, _, _, _, _ => none
  | k + 1, x0, x4, x5, x6 => if x6 < (x0.length : Int) then ((spec_l35Ok.f k x0).bind fun t251 => (if t251 = true then (spec_MostInside.j1 k x0 x4 x5 x6 (decide ((x0.length : Int) ≤ 40))) else (spec_MostInside.j1 k x0 x4 x5 x6 false))) else (spec_MostInside.j1 k x0 x4 x5 x6 false)
def spec_MostInside.j1 : Nat → List (STicket) → Int → Int → Int → Bool → Option (Int × Int)
  | 0, _, _, _, _, _ => none
  | k + 1, x0, x4, x5, x6, x20 => if x20 = true then (if 0 ≤ x6 then (if x6 < (x0.length : Int) then ((spec_InsideAt.f k x0 ((rd_Ticket x0 x6).f0)).bind fun t253 => (if t253 > x4 then (spec_MostInside.l0 k x0 t253 ((rd_Ticket x0 x6).f0) (wrap64 (x6 + 1))) else (if t253 = x4 then (if ((rd_Ticket x0 x6).f0) < x5 then (spec_MostInside.l0 k x0 t253 ((rd_Ticket x0 x6).f0) (wrap64 (x6 + 1))) else (spec_MostInside.l0 k x0 x4 x5 (wrap64 (x6 + 1)))) else (spec_MostInside.l0 k x0 x4 x5 (wrap64 (x6 + 1)))))) else (none)) else (none)) else (some (x4, x5))
end
def spec_MostInside.f (k : Nat) (l0 : List (STicket)) : Option (Int × Int) := spec_MostInside.l0 k l0 0 0 0
theorem spec_MostInside.mono_l : ∀ k, (∀ y0 y1 y2 y3, LeO (spec_MostInside.l0 k y0 y1 y2 y3) (spec_MostInside.l0 (k + 1) y0 y1 y2 y3)) ∧ (∀ y0 y1 y2 y3 y4, LeO (spec_MostInside.j1 k y0 y1 y2 y3 y4) (spec_MostInside.j1 (k + 1) y0 y1 y2 y3 y4))
  | 0 => ⟨fun _ _ _ _ r h => by simp [spec_MostInside.l0] at h, fun _ _ _ _ _ r h => by simp [spec_MostInside.j1] at h⟩
  | k + 1 => by
    obtain ⟨ih0, ih1⟩ := spec_MostInside.mono_l k
    refine ⟨?_, ?_⟩
    · intro y0 y1 y2 y3
      unfold spec_MostInside.l0
      repeat' first
      | (with_reducible exact ih0 _ _ _ _)
      | (with_reducible exact ih1 _ _ _ _ _)
      | (with_reducible exact spec_InsideAt.mono _ _ _)
      | (with_reducible exact spec_l35Ok.mono _ _)
      | (with_reducible exact LeO.refl _)
      | (with_reducible exact LeO.none _)
      | (with_reducible refine LeO.ite ?_ ?_)
      | (with_reducible refine LeO.bind ?_ (fun _ => ?_))
      | exact ih0 _ _ _ _
      | exact ih1 _ _ _ _ _
      | exact spec_InsideAt.mono _ _ _
      | exact spec_l35Ok.mono _ _
      | exact LeO.none _
      | refine LeO.ite ?_ ?_
      | refine LeO.bind ?_ (fun _ => ?_)
    · intro y0 y1 y2 y3 y4
      unfold spec_MostInside.j1
      repeat' first
      | (with_reducible exact ih0 _ _ _ _)
      | (with_reducible exact ih1 _ _ _ _ _)
      | (with_reducible exact spec_InsideAt.mono _ _ _)
      | (with_reducible exact spec_l35Ok.mono _ _)
      | (with_reducible exact LeO.refl _)
      | (with_reducible exact LeO.none _)
      | (with_reducible refine LeO.ite ?_ ?_)
      | (with_reducible refine LeO.bind ?_ (fun _ => ?_))
      | exact ih0 _ _ _ _
      | exact ih1 _ _ _ _ _
      | exact spec_InsideAt.mono _ _ _
      | exact spec_l35Ok.mono _ _
      | exact LeO.none _
      | refine LeO.ite ?_ ?_
      | refine LeO.bind ?_ (fun _ => ?_)
theorem spec_MostInside.mono : ∀ a0 k, LeO (spec_MostInside.f k a0) (spec_MostInside.f (k + 1) a0) := by
  intro a0 k
  obtain ⟨ih0, ih1⟩ := spec_MostInside.mono_l k
  unfold spec_MostInside.f
  repeat' first
      | (with_reducible exact ih0 _ _ _ _)
      | (with_reducible exact ih1 _ _ _ _ _)
      | (with_reducible exact spec_InsideAt.mono _ _ _)
      | (with_reducible exact spec_l35Ok.mono _ _)
      | (with_reducible exact LeO.refl _)
      | (with_reducible exact LeO.none _)
      | (with_reducible refine LeO.ite ?_ ?_)
      | (with_reducible refine LeO.bind ?_ (fun _ => ?_))
      | exact ih0 _ _ _ _
      | exact ih1 _ _ _ _ _
      | exact spec_InsideAt.mono _ _ _
      | exact spec_l35Ok.mono _ _
      | exact LeO.none _
      | refine LeO.ite ?_ ?_
      | refine LeO.bind ?_ (fun _ => ?_)
def impl_areTickets_1.f (a0_0 : Int) (a0_1 : Int) : Option (Bool) := (impl_TicketOk.f a0_0 a0_1).bind fun t258 => (some (!t258))
def impl_areTickets.f (l0 : List STicket) : Option Bool := allO (fun x => impl_TicketOk.f x.f0 x.f1) l0
def impl_most.l0 : Nat → List (STicket) → Int → Int → List (STicket) → Int → Int → Option (Int × Int)
  | 0, _, _, _, _, _, _ => none
  | k + 1, x0, x4, x5, x9, x10, x11 => if x11 < x10 then (if 0 ≤ x11 then (if x11 < (x9.length : Int) then ((impl_InsideAt.f k x0 ((rd_Ticket x9 x11).f0)).bind fun t261 => (if t261 > x4 then (impl_most.l0 k x0 t261 ((rd_Ticket x9 x11).f0) x9 x10 (wrap64 (x11 + 1))) else (if t261 = x4 then (if ((rd_Ticket x9 x11).f0) < x5 then (impl_most.l0 k x0 t261 ((rd_Ticket x9 x11).f0) x9 x10 (wrap64 (x11 + 1))) else (impl_most.l0 k x0 x4 x5 x9 x10 (wrap64 (x11 + 1)))) else (impl_most.l0 k x0 x4 x5 x9 x10 (wrap64 (x11 + 1)))))) else (none)) else (none)) else (some (x4, x5))
def impl_most.f (k : Nat) (l0 : List (STicket)) : Option (Int × Int) := impl_most.l0 k l0 0 0 l0 (l0.length : Int) 0
theorem impl_most.mono_l : ∀ k, (∀ y0 y1 y2 y3 y4 y5, LeO (impl_most.l0 k y0 y1 y2 y3 y4 y5) (impl_most.l0 (k + 1) y0 y1 y2 y3 y4 y5))
  | 0 => fun _ _ _ _ _ _ r h => by simp [impl_most.l0] at h
  | k + 1 => by
    have ih0 := impl_most.mono_l k
    · intro y0 y1 y2 y3 y4 y5
      unfold impl_most.l0
      repeat' first
      | (with_reducible exact ih0 _ _ _ _ _ _)
      | (with_reducible exact impl_InsideAt.mono _ _ _)
      | (with_reducible exact LeO.refl _)
      | (with_reducible exact LeO.none _)
      | (with_reducible refine LeO.ite ?_ ?_)
      | (with_reducible refine LeO.bind ?_ (fun _ => ?_))
      | exact ih0 _ _ _ _ _ _
      | exact impl_InsideAt.mono _ _ _
      | exact LeO.none _
      | refine LeO.ite ?_ ?_
      | refine LeO.bind ?_ (fun _ => ?_)
theorem impl_most.mono : ∀ a0 k, LeO (impl_most.f k a0) (impl_most.f (k + 1) a0) := by
  intro a0 k
  have ih0 := impl_most.mono_l k
  unfold impl_most.f
  repeat' first
      | (with_reducible exact ih0 _ _ _ _ _ _)
      | (with_reducible exact impl_InsideAt.mono _ _ _)
      | (with_reducible exact LeO.refl _)
      | (with_reducible exact LeO.none _)
      | (with_reducible refine LeO.ite ?_ ?_)
      | (with_reducible refine LeO.bind ?_ (fun _ => ?_))
      | exact ih0 _ _ _ _ _ _
      | exact impl_InsideAt.mono _ _ _
      | exact LeO.none _
      | refine LeO.ite ?_ ?_
      | refine LeO.bind ?_ (fun _ => ?_)
def impl_MostInside.f (k : Nat) (l0 : List (STicket)) : Option (Int × Int) := if (l0.length : Int) > 40 then (some (0, 0)) else ((impl_areTickets.f l0).bind fun t262 => (if t262 = true then ((impl_most.f k l0).bind fun bt263 => (some (bt263.1, bt263.2))) else (some (0, 0))))
theorem impl_MostInside.mono : ∀ a0 k, LeO (impl_MostInside.f k a0) (impl_MostInside.f (k + 1) a0) := by
  intro a0 k
  unfold impl_MostInside.f
  repeat' first
      | (with_reducible exact impl_most.mono _ _)
      | (with_reducible exact LeO.refl _)
      | (with_reducible exact LeO.none _)
      | (with_reducible refine LeO.ite ?_ ?_)
      | (with_reducible refine LeO.bind ?_ (fun _ => ?_))
      | exact impl_most.mono _ _
      | exact LeO.none _
      | refine LeO.ite ?_ ?_
      | refine LeO.bind ?_ (fun _ => ?_)
def laws_FnExactMostInside.j0 : Nat → List (SlaTicket) → List (STicket) → Bool → Option (Bool)
  | 0, _, _, _ => none
  | k + 1, x0, x6, x34 => if x34 = true then (some false) else ((laws_toTicketS.f k x0).bind fun t276 => ((laws_eqTicketS.f k x6 t276).bind fun t279 => (if t279 = true then (some true) else (some false))))
def laws_FnExactMostInside.f (k : Nat) (l0 : List (SlaTicket)) : Option (Bool) := (laws_szTicketS.f l0 1048576).bind fun t265 => (if t265 < 0 then (some true) else ((laws_toTicketS.f k l0).bind fun t266 => ((spec_MostInside.f k t266).bind fun bt269 => ((laws_toTicketS.f k l0).bind fun t271 => ((impl_MostInside.f k t271).bind fun bt274 => (if bt274.1 = bt269.1 then (laws_FnExactMostInside.j0 k l0 t271 (bt274.2 != bt269.2)) else (laws_FnExactMostInside.j0 k l0 t271 true)))))))
theorem laws_FnExactMostInside.mono_l : ∀ k, (∀ y0 y1 y2, LeO (laws_FnExactMostInside.j0 k y0 y1 y2) (laws_FnExactMostInside.j0 (k + 1) y0 y1 y2))
  | 0 => fun _ _ _ r h => by simp [laws_FnExactMostInside.j0] at h
  | k + 1 => by
    have ih0 := laws_FnExactMostInside.mono_l k
    · intro y0 y1 y2
      unfold laws_FnExactMostInside.j0
      repeat' first
      | (with_reducible exact ih0 _ _ _)
      | (with_reducible exact impl_MostInside.mono _ _)
      | (with_reducible exact laws_eqTicketS.mono _ _ _)
      | (with_reducible exact laws_toTicketS.mono _ _)
      | (with_reducible exact spec_MostInside.mono _ _)
      | (with_reducible exact LeO.refl _)
      | (with_reducible exact LeO.none _)
      | (with_reducible refine LeO.ite ?_ ?_)
      | (with_reducible refine LeO.bind ?_ (fun _ => ?_))
      | exact ih0 _ _ _
      | exact impl_MostInside.mono _ _
      | exact laws_eqTicketS.mono _ _ _
      | exact laws_toTicketS.mono _ _
      | exact spec_MostInside.mono _ _
      | exact LeO.none _
      | refine LeO.ite ?_ ?_
      | refine LeO.bind ?_ (fun _ => ?_)
theorem laws_FnExactMostInside.mono : ∀ a0 k, LeO (laws_FnExactMostInside.f k a0) (laws_FnExactMostInside.f (k + 1) a0) := by
  intro a0 k
  have ih0 := laws_FnExactMostInside.mono_l k
  unfold laws_FnExactMostInside.f
  repeat' first
      | (with_reducible exact ih0 _ _ _)
      | (with_reducible exact impl_MostInside.mono _ _)
      | (with_reducible exact laws_eqTicketS.mono _ _ _)
      | (with_reducible exact laws_toTicketS.mono _ _)
      | (with_reducible exact spec_MostInside.mono _ _)
      | (with_reducible exact LeO.refl _)
      | (with_reducible exact LeO.none _)
      | (with_reducible refine LeO.ite ?_ ?_)
      | (with_reducible refine LeO.bind ?_ (fun _ => ?_))
      | exact ih0 _ _ _
      | exact impl_MostInside.mono _ _
      | exact laws_eqTicketS.mono _ _ _
      | exact laws_toTicketS.mono _ _
      | exact spec_MostInside.mono _ _
      | exact LeO.none _
      | refine LeO.ite ?_ ?_
      | refine LeO.bind ?_ (fun _ => ?_)
def spec_l37Gaps.l0 : Nat → List Int → Int → Int → Int → Int → Option (Bool)
  | 0, _, _, _, _, _ => none
  | k + 1, x1, x5, x281000, x281001, x281002 => if x5 < (x1.length : Int) then (if 0 ≤ x5 then ((spec_CountGaps.f x281000 x281001).bind fun t283 => ((spec_l01In.f (rd x1 x5) 0 (wrap64 (t283 - 1))).bind fun t284 => (if t284 = true then (spec_l37Gaps.l0 k x1 (wrap64 (x5 + 1)) x281000 x281001 x281002) else (some false)))) else (none)) else ((spec_MazeOk.f x281000 x281001 x281002).bind fun t281 => (if t281 = true then (some (decide ((x1.length : Int) ≤ 100))) else (some false)))
def spec_l37Gaps.f (k : Nat) (a0_0 : Int) (a0_1 : Int) (a0_2 : Int) (l1 : List Int) : Option (Bool) := spec_l37Gaps.l0 k l1 0 a0_0 a0_1 a0_2
theorem spec_l37Gaps.mono_l : ∀ k, (∀ y0 y1 y2 y3 y4, LeO (spec_l37Gaps.l0 k y0 y1 y2 y3 y4) (spec_l37Gaps.l0 (k + 1) y0 y1 y2 y3 y4))
  | 0 => fun _ _ _ _ _ r h => by simp [spec_l37Gaps.l0] at h
  | k + 1 => by
    have ih0 := spec_l37Gaps.mono_l k
    · intro y0 y1 y2 y3 y4
      unfold spec_l37Gaps.l0
      repeat' first
      | (with_reducible exact ih0 _ _ _ _ _)
      | (with_reducible exact LeO.refl _)
      | (with_reducible exact LeO.none _)
      | (with_reducible refine LeO.ite ?_ ?_)
      | (with_reducible refine LeO.bind ?_ (fun _ => ?_))
      | exact ih0 _ _ _ _ _
      | exact LeO.none _
      | refine LeO.ite ?_ ?_
      | refine LeO.bind ?_ (fun _ => ?_)
theorem spec_l37Gaps.mono : ∀ a0 a1 a2 a3 k, LeO (spec_l37Gaps.f k a0 a1 a2 a3) (spec_l37Gaps.f (k + 1) a0 a1 a2 a3) := by
  intro a0 a1 a2 a3 k
  have ih0 := spec_l37Gaps.mono_l k
  unfold spec_l37Gaps.f
  repeat' first
      | (with_reducible exact ih0 _ _ _ _ _)
      | (with_reducible exact LeO.refl _)
      | (with_reducible exact LeO.none _)
      | (with_reducible refine LeO.ite ?_ ?_)
      | (with_reducible refine LeO.bind ?_ (fun _ => ?_))
      | exact ih0 _ _ _ _ _
      | exact LeO.none _
      | refine LeO.ite ?_ ?_
      | refine LeO.bind ?_ (fun _ => ?_)
def spec_Rebuilt.l0 : Nat → List Int → Int → Int → Int → Int → Option (Int × Int × Int × Bool)
  | 0, _, _, _, _, _ => none
  | k + 1, x1, x6, x286000, x286001, x286002 => if x6 < (x1.length : Int) then (if 0 ≤ x6 then (if 0 ≤ (rd x1 x6) then (spec_Rebuilt.l0 k x1 (wrap64 (x6 + 1)) x286000 x286001 (Go.bits .xor .i64 x286002 (shl .i64 1 (rd x1 x6)))) else (none)) else (none)) else (some (x286000, x286001, x286002, true))
def spec_Rebuilt.f (k : Nat) (a0_0 : Int) (a0_1 : Int) (a0_2 : Int) (l1 : List Int) : Option (Int × Int × Int × Bool) := (spec_l37Gaps.f k a0_0 a0_1 a0_2 l1).bind fun t287 => (if t287 = true then (spec_Rebuilt.l0 k l1 0 a0_0 a0_1 a0_2) else (some (a0_0, a0_1, a0_2, false)))
theorem spec_Rebuilt.mono_l : ∀ k, (∀ y0 y1 y2 y3 y4, LeO (spec_Rebuilt.l0 k y0 y1 y2 y3 y4) (spec_Rebuilt.l0 (k + 1) y0 y1 y2 y3 y4))
  | 0 => fun _ _ _ _ _ r h => by simp [spec_Rebuilt.l0] at h
  | k + 1 => by
    have ih0 := spec_Rebuilt.mono_l k
    · intro y0 y1 y2 y3 y4
      unfold spec_Rebuilt.l0
      repeat' first
      | (with_reducible exact ih0 _ _ _ _ _)
      | (with_reducible exact spec_l37Gaps.mono _ _ _ _ _)
      | (with_reducible exact LeO.refl _)
      | (with_reducible exact LeO.none _)
      | (with_reducible refine LeO.ite ?_ ?_)
      | (with_reducible refine LeO.bind ?_ (fun _ => ?_))
      | exact ih0 _ _ _ _ _
      | exact spec_l37Gaps.mono _ _ _ _ _
      | exact LeO.none _
      | refine LeO.ite ?_ ?_
      | refine LeO.bind ?_ (fun _ => ?_)
theorem spec_Rebuilt.mono : ∀ a0 a1 a2 a3 k, LeO (spec_Rebuilt.f k a0 a1 a2 a3) (spec_Rebuilt.f (k + 1) a0 a1 a2 a3) := by
  intro a0 a1 a2 a3 k
  have ih0 := spec_Rebuilt.mono_l k
  unfold spec_Rebuilt.f
  repeat' first
      | (with_reducible exact ih0 _ _ _ _ _)
      | (with_reducible exact spec_l37Gaps.mono _ _ _ _ _)
      | (with_reducible exact LeO.refl _)
      | (with_reducible exact LeO.none _)
      | (with_reducible refine LeO.ite ?_ ?_)
      | (with_reducible refine LeO.bind ?_ (fun _ => ?_))
      | exact ih0 _ _ _ _ _
      | exact spec_l37Gaps.mono _ _ _ _ _
      | exact LeO.none _
      | refine LeO.ite ?_ ?_
      | refine LeO.bind ?_ (fun _ => ?_)
def laws_toIntS.l0 : Nat → List Int → List Int → Int → Option (List Int)
  | 0, _, _, _ => none
  | k + 1, x0, x3, x4 => if x4 < (x0.length : Int) then (if 0 ≤ x4 then (if x4 < (x3.length : Int) then (laws_toIntS.l0 k x0 (x3.set (x4 : Int).toNat (rd x0 x4)) (wrap64 (x4 + 1))) else (none)) else (none)) else (some x3)
def laws_toIntS.f (k : Nat) (l0 : List Int) : Option (List Int) := if 0 ≤ (l0.length : Int) then (if ((l0.length : Int) : Int).toNat ≤ 35184372088832 then (laws_toIntS.l0 k l0 (List.replicate ((l0.length : Int) : Int).toNat 0) 0) else (none)) else (none)
theorem laws_toIntS.mono_l : ∀ k, (∀ y0 y1 y2, LeO (laws_toIntS.l0 k y0 y1 y2) (laws_toIntS.l0 (k + 1) y0 y1 y2))
  | 0 => fun _ _ _ r h => by simp [laws_toIntS.l0] at h
  | k + 1 => by
    have ih0 := laws_toIntS.mono_l k
    · intro y0 y1 y2
      unfold laws_toIntS.l0
      repeat' first
      | (with_reducible exact ih0 _ _ _)
      | (with_reducible exact LeO.refl _)
      | (with_reducible exact LeO.none _)
      | (with_reducible refine LeO.ite ?_ ?_)
      | (with_reducible refine LeO.bind ?_ (fun _ => ?_))
      | exact ih0 _ _ _
      | exact LeO.none _
      | refine LeO.ite ?_ ?_
      | refine LeO.bind ?_ (fun _ => ?_)
theorem laws_toIntS.mono : ∀ a0 k, LeO (laws_toIntS.f k a0) (laws_toIntS.f (k + 1) a0) := by
  intro a0 k
  have ih0 := laws_toIntS.mono_l k
  unfold laws_toIntS.f
  repeat' first
      | (with_reducible exact ih0 _ _ _)
      | (with_reducible exact LeO.refl _)
      | (with_reducible exact LeO.none _)
      | (with_reducible refine LeO.ite ?_ ?_)
      | (with_reducible refine LeO.bind ?_ (fun _ => ?_))
      | exact ih0 _ _ _
      | exact LeO.none _
      | refine LeO.ite ?_ ?_
      | refine LeO.bind ?_ (fun _ => ?_)
def impl_isGap.f (a0_0 : Int) (a0_1 : Int) (a1 : Int) : Option (Bool) := if a1 ≥ 0 then ((impl_CountGaps.f a0_0 a0_1).bind fun t295 => (some (decide (a1 < t295)))) else (some false)
def impl_areGaps.f (a0_0 a0_1 : Int) (l1 : List Int) : Option Bool := (impl_GridOk.f a0_0 a0_1).bind fun b => if b = true then (if l1.length ≤ 100 then allO (fun x => impl_isGap.f a0_0 a0_1 x) l1 else some false) else some false
def impl_with.f (a0_0 : Int) (a0_1 : Int) (a0_2 : Int) (a1 : Int) (a2 : Bool) : Option (Int × Int × Int) := if 0 ≤ a1 then (if a2 = true then (some (a0_0, a0_1, Go.bits .or .i64 (Go.bits .andNot .i64 a0_2 (shl .i64 1 a1)) (shl .i64 1 a1))) else (some (a0_0, a0_1, Go.bits .andNot .i64 a0_2 (shl .i64 1 a1)))) else (none)
def impl_isOpen.f (a0_0 : Int) (a0_1 : Int) (a0_2 : Int) (a1 : Int) : Option (Bool) := if a1 ≥ 0 then (if 0 ≤ a1 then (some ((Go.bits .and .i64 (shr .i64 a0_2 a1) 1) == 1)) else (none)) else (some false)
def impl_changed.f (a0_0 : Int) (a0_1 : Int) (a0_2 : Int) (a1 : Int) : Option (Int × Int × Int) := (impl_isOpen.f a0_0 a0_1 a0_2 a1).bind fun t301 => ((impl_with.f a0_0 a0_1 a0_2 a1 (!t301)).bind fun bt302 => (some (bt302.1, bt302.2.1, bt302.2.2)))
mutual
def impl_Rebuilt.j0 : Nat → List Int → Bool → Int → Int → Int → Option (Int × Int × Int × Bool)
  | 0, _, _, _, _, _ => none
  | k + 1, x1, x17, x306000, x306001, x306002 => if x17 = true then (some (x306000, x306001, x306002, false)) else (impl_Rebuilt.l0 k x1 (x1.length : Int) 0 x306000 x306001 x306002)
def impl_Rebuilt.l0 : Nat → List Int → Int → Int → Int → Int → Int → Option (Int × Int × Int × Bool)
  | 0, _, _, _, _, _, _ => none
  | k + 1, x19, x20, x21, x306000, x306001, x306002 => if x21 < x20 then (if 0 ≤ x21 then (if x21 < (x19.length : Int) then ((impl_changed.f x306000 x306001 x306002 (rd x19 x21)).bind fun bt310 => (impl_Rebuilt.l0 k x19 x20 (wrap64 (x21 + 1)) bt310.1 bt310.2.1 bt310.2.2)) else (none)) else (none)) else (some (x306000, x306001, x306002, true))
end
def impl_Rebuilt.f (k : Nat) (a0_0 : Int) (a0_1 : Int) (a0_2 : Int) (l1 : List Int) : Option (Int × Int × Int × Bool) := (impl_MazeOk.f a0_0 a0_1 a0_2).bind fun t307 => (if t307 = true then ((impl_areGaps.f a0_0 a0_1 l1).bind fun t308 => (impl_Rebuilt.j0 k l1 (!t308) a0_0 a0_1 a0_2)) else (impl_Rebuilt.j0 k l1 true a0_0 a0_1 a0_2))
theorem impl_Rebuilt.mono_l : ∀ k, (∀ y0 y1 y2 y3 y4, LeO (impl_Rebuilt.j0 k y0 y1 y2 y3 y4) (impl_Rebuilt.j0 (k + 1) y0 y1 y2 y3 y4)) ∧ (∀ y0 y1 y2 y3 y4 y5, LeO (impl_Rebuilt.l0 k y0 y1 y2 y3 y4 y5) (impl_Rebuilt.l0 (k + 1) y0 y1 y2 y3 y4 y5))
  | 0 => ⟨fun _ _ _ _ _ r h => by simp [impl_Rebuilt.j0] at h, fun _ _ _ _ _ _ r h => by simp [impl_Rebuilt.l0] at h⟩
  | k + 1 => by
    obtain ⟨ih0, ih1⟩ := impl_Rebuilt.mono_l k
    refine ⟨?_, ?_⟩
    · intro y0 y1 y2 y3 y4
      unfold impl_Rebuilt.j0
      repeat' first
      | (with_reducible exact ih0 _ _ _ _ _)
      | (with_reducible exact ih1 _ _ _ _ _ _)
      | (with_reducible exact LeO.refl _)
      | (with_reducible exact LeO.none _)
      | (with_reducible refine LeO.ite ?_ ?_)
      | (with_reducible refine LeO.bind ?_ (fun _ => ?_))
      | exact ih0 _ _ _ _ _
      | exact ih1 _ _ _ _ _ _
      | exact LeO.none _
      | refine LeO.ite ?_ ?_
      | refine LeO.bind ?_ (fun _ => ?_)
    · intro y0 y1 y2 y3 y4 y5
      unfold impl_Rebuilt.l0
      repeat' first
      | (with_reducible exact ih0 _ _ _ _ _)
      | (with_reducible exact ih1 _ _ _ _ _ _)
      | (with_reducible exact LeO.refl _)
      | (with_reducible exact LeO.none _)
      | (with_reducible refine LeO.ite ?_ ?_)
      | (with_reducible refine LeO.bind ?_ (fun _ => ?_))
      | exact ih0 _ _ _ _ _
      | exact ih1 _ _ _ _ _ _
      | exact LeO.none _
      | refine LeO.ite ?_ ?_
      | refine LeO.bind ?_ (fun _ => ?_)
theorem impl_Rebuilt.mono : ∀ a0 a1 a2 a3 k, LeO (impl_Rebuilt.f k a0 a1 a2 a3) (impl_Rebuilt.f (k + 1) a0 a1 a2 a3) := by
  intro a0 a1 a2 a3 k
  obtain ⟨ih0, ih1⟩ := impl_Rebuilt.mono_l k
  unfold impl_Rebuilt.f
  repeat' first
      | (with_reducible exact ih0 _ _ _ _ _)
      | (with_reducible exact ih1 _ _ _ _ _ _)
      | (with_reducible exact LeO.refl _)
      | (with_reducible exact LeO.none _)
      | (with_reducible refine LeO.ite ?_ ?_)
      | (with_reducible refine LeO.bind ?_ (fun _ => ?_))
      | exact ih0 _ _ _ _ _
      | exact ih1 _ _ _ _ _ _
      | exact LeO.none _
      | refine LeO.ite ?_ ?_
      | refine LeO.bind ?_ (fun _ => ?_)
def laws_eqGrid.f (a0_0 : Int) (a0_1 : Int) (a1_0 : Int) (a1_1 : Int) : Option (Bool) := if a0_0 = a1_0 then (if a0_1 = a1_1 then (some true) else (some false)) else (some false)
def laws_eqMaze.f (a0_0 : Int) (a0_1 : Int) (a0_2 : Int) (a1_0 : Int) (a1_1 : Int) (a1_2 : Int) : Option (Bool) := (laws_eqGrid.f a0_0 a0_1 a1_0 a1_1).bind fun t317 => (if t317 = true then (if a0_2 = a1_2 then (some true) else (some false)) else (some false))
def laws_FnExactRebuilt.j0 : Nat → List Int → List Int → Bool → Option (Bool)
  | 0, _, _, _ => none
  | k + 1, x1, x7, x38 => if x38 = true then (some false) else ((laws_toIntS.f k x1).bind fun t342 => ((laws_eqIntS.f k x7 t342).bind fun t345 => (if t345 = true then (some true) else (some false))))
def laws_FnExactRebuilt.f (k : Nat) (a0_0 : Int) (a0_1 : Int) (a0_2 : Int) (l1 : List Int) : Option (Bool) := if (l1.length : Int) > 1048576 then (some true) else ((laws_toMaze.f a0_0 a0_1 a0_2).bind fun bt319 => ((laws_toIntS.f k l1).bind fun t322 => ((spec_Rebuilt.f k bt319.1 bt319.2.1 bt319.2.2 t322).bind fun bt325 => ((laws_toIntS.f k l1).bind fun t330 => ((laws_toMaze.f a0_0 a0_1 a0_2).bind fun bt333 => ((impl_Rebuilt.f k bt333.1 bt333.2.1 bt333.2.2 t330).bind fun bt336 => ((laws_eqMaze.f bt336.1 bt336.2.1 bt336.2.2.1 bt325.1 bt325.2.1 bt325.2.2.1).bind fun t341 => (if t341 = true then (laws_FnExactRebuilt.j0 k l1 t330 (bt336.2.2.2 != bt325.2.2.2)) else (laws_FnExactRebuilt.j0 k l1 t330 true)))))))))
theorem laws_FnExactRebuilt.mono_l : ∀ k, (∀ y0 y1 y2, LeO (laws_FnExactRebuilt.j0 k y0 y1 y2) (laws_FnExactRebuilt.j0 (k + 1) y0 y1 y2))
  | 0 => fun _ _ _ r h => by simp [laws_FnExactRebuilt.j0] at h
  | k + 1 => by
    have ih0 := laws_FnExactRebuilt.mono_l k
    · intro y0 y1 y2
      unfold laws_FnExactRebuilt.j0
      repeat' first
      | (with_reducible exact ih0 _ _ _)
      | (with_reducible exact impl_Rebuilt.mono _ _ _ _ _)
      | (with_reducible exact laws_eqIntS.mono _ _ _)
      | (with_reducible exact laws_toIntS.mono _ _)
      | (with_reducible exact spec_Rebuilt.mono _ _ _ _ _)
      | (with_reducible exact LeO.refl _)
      | (with_reducible exact LeO.none _)
      | (with_reducible refine LeO.ite ?_ ?_)
      | (with_reducible refine LeO.bind ?_ (fun _ => ?_))
      | exact ih0 _ _ _
      | exact impl_Rebuilt.mono _ _ _ _ _
      | exact laws_eqIntS.mono _ _ _
      | exact laws_toIntS.mono _ _
      | exact spec_Rebuilt.mono _ _ _ _ _
      | exact LeO.none _
      | refine LeO.ite ?_ ?_
      | refine LeO.bind ?_ (fun _ => ?_)
theorem laws_FnExactRebuilt.mono : ∀ a0 a1 a2 a3 k, LeO (laws_FnExactRebuilt.f k a0 a1 a2 a3) (laws_FnExactRebuilt.f (k + 1) a0 a1 a2 a3) := by
  intro a0 a1 a2 a3 k
  have ih0 := laws_FnExactRebuilt.mono_l k
  unfold laws_FnExactRebuilt.f
  repeat' first
      | (with_reducible exact ih0 _ _ _)
      | (with_reducible exact impl_Rebuilt.mono _ _ _ _ _)
      | (with_reducible exact laws_eqIntS.mono _ _ _)
      | (with_reducible exact laws_toIntS.mono _ _)
      | (with_reducible exact spec_Rebuilt.mono _ _ _ _ _)
      | (with_reducible exact LeO.refl _)
      | (with_reducible exact LeO.none _)
      | (with_reducible refine LeO.ite ?_ ?_)
      | (with_reducible refine LeO.bind ?_ (fun _ => ?_))
      | exact ih0 _ _ _
      | exact impl_Rebuilt.mono _ _ _ _ _
      | exact laws_eqIntS.mono _ _ _
      | exact laws_toIntS.mono _ _
      | exact spec_Rebuilt.mono _ _ _ _ _
      | exact LeO.none _
      | refine LeO.ite ?_ ?_
      | refine LeO.bind ?_ (fun _ => ?_)
def spec_FewestRooms.f (k : Nat) (l0 : List (STicket)) : Option (Int) := (spec_MostInside.f k l0).bind fun bt346 => (some bt346.1)
theorem spec_FewestRooms.mono : ∀ a0 k, LeO (spec_FewestRooms.f k a0) (spec_FewestRooms.f (k + 1) a0) := by
  intro a0 k
  unfold spec_FewestRooms.f
  repeat' first
      | (with_reducible exact spec_MostInside.mono _ _)
      | (with_reducible exact LeO.refl _)
      | (with_reducible exact LeO.none _)
      | (with_reducible refine LeO.ite ?_ ?_)
      | (with_reducible refine LeO.bind ?_ (fun _ => ?_))
      | exact spec_MostInside.mono _ _
      | exact LeO.none _
      | refine LeO.ite ?_ ?_
      | refine LeO.bind ?_ (fun _ => ?_)
def impl_FewestRooms.f (k : Nat) (l0 : List (STicket)) : Option (Int) := (impl_MostInside.f k l0).bind fun bt348 => (some bt348.1)
theorem impl_FewestRooms.mono : ∀ a0 k, LeO (impl_FewestRooms.f k a0) (impl_FewestRooms.f (k + 1) a0) := by
  intro a0 k
  unfold impl_FewestRooms.f
  repeat' first
      | (with_reducible exact impl_MostInside.mono _ _)
      | (with_reducible exact LeO.refl _)
      | (with_reducible exact LeO.none _)
      | (with_reducible refine LeO.ite ?_ ?_)
      | (with_reducible refine LeO.bind ?_ (fun _ => ?_))
      | exact impl_MostInside.mono _ _
      | exact LeO.none _
      | refine LeO.ite ?_ ?_
      | refine LeO.bind ?_ (fun _ => ?_)
def laws_FnExactFewestRooms.f (k : Nat) (l0 : List (SlaTicket)) : Option (Bool) := (laws_szTicketS.f l0 1048576).bind fun t350 => (if t350 < 0 then (some true) else ((laws_toTicketS.f k l0).bind fun t351 => ((spec_FewestRooms.f k t351).bind fun t354 => ((laws_toTicketS.f k l0).bind fun t355 => ((impl_FewestRooms.f k t355).bind fun t358 => (if t358 = t354 then ((laws_toTicketS.f k l0).bind fun t359 => ((laws_eqTicketS.f k t355 t359).bind fun t362 => (if t362 = true then (some true) else (some false)))) else (some false)))))))
theorem laws_FnExactFewestRooms.mono : ∀ a0 k, LeO (laws_FnExactFewestRooms.f k a0) (laws_FnExactFewestRooms.f (k + 1) a0) := by
  intro a0 k
  unfold laws_FnExactFewestRooms.f
  repeat' first
      | (with_reducible exact impl_FewestRooms.mono _ _)
      | (with_reducible exact laws_eqTicketS.mono _ _ _)
      | (with_reducible exact laws_toTicketS.mono _ _)
      | (with_reducible exact spec_FewestRooms.mono _ _)
      | (with_reducible exact LeO.refl _)
      | (with_reducible exact LeO.none _)
      | (with_reducible refine LeO.ite ?_ ?_)
      | (with_reducible refine LeO.bind ?_ (fun _ => ?_))
      | exact impl_FewestRooms.mono _ _
      | exact laws_eqTicketS.mono _ _ _
      | exact laws_toTicketS.mono _ _
      | exact spec_FewestRooms.mono _ _
      | exact LeO.none _
      | refine LeO.ite ?_ ?_
      | refine LeO.bind ?_ (fun _ => ?_)
def spec_l35Most.l0 : Nat → List (STicket) → Int → Int → Option (Int)
  | 0, _, _, _ => none
  | k + 1, x0, x3, x4 => if x4 < (x0.length : Int) then (if 0 ≤ x4 then ((spec_InsideAt.f k x0 ((rd_Ticket x0 x4).f0)).bind fun t364 => (spec_l35Most.l0 k x0 (mx x3 t364) (wrap64 (x4 + 1)))) else (none)) else (some x3)
def spec_l35Most.f (k : Nat) (l0 : List (STicket)) : Option (Int) := spec_l35Most.l0 k l0 0 0
theorem spec_l35Most.mono_l : ∀ k, (∀ y0 y1 y2, LeO (spec_l35Most.l0 k y0 y1 y2) (spec_l35Most.l0 (k + 1) y0 y1 y2))
  | 0 => fun _ _ _ r h => by simp [spec_l35Most.l0] at h
  | k + 1 => by
    have ih0 := spec_l35Most.mono_l k
    · intro y0 y1 y2
      unfold spec_l35Most.l0
      repeat' first
      | (with_reducible exact ih0 _ _ _)
      | (with_reducible exact spec_InsideAt.mono _ _ _)
      | (with_reducible exact LeO.refl _)
      | (with_reducible exact LeO.none _)
      | (with_reducible refine LeO.ite ?_ ?_)
      | (with_reducible refine LeO.bind ?_ (fun _ => ?_))
      | exact ih0 _ _ _
      | exact spec_InsideAt.mono _ _ _
      | exact LeO.none _
      | refine LeO.ite ?_ ?_
      | refine LeO.bind ?_ (fun _ => ?_)
theorem spec_l35Most.mono : ∀ a0 k, LeO (spec_l35Most.f k a0) (spec_l35Most.f (k + 1) a0) := by
  intro a0 k
  have ih0 := spec_l35Most.mono_l k
  unfold spec_l35Most.f
  repeat' first
      | (with_reducible exact ih0 _ _ _)
      | (with_reducible exact spec_InsideAt.mono _ _ _)
      | (with_reducible exact LeO.refl _)
      | (with_reducible exact LeO.none _)
      | (with_reducible refine LeO.ite ?_ ?_)
      | (with_reducible refine LeO.bind ?_ (fun _ => ?_))
      | exact ih0 _ _ _
      | exact spec_InsideAt.mono _ _ _
      | exact LeO.none _
      | refine LeO.ite ?_ ?_
      | refine LeO.bind ?_ (fun _ => ?_)
def spec_CanAdmit.f (k : Nat) (l0 : List (STicket)) (a1_0 : Int) (a1_1 : Int) (a2 : Int) : Option (Bool) := (some (([] : List (STicket)) : List (STicket))).bind fun y366 => (if y366.length + l0.length < 8796093022208 then ((some (y366 ++ l0 : List (STicket))).bind fun y369 => ((some (([(⟨a1_0, a1_1⟩ : STicket)] : List (STicket)) : List (STicket))).bind fun y372 => (if y369.length + y372.length < 8796093022208 then ((some (y369 ++ y372 : List (STicket))).bind fun y375 => ((spec_l35Ok.f k y375).bind fun t378 => (if t378 = true then ((spec_l35Most.f k y375).bind fun t379 => (some (decide (t379 ≤ a2)))) else (some false)))) else (none)))) else (none))
theorem spec_CanAdmit.mono : ∀ a0 a1 a2 a3 k, LeO (spec_CanAdmit.f k a0 a1 a2 a3) (spec_CanAdmit.f (k + 1) a0 a1 a2 a3) := by
  intro a0 a1 a2 a3 k
  unfold spec_CanAdmit.f
  repeat' first
      | (with_reducible exact spec_l35Most.mono _ _)
      | (with_reducible exact spec_l35Ok.mono _ _)
      | (with_reducible exact LeO.refl _)
      | (with_reducible exact LeO.none _)
      | (with_reducible refine LeO.ite ?_ ?_)
      | (with_reducible refine LeO.bind ?_ (fun _ => ?_))
      | exact spec_l35Most.mono _ _
      | exact spec_l35Ok.mono _ _
      | exact LeO.none _
      | refine LeO.ite ?_ ?_
      | refine LeO.bind ?_ (fun _ => ?_)
def impl_greatest.f (k : Nat) (l0 : List (STicket)) : Option (Int) := (impl_most.f k l0).bind fun bt380 => (some bt380.1)
theorem impl_greatest.mono : ∀ a0 k, LeO (impl_greatest.f k a0) (impl_greatest.f (k + 1) a0) := by
  intro a0 k
  unfold impl_greatest.f
  repeat' first
      | (with_reducible exact impl_most.mono _ _)
      | (with_reducible exact LeO.refl _)
      | (with_reducible exact LeO.none _)
      | (with_reducible refine LeO.ite ?_ ?_)
      | (with_reducible refine LeO.bind ?_ (fun _ => ?_))
      | exact impl_most.mono _ _
      | exact LeO.none _
      | refine LeO.ite ?_ ?_
      | refine LeO.bind ?_ (fun _ => ?_)
def laws_big.f (l0 : List Int) : Option (Bool) := some (decide ((l0.length : Int) > 1048576))
def spec_l01Byte.f (s0_0 : List Int) (s0_1 : Int) (s0_2 : Int) : Option (Int × Int × Int) := if s0_1 < (s0_0.length : Int) then (if 0 ≤ s0_1 then (some (Go.bits .and .i64 (wrap64 ((Go.bits .and .i64 (Go.bits .xor .i64 ((wrap64 ((wrap64 (s0_2 * 6364136223846793005)) + 1442695040888963407)) / 8589934592) ((wrap64 ((wrap64 (s0_2 * 6364136223846793005)) + 1442695040888963407)) / 35184372088832)) 255) + (wrap64 (rd s0_0 s0_1)))) 255, wrap64 (s0_1 + 1), wrap64 ((wrap64 (s0_2 * 6364136223846793005)) + 1442695040888963407))) else (none)) else (some (Go.bits .and .i64 (Go.bits .xor .i64 ((wrap64 ((wrap64 (s0_2 * 6364136223846793005)) + 1442695040888963407)) / 8589934592) ((wrap64 ((wrap64 (s0_2 * 6364136223846793005)) + 1442695040888963407)) / 35184372088832)) 255, s0_1, wrap64 ((wrap64 (s0_2 * 6364136223846793005)) + 1442695040888963407)))
def spec_l01Below.f (s0_0 : List Int) (s0_1 : Int) (s0_2 : Int) (a1 : Int) : Option (Int × Int × Int) := if a1 ≤ 0 then (some (0, s0_1, s0_2)) else (if a1 ≤ 256 then ((spec_l01Byte.f s0_0 s0_1 s0_2).bind fun bt399 => (if a1 = 0 then (none) else (some (Int.tmod bt399.1 a1, bt399.2.1, bt399.2.2)))) else ((spec_l01Byte.f s0_0 s0_1 s0_2).bind fun bt402 => ((spec_l01Byte.f s0_0 bt402.2.1 bt402.2.2).bind fun bt405 => ((spec_l01Byte.f s0_0 bt405.2.1 bt405.2.2).bind fun bt408 => ((spec_l01Byte.f s0_0 bt408.2.1 bt408.2.2).bind fun bt411 => (if a1 = 0 then (none) else (some (Int.tmod (wrap64 ((wrap64 ((wrap64 ((wrap64 (bt402.1 * 16777216)) + (wrap64 (bt405.1 * 65536)))) + (wrap64 (bt408.1 * 256)))) + bt411.1)) a1, bt411.2.1, bt411.2.2))))))))
def spec_l35Ticket.f (s0_0 : List Int) (s0_1 : Int) (s0_2 : Int) : Option (Int × Int × Int × Int) := (spec_l01Below.f s0_0 s0_1 s0_2 20).bind fun bt415 => ((spec_l01Below.f s0_0 bt415.2.1 bt415.2.2 8).bind fun bt418 => (some (bt415.1, wrap64 ((wrap64 (bt415.1 + 1)) + bt418.1), bt418.2.1, bt418.2.2)))
def spec_l35List.l0 : Nat → List (STicket) → Int → Int → List Int → Int → Int → Option ((List (STicket)) × Int × Int)
  | 0, _, _, _, _, _, _ => none
  | k + 1, x3, x4, x5, x1000, x1001, x1002 => if x5 < x4 then ((spec_l35Ticket.f x1000 x1001 x1002).bind fun bt427 => (if x3.length < 8796093022208 then (spec_l35List.l0 k (x3 ++ [(⟨bt427.1, bt427.2.1⟩ : STicket)]) x4 (wrap64 (x5 + 1)) x1000 bt427.2.2.1 bt427.2.2.2) else (none))) else (some (x3, x1001, x1002))
def spec_l35List.f (k : Nat) (s0_0 : List Int) (s0_1 : Int) (s0_2 : Int) : Option ((List (STicket)) × Int × Int) := (spec_l01Below.f s0_0 s0_1 s0_2 9).bind fun bt424 => (spec_l35List.l0 k (([] : List (STicket))) bt424.1 0 s0_0 bt424.2.1 bt424.2.2)
theorem spec_l35List.mono_l : ∀ k, (∀ y0 y1 y2 y3 y4 y5, LeO (spec_l35List.l0 k y0 y1 y2 y3 y4 y5) (spec_l35List.l0 (k + 1) y0 y1 y2 y3 y4 y5))
  | 0 => fun _ _ _ _ _ _ r h => by simp [spec_l35List.l0] at h
  | k + 1 => by
    have ih0 := spec_l35List.mono_l k
    · intro y0 y1 y2 y3 y4 y5
      unfold spec_l35List.l0
      repeat' first
      | (with_reducible exact ih0 _ _ _ _ _ _)
      | (with_reducible exact LeO.refl _)
      | (with_reducible exact LeO.none _)
      | (with_reducible refine LeO.ite ?_ ?_)
      | (with_reducible refine LeO.bind ?_ (fun _ => ?_))
      | exact ih0 _ _ _ _ _ _
      | exact LeO.none _
      | refine LeO.ite ?_ ?_
      | refine LeO.bind ?_ (fun _ => ?_)
theorem spec_l35List.mono : ∀ a0 a1 a2 k, LeO (spec_l35List.f k a0 a1 a2) (spec_l35List.f (k + 1) a0 a1 a2) := by
  intro a0 a1 a2 k
  have ih0 := spec_l35List.mono_l k
  unfold spec_l35List.f
  repeat' first
      | (with_reducible exact ih0 _ _ _ _ _ _)
      | (with_reducible exact LeO.refl _)
      | (with_reducible exact LeO.none _)
      | (with_reducible refine LeO.ite ?_ ?_)
      | (with_reducible refine LeO.bind ?_ (fun _ => ?_))
      | exact ih0 _ _ _ _ _ _
      | exact LeO.none _
      | refine LeO.ite ?_ ?_
      | refine LeO.bind ?_ (fun _ => ?_)
def spec_l01New.l0 : Nat → List Int → Int → Int → Option (List Int × Int × Int)
  | 0, _, _, _ => none
  | k + 1, x0, x3, x4 => if x4 < (x0.length : Int) then (if x4 < 4000 then (if 0 ≤ x4 then (spec_l01New.l0 k x0 (Go.bits .and .i64 (wrap64 ((wrap64 ((wrap64 (x3 * 131)) + (wrap64 (rd x0 x4)))) + 7)) 1073741823) (wrap64 (x4 + 1))) else (none)) else (some (x0, 0, x3))) else (some (x0, 0, x3))
def spec_l01New.f (k : Nat) (l0 : List Int) : Option (List Int × Int × Int) := spec_l01New.l0 k l0 (wrap64 (99041 + (l0.length : Int))) 0
theorem spec_l01New.mono_l : ∀ k, (∀ y0 y1 y2, LeO (spec_l01New.l0 k y0 y1 y2) (spec_l01New.l0 (k + 1) y0 y1 y2))
  | 0 => fun _ _ _ r h => by simp [spec_l01New.l0] at h
  | k + 1 => by
    have ih0 := spec_l01New.mono_l k
    · intro y0 y1 y2
      unfold spec_l01New.l0
      repeat' first
      | (with_reducible exact ih0 _ _ _)
      | (with_reducible exact LeO.refl _)
      | (with_reducible exact LeO.none _)
      | (with_reducible refine LeO.ite ?_ ?_)
      | (with_reducible refine LeO.bind ?_ (fun _ => ?_))
      | exact ih0 _ _ _
      | exact LeO.none _
      | refine LeO.ite ?_ ?_
      | refine LeO.bind ?_ (fun _ => ?_)
theorem spec_l01New.mono : ∀ a0 k, LeO (spec_l01New.f k a0) (spec_l01New.f (k + 1) a0) := by
  intro a0 k
  have ih0 := spec_l01New.mono_l k
  unfold spec_l01New.f
  repeat' first
      | (with_reducible exact ih0 _ _ _)
      | (with_reducible exact LeO.refl _)
      | (with_reducible exact LeO.none _)
      | (with_reducible refine LeO.ite ?_ ?_)
      | (with_reducible refine LeO.bind ?_ (fun _ => ?_))
      | exact ih0 _ _ _
      | exact LeO.none _
      | refine LeO.ite ?_ ?_
      | refine LeO.bind ?_ (fun _ => ?_)
def spec_DrawTickets.f (k : Nat) (l0 : List Int) : Option ((List (STicket))) := (spec_l01New.f k l0).bind fun bt438 => ((spec_l35List.f k bt438.1 bt438.2.1 bt438.2.2).bind fun bt442 => (some bt442.1))
theorem spec_DrawTickets.mono : ∀ a0 k, LeO (spec_DrawTickets.f k a0) (spec_DrawTickets.f (k + 1) a0) := by
  intro a0 k
  unfold spec_DrawTickets.f
  repeat' first
      | (with_reducible exact spec_l01New.mono _ _)
      | (with_reducible exact spec_l35List.mono _ _ _ _)
      | (with_reducible exact LeO.refl _)
      | (with_reducible exact LeO.none _)
      | (with_reducible refine LeO.ite ?_ ?_)
      | (with_reducible refine LeO.bind ?_ (fun _ => ?_))
      | exact spec_l01New.mono _ _
      | exact spec_l35List.mono _ _ _ _
      | exact LeO.none _
      | refine LeO.ite ?_ ?_
      | refine LeO.bind ?_ (fun _ => ?_)
def laws_at.f (l0 : List Int) (a1 : Int) : Option (Int) := if (l0.length : Int) = 0 then (some 0) else (if 0 ≤ (Int.tmod (wrap64 ((wrap64 (a1 * 5)) + 1)) (l0.length : Int)) then (if (Int.tmod (wrap64 ((wrap64 (a1 * 5)) + 1)) (l0.length : Int)) < (l0.length : Int) then (some (wrap64 (rd l0 (Int.tmod (wrap64 ((wrap64 (a1 * 5)) + 1)) (l0.length : Int))))) else (none)) else (none))
def spec_CountCells.f (a0_0 : Int) (a0_1 : Int) : Option (Int) := (spec_GridOk.f a0_0 a0_1).bind fun t456 => (if t456 = true then (some (wrap64 (a0_0 * a0_1))) else (some 0))
def spec_l04Has.f (a0_0 : Int) (a0_1 : Int) (a0_2 : Int) (a1 : Int) : Option (Bool) := (spec_MazeOk.f a0_0 a0_1 a0_2).bind fun t458 => (if t458 = true then ((spec_CountCells.f a0_0 a0_1).bind fun t459 => ((spec_l01In.f a1 0 (wrap64 (t459 - 1))).bind fun t460 => (some t460))) else (some false))
def spec_IsPassage.f (a0_0 : Int) (a0_1 : Int) (a0_2 : Int) (a1 : Int) : Option (Bool) := (spec_MazeOk.f a0_0 a0_1 a0_2).bind fun t462 => (if t462 = true then ((spec_CountGaps.f a0_0 a0_1).bind fun t463 => ((spec_l01In.f a1 0 (wrap64 (t463 - 1))).bind fun t464 => (if t464 = true then ((spec_l03Bit.f a0_2 a1).bind fun t465 => (some t465)) else (some false)))) else (some false))
def spec_Neighbor.j0 : Nat → Int → Int → Int → Int → Option (Int)
  | 0, _, _, _, _ => none
  | k + 1, x7, x8, x467000, x467001 => (spec_l01In.f x7 0 (wrap64 (x467000 - 1))).bind fun t469 => (if t469 = true then ((spec_l01In.f x8 0 (wrap64 (x467001 - 1))).bind fun t470 => (if t470 = true then (some (wrap64 ((wrap64 (x8 * x467000)) + x7))) else (some (-1)))) else (some (-1)))
def spec_Neighbor.f (k : Nat) (a0_0 : Int) (a0_1 : Int) (a1 : Int) (a2 : Int) : Option (Int) := (spec_CountCells.f a0_0 a0_1).bind fun t467 => ((spec_l01In.f a1 0 (wrap64 (t467 - 1))).bind fun t468 => (if t468 = true then (if a0_0 = 0 then (none) else (if a2 = 0 then (spec_Neighbor.j0 k (Int.tmod a1 a0_0) (wrap64 ((wrap64 (Int.tdiv a1 a0_0)) - 1)) a0_0 a0_1) else (if a2 = 1 then (spec_Neighbor.j0 k (wrap64 ((Int.tmod a1 a0_0) + 1)) (wrap64 (Int.tdiv a1 a0_0)) a0_0 a0_1) else (if a2 = 2 then (spec_Neighbor.j0 k (Int.tmod a1 a0_0) (wrap64 ((wrap64 (Int.tdiv a1 a0_0)) + 1)) a0_0 a0_1) else (if a2 = 3 then (spec_Neighbor.j0 k (wrap64 ((Int.tmod a1 a0_0) - 1)) (wrap64 (Int.tdiv a1 a0_0)) a0_0 a0_1) else (some (-1))))))) else (some (-1))))
theorem spec_Neighbor.mono_l : ∀ k, (∀ y0 y1 y2 y3, LeO (spec_Neighbor.j0 k y0 y1 y2 y3) (spec_Neighbor.j0 (k + 1) y0 y1 y2 y3))
  | 0 => fun _ _ _ _ r h => by simp [spec_Neighbor.j0] at h
  | k + 1 => by
    have ih0 := spec_Neighbor.mono_l k
    · intro y0 y1 y2 y3
      unfold spec_Neighbor.j0
      repeat' first
      | (with_reducible exact ih0 _ _ _ _)
      | (with_reducible exact LeO.refl _)
      | (with_reducible exact LeO.none _)
      | (with_reducible refine LeO.ite ?_ ?_)
      | (with_reducible refine LeO.bind ?_ (fun _ => ?_))
      | exact ih0 _ _ _ _
      | exact LeO.none _
      | refine LeO.ite ?_ ?_
      | refine LeO.bind ?_ (fun _ => ?_)
theorem spec_Neighbor.mono : ∀ a0 a1 a2 a3 k, LeO (spec_Neighbor.f k a0 a1 a2 a3) (spec_Neighbor.f (k + 1) a0 a1 a2 a3) := by
  intro a0 a1 a2 a3 k
  have ih0 := spec_Neighbor.mono_l k
  unfold spec_Neighbor.f
  repeat' first
      | (with_reducible exact ih0 _ _ _ _)
      | (with_reducible exact LeO.refl _)
      | (with_reducible exact LeO.none _)
      | (with_reducible refine LeO.ite ?_ ?_)
      | (with_reducible refine LeO.bind ?_ (fun _ => ?_))
      | exact ih0 _ _ _ _
      | exact LeO.none _
      | refine LeO.ite ?_ ?_
      | refine LeO.bind ?_ (fun _ => ?_)
def spec_GapAt.f (k : Nat) (a0_0 : Int) (a0_1 : Int) (a1 : Int) (a2 : Int) : Option (Int) := (spec_Neighbor.f k a0_0 a0_1 a1 a2).bind fun t472 => (if t472 < 0 then (some (-1)) else (if a2 = 1 then (if a0_0 = 0 then (none) else (some (wrap64 ((wrap64 ((wrap64 (Int.tdiv (mn a1 t472) a0_0)) * (wrap64 (a0_0 - 1)))) + (Int.tmod (mn a1 t472) a0_0))))) else (if a2 = 3 then (if a0_0 = 0 then (none) else (some (wrap64 ((wrap64 ((wrap64 (Int.tdiv (mn a1 t472) a0_0)) * (wrap64 (a0_0 - 1)))) + (Int.tmod (mn a1 t472) a0_0))))) else ((spec_l02East.f a0_0 a0_1).bind fun t473 => (some (wrap64 (t473 + (mn a1 t472))))))))
theorem spec_GapAt.mono : ∀ a0 a1 a2 a3 k, LeO (spec_GapAt.f k a0 a1 a2 a3) (spec_GapAt.f (k + 1) a0 a1 a2 a3) := by
  intro a0 a1 a2 a3 k
  unfold spec_GapAt.f
  repeat' first
      | (with_reducible exact spec_Neighbor.mono _ _ _ _ _)
      | (with_reducible exact LeO.refl _)
      | (with_reducible exact LeO.none _)
      | (with_reducible refine LeO.ite ?_ ?_)
      | (with_reducible refine LeO.bind ?_ (fun _ => ?_))
      | exact spec_Neighbor.mono _ _ _ _ _
      | exact LeO.none _
      | refine LeO.ite ?_ ?_
      | refine LeO.bind ?_ (fun _ => ?_)
def spec_Step.f (k : Nat) (a0_0 : Int) (a0_1 : Int) (a0_2 : Int) (a1 : Int) (a2 : Int) : Option (Int) := (spec_MazeOk.f a0_0 a0_1 a0_2).bind fun t475 => (if t475 = true then ((spec_GapAt.f k a0_0 a0_1 a1 a2).bind fun t476 => ((spec_IsPassage.f a0_0 a0_1 a0_2 t476).bind fun t477 => (if t477 = true then ((spec_Neighbor.f k a0_0 a0_1 a1 a2).bind fun t478 => (some t478)) else (some (-1))))) else (some (-1)))
theorem spec_Step.mono : ∀ a0 a1 a2 a3 a4 k, LeO (spec_Step.f k a0 a1 a2 a3 a4) (spec_Step.f (k + 1) a0 a1 a2 a3 a4) := by
  intro a0 a1 a2 a3 a4 k
  unfold spec_Step.f
  repeat' first
      | (with_reducible exact spec_GapAt.mono _ _ _ _ _)
      | (with_reducible exact spec_Neighbor.mono _ _ _ _ _)
      | (with_reducible exact LeO.refl _)
      | (with_reducible exact LeO.none _)
      | (with_reducible refine LeO.ite ?_ ?_)
      | (with_reducible refine LeO.bind ?_ (fun _ => ?_))
      | exact spec_GapAt.mono _ _ _ _ _
      | exact spec_Neighbor.mono _ _ _ _ _
      | exact LeO.none _
      | refine LeO.ite ?_ ?_
      | refine LeO.bind ?_ (fun _ => ?_)
def spec_SignOk.f (k : Nat) (a0_0 : Int) (a0_1 : Int) (a0_2 : Int) (a1_0 : Int) (a1_1 : Int) : Option (Bool) := (spec_l04Has.f a0_0 a0_1 a0_2 a1_0).bind fun t481 => (if t481 = true then ((spec_Step.f k a0_0 a0_1 a0_2 a1_0 a1_1).bind fun t482 => (some (decide (t482 ≥ 0)))) else (some false))
theorem spec_SignOk.mono : ∀ a0 a1 a2 a3 a4 k, LeO (spec_SignOk.f k a0 a1 a2 a3 a4) (spec_SignOk.f (k + 1) a0 a1 a2 a3 a4) := by
  intro a0 a1 a2 a3 a4 k
  unfold spec_SignOk.f
  repeat' first
      | (with_reducible exact spec_Step.mono _ _ _ _ _ _)
      | (with_reducible exact LeO.refl _)
      | (with_reducible exact LeO.none _)
      | (with_reducible refine LeO.ite ?_ ?_)
      | (with_reducible refine LeO.bind ?_ (fun _ => ?_))
      | exact spec_Step.mono _ _ _ _ _ _
      | exact LeO.none _
      | refine LeO.ite ?_ ?_
      | refine LeO.bind ?_ (fun _ => ?_)
def laws_toSign.f (a0_0 : Int) (a0_1 : Int) : Option (Int × Int) := some (a0_0, a0_1)
def impl_CountCells.f (a0_0 : Int) (a0_1 : Int) : Option (Int) := (impl_GridOk.f a0_0 a0_1).bind fun t487 => (if t487 = true then (some (wrap64 (a0_0 * a0_1))) else (some 0))
def impl_isCell.f (a0_0 : Int) (a0_1 : Int) (a1 : Int) : Option (Bool) := if a1 ≥ 0 then ((impl_CountCells.f a0_0 a0_1).bind fun t489 => (some (decide (a1 < t489)))) else (some false)
def impl_isIn.f (a0_0 a0_1 a0_2 : Int) (l1 : List Int) : Option Bool := (impl_MazeOk.f a0_0 a0_1 a0_2).bind fun b => if b = true then (allO (fun x => impl_isCell.f a0_0 a0_1 x) l1) else some false
mutual
def impl_Neighbor.j0 : Nat → Int → Int → Int → Int → Bool → Int → Int → Option (Int)
  | 0, _, _, _, _, _, _, _ => none
  | k + 1, x1, x2, x7, x8, x21, x491000, x491001 => if x21 = true then (some (wrap64 (x1 - x491000))) else (if x2 = 1 then (impl_Neighbor.j1 k x1 x2 x7 x8 (decide (x7 < (wrap64 (x491000 - 1)))) x491000 x491001) else (impl_Neighbor.j1 k x1 x2 x7 x8 false x491000 x491001))
def impl_Neighbor.j1 : Nat → Int → Int → Int → Int → Bool → Int → Int → Option (Int)
  | 0, _, _, _, _, _, _, _ => none
  | k + 1, x1, x2, x7, x8, x32, x491000, x491001 => if x32 = true then (some (wrap64 (x1 + 1))) else (if x2 = 2 then (impl_Neighbor.j2 k x1 x2 x7 (decide (x8 < (wrap64 (x491001 - 1)))) x491000 x491001) else (impl_Neighbor.j2 k x1 x2 x7 false x491000 x491001))
def impl_Neighbor.j2 : Nat → Int → Int → Int → Bool → Int → Int → Option (Int)
  | 0, _, _, _, _, _, _ => none
  | k + 1, x1, x2, x7, x44, x491000, x491001 => if x44 = true then (some (wrap64 (x1 + x491000))) else (if x2 = 3 then (if x7 > 0 then (some (wrap64 (x1 - 1))) else (some (-1))) else (some (-1)))
end
def impl_Neighbor.f (k : Nat) (a0_0 : Int) (a0_1 : Int) (a1 : Int) (a2 : Int) : Option (Int) := (impl_isCell.f a0_0 a0_1 a1).bind fun t491 => (if t491 = true then (if a0_0 = 0 then (none) else (if a2 = 0 then (impl_Neighbor.j0 k a1 a2 (Int.tmod a1 a0_0) (wrap64 (Int.tdiv a1 a0_0)) (decide ((wrap64 (Int.tdiv a1 a0_0)) > 0)) a0_0 a0_1) else (impl_Neighbor.j0 k a1 a2 (Int.tmod a1 a0_0) (wrap64 (Int.tdiv a1 a0_0)) false a0_0 a0_1))) else (some (-1)))
theorem impl_Neighbor.mono_l : ∀ k, (∀ y0 y1 y2 y3 y4 y5 y6, LeO (impl_Neighbor.j0 k y0 y1 y2 y3 y4 y5 y6) (impl_Neighbor.j0 (k + 1) y0 y1 y2 y3 y4 y5 y6)) ∧ (∀ y0 y1 y2 y3 y4 y5 y6, LeO (impl_Neighbor.j1 k y0 y1 y2 y3 y4 y5 y6) (impl_Neighbor.j1 (k + 1) y0 y1 y2 y3 y4 y5 y6)) ∧ (∀ y0 y1 y2 y3 y4 y5, LeO (impl_Neighbor.j2 k y0 y1 y2 y3 y4 y5) (impl_Neighbor.j2 (k + 1) y0 y1 y2 y3 y4 y5))
  | 0 => ⟨fun _ _ _ _ _ _ _ r h => by simp [impl_Neighbor.j0] at h, fun _ _ _ _ _ _ _ r h => by simp [impl_Neighbor.j1] at h, fun _ _ _ _ _ _ r h => by simp [impl_Neighbor.j2] at h⟩
  | k + 1 => by
    obtain ⟨ih0, ih1, ih2⟩ := impl_Neighbor.mono_l k
    refine ⟨?_, ?_, ?_⟩
    · intro y0 y1 y2 y3 y4 y5 y6
      unfold impl_Neighbor.j0
      repeat' first
      | (with_reducible exact ih0 _ _ _ _ _ _ _)
      | (with_reducible exact ih1 _ _ _ _ _ _ _)
      | (with_reducible exact ih2 _ _ _ _ _ _)
      | (with_reducible exact LeO.refl _)
      | (with_reducible exact LeO.none _)
      | (with_reducible refine LeO.ite ?_ ?_)
      | (with_reducible refine LeO.bind ?_ (fun _ => ?_))
      | exact ih0 _ _ _ _ _ _ _
      | exact ih1 _ _ _ _ _ _ _
      | exact ih2 _ _ _ _ _ _
      | exact LeO.none _
      | refine LeO.ite ?_ ?_
      | refine LeO.bind ?_ (fun _ => ?_)
    · intro y0 y1 y2 y3 y4 y5 y6
      unfold impl_Neighbor.j1
      repeat' first
      | (with_reducible exact ih0 _ _ _ _ _ _ _)
      | (with_reducible exact ih1 _ _ _ _ _ _ _)
      | (with_reducible exact ih2 _ _ _ _ _ _)
      | (with_reducible exact LeO.refl _)
      | (with_reducible exact LeO.none _)
      | (with_reducible refine LeO.ite ?_ ?_)
      | (with_reducible refine LeO.bind ?_ (fun _ => ?_))
      | exact ih0 _ _ _ _ _ _ _
      | exact ih1 _ _ _ _ _ _ _
      | exact ih2 _ _ _ _ _ _
      | exact LeO.none _
      | refine LeO.ite ?_ ?_
      | refine LeO.bind ?_ (fun _ => ?_)
    · intro y0 y1 y2 y3 y4 y5
      unfold impl_Neighbor.j2
      repeat' first
      | (with_reducible exact ih0 _ _ _ _ _ _ _)
      | (with_reducible exact ih1 _ _ _ _ _ _ _)
      | (with_reducible exact ih2 _ _ _ _ _ _)
      | (with_reducible exact LeO.refl _)
      | (with_reducible exact LeO.none _)
      | (with_reducible refine LeO.ite ?_ ?_)
      | (with_reducible refine LeO.bind ?_ (fun _ => ?_))
      | exact ih0 _ _ _ _ _ _ _
      | exact ih1 _ _ _ _ _ _ _
      | exact ih2 _ _ _ _ _ _
      | exact LeO.none _
      | refine LeO.ite ?_ ?_
      | refine LeO.bind ?_ (fun _ => ?_)
theorem impl_Neighbor.mono : ∀ a0 a1 a2 a3 k, LeO (impl_Neighbor.f k a0 a1 a2 a3) (impl_Neighbor.f (k + 1) a0 a1 a2 a3) := by
  intro a0 a1 a2 a3 k
  obtain ⟨ih0, ih1, ih2⟩ := impl_Neighbor.mono_l k
  unfold impl_Neighbor.f
  repeat' first
      | (with_reducible exact ih0 _ _ _ _ _ _ _)
      | (with_reducible exact ih1 _ _ _ _ _ _ _)
      | (with_reducible exact ih2 _ _ _ _ _ _)
      | (with_reducible exact LeO.refl _)
      | (with_reducible exact LeO.none _)
      | (with_reducible refine LeO.ite ?_ ?_)
      | (with_reducible refine LeO.bind ?_ (fun _ => ?_))
      | exact ih0 _ _ _ _ _ _ _
      | exact ih1 _ _ _ _ _ _ _
      | exact ih2 _ _ _ _ _ _
      | exact LeO.none _
      | refine LeO.ite ?_ ?_
      | refine LeO.bind ?_ (fun _ => ?_)
def impl_GapAt.f (k : Nat) (a0_0 : Int) (a0_1 : Int) (a1 : Int) (a2 : Int) : Option (Int) := (impl_Neighbor.f k a0_0 a0_1 a1 a2).bind fun t493 => (if t493 < 0 then (some (-1)) else (if a2 = 1 then (if a0_0 = 0 then (none) else (some (wrap64 ((wrap64 ((wrap64 (Int.tdiv (mn a1 t493) a0_0)) * (wrap64 (a0_0 - 1)))) + (Int.tmod (mn a1 t493) a0_0))))) else (if a2 = 3 then (if a0_0 = 0 then (none) else (some (wrap64 ((wrap64 ((wrap64 (Int.tdiv (mn a1 t493) a0_0)) * (wrap64 (a0_0 - 1)))) + (Int.tmod (mn a1 t493) a0_0))))) else (some (wrap64 ((wrap64 ((wrap64 (a0_0 - 1)) * a0_1)) + (mn a1 t493)))))))
theorem impl_GapAt.mono : ∀ a0 a1 a2 a3 k, LeO (impl_GapAt.f k a0 a1 a2 a3) (impl_GapAt.f (k + 1) a0 a1 a2 a3) := by
  intro a0 a1 a2 a3 k
  unfold impl_GapAt.f
  repeat' first
      | (with_reducible exact impl_Neighbor.mono _ _ _ _ _)
      | (with_reducible exact LeO.refl _)
      | (with_reducible exact LeO.none _)
      | (with_reducible refine LeO.ite ?_ ?_)
      | (with_reducible refine LeO.bind ?_ (fun _ => ?_))
      | exact impl_Neighbor.mono _ _ _ _ _
      | exact LeO.none _
      | refine LeO.ite ?_ ?_
      | refine LeO.bind ?_ (fun _ => ?_)
def impl_Step.f (k : Nat) (a0_0 : Int) (a0_1 : Int) (a0_2 : Int) (a1 : Int) (a2 : Int) : Option (Int) := (impl_MazeOk.f a0_0 a0_1 a0_2).bind fun t495 => (if t495 = true then ((impl_GapAt.f k a0_0 a0_1 a1 a2).bind fun t496 => ((impl_isOpen.f a0_0 a0_1 a0_2 t496).bind fun t497 => (if t497 = true then ((impl_Neighbor.f k a0_0 a0_1 a1 a2).bind fun t498 => (some t498)) else (some (-1))))) else (some (-1)))
theorem impl_Step.mono : ∀ a0 a1 a2 a3 a4 k, LeO (impl_Step.f k a0 a1 a2 a3 a4) (impl_Step.f (k + 1) a0 a1 a2 a3 a4) := by
  intro a0 a1 a2 a3 a4 k
  unfold impl_Step.f
  repeat' first
      | (with_reducible exact impl_GapAt.mono _ _ _ _ _)
      | (with_reducible exact impl_Neighbor.mono _ _ _ _ _)
      | (with_reducible exact LeO.refl _)
      | (with_reducible exact LeO.none _)
      | (with_reducible refine LeO.ite ?_ ?_)
      | (with_reducible refine LeO.bind ?_ (fun _ => ?_))
      | exact impl_GapAt.mono _ _ _ _ _
      | exact impl_Neighbor.mono _ _ _ _ _
      | exact LeO.none _
      | refine LeO.ite ?_ ?_
      | refine LeO.bind ?_ (fun _ => ?_)
def impl_SignOk.f (k : Nat) (a0_0 : Int) (a0_1 : Int) (a0_2 : Int) (a1_0 : Int) (a1_1 : Int) : Option (Bool) := (impl_isIn.f a0_0 a0_1 a0_2 (([a1_0] : List Int))).bind fun t504 => (if t504 = true then ((impl_Step.f k a0_0 a0_1 a0_2 a1_0 a1_1).bind fun t505 => (some (decide (t505 ≥ 0)))) else (some false))
theorem impl_SignOk.mono : ∀ a0 a1 a2 a3 a4 k, LeO (impl_SignOk.f k a0 a1 a2 a3 a4) (impl_SignOk.f (k + 1) a0 a1 a2 a3 a4) := by
  intro a0 a1 a2 a3 a4 k
  unfold impl_SignOk.f
  repeat' first
      | (with_reducible exact impl_Step.mono _ _ _ _ _ _)
      | (with_reducible exact LeO.refl _)
      | (with_reducible exact LeO.none _)
      | (with_reducible refine LeO.ite ?_ ?_)
      | (with_reducible refine LeO.bind ?_ (fun _ => ?_))
      | exact impl_Step.mono _ _ _ _ _ _
      | exact LeO.none _
      | refine LeO.ite ?_ ?_
      | refine LeO.bind ?_ (fun _ => ?_)
def laws_FnExactSignOk.f (k : Nat) (a0_0 : Int) (a0_1 : Int) (a0_2 : Int) (a1_0 : Int) (a1_1 : Int) : Option (Bool) := (laws_toMaze.f a0_0 a0_1 a0_2).bind fun bt508 => ((laws_toSign.f a1_0 a1_1).bind fun bt511 => ((spec_SignOk.f k bt508.1 bt508.2.1 bt508.2.2 bt511.1 bt511.2).bind fun t513 => ((laws_toMaze.f a0_0 a0_1 a0_2).bind fun bt514 => ((laws_toSign.f a1_0 a1_1).bind fun bt517 => ((impl_SignOk.f k bt514.1 bt514.2.1 bt514.2.2 bt517.1 bt517.2).bind fun t519 => (if (t519 != t513) = true then (some false) else (some true)))))))
theorem laws_FnExactSignOk.mono : ∀ a0 a1 a2 a3 a4 k, LeO (laws_FnExactSignOk.f k a0 a1 a2 a3 a4) (laws_FnExactSignOk.f (k + 1) a0 a1 a2 a3 a4) := by
  intro a0 a1 a2 a3 a4 k
  unfold laws_FnExactSignOk.f
  repeat' first
      | (with_reducible exact impl_SignOk.mono _ _ _ _ _ _)
      | (with_reducible exact spec_SignOk.mono _ _ _ _ _ _)
      | (with_reducible exact LeO.refl _)
      | (with_reducible exact LeO.none _)
      | (with_reducible refine LeO.ite ?_ ?_)
      | (with_reducible refine LeO.bind ?_ (fun _ => ?_))
      | exact impl_SignOk.mono _ _ _ _ _ _
      | exact spec_SignOk.mono _ _ _ _ _ _
      | exact LeO.none _
      | refine LeO.ite ?_ ?_
      | refine LeO.bind ?_ (fun _ => ?_)
mutual
def spec_CountPassages.l0 : Nat → Int → Int → Int → Int → Int → Option (Int)
  | 0, _, _, _, _, _ => none
  | k + 1, x3, x4, x521000, x521001, x521002 => (spec_CountGaps.f x521000 x521001).bind fun t521 => (if x4 < t521 then ((spec_MazeOk.f x521000 x521001 x521002).bind fun t522 => (spec_CountPassages.j1 k x3 x4 t522 x521000 x521001 x521002)) else (spec_CountPassages.j1 k x3 x4 false x521000 x521001 x521002))
def spec_CountPassages.j1 : Nat → Int → Int → Bool → Int → Int → Int → Option (Int)
  | 0, _, _, _, _, _, _ => none
  | k + 1, x3, x4, x13, x521000, x521001, x521002 => if x13 = true then ((spec_l03Bit.f x521002 x4).bind fun t523 => (if t523 = true then (spec_CountPassages.l0 k (wrap64 (x3 + 1)) (wrap64 (x4 + 1)) x521000 x521001 x521002) else (spec_CountPassages.l0 k x3 (wrap64 (x4 + 1)) x521000 x521001 x521002))) else (some x3)
end
def spec_CountPassages.f (k : Nat) (a0_0 : Int) (a0_1 : Int) (a0_2 : Int) : Option (Int) := spec_CountPassages.l0 k 0 0 a0_0 a0_1 a0_2
theorem spec_CountPassages.mono_l : ∀ k, (∀ y0 y1 y2 y3 y4, LeO (spec_CountPassages.l0 k y0 y1 y2 y3 y4) (spec_CountPassages.l0 (k + 1) y0 y1 y2 y3 y4)) ∧ (∀ y0 y1 y2 y3 y4 y5, LeO (spec_CountPassages.j1 k y0 y1 y2 y3 y4 y5) (spec_CountPassages.j1 (k + 1) y0 y1 y2 y3 y4 y5))
  | 0 => ⟨fun _ _ _ _ _ r h => by simp [spec_CountPassages.l0] at h, fun _ _ _ _ _ _ r h => by simp [spec_CountPassages.j1] at h⟩
  | k + 1 => by
    obtain ⟨ih0, ih1⟩ := spec_CountPassages.mono_l k
    refine ⟨?_, ?_⟩
    · intro y0 y1 y2 y3 y4
      unfold spec_CountPassages.l0
      repeat' first
      | (with_reducible exact ih0 _ _ _ _ _)
      | (with_reducible exact ih1 _ _ _ _ _ _)
      | (with_reducible exact LeO.refl _)
      | (with_reducible exact LeO.none _)
      | (with_reducible refine LeO.ite ?_ ?_)
      | (with_reducible refine LeO.bind ?_ (fun _ => ?_))
      | exact ih0 _ _ _ _ _
      | exact ih1 _ _ _ _ _ _
      | exact LeO.none _
      | refine LeO.ite ?_ ?_
      | refine LeO.bind ?_ (fun _ => ?_)
    · intro y0 y1 y2 y3 y4 y5
      unfold spec_CountPassages.j1
      repeat' first
      | (with_reducible exact ih0 _ _ _ _ _)
      | (with_reducible exact ih1 _ _ _ _ _ _)
      | (with_reducible exact LeO.refl _)
      | (with_reducible exact LeO.none _)
      | (with_reducible refine LeO.ite ?_ ?_)
      | (with_reducible refine LeO.bind ?_ (fun _ => ?_))
      | exact ih0 _ _ _ _ _
      | exact ih1 _ _ _ _ _ _
      | exact LeO.none _
      | refine LeO.ite ?_ ?_
      | refine LeO.bind ?_ (fun _ => ?_)
theorem spec_CountPassages.mono : ∀ a0 a1 a2 k, LeO (spec_CountPassages.f k a0 a1 a2) (spec_CountPassages.f (k + 1) a0 a1 a2) := by
  intro a0 a1 a2 k
  obtain ⟨ih0, ih1⟩ := spec_CountPassages.mono_l k
  unfold spec_CountPassages.f
  repeat' first
      | (with_reducible exact ih0 _ _ _ _ _)
      | (with_reducible exact ih1 _ _ _ _ _ _)
      | (with_reducible exact LeO.refl _)
      | (with_reducible exact LeO.none _)
      | (with_reducible refine LeO.ite ?_ ?_)
      | (with_reducible refine LeO.bind ?_ (fun _ => ?_))
      | exact ih0 _ _ _ _ _
      | exact ih1 _ _ _ _ _ _
      | exact LeO.none _
      | refine LeO.ite ?_ ?_
      | refine LeO.bind ?_ (fun _ => ?_)
def spec_MostOpen.l0 : Nat → List Int → Int → Int → Int → Int → Int → Option (Int)
  | 0, _, _, _, _, _, _ => none
  | k + 1, x1, x5, x6, x525000, x525001, x525002 => if x6 < (x1.length : Int) then (if 0 ≤ x6 then (if 0 ≤ (rd x1 x6) then ((spec_CountPassages.f k x525000 x525001 (Go.bits .xor .i64 x525002 (shl .i64 1 (rd x1 x6)))).bind fun t528 => (spec_MostOpen.l0 k x1 (mx x5 t528) (wrap64 (x6 + 1)) x525000 x525001 (Go.bits .xor .i64 x525002 (shl .i64 1 (rd x1 x6))))) else (none)) else (none)) else (some x5)
def spec_MostOpen.f (k : Nat) (a0_0 : Int) (a0_1 : Int) (a0_2 : Int) (l1 : List Int) : Option (Int) := (spec_l37Gaps.f k a0_0 a0_1 a0_2 l1).bind fun t525 => (if t525 = true then ((spec_CountPassages.f k a0_0 a0_1 a0_2).bind fun t526 => (spec_MostOpen.l0 k l1 t526 0 a0_0 a0_1 a0_2)) else (some (-1)))
theorem spec_MostOpen.mono_l : ∀ k, (∀ y0 y1 y2 y3 y4 y5, LeO (spec_MostOpen.l0 k y0 y1 y2 y3 y4 y5) (spec_MostOpen.l0 (k + 1) y0 y1 y2 y3 y4 y5))
  | 0 => fun _ _ _ _ _ _ r h => by simp [spec_MostOpen.l0] at h
  | k + 1 => by
    have ih0 := spec_MostOpen.mono_l k
    · intro y0 y1 y2 y3 y4 y5
      unfold spec_MostOpen.l0
      repeat' first
      | (with_reducible exact ih0 _ _ _ _ _ _)
      | (with_reducible exact spec_CountPassages.mono _ _ _ _)
      | (with_reducible exact spec_l37Gaps.mono _ _ _ _ _)
      | (with_reducible exact LeO.refl _)
      | (with_reducible exact LeO.none _)
      | (with_reducible refine LeO.ite ?_ ?_)
      | (with_reducible refine LeO.bind ?_ (fun _ => ?_))
      | exact ih0 _ _ _ _ _ _
      | exact spec_CountPassages.mono _ _ _ _
      | exact spec_l37Gaps.mono _ _ _ _ _
      | exact LeO.none _
      | refine LeO.ite ?_ ?_
      | refine LeO.bind ?_ (fun _ => ?_)
theorem spec_MostOpen.mono : ∀ a0 a1 a2 a3 k, LeO (spec_MostOpen.f k a0 a1 a2 a3) (spec_MostOpen.f (k + 1) a0 a1 a2 a3) := by
  intro a0 a1 a2 a3 k
  have ih0 := spec_MostOpen.mono_l k
  unfold spec_MostOpen.f
  repeat' first
      | (with_reducible exact ih0 _ _ _ _ _ _)
      | (with_reducible exact spec_CountPassages.mono _ _ _ _)
      | (with_reducible exact spec_l37Gaps.mono _ _ _ _ _)
      | (with_reducible exact LeO.refl _)
      | (with_reducible exact LeO.none _)
      | (with_reducible refine LeO.ite ?_ ?_)
      | (with_reducible refine LeO.bind ?_ (fun _ => ?_))
      | exact ih0 _ _ _ _ _ _
      | exact spec_CountPassages.mono _ _ _ _
      | exact spec_l37Gaps.mono _ _ _ _ _
      | exact LeO.none _
      | refine LeO.ite ?_ ?_
      | refine LeO.bind ?_ (fun _ => ?_)
def math_bits_OnesCount64.f (a0 : Int) : Option (Int) := some (Go.bits .and .i64 (wrap64 (IntKind.u64.wrap ((IntKind.u64.wrap ((IntKind.u64.wrap ((Go.bits .and .u64 (IntKind.u64.wrap (((IntKind.u64.wrap ((Go.bits .and .u64 ((IntKind.u64.wrap ((Go.bits .and .u64 (a0 / 2) 6148914691236517205) + (Go.bits .and .u64 a0 6148914691236517205))) / 4) 3689348814741910323) + (Go.bits .and .u64 (IntKind.u64.wrap ((Go.bits .and .u64 (a0 / 2) 6148914691236517205) + (Go.bits .and .u64 a0 6148914691236517205))) 3689348814741910323))) / 16) + (IntKind.u64.wrap ((Go.bits .and .u64 ((IntKind.u64.wrap ((Go.bits .and .u64 (a0 / 2) 6148914691236517205) + (Go.bits .and .u64 a0 6148914691236517205))) / 4) 3689348814741910323) + (Go.bits .and .u64 (IntKind.u64.wrap ((Go.bits .and .u64 (a0 / 2) 6148914691236517205) + (Go.bits .and .u64 a0 6148914691236517205))) 3689348814741910323))))) 1085102592571150095) + ((Go.bits .and .u64 (IntKind.u64.wrap (((IntKind.u64.wrap ((Go.bits .and .u64 ((IntKind.u64.wrap ((Go.bits .and .u64 (a0 / 2) 6148914691236517205) + (Go.bits .and .u64 a0 6148914691236517205))) / 4) 3689348814741910323) + (Go.bits .and .u64 (IntKind.u64.wrap ((Go.bits .and .u64 (a0 / 2) 6148914691236517205) + (Go.bits .and .u64 a0 6148914691236517205))) 3689348814741910323))) / 16) + (IntKind.u64.wrap ((Go.bits .and .u64 ((IntKind.u64.wrap ((Go.bits .and .u64 (a0 / 2) 6148914691236517205) + (Go.bits .and .u64 a0 6148914691236517205))) / 4) 3689348814741910323) + (Go.bits .and .u64 (IntKind.u64.wrap ((Go.bits .and .u64 (a0 / 2) 6148914691236517205) + (Go.bits .and .u64 a0 6148914691236517205))) 3689348814741910323))))) 1085102592571150095) / 256))) + ((IntKind.u64.wrap ((Go.bits .and .u64 (IntKind.u64.wrap (((IntKind.u64.wrap ((Go.bits .and .u64 ((IntKind.u64.wrap ((Go.bits .and .u64 (a0 / 2) 6148914691236517205) + (Go.bits .and .u64 a0 6148914691236517205))) / 4) 3689348814741910323) + (Go.bits .and .u64 (IntKind.u64.wrap ((Go.bits .and .u64 (a0 / 2) 6148914691236517205) + (Go.bits .and .u64 a0 6148914691236517205))) 3689348814741910323))) / 16) + (IntKind.u64.wrap ((Go.bits .and .u64 ((IntKind.u64.wrap ((Go.bits .and .u64 (a0 / 2) 6148914691236517205) + (Go.bits .and .u64 a0 6148914691236517205))) / 4) 3689348814741910323) + (Go.bits .and .u64 (IntKind.u64.wrap ((Go.bits .and .u64 (a0 / 2) 6148914691236517205) + (Go.bits .and .u64 a0 6148914691236517205))) 3689348814741910323))))) 1085102592571150095) + ((Go.bits .and .u64 (IntKind.u64.wrap (((IntKind.u64.wrap ((Go.bits .and .u64 ((IntKind.u64.wrap ((Go.bits .and .u64 (a0 / 2) 6148914691236517205) + (Go.bits .and .u64 a0 6148914691236517205))) / 4) 3689348814741910323) + (Go.bits .and .u64 (IntKind.u64.wrap ((Go.bits .and .u64 (a0 / 2) 6148914691236517205) + (Go.bits .and .u64 a0 6148914691236517205))) 3689348814741910323))) / 16) + (IntKind.u64.wrap ((Go.bits .and .u64 ((IntKind.u64.wrap ((Go.bits .and .u64 (a0 / 2) 6148914691236517205) + (Go.bits .and .u64 a0 6148914691236517205))) / 4) 3689348814741910323) + (Go.bits .and .u64 (IntKind.u64.wrap ((Go.bits .and .u64 (a0 / 2) 6148914691236517205) + (Go.bits .and .u64 a0 6148914691236517205))) 3689348814741910323))))) 1085102592571150095) / 256))) / 65536))) + ((IntKind.u64.wrap ((IntKind.u64.wrap ((Go.bits .and .u64 (IntKind.u64.wrap (((IntKind.u64.wrap ((Go.bits .and .u64 ((IntKind.u64.wrap ((Go.bits .and .u64 (a0 / 2) 6148914691236517205) + (Go.bits .and .u64 a0 6148914691236517205))) / 4) 3689348814741910323) + (Go.bits .and .u64 (IntKind.u64.wrap ((Go.bits .and .u64 (a0 / 2) 6148914691236517205) + (Go.bits .and .u64 a0 6148914691236517205))) 3689348814741910323))) / 16) + (IntKind.u64.wrap ((Go.bits .and .u64 ((IntKind.u64.wrap ((Go.bits .and .u64 (a0 / 2) 6148914691236517205) + (Go.bits .and .u64 a0 6148914691236517205))) / 4) 3689348814741910323) + (Go.bits .and .u64 (IntKind.u64.wrap ((Go.bits .and .u64 (a0 / 2) 6148914691236517205) + (Go.bits .and .u64 a0 6148914691236517205))) 3689348814741910323))))) 1085102592571150095) + ((Go.bits .and .u64 (IntKind.u64.wrap (((IntKind.u64.wrap ((Go.bits .and .u64 ((IntKind.u64.wrap ((Go.bits .and .u64 (a0 / 2) 6148914691236517205) + (Go.bits .and .u64 a0 6148914691236517205))) / 4) 3689348814741910323) + (Go.bits .and .u64 (IntKind.u64.wrap ((Go.bits .and .u64 (a0 / 2) 6148914691236517205) + (Go.bits .and .u64 a0 6148914691236517205))) 3689348814741910323))) / 16) + (IntKind.u64.wrap ((Go.bits .and .u64 ((IntKind.u64.wrap ((Go.bits .and .u64 (a0 / 2) 6148914691236517205) + (Go.bits .and .u64 a0 6148914691236517205))) / 4) 3689348814741910323) + (Go.bits .and .u64 (IntKind.u64.wrap ((Go.bits .and .u64 (a0 / 2) 6148914691236517205) + (Go.bits .and .u64 a0 6148914691236517205))) 3689348814741910323))))) 1085102592571150095) / 256))) + ((IntKind.u64.wrap ((Go.bits .and .u64 (IntKind.u64.wrap (((IntKind.u64.wrap ((Go.bits .and .u64 ((IntKind.u64.wrap ((Go.bits .and .u64 (a0 / 2) 6148914691236517205) + (Go.bits .and .u64 a0 6148914691236517205))) / 4) 3689348814741910323) + (Go.bits .and .u64 (IntKind.u64.wrap ((Go.bits .and .u64 (a0 / 2) 6148914691236517205) + (Go.bits .and .u64 a0 6148914691236517205))) 3689348814741910323))) / 16) + (IntKind.u64.wrap ((Go.bits .and .u64 ((IntKind.u64.wrap ((Go.bits .and .u64 (a0 / 2) 6148914691236517205) + (Go.bits .and .u64 a0 6148914691236517205))) / 4) 3689348814741910323) + (Go.bits .and .u64 (IntKind.u64.wrap ((Go.bits .and .u64 (a0 / 2) 6148914691236517205) + (Go.bits .and .u64 a0 6148914691236517205))) 3689348814741910323))))) 1085102592571150095) + ((Go.bits .and .u64 (IntKind.u64.wrap (((IntKind.u64.wrap ((Go.bits .and .u64 ((IntKind.u64.wrap ((Go.bits .and .u64 (a0 / 2) 6148914691236517205) + (Go.bits .and .u64 a0 6148914691236517205))) / 4) 3689348814741910323) + (Go.bits .and .u64 (IntKind.u64.wrap ((Go.bits .and .u64 (a0 / 2) 6148914691236517205) + (Go.bits .and .u64 a0 6148914691236517205))) 3689348814741910323))) / 16) + (IntKind.u64.wrap ((Go.bits .and .u64 ((IntKind.u64.wrap ((Go.bits .and .u64 (a0 / 2) 6148914691236517205) + (Go.bits .and .u64 a0 6148914691236517205))) / 4) 3689348814741910323) + (Go.bits .and .u64 (IntKind.u64.wrap ((Go.bits .and .u64 (a0 / 2) 6148914691236517205) + (Go.bits .and .u64 a0 6148914691236517205))) 3689348814741910323))))) 1085102592571150095) / 256))) / 65536))) / 4294967296)))) 127)
def math_bits_OnesCount.f (a0 : Int) : Option (Int) := (math_bits_OnesCount64.f a0).bind fun t529 => (some t529)
def impl_CountPassages.f (a0_0 : Int) (a0_1 : Int) (a0_2 : Int) : Option (Int) := (impl_MazeOk.f a0_0 a0_1 a0_2).bind fun t531 => (if t531 = true then ((math_bits_OnesCount.f (IntKind.u64.wrap (a0_2))).bind fun t532 => (some t532)) else (some 0))
def impl_MostOpen.l0 : Nat → Int → List Int → Int → Int → Int → Int → Int → Option (Int)
  | 0, _, _, _, _, _, _, _ => none
  | k + 1, x7, x20, x21, x22, x534000, x534001, x534002 => if x22 < x21 then (if 0 ≤ x22 then (if x22 < (x20.length : Int) then ((impl_changed.f x534000 x534001 x534002 (rd x20 x22)).bind fun bt541 => ((impl_CountPassages.f bt541.1 bt541.2.1 bt541.2.2).bind fun t544 => (impl_MostOpen.l0 k (mx x7 t544) x20 x21 (wrap64 (x22 + 1)) bt541.1 bt541.2.1 bt541.2.2))) else (none)) else (none)) else (some x7)
def impl_MostOpen.f (k : Nat) (a0_0 : Int) (a0_1 : Int) (a0_2 : Int) (l1 : List Int) : Option (Int) := (impl_Rebuilt.f k a0_0 a0_1 a0_2 l1).bind fun bt534 => (if bt534.2.2.2 = true then ((impl_CountPassages.f a0_0 a0_1 a0_2).bind fun t539 => (impl_MostOpen.l0 k t539 l1 (l1.length : Int) 0 a0_0 a0_1 a0_2)) else (some (-1)))
theorem impl_MostOpen.mono_l : ∀ k, (∀ y0 y1 y2 y3 y4 y5 y6, LeO (impl_MostOpen.l0 k y0 y1 y2 y3 y4 y5 y6) (impl_MostOpen.l0 (k + 1) y0 y1 y2 y3 y4 y5 y6))
  | 0 => fun _ _ _ _ _ _ _ r h => by simp [impl_MostOpen.l0] at h
  | k + 1 => by
    have ih0 := impl_MostOpen.mono_l k
    · intro y0 y1 y2 y3 y4 y5 y6
      unfold impl_MostOpen.l0
      repeat' first
      | (with_reducible exact ih0 _ _ _ _ _ _ _)
      | (with_reducible exact impl_Rebuilt.mono _ _ _ _ _)
      | (with_reducible exact LeO.refl _)
      | (with_reducible exact LeO.none _)
      | (with_reducible refine LeO.ite ?_ ?_)
      | (with_reducible refine LeO.bind ?_ (fun _ => ?_))
      | exact ih0 _ _ _ _ _ _ _
      | exact impl_Rebuilt.mono _ _ _ _ _
      | exact LeO.none _
      | refine LeO.ite ?_ ?_
      | refine LeO.bind ?_ (fun _ => ?_)
theorem impl_MostOpen.mono : ∀ a0 a1 a2 a3 k, LeO (impl_MostOpen.f k a0 a1 a2 a3) (impl_MostOpen.f (k + 1) a0 a1 a2 a3) := by
  intro a0 a1 a2 a3 k
  have ih0 := impl_MostOpen.mono_l k
  unfold impl_MostOpen.f
  repeat' first
      | (with_reducible exact ih0 _ _ _ _ _ _ _)
      | (with_reducible exact impl_Rebuilt.mono _ _ _ _ _)
      | (with_reducible exact LeO.refl _)
      | (with_reducible exact LeO.none _)
      | (with_reducible refine LeO.ite ?_ ?_)
      | (with_reducible refine LeO.bind ?_ (fun _ => ?_))
      | exact ih0 _ _ _ _ _ _ _
      | exact impl_Rebuilt.mono _ _ _ _ _
      | exact LeO.none _
      | refine LeO.ite ?_ ?_
      | refine LeO.bind ?_ (fun _ => ?_)
def laws_FnExactMostOpen.f (k : Nat) (a0_0 : Int) (a0_1 : Int) (a0_2 : Int) (l1 : List Int) : Option (Bool) := if (l1.length : Int) > 1048576 then (some true) else ((laws_toMaze.f a0_0 a0_1 a0_2).bind fun bt546 => ((laws_toIntS.f k l1).bind fun t549 => ((spec_MostOpen.f k bt546.1 bt546.2.1 bt546.2.2 t549).bind fun t552 => ((laws_toIntS.f k l1).bind fun t553 => ((laws_toMaze.f a0_0 a0_1 a0_2).bind fun bt556 => ((impl_MostOpen.f k bt556.1 bt556.2.1 bt556.2.2 t553).bind fun t559 => (if t559 = t552 then ((laws_toIntS.f k l1).bind fun t560 => ((laws_eqIntS.f k t553 t560).bind fun t563 => (if t563 = true then (some true) else (some false)))) else (some false))))))))
theorem laws_FnExactMostOpen.mono : ∀ a0 a1 a2 a3 k, LeO (laws_FnExactMostOpen.f k a0 a1 a2 a3) (laws_FnExactMostOpen.f (k + 1) a0 a1 a2 a3) := by
  intro a0 a1 a2 a3 k
  unfold laws_FnExactMostOpen.f
  repeat' first
      | (with_reducible exact impl_MostOpen.mono _ _ _ _ _)
      | (with_reducible exact laws_eqIntS.mono _ _ _)
      | (with_reducible exact laws_toIntS.mono _ _)
      | (with_reducible exact spec_MostOpen.mono _ _ _ _ _)
      | (with_reducible exact LeO.refl _)
      | (with_reducible exact LeO.none _)
      | (with_reducible refine LeO.ite ?_ ?_)
      | (with_reducible refine LeO.bind ?_ (fun _ => ?_))
      | exact impl_MostOpen.mono _ _ _ _ _
      | exact laws_eqIntS.mono _ _ _
      | exact laws_toIntS.mono _ _
      | exact spec_MostOpen.mono _ _ _ _ _
      | exact LeO.none _
      | refine LeO.ite ?_ ?_
      | refine LeO.bind ?_ (fun _ => ?_)
def spec_WalkerOk.f (a0_0 : Int) (a0_1 : Int) (a0_2 : Int) (a1_0 : Int) (a1_1 : Int) : Option (Bool) := (spec_l04Has.f a0_0 a0_1 a0_2 a1_0).bind fun t566 => (if t566 = true then ((spec_l01In.f a1_1 0 3).bind fun t567 => (some t567)) else (some false))
def spec_PatternAt.l0 : Nat → Int → Int → Int → Int → Int → Int → Int → Option (Int)
  | 0, _, _, _, _, _, _, _ => none
  | k + 1, x5, x6, x569000, x569001, x569002, x570000, x570001 => if x6 < 4 then ((spec_Step.f k x569000 x569001 x569002 x570000 (Int.tmod (wrap64 (x570001 + x6)) 4)).bind fun t571 => (if t571 ≥ 0 then (if 0 ≤ x6 then (spec_PatternAt.l0 k (Go.bits .or .i64 x5 (shl .i64 1 x6)) (wrap64 (x6 + 1)) x569000 x569001 x569002 x570000 x570001) else (none)) else (spec_PatternAt.l0 k x5 (wrap64 (x6 + 1)) x569000 x569001 x569002 x570000 x570001))) else (some x5)
def spec_PatternAt.f (k : Nat) (a0_0 : Int) (a0_1 : Int) (a0_2 : Int) (a1_0 : Int) (a1_1 : Int) : Option (Int) := (spec_WalkerOk.f a0_0 a0_1 a0_2 a1_0 a1_1).bind fun t570 => (if t570 = true then (spec_PatternAt.l0 k 0 0 a0_0 a0_1 a0_2 a1_0 a1_1) else (some (-1)))
theorem spec_PatternAt.mono_l : ∀ k, (∀ y0 y1 y2 y3 y4 y5 y6, LeO (spec_PatternAt.l0 k y0 y1 y2 y3 y4 y5 y6) (spec_PatternAt.l0 (k + 1) y0 y1 y2 y3 y4 y5 y6))
  | 0 => fun _ _ _ _ _ _ _ r h => by simp [spec_PatternAt.l0] at h
  | k + 1 => by
    have ih0 := spec_PatternAt.mono_l k
    · intro y0 y1 y2 y3 y4 y5 y6
      unfold spec_PatternAt.l0
      repeat' first
      | (with_reducible exact ih0 _ _ _ _ _ _ _)
      | (with_reducible exact spec_Step.mono _ _ _ _ _ _)
      | (with_reducible exact LeO.refl _)
      | (with_reducible exact LeO.none _)
      | (with_reducible refine LeO.ite ?_ ?_)
      | (with_reducible refine LeO.bind ?_ (fun _ => ?_))
      | exact ih0 _ _ _ _ _ _ _
      | exact spec_Step.mono _ _ _ _ _ _
      | exact LeO.none _
      | refine LeO.ite ?_ ?_
      | refine LeO.bind ?_ (fun _ => ?_)
theorem spec_PatternAt.mono : ∀ a0 a1 a2 a3 a4 k, LeO (spec_PatternAt.f k a0 a1 a2 a3 a4) (spec_PatternAt.f (k + 1) a0 a1 a2 a3 a4) := by
  intro a0 a1 a2 a3 a4 k
  have ih0 := spec_PatternAt.mono_l k
  unfold spec_PatternAt.f
  repeat' first
      | (with_reducible exact ih0 _ _ _ _ _ _ _)
      | (with_reducible exact spec_Step.mono _ _ _ _ _ _)
      | (with_reducible exact LeO.refl _)
      | (with_reducible exact LeO.none _)
      | (with_reducible refine LeO.ite ?_ ?_)
      | (with_reducible refine LeO.bind ?_ (fun _ => ?_))
      | exact ih0 _ _ _ _ _ _ _
      | exact spec_Step.mono _ _ _ _ _ _
      | exact LeO.none _
      | refine LeO.ite ?_ ?_
      | refine LeO.bind ?_ (fun _ => ?_)
def laws_toWalker.f (a0_0 : Int) (a0_1 : Int) : Option (Int × Int) := some (a0_0, a0_1)
def impl_WalkerOk.f (a0_0 : Int) (a0_1 : Int) (a0_2 : Int) (a1_0 : Int) (a1_1 : Int) : Option (Bool) := (impl_isIn.f a0_0 a0_1 a0_2 (([a1_0] : List Int))).bind fun t580 => (if t580 = true then ((impl_isDirection.f a1_1).bind fun t581 => (some t581)) else (some false))
def impl_PatternAt.l0 : Nat → Int → Int → Int → Int → Int → Int → Int → Option (Int)
  | 0, _, _, _, _, _, _, _ => none
  | k + 1, x5, x6, x583000, x583001, x583002, x584000, x584001 => if x6 < 4 then ((impl_Step.f k x583000 x583001 x583002 x584000 (Int.tmod (wrap64 (x584001 + x6)) 4)).bind fun t585 => (if t585 ≥ 0 then (if 0 ≤ x6 then (impl_PatternAt.l0 k (Go.bits .or .i64 x5 (shl .i64 1 x6)) (wrap64 (x6 + 1)) x583000 x583001 x583002 x584000 x584001) else (none)) else (impl_PatternAt.l0 k x5 (wrap64 (x6 + 1)) x583000 x583001 x583002 x584000 x584001))) else (some x5)
def impl_PatternAt.f (k : Nat) (a0_0 : Int) (a0_1 : Int) (a0_2 : Int) (a1_0 : Int) (a1_1 : Int) : Option (Int) := (impl_WalkerOk.f a0_0 a0_1 a0_2 a1_0 a1_1).bind fun t584 => (if t584 = true then (impl_PatternAt.l0 k 0 0 a0_0 a0_1 a0_2 a1_0 a1_1) else (some (-1)))
theorem impl_PatternAt.mono_l : ∀ k, (∀ y0 y1 y2 y3 y4 y5 y6, LeO (impl_PatternAt.l0 k y0 y1 y2 y3 y4 y5 y6) (impl_PatternAt.l0 (k + 1) y0 y1 y2 y3 y4 y5 y6))
  | 0 => fun _ _ _ _ _ _ _ r h => by simp [impl_PatternAt.l0] at h
  | k + 1 => by
    have ih0 := impl_PatternAt.mono_l k
    · intro y0 y1 y2 y3 y4 y5 y6
      unfold impl_PatternAt.l0
      repeat' first
      | (with_reducible exact ih0 _ _ _ _ _ _ _)
      | (with_reducible exact impl_Step.mono _ _ _ _ _ _)
      | (with_reducible exact LeO.refl _)
      | (with_reducible exact LeO.none _)
      | (with_reducible refine LeO.ite ?_ ?_)
      | (with_reducible refine LeO.bind ?_ (fun _ => ?_))
      | exact ih0 _ _ _ _ _ _ _
      | exact impl_Step.mono _ _ _ _ _ _
      | exact LeO.none _
      | refine LeO.ite ?_ ?_
      | refine LeO.bind ?_ (fun _ => ?_)
theorem impl_PatternAt.mono : ∀ a0 a1 a2 a3 a4 k, LeO (impl_PatternAt.f k a0 a1 a2 a3 a4) (impl_PatternAt.f (k + 1) a0 a1 a2 a3 a4) := by
  intro a0 a1 a2 a3 a4 k
  have ih0 := impl_PatternAt.mono_l k
  unfold impl_PatternAt.f
  repeat' first
      | (with_reducible exact ih0 _ _ _ _ _ _ _)
      | (with_reducible exact impl_Step.mono _ _ _ _ _ _)
      | (with_reducible exact LeO.refl _)
      | (with_reducible exact LeO.none _)
      | (with_reducible refine LeO.ite ?_ ?_)
      | (with_reducible refine LeO.bind ?_ (fun _ => ?_))
      | exact ih0 _ _ _ _ _ _ _
      | exact impl_Step.mono _ _ _ _ _ _
      | exact LeO.none _
      | refine LeO.ite ?_ ?_
      | refine LeO.bind ?_ (fun _ => ?_)
def laws_FnExactPatternAt.f (k : Nat) (a0_0 : Int) (a0_1 : Int) (a0_2 : Int) (a1_0 : Int) (a1_1 : Int) : Option (Bool) := (laws_toMaze.f a0_0 a0_1 a0_2).bind fun bt588 => ((laws_toWalker.f a1_0 a1_1).bind fun bt591 => ((spec_PatternAt.f k bt588.1 bt588.2.1 bt588.2.2 bt591.1 bt591.2).bind fun t593 => ((laws_toMaze.f a0_0 a0_1 a0_2).bind fun bt594 => ((laws_toWalker.f a1_0 a1_1).bind fun bt597 => ((impl_PatternAt.f k bt594.1 bt594.2.1 bt594.2.2 bt597.1 bt597.2).bind fun t599 => (if t599 = t593 then (some true) else (some false)))))))
theorem laws_FnExactPatternAt.mono : ∀ a0 a1 a2 a3 a4 k, LeO (laws_FnExactPatternAt.f k a0 a1 a2 a3 a4) (laws_FnExactPatternAt.f (k + 1) a0 a1 a2 a3 a4) := by
  intro a0 a1 a2 a3 a4 k
  unfold laws_FnExactPatternAt.f
  repeat' first
      | (with_reducible exact impl_PatternAt.mono _ _ _ _ _ _)
      | (with_reducible exact spec_PatternAt.mono _ _ _ _ _ _)
      | (with_reducible exact LeO.refl _)
      | (with_reducible exact LeO.none _)
      | (with_reducible refine LeO.ite ?_ ?_)
      | (with_reducible refine LeO.bind ?_ (fun _ => ?_))
      | exact impl_PatternAt.mono _ _ _ _ _ _
      | exact spec_PatternAt.mono _ _ _ _ _ _
      | exact LeO.none _
      | refine LeO.ite ?_ ?_
      | refine LeO.bind ?_ (fun _ => ?_)
end Go.Proofs.Ytiiflckblilhiaa.F
