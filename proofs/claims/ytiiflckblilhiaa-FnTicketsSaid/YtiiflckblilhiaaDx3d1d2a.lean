/- Written by a program of the session (wip/tools/mk.py): functions of the program as plain Lean. -/
import Derived.Test.YtiiflckblilhiaaD
import Derived.Test.YtiiflckblilhiaaDx0ae7e7
import Derived.Test.YtiiflckblilhiaaDx46d74b
namespace Go.Proofs.Ytiiflckblilhiaa.F
open Go.RowKit Go.Proofs.YtiiflckblilhiaaW.PrintWords Go.Proofs.YtiiflckblilhiaaW.PrintLast Go.Proofs.YtiiflckblilhiaaW.PrintMore
set_option linter.unusedVariables false
set_option linter.unusedSimpArgs false
mutual
def spec_MostInside.l0 : Nat → List (STicket) → Int → Int → Int → Option (Int × Int)
  | 0, _, _, _, _ => none
  | k + 1, x0, x4, x5, x6 => if x6 < (x0.length : Int) then ((spec_l35Ok.f k x0).bind fun t251 => (if t251 = true then (spec_MostInside.j1 k x0 x4 x5 x6 (decide ((x0.length : Int) ≤ 40))) else (spec_MostInside.j1 k x0 x4 x5 x6 false))) else (spec_MostInside.j1 k x0 x4 x5 x6 false)
def spec_MostInside.j1 : Nat → List (STicket) → Int → Int → Int → Bool → Option (Int × Int)
  | 0, _, _, _, _, _ => none
  | k + 1, x0, x4, x5, x6, x20 => if x20 = true then (if 0 ≤ x6 then (if x6 < (x0.length : Int) then ((spec_InsideAt.f k x0 ((rd_Ticket x0 x6).f0)).bind fun t253 => (if t253 > x4 then (spec_MostInside.l0 k x0 t253 ((rd_Ticket x0 x6).f0) (wrap64 (x6 + 1))) else (if t253 = x4 then (if ((rd_Ticket x0 x6).f0) < x5 then (spec_MostInside.l0 k x0 t253 ((rd_Ticket x0 x6).f0) (wrap64 (x6 + 1))) else (spec_MostInside.l0 k x0 x4 x5 (wrap64 (x6 + 1)))) else (spec_MostInside.l0 k x0 x4 x5 (wrap64 (x6 + 1)))))) else (none)) else (none)) else (some (x4, x5))
end
def spec_MostInside.f (k : Nat) (l0 : List (STicket)) : Option (Int × Int) := spec_MostInside.l0 k l0 0 0 0
theorem spec_MostInside.mono_l : ∀ k, (∀ y0 y1 y2 y3, LeO (spec_MostInside.l0 k y0 y1 y2 y3) (spec_MostInside.l0 (k + 1) y0 y1 y2 y3)) ∧ (∀ y0 y1 y2 y3 y4, LeO (spec_MostInside.j1 k y0 y1 y2 y3 y4) (spec_MostInside.j1 (k + 1) y0 y1 y2 y3 y4))
  | 0 => ⟨fun _ _ _ _ r h => by simp [spec_MostInside.l0] at h, fun _ _ _ _ _ r h => by simp [spec_MostInside.j1] at h⟩
  | k + 1 => by
    obtain ⟨ih0, ih1⟩ := spec_MostInside.mono_l k
    refine ⟨?_, ?_⟩
    · intro y0 y1 y2 y3
      unfold spec_MostInside.l0
      repeat' first
      | (with_reducible exact ih0 _ _ _ _)
      | (with_reducible exact ih1 _ _ _ _ _)
      | (with_reducible exact spec_InsideAt.mono _ _ _)
      | (with_reducible exact spec_l35Ok.mono _ _)
      | (with_reducible exact LeO.refl _)
      | (with_reducible exact LeO.none _)
      | (with_reducible refine LeO.ite ?_ ?_)
      | (with_reducible refine LeO.bind ?_ (fun _ => ?_))
      | exact ih0 _ _ _ _
      | exact ih1 _ _ _ _ _
      | exact spec_InsideAt.mono _ _ _
      | exact spec_l35Ok.mono _ _
      | exact LeO.none _
      | refine LeO.ite ?_ ?_
      | refine LeO.bind ?_ (fun _ => ?_)
    · intro y0 y1 y2 y3 y4
      unfold spec_MostInside.j1
      repeat' first
      | (with_reducible exact ih0 _ _ _ _)
      | (with_reducible exact ih1 _ _ _ _ _)
      | (with_reducible exact spec_InsideAt.mono _ _ _)
      | (with_reducible exact spec_l35Ok.mono _ _)
      | (with_reducible exact LeO.refl _)
      | (with_reducible exact LeO.none _)
      | (with_reducible refine LeO.ite ?_ ?_)
      | (with_reducible refine LeO.bind ?_ (fun _ => ?_))
      | exact ih0 _ _ _ _
      | exact ih1 _ _ _ _ _
      | exact spec_InsideAt.mono _ _ _
      | exact spec_l35Ok.mono _ _
      | exact LeO.none _
      | refine LeO.ite ?_ ?_
      | refine LeO.bind ?_ (fun _ => ?_)
theorem spec_MostInside.mono : ∀ a0 k, LeO (spec_MostInside.f k a0) (spec_MostInside.f (k + 1) a0) := by
  intro a0 k
  obtain ⟨ih0, ih1⟩ := spec_MostInside.mono_l k
  unfold spec_MostInside.f
  repeat' first
      | (with_reducible exact ih0 _ _ _ _)
      | (with_reducible exact ih1 _ _ _ _ _)
      | (with_reducible exact spec_InsideAt.mono _ _ _)
      | (with_reducible exact spec_l35Ok.mono _ _)
      | (with_reducible exact LeO.refl _)
      | (with_reducible exact LeO.none _)
      | (with_reducible refine LeO.ite ?_ ?_)
      | (with_reducible refine LeO.bind ?_ (fun _ => ?_))
      | exact ih0 _ _ _ _
      | exact ih1 _ _ _ _ _
      | exact spec_InsideAt.mono _ _ _
      | exact spec_l35Ok.mono _ _
      | exact LeO.none _
      | refine LeO.ite ?_ ?_
      | refine LeO.bind ?_ (fun _ => ?_)
def spec_FewestRooms.f (k : Nat) (l0 : List (STicket)) : Option (Int) := (spec_MostInside.f k l0).bind fun bt346 => (some bt346.1)
theorem spec_FewestRooms.mono : ∀ a0 k, LeO (spec_FewestRooms.f k a0) (spec_FewestRooms.f (k + 1) a0) := by
  intro a0 k
  unfold spec_FewestRooms.f
  repeat' first
      | (with_reducible exact spec_MostInside.mono _ _)
      | (with_reducible exact LeO.refl _)
      | (with_reducible exact LeO.none _)
      | (with_reducible refine LeO.ite ?_ ?_)
      | (with_reducible refine LeO.bind ?_ (fun _ => ?_))
      | exact spec_MostInside.mono _ _
      | exact LeO.none _
      | refine LeO.ite ?_ ?_
      | refine LeO.bind ?_ (fun _ => ?_)
end Go.Proofs.Ytiiflckblilhiaa.F
