/- Written by a program of the session (wip/tools/mk.py): functions of the program as plain Lean. -/
import Derived.Test.YtiiflckblilhiaaD
import Derived.Test.YtiiflckblilhiaaDx538800
namespace Go.Proofs.Ytiiflckblilhiaa.F
open Go.RowKit Go.Proofs.YtiiflckblilhiaaW.PrintWords Go.Proofs.YtiiflckblilhiaaW.PrintLast Go.Proofs.YtiiflckblilhiaaW.PrintMore
set_option linter.unusedVariables false
set_option linter.unusedSimpArgs false
def spec_ActOk.j0 : Nat → Int → Bool → Int → Int → Int → Option (Bool)
  | 0, _, _, _, _, _ => none
  | k + 1, x4, x5, x116000, x116001, x116002 => if x5 = true then (if x116001 = 0 then (some (x116002 == 0)) else (some false)) else (if x4 = 1 then ((spec_l01In.f x116001 1 20).bind fun t116 => (if t116 = true then (some (x116002 == 0)) else (some false))) else (if x4 = 3 then ((spec_l01In.f x116001 0 5).bind fun t117 => (if t117 = true then ((spec_l01In.f x116002 0 3).bind fun t118 => (some t118)) else (some false))) else (if x4 = 5 then ((spec_l01In.f x116001 0 5).bind fun t119 => (if t119 = true then (some (x116002 == 0)) else (some false))) else (some false))))
def spec_ActOk.f (k : Nat) (a0_0 : Int) (a0_1 : Int) (a0_2 : Int) : Option (Bool) := if a0_0 = 2 then (spec_ActOk.j0 k a0_0 (a0_0 == 2) a0_0 a0_1 a0_2) else (if a0_0 = 4 then (spec_ActOk.j0 k a0_0 (a0_0 == 4) a0_0 a0_1 a0_2) else (spec_ActOk.j0 k a0_0 (a0_0 == 6) a0_0 a0_1 a0_2))
theorem spec_ActOk.mono_l : ∀ k, (∀ y0 y1 y2 y3 y4, LeO (spec_ActOk.j0 k y0 y1 y2 y3 y4) (spec_ActOk.j0 (k + 1) y0 y1 y2 y3 y4))
  | 0 => fun _ _ _ _ _ r h => by simp [spec_ActOk.j0] at h
  | k + 1 => by
    have ih0 := spec_ActOk.mono_l k
    · intro y0 y1 y2 y3 y4
      unfold spec_ActOk.j0
      repeat' first
      | (with_reducible exact ih0 _ _ _ _ _)
      | (with_reducible exact LeO.refl _)
      | (with_reducible exact LeO.none _)
      | (with_reducible refine LeO.ite ?_ ?_)
      | (with_reducible refine LeO.bind ?_ (fun _ => ?_))
      | exact ih0 _ _ _ _ _
      | exact LeO.none _
      | refine LeO.ite ?_ ?_
      | refine LeO.bind ?_ (fun _ => ?_)
theorem spec_ActOk.mono : ∀ a0 a1 a2 k, LeO (spec_ActOk.f k a0 a1 a2) (spec_ActOk.f (k + 1) a0 a1 a2) := by
  intro a0 a1 a2 k
  have ih0 := spec_ActOk.mono_l k
  unfold spec_ActOk.f
  repeat' first
      | (with_reducible exact ih0 _ _ _ _ _)
      | (with_reducible exact LeO.refl _)
      | (with_reducible exact LeO.none _)
      | (with_reducible refine LeO.ite ?_ ?_)
      | (with_reducible refine LeO.bind ?_ (fun _ => ?_))
      | exact ih0 _ _ _ _ _
      | exact LeO.none _
      | refine LeO.ite ?_ ?_
      | refine LeO.bind ?_ (fun _ => ?_)
def laws_toAct.f (a0_0 : Int) (a0_1 : Int) (a0_2 : Int) : Option (Int × Int × Int) := some (a0_0, a0_1, a0_2)
def impl_ActOk.j0 : Nat → Bool → Int → Int → Int → Option (Bool)
  | 0, _, _, _, _ => none
  | k + 1, x3, x124000, x124001, x124002 => if x124000 = 1 then (if x124001 ≥ 1 then (if x124001 ≤ 20 then (some (x124002 == 0)) else (some false)) else (some false)) else (if x124000 = 3 then (if x3 = true then ((impl_isDirection.f x124002).bind fun t124 => (some t124)) else (some false)) else (if x124000 = 5 then (if x3 = true then (some (x124002 == 0)) else (some false)) else (if x124000 = 2 then (if x124001 = 0 then (some (x124002 == 0)) else (some false)) else (if x124000 = 4 then (if x124001 = 0 then (some (x124002 == 0)) else (some false)) else (if x124000 = 6 then (if x124001 = 0 then (some (x124002 == 0)) else (some false)) else (some false))))))
def impl_ActOk.f (k : Nat) (a0_0 : Int) (a0_1 : Int) (a0_2 : Int) : Option (Bool) := if a0_1 ≥ 0 then (impl_ActOk.j0 k (decide (a0_1 < 6)) a0_0 a0_1 a0_2) else (impl_ActOk.j0 k false a0_0 a0_1 a0_2)
theorem impl_ActOk.mono_l : ∀ k, (∀ y0 y1 y2 y3, LeO (impl_ActOk.j0 k y0 y1 y2 y3) (impl_ActOk.j0 (k + 1) y0 y1 y2 y3))
  | 0 => fun _ _ _ _ r h => by simp [impl_ActOk.j0] at h
  | k + 1 => by
    have ih0 := impl_ActOk.mono_l k
    · intro y0 y1 y2 y3
      unfold impl_ActOk.j0
      repeat' first
      | (with_reducible exact ih0 _ _ _ _)
      | (with_reducible exact LeO.refl _)
      | (with_reducible exact LeO.none _)
      | (with_reducible refine LeO.ite ?_ ?_)
      | (with_reducible refine LeO.bind ?_ (fun _ => ?_))
      | exact ih0 _ _ _ _
      | exact LeO.none _
      | refine LeO.ite ?_ ?_
      | refine LeO.bind ?_ (fun _ => ?_)
theorem impl_ActOk.mono : ∀ a0 a1 a2 k, LeO (impl_ActOk.f k a0 a1 a2) (impl_ActOk.f (k + 1) a0 a1 a2) := by
  intro a0 a1 a2 k
  have ih0 := impl_ActOk.mono_l k
  unfold impl_ActOk.f
  repeat' first
      | (with_reducible exact ih0 _ _ _ _)
      | (with_reducible exact LeO.refl _)
      | (with_reducible exact LeO.none _)
      | (with_reducible refine LeO.ite ?_ ?_)
      | (with_reducible refine LeO.bind ?_ (fun _ => ?_))
      | exact ih0 _ _ _ _
      | exact LeO.none _
      | refine LeO.ite ?_ ?_
      | refine LeO.bind ?_ (fun _ => ?_)
end Go.Proofs.Ytiiflckblilhiaa.F
