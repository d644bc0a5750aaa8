/- Written by a program of the session (wip/tools/mk.py): functions of the program as plain Lean. -/
import Derived.Test.YtiiflckblilhiaaD
import Derived.Test.YtiiflckblilhiaaDx250f53
import Derived.Test.YtiiflckblilhiaaDx538800
namespace Go.Proofs.Ytiiflckblilhiaa.F
open Go.RowKit Go.Proofs.YtiiflckblilhiaaW.PrintWords Go.Proofs.YtiiflckblilhiaaW.PrintLast Go.Proofs.YtiiflckblilhiaaW.PrintMore
set_option linter.unusedVariables false
set_option linter.unusedSimpArgs false
def spec_l37Gaps.l0 : Nat → List Int → Int → Int → Int → Int → Option (Bool)
  | 0, _, _, _, _, _ => none
  | k + 1, x1, x5, x281000, x281001, x281002 => if x5 < (x1.length : Int) then (if 0 ≤ x5 then ((spec_CountGaps.f x281000 x281001).bind fun t283 => ((spec_l01In.f (rd x1 x5) 0 (wrap64 (t283 - 1))).bind fun t284 => (if t284 = true then (spec_l37Gaps.l0 k x1 (wrap64 (x5 + 1)) x281000 x281001 x281002) else (some false)))) else (none)) else ((spec_MazeOk.f x281000 x281001 x281002).bind fun t281 => (if t281 = true then (some (decide ((x1.length : Int) ≤ 100))) else (some false)))
def spec_l37Gaps.f (k : Nat) (a0_0 : Int) (a0_1 : Int) (a0_2 : Int) (l1 : List Int) : Option (Bool) := spec_l37Gaps.l0 k l1 0 a0_0 a0_1 a0_2
theorem spec_l37Gaps.mono_l : ∀ k, (∀ y0 y1 y2 y3 y4, LeO (spec_l37Gaps.l0 k y0 y1 y2 y3 y4) (spec_l37Gaps.l0 (k + 1) y0 y1 y2 y3 y4))
  | 0 => fun _ _ _ _ _ r h => by simp [spec_l37Gaps.l0] at h
  | k + 1 => by
    have ih0 := spec_l37Gaps.mono_l k
    · intro y0 y1 y2 y3 y4
      unfold spec_l37Gaps.l0
      repeat' first
      | (with_reducible exact ih0 _ _ _ _ _)
      | (with_reducible exact LeO.refl _)
      | (with_reducible exact LeO.none _)
      | (with_reducible refine LeO.ite ?_ ?_)
      | (with_reducible refine LeO.bind ?_ (fun _ => ?_))
      | exact ih0 _ _ _ _ _
      | exact LeO.none _
      | refine LeO.ite ?_ ?_
      | refine LeO.bind ?_ (fun _ => ?_)
theorem spec_l37Gaps.mono : ∀ a0 a1 a2 a3 k, LeO (spec_l37Gaps.f k a0 a1 a2 a3) (spec_l37Gaps.f (k + 1) a0 a1 a2 a3) := by
  intro a0 a1 a2 a3 k
  have ih0 := spec_l37Gaps.mono_l k
  unfold spec_l37Gaps.f
  repeat' first
      | (with_reducible exact ih0 _ _ _ _ _)
      | (with_reducible exact LeO.refl _)
      | (with_reducible exact LeO.none _)
      | (with_reducible refine LeO.ite ?_ ?_)
      | (with_reducible refine LeO.bind ?_ (fun _ => ?_))
      | exact ih0 _ _ _ _ _
      | exact LeO.none _
      | refine LeO.ite ?_ ?_
      | refine LeO.bind ?_ (fun _ => ?_)
def laws_toIntS.l0 : Nat → List Int → List Int → Int → Option (List Int)
  | 0, _, _, _ => none
  | k + 1, x0, x3, x4 => if x4 < (x0.length : Int) then (if 0 ≤ x4 then (if x4 < (x3.length : Int) then (laws_toIntS.l0 k x0 (x3.set (x4 : Int).toNat (rd x0 x4)) (wrap64 (x4 + 1))) else (none)) else (none)) else (some x3)
def laws_toIntS.f (k : Nat) (l0 : List Int) : Option (List Int) := if 0 ≤ (l0.length : Int) then (if ((l0.length : Int) : Int).toNat ≤ 35184372088832 then (laws_toIntS.l0 k l0 (List.replicate ((l0.length : Int) : Int).toNat 0) 0) else (none)) else (none)
theorem laws_toIntS.mono_l : ∀ k, (∀ y0 y1 y2, LeO (laws_toIntS.l0 k y0 y1 y2) (laws_toIntS.l0 (k + 1) y0 y1 y2))
  | 0 => fun _ _ _ r h => by simp [laws_toIntS.l0] at h
  | k + 1 => by
    have ih0 := laws_toIntS.mono_l k
    · intro y0 y1 y2
      unfold laws_toIntS.l0
      repeat' first
      | (with_reducible exact ih0 _ _ _)
      | (with_reducible exact LeO.refl _)
      | (with_reducible exact LeO.none _)
      | (with_reducible refine LeO.ite ?_ ?_)
      | (with_reducible refine LeO.bind ?_ (fun _ => ?_))
      | exact ih0 _ _ _
      | exact LeO.none _
      | refine LeO.ite ?_ ?_
      | refine LeO.bind ?_ (fun _ => ?_)
theorem laws_toIntS.mono : ∀ a0 k, LeO (laws_toIntS.f k a0) (laws_toIntS.f (k + 1) a0) := by
  intro a0 k
  have ih0 := laws_toIntS.mono_l k
  unfold laws_toIntS.f
  repeat' first
      | (with_reducible exact ih0 _ _ _)
      | (with_reducible exact LeO.refl _)
      | (with_reducible exact LeO.none _)
      | (with_reducible refine LeO.ite ?_ ?_)
      | (with_reducible refine LeO.bind ?_ (fun _ => ?_))
      | exact ih0 _ _ _
      | exact LeO.none _
      | refine LeO.ite ?_ ?_
      | refine LeO.bind ?_ (fun _ => ?_)
def impl_isGap.f (a0_0 : Int) (a0_1 : Int) (a1 : Int) : Option (Bool) := if a1 ≥ 0 then ((impl_CountGaps.f a0_0 a0_1).bind fun t295 => (some (decide (a1 < t295)))) else (some false)
def impl_areGaps.f (a0_0 a0_1 : Int) (l1 : List Int) : Option Bool := (impl_GridOk.f a0_0 a0_1).bind fun b => if b = true then (if l1.length ≤ 100 then allO (fun x => impl_isGap.f a0_0 a0_1 x) l1 else some false) else some false
def impl_with.f (a0_0 : Int) (a0_1 : Int) (a0_2 : Int) (a1 : Int) (a2 : Bool) : Option (Int × Int × Int) := if 0 ≤ a1 then (if a2 = true then (some (a0_0, a0_1, Go.bits .or .i64 (Go.bits .andNot .i64 a0_2 (shl .i64 1 a1)) (shl .i64 1 a1))) else (some (a0_0, a0_1, Go.bits .andNot .i64 a0_2 (shl .i64 1 a1)))) else (none)
def impl_changed.f (a0_0 : Int) (a0_1 : Int) (a0_2 : Int) (a1 : Int) : Option (Int × Int × Int) := (impl_isOpen.f a0_0 a0_1 a0_2 a1).bind fun t301 => ((impl_with.f a0_0 a0_1 a0_2 a1 (!t301)).bind fun bt302 => (some (bt302.1, bt302.2.1, bt302.2.2)))
mutual
def impl_Rebuilt.j0 : Nat → List Int → Bool → Int → Int → Int → Option (Int × Int × Int × Bool)
  | 0, _, _, _, _, _ => none
  | k + 1, x1, x17, x306000, x306001, x306002 => if x17 = true then (some (x306000, x306001, x306002, false)) else (impl_Rebuilt.l0 k x1 (x1.length : Int) 0 x306000 x306001 x306002)
def impl_Rebuilt.l0 : Nat → List Int → Int → Int → Int → Int → Int → Option (Int × Int × Int × Bool)
  | 0, _, _, _, _, _, _ => none
  | k + 1, x19, x20, x21, x306000, x306001, x306002 => if x21 < x20 then (if 0 ≤ x21 then (if x21 < (x19.length : Int) then ((impl_changed.f x306000 x306001 x306002 (rd x19 x21)).bind fun bt310 => (impl_Rebuilt.l0 k x19 x20 (wrap64 (x21 + 1)) bt310.1 bt310.2.1 bt310.2.2)) else (none)) else (none)) else (some (x306000, x306001, x306002, true))
end
def impl_Rebuilt.f (k : Nat) (a0_0 : Int) (a0_1 : Int) (a0_2 : Int) (l1 : List Int) : Option (Int × Int × Int × Bool) := (impl_MazeOk.f a0_0 a0_1 a0_2).bind fun t307 => (if t307 = true then ((impl_areGaps.f a0_0 a0_1 l1).bind fun t308 => (impl_Rebuilt.j0 k l1 (!t308) a0_0 a0_1 a0_2)) else (impl_Rebuilt.j0 k l1 true a0_0 a0_1 a0_2))
theorem impl_Rebuilt.mono_l : ∀ k, (∀ y0 y1 y2 y3 y4, LeO (impl_Rebuilt.j0 k y0 y1 y2 y3 y4) (impl_Rebuilt.j0 (k + 1) y0 y1 y2 y3 y4)) ∧ (∀ y0 y1 y2 y3 y4 y5, LeO (impl_Rebuilt.l0 k y0 y1 y2 y3 y4 y5) (impl_Rebuilt.l0 (k + 1) y0 y1 y2 y3 y4 y5))
  | 0 => ⟨fun _ _ _ _ _ r h => by simp [impl_Rebuilt.j0] at h, fun _ _ _ _ _ _ r h => by simp [impl_Rebuilt.l0] at h⟩
  | k + 1 => by
    obtain ⟨ih0, ih1⟩ := impl_Rebuilt.mono_l k
    refine ⟨?_, ?_⟩
    · intro y0 y1 y2 y3 y4
      unfold impl_Rebuilt.j0
      repeat' first
      | (with_reducible exact ih0 _ _ _ _ _)
      | (with_reducible exact ih1 _ _ _ _ _ _)
      | (with_reducible exact LeO.refl _)
      | (with_reducible exact LeO.none _)
      | (with_reducible refine LeO.ite ?_ ?_)
      | (with_reducible refine LeO.bind ?_ (fun _ => ?_))
      | exact ih0 _ _ _ _ _
      | exact ih1 _ _ _ _ _ _
      | exact LeO.none _
      | refine LeO.ite ?_ ?_
      | refine LeO.bind ?_ (fun _ => ?_)
    · intro y0 y1 y2 y3 y4 y5
      unfold impl_Rebuilt.l0
      repeat' first
      | (with_reducible exact ih0 _ _ _ _ _)
      | (with_reducible exact ih1 _ _ _ _ _ _)
      | (with_reducible exact LeO.refl _)
      | (with_reducible exact LeO.none _)
      | (with_reducible refine LeO.ite ?_ ?_)
      | (with_reducible refine LeO.bind ?_ (fun _ => ?_))
      | exact ih0 _ _ _ _ _
      | exact ih1 _ _ _ _ _ _
      | exact LeO.none _
      | refine LeO.ite ?_ ?_
      | refine LeO.bind ?_ (fun _ => ?_)
theorem impl_Rebuilt.mono : ∀ a0 a1 a2 a3 k, LeO (impl_Rebuilt.f k a0 a1 a2 a3) (impl_Rebuilt.f (k + 1) a0 a1 a2 a3) := by
  intro a0 a1 a2 a3 k
  obtain ⟨ih0, ih1⟩ := impl_Rebuilt.mono_l k
  unfold impl_Rebuilt.f
  repeat' first
      | (with_reducible exact ih0 _ _ _ _ _)
      | (with_reducible exact ih1 _ _ _ _ _ _)
      | (with_reducible exact LeO.refl _)
      | (with_reducible exact LeO.none _)
      | (with_reducible refine LeO.ite ?_ ?_)
      | (with_reducible refine LeO.bind ?_ (fun _ => ?_))
      | exact ih0 _ _ _ _ _
      | exact ih1 _ _ _ _ _ _
      | exact LeO.none _
      | refine LeO.ite ?_ ?_
      | refine LeO.bind ?_ (fun _ => ?_)
end Go.Proofs.Ytiiflckblilhiaa.F
