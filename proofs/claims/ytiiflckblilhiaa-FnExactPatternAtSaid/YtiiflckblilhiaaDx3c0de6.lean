/- Written by a program of the session (wip/tools/mk.py): functions of the program as plain Lean. -/
import Derived.Test.YtiiflckblilhiaaD
import Derived.Test.YtiiflckblilhiaaDx3ded7d
import Derived.Test.YtiiflckblilhiaaDx538800
namespace Go.Proofs.Ytiiflckblilhiaa.F
open Go.RowKit Go.Proofs.YtiiflckblilhiaaW.PrintWords Go.Proofs.YtiiflckblilhiaaW.PrintLast Go.Proofs.YtiiflckblilhiaaW.PrintMore
set_option linter.unusedVariables false
set_option linter.unusedSimpArgs false
def spec_WalkerOk.f (a0_0 : Int) (a0_1 : Int) (a0_2 : Int) (a1_0 : Int) (a1_1 : Int) : Option (Bool) := (spec_l04Has.f a0_0 a0_1 a0_2 a1_0).bind fun t628 => (if t628 = true then ((spec_l01In.f a1_1 0 3).bind fun t629 => (some t629)) else (some false))
def spec_PatternAt.l0 : Nat → Int → Int → Int → Int → Int → Int → Int → Option (Int)
  | 0, _, _, _, _, _, _, _ => none
  | k + 1, x5, x6, x631000, x631001, x631002, x632000, x632001 => if x6 < 4 then ((spec_Step.f k x631000 x631001 x631002 x632000 (Int.tmod (wrap64 (x632001 + x6)) 4)).bind fun t633 => (if t633 ≥ 0 then (if 0 ≤ x6 then (spec_PatternAt.l0 k (Go.bits .or .i64 x5 (shl .i64 1 x6)) (wrap64 (x6 + 1)) x631000 x631001 x631002 x632000 x632001) else (none)) else (spec_PatternAt.l0 k x5 (wrap64 (x6 + 1)) x631000 x631001 x631002 x632000 x632001))) else (some x5)
def spec_PatternAt.f (k : Nat) (a0_0 : Int) (a0_1 : Int) (a0_2 : Int) (a1_0 : Int) (a1_1 : Int) : Option (Int) := (spec_WalkerOk.f a0_0 a0_1 a0_2 a1_0 a1_1).bind fun t632 => (if t632 = true then (spec_PatternAt.l0 k 0 0 a0_0 a0_1 a0_2 a1_0 a1_1) else (some (-1)))
theorem spec_PatternAt.mono_l : ∀ k, (∀ y0 y1 y2 y3 y4 y5 y6, LeO (spec_PatternAt.l0 k y0 y1 y2 y3 y4 y5 y6) (spec_PatternAt.l0 (k + 1) y0 y1 y2 y3 y4 y5 y6))
  | 0 => fun _ _ _ _ _ _ _ r h => by simp [spec_PatternAt.l0] at h
  | k + 1 => by
    have ih0 := spec_PatternAt.mono_l k
    · intro y0 y1 y2 y3 y4 y5 y6
      unfold spec_PatternAt.l0
      repeat' first
      | (with_reducible exact ih0 _ _ _ _ _ _ _)
      | (with_reducible exact spec_Step.mono _ _ _ _ _ _)
      | (with_reducible exact LeO.refl _)
      | (with_reducible exact LeO.none _)
      | (with_reducible refine LeO.ite ?_ ?_)
      | (with_reducible refine LeO.bind ?_ (fun _ => ?_))
      | exact ih0 _ _ _ _ _ _ _
      | exact spec_Step.mono _ _ _ _ _ _
      | exact LeO.none _
      | refine LeO.ite ?_ ?_
      | refine LeO.bind ?_ (fun _ => ?_)
theorem spec_PatternAt.mono : ∀ a0 a1 a2 a3 a4 k, LeO (spec_PatternAt.f k a0 a1 a2 a3 a4) (spec_PatternAt.f (k + 1) a0 a1 a2 a3 a4) := by
  intro a0 a1 a2 a3 a4 k
  have ih0 := spec_PatternAt.mono_l k
  unfold spec_PatternAt.f
  repeat' first
      | (with_reducible exact ih0 _ _ _ _ _ _ _)
      | (with_reducible exact spec_Step.mono _ _ _ _ _ _)
      | (with_reducible exact LeO.refl _)
      | (with_reducible exact LeO.none _)
      | (with_reducible refine LeO.ite ?_ ?_)
      | (with_reducible refine LeO.bind ?_ (fun _ => ?_))
      | exact ih0 _ _ _ _ _ _ _
      | exact spec_Step.mono _ _ _ _ _ _
      | exact LeO.none _
      | refine LeO.ite ?_ ?_
      | refine LeO.bind ?_ (fun _ => ?_)
def laws_toWalker.f (a0_0 : Int) (a0_1 : Int) : Option (Int × Int) := some (a0_0, a0_1)
def impl_WalkerOk.f (a0_0 : Int) (a0_1 : Int) (a0_2 : Int) (a1_0 : Int) (a1_1 : Int) : Option (Bool) := (impl_isIn.f a0_0 a0_1 a0_2 (([a1_0] : List Int))).bind fun t642 => (if t642 = true then ((impl_isDirection.f a1_1).bind fun t643 => (some t643)) else (some false))
def impl_PatternAt.l0 : Nat → Int → Int → Int → Int → Int → Int → Int → Option (Int)
  | 0, _, _, _, _, _, _, _ => none
  | k + 1, x5, x6, x645000, x645001, x645002, x646000, x646001 => if x6 < 4 then ((impl_Step.f k x645000 x645001 x645002 x646000 (Int.tmod (wrap64 (x646001 + x6)) 4)).bind fun t647 => (if t647 ≥ 0 then (if 0 ≤ x6 then (impl_PatternAt.l0 k (Go.bits .or .i64 x5 (shl .i64 1 x6)) (wrap64 (x6 + 1)) x645000 x645001 x645002 x646000 x646001) else (none)) else (impl_PatternAt.l0 k x5 (wrap64 (x6 + 1)) x645000 x645001 x645002 x646000 x646001))) else (some x5)
def impl_PatternAt.f (k : Nat) (a0_0 : Int) (a0_1 : Int) (a0_2 : Int) (a1_0 : Int) (a1_1 : Int) : Option (Int) := (impl_WalkerOk.f a0_0 a0_1 a0_2 a1_0 a1_1).bind fun t646 => (if t646 = true then (impl_PatternAt.l0 k 0 0 a0_0 a0_1 a0_2 a1_0 a1_1) else (some (-1)))
theorem impl_PatternAt.mono_l : ∀ k, (∀ y0 y1 y2 y3 y4 y5 y6, LeO (impl_PatternAt.l0 k y0 y1 y2 y3 y4 y5 y6) (impl_PatternAt.l0 (k + 1) y0 y1 y2 y3 y4 y5 y6))
  | 0 => fun _ _ _ _ _ _ _ r h => by simp [impl_PatternAt.l0] at h
  | k + 1 => by
    have ih0 := impl_PatternAt.mono_l k
    · intro y0 y1 y2 y3 y4 y5 y6
      unfold impl_PatternAt.l0
      repeat' first
      | (with_reducible exact ih0 _ _ _ _ _ _ _)
      | (with_reducible exact impl_Step.mono _ _ _ _ _ _)
      | (with_reducible exact LeO.refl _)
      | (with_reducible exact LeO.none _)
      | (with_reducible refine LeO.ite ?_ ?_)
      | (with_reducible refine LeO.bind ?_ (fun _ => ?_))
      | exact ih0 _ _ _ _ _ _ _
      | exact impl_Step.mono _ _ _ _ _ _
      | exact LeO.none _
      | refine LeO.ite ?_ ?_
      | refine LeO.bind ?_ (fun _ => ?_)
theorem impl_PatternAt.mono : ∀ a0 a1 a2 a3 a4 k, LeO (impl_PatternAt.f k a0 a1 a2 a3 a4) (impl_PatternAt.f (k + 1) a0 a1 a2 a3 a4) := by
  intro a0 a1 a2 a3 a4 k
  have ih0 := impl_PatternAt.mono_l k
  unfold impl_PatternAt.f
  repeat' first
      | (with_reducible exact ih0 _ _ _ _ _ _ _)
      | (with_reducible exact impl_Step.mono _ _ _ _ _ _)
      | (with_reducible exact LeO.refl _)
      | (with_reducible exact LeO.none _)
      | (with_reducible refine LeO.ite ?_ ?_)
      | (with_reducible refine LeO.bind ?_ (fun _ => ?_))
      | exact ih0 _ _ _ _ _ _ _
      | exact impl_Step.mono _ _ _ _ _ _
      | exact LeO.none _
      | refine LeO.ite ?_ ?_
      | refine LeO.bind ?_ (fun _ => ?_)
end Go.Proofs.Ytiiflckblilhiaa.F
