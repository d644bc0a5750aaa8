/- Written by a program of the session (wip/tools/mk.py): functions of the program as plain Lean. -/
import Derived.Test.YtiiflckblilhiaaD
import Derived.Test.YtiiflckblilhiaaDx0ae7e7
import Derived.Test.YtiiflckblilhiaaDx46d74b
namespace Go.Proofs.Ytiiflckblilhiaa.F
open Go.RowKit Go.Proofs.YtiiflckblilhiaaW.PrintWords Go.Proofs.YtiiflckblilhiaaW.PrintLast Go.Proofs.YtiiflckblilhiaaW.PrintMore
set_option linter.unusedVariables false
set_option linter.unusedSimpArgs false
def spec_l35Most.l0 : Nat → List (STicket) → Int → Int → Option (Int)
  | 0, _, _, _ => none
  | k + 1, x0, x3, x4 => if x4 < (x0.length : Int) then (if 0 ≤ x4 then ((spec_InsideAt.f k x0 ((rd_Ticket x0 x4).f0)).bind fun t364 => (spec_l35Most.l0 k x0 (mx x3 t364) (wrap64 (x4 + 1)))) else (none)) else (some x3)
def spec_l35Most.f (k : Nat) (l0 : List (STicket)) : Option (Int) := spec_l35Most.l0 k l0 0 0
theorem spec_l35Most.mono_l : ∀ k, (∀ y0 y1 y2, LeO (spec_l35Most.l0 k y0 y1 y2) (spec_l35Most.l0 (k + 1) y0 y1 y2))
  | 0 => fun _ _ _ r h => by simp [spec_l35Most.l0] at h
  | k + 1 => by
    have ih0 := spec_l35Most.mono_l k
    · intro y0 y1 y2
      unfold spec_l35Most.l0
      repeat' first
      | (with_reducible exact ih0 _ _ _)
      | (with_reducible exact spec_InsideAt.mono _ _ _)
      | (with_reducible exact LeO.refl _)
      | (with_reducible exact LeO.none _)
      | (with_reducible refine LeO.ite ?_ ?_)
      | (with_reducible refine LeO.bind ?_ (fun _ => ?_))
      | exact ih0 _ _ _
      | exact spec_InsideAt.mono _ _ _
      | exact LeO.none _
      | refine LeO.ite ?_ ?_
      | refine LeO.bind ?_ (fun _ => ?_)
theorem spec_l35Most.mono : ∀ a0 k, LeO (spec_l35Most.f k a0) (spec_l35Most.f (k + 1) a0) := by
  intro a0 k
  have ih0 := spec_l35Most.mono_l k
  unfold spec_l35Most.f
  repeat' first
      | (with_reducible exact ih0 _ _ _)
      | (with_reducible exact spec_InsideAt.mono _ _ _)
      | (with_reducible exact LeO.refl _)
      | (with_reducible exact LeO.none _)
      | (with_reducible refine LeO.ite ?_ ?_)
      | (with_reducible refine LeO.bind ?_ (fun _ => ?_))
      | exact ih0 _ _ _
      | exact spec_InsideAt.mono _ _ _
      | exact LeO.none _
      | refine LeO.ite ?_ ?_
      | refine LeO.bind ?_ (fun _ => ?_)
def spec_CanAdmit.f (k : Nat) (l0 : List (STicket)) (a1_0 : Int) (a1_1 : Int) (a2 : Int) : Option (Bool) := (some (([] : List (STicket)) : List (STicket))).bind fun y366 => (if y366.length + l0.length < 8796093022208 then ((some (y366 ++ l0 : List (STicket))).bind fun y369 => ((some (([(⟨a1_0, a1_1⟩ : STicket)] : List (STicket)) : List (STicket))).bind fun y372 => (if y369.length + y372.length < 8796093022208 then ((some (y369 ++ y372 : List (STicket))).bind fun y375 => ((spec_l35Ok.f k y375).bind fun t378 => (if t378 = true then ((spec_l35Most.f k y375).bind fun t379 => (some (decide (t379 ≤ a2)))) else (some false)))) else (none)))) else (none))
theorem spec_CanAdmit.mono : ∀ a0 a1 a2 a3 k, LeO (spec_CanAdmit.f k a0 a1 a2 a3) (spec_CanAdmit.f (k + 1) a0 a1 a2 a3) := by
  intro a0 a1 a2 a3 k
  unfold spec_CanAdmit.f
  repeat' first
      | (with_reducible exact spec_l35Most.mono _ _)
      | (with_reducible exact spec_l35Ok.mono _ _)
      | (with_reducible exact LeO.refl _)
      | (with_reducible exact LeO.none _)
      | (with_reducible refine LeO.ite ?_ ?_)
      | (with_reducible refine LeO.bind ?_ (fun _ => ?_))
      | exact spec_l35Most.mono _ _
      | exact spec_l35Ok.mono _ _
      | exact LeO.none _
      | refine LeO.ite ?_ ?_
      | refine LeO.bind ?_ (fun _ => ?_)
end Go.Proofs.Ytiiflckblilhiaa.F
