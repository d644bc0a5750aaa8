/- Written by a program of the session (wip/tools/mk.py): functions of the program as plain Lean. -/
import Derived.Test.YtiiflckblilhiaaD
namespace Go.Proofs.Ytiiflckblilhiaa.F
open Go.RowKit Go.Proofs.YtiiflckblilhiaaW.PrintWords Go.Proofs.YtiiflckblilhiaaW.PrintLast Go.Proofs.YtiiflckblilhiaaW.PrintMore
set_option linter.unusedVariables false
set_option linter.unusedSimpArgs false
def impl_InsideAt.l0 : Nat → Int → Int → List (STicket) → Int → Int → Option (Int)
  | 0, _, _, _, _, _ => none
  | k + 1, x1, x5, x8, x9, x10 => if x10 < x9 then (if 0 ≤ x10 then (if x10 < (x8.length : Int) then (if ((rd_Ticket x8 x10).f0) ≤ x1 then (if x1 < ((rd_Ticket x8 x10).f1) then (impl_InsideAt.l0 k x1 (wrap64 (x5 + 1)) x8 x9 (wrap64 (x10 + 1))) else (impl_InsideAt.l0 k x1 x5 x8 x9 (wrap64 (x10 + 1)))) else (impl_InsideAt.l0 k x1 x5 x8 x9 (wrap64 (x10 + 1)))) else (none)) else (none)) else (some x5)
def impl_InsideAt.f (k : Nat) (l0 : List (STicket)) (a1 : Int) : Option (Int) := impl_InsideAt.l0 k a1 0 l0 (l0.length : Int) 0
theorem impl_InsideAt.mono_l : ∀ k, (∀ y0 y1 y2 y3 y4, LeO (impl_InsideAt.l0 k y0 y1 y2 y3 y4) (impl_InsideAt.l0 (k + 1) y0 y1 y2 y3 y4))
  | 0 => fun _ _ _ _ _ r h => by simp [impl_InsideAt.l0] at h
  | k + 1 => by
    have ih0 := impl_InsideAt.mono_l k
    · intro y0 y1 y2 y3 y4
      unfold impl_InsideAt.l0
      repeat' first
      | (with_reducible exact ih0 _ _ _ _ _)
      | (with_reducible exact LeO.refl _)
      | (with_reducible exact LeO.none _)
      | (with_reducible refine LeO.ite ?_ ?_)
      | (with_reducible refine LeO.bind ?_ (fun _ => ?_))
      | exact ih0 _ _ _ _ _
      | exact LeO.none _
      | refine LeO.ite ?_ ?_
      | refine LeO.bind ?_ (fun _ => ?_)
theorem impl_InsideAt.mono : ∀ a0 a1 k, LeO (impl_InsideAt.f k a0 a1) (impl_InsideAt.f (k + 1) a0 a1) := by
  intro a0 a1 k
  have ih0 := impl_InsideAt.mono_l k
  unfold impl_InsideAt.f
  repeat' first
      | (with_reducible exact ih0 _ _ _ _ _)
      | (with_reducible exact LeO.refl _)
      | (with_reducible exact LeO.none _)
      | (with_reducible refine LeO.ite ?_ ?_)
      | (with_reducible refine LeO.bind ?_ (fun _ => ?_))
      | exact ih0 _ _ _ _ _
      | exact LeO.none _
      | refine LeO.ite ?_ ?_
      | refine LeO.bind ?_ (fun _ => ?_)
end Go.Proofs.Ytiiflckblilhiaa.F
