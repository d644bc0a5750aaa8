/- Written by a program of the session (wip/tools/mk.py): functions of the program as plain Lean. -/
import Derived.Test.YtiiflckblilhiaaD
import Derived.Test.YtiiflckblilhiaaDx250f53
import Derived.Test.YtiiflckblilhiaaDx3c0de6
namespace Go.Proofs.Ytiiflckblilhiaa.F
open Go.RowKit Go.Proofs.YtiiflckblilhiaaW.PrintWords Go.Proofs.YtiiflckblilhiaaW.PrintLast Go.Proofs.YtiiflckblilhiaaW.PrintMore
set_option linter.unusedVariables false
set_option linter.unusedSimpArgs false
def laws_FnExactPatternAt.f (k : Nat) (a0_0 : Int) (a0_1 : Int) (a0_2 : Int) (a1_0 : Int) (a1_1 : Int) : Option (Bool) := (laws_toMaze.f a0_0 a0_1 a0_2).bind fun bt650 => ((laws_toWalker.f a1_0 a1_1).bind fun bt653 => ((spec_PatternAt.f k bt650.1 bt650.2.1 bt650.2.2 bt653.1 bt653.2).bind fun t655 => ((laws_toMaze.f a0_0 a0_1 a0_2).bind fun bt656 => ((laws_toWalker.f a1_0 a1_1).bind fun bt659 => ((impl_PatternAt.f k bt656.1 bt656.2.1 bt656.2.2 bt659.1 bt659.2).bind fun t661 => (if t661 = t655 then (some true) else (some false)))))))
theorem laws_FnExactPatternAt.mono : ∀ a0 a1 a2 a3 a4 k, LeO (laws_FnExactPatternAt.f k a0 a1 a2 a3 a4) (laws_FnExactPatternAt.f (k + 1) a0 a1 a2 a3 a4) := by
  intro a0 a1 a2 a3 a4 k
  unfold laws_FnExactPatternAt.f
  repeat' first
      | (with_reducible exact impl_PatternAt.mono _ _ _ _ _ _)
      | (with_reducible exact spec_PatternAt.mono _ _ _ _ _ _)
      | (with_reducible exact LeO.refl _)
      | (with_reducible exact LeO.none _)
      | (with_reducible refine LeO.ite ?_ ?_)
      | (with_reducible refine LeO.bind ?_ (fun _ => ?_))
      | exact impl_PatternAt.mono _ _ _ _ _ _
      | exact spec_PatternAt.mono _ _ _ _ _ _
      | exact LeO.none _
      | refine LeO.ite ?_ ?_
      | refine LeO.bind ?_ (fun _ => ?_)
end Go.Proofs.Ytiiflckblilhiaa.F
