/- Cells of a maze; walkers; what they see. -/
import Derived.Test.YtiiflckblilhiaaP3
import Derived.Test.YtiiflckblilhiaaPA
import Derived.Test.YtiiflckblilhiaaDx3c0de6
import Derived.Test.YtiiflckblilhiaaDx3ded7d
import Derived.Test.YtiiflckblilhiaaDxc1a4db
namespace Go.Proofs.Ytiiflckblilhiaa.F
open Go.RowKit Go.Proofs.YtiiflckblilhiaaW.PrintWords Go.Proofs.YtiiflckblilhiaaW.PrintLast Go.Proofs.YtiiflckblilhiaaW.PrintMore
set_option linter.unusedVariables false
set_option linter.unusedSimpArgs false

theorem impl_isIn_eq (w h o : Int) (l : List Int) : impl_isIn.f w h o l = some (mok w h o && l.all (icell w h)) := by
  unfold impl_isIn.f
  rw [impl_MazeOk_eq, Option.bind_some, allO_of (p := icell w h) (fun x _ => impl_isCell_eq w h x)]
  cases mok w h o <;> simp
theorem spec_l04Has_eq (w h o c : Int) : spec_l04Has.f w h o c = some (mok w h o && icell w h c) := by
  unfold spec_l04Has.f
  rw [spec_MazeOk_eq, spec_CountCells_eq]
  simp only [Option.bind_some, spec_l01In_eq, in_cells]
  cases mok w h o <;> simp
def wok (w h o c f : Int) : Bool := mok w h o && icell w h c && decide (0 ≤ f ∧ f ≤ 3)
theorem impl_WalkerOk_eq (w h o c f : Int) : impl_WalkerOk.f w h o c f = some (wok w h o c f) := by
  unfold impl_WalkerOk.f wok
  rw [impl_isIn_eq]
  simp only [Option.bind_some, impl_isDirection_eq, List.all_cons, List.all_nil, Bool.and_true]
  cases mok w h o && icell w h c <;> simp
theorem spec_WalkerOk_eq (w h o c f : Int) : spec_WalkerOk.f w h o c f = some (wok w h o c f) := by
  unfold spec_WalkerOk.f wok
  rw [spec_l04Has_eq]
  simp only [Option.bind_some, spec_l01In_eq]
  cases mok w h o && icell w h c <;> simp
def patStep (w h o c f : Int) (s : Int) (i : Nat) : Int := if st w h o c (Int.tmod (wrap64 (f + i)) 4) ≥ 0 then Go.bits .or .i64 s (shl .i64 1 i) else s
def pat (w h o c f : Int) : Int := if wok w h o c f then (List.range' 0 4).foldl (patStep w h o c f) 0 else -1
theorem impl_PatternAt_eq {k : Nat} (hk : 8 ≤ k) (w h o c f : Int) : impl_PatternAt.f k w h o c f = some (pat w h o c f) := by
  unfold impl_PatternAt.f pat
  rw [impl_WalkerOk_eq, Option.bind_some]
  cases wok w h o c f with
  | false => simp
  | true =>
    simp only [if_true]
    have := fold_loop (n := 4) (c := 3) (F := fun k s i => impl_PatternAt.l0 k s i w h o c f) (step := patStep w h o c f) (fin := id) (I := fun _ _ => True)
      (fun k s i hk hi _ => by
        simp only [impl_PatternAt.l0]
        rw [if_pos (by omega), impl_Step_eq (by omega), Option.bind_some, w64 (x := (i : Int) + 1) (by omega) (by omega)]
        unfold patStep
        by_cases g : st w h o c (Int.tmod (wrap64 (f + i)) 4) ≥ 0
        · rw [if_pos g, if_pos (by omega), if_pos g]
        · rw [if_neg g, if_neg g])
      (fun _ _ _ _ => trivial) (fun k s _ _ => by simp only [impl_PatternAt.l0]; rw [if_neg (by omega)]; rfl) 4 0 k 0 (by omega) (by omega) trivial
    exact this
theorem spec_PatternAt_eq {k : Nat} (hk : 8 ≤ k) (w h o c f : Int) : spec_PatternAt.f k w h o c f = some (pat w h o c f) := by
  unfold spec_PatternAt.f pat
  rw [spec_WalkerOk_eq, Option.bind_some]
  cases wok w h o c f with
  | false => simp
  | true =>
    simp only [if_true]
    have := fold_loop (n := 4) (c := 3) (F := fun k s i => spec_PatternAt.l0 k s i w h o c f) (step := patStep w h o c f) (fin := id) (I := fun _ _ => True)
      (fun k s i hk hi _ => by
        simp only [spec_PatternAt.l0]
        rw [if_pos (by omega), spec_Step_eq (by omega), Option.bind_some, w64 (x := (i : Int) + 1) (by omega) (by omega)]
        unfold patStep
        by_cases g : st w h o c (Int.tmod (wrap64 (f + i)) 4) ≥ 0
        · rw [if_pos g, if_pos (by omega), if_pos g]
        · rw [if_neg g, if_neg g])
      (fun _ _ _ _ => trivial) (fun k s _ _ => by simp only [spec_PatternAt.l0]; rw [if_neg (by omega)]; rfl) 4 0 k 0 (by omega) (by omega) trivial
    exact this
theorem impl_SignOk_eq {k : Nat} (hk : 3 ≤ k) (w h o c d : Int) : impl_SignOk.f k w h o c d = some (decide (0 ≤ st w h o c d)) := by
  unfold impl_SignOk.f
  rw [impl_isIn_eq]
  simp only [Option.bind_some, impl_Step_eq hk, List.all_cons, List.all_nil, Bool.and_true]
  by_cases H : 0 ≤ st w h o c d
  · have := st_facts H
    simp [H, this.1, this.2.1]
  · by_cases q : (mok w h o && icell w h c) = true
    · rw [if_pos q]
    · rw [if_neg q]; simp; omega
theorem spec_SignOk_eq {k : Nat} (hk : 1 ≤ k) (w h o c d : Int) : spec_SignOk.f k w h o c d = some (decide (0 ≤ st w h o c d)) := by
  unfold spec_SignOk.f
  rw [spec_l04Has_eq]
  simp only [Option.bind_some, spec_Step_eq hk]
  by_cases H : 0 ≤ st w h o c d
  · have := st_facts H
    simp [H, this.1, this.2.1]
  · by_cases q : (mok w h o && icell w h c) = true
    · rw [if_pos q]
    · rw [if_neg q]; simp; omega
end Go.Proofs.Ytiiflckblilhiaa.F
