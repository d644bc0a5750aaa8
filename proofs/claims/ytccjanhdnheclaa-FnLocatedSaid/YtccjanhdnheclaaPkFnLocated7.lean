/- Packed by a program of the session (wip/tools/pack.py): what the claim's theorem reaches, of the texts that wip/ and the kit's printer lay. -/
import Derived.Test.YtccjanhdnheclaaPkFnLocated6
import Derived.Deep.QuietTactic
import Derived.BigQuiet
import Derived.StillTailTactics
section
namespace Go.Proofs.Ytccjanhdnheclaa.F
open Go.RowKit Go.Proofs.YtccjanhdnheclaaW.PrintWords Go.Proofs.YtccjanhdnheclaaW.PrintLast Go.Proofs.YtccjanhdnheclaaW.PrintMore
set_option linter.unusedVariables false
set_option linter.unusedSimpArgs false
def spec_l01Once.f (s0_0 : List Int) (s0_1 : Int) (s0_2 : Int) (a1 : Int) : Option (Bool × Int × Int) := (spec_l01Below.f s0_0 s0_1 s0_2 a1).bind fun bt412 => (some ((bt412.1 == 0), bt412.2.1, bt412.2.2))
mutual
def spec_l03Maze.j0 : Nat → Int → Bool → List Int → Int → Int → Int → Int → Int → Option (Int × Int × Int × Int × Int)
  | 0, _, _, _, _, _, _, _, _ => none
  | k + 1, x5, x19, x1000, x1001, x1002, x427000, x427001, x427002 => if x19 = true then ((spec_l01Below.f x1000 x1001 x1002 4).bind fun bt431 => (spec_l03Maze.l0 k x5 bt431.1 x1000 bt431.2.1 bt431.2.2 x427000 x427001 x427002)) else (some (x427000, x427001, x427002, x1001, x1002))
def spec_l03Maze.l0 : Nat → Int → Int → List Int → Int → Int → Int → Int → Int → Option (Int × Int × Int × Int × Int)
  | 0, _, _, _, _, _, _, _, _ => none
  | k + 1, x5, x6, x1000, x1001, x1002, x427000, x427001, x427002 => if x6 ≥ 0 then ((spec_l01Below.f x1000 x1001 x1002 x5).bind fun bt434 => (if 0 ≤ bt434.1 then (spec_l03Maze.l0 k x5 (wrap64 (x6 - 1)) x1000 bt434.2.1 bt434.2.2 x427000 x427001 (Go.bits .xor .i64 x427002 (shl .i64 1 bt434.1))) else (none))) else (some (x427000, x427001, x427002, x1001, x1002))
end
def spec_l03Maze.f (k : Nat) (s0_0 : List Int) (s0_1 : Int) (s0_2 : Int) : Option (Int × Int × Int × Int × Int) := (spec_l02Grid.f s0_0 s0_1 s0_2).bind fun bt416 => ((spec_l03Tree.f k s0_0 bt416.2.2.1 bt416.2.2.2 bt416.1 bt416.2.1).bind fun bt421 => ((spec_CountGaps.f bt416.1 bt416.2.1).bind fun t427 => (if t427 > 0 then ((spec_l01Once.f s0_0 bt421.2.2.2.1 bt421.2.2.2.2 2).bind fun bt428 => (spec_l03Maze.j0 k t427 bt428.1 s0_0 bt428.2.1 bt428.2.2 bt421.1 bt421.2.1 bt421.2.2.1)) else (spec_l03Maze.j0 k t427 false s0_0 bt421.2.2.2.1 bt421.2.2.2.2 bt421.1 bt421.2.1 bt421.2.2.1))))
def spec_l10Walker.f (s0_0 : List Int) (s0_1 : Int) (s0_2 : Int) (a1_0 : Int) (a1_1 : Int) (a1_2 : Int) : Option (Int × Int × Int × Int) := (spec_CountCells.f a1_0 a1_1).bind fun t439 => ((spec_l01Below.f s0_0 s0_1 s0_2 (mx 1 t439)).bind fun bt440 => ((spec_l01Below.f s0_0 bt440.2.1 bt440.2.2 4).bind fun bt443 => (some (bt440.1, bt443.1, bt443.2.1, bt443.2.2))))
def spec_WaysFrom.l0 : Nat → Int → List Int → Int → Int → Int → Int → Option (List Int)
  | 0, _, _, _, _, _, _ => none
  | k + 1, x1, x5, x6, x447000, x447001, x447002 => if x6 ≤ 3 then ((spec_Step.f k x447000 x447001 x447002 x1 x6).bind fun t450 => (if t450 ≥ 0 then (if x5.length < 17592186044416 then (spec_WaysFrom.l0 k x1 (x5 ++ [x6]) (wrap64 (x6 + 1)) x447000 x447001 x447002) else (none)) else (spec_WaysFrom.l0 k x1 x5 (wrap64 (x6 + 1)) x447000 x447001 x447002))) else (some x5)
def spec_WaysFrom.f (k : Nat) (a0_0 : Int) (a0_1 : Int) (a0_2 : Int) (a1 : Int) : Option (List Int) := spec_WaysFrom.l0 k a1 (([] : List Int)) 0 a0_0 a0_1 a0_2
def spec_l33Walk.l0 : Nat → List Int → Int → Int → List Int → Int → Int → Int → Int → Int → Int → Int → Option (List Int × Int × Int)
  | 0, _, _, _, _, _, _, _, _, _, _, _ => none
  | k + 1, x7, x8, x9, x1000, x1001, x1002, x455000, x455001, x455002, x456000, x456001 => if x9 < x8 then ((spec_WaysFrom.f k x455000 x455001 x455002 x456000).bind fun t462 => (if (t462.length : Int) = 0 then (some (x7, x1001, x1002)) else ((spec_l01Below.f x1000 x1001 x1002 (t462.length : Int)).bind fun bt465 => (if 0 ≤ bt465.1 then (if bt465.1 < (t462.length : Int) then (if x7.length < 17592186044416 then ((spec_l33Turned.f k x455000 x455001 x455002 x456000 x456001 (Int.tmod (wrap64 ((wrap64 ((rd t462 bt465.1) - x456001)) + 4)) 4)).bind fun bt472 => (spec_l33Walk.l0 k (x7 ++ [Int.tmod (wrap64 ((wrap64 ((rd t462 bt465.1) - x456001)) + 4)) 4]) x8 (wrap64 (x9 + 1)) x1000 bt465.2.1 bt465.2.2 x455000 x455001 x455002 bt472.1 bt472.2.1)) else (none)) else (none)) else (none))))) else (some (x7, x1001, x1002))
def spec_l33Walk.f (k : Nat) (s0_0 : List Int) (s0_1 : Int) (s0_2 : Int) (a1_0 : Int) (a1_1 : Int) (a1_2 : Int) (a2_0 : Int) (a2_1 : Int) : Option (List Int × Int × Int) := (spec_l01Below.f s0_0 s0_1 s0_2 8).bind fun bt459 => (spec_l33Walk.l0 k (([] : List Int)) bt459.1 0 s0_0 bt459.2.1 bt459.2.2 a1_0 a1_1 a1_2 a2_0 a2_1)
def spec_DrawReport.f (k : Nat) (l0 : List Int) : Option (Int × Int × Int × Int × Int × List Int) := (spec_l01New.f k l0).bind fun bt477 => ((spec_l03Maze.f k bt477.1 bt477.2.1 bt477.2.2).bind fun bt481 => ((spec_l10Walker.f bt477.1 bt481.2.2.2.1 bt481.2.2.2.2 bt481.1 bt481.2.1 bt481.2.2.1).bind fun bt487 => ((spec_l33Walk.f k bt477.1 bt487.2.2.1 bt487.2.2.2 bt481.1 bt481.2.1 bt481.2.2.1 bt487.1 bt487.2.1).bind fun bt492 => (some (bt481.1, bt481.2.1, bt481.2.2.1, bt487.1, bt487.2.1, bt492.1)))))
mutual
def impl_ReportOf.j0 : Nat → List Int → Bool → Int → Int → Int → Int → Int → Option (List Int × Bool)
  | 0, _, _, _, _, _, _, _ => none
  | k + 1, x2, x21, x498000, x498001, x498002, x499000, x499001 => if x21 = true then (some (([] : List Int), false)) else ((impl_PatternAt.f k x498000 x498001 x498002 x499000 x499001).bind fun t501 => (impl_ReportOf.l0 k (([t501] : List Int)) x2 (x2.length : Int) 0 x498000 x498001 x498002 x499000 x499001))
def impl_ReportOf.l0 : Nat → List Int → List Int → Int → Int → Int → Int → Int → Int → Int → Option (List Int × Bool)
  | 0, _, _, _, _, _, _, _, _, _ => none
  | k + 1, x8, x26, x27, x28, x498000, x498001, x498002, x499000, x499001 => if x28 < x27 then (if 0 ≤ x28 then (if x28 < (x26.length : Int) then ((impl_went.f k x498000 x498001 x498002 x499000 x499001 (rd x26 x28)).bind fun bt506 => (if bt506.2.2 = true then ((impl_PatternAt.f k x498000 x498001 x498002 bt506.1 bt506.2.1).bind fun t510 => (if x8.length < 17592186044416 then (impl_ReportOf.l0 k (x8 ++ [t510]) x26 x27 (wrap64 (x28 + 1)) x498000 x498001 x498002 bt506.1 bt506.2.1) else (none))) else (some (([] : List Int), false)))) else (none)) else (none)) else (some (x8, true))
end
def impl_ReportOf.f (k : Nat) (a0_0 : Int) (a0_1 : Int) (a0_2 : Int) (a1_0 : Int) (a1_1 : Int) (l2 : List Int) : Option (List Int × Bool) := (impl_WalkerOk.f a0_0 a0_1 a0_2 a1_0 a1_1).bind fun t499 => (if t499 = true then ((impl_areTurns.f l2 40).bind fun t500 => (impl_ReportOf.j0 k l2 (!t500) a0_0 a0_1 a0_2 a1_0 a1_1)) else (impl_ReportOf.j0 k l2 true a0_0 a0_1 a0_2 a1_0 a1_1))
def laws_at.f (l0 : List Int) (a1 : Int) : Option (Int) := if (l0.length : Int) = 0 then (some 0) else (if 0 ≤ (Int.tmod (wrap64 ((wrap64 (a1 * 5)) + 1)) (l0.length : Int)) then (if (Int.tmod (wrap64 ((wrap64 (a1 * 5)) + 1)) (l0.length : Int)) < (l0.length : Int) then (some (wrap64 (rd l0 (Int.tmod (wrap64 ((wrap64 (a1 * 5)) + 1)) (l0.length : Int))))) else (none)) else (none))
mutual
def impl_alike.l0 : Nat → Int → Int → Int → Int → Int → Int → Int → Int → Int → Option (Bool)
  | 0, _, _, _, _, _, _, _, _, _ => none
  | k + 1, x3, x9, x516000, x516001, x516002, x517000, x517001, x518000, x518001 => if x3 > 0 then (impl_alike.j1 k x3 x9 (decide (x9 < 4)) x516000 x516001 x516002 x517000 x517001 x518000 x518001) else (impl_alike.j1 k x3 x9 false x516000 x516001 x516002 x517000 x517001 x518000 x518001)
def impl_alike.j1 : Nat → Int → Int → Bool → Int → Int → Int → Int → Int → Int → Int → Option (Bool)
  | 0, _, _, _, _, _, _, _, _, _, _ => none
  | k + 1, x3, x9, x26, x516000, x516001, x516002, x517000, x517001, x518000, x518001 => if x26 = true then ((impl_went.f k x516000 x516001 x516002 x517000 x517001 x9).bind fun bt520 => ((impl_went.f k x516000 x516001 x516002 x518000 x518001 x9).bind fun bt524 => (if (bt520.2.2 != bt524.2.2) = true then (some false) else (if bt520.2.2 = true then ((impl_alike.f k x516000 x516001 x516002 bt520.1 bt520.2.1 bt524.1 bt524.2.1 (wrap64 (x3 - 1))).bind fun t528 => (if t528 = true then (impl_alike.l0 k x3 (wrap64 (x9 + 1)) x516000 x516001 x516002 x517000 x517001 x518000 x518001) else (some false))) else (impl_alike.l0 k x3 (wrap64 (x9 + 1)) x516000 x516001 x516002 x517000 x517001 x518000 x518001))))) else (some true)
def impl_alike.f : Nat → Int → Int → Int → Int → Int → Int → Int → Int → Option (Bool)
  | 0, _, _, _, _, _, _, _, _ => none
  | k + 1, a0_0, a0_1, a0_2, a1_0, a1_1, a2_0, a2_1, a3 => (impl_PatternAt.f k a0_0 a0_1 a0_2 a1_0 a1_1).bind fun t518 => ((impl_PatternAt.f k a0_0 a0_1 a0_2 a2_0 a2_1).bind fun t519 => (if t518 = t519 then (impl_alike.l0 k a3 0 a0_0 a0_1 a0_2 a1_0 a1_1 a2_0 a2_1) else (some false)))
end
theorem impl_alike.mono_l : ∀ k, (∀ y0 y1 y2 y3 y4 y5 y6 y7, LeO (impl_alike.f k y0 y1 y2 y3 y4 y5 y6 y7) (impl_alike.f (k + 1) y0 y1 y2 y3 y4 y5 y6 y7)) ∧ (∀ y0 y1 y2 y3 y4 y5 y6 y7 y8, LeO (impl_alike.l0 k y0 y1 y2 y3 y4 y5 y6 y7 y8) (impl_alike.l0 (k + 1) y0 y1 y2 y3 y4 y5 y6 y7 y8)) ∧ (∀ y0 y1 y2 y3 y4 y5 y6 y7 y8 y9, LeO (impl_alike.j1 k y0 y1 y2 y3 y4 y5 y6 y7 y8 y9) (impl_alike.j1 (k + 1) y0 y1 y2 y3 y4 y5 y6 y7 y8 y9))
  | 0 => ⟨fun _ _ _ _ _ _ _ _ r h => by simp [impl_alike.f] at h, fun _ _ _ _ _ _ _ _ _ r h => by simp [impl_alike.l0] at h, fun _ _ _ _ _ _ _ _ _ _ r h => by simp [impl_alike.j1] at h⟩
  | k + 1 => by
    obtain ⟨ih0, ih1, ih2⟩ := impl_alike.mono_l k
    refine ⟨?_, ?_, ?_⟩
    · intro y0 y1 y2 y3 y4 y5 y6 y7
      unfold impl_alike.f
      repeat' first
      | (with_reducible exact ih0 _ _ _ _ _ _ _ _)
      | (with_reducible exact ih1 _ _ _ _ _ _ _ _ _)
      | (with_reducible exact ih2 _ _ _ _ _ _ _ _ _ _)
      | (with_reducible exact impl_PatternAt.mono _ _ _ _ _ _)
      | (with_reducible exact impl_went.mono _ _ _ _ _ _ _)
      | (with_reducible exact LeO.refl _)
      | (with_reducible exact LeO.none _)
      | (with_reducible refine LeO.ite ?_ ?_)
      | (with_reducible refine LeO.bind ?_ (fun _ => ?_))
      | exact ih0 _ _ _ _ _ _ _ _
      | exact ih1 _ _ _ _ _ _ _ _ _
      | exact ih2 _ _ _ _ _ _ _ _ _ _
      | exact impl_PatternAt.mono _ _ _ _ _ _
      | exact impl_went.mono _ _ _ _ _ _ _
      | exact LeO.none _
      | refine LeO.ite ?_ ?_
      | refine LeO.bind ?_ (fun _ => ?_)
    · intro y0 y1 y2 y3 y4 y5 y6 y7 y8
      unfold impl_alike.l0
      repeat' first
      | (with_reducible exact ih0 _ _ _ _ _ _ _ _)
      | (with_reducible exact ih1 _ _ _ _ _ _ _ _ _)
      | (with_reducible exact ih2 _ _ _ _ _ _ _ _ _ _)
      | (with_reducible exact impl_PatternAt.mono _ _ _ _ _ _)
      | (with_reducible exact impl_went.mono _ _ _ _ _ _ _)
      | (with_reducible exact LeO.refl _)
      | (with_reducible exact LeO.none _)
      | (with_reducible refine LeO.ite ?_ ?_)
      | (with_reducible refine LeO.bind ?_ (fun _ => ?_))
      | exact ih0 _ _ _ _ _ _ _ _
      | exact ih1 _ _ _ _ _ _ _ _ _
      | exact ih2 _ _ _ _ _ _ _ _ _ _
      | exact impl_PatternAt.mono _ _ _ _ _ _
      | exact impl_went.mono _ _ _ _ _ _ _
      | exact LeO.none _
      | refine LeO.ite ?_ ?_
      | refine LeO.bind ?_ (fun _ => ?_)
    · intro y0 y1 y2 y3 y4 y5 y6 y7 y8 y9
      unfold impl_alike.j1
      repeat' first
      | (with_reducible exact ih0 _ _ _ _ _ _ _ _)
      | (with_reducible exact ih1 _ _ _ _ _ _ _ _ _)
      | (with_reducible exact ih2 _ _ _ _ _ _ _ _ _ _)
      | (with_reducible exact impl_PatternAt.mono _ _ _ _ _ _)
      | (with_reducible exact impl_went.mono _ _ _ _ _ _ _)
      | (with_reducible exact LeO.refl _)
      | (with_reducible exact LeO.none _)
      | (with_reducible refine LeO.ite ?_ ?_)
      | (with_reducible refine LeO.bind ?_ (fun _ => ?_))
      | exact ih0 _ _ _ _ _ _ _ _
      | exact ih1 _ _ _ _ _ _ _ _ _
      | exact ih2 _ _ _ _ _ _ _ _ _ _
      | exact impl_PatternAt.mono _ _ _ _ _ _
      | exact impl_went.mono _ _ _ _ _ _ _
      | exact LeO.none _
      | refine LeO.ite ?_ ?_
      | refine LeO.bind ?_ (fun _ => ?_)
theorem impl_alike.mono : ∀ a0 a1 a2 a3 a4 a5 a6 a7 k, LeO (impl_alike.f k a0 a1 a2 a3 a4 a5 a6 a7) (impl_alike.f (k + 1) a0 a1 a2 a3 a4 a5 a6 a7) := by
  intro a0 a1 a2 a3 a4 a5 a6 a7 k
  obtain ⟨ih0, ih1, ih2⟩ := impl_alike.mono_l k
  exact ih0 a0 a1 a2 a3 a4 a5 a6 a7
def impl_LikeWalkers.f (k : Nat) (a0_0 : Int) (a0_1 : Int) (a0_2 : Int) (a1_0 : Int) (a1_1 : Int) (a2_0 : Int) (a2_1 : Int) (a3 : Int) : Option (Bool) := (impl_WalkerOk.f a0_0 a0_1 a0_2 a1_0 a1_1).bind fun t532 => (if t532 = true then ((impl_WalkerOk.f a0_0 a0_1 a0_2 a2_0 a2_1).bind fun t533 => (if t533 = true then (if a3 ≥ 0 then (if a3 ≤ 6 then ((impl_alike.f k a0_0 a0_1 a0_2 a1_0 a1_1 a2_0 a2_1 a3).bind fun t534 => (some t534)) else (some false)) else (some false)) else (some false))) else (some false))
end Go.Proofs.Ytccjanhdnheclaa.F
end

section
namespace Go.Proofs.Ytccjanhdnheclaa.F
open Go.RowKit Go.Proofs.YtccjanhdnheclaaW.PrintWords Go.Proofs.YtccjanhdnheclaaW.PrintLast Go.Proofs.YtccjanhdnheclaaW.PrintMore
set_option linter.unusedVariables false
set_option linter.unusedSimpArgs false
def eB (x : Bool) : List Value := [.bool x]
def eI (x : Int) : List Value := [.int .i64 x]
def eU8 (x : Int) : List Value := [.int .u8 x]
def eWalker (x : SWalker) : List Value := [.int .i64 x.f0, .int .i64 x.f1]
def ty : TypeId → Option TI
  | 3 => some ⟨false, 1, 8, [.int .i64 0], [], 0⟩
  | 4 => some ⟨false, 1, 1, [.bool false], [], 0⟩
  | 5 => some ⟨false, 1, 1, [.int .u8 0], [], 0⟩
  | 23 => some ⟨true, 2, 16, [.int .i64 0, .int .i64 0], [0, 1], 0⟩
  | 25 => some ⟨true, 3, 24, [.int .i64 0, .int .i64 0, .int .i64 0], [0, 2], 0⟩
  | 26 => some ⟨false, 1, 24, [.slice none 0 0], [], 3⟩
  | 28 => some ⟨true, 2, 16, [.int .i64 0, .int .i64 0], [0, 1], 0⟩
  | 30 => some ⟨true, 3, 24, [.int .i64 0, .int .i64 0, .int .i64 0], [0, 2], 0⟩
  | 35 => some ⟨false, 1, 24, [.slice none 0 0], [], 43⟩
  | 40 => some ⟨false, 1, 24, [.slice none 0 0], [], 5⟩
  | 43 => some ⟨true, 2, 16, [.int .i64 0, .int .i64 0], [0, 1], 0⟩
  | 62 => some ⟨false, 1, 24, [.slice none 0 0], [], 4⟩
  | 92 => some ⟨false, 1, 8, [.int .u64 0], [], 0⟩
  | 94 => some ⟨true, 3, 40, [.slice none 0 0, .int .i64 0, .int .i64 0], [0, 1, 2], 0⟩
  | _ => none
theorem tyOk : TyOk Try.prog ty := by
  intro t i h
  unfold ty at h
  split at h <;> first | (cases h; done) | (obtain rfl := Option.some.inj h; exact mkTI (by kernel_rfl) (by kernel_rfl))
theorem hm : Try.prog.follows .mixedOrders = true := by kernel_rfl
theorem gR_eB : (∀ (x : Bool), eB x = [.bool x]) ∧ (∀ (l : List Bool) (i : Int), gR [.bool false] (l.map eB) i = [.bool (rdOf false l i)]) ∧ (∀ (l : List Bool) (i : Int) (a0 : Bool), sR (l.map eB) i [.bool a0] = (l.set i.toNat a0).map eB) ∧ (∀ (l : List Bool) (a0 : Bool), l.map eB ++ [[.bool a0]] = (l ++ [a0]).map eB) ∧ (∀ n : Nat, List.replicate n [.bool false] = (List.replicate n false).map eB) := by
  refine ⟨fun _ => rfl, fun l i => ?_, fun l i a0 => ?_, fun l a0 => ?_, fun n => ?_⟩
  · unfold gR rdOf eB
    rw [List.getD_eq_getElem?_getD, List.getElem?_map, List.getD_eq_getElem?_getD]
    cases l[i.toNat]? <;> rfl
  · unfold sR; rw [List.map_set]; rfl
  · rw [List.map_append]; rfl
  · rw [List.map_replicate]; rfl
theorem gR_eI : (∀ (x : Int), eI x = [.int .i64 x]) ∧ (∀ (l : List Int) (i : Int), gR [.int .i64 0] (l.map eI) i = [.int .i64 (rd l i)]) ∧ (∀ (l : List Int) (i : Int) (a0 : Int), sR (l.map eI) i [.int .i64 a0] = (l.set i.toNat a0).map eI) ∧ (∀ (l : List Int) (a0 : Int), l.map eI ++ [[.int .i64 a0]] = (l ++ [a0]).map eI) ∧ (∀ n : Nat, List.replicate n [.int .i64 0] = (List.replicate n 0).map eI) := by
  refine ⟨fun _ => rfl, fun l i => ?_, fun l i a0 => ?_, fun l a0 => ?_, fun n => ?_⟩
  · unfold gR rd eI
    rw [List.getD_eq_getElem?_getD, List.getElem?_map, List.getD_eq_getElem?_getD]
    cases l[i.toNat]? <;> rfl
  · unfold sR; rw [List.map_set]; rfl
  · rw [List.map_append]; rfl
  · rw [List.map_replicate]; rfl
theorem gR_eU8 : (∀ (x : Int), eU8 x = [.int .u8 x]) ∧ (∀ (l : List Int) (i : Int), gR [.int .u8 0] (l.map eU8) i = [.int .u8 (rd l i)]) ∧ (∀ (l : List Int) (i : Int) (a0 : Int), sR (l.map eU8) i [.int .u8 a0] = (l.set i.toNat a0).map eU8) ∧ (∀ (l : List Int) (a0 : Int), l.map eU8 ++ [[.int .u8 a0]] = (l ++ [a0]).map eU8) ∧ (∀ n : Nat, List.replicate n [.int .u8 0] = (List.replicate n 0).map eU8) := by
  refine ⟨fun _ => rfl, fun l i => ?_, fun l i a0 => ?_, fun l a0 => ?_, fun n => ?_⟩
  · unfold gR rd eU8
    rw [List.getD_eq_getElem?_getD, List.getElem?_map, List.getD_eq_getElem?_getD]
    cases l[i.toNat]? <;> rfl
  · unfold sR; rw [List.map_set]; rfl
  · rw [List.map_append]; rfl
  · rw [List.map_replicate]; rfl
theorem gR_eWalker : (∀ (x : SWalker), eWalker x = [.int .i64 x.f0, .int .i64 x.f1]) ∧ (∀ (l : List SWalker) (i : Int), gR [.int .i64 0, .int .i64 0] (l.map eWalker) i = [.int .i64 (rd_Walker l i).f0, .int .i64 (rd_Walker l i).f1]) ∧ (∀ (l : List SWalker) (i : Int) (a0 : Int) (a1 : Int), sR (l.map eWalker) i [.int .i64 a0, .int .i64 a1] = (l.set i.toNat (⟨a0, a1⟩ : SWalker)).map eWalker) ∧ (∀ (l : List SWalker) (a0 : Int) (a1 : Int), l.map eWalker ++ [[.int .i64 a0, .int .i64 a1]] = (l ++ [(⟨a0, a1⟩ : SWalker)]).map eWalker) ∧ (∀ n : Nat, List.replicate n [.int .i64 0, .int .i64 0] = (List.replicate n zWalker).map eWalker) := by
  refine ⟨fun _ => rfl, fun l i => ?_, fun l i a0 a1 => ?_, fun l a0 a1 => ?_, fun n => ?_⟩
  · unfold gR rd_Walker eWalker
    rw [List.getD_eq_getElem?_getD, List.getElem?_map, List.getD_eq_getElem?_getD]
    cases l[i.toNat]? <;> rfl
  · unfold sR; rw [List.map_set]; rfl
  · rw [List.map_append]; rfl
  · rw [List.map_replicate]; rfl
theorem eqQ43 (x0 y0 : Int) (x1 y1 : Int) : ∀ w : World, (Op.equalIn 10000 43 (.agg (List.toArray (vluL [.v (.int .i64 x0), .v (.int .i64 x1)]))) (.agg (List.toArray (vluL [.v (.int .i64 y0), .v (.int .i64 y1)])))).run Try.prog w = .ok (x0 == y0 && (x1 == y1)) w := fun w => eqA43 9998 w _ _ _ _
theorem eqT43 : (∀ (x0 y0 : Int) (x1 y1 : Int) (i : TI) (d : Option Nat) (t : List AV) (s : Sto) (K : Kt), binX Try.prog 43 (some i) .eql (.ag [.v (.int .i64 x0), .v (.int .i64 x1)]) (.ag [.v (.int .i64 y0), .v (.int .i64 y1)]) d t s K = K (pT t d (.v (.bool (x0 == y0 && (x1 == y1))))) s) ∧ (∀ (x0 y0 : Int) (x1 y1 : Int) (i : TI) (d : Option Nat) (t : List AV) (s : Sto) (K : Kt), binX Try.prog 43 (some i) .neq (.ag [.v (.int .i64 x0), .v (.int .i64 x1)]) (.ag [.v (.int .i64 y0), .v (.int .i64 y1)]) d t s K = K (pT t d (.v (.bool ((!(x0 == y0) || (!(x1 == y1))))))) s) := by
  refine ⟨fun x0 y0 x1 y1 i d t s K => ?_, fun x0 y0 x1 y1 i d t s K => ?_⟩
  · refine eqRule (dd := 10000) ?_ ?_ ?_ ?_ (eqQ43 _ _ _ _) i d t s K <;> kernel_rfl
  · refine Eq.trans (b := K (pT t d (.v (.bool (!(x0 == y0 && (x1 == y1)))))) s) ?_ (by simp only [Bool.not_and])
    refine neRule (dd := 10000) ?_ ?_ ?_ ?_ (eqQ43 _ _ _ _) i d t s K <;> kernel_rfl
theorem Wt : ty 3 = some ⟨false, 1, 8, [.int .i64 0], [], 0⟩ ∧ ty 4 = some ⟨false, 1, 1, [.bool false], [], 0⟩ ∧ ty 5 = some ⟨false, 1, 1, [.int .u8 0], [], 0⟩ ∧ ty 23 = some ⟨true, 2, 16, [.int .i64 0, .int .i64 0], [0, 1], 0⟩ ∧ ty 25 = some ⟨true, 3, 24, [.int .i64 0, .int .i64 0, .int .i64 0], [0, 2], 0⟩ ∧ ty 26 = some ⟨false, 1, 24, [.slice none 0 0], [], 3⟩ ∧ ty 28 = some ⟨true, 2, 16, [.int .i64 0, .int .i64 0], [0, 1], 0⟩ ∧ ty 30 = some ⟨true, 3, 24, [.int .i64 0, .int .i64 0, .int .i64 0], [0, 2], 0⟩ ∧ ty 35 = some ⟨false, 1, 24, [.slice none 0 0], [], 43⟩ ∧ ty 40 = some ⟨false, 1, 24, [.slice none 0 0], [], 5⟩ ∧ ty 43 = some ⟨true, 2, 16, [.int .i64 0, .int .i64 0], [0, 1], 0⟩ ∧ ty 62 = some ⟨false, 1, 24, [.slice none 0 0], [], 4⟩ ∧ ty 92 = some ⟨false, 1, 8, [.int .u64 0], [], 0⟩ ∧ ty 94 = some ⟨true, 3, 40, [.slice none 0 0, .int .i64 0, .int .i64 0], [0, 1, 2], 0⟩ ∧ ty 0 = none ∧ ty 44 = none ∧ ty 46 = none ∧ ty 53 = none ∧ ty 63 = none ∧ ty 69 = none ∧ ty 83 = none ∧ ty 87 = none ∧ ty 104 = none ∧ ty 119 = none := ⟨rfl, rfl, rfl, rfl, rfl, rfl, rfl, rfl, rfl, rfl, rfl, rfl, rfl, rfl, rfl, rfl, rfl, rfl, rfl, rfl, rfl, rfl, rfl, rfl⟩
theorem W : type_of% (And.intro W1 (And.intro W2 (And.intro (W3 Try.prog ty) (And.intro (W4 Try.prog ty) (And.intro (W5 ty) (And.intro W6 (And.intro W7 (And.intro W8 (And.intro W9 (And.intro W10 (And.intro @W11 (And.intro W12 (And.intro (W13 ty) (And.intro (W14 ty) (And.intro (W15 Try.prog ty) (And.intro W16 (And.intro (W17 ty) (And.intro (W18 Try.prog ty) (And.intro W19 (And.intro W20 (And.intro bAnd (And.intro W0 (And.intro gR_eB (And.intro gR_eI (And.intro gR_eU8 (And.intro gR_eWalker (And.intro eqT43 Wt))))))))))))))))))))))))))) := (And.intro W1 (And.intro W2 (And.intro (W3 Try.prog ty) (And.intro (W4 Try.prog ty) (And.intro (W5 ty) (And.intro W6 (And.intro W7 (And.intro W8 (And.intro W9 (And.intro W10 (And.intro @W11 (And.intro W12 (And.intro (W13 ty) (And.intro (W14 ty) (And.intro (W15 Try.prog ty) (And.intro W16 (And.intro (W17 ty) (And.intro (W18 Try.prog ty) (And.intro W19 (And.intro W20 (And.intro bAnd (And.intro W0 (And.intro gR_eB (And.intro gR_eI (And.intro gR_eU8 (And.intro gR_eWalker (And.intro eqT43 Wt)))))))))))))))))))))))))))
theorem E_eI : EncOk (Kd.int .i64) 1 eI := ⟨rfl, by decide, fun _ => rfl, fun x u hu => by
  simp only [eI, List.mem_cons, List.not_mem_nil, or_false] at hu
  subst hu; rfl, Iff.rfl, Iff.rfl⟩
theorem E_eU8 : EncOk (Kd.int .u8) 1 eU8 := ⟨rfl, by decide, fun _ => rfl, fun x u hu => by
  simp only [eU8, List.mem_cons, List.not_mem_nil, or_false] at hu
  subst hu; rfl, Iff.rfl, Iff.rfl⟩
end Go.Proofs.Ytccjanhdnheclaa.F
end

section
namespace Go.Proofs.Ytccjanhdnheclaa.F
open Go.RowKit Go.Proofs.YtccjanhdnheclaaW.PrintWords Go.Proofs.YtccjanhdnheclaaW.PrintLast Go.Proofs.YtccjanhdnheclaaW.PrintMore
theorem bkb {w0 W w' : World} {g : Nat} {o : Obj} (A : Aside0 (w0.heap[g]? = some o)) (hb : Below W.heap.size W w') (h : w0.heap[g]? = some o → W.heap[g]? = some o) : Aside0 (w'.heap[g]? = some o) := ⟨blk_below (h A.out) hb⟩
theorem nbl {w0 W : World} {g gb : Nat} {o : Obj} (A : Aside0 (w0.heap[g]? = some o)) (hg : gb = W.heap.size) (h : w0.heap[g]? = some o → W.heap[g]? = some o) : Aside0 (g ≠ gb) := ⟨by rw [hg]; exact Nat.ne_of_lt (blk_lt (h A.out))⟩
theorem nbs {a b : Nat} (h : Aside0 (a ≠ b)) : Aside0 (b ≠ a) := ⟨h.out.symm⟩
theorem cl1 {w : World} {g : Nat} {t : TypeId} {c0 : Value} (h : w.heap[g]? = some (.cells #[c0] t (0, 0))) : w.cell? ⟨g, 0, none⟩ = some c0 ∧ w.frozen? ⟨g, 0, none⟩ = false := ⟨(blk_cell h 0).trans rfl, blk_frozen h 0⟩
theorem cl2 {w : World} {g : Nat} {t : TypeId} {c0 c1 : Value} (h : w.heap[g]? = some (.cells #[c0, c1] t (0, 0))) : w.cell? ⟨g, 0, none⟩ = some c0 ∧ w.cell? ⟨g, 1, none⟩ = some c1 ∧ w.frozen? ⟨g, 0, none⟩ = false ∧ w.frozen? ⟨g, 1, none⟩ = false := ⟨(blk_cell h 0).trans rfl, (blk_cell h 1).trans rfl, blk_frozen h 0, blk_frozen h 1⟩
theorem cl3 {w : World} {g : Nat} {t : TypeId} {c0 c1 c2 : Value} (h : w.heap[g]? = some (.cells #[c0, c1, c2] t (0, 0))) : w.cell? ⟨g, 0, none⟩ = some c0 ∧ w.cell? ⟨g, 1, none⟩ = some c1 ∧ w.cell? ⟨g, 2, none⟩ = some c2 ∧ w.frozen? ⟨g, 0, none⟩ = false ∧ w.frozen? ⟨g, 1, none⟩ = false ∧ w.frozen? ⟨g, 2, none⟩ = false := ⟨(blk_cell h 0).trans rfl, (blk_cell h 1).trans rfl, (blk_cell h 2).trans rfl, blk_frozen h 0, blk_frozen h 1, blk_frozen h 2⟩
theorem cl4 {w : World} {g : Nat} {t : TypeId} {c0 c1 c2 c3 : Value} (h : w.heap[g]? = some (.cells #[c0, c1, c2, c3] t (0, 0))) : w.cell? ⟨g, 0, none⟩ = some c0 ∧ w.cell? ⟨g, 1, none⟩ = some c1 ∧ w.cell? ⟨g, 2, none⟩ = some c2 ∧ w.cell? ⟨g, 3, none⟩ = some c3 ∧ w.frozen? ⟨g, 0, none⟩ = false ∧ w.frozen? ⟨g, 1, none⟩ = false ∧ w.frozen? ⟨g, 2, none⟩ = false ∧ w.frozen? ⟨g, 3, none⟩ = false := ⟨(blk_cell h 0).trans rfl, (blk_cell h 1).trans rfl, (blk_cell h 2).trans rfl, (blk_cell h 3).trans rfl, blk_frozen h 0, blk_frozen h 1, blk_frozen h 2, blk_frozen h 3⟩
theorem cl5 {w : World} {g : Nat} {t : TypeId} {c0 c1 c2 c3 c4 : Value} (h : w.heap[g]? = some (.cells #[c0, c1, c2, c3, c4] t (0, 0))) : w.cell? ⟨g, 0, none⟩ = some c0 ∧ w.cell? ⟨g, 1, none⟩ = some c1 ∧ w.cell? ⟨g, 2, none⟩ = some c2 ∧ w.cell? ⟨g, 3, none⟩ = some c3 ∧ w.cell? ⟨g, 4, none⟩ = some c4 ∧ w.frozen? ⟨g, 0, none⟩ = false ∧ w.frozen? ⟨g, 1, none⟩ = false ∧ w.frozen? ⟨g, 2, none⟩ = false ∧ w.frozen? ⟨g, 3, none⟩ = false ∧ w.frozen? ⟨g, 4, none⟩ = false := ⟨(blk_cell h 0).trans rfl, (blk_cell h 1).trans rfl, (blk_cell h 2).trans rfl, (blk_cell h 3).trans rfl, (blk_cell h 4).trans rfl, blk_frozen h 0, blk_frozen h 1, blk_frozen h 2, blk_frozen h 3, blk_frozen h 4⟩
theorem cl6 {w : World} {g : Nat} {t : TypeId} {c0 c1 c2 c3 c4 c5 : Value} (h : w.heap[g]? = some (.cells #[c0, c1, c2, c3, c4, c5] t (0, 0))) : w.cell? ⟨g, 0, none⟩ = some c0 ∧ w.cell? ⟨g, 1, none⟩ = some c1 ∧ w.cell? ⟨g, 2, none⟩ = some c2 ∧ w.cell? ⟨g, 3, none⟩ = some c3 ∧ w.cell? ⟨g, 4, none⟩ = some c4 ∧ w.cell? ⟨g, 5, none⟩ = some c5 ∧ w.frozen? ⟨g, 0, none⟩ = false ∧ w.frozen? ⟨g, 1, none⟩ = false ∧ w.frozen? ⟨g, 2, none⟩ = false ∧ w.frozen? ⟨g, 3, none⟩ = false ∧ w.frozen? ⟨g, 4, none⟩ = false ∧ w.frozen? ⟨g, 5, none⟩ = false := ⟨(blk_cell h 0).trans rfl, (blk_cell h 1).trans rfl, (blk_cell h 2).trans rfl, (blk_cell h 3).trans rfl, (blk_cell h 4).trans rfl, (blk_cell h 5).trans rfl, blk_frozen h 0, blk_frozen h 1, blk_frozen h 2, blk_frozen h 3, blk_frozen h 4, blk_frozen h 5⟩
theorem cl7 {w : World} {g : Nat} {t : TypeId} {c0 c1 c2 c3 c4 c5 c6 : Value} (h : w.heap[g]? = some (.cells #[c0, c1, c2, c3, c4, c5, c6] t (0, 0))) : w.cell? ⟨g, 0, none⟩ = some c0 ∧ w.cell? ⟨g, 1, none⟩ = some c1 ∧ w.cell? ⟨g, 2, none⟩ = some c2 ∧ w.cell? ⟨g, 3, none⟩ = some c3 ∧ w.cell? ⟨g, 4, none⟩ = some c4 ∧ w.cell? ⟨g, 5, none⟩ = some c5 ∧ w.cell? ⟨g, 6, none⟩ = some c6 ∧ w.frozen? ⟨g, 0, none⟩ = false ∧ w.frozen? ⟨g, 1, none⟩ = false ∧ w.frozen? ⟨g, 2, none⟩ = false ∧ w.frozen? ⟨g, 3, none⟩ = false ∧ w.frozen? ⟨g, 4, none⟩ = false ∧ w.frozen? ⟨g, 5, none⟩ = false ∧ w.frozen? ⟨g, 6, none⟩ = false := ⟨(blk_cell h 0).trans rfl, (blk_cell h 1).trans rfl, (blk_cell h 2).trans rfl, (blk_cell h 3).trans rfl, (blk_cell h 4).trans rfl, (blk_cell h 5).trans rfl, (blk_cell h 6).trans rfl, blk_frozen h 0, blk_frozen h 1, blk_frozen h 2, blk_frozen h 3, blk_frozen h 4, blk_frozen h 5, blk_frozen h 6⟩
theorem cl8 {w : World} {g : Nat} {t : TypeId} {c0 c1 c2 c3 c4 c5 c6 c7 : Value} (h : w.heap[g]? = some (.cells #[c0, c1, c2, c3, c4, c5, c6, c7] t (0, 0))) : w.cell? ⟨g, 0, none⟩ = some c0 ∧ w.cell? ⟨g, 1, none⟩ = some c1 ∧ w.cell? ⟨g, 2, none⟩ = some c2 ∧ w.cell? ⟨g, 3, none⟩ = some c3 ∧ w.cell? ⟨g, 4, none⟩ = some c4 ∧ w.cell? ⟨g, 5, none⟩ = some c5 ∧ w.cell? ⟨g, 6, none⟩ = some c6 ∧ w.cell? ⟨g, 7, none⟩ = some c7 ∧ w.frozen? ⟨g, 0, none⟩ = false ∧ w.frozen? ⟨g, 1, none⟩ = false ∧ w.frozen? ⟨g, 2, none⟩ = false ∧ w.frozen? ⟨g, 3, none⟩ = false ∧ w.frozen? ⟨g, 4, none⟩ = false ∧ w.frozen? ⟨g, 5, none⟩ = false ∧ w.frozen? ⟨g, 6, none⟩ = false ∧ w.frozen? ⟨g, 7, none⟩ = false := ⟨(blk_cell h 0).trans rfl, (blk_cell h 1).trans rfl, (blk_cell h 2).trans rfl, (blk_cell h 3).trans rfl, (blk_cell h 4).trans rfl, (blk_cell h 5).trans rfl, (blk_cell h 6).trans rfl, (blk_cell h 7).trans rfl, blk_frozen h 0, blk_frozen h 1, blk_frozen h 2, blk_frozen h 3, blk_frozen h 4, blk_frozen h 5, blk_frozen h 6, blk_frozen h 7⟩
theorem cl9 {w : World} {g : Nat} {t : TypeId} {c0 c1 c2 c3 c4 c5 c6 c7 c8 : Value} (h : w.heap[g]? = some (.cells #[c0, c1, c2, c3, c4, c5, c6, c7, c8] t (0, 0))) : w.cell? ⟨g, 0, none⟩ = some c0 ∧ w.cell? ⟨g, 1, none⟩ = some c1 ∧ w.cell? ⟨g, 2, none⟩ = some c2 ∧ w.cell? ⟨g, 3, none⟩ = some c3 ∧ w.cell? ⟨g, 4, none⟩ = some c4 ∧ w.cell? ⟨g, 5, none⟩ = some c5 ∧ w.cell? ⟨g, 6, none⟩ = some c6 ∧ w.cell? ⟨g, 7, none⟩ = some c7 ∧ w.cell? ⟨g, 8, none⟩ = some c8 ∧ w.frozen? ⟨g, 0, none⟩ = false ∧ w.frozen? ⟨g, 1, none⟩ = false ∧ w.frozen? ⟨g, 2, none⟩ = false ∧ w.frozen? ⟨g, 3, none⟩ = false ∧ w.frozen? ⟨g, 4, none⟩ = false ∧ w.frozen? ⟨g, 5, none⟩ = false ∧ w.frozen? ⟨g, 6, none⟩ = false ∧ w.frozen? ⟨g, 7, none⟩ = false ∧ w.frozen? ⟨g, 8, none⟩ = false := ⟨(blk_cell h 0).trans rfl, (blk_cell h 1).trans rfl, (blk_cell h 2).trans rfl, (blk_cell h 3).trans rfl, (blk_cell h 4).trans rfl, (blk_cell h 5).trans rfl, (blk_cell h 6).trans rfl, (blk_cell h 7).trans rfl, (blk_cell h 8).trans rfl, blk_frozen h 0, blk_frozen h 1, blk_frozen h 2, blk_frozen h 3, blk_frozen h 4, blk_frozen h 5, blk_frozen h 6, blk_frozen h 7, blk_frozen h 8⟩
theorem cl10 {w : World} {g : Nat} {t : TypeId} {c0 c1 c2 c3 c4 c5 c6 c7 c8 c9 : Value} (h : w.heap[g]? = some (.cells #[c0, c1, c2, c3, c4, c5, c6, c7, c8, c9] t (0, 0))) : w.cell? ⟨g, 0, none⟩ = some c0 ∧ w.cell? ⟨g, 1, none⟩ = some c1 ∧ w.cell? ⟨g, 2, none⟩ = some c2 ∧ w.cell? ⟨g, 3, none⟩ = some c3 ∧ w.cell? ⟨g, 4, none⟩ = some c4 ∧ w.cell? ⟨g, 5, none⟩ = some c5 ∧ w.cell? ⟨g, 6, none⟩ = some c6 ∧ w.cell? ⟨g, 7, none⟩ = some c7 ∧ w.cell? ⟨g, 8, none⟩ = some c8 ∧ w.cell? ⟨g, 9, none⟩ = some c9 ∧ w.frozen? ⟨g, 0, none⟩ = false ∧ w.frozen? ⟨g, 1, none⟩ = false ∧ w.frozen? ⟨g, 2, none⟩ = false ∧ w.frozen? ⟨g, 3, none⟩ = false ∧ w.frozen? ⟨g, 4, none⟩ = false ∧ w.frozen? ⟨g, 5, none⟩ = false ∧ w.frozen? ⟨g, 6, none⟩ = false ∧ w.frozen? ⟨g, 7, none⟩ = false ∧ w.frozen? ⟨g, 8, none⟩ = false ∧ w.frozen? ⟨g, 9, none⟩ = false := ⟨(blk_cell h 0).trans rfl, (blk_cell h 1).trans rfl, (blk_cell h 2).trans rfl, (blk_cell h 3).trans rfl, (blk_cell h 4).trans rfl, (blk_cell h 5).trans rfl, (blk_cell h 6).trans rfl, (blk_cell h 7).trans rfl, (blk_cell h 8).trans rfl, (blk_cell h 9).trans rfl, blk_frozen h 0, blk_frozen h 1, blk_frozen h 2, blk_frozen h 3, blk_frozen h 4, blk_frozen h 5, blk_frozen h 6, blk_frozen h 7, blk_frozen h 8, blk_frozen h 9⟩
theorem cl11 {w : World} {g : Nat} {t : TypeId} {c0 c1 c2 c3 c4 c5 c6 c7 c8 c9 c10 : Value} (h : w.heap[g]? = some (.cells #[c0, c1, c2, c3, c4, c5, c6, c7, c8, c9, c10] t (0, 0))) : w.cell? ⟨g, 0, none⟩ = some c0 ∧ w.cell? ⟨g, 1, none⟩ = some c1 ∧ w.cell? ⟨g, 2, none⟩ = some c2 ∧ w.cell? ⟨g, 3, none⟩ = some c3 ∧ w.cell? ⟨g, 4, none⟩ = some c4 ∧ w.cell? ⟨g, 5, none⟩ = some c5 ∧ w.cell? ⟨g, 6, none⟩ = some c6 ∧ w.cell? ⟨g, 7, none⟩ = some c7 ∧ w.cell? ⟨g, 8, none⟩ = some c8 ∧ w.cell? ⟨g, 9, none⟩ = some c9 ∧ w.cell? ⟨g, 10, none⟩ = some c10 ∧ w.frozen? ⟨g, 0, none⟩ = false ∧ w.frozen? ⟨g, 1, none⟩ = false ∧ w.frozen? ⟨g, 2, none⟩ = false ∧ w.frozen? ⟨g, 3, none⟩ = false ∧ w.frozen? ⟨g, 4, none⟩ = false ∧ w.frozen? ⟨g, 5, none⟩ = false ∧ w.frozen? ⟨g, 6, none⟩ = false ∧ w.frozen? ⟨g, 7, none⟩ = false ∧ w.frozen? ⟨g, 8, none⟩ = false ∧ w.frozen? ⟨g, 9, none⟩ = false ∧ w.frozen? ⟨g, 10, none⟩ = false := ⟨(blk_cell h 0).trans rfl, (blk_cell h 1).trans rfl, (blk_cell h 2).trans rfl, (blk_cell h 3).trans rfl, (blk_cell h 4).trans rfl, (blk_cell h 5).trans rfl, (blk_cell h 6).trans rfl, (blk_cell h 7).trans rfl, (blk_cell h 8).trans rfl, (blk_cell h 9).trans rfl, (blk_cell h 10).trans rfl, blk_frozen h 0, blk_frozen h 1, blk_frozen h 2, blk_frozen h 3, blk_frozen h 4, blk_frozen h 5, blk_frozen h 6, blk_frozen h 7, blk_frozen h 8, blk_frozen h 9, blk_frozen h 10⟩
theorem cl12 {w : World} {g : Nat} {t : TypeId} {c0 c1 c2 c3 c4 c5 c6 c7 c8 c9 c10 c11 : Value} (h : w.heap[g]? = some (.cells #[c0, c1, c2, c3, c4, c5, c6, c7, c8, c9, c10, c11] t (0, 0))) : w.cell? ⟨g, 0, none⟩ = some c0 ∧ w.cell? ⟨g, 1, none⟩ = some c1 ∧ w.cell? ⟨g, 2, none⟩ = some c2 ∧ w.cell? ⟨g, 3, none⟩ = some c3 ∧ w.cell? ⟨g, 4, none⟩ = some c4 ∧ w.cell? ⟨g, 5, none⟩ = some c5 ∧ w.cell? ⟨g, 6, none⟩ = some c6 ∧ w.cell? ⟨g, 7, none⟩ = some c7 ∧ w.cell? ⟨g, 8, none⟩ = some c8 ∧ w.cell? ⟨g, 9, none⟩ = some c9 ∧ w.cell? ⟨g, 10, none⟩ = some c10 ∧ w.cell? ⟨g, 11, none⟩ = some c11 ∧ w.frozen? ⟨g, 0, none⟩ = false ∧ w.frozen? ⟨g, 1, none⟩ = false ∧ w.frozen? ⟨g, 2, none⟩ = false ∧ w.frozen? ⟨g, 3, none⟩ = false ∧ w.frozen? ⟨g, 4, none⟩ = false ∧ w.frozen? ⟨g, 5, none⟩ = false ∧ w.frozen? ⟨g, 6, none⟩ = false ∧ w.frozen? ⟨g, 7, none⟩ = false ∧ w.frozen? ⟨g, 8, none⟩ = false ∧ w.frozen? ⟨g, 9, none⟩ = false ∧ w.frozen? ⟨g, 10, none⟩ = false ∧ w.frozen? ⟨g, 11, none⟩ = false := ⟨(blk_cell h 0).trans rfl, (blk_cell h 1).trans rfl, (blk_cell h 2).trans rfl, (blk_cell h 3).trans rfl, (blk_cell h 4).trans rfl, (blk_cell h 5).trans rfl, (blk_cell h 6).trans rfl, (blk_cell h 7).trans rfl, (blk_cell h 8).trans rfl, (blk_cell h 9).trans rfl, (blk_cell h 10).trans rfl, (blk_cell h 11).trans rfl, blk_frozen h 0, blk_frozen h 1, blk_frozen h 2, blk_frozen h 3, blk_frozen h 4, blk_frozen h 5, blk_frozen h 6, blk_frozen h 7, blk_frozen h 8, blk_frozen h 9, blk_frozen h 10, blk_frozen h 11⟩
theorem sTA {α : Type} (l : List α) (i : Nat) (a : α) : l.toArray.setIfInBounds i a = (l.set i a).toArray := List.setIfInBounds_toArray l i a
theorem sZ {α : Type} {x : α} {xs : List α} {a : α} : (x :: xs).set 0 a = a :: xs := List.set_cons_zero
theorem sS {α : Type} {x : α} {xs : List α} {i : Nat} {a : α} : (x :: xs).set (i + 1) a = x :: xs.set i a := List.set_cons_succ
theorem aK {p : Prop} (h : p) : Aside0 p := ⟨h⟩
theorem bDN {B : Nat} {w W : World} (h : Below B w W) (n : Nat) : Below B w (W.drewN n) := pw_below_drewN h n
theorem bD1 {base : Nat} {w W : World} (h : Below base w W) : Below base w W.drew := below_drew1 h
theorem bAl {w W : World} (h : Below w.heap.size w W) (o : Obj) : Below w.heap.size w (W.alloc o) := below_alloc h o
theorem bSt {w W : World} {g j : Nat} {v : Value} (h : Below w.heap.size w W) (hg : w.heap.size ≤ g) : Below w.heap.size w (W.setCell ⟨g, j, none⟩ v) := below_set h hg
theorem bSz {w W : World} (h : Below w.heap.size w W) : w.heap.size ≤ W.heap.size := below_size h
theorem bSp {w W w2 : World} (h : Below w.heap.size w W) (k : Below W.heap.size W w2) : Below w.heap.size w w2 := below_step h k
theorem kC {w : World} {g : Nat} {t : TypeId} {cs : Array Value} (h : w.heap[g]? = some (.cells cs t (0, 0))) (i : Nat) : w.cell? ⟨g, i, none⟩ = cs[i]? := blk_cell h i
theorem kF {w : World} {g : Nat} {t : TypeId} {cs : Array Value} (h : w.heap[g]? = some (.cells cs t (0, 0))) (i : Nat) : w.frozen? ⟨g, i, none⟩ = false := blk_frozen h i
theorem kDN {w : World} {g : Nat} {o : Obj} (h : w.heap[g]? = some o) (n : Nat) : (w.drewN n).heap[g]? = some o := blk_drewN h n
theorem kD {w : World} {g : Nat} {o : Obj} (h : w.heap[g]? = some o) : w.drew.heap[g]? = some o := blk_drew h
theorem zN {w0 W : World} {g gb : Nat} {o : Obj} (A : Aside0 (w0.heap[g]? = some o)) (hg : gb = W.heap.size) (h : w0.heap[g]? = some o → W.heap[g]? = some o := by intro z_; (with_reducible repeat (first | refine kDN ?_ _ | refine kD ?_ | refine kA ?_ _)); exact z_) : Aside0 (g ≠ gb) := ⟨by rw [hg]; exact Nat.ne_of_lt (blk_lt (h A.out))⟩
theorem zQ {w : World} {g : Nat} {t : TypeId} {cs : Array Value} {v : Value} (h : Aside0 (w.heap[g]? = some (.cells cs t (0, 0)))) (i : Nat) (e : cs[i]? = some v := by rfl) : w.cell? ⟨g, i, none⟩ = some v := (blk_cell h.out i).trans e
theorem zK {A B : Prop} (h : Aside0 A) (f : A → B := by intro z_; (with_reducible repeat (first | refine kDN ?_ _ | refine kD ?_ | refine kA ?_ _)); exact z_) : B := f h.out
theorem zA {A B : Prop} (h : Aside0 A) (f : A → B := by intro z_; (with_reducible repeat (first | apply Kd.R_alloc | apply Kd.R_drewN | apply Kd.R_drew)); exact z_) : B := f h.out
theorem zB {w0 W w' : World} {g : Nat} {o : Obj} (A : Aside0 (w0.heap[g]? = some o)) (hb : Below W.heap.size W w') (h : w0.heap[g]? = some o → W.heap[g]? = some o := by intro z_; (with_reducible repeat (first | refine kDN ?_ _ | refine kD ?_ | refine kA ?_ _)); exact z_) : Aside0 (w'.heap[g]? = some o) := ⟨blk_below (h A.out) hb⟩
theorem zC {A B : Prop} (h : A) (f : A → B := by intro z_; repeat (first | exact z_ | (with_reducible refine Kd.C_alloc ?_ _) | (with_reducible refine Kd.C_drewN ?_ _) | (with_reducible refine Kd.C_drew ?_))) : B := f h
theorem zD {A : Prop} (f : A := by (try simp only [List.map_toArray, List.map_cons, List.map_nil]); first | done | rfl | (simp only [List.length_drop, List.length_take]; rfl)) : A := f
theorem zH0 {A B : Prop} (h : Aside0 A) (f : A → B := by intro z_; repeat (first | (with_reducible first | exact z_ | apply bAl | apply bDN | apply bD1) | exact z_)) : B := f h.out
theorem zH1 {A B C0 : Prop} (h : Aside0 A) (g0 : Aside0 C0) (f : A → C0 → B := by intro z_ y0_; repeat (first | (with_reducible first | exact z_ | apply bAl | apply bDN | apply bD1 | refine bSt ?_ y0_) | exact z_)) : B := f h.out g0.out
theorem zH2 {A B C0 C1 : Prop} (h : Aside0 A) (g0 : Aside0 C0) (g1 : Aside0 C1) (f : A → C0 → C1 → B := by intro z_ y0_ y1_; repeat (first | (with_reducible first | exact z_ | apply bAl | apply bDN | apply bD1 | refine bSt ?_ y0_ | refine bSt ?_ y1_) | exact z_)) : B := f h.out g0.out g1.out
theorem zH3 {A B C0 C1 C2 : Prop} (h : Aside0 A) (g0 : Aside0 C0) (g1 : Aside0 C1) (g2 : Aside0 C2) (f : A → C0 → C1 → C2 → B := by intro z_ y0_ y1_ y2_; repeat (first | (with_reducible first | exact z_ | apply bAl | apply bDN | apply bD1 | refine bSt ?_ y0_ | refine bSt ?_ y1_ | refine bSt ?_ y2_) | exact z_)) : B := f h.out g0.out g1.out g2.out
theorem zH4 {A B C0 C1 C2 C3 : Prop} (h : Aside0 A) (g0 : Aside0 C0) (g1 : Aside0 C1) (g2 : Aside0 C2) (g3 : Aside0 C3) (f : A → C0 → C1 → C2 → C3 → B := by intro z_ y0_ y1_ y2_ y3_; repeat (first | (with_reducible first | exact z_ | apply bAl | apply bDN | apply bD1 | refine bSt ?_ y0_ | refine bSt ?_ y1_ | refine bSt ?_ y2_ | refine bSt ?_ y3_) | exact z_)) : B := f h.out g0.out g1.out g2.out g3.out
theorem zH5 {A B C0 C1 C2 C3 C4 : Prop} (h : Aside0 A) (g0 : Aside0 C0) (g1 : Aside0 C1) (g2 : Aside0 C2) (g3 : Aside0 C3) (g4 : Aside0 C4) (f : A → C0 → C1 → C2 → C3 → C4 → B := by intro z_ y0_ y1_ y2_ y3_ y4_; repeat (first | (with_reducible first | exact z_ | apply bAl | apply bDN | apply bD1 | refine bSt ?_ y0_ | refine bSt ?_ y1_ | refine bSt ?_ y2_ | refine bSt ?_ y3_ | refine bSt ?_ y4_) | exact z_)) : B := f h.out g0.out g1.out g2.out g3.out g4.out
theorem zG2 {B : Prop} {w0 W w' : World} {g : Nat} {o : Obj} (A : Aside0 (w0.heap[g]? = some o)) (N : Aside0 B) (hb : Below W.heap.size W w') (h : B → w0.heap[g]? = some o → W.heap[g]? = some o := by intro y_ z_; (with_reducible repeat (first | refine kDN ?_ _ | refine kD ?_ | refine kA ?_ _)); refine blk_far ?_ y_ _; (with_reducible repeat (first | refine kDN ?_ _ | refine kD ?_ | refine kA ?_ _)); refine blk_far ?_ y_ _; (with_reducible repeat (first | refine kDN ?_ _ | refine kD ?_ | refine kA ?_ _)); exact z_) : Aside0 (w'.heap[g]? = some o) := ⟨blk_below (h N.out A.out) hb⟩
theorem zG3 {B : Prop} {w0 W w' : World} {g : Nat} {o : Obj} (A : Aside0 (w0.heap[g]? = some o)) (N : Aside0 B) (hb : Below W.heap.size W w') (h : B → w0.heap[g]? = some o → W.heap[g]? = some o := by intro y_ z_; (with_reducible repeat (first | refine kDN ?_ _ | refine kD ?_ | refine kA ?_ _)); refine blk_far ?_ y_ _; (with_reducible repeat (first | refine kDN ?_ _ | refine kD ?_ | refine kA ?_ _)); refine blk_far ?_ y_ _; (with_reducible repeat (first | refine kDN ?_ _ | refine kD ?_ | refine kA ?_ _)); refine blk_far ?_ y_ _; (with_reducible repeat (first | refine kDN ?_ _ | refine kD ?_ | refine kA ?_ _)); exact z_) : Aside0 (w'.heap[g]? = some o) := ⟨blk_below (h N.out A.out) hb⟩
theorem zP2 {w : World} {g : Nat} {t : TypeId} {c0 c1 : Value} (h : Aside0 (w.heap[g]? = some (.cells #[c0, c1] t (0, 0)))) (v0 v1 : Value) : Aside0 (((w.setCell ⟨g, 0, none⟩ v0).setCell ⟨g, 1, none⟩ v1).heap[g]? = some (.cells #[v0, v1] t (0, 0))) := ⟨(blk_put (cs := #[v0, c1]) (blk_put (cs := #[c0, c1]) h.out 0 _ rfl) 1 _ rfl)⟩
theorem zT2 {α : Type} {d : Kd α} {e t : TypeId} {w : World} {base g : Nat} {ok : Nat → Prop} {v : Value} {xs : List α} {cs : Array Value} (h : Aside0 (d.R e w base ok v xs)) (hb : Aside0 (w.heap[g]? = some (.cells cs t (0, 0)))) (v0 v1 : Value) (ht : ∀ q, q ∈ e :: d.E → q ≠ t := by decide) : d.R e ((w.setCell ⟨g, 0, none⟩ v0).setCell ⟨g, 1, none⟩ v1) base (fun k => ok k ∧ k ≠ g) v xs := (Kd.R_far (p := ⟨g, 1, none⟩) (Kd.R_far (p := ⟨g, 0, none⟩) (Kd.R_types h.out hb.out ht) (fun _ hk => hk.2) v0) (fun _ hk => hk.2) v1)

end Go.Proofs.Ytccjanhdnheclaa.F
end

section
namespace Go.Proofs.Ytccjanhdnheclaa.F
open Go.RowKit Go.Proofs.YtccjanhdnheclaaW.PrintWords Go.Proofs.YtccjanhdnheclaaW.PrintLast Go.Proofs.YtccjanhdnheclaaW.PrintMore
set_option linter.unusedVariables false
set_option linter.unusedSimpArgs false
attribute [local go_sem] max2_int min2_int max_two min_two
set_option maxRecDepth 20000
set_option maxHeartbeats 4000000
open Nat renaming reduceAdd → p1, reduceSub → p2, reduceMul → p3, reduceDiv → p4, reduceBNe → p5, reduceBEq → p6, reduceEqDiff → p7, reduceLeDiff → p8, reduceLT → p9
open Int renaming reduceLE → p10, reduceLT → p11, reduceEq → p12
theorem spec_l01In.ctr {a0 : Int} {a1 : Int} {a2 : Int} {r : Bool} (h : spec_l01In.f a0 a1 a2 = some r) : Ctr Try.prog 67 [.v (.int .i64 a0), .v (.int .i64 a1), .v (.int .i64 a2)] (.v (.bool r)) := by
  refine Ctr_of tyOk hm Try.func67 rfl rfl (by kernel_rfl) (n := 12) (rv := [.tmp 6]) rfl rfl ?_
  simp only [W, List.replicate]
  unfold spec_l01In.f at h
  replace h := ifS h; rcases h with ⟨c1, h⟩ | ⟨c1, h⟩
  · cases h
    try simp only [W, c1, p1, p2, p3, p4, p5, p6, p7, p8, p9, p10, p11, p12]
  · cases h
    try simp only [W, c1, p1, p2, p3, p4, p5, p6, p7, p8, p9, p10, p11, p12]
theorem spec_GridOk.ctr {a0_0 : Int} {a0_1 : Int} {r : Bool} (h : spec_GridOk.f a0_0 a0_1 = some r) : Ctr Try.prog 54 [.ag [.v (.int .i64 a0_0), .v (.int .i64 a0_1)]] (.v (.bool r)) := by
  refine Ctr_of tyOk hm Try.func54 rfl rfl (by kernel_rfl) (n := 10) (rv := [.tmp 2]) rfl rfl ?_
  simp only [W, List.replicate]
  unfold spec_GridOk.f at h
  replace h := bnd h; obtain ⟨t1, A, h⟩ := h
  try simp only [W, p1, p2, p3, p4, p5, p6, p7, p8, p9, p10, p11, p12]
  refine callR (spec_l01In.ctr A) ?_
  replace h := ifT h; rcases h with ⟨rfl, h⟩ | ⟨rfl, h⟩
  · replace h := bnd h; obtain ⟨t3, A, h⟩ := h
    try simp only [W, p1, p2, p3, p4, p5, p6, p7, p8, p9, p10, p11, p12]
    refine callR (spec_l01In.ctr A) ?_
    cases h
    try simp only [W, p1, p2, p3, p4, p5, p6, p7, p8, p9, p10, p11, p12]
  · cases h
    try simp only [W, p1, p2, p3, p4, p5, p6, p7, p8, p9, p10, p11, p12]
theorem spec_CountCells.ctr {a0_0 : Int} {a0_1 : Int} {r : Int} (h : spec_CountCells.f a0_0 a0_1 = some r) : Ctr Try.prog 22 [.ag [.v (.int .i64 a0_0), .v (.int .i64 a0_1)]] (.v (.int .i64 r)) := by
  refine Ctr_of tyOk hm Try.func22 rfl rfl (by kernel_rfl) (n := 10) (rv := [.tmp 2]) rfl rfl ?_
  simp only [W, List.replicate]
  unfold spec_CountCells.f at h
  replace h := bnd h; obtain ⟨t1, A, h⟩ := h
  try simp only [W, p1, p2, p3, p4, p5, p6, p7, p8, p9, p10, p11, p12]
  refine callR (spec_GridOk.ctr A) ?_
  replace h := ifT h; rcases h with ⟨rfl, h⟩ | ⟨rfl, h⟩
  · cases h
    try simp only [W, p1, p2, p3, p4, p5, p6, p7, p8, p9, p10, p11, p12]
  · cases h
    try simp only [W, p1, p2, p3, p4, p5, p6, p7, p8, p9, p10, p11, p12]
theorem spec_CountCells.calls (a0_0 : Int) (a0_1 : Int) (r : Int) (w : World) (h : spec_CountCells.f a0_0 a0_1 = some r) :
    Calls Try.prog 22 #[.agg #[.int .i64 a0_0, .int .i64 a0_1]] w fun e w' => e = .returned (.int .i64 r) ∧ Below w.heap.size w w' := by
  refine ((spec_CountCells.ctr h).2 w [.agg #[.int .i64 a0_0, .int .i64 a0_1]] (by simp only [RepL, Rep]; exact ⟨_, _, rfl, ⟨_, rfl, _, _, rfl, rfl, _, _, rfl, rfl, rfl⟩, rfl⟩)).mono ?_
  rintro _ _ ⟨y, L, rfl, hR, _, hb⟩
  exact ⟨congrArg Ending.returned (RepR_pln rfl hR).1, hb⟩
theorem spec_l02East.ctr {a0_0 : Int} {a0_1 : Int} {r : Int} (h : spec_l02East.f a0_0 a0_1 = some r) : Ctr Try.prog 85 [.ag [.v (.int .i64 a0_0), .v (.int .i64 a0_1)]] (.v (.int .i64 r)) := by
  refine Ctr_of tyOk hm Try.func85 rfl rfl (by kernel_rfl) (n := 8) (rv := [.tmp 2]) rfl rfl ?_
  simp only [W, List.replicate]
  unfold spec_l02East.f at h
  cases h
  try simp only [W, p1, p2, p3, p4, p5, p6, p7, p8, p9, p10, p11, p12]
theorem spec_CountGaps.ctr {a0_0 : Int} {a0_1 : Int} {r : Int} (h : spec_CountGaps.f a0_0 a0_1 = some r) : Ctr Try.prog 68 [.ag [.v (.int .i64 a0_0), .v (.int .i64 a0_1)]] (.v (.int .i64 r)) := by
  refine Ctr_of tyOk hm Try.func68 rfl rfl (by kernel_rfl) (n := 14) (rv := [.tmp 2]) rfl rfl ?_
  simp only [W, List.replicate]
  unfold spec_CountGaps.f at h
  replace h := bnd h; obtain ⟨t1, A, h⟩ := h
  try simp only [W, p1, p2, p3, p4, p5, p6, p7, p8, p9, p10, p11, p12]
  refine callR (spec_GridOk.ctr A) ?_
  replace h := ifT h; rcases h with ⟨rfl, h⟩ | ⟨rfl, h⟩
  · replace h := bnd h; obtain ⟨t3, A, h⟩ := h
    try simp only [W, p1, p2, p3, p4, p5, p6, p7, p8, p9, p10, p11, p12]
    refine callR (spec_l02East.ctr A) ?_
    cases h
    try simp only [W, p1, p2, p3, p4, p5, p6, p7, p8, p9, p10, p11, p12]
  · cases h
    try simp only [W, p1, p2, p3, p4, p5, p6, p7, p8, p9, p10, p11, p12]
theorem spec_CountGaps.calls (a0_0 : Int) (a0_1 : Int) (r : Int) (w : World) (h : spec_CountGaps.f a0_0 a0_1 = some r) :
    Calls Try.prog 68 #[.agg #[.int .i64 a0_0, .int .i64 a0_1]] w fun e w' => e = .returned (.int .i64 r) ∧ Below w.heap.size w w' := by
  refine ((spec_CountGaps.ctr h).2 w [.agg #[.int .i64 a0_0, .int .i64 a0_1]] (by simp only [RepL, Rep]; exact ⟨_, _, rfl, ⟨_, rfl, _, _, rfl, rfl, _, _, rfl, rfl, rfl⟩, rfl⟩)).mono ?_
  rintro _ _ ⟨y, L, rfl, hR, _, hb⟩
  exact ⟨congrArg Ending.returned (RepR_pln rfl hR).1, hb⟩
theorem spec_MazeOk.ctr {a0_0 : Int} {a0_1 : Int} {a0_2 : Int} {r : Bool} (h : spec_MazeOk.f a0_0 a0_1 a0_2 = some r) : Ctr Try.prog 34 [.ag [.v (.int .i64 a0_0), .v (.int .i64 a0_1), .v (.int .i64 a0_2)]] (.v (.bool r)) := by
  refine Ctr_of tyOk hm Try.func34 rfl rfl (by kernel_rfl) (n := 15) (rv := [.tmp 2]) rfl rfl ?_
  simp only [W, List.replicate]
  unfold spec_MazeOk.f at h
  replace h := bnd h; obtain ⟨t1, A, h⟩ := h
  try simp only [W, p1, p2, p3, p4, p5, p6, p7, p8, p9, p10, p11, p12]
  refine callR (spec_GridOk.ctr A) ?_
  replace h := ifT h; rcases h with ⟨rfl, h⟩ | ⟨rfl, h⟩
  · replace h := bnd h; obtain ⟨t3, A, h⟩ := h
    try simp only [W, p1, p2, p3, p4, p5, p6, p7, p8, p9, p10, p11, p12]
    refine callR (spec_CountGaps.ctr A) ?_
    replace h := ifN h; obtain ⟨c4, h⟩ := h
    replace h := bnd h; obtain ⟨t5, A, h⟩ := h
    try simp only [W, c4, p1, p2, p3, p4, p5, p6, p7, p8, p9, p10, p11, p12]
    refine callR (spec_l01In.ctr A) ?_
    cases h
    try simp only [W, c4, p1, p2, p3, p4, p5, p6, p7, p8, p9, p10, p11, p12]
  · cases h
    try simp only [W, p1, p2, p3, p4, p5, p6, p7, p8, p9, p10, p11, p12]
theorem spec_l03Bit.ctr {a0 : Int} {a1 : Int} {r : Bool} (h : spec_l03Bit.f a0 a1 = some r) : Ctr Try.prog 84 [.v (.int .i64 a0), .v (.int .i64 a1)] (.v (.bool r)) := by
  refine Ctr_of tyOk hm Try.func84 rfl rfl (by kernel_rfl) (n := 8) (rv := [.tmp 4]) rfl rfl ?_
  simp only [W, List.replicate]
  unfold spec_l03Bit.f at h
  replace h := ifN h; obtain ⟨c1, h⟩ := h
  cases h
  try simp only [W, c1, p1, p2, p3, p4, p5, p6, p7, p8, p9, p10, p11, p12]
theorem spec_IsPassage.ctr {a0_0 : Int} {a0_1 : Int} {a0_2 : Int} {a1 : Int} {r : Bool} (h : spec_IsPassage.f a0_0 a0_1 a0_2 a1 = some r) : Ctr Try.prog 51 [.ag [.v (.int .i64 a0_0), .v (.int .i64 a0_1), .v (.int .i64 a0_2)], .v (.int .i64 a1)] (.v (.bool r)) := by
  refine Ctr_of tyOk hm Try.func51 rfl rfl (by kernel_rfl) (n := 19) (rv := [.tmp 4]) rfl rfl ?_
  simp only [W, List.replicate]
  unfold spec_IsPassage.f at h
  replace h := bnd h; obtain ⟨t1, A, h⟩ := h
  try simp only [W, p1, p2, p3, p4, p5, p6, p7, p8, p9, p10, p11, p12]
  refine callR (spec_MazeOk.ctr A) ?_
  replace h := ifT h; rcases h with ⟨rfl, h⟩ | ⟨rfl, h⟩
  · replace h := bnd h; obtain ⟨t3, A, h⟩ := h
    try simp only [W, p1, p2, p3, p4, p5, p6, p7, p8, p9, p10, p11, p12]
    refine callR (spec_CountGaps.ctr A) ?_
    replace h := bnd h; obtain ⟨t4, A, h⟩ := h
    try simp only [W, p1, p2, p3, p4, p5, p6, p7, p8, p9, p10, p11, p12]
    refine callR (spec_l01In.ctr A) ?_
    replace h := ifT h; rcases h with ⟨rfl, h⟩ | ⟨rfl, h⟩
    · replace h := bnd h; obtain ⟨t6, A, h⟩ := h
      try simp only [W, p1, p2, p3, p4, p5, p6, p7, p8, p9, p10, p11, p12]
      refine callR (spec_l03Bit.ctr A) ?_
      cases h
      try simp only [W, p1, p2, p3, p4, p5, p6, p7, p8, p9, p10, p11, p12]
    · cases h
      try simp only [W, p1, p2, p3, p4, p5, p6, p7, p8, p9, p10, p11, p12]
  · cases h
    try simp only [W, p1, p2, p3, p4, p5, p6, p7, p8, p9, p10, p11, p12]
theorem spec_Neighbor.ctr {k : Nat} {a0_0 : Int} {a0_1 : Int} {a1 : Int} {a2 : Int} {r : Int} (h : spec_Neighbor.f k a0_0 a0_1 a1 a2 = some r) : Ctr Try.prog 53 [.ag [.v (.int .i64 a0_0), .v (.int .i64 a0_1)], .v (.int .i64 a1), .v (.int .i64 a2)] (.v (.int .i64 r)) := by
  refine Ctr_of tyOk hm Try.func53 rfl rfl (by kernel_rfl) (n := 57) (rv := [.tmp 6]) rfl rfl ?_
  simp only [W, List.replicate]
  unfold spec_Neighbor.f at h
  replace h := bnd h; obtain ⟨t1, A, h⟩ := h
  try simp only [W, p1, p2, p3, p4, p5, p6, p7, p8, p9, p10, p11, p12]
  refine callR (spec_CountCells.ctr A) ?_
  replace h := bnd h; obtain ⟨t2, A, h⟩ := h
  try simp only [W, p1, p2, p3, p4, p5, p6, p7, p8, p9, p10, p11, p12]
  refine callR (spec_l01In.ctr A) ?_
  replace h := ifT h; rcases h with ⟨rfl, h⟩ | ⟨rfl, h⟩
  · replace h := ifM h; obtain ⟨c4, h⟩ := h
    replace h := ifS h; rcases h with ⟨c5, h⟩ | ⟨c5, h⟩
    · rcases k with _ | m6; · cases h
      rw [spec_Neighbor.j0] at h
      replace h := bnd h; obtain ⟨t7, A, h⟩ := h
      try simp only [W, c4, eq_true c5, p1, p2, p3, p4, p5, p6, p7, p8, p9, p10, p11, p12]
      refine callR (spec_l01In.ctr A) ?_
      replace h := ifT h; rcases h with ⟨rfl, h⟩ | ⟨rfl, h⟩
      · replace h := bnd h; obtain ⟨t9, A, h⟩ := h
        try simp only [W, c4, eq_true c5, p1, p2, p3, p4, p5, p6, p7, p8, p9, p10, p11, p12]
        refine callR (spec_l01In.ctr A) ?_
        replace h := ifT h; rcases h with ⟨rfl, h⟩ | ⟨rfl, h⟩
        · cases h
          try simp only [W, c4, eq_true c5, p1, p2, p3, p4, p5, p6, p7, p8, p9, p10, p11, p12]
        · cases h
          try simp only [W, c4, eq_true c5, p1, p2, p3, p4, p5, p6, p7, p8, p9, p10, p11, p12]
      · cases h
        try simp only [W, c4, eq_true c5, p1, p2, p3, p4, p5, p6, p7, p8, p9, p10, p11, p12]
    · replace h := ifS h; rcases h with ⟨c6, h⟩ | ⟨c6, h⟩
      · rcases k with _ | m7; · cases h
        rw [spec_Neighbor.j0] at h
        replace h := bnd h; obtain ⟨t8, A, h⟩ := h
        try simp only [W, c4, c5, eq_true c6, p1, p2, p3, p4, p5, p6, p7, p8, p9, p10, p11, p12]
        refine callR (spec_l01In.ctr A) ?_
        replace h := ifT h; rcases h with ⟨rfl, h⟩ | ⟨rfl, h⟩
        · replace h := bnd h; obtain ⟨t10, A, h⟩ := h
          try simp only [W, c4, c5, eq_true c6, p1, p2, p3, p4, p5, p6, p7, p8, p9, p10, p11, p12]
          refine callR (spec_l01In.ctr A) ?_
          replace h := ifT h; rcases h with ⟨rfl, h⟩ | ⟨rfl, h⟩
          · cases h
            try simp only [W, c4, c5, eq_true c6, p1, p2, p3, p4, p5, p6, p7, p8, p9, p10, p11, p12]
          · cases h
            try simp only [W, c4, c5, eq_true c6, p1, p2, p3, p4, p5, p6, p7, p8, p9, p10, p11, p12]
        · cases h
          try simp only [W, c4, c5, eq_true c6, p1, p2, p3, p4, p5, p6, p7, p8, p9, p10, p11, p12]
      · replace h := ifS h; rcases h with ⟨c7, h⟩ | ⟨c7, h⟩
        · rcases k with _ | m8; · cases h
          rw [spec_Neighbor.j0] at h
          replace h := bnd h; obtain ⟨t9, A, h⟩ := h
          try simp only [W, c4, c5, c6, eq_true c7, p1, p2, p3, p4, p5, p6, p7, p8, p9, p10, p11, p12]
          refine callR (spec_l01In.ctr A) ?_
          replace h := ifT h; rcases h with ⟨rfl, h⟩ | ⟨rfl, h⟩
          · replace h := bnd h; obtain ⟨t11, A, h⟩ := h
            try simp only [W, c4, c5, c6, eq_true c7, p1, p2, p3, p4, p5, p6, p7, p8, p9, p10, p11, p12]
            refine callR (spec_l01In.ctr A) ?_
            replace h := ifT h; rcases h with ⟨rfl, h⟩ | ⟨rfl, h⟩
            · cases h
              try simp only [W, c4, c5, c6, eq_true c7, p1, p2, p3, p4, p5, p6, p7, p8, p9, p10, p11, p12]
            · cases h
              try simp only [W, c4, c5, c6, eq_true c7, p1, p2, p3, p4, p5, p6, p7, p8, p9, p10, p11, p12]
          · cases h
            try simp only [W, c4, c5, c6, eq_true c7, p1, p2, p3, p4, p5, p6, p7, p8, p9, p10, p11, p12]
        · replace h := ifS h; rcases h with ⟨c8, h⟩ | ⟨c8, h⟩
          · rcases k with _ | m9; · cases h
            rw [spec_Neighbor.j0] at h
            replace h := bnd h; obtain ⟨t10, A, h⟩ := h
            try simp only [W, c4, c5, c6, c7, eq_true c8, p1, p2, p3, p4, p5, p6, p7, p8, p9, p10, p11, p12]
            refine callR (spec_l01In.ctr A) ?_
            replace h := ifT h; rcases h with ⟨rfl, h⟩ | ⟨rfl, h⟩
            · replace h := bnd h; obtain ⟨t12, A, h⟩ := h
              try simp only [W, c4, c5, c6, c7, eq_true c8, p1, p2, p3, p4, p5, p6, p7, p8, p9, p10, p11, p12]
              refine callR (spec_l01In.ctr A) ?_
              replace h := ifT h; rcases h with ⟨rfl, h⟩ | ⟨rfl, h⟩
              · cases h
                try simp only [W, c4, c5, c6, c7, eq_true c8, p1, p2, p3, p4, p5, p6, p7, p8, p9, p10, p11, p12]
              · cases h
                try simp only [W, c4, c5, c6, c7, eq_true c8, p1, p2, p3, p4, p5, p6, p7, p8, p9, p10, p11, p12]
            · cases h
              try simp only [W, c4, c5, c6, c7, eq_true c8, p1, p2, p3, p4, p5, p6, p7, p8, p9, p10, p11, p12]
          · cases h
            try simp only [W, c4, c5, c6, c7, c8, p1, p2, p3, p4, p5, p6, p7, p8, p9, p10, p11, p12]
  · cases h
    try simp only [W, p1, p2, p3, p4, p5, p6, p7, p8, p9, p10, p11, p12]
end Go.Proofs.Ytccjanhdnheclaa.F
end

section
namespace Go.Proofs.Ytccjanhdnheclaa.F
open Go.RowKit Go.Proofs.YtccjanhdnheclaaW.PrintWords Go.Proofs.YtccjanhdnheclaaW.PrintLast Go.Proofs.YtccjanhdnheclaaW.PrintMore
set_option linter.unusedVariables false
set_option linter.unusedSimpArgs false
attribute [local go_sem] max2_int min2_int max_two min_two
set_option maxRecDepth 20000
set_option maxHeartbeats 4000000
open Nat renaming reduceAdd → p1, reduceSub → p2, reduceMul → p3, reduceDiv → p4, reduceBNe → p5, reduceBEq → p6, reduceEqDiff → p7, reduceLeDiff → p8, reduceLT → p9
open Int renaming reduceLE → p10, reduceLT → p11, reduceEq → p12
theorem spec_GapAt.ctr {k : Nat} {a0_0 : Int} {a0_1 : Int} {a1 : Int} {a2 : Int} {r : Int} (h : spec_GapAt.f k a0_0 a0_1 a1 a2 = some r) : Ctr Try.prog 52 [.ag [.v (.int .i64 a0_0), .v (.int .i64 a0_1)], .v (.int .i64 a1), .v (.int .i64 a2)] (.v (.int .i64 r)) := by
  refine Ctr_of tyOk hm Try.func52 rfl rfl (by kernel_rfl) (n := 38) (rv := [.tmp 6]) rfl rfl ?_
  simp only [W, List.replicate]
  unfold spec_GapAt.f at h
  replace h := bnd h; obtain ⟨t1, A, h⟩ := h
  try simp only [W, p1, p2, p3, p4, p5, p6, p7, p8, p9, p10, p11, p12]
  refine callR (spec_Neighbor.ctr A) ?_
  replace h := ifS h; rcases h with ⟨c2, h⟩ | ⟨c2, h⟩
  · cases h
    try simp only [W, c2, p1, p2, p3, p4, p5, p6, p7, p8, p9, p10, p11, p12]
  · replace h := ifS h; rcases h with ⟨c3, h⟩ | ⟨c3, h⟩
    · replace h := ifM h; obtain ⟨c4, h⟩ := h
      cases h
      try simp only [W, c2, eq_true c3, c4, p1, p2, p3, p4, p5, p6, p7, p8, p9, p10, p11, p12]
    · replace h := ifS h; rcases h with ⟨c4, h⟩ | ⟨c4, h⟩
      · replace h := ifM h; obtain ⟨c5, h⟩ := h
        cases h
        try simp only [W, c2, c3, eq_true c4, c5, p1, p2, p3, p4, p5, p6, p7, p8, p9, p10, p11, p12]
      · replace h := bnd h; obtain ⟨t5, A, h⟩ := h
        try simp only [W, c2, c3, c4, p1, p2, p3, p4, p5, p6, p7, p8, p9, p10, p11, p12]
        refine callR (spec_l02East.ctr A) ?_
        cases h
        try simp only [W, c2, c3, c4, p1, p2, p3, p4, p5, p6, p7, p8, p9, p10, p11, p12]
theorem spec_Step.ctr {k : Nat} {a0_0 : Int} {a0_1 : Int} {a0_2 : Int} {a1 : Int} {a2 : Int} {r : Int} (h : spec_Step.f k a0_0 a0_1 a0_2 a1 a2 = some r) : Ctr Try.prog 21 [.ag [.v (.int .i64 a0_0), .v (.int .i64 a0_1), .v (.int .i64 a0_2)], .v (.int .i64 a1), .v (.int .i64 a2)] (.v (.int .i64 r)) := by
  refine Ctr_of tyOk hm Try.func21 rfl rfl (by kernel_rfl) (n := 22) (rv := [.tmp 6]) rfl rfl ?_
  simp only [W, List.replicate]
  unfold spec_Step.f at h
  replace h := bnd h; obtain ⟨t1, A, h⟩ := h
  try simp only [W, p1, p2, p3, p4, p5, p6, p7, p8, p9, p10, p11, p12]
  refine callR (spec_MazeOk.ctr A) ?_
  replace h := ifT h; rcases h with ⟨rfl, h⟩ | ⟨rfl, h⟩
  · replace h := bnd h; obtain ⟨t3, A, h⟩ := h
    try simp only [W, p1, p2, p3, p4, p5, p6, p7, p8, p9, p10, p11, p12]
    refine callR (spec_GapAt.ctr A) ?_
    replace h := bnd h; obtain ⟨t4, A, h⟩ := h
    try simp only [W, p1, p2, p3, p4, p5, p6, p7, p8, p9, p10, p11, p12]
    refine callR (spec_IsPassage.ctr A) ?_
    replace h := ifT h; rcases h with ⟨rfl, h⟩ | ⟨rfl, h⟩
    · replace h := bnd h; obtain ⟨t6, A, h⟩ := h
      try simp only [W, p1, p2, p3, p4, p5, p6, p7, p8, p9, p10, p11, p12]
      refine callR (spec_Neighbor.ctr A) ?_
      cases h
      try simp only [W, p1, p2, p3, p4, p5, p6, p7, p8, p9, p10, p11, p12]
    · cases h
      try simp only [W, p1, p2, p3, p4, p5, p6, p7, p8, p9, p10, p11, p12]
  · cases h
    try simp only [W, p1, p2, p3, p4, p5, p6, p7, p8, p9, p10, p11, p12]
theorem impl_GridOk.ctr {a0_0 : Int} {a0_1 : Int} {r : Bool} (h : impl_GridOk.f a0_0 a0_1 = some r) : Ctr Try.prog 71 [.ag [.v (.int .i64 a0_0), .v (.int .i64 a0_1)]] (.v (.bool r)) := by
  refine Ctr_of tyOk hm Try.func71 rfl rfl (by kernel_rfl) (n := 20) (rv := [.tmp 2]) rfl rfl ?_
  simp only [W, List.replicate]
  unfold impl_GridOk.f at h
  replace h := ifS h; rcases h with ⟨c1, h⟩ | ⟨c1, h⟩
  · replace h := ifS h; rcases h with ⟨c2, h⟩ | ⟨c2, h⟩
    · replace h := ifS h; rcases h with ⟨c3, h⟩ | ⟨c3, h⟩
      · cases h
        try simp only [W, c1, c2, c3, p1, p2, p3, p4, p5, p6, p7, p8, p9, p10, p11, p12]
      · cases h
        try simp only [W, c1, c2, c3, p1, p2, p3, p4, p5, p6, p7, p8, p9, p10, p11, p12]
    · cases h
      try simp only [W, c1, c2, p1, p2, p3, p4, p5, p6, p7, p8, p9, p10, p11, p12]
  · cases h
    try simp only [W, c1, p1, p2, p3, p4, p5, p6, p7, p8, p9, p10, p11, p12]
theorem impl_CountGaps.ctr {a0_0 : Int} {a0_1 : Int} {r : Int} (h : impl_CountGaps.f a0_0 a0_1 = some r) : Ctr Try.prog 72 [.ag [.v (.int .i64 a0_0), .v (.int .i64 a0_1)]] (.v (.int .i64 r)) := by
  refine Ctr_of tyOk hm Try.func72 rfl rfl (by kernel_rfl) (n := 18) (rv := [.tmp 2]) rfl rfl ?_
  simp only [W, List.replicate]
  unfold impl_CountGaps.f at h
  replace h := bnd h; obtain ⟨t1, A, h⟩ := h
  try simp only [W, p1, p2, p3, p4, p5, p6, p7, p8, p9, p10, p11, p12]
  refine callR (impl_GridOk.ctr A) ?_
  replace h := ifT h; rcases h with ⟨rfl, h⟩ | ⟨rfl, h⟩
  · cases h
    try simp only [W, p1, p2, p3, p4, p5, p6, p7, p8, p9, p10, p11, p12]
  · cases h
    try simp only [W, p1, p2, p3, p4, p5, p6, p7, p8, p9, p10, p11, p12]
end Go.Proofs.Ytccjanhdnheclaa.F
end

section
namespace Go.Proofs.Ytccjanhdnheclaa.F
open Go.RowKit Go.Proofs.YtccjanhdnheclaaW.PrintWords Go.Proofs.YtccjanhdnheclaaW.PrintLast Go.Proofs.YtccjanhdnheclaaW.PrintMore
set_option linter.unusedVariables false
set_option linter.unusedSimpArgs false
attribute [local go_sem] max2_int min2_int max_two min_two
set_option maxRecDepth 20000
set_option maxHeartbeats 4000000
open Nat renaming reduceAdd → p1, reduceSub → p2, reduceMul → p3, reduceDiv → p4, reduceBNe → p5, reduceBEq → p6, reduceEqDiff → p7, reduceLeDiff → p8, reduceLT → p9
open Int renaming reduceLE → p10, reduceLT → p11, reduceEq → p12
theorem impl_MazeOk.ctr {a0_0 : Int} {a0_1 : Int} {a0_2 : Int} {r : Bool} (h : impl_MazeOk.f a0_0 a0_1 a0_2 = some r) : Ctr Try.prog 38 [.ag [.v (.int .i64 a0_0), .v (.int .i64 a0_1), .v (.int .i64 a0_2)]] (.v (.bool r)) := by
  refine Ctr_of tyOk hm Try.func38 rfl rfl (by kernel_rfl) (n := 19) (rv := [.tmp 2]) rfl rfl ?_
  simp only [W, List.replicate]
  unfold impl_MazeOk.f at h
  replace h := bnd h; obtain ⟨t1, A, h⟩ := h
  try simp only [W, p1, p2, p3, p4, p5, p6, p7, p8, p9, p10, p11, p12]
  refine callR (impl_GridOk.ctr A) ?_
  replace h := ifT h; rcases h with ⟨rfl, h⟩ | ⟨rfl, h⟩
  · replace h := ifS h; rcases h with ⟨c3, h⟩ | ⟨c3, h⟩
    · replace h := bnd h; obtain ⟨t4, A, h⟩ := h
      try simp only [W, c3, p1, p2, p3, p4, p5, p6, p7, p8, p9, p10, p11, p12]
      refine callR (impl_CountGaps.ctr A) ?_
      replace h := ifN h; obtain ⟨c5, h⟩ := h
      cases h
      try simp only [W, c3, c5, p1, p2, p3, p4, p5, p6, p7, p8, p9, p10, p11, p12]
    · cases h
      try simp only [W, c3, p1, p2, p3, p4, p5, p6, p7, p8, p9, p10, p11, p12]
  · cases h
    try simp only [W, p1, p2, p3, p4, p5, p6, p7, p8, p9, p10, p11, p12]
theorem impl_MazeOk.calls (a0_0 : Int) (a0_1 : Int) (a0_2 : Int) (r : Bool) (w : World) (h : impl_MazeOk.f a0_0 a0_1 a0_2 = some r) :
    Calls Try.prog 38 #[.agg #[.int .i64 a0_0, .int .i64 a0_1, .int .i64 a0_2]] w fun e w' => e = .returned (.bool r) ∧ Below w.heap.size w w' := by
  refine ((impl_MazeOk.ctr h).2 w [.agg #[.int .i64 a0_0, .int .i64 a0_1, .int .i64 a0_2]] (by simp only [RepL, Rep]; exact ⟨_, _, rfl, ⟨_, rfl, _, _, rfl, rfl, _, _, rfl, rfl, _, _, rfl, rfl, rfl⟩, rfl⟩)).mono ?_
  rintro _ _ ⟨y, L, rfl, hR, _, hb⟩
  exact ⟨congrArg Ending.returned (RepR_pln rfl hR).1, hb⟩
set_option maxHeartbeats 2000000 in
theorem slices_IndexFunc_int.calls (p : Int → Bool) (g : Nat) (lb : Array Value) (eg : ∀ args w, (callFunc g args).run Try.prog w = .ok (.enter g args) w) (A0 : Option Addr) (c0 : Nat) (l0 : List Int) (w : World) (hr0 : Kd.C (Kd.int .i64) w A0 l0.length l0)
  (hp : ∀ (W : World) (x : Int), x ∈ l0 → Below w.heap.size w W → Calls Try.prog g (#[.int .i64 x] ++ lb) W fun e w' => e = .returned (.bool (p x)) ∧ Below w.heap.size w w') :
  Calls Try.prog 101 #[.slice A0 l0.length c0, .func (.func g) #[] lb] w fun e w' => e = .returned (.int .i64 (idxF p l0)) ∧ Below w.heap.size w w' := by
 have hn : l0.length ≤ 9223372036854775807 := hr0.2.1
 go_enter Try.func101, Try.ntmps101
 go_wp2
 go_loopg [5, 8] l0.length (fun gg _ s8 wr => ∃ kk : Nat, kk ≤ l0.length ∧ l0.length - kk ≤ gg ∧ s8 = .int .i64 kk ∧ Aside0 (Below w.heap.size w wr) ∧ Aside0 (∀ j, j < kk → p (rd l0 (j : Int)) = false))
 case atStart => exact ⟨0, Nat.zero_le _, by omega, rfl, ⟨Below.refl _ w⟩, ⟨fun j hj => absurd hj (Nat.not_lt_zero _)⟩⟩
 case round =>
  obtain ⟨kk, hkk, hg, rfl, BW, Av⟩ := hrel
  by_cases hlt : kk < l0.length
  ·have hltz : (kk : Int) < (l0.length : Int) := by omega
   have hz : (0 : Int) ≤ (kk : Int) := by omega
   obtain ⟨ad, rfl, hx⟩ := Kd.at_int (Kd.C_below hr0 BW.out) (kk : Int) hz hltz
   rw [Int.toNat_natCast] at hx
   have hmem : rd l0 (kk : Int) ∈ l0 := rd_mem hlt
   have hcall := hp wr (rd l0 (kk : Int)) hmem BW.out
   have HM := aK hmem
   clear hmem hp
   generalize hy : rd l0 (kk : Int) = y at hx hcall
   have HY := aK hy
   clear hy
   cases hq : p y with
   | true =>
    rw [hq] at hcall
    have HQ := aK hq
    clear hq
    go_wp2_with (go_at_fn g; refine hcall.mono ?_; rintro e w' ⟨rfl, hb'⟩)
    go_ret
    refine ⟨?_, hb'⟩
    rw [idxF_hit p l0 kk hlt (by rw [rd_nat l0 kk] at HY; rw [HY.out]; exact HQ.out) (fun j hj => by have := Av.out j hj; rwa [rd_nat l0 j] at this)]
    all_goals rfl
   | false =>
    rw [hq] at hcall
    have HQ := aK hq
    clear hq
    go_wp2_with (go_at_fn g; refine hcall.mono ?_; rintro e w' ⟨rfl, hb'⟩)
    go_roundg (l0.length - (kk + 1))
    case measure => omega
    case rel =>
     refine ⟨kk + 1, by omega, by omega, by go_num, ⟨hb'⟩, ⟨fun j hj => ?_⟩⟩
     by_cases e : j = kk
     ·subst e
      rw [HY.out]; exact HQ.out
     ·exact Av.out j (by omega)
  ·have hltz : ¬ (kk : Int) < (l0.length : Int) := by omega
   have : kk = l0.length := by omega
   subst this
   go_wp2
   go_ret
   refine ⟨?_, BW.out⟩
   rw [idxF_miss p l0 (fun j hj => by have := Av.out j hj; rwa [rd_nat l0 j] at this)]
   all_goals rfl
set_option maxHeartbeats 2000000 in
theorem slices_ContainsFunc_int.calls (p : Int → Bool) (g : Nat) (lb : Array Value) (eg : ∀ args w, (callFunc g args).run Try.prog w = .ok (.enter g args) w) (A0 : Option Addr) (c0 : Nat) (l0 : List Int) (w : World) (hr0 : Kd.C (Kd.int .i64) w A0 l0.length l0)
  (hp : ∀ (W : World) (x : Int), x ∈ l0 → Below w.heap.size w W → Calls Try.prog g (#[.int .i64 x] ++ lb) W fun e w' => e = .returned (.bool (p x)) ∧ Below w.heap.size w w') :
  Calls Try.prog 73 #[.slice A0 l0.length c0, .func (.func g) #[] lb] w fun e w' => e = .returned (.bool (l0.any p)) ∧ Below w.heap.size w w' := by
 rw [show l0.any p = decide (0 ≤ idxF p l0) from (idxF_any p l0).symm]
 go_enter Try.func73, Try.ntmps73
 go_wp2_with (go_at_call 101; refine (slices_IndexFunc_int.calls p g lb eg A0 c0 l0 _ hr0 hp).mono ?_; rintro e w' ⟨rfl, hb'⟩)
 go_ret
 exact ⟨rfl, hb'⟩
theorem impl_CountCells.ctr {a0_0 : Int} {a0_1 : Int} {r : Int} (h : impl_CountCells.f a0_0 a0_1 = some r) : Ctr Try.prog 40 [.ag [.v (.int .i64 a0_0), .v (.int .i64 a0_1)]] (.v (.int .i64 r)) := by
  refine Ctr_of tyOk hm Try.func40 rfl rfl (by kernel_rfl) (n := 10) (rv := [.tmp 2]) rfl rfl ?_
  simp only [W, List.replicate]
  unfold impl_CountCells.f at h
  replace h := bnd h; obtain ⟨t1, A, h⟩ := h
  try simp only [W, p1, p2, p3, p4, p5, p6, p7, p8, p9, p10, p11, p12]
  refine callR (impl_GridOk.ctr A) ?_
  replace h := ifT h; rcases h with ⟨rfl, h⟩ | ⟨rfl, h⟩
  · cases h
    try simp only [W, p1, p2, p3, p4, p5, p6, p7, p8, p9, p10, p11, p12]
  · cases h
    try simp only [W, p1, p2, p3, p4, p5, p6, p7, p8, p9, p10, p11, p12]
theorem impl_isCell.ctr {a0_0 : Int} {a0_1 : Int} {a1 : Int} {r : Bool} (h : impl_isCell.f a0_0 a0_1 a1 = some r) : Ctr Try.prog 93 [.ag [.v (.int .i64 a0_0), .v (.int .i64 a0_1)], .v (.int .i64 a1)] (.v (.bool r)) := by
  refine Ctr_of tyOk hm Try.func93 rfl rfl (by kernel_rfl) (n := 11) (rv := [.tmp 4]) rfl rfl ?_
  simp only [W, List.replicate]
  unfold impl_isCell.f at h
  replace h := ifS h; rcases h with ⟨c1, h⟩ | ⟨c1, h⟩
  · replace h := bnd h; obtain ⟨t2, A, h⟩ := h
    try simp only [W, c1, p1, p2, p3, p4, p5, p6, p7, p8, p9, p10, p11, p12]
    refine callR (impl_CountCells.ctr A) ?_
    cases h
    try simp only [W, c1, p1, p2, p3, p4, p5, p6, p7, p8, p9, p10, p11, p12]
  · cases h
    try simp only [W, c1, p1, p2, p3, p4, p5, p6, p7, p8, p9, p10, p11, p12]
theorem impl_isCell.calls (a0_0 : Int) (a0_1 : Int) (a1 : Int) (r : Bool) (w : World) (h : impl_isCell.f a0_0 a0_1 a1 = some r) :
    Calls Try.prog 93 #[.agg #[.int .i64 a0_0, .int .i64 a0_1], .int .i64 a1] w fun e w' => e = .returned (.bool r) ∧ Below w.heap.size w w' := by
  refine ((impl_isCell.ctr h).2 w [.agg #[.int .i64 a0_0, .int .i64 a0_1], .int .i64 a1] (by simp only [RepL, Rep]; exact ⟨_, _, rfl, ⟨_, rfl, _, _, rfl, rfl, _, _, rfl, rfl, rfl⟩, _, _, rfl, rfl, rfl⟩)).mono ?_
  rintro _ _ ⟨y, L, rfl, hR, _, hb⟩
  exact ⟨congrArg Ending.returned (RepR_pln rfl hR).1, hb⟩
set_option maxHeartbeats 2000000 in
theorem impl_isIn_1.calls (a b o : Int) (B : Nat) (W : World) (hB : W.heap[B]? = some (.cells #[.int .i64 a, .int .i64 b, .int .i64 o] 30 (0, 0))) (x : Int) (r : Bool) (h : impl_isCell.f a b x = some r) :
  Calls Try.prog 92 #[.int .i64 x, .pointer (some ⟨B, 0, none⟩)] W fun e w' => e = .returned (.bool (!r)) ∧ Below W.heap.size W w' := by
 have hu := Try.underlying30
 have hug := Try.underlying28
 have h0 : W.cell? ⟨B, 0, none⟩ = some (.int .i64 a) := (kC hB 0).trans rfl
 have h1 : W.cell? ⟨B, 1, none⟩ = some (.int .i64 b) := (kC hB 1).trans rfl
 have h2 : W.cell? ⟨B, 2, none⟩ = some (.int .i64 o) := (kC hB 2).trans rfl
 clear hB
 go_enter Try.func92, Try.ntmps92
 go_wp2_with (go_at_call 93; refine (impl_isCell.calls a b x r _ h).mono ?_; rintro e w' ⟨rfl, hb⟩)
 go_ret
 exact ⟨rfl, hb⟩
set_option maxHeartbeats 4000000 in
theorem impl_isIn.calls (a0_0 : Int) (a0_1 : Int) (a0_2 : Int) (A1 : Option Addr) (c1 : Nat) (l1 : List Int) (r : Bool) (w : World) (hr1 : Kd.C (Kd.int .i64) w A1 l1.length l1) (hc1 : l1.length ≤ c1) (h : impl_isIn.f a0_0 a0_1 a0_2 l1 = some r) :
  Calls Try.prog 61 #[.agg #[.int .i64 a0_0, .int .i64 a0_1, .int .i64 a0_2], .slice A1 l1.length c1] w fun e w' => e = .returned (.bool r) ∧ Below w.heap.size w w' := by
 have hu := Try.underlying30
 obtain ⟨b, hm, H⟩ := Option.bind_eq_some_iff.mp h
 clear h
 cases b with
 | false =>
  rw [if_neg Bool.false_ne_true] at H
  obtain rfl := Option.some.inj H
  go_enter Try.func61, Try.ntmps61
  go_wp2_with (go_at_call 38; refine (impl_MazeOk.calls a0_0 a0_1 a0_2 false _ hm).mono ?_; rintro e w' ⟨rfl, hb⟩)
  go_ret
  exact ⟨rfl, ((Below.refl _ w).alloc (Nat.le_refl _) _).trans (hb.mono (by simp))⟩
 | true =>
  rw [if_pos rfl] at H
  obtain ⟨hx, hv⟩ := allO_some H
  have eg : ∀ args w, (callFunc 92 args).run Try.prog w = .ok (.enter 92 args) w := enters_of Try.func92 (by kernel_rfl) rfl
  have hcon := fun (W : World) (hb : Below (w.heap.size + 1) (w.alloc (.cells #[.int .i64 a0_0, .int .i64 a0_1, .int .i64 a0_2] 30)) W) =>
   slices_ContainsFunc_int.calls (fun x => !((impl_isCell.f a0_0 a0_1 x).getD false)) 92 #[.pointer (some ⟨w.heap.size, 0, none⟩)] eg A1 c1 l1 W (Kd.C_below hr1 (((Below.refl _ w).alloc (Nat.le_refl _) _).trans (hb.mono (by simp)))) (fun W' x hxm hb' => by
    have hW := hb.trans (hb'.mono (by have := hb.size; simpa using this))
    obtain ⟨v, hv'⟩ := hx x hxm
    have hB : W'.heap[w.heap.size]? = some (.cells #[.int .i64 a0_0, .int .i64 a0_1, .int .i64 a0_2] 30 (0, 0)) := (hW.block w.heap.size (by omega)).trans (heap_alloc_new w _)
    refine (impl_isIn_1.calls a0_0 a0_1 a0_2 w.heap.size W' hB x v hv').mono ?_
    rintro e w' ⟨rfl, hb2⟩
    exact ⟨by rw [hv']; rfl, hb'.trans (hb2.mono hb'.size)⟩)
  clear hr1
  rw [hv]
  clear hv H
  generalize hg : (l1.any fun x => !((impl_isCell.f a0_0 a0_1 x).getD false)) = q at hcon ⊢
  clear hg hx eg
  go_enter Try.func61, Try.ntmps61
  go_wp2_with (first | (go_at_call 38; refine (impl_MazeOk.calls a0_0 a0_1 a0_2 true _ hm).mono ?_; rintro e w' ⟨rfl, hb⟩) | (go_at_call 73; refine (hcon _ (by simpa using hb)).mono ?_; rintro e w2 ⟨rfl, hb2⟩))
  go_ret
  exact ⟨rfl, (((Below.refl _ w).alloc (Nat.le_refl _) _).trans (hb.mono (by simp))).trans (hb2.mono (by have := hb.size; simp at this; omega))⟩
theorem impl_isIn.ctr {a0_0 : Int} {a0_1 : Int} {a0_2 : Int} {l1 : List Int} {r : Bool} (h : impl_isIn.f a0_0 a0_1 a0_2 l1 = some r) : Ctr Try.prog 61 [.ag [.v (.int .i64 a0_0), .v (.int .i64 a0_1), .v (.int .i64 a0_2)], .pr 1 (l1.map eI)] (.v (.bool r)) := by
  refine ⟨enters_of Try.func61 rfl rfl, fun w ys hys => ?_⟩
  simp only [RepL, Rep] at hys
  obtain ⟨_, _, rfl, ⟨_, rfl, _, _, rfl, rfl, _, _, rfl, rfl, _, _, rfl, rfl, rfl⟩, _, _, rfl, q1, rfl⟩ := hys
  obtain ⟨_, _, rfl, hr1, hc1⟩ := C_of_at E_eI q1
  refine (impl_isIn.calls _ _ _ _ _ _ _ w hr1 hc1 h).mono ?_
  rintro _ _ ⟨rfl, hb⟩
  exact ⟨_, [], rfl, (by first | (simp [RepR, RepRL]; done) | exact repR_vlu _ _ _ rfl), List.nodup_nil, (by first | exact hb | exact hb.below)⟩
theorem impl_isOpen.ctr {a0_0 : Int} {a0_1 : Int} {a0_2 : Int} {a1 : Int} {r : Bool} (h : impl_isOpen.f a0_0 a0_1 a0_2 a1 = some r) : Ctr Try.prog 86 [.ag [.v (.int .i64 a0_0), .v (.int .i64 a0_1), .v (.int .i64 a0_2)], .v (.int .i64 a1)] (.v (.bool r)) := by
  refine Ctr_of tyOk hm Try.func86 rfl rfl (by kernel_rfl) (n := 13) (rv := [.tmp 4]) rfl rfl ?_
  simp only [W, List.replicate]
  unfold impl_isOpen.f at h
  replace h := ifS h; rcases h with ⟨c1, h⟩ | ⟨c1, h⟩
  · replace h := ifN h; obtain ⟨c2, h⟩ := h
    cases h
    try simp only [W, c1, c2, p1, p2, p3, p4, p5, p6, p7, p8, p9, p10, p11, p12]
  · cases h
    try simp only [W, c1, p1, p2, p3, p4, p5, p6, p7, p8, p9, p10, p11, p12]
theorem impl_Neighbor.ctr {k : Nat} {a0_0 : Int} {a0_1 : Int} {a1 : Int} {a2 : Int} {r : Int} (h : impl_Neighbor.f k a0_0 a0_1 a1 a2 = some r) : Ctr Try.prog 88 [.ag [.v (.int .i64 a0_0), .v (.int .i64 a0_1)], .v (.int .i64 a1), .v (.int .i64 a2)] (.v (.int .i64 r)) := by
  refine Ctr_of tyOk hm Try.func88 rfl rfl (by kernel_rfl) (n := 64) (rv := [.tmp 6]) rfl rfl ?_
  simp only [W, List.replicate]
  unfold impl_Neighbor.f at h
  replace h := bnd h; obtain ⟨t1, A, h⟩ := h
  try simp only [W, p1, p2, p3, p4, p5, p6, p7, p8, p9, p10, p11, p12]
  refine callR (impl_isCell.ctr A) ?_
  replace h := ifT h; rcases h with ⟨rfl, h⟩ | ⟨rfl, h⟩
  · replace h := ifM h; obtain ⟨c3, h⟩ := h
    replace h := ifS h; rcases h with ⟨c4, h⟩ | ⟨c4, h⟩
    · rcases k with _ | m5; · cases h
      rw [impl_Neighbor.j0] at h
      replace h := ifT h; rcases h with ⟨c6, h⟩ | ⟨c6, h⟩
      · cases h
        try simp only [W, c3, eq_true c4, c6, p1, p2, p3, p4, p5, p6, p7, p8, p9, p10, p11, p12]
      · replace h := ifS h; rcases h with ⟨c7, h⟩ | ⟨c7, h⟩
        · rcases m5 with _ | m8; · cases h
          rw [impl_Neighbor.j1] at h
          replace h := ifT h; rcases h with ⟨c9, h⟩ | ⟨c9, h⟩
          · cases h
            try simp only [W, c3, eq_true c4, c6, eq_true c7, c9, p1, p2, p3, p4, p5, p6, p7, p8, p9, p10, p11, p12]
          · replace h := ifS h; rcases h with ⟨c10, h⟩ | ⟨c10, h⟩
            · rcases m8 with _ | m11; · cases h
              rw [impl_Neighbor.j2] at h
              replace h := ifT h; rcases h with ⟨c12, h⟩ | ⟨c12, h⟩
              · cases h
                try simp only [W, c3, eq_true c4, c6, eq_true c7, c9, eq_true c10, c12, p1, p2, p3, p4, p5, p6, p7, p8, p9, p10, p11, p12]
              · replace h := ifS h; rcases h with ⟨c13, h⟩ | ⟨c13, h⟩
                · replace h := ifS h; rcases h with ⟨c14, h⟩ | ⟨c14, h⟩
                  · cases h
                    try simp only [W, c3, eq_true c4, c6, eq_true c7, c9, eq_true c10, c12, eq_true c13, c14, p1, p2, p3, p4, p5, p6, p7, p8, p9, p10, p11, p12]
                  · cases h
                    try simp only [W, c3, eq_true c4, c6, eq_true c7, c9, eq_true c10, c12, eq_true c13, c14, p1, p2, p3, p4, p5, p6, p7, p8, p9, p10, p11, p12]
                · cases h
                  try simp only [W, c3, eq_true c4, c6, eq_true c7, c9, eq_true c10, c12, c13, p1, p2, p3, p4, p5, p6, p7, p8, p9, p10, p11, p12]
            · rcases m8 with _ | m11; · cases h
              rw [impl_Neighbor.j2] at h
              rw [if_neg (by decide)] at h
              replace h := ifS h; rcases h with ⟨c13, h⟩ | ⟨c13, h⟩
              · replace h := ifS h; rcases h with ⟨c14, h⟩ | ⟨c14, h⟩
                · cases h
                  try simp only [W, c3, eq_true c4, c6, eq_true c7, c9, c10, eq_true c13, c14, p1, p2, p3, p4, p5, p6, p7, p8, p9, p10, p11, p12]
                · cases h
                  try simp only [W, c3, eq_true c4, c6, eq_true c7, c9, c10, eq_true c13, c14, p1, p2, p3, p4, p5, p6, p7, p8, p9, p10, p11, p12]
              · cases h
                try simp only [W, c3, eq_true c4, c6, eq_true c7, c9, c10, c13, p1, p2, p3, p4, p5, p6, p7, p8, p9, p10, p11, p12]
        · rcases m5 with _ | m8; · cases h
          rw [impl_Neighbor.j1] at h
          rw [if_neg (by decide)] at h
          replace h := ifS h; rcases h with ⟨c10, h⟩ | ⟨c10, h⟩
          · rcases m8 with _ | m11; · cases h
            rw [impl_Neighbor.j2] at h
            replace h := ifT h; rcases h with ⟨c12, h⟩ | ⟨c12, h⟩
            · cases h
              try simp only [W, c3, eq_true c4, c6, c7, eq_true c10, c12, p1, p2, p3, p4, p5, p6, p7, p8, p9, p10, p11, p12]
            · replace h := ifS h; rcases h with ⟨c13, h⟩ | ⟨c13, h⟩
              · replace h := ifS h; rcases h with ⟨c14, h⟩ | ⟨c14, h⟩
                · cases h
                  try simp only [W, c3, eq_true c4, c6, c7, eq_true c10, c12, eq_true c13, c14, p1, p2, p3, p4, p5, p6, p7, p8, p9, p10, p11, p12]
                · cases h
                  try simp only [W, c3, eq_true c4, c6, c7, eq_true c10, c12, eq_true c13, c14, p1, p2, p3, p4, p5, p6, p7, p8, p9, p10, p11, p12]
              · cases h
                try simp only [W, c3, eq_true c4, c6, c7, eq_true c10, c12, c13, p1, p2, p3, p4, p5, p6, p7, p8, p9, p10, p11, p12]
          · rcases m8 with _ | m11; · cases h
            rw [impl_Neighbor.j2] at h
            rw [if_neg (by decide)] at h
            replace h := ifS h; rcases h with ⟨c13, h⟩ | ⟨c13, h⟩
            · replace h := ifS h; rcases h with ⟨c14, h⟩ | ⟨c14, h⟩
              · cases h
                try simp only [W, c3, eq_true c4, c6, c7, c10, eq_true c13, c14, p1, p2, p3, p4, p5, p6, p7, p8, p9, p10, p11, p12]
              · cases h
                try simp only [W, c3, eq_true c4, c6, c7, c10, eq_true c13, c14, p1, p2, p3, p4, p5, p6, p7, p8, p9, p10, p11, p12]
            · cases h
              try simp only [W, c3, eq_true c4, c6, c7, c10, c13, p1, p2, p3, p4, p5, p6, p7, p8, p9, p10, p11, p12]
    · rcases k with _ | m5; · cases h
      rw [impl_Neighbor.j0] at h
      rw [if_neg (by decide)] at h
      replace h := ifS h; rcases h with ⟨c7, h⟩ | ⟨c7, h⟩
      · rcases m5 with _ | m8; · cases h
        rw [impl_Neighbor.j1] at h
        replace h := ifT h; rcases h with ⟨c9, h⟩ | ⟨c9, h⟩
        · cases h
          try simp only [W, c3, c4, eq_true c7, c9, p1, p2, p3, p4, p5, p6, p7, p8, p9, p10, p11, p12]
        · replace h := ifS h; rcases h with ⟨c10, h⟩ | ⟨c10, h⟩
          · rcases m8 with _ | m11; · cases h
            rw [impl_Neighbor.j2] at h
            replace h := ifT h; rcases h with ⟨c12, h⟩ | ⟨c12, h⟩
            · cases h
              try simp only [W, c3, c4, eq_true c7, c9, eq_true c10, c12, p1, p2, p3, p4, p5, p6, p7, p8, p9, p10, p11, p12]
            · replace h := ifS h; rcases h with ⟨c13, h⟩ | ⟨c13, h⟩
              · replace h := ifS h; rcases h with ⟨c14, h⟩ | ⟨c14, h⟩
                · cases h
                  try simp only [W, c3, c4, eq_true c7, c9, eq_true c10, c12, eq_true c13, c14, p1, p2, p3, p4, p5, p6, p7, p8, p9, p10, p11, p12]
                · cases h
                  try simp only [W, c3, c4, eq_true c7, c9, eq_true c10, c12, eq_true c13, c14, p1, p2, p3, p4, p5, p6, p7, p8, p9, p10, p11, p12]
              · cases h
                try simp only [W, c3, c4, eq_true c7, c9, eq_true c10, c12, c13, p1, p2, p3, p4, p5, p6, p7, p8, p9, p10, p11, p12]
          · rcases m8 with _ | m11; · cases h
            rw [impl_Neighbor.j2] at h
            rw [if_neg (by decide)] at h
            replace h := ifS h; rcases h with ⟨c13, h⟩ | ⟨c13, h⟩
            · replace h := ifS h; rcases h with ⟨c14, h⟩ | ⟨c14, h⟩
              · cases h
                try simp only [W, c3, c4, eq_true c7, c9, c10, eq_true c13, c14, p1, p2, p3, p4, p5, p6, p7, p8, p9, p10, p11, p12]
              · cases h
                try simp only [W, c3, c4, eq_true c7, c9, c10, eq_true c13, c14, p1, p2, p3, p4, p5, p6, p7, p8, p9, p10, p11, p12]
            · cases h
              try simp only [W, c3, c4, eq_true c7, c9, c10, c13, p1, p2, p3, p4, p5, p6, p7, p8, p9, p10, p11, p12]
      · rcases m5 with _ | m8; · cases h
        rw [impl_Neighbor.j1] at h
        rw [if_neg (by decide)] at h
        replace h := ifS h; rcases h with ⟨c10, h⟩ | ⟨c10, h⟩
        · rcases m8 with _ | m11; · cases h
          rw [impl_Neighbor.j2] at h
          replace h := ifT h; rcases h with ⟨c12, h⟩ | ⟨c12, h⟩
          · cases h
            try simp only [W, c3, c4, c7, eq_true c10, c12, p1, p2, p3, p4, p5, p6, p7, p8, p9, p10, p11, p12]
          · replace h := ifS h; rcases h with ⟨c13, h⟩ | ⟨c13, h⟩
            · replace h := ifS h; rcases h with ⟨c14, h⟩ | ⟨c14, h⟩
              · cases h
                try simp only [W, c3, c4, c7, eq_true c10, c12, eq_true c13, c14, p1, p2, p3, p4, p5, p6, p7, p8, p9, p10, p11, p12]
              · cases h
                try simp only [W, c3, c4, c7, eq_true c10, c12, eq_true c13, c14, p1, p2, p3, p4, p5, p6, p7, p8, p9, p10, p11, p12]
            · cases h
              try simp only [W, c3, c4, c7, eq_true c10, c12, c13, p1, p2, p3, p4, p5, p6, p7, p8, p9, p10, p11, p12]
        · rcases m8 with _ | m11; · cases h
          rw [impl_Neighbor.j2] at h
          rw [if_neg (by decide)] at h
          replace h := ifS h; rcases h with ⟨c13, h⟩ | ⟨c13, h⟩
          · replace h := ifS h; rcases h with ⟨c14, h⟩ | ⟨c14, h⟩
            · cases h
              try simp only [W, c3, c4, c7, c10, eq_true c13, c14, p1, p2, p3, p4, p5, p6, p7, p8, p9, p10, p11, p12]
            · cases h
              try simp only [W, c3, c4, c7, c10, eq_true c13, c14, p1, p2, p3, p4, p5, p6, p7, p8, p9, p10, p11, p12]
          · cases h
            try simp only [W, c3, c4, c7, c10, c13, p1, p2, p3, p4, p5, p6, p7, p8, p9, p10, p11, p12]
  · cases h
    try simp only [W, p1, p2, p3, p4, p5, p6, p7, p8, p9, p10, p11, p12]
end Go.Proofs.Ytccjanhdnheclaa.F
end

section
namespace Go.Proofs.Ytccjanhdnheclaa.F
open Go.RowKit Go.Proofs.YtccjanhdnheclaaW.PrintWords Go.Proofs.YtccjanhdnheclaaW.PrintLast Go.Proofs.YtccjanhdnheclaaW.PrintMore
set_option linter.unusedVariables false
set_option linter.unusedSimpArgs false
attribute [local go_sem] max2_int min2_int max_two min_two
set_option maxRecDepth 20000
set_option maxHeartbeats 4000000
open Nat renaming reduceAdd → p1, reduceSub → p2, reduceMul → p3, reduceDiv → p4, reduceBNe → p5, reduceBEq → p6, reduceEqDiff → p7, reduceLeDiff → p8, reduceLT → p9
open Int renaming reduceLE → p10, reduceLT → p11, reduceEq → p12
theorem impl_GapAt.ctr {k : Nat} {a0_0 : Int} {a0_1 : Int} {a1 : Int} {a2 : Int} {r : Int} (h : impl_GapAt.f k a0_0 a0_1 a1 a2 = some r) : Ctr Try.prog 87 [.ag [.v (.int .i64 a0_0), .v (.int .i64 a0_1)], .v (.int .i64 a1), .v (.int .i64 a2)] (.v (.int .i64 r)) := by
  refine Ctr_of tyOk hm Try.func87 rfl rfl (by kernel_rfl) (n := 42) (rv := [.tmp 6]) rfl rfl ?_
  simp only [W, List.replicate]
  unfold impl_GapAt.f at h
  replace h := bnd h; obtain ⟨t1, A, h⟩ := h
  try simp only [W, p1, p2, p3, p4, p5, p6, p7, p8, p9, p10, p11, p12]
  refine callR (impl_Neighbor.ctr A) ?_
  replace h := ifS h; rcases h with ⟨c2, h⟩ | ⟨c2, h⟩
  · cases h
    try simp only [W, c2, p1, p2, p3, p4, p5, p6, p7, p8, p9, p10, p11, p12]
  · replace h := ifS h; rcases h with ⟨c3, h⟩ | ⟨c3, h⟩
    · replace h := ifM h; obtain ⟨c4, h⟩ := h
      cases h
      try simp only [W, c2, eq_true c3, c4, p1, p2, p3, p4, p5, p6, p7, p8, p9, p10, p11, p12]
    · replace h := ifS h; rcases h with ⟨c4, h⟩ | ⟨c4, h⟩
      · replace h := ifM h; obtain ⟨c5, h⟩ := h
        cases h
        try simp only [W, c2, c3, eq_true c4, c5, p1, p2, p3, p4, p5, p6, p7, p8, p9, p10, p11, p12]
      · cases h
        try simp only [W, c2, c3, c4, p1, p2, p3, p4, p5, p6, p7, p8, p9, p10, p11, p12]
theorem impl_Step.ctr {k : Nat} {a0_0 : Int} {a0_1 : Int} {a0_2 : Int} {a1 : Int} {a2 : Int} {r : Int} (h : impl_Step.f k a0_0 a0_1 a0_2 a1 a2 = some r) : Ctr Try.prog 56 [.ag [.v (.int .i64 a0_0), .v (.int .i64 a0_1), .v (.int .i64 a0_2)], .v (.int .i64 a1), .v (.int .i64 a2)] (.v (.int .i64 r)) := by
  refine Ctr_of tyOk hm Try.func56 rfl rfl (by kernel_rfl) (n := 22) (rv := [.tmp 6]) rfl rfl ?_
  simp only [W, List.replicate]
  unfold impl_Step.f at h
  replace h := bnd h; obtain ⟨t1, A, h⟩ := h
  try simp only [W, p1, p2, p3, p4, p5, p6, p7, p8, p9, p10, p11, p12]
  refine callR (impl_MazeOk.ctr A) ?_
  replace h := ifT h; rcases h with ⟨rfl, h⟩ | ⟨rfl, h⟩
  · replace h := bnd h; obtain ⟨t3, A, h⟩ := h
    try simp only [W, p1, p2, p3, p4, p5, p6, p7, p8, p9, p10, p11, p12]
    refine callR (impl_GapAt.ctr A) ?_
    replace h := bnd h; obtain ⟨t4, A, h⟩ := h
    try simp only [W, p1, p2, p3, p4, p5, p6, p7, p8, p9, p10, p11, p12]
    refine callR (impl_isOpen.ctr A) ?_
    replace h := ifT h; rcases h with ⟨rfl, h⟩ | ⟨rfl, h⟩
    · replace h := bnd h; obtain ⟨t6, A, h⟩ := h
      try simp only [W, p1, p2, p3, p4, p5, p6, p7, p8, p9, p10, p11, p12]
      refine callR (impl_Neighbor.ctr A) ?_
      cases h
      try simp only [W, p1, p2, p3, p4, p5, p6, p7, p8, p9, p10, p11, p12]
    · cases h
      try simp only [W, p1, p2, p3, p4, p5, p6, p7, p8, p9, p10, p11, p12]
  · cases h
    try simp only [W, p1, p2, p3, p4, p5, p6, p7, p8, p9, p10, p11, p12]
end Go.Proofs.Ytccjanhdnheclaa.F
end

section
namespace Go.Proofs.Ytccjanhdnheclaa.F
open Go.RowKit Go.Proofs.YtccjanhdnheclaaW.PrintWords Go.Proofs.YtccjanhdnheclaaW.PrintLast Go.Proofs.YtccjanhdnheclaaW.PrintMore
set_option linter.unusedVariables false
set_option linter.unusedSimpArgs false
attribute [local go_sem] max2_int min2_int max_two min_two
attribute [local go_sem high] eqA43
set_option maxRecDepth 20000
set_option maxHeartbeats 4000000
open Nat renaming reduceAdd → p1, reduceSub → p2, reduceMul → p3, reduceDiv → p4, reduceBNe → p5, reduceBEq → p6, reduceEqDiff → p7, reduceLeDiff → p8, reduceLT → p9
open Int renaming reduceLE → p10, reduceLT → p11, reduceEq → p12
theorem spec_l33Turned.ctr {k : Nat} {a0_0 : Int} {a0_1 : Int} {a0_2 : Int} {a1_0 : Int} {a1_1 : Int} {a2 : Int} {r1 : Int} {r2 : Int} {r3 : Bool} (h : spec_l33Turned.f k a0_0 a0_1 a0_2 a1_0 a1_1 a2 = some (r1, r2, r3)) : Ctr Try.prog 37 [.ag [.v (.int .i64 a0_0), .v (.int .i64 a0_1), .v (.int .i64 a0_2)], .ag [.v (.int .i64 a1_0), .v (.int .i64 a1_1)], .v (.int .i64 a2)] (.tu [.ag [.v (.int .i64 r1), .v (.int .i64 r2)], .v (.bool r3)]) := by
  refine Ctr_of tyOk hm Try.func37 rfl rfl (by kernel_rfl) (n := 23) (rv := [.cell 6 43, .tmp 7]) rfl rfl ?_
  simp only [W, List.replicate]
  unfold spec_l33Turned.f at h
  replace h := bnd h; obtain ⟨t1, A, h⟩ := h
  try simp only [W, p1, p2, p3, p4, p5, p6, p7, p8, p9, p10, p11, p12]
  refine callR (spec_Step.ctr A) ?_
  replace h := ifS h; rcases h with ⟨c2, h⟩ | ⟨c2, h⟩
  · cases h
    try simp only [W, c2, p1, p2, p3, p4, p5, p6, p7, p8, p9, p10, p11, p12]
  · cases h
    try simp only [W, c2, p1, p2, p3, p4, p5, p6, p7, p8, p9, p10, p11, p12]
theorem spec_l33Turned.calls (k : Nat) (a0_0 : Int) (a0_1 : Int) (a0_2 : Int) (a1_0 : Int) (a1_1 : Int) (a2 : Int) (r1 : Int) (r2 : Int) (r3 : Bool) (w : World) (h : spec_l33Turned.f k a0_0 a0_1 a0_2 a1_0 a1_1 a2 = some (r1, r2, r3)) :
    Calls Try.prog 37 #[.agg #[.int .i64 a0_0, .int .i64 a0_1, .int .i64 a0_2], .agg #[.int .i64 a1_0, .int .i64 a1_1], .int .i64 a2] w fun e w' => e = .returned (.tuple #[.agg #[.int .i64 r1, .int .i64 r2], .bool r3]) ∧ Below w.heap.size w w' := by
  refine ((spec_l33Turned.ctr h).2 w [.agg #[.int .i64 a0_0, .int .i64 a0_1, .int .i64 a0_2], .agg #[.int .i64 a1_0, .int .i64 a1_1], .int .i64 a2] (by simp only [RepL, Rep]; exact ⟨_, _, rfl, ⟨_, rfl, _, _, rfl, rfl, _, _, rfl, rfl, _, _, rfl, rfl, rfl⟩, _, _, rfl, ⟨_, rfl, _, _, rfl, rfl, _, _, rfl, rfl, rfl⟩, _, _, rfl, rfl, rfl⟩)).mono ?_
  rintro _ _ ⟨y, L, rfl, hR, _, hb⟩
  exact ⟨congrArg Ending.returned (RepR_pln rfl hR).1, hb⟩
theorem impl_isDirection.ctr {a0 : Int} {r : Bool} (h : impl_isDirection.f a0 = some r) : Ctr Try.prog 83 [.v (.int .i64 a0)] (.v (.bool r)) := by
  refine Ctr_of tyOk hm Try.func83 rfl rfl (by kernel_rfl) (n := 8) (rv := [.tmp 2]) rfl rfl ?_
  simp only [W, List.replicate]
  unfold impl_isDirection.f at h
  replace h := ifS h; rcases h with ⟨c1, h⟩ | ⟨c1, h⟩
  · cases h
    try simp only [W, c1, p1, p2, p3, p4, p5, p6, p7, p8, p9, p10, p11, p12]
  · cases h
    try simp only [W, c1, p1, p2, p3, p4, p5, p6, p7, p8, p9, p10, p11, p12]
theorem impl_WalkerOk.ctr {a0_0 : Int} {a0_1 : Int} {a0_2 : Int} {a1_0 : Int} {a1_1 : Int} {r : Bool} (h : impl_WalkerOk.f a0_0 a0_1 a0_2 a1_0 a1_1 = some r) : Ctr Try.prog 50 [.ag [.v (.int .i64 a0_0), .v (.int .i64 a0_1), .v (.int .i64 a0_2)], .ag [.v (.int .i64 a1_0), .v (.int .i64 a1_1)]] (.v (.bool r)) := by
  refine Ctr_of tyOk hm Try.func50 rfl rfl (by kernel_rfl) (n := 13) (rv := [.tmp 4]) rfl rfl ?_
  simp only [W, List.replicate]
  unfold impl_WalkerOk.f at h
  replace h := bnd h; obtain ⟨t1, A, h⟩ := h
  try simp only [W, p1, p2, p3, p4, p5, p6, p7, p8, p9, p10, p11, p12]
  refine callR (impl_isIn.ctr A) ?_
  replace h := ifT h; rcases h with ⟨rfl, h⟩ | ⟨rfl, h⟩
  · replace h := bnd h; obtain ⟨t3, A, h⟩ := h
    try simp only [W, p1, p2, p3, p4, p5, p6, p7, p8, p9, p10, p11, p12]
    refine callR (impl_isDirection.ctr A) ?_
    cases h
    try simp only [W, p1, p2, p3, p4, p5, p6, p7, p8, p9, p10, p11, p12]
  · cases h
    try simp only [W, p1, p2, p3, p4, p5, p6, p7, p8, p9, p10, p11, p12]
theorem impl_WalkerOk.calls (a0_0 : Int) (a0_1 : Int) (a0_2 : Int) (a1_0 : Int) (a1_1 : Int) (r : Bool) (w : World) (h : impl_WalkerOk.f a0_0 a0_1 a0_2 a1_0 a1_1 = some r) :
    Calls Try.prog 50 #[.agg #[.int .i64 a0_0, .int .i64 a0_1, .int .i64 a0_2], .agg #[.int .i64 a1_0, .int .i64 a1_1]] w fun e w' => e = .returned (.bool r) ∧ Below w.heap.size w w' := by
  refine ((impl_WalkerOk.ctr h).2 w [.agg #[.int .i64 a0_0, .int .i64 a0_1, .int .i64 a0_2], .agg #[.int .i64 a1_0, .int .i64 a1_1]] (by simp only [RepL, Rep]; exact ⟨_, _, rfl, ⟨_, rfl, _, _, rfl, rfl, _, _, rfl, rfl, _, _, rfl, rfl, rfl⟩, _, _, rfl, ⟨_, rfl, _, _, rfl, rfl, _, _, rfl, rfl, rfl⟩, rfl⟩)).mono ?_
  rintro _ _ ⟨y, L, rfl, hR, _, hb⟩
  exact ⟨congrArg Ending.returned (RepR_pln rfl hR).1, hb⟩
theorem impl_PatternAt.ctr {k : Nat} {a0_0 : Int} {a0_1 : Int} {a0_2 : Int} {a1_0 : Int} {a1_1 : Int} {r : Int} (h : impl_PatternAt.f k a0_0 a0_1 a0_2 a1_0 a1_1 = some r) : Ctr Try.prog 25 [.ag [.v (.int .i64 a0_0), .v (.int .i64 a0_1), .v (.int .i64 a0_2)], .ag [.v (.int .i64 a1_0), .v (.int .i64 a1_1)]] (.v (.int .i64 r)) := by
  refine Ctr_of tyOk hm Try.func25 rfl rfl (by kernel_rfl) (n := 28) (rv := [.tmp 4]) rfl rfl ?_
  simp only [W, List.replicate]
  unfold impl_PatternAt.f at h
  replace h := bnd h; obtain ⟨t1, A, h⟩ := h
  try simp only [W, p1, p2, p3, p4, p5, p6, p7, p8, p9, p10, p11, p12]
  refine callR (impl_WalkerOk.ctr A) ?_
  replace h := ifT h; rcases h with ⟨rfl, h⟩ | ⟨rfl, h⟩
  · try simp only [W, p1, p2, p3, p4, p5, p6, p7, p8, p9, p10, p11, p12]
    refine loopN (fun x : Int × Int × Int × Int × Int × Int × Int => [.u, .u, .bp 32 0, .bp 48 0, .u, .v (.int .i64 x.1), .v (.int .i64 x.2.1), .u, .u, .u, .u, .u, .u, .u, .u, .u, .u, .u, .u, .u, .u, .u, .u, .u, .u, .u, .u, .u, .u, .u]) (fun x => [(32, .box 30 [.v (.int .i64 x.2.2.1), .v (.int .i64 x.2.2.2.1), .v (.int .i64 x.2.2.2.2.1)]), (48, .box 43 [.v (.int .i64 x.2.2.2.2.2.1), .v (.int .i64 x.2.2.2.2.2.2)])]) (fun n x => impl_PatternAt.l0 n x.1 x.2.1 x.2.2.1 x.2.2.2.1 x.2.2.2.2.1 x.2.2.2.2.2.1 x.2.2.2.2.2.2 = some r) (0, 0, a0_0, a0_1, a0_2, a1_0, a1_1) [] h (by simp only [W, p1, p2, p3, p4, p5, p6, p7, p8, p9, p10, p11, p12] <;> trivial) (by simp only [W, p1, p2, p3, p4, p5, p6, p7, p8, p9, p10, p11, p12] <;> trivial) rfl (fun _ h => by cases h) ?_
    intro n1 ⟨x3, x4, x5, x6, x7, x8, x9⟩ _ h
    simp only [impl_PatternAt.l0] at h
    replace h := ifS h; rcases h with ⟨c10, h⟩ | ⟨c10, h⟩
    · replace h := bnd h; obtain ⟨t11, A, h⟩ := h
      try simp only [W, c10, p1, p2, p3, p4, p5, p6, p7, p8, p9, p10, p11, p12]
      refine callR (impl_Step.ctr A) ?_
      replace h := ifS h; rcases h with ⟨c12, h⟩ | ⟨c12, h⟩
      · replace h := ifN h; obtain ⟨c13, h⟩ := h
        try simp only [W, c10, c12, c13, p1, p2, p3, p4, p5, p6, p7, p8, p9, p10, p11, p12]
        exact nextN ((Go.bits .or .i64 x3 (shl .i64 1 x4)), (wrap64 (x4 + 1)), x5, x6, x7, x8, x9) [] n1 (by omega) h (by simp only [W, p1, p2, p3, p4, p5, p6, p7, p8, p9, p10, p11, p12] <;> trivial) (by simp only [W, p1, p2, p3, p4, p5, p6, p7, p8, p9, p10, p11, p12] <;> trivial) rfl
      · try simp only [W, c10, c12, p1, p2, p3, p4, p5, p6, p7, p8, p9, p10, p11, p12]
        exact nextN (x3, (wrap64 (x4 + 1)), x5, x6, x7, x8, x9) [] n1 (by omega) h (by simp only [W, p1, p2, p3, p4, p5, p6, p7, p8, p9, p10, p11, p12] <;> trivial) (by simp only [W, p1, p2, p3, p4, p5, p6, p7, p8, p9, p10, p11, p12] <;> trivial) rfl
    · cases h
      try simp only [W, c10, p1, p2, p3, p4, p5, p6, p7, p8, p9, p10, p11, p12]
  · cases h
    try simp only [W, p1, p2, p3, p4, p5, p6, p7, p8, p9, p10, p11, p12]
theorem impl_PatternAt.calls (k : Nat) (a0_0 : Int) (a0_1 : Int) (a0_2 : Int) (a1_0 : Int) (a1_1 : Int) (r : Int) (w : World) (h : impl_PatternAt.f k a0_0 a0_1 a0_2 a1_0 a1_1 = some r) :
    Calls Try.prog 25 #[.agg #[.int .i64 a0_0, .int .i64 a0_1, .int .i64 a0_2], .agg #[.int .i64 a1_0, .int .i64 a1_1]] w fun e w' => e = .returned (.int .i64 r) ∧ Below w.heap.size w w' := by
  refine ((impl_PatternAt.ctr h).2 w [.agg #[.int .i64 a0_0, .int .i64 a0_1, .int .i64 a0_2], .agg #[.int .i64 a1_0, .int .i64 a1_1]] (by simp only [RepL, Rep]; exact ⟨_, _, rfl, ⟨_, rfl, _, _, rfl, rfl, _, _, rfl, rfl, _, _, rfl, rfl, rfl⟩, _, _, rfl, ⟨_, rfl, _, _, rfl, rfl, _, _, rfl, rfl, rfl⟩, rfl⟩)).mono ?_
  rintro _ _ ⟨y, L, rfl, hR, _, hb⟩
  exact ⟨congrArg Ending.returned (RepR_pln rfl hR).1, hb⟩
set_option maxHeartbeats 8000000 in
set_option maxRecDepth 100000 in
theorem impl_areTurns_1.calls (a0 : Int) (r : Bool) (w : World) (h : impl_areTurns_1.f a0 = some r) :
  Calls Try.prog 74 #[.int .i64 a0] w fun e w' => e = .returned (.bool r) ∧ Drawn0 w w' := by
 have H : (if a0 < 0 then (some true) else (some (decide (a0 > 3)))) = some r := h
 clear h
 by_cases c2 : a0 < 0
 ·rw [if_pos c2] at H
  have c2b0 : decide (a0 < 0) = true := decide_eq_true c2
  clear c2
  obtain rfl := Option.some.inj H
  go_enter Try.func74, Try.ntmps74
  go_wp2
  go_ret
  exact ⟨by first | rfl | (simp; done) | (simp [*]; done), by repeat (first | exact Drawn0.refl _ | apply Drawn0.step)⟩
 ·rw [if_neg c2] at H
  have c2b0 : decide (a0 < 0) = false := decide_eq_false c2
  clear c2
  obtain rfl := Option.some.inj H
  go_enter Try.func74, Try.ntmps74
  go_wp2
  go_ret
  exact ⟨by first | rfl | (simp; done) | (simp [*]; done), by repeat (first | exact Drawn0.refl _ | apply Drawn0.step)⟩
set_option maxHeartbeats 4000000 in
theorem impl_areTurns.calls (A0 : Option Addr) (c0 : Nat) (l0 : List Int) (a1 : Int) (r : Bool) (w : World) (hr0 : Kd.C (Kd.int .i64) w A0 l0.length l0) (hc0 : l0.length ≤ c0) (h : impl_areTurns.f l0 a1 = some r) :
  Calls Try.prog 39 #[.slice A0 l0.length c0, .int .i64 a1] w fun e w' => e = .returned (.bool r) ∧ Below w.heap.size w w' := by
 unfold impl_areTurns.f at h
 by_cases hl : (l0.length : Int) ≤ a1
 ·rw [if_pos hl] at h
  obtain rfl := Option.some.inj h
  have hl' : decide ((l0.length : Int) ≤ a1) = true := decide_eq_true hl
  clear hl h
  have eg : ∀ args w, (callFunc 74 args).run Try.prog w = .ok (.enter 74 args) w := enters_of Try.func74 (by kernel_rfl) rfl
  have hcon := fun (W : World) (hb : Below w.heap.size w W) => slices_ContainsFunc_int.calls (fun x => !decide (0 ≤ x ∧ x ≤ 3)) 74 #[] eg A0 c0 l0 W (Kd.C_below hr0 hb) (fun W' x hxm hb' => by
   refine (impl_areTurns_1.calls x (!decide (0 ≤ x ∧ x ≤ 3)) W' (by unfold impl_areTurns_1.f; by_cases h1 : x < 0 <;> by_cases h2 : x > 3 <;> simp [h1, h2] <;> omega)).mono ?_
   rintro e w' ⟨rfl, hb2⟩
   exact ⟨rfl, hb'.trans ((by first | exact hb2 | exact hb2.below : Below W'.heap.size W' w').mono hb'.size)⟩)
  clear hr0
  have hall : ∀ (p : Int → Bool) (l : List Int), l.all p = !(l.any fun x => !p x) := fun p l => by
   induction l with
   | nil => rfl
   | cons x l ih => rw [List.all_cons, List.any_cons, ih]; cases p x <;> rfl
  rw [hall]
  generalize (l0.any fun x => !decide (0 ≤ x ∧ x ≤ 3)) = q at hcon ⊢
  clear hall eg
  go_enter Try.func39, Try.ntmps39
  go_wp2_with (go_at_call 73; refine (hcon _ (by first | exact Below.refl _ _ | simp)).mono ?_; rintro e w2 ⟨rfl, hb2⟩)
  go_ret
  exact ⟨rfl, hb2⟩
 ·rw [if_neg hl] at h
  obtain rfl := Option.some.inj h
  have hl' : decide ((l0.length : Int) ≤ a1) = false := decide_eq_false hl
  clear hl h hr0
  go_enter Try.func39, Try.ntmps39
  go_wp2
  go_ret
  exact ⟨rfl, Below.refl _ _⟩
theorem impl_areTurns.ctr {l0 : List Int} {a1 : Int} {r : Bool} (h : impl_areTurns.f l0 a1 = some r) : Ctr Try.prog 39 [.pr 1 (l0.map eI), .v (.int .i64 a1)] (.v (.bool r)) := by
  refine ⟨enters_of Try.func39 rfl rfl, fun w ys hys => ?_⟩
  simp only [RepL, Rep] at hys
  obtain ⟨_, _, rfl, q1, _, _, rfl, rfl, rfl⟩ := hys
  obtain ⟨_, _, rfl, hr1, hc1⟩ := C_of_at E_eI q1
  refine (impl_areTurns.calls _ _ _ _ _ w hr1 hc1 h).mono ?_
  rintro _ _ ⟨rfl, hb⟩
  exact ⟨_, [], rfl, (by first | (simp [RepR, RepRL]; done) | exact repR_vlu _ _ _ rfl), List.nodup_nil, (by first | exact hb | exact hb.below)⟩
theorem impl_marked.ctr {k : Nat} {a0_0 : Int} {a0_1 : Int} {a0_2 : Int} {a1_0 : Int} {a1_1 : Int} {a2 : Int} {r1 : Int} {r2 : Int} (h : impl_marked.f k a0_0 a0_1 a0_2 a1_0 a1_1 a2 = some (r1, r2)) : Ctr Try.prog 75 [.ag [.v (.int .i64 a0_0), .v (.int .i64 a0_1), .v (.int .i64 a0_2)], .ag [.v (.int .i64 a1_0), .v (.int .i64 a1_1)], .v (.int .i64 a2)] (.ag [.v (.int .i64 r1), .v (.int .i64 r2)]) := by
  refine Ctr_of tyOk hm Try.func75 rfl rfl (by kernel_rfl) (n := 11) (rv := [.cell 6 43]) rfl rfl ?_
  simp only [W, List.replicate]
  unfold impl_marked.f at h
  replace h := bnd h; obtain ⟨t1, A, h⟩ := h
  try simp only [W, p1, p2, p3, p4, p5, p6, p7, p8, p9, p10, p11, p12]
  refine callR (impl_Step.ctr A) ?_
  cases h
  try simp only [W, p1, p2, p3, p4, p5, p6, p7, p8, p9, p10, p11, p12]
theorem impl_marked.calls (k : Nat) (a0_0 : Int) (a0_1 : Int) (a0_2 : Int) (a1_0 : Int) (a1_1 : Int) (a2 : Int) (r1 : Int) (r2 : Int) (w : World) (h : impl_marked.f k a0_0 a0_1 a0_2 a1_0 a1_1 a2 = some (r1, r2)) :
    Calls Try.prog 75 #[.agg #[.int .i64 a0_0, .int .i64 a0_1, .int .i64 a0_2], .agg #[.int .i64 a1_0, .int .i64 a1_1], .int .i64 a2] w fun e w' => e = .returned (.agg #[.int .i64 r1, .int .i64 r2]) ∧ Below w.heap.size w w' := by
  refine ((impl_marked.ctr h).2 w [.agg #[.int .i64 a0_0, .int .i64 a0_1, .int .i64 a0_2], .agg #[.int .i64 a1_0, .int .i64 a1_1], .int .i64 a2] (by simp only [RepL, Rep]; exact ⟨_, _, rfl, ⟨_, rfl, _, _, rfl, rfl, _, _, rfl, rfl, _, _, rfl, rfl, rfl⟩, _, _, rfl, ⟨_, rfl, _, _, rfl, rfl, _, _, rfl, rfl, rfl⟩, _, _, rfl, rfl, rfl⟩)).mono ?_
  rintro _ _ ⟨y, L, rfl, hR, _, hb⟩
  exact ⟨congrArg Ending.returned (RepR_pln rfl hR).1, hb⟩
set_option maxHeartbeats 8000000 in
set_option maxRecDepth 100000 in
theorem impl_went.calls (k : Nat) (a0_0 : Int) (a0_1 : Int) (a0_2 : Int) (a1_0 : Int) (a1_1 : Int) (a2 : Int) (r1 : Int) (r2 : Int) (r3 : Bool) (w : World) (h : impl_went.f k a0_0 a0_1 a0_2 a1_0 a1_1 a2 = some (r1, r2, r3)) :
  Calls Try.prog 41 #[.agg #[.int .i64 a0_0, .int .i64 a0_1, .int .i64 a0_2], .agg #[.int .i64 a1_0, .int .i64 a1_1], .int .i64 a2] w fun e w' => e = .returned (.tuple #[.agg #[.int .i64 r1, .int .i64 r2], .bool r3]) ∧ Below w.heap.size w w' := by
 have hu30 := Try.underlying30
 have hu43 := Try.underlying43
 have HB := aK (Below.refl w.heap.size w)
 have H : ((impl_marked.f k a0_0 a0_1 a0_2 a1_0 a1_1 (Int.tmod (wrap64 (a1_1 + a2)) 4)).bind fun bt235 => (some (bt235.1, bt235.2, decide (bt235.1 ≥ 0)))) = some (r1, r2, r3) := h
 clear h
 replace H := Option.bind_eq_some_iff.mp H
 obtain ⟨⟨t235, t236⟩, A40, H⟩ := H
 replace H : (some (t235, t236, decide (t235 ≥ 0))) = some (r1, r2, r3) := H
 have A4 := aK A40
 clear A40
 simp only [Option.some.injEq, Prod.mk.injEq] at H
 obtain ⟨rfl, rfl, rfl⟩ := H
 go_enter Try.func41, Try.ntmps41
 try go_wp2_with (first | ((with_reducible refine gate_dst (N := 3) rfl ?_); refine box_event ?hg (N := 3) ?hd (cs := #[.int .i64 a0_0, .int .i64 a0_1, .int .i64 a0_2]) (t := 30) ?hr ?_; (case hd => rfl); (case hg => rfl); (case hr => first | (go_simp; done) | (go_simp; rfl)); intro gb232 hg w5 hbox hb; have BK232 := aK (hbox); have GW232 := aK ((by rw [hg]; exact (bSz (zH0 HB)) : w.heap.size ≤ gb232)); replace HB := aK (bSp (zH0 HB) hb); have GE232 := GW232; clear hb hbox hg) | ((with_reducible refine gate_dst (N := 4) rfl ?_); refine box_event ?hg (N := 4) ?hd (cs := #[.int .i64 a1_0, .int .i64 a1_1]) (t := 43) ?hr ?_; (case hd => rfl); (case hg => rfl); (case hr => first | (go_simp; done) | (go_simp; rfl)); intro gb233 hg w6 hbox hb; have BK233 := aK (hbox); have GW233 := aK ((by rw [hg]; exact (bSz (zH1 HB GE232)) : w.heap.size ≤ gb233)); replace HB := aK (bSp (zH1 HB GE232) hb); have GE233 := GW233; have NB232_233 := nbl BK232 hg (by intro z_; (with_reducible repeat (first | refine kDN ?_ _ | refine kD ?_ | refine blk_alloc ?_ _)); exact z_); replace BK232 := zB BK232 hb; have NB233_232 := nbs NB232_233; clear hb hbox hg) | ((with_reducible refine gate_dst (N := 6) rfl ?_); refine box_event ?hg (N := 6) ?hd (cs := #[.int .i64 0, .int .i64 0]) (t := 43) ?hr ?_; (case hd => rfl); (case hg => rfl); (case hr => first | (go_simp; done) | (go_simp; rfl)); intro gb234 hg w7 hbox hb; have BK234 := aK (hbox); have GW234 := aK ((by rw [hg]; exact (bSz (zH2 HB GE232 GE233)) : w.heap.size ≤ gb234)); replace HB := aK (bSp (zH2 HB GE232 GE233) hb); have GE234 := GW234; have NB232_234 := nbl BK232 hg (by intro z_; (with_reducible repeat (first | refine kDN ?_ _ | refine kD ?_ | refine blk_alloc ?_ _)); exact z_); replace BK232 := zB BK232 hb; have NB234_232 := nbs NB232_234; have NB233_234 := nbl BK233 hg (by intro z_; (with_reducible repeat (first | refine kDN ?_ _ | refine kD ?_ | refine blk_alloc ?_ _)); exact z_); replace BK233 := zB BK233 hb; have NB234_233 := nbs NB233_234; clear hb hbox hg; have hnb8 := NB232_233.out; have hnc8 := NB233_232.out; have hnb9 := NB232_234.out; have hnc9 := NB234_232.out; obtain ⟨hcz10_0, hcz10_1, hcz10_2, hfz10_0, hfz10_1, hfz10_2⟩ := cl3 BK232.out; have hnb11 := NB233_234.out; have hnc11 := NB234_233.out; obtain ⟨hcz12_0, hcz12_1, hfz12_0, hfz12_1⟩ := cl2 BK233.out) | ((with_reducible refine gate_callee (f := 75) rfl ?_); refine goesL_ (some 16) rfl rfl Try.func75 (by kernel_rfl) rfl #[.agg #[.int .i64 a0_0, .int .i64 a0_1, .int .i64 a0_2], .agg #[.int .i64 a1_0, .int .i64 a1_1], .int .i64 (Int.tmod (wrap64 (a1_1 + a2)) 4)] rfl zD ?_; (with_reducible refine (impl_marked.calls k a0_0 a0_1 a0_2 a1_0 a1_1 (Int.tmod (wrap64 (a1_1 + a2)) 4) t235 t236 _ A4.out).mono ?_); rintro e w13 ⟨rfl, hb⟩; refine ⟨_, rfl, ?_⟩; replace BK232 := zB BK232 hb; replace BK233 := zB BK233 hb; replace BK234 := zB BK234 hb; replace HB := aK (bSp (zH3 HB GE232 GE233 GE234) hb); (try clear hb); (try clear hb2); (try clear hk); (try clear hi)) | ((with_reducible refine gate_dst (N := 8) rfl ?_); refine box_event ?hg (N := 8) ?hd (cs := #[.int .i64 0, .int .i64 0]) (t := 43) ?hr ?_; (case hd => rfl); (case hg => rfl); (case hr => first | (go_simp; done) | (go_simp; rfl)); intro gb237 hg w14 hbox hb; have BK237 := aK (hbox); have GW237 := aK ((by rw [hg]; exact (bSz (zH3 HB GE232 GE233 GE234)) : w.heap.size ≤ gb237)); replace HB := aK (bSp (zH3 HB GE232 GE233 GE234) hb); have GE237 := GW237; have NB232_237 := nbl BK232 hg (by intro z_; (with_reducible repeat (first | refine kDN ?_ _ | refine kD ?_ | refine blk_alloc ?_ _)); exact z_); replace BK232 := zB BK232 hb; have NB237_232 := nbs NB232_237; have NB233_237 := nbl BK233 hg (by intro z_; (with_reducible repeat (first | refine kDN ?_ _ | refine kD ?_ | refine blk_alloc ?_ _)); exact z_); replace BK233 := zB BK233 hb; have NB237_233 := nbs NB233_237; have NB234_237 := nbl BK234 hg (by intro z_; (with_reducible repeat (first | refine kDN ?_ _ | refine kD ?_ | refine blk_alloc ?_ _)); exact z_); replace BK234 := zB BK234 hb; have NB237_234 := nbs NB234_237; clear hb hbox hg; have hnb15 := NB237_232.out; have hnc15 := NB232_237.out; have hnb16 := NB237_233.out; have hnc16 := NB233_237.out; have hnb17 := NB237_234.out; have hnc17 := NB234_237.out; obtain ⟨hcz18_0, hcz18_1, hfz18_0, hfz18_1⟩ := cl2 BK237.out))
 have n0_ : Aside0 (((w14.setCell ⟨gb237, 0, none⟩ (.int .i64 t235)).setCell ⟨gb237, 1, none⟩ (.int .i64 t236)).heap[gb232]? = some (.cells #[.int .i64 a0_0, .int .i64 a0_1, .int .i64 a0_2] 30 (0, 0))) := ⟨by (with_reducible repeat (first | refine kDN ?_ _ | refine kD ?_ | refine blk_alloc ?_ _)); refine blk_far ?_ NB232_237.out _; (with_reducible repeat (first | refine kDN ?_ _ | refine kD ?_ | refine blk_alloc ?_ _)); refine blk_far ?_ NB232_237.out _; (with_reducible repeat (first | refine kDN ?_ _ | refine kD ?_ | refine blk_alloc ?_ _)); exact BK232.out⟩
 have n1_ : Aside0 (((w14.setCell ⟨gb237, 0, none⟩ (.int .i64 t235)).setCell ⟨gb237, 1, none⟩ (.int .i64 t236)).heap[gb233]? = some (.cells #[.int .i64 a1_0, .int .i64 a1_1] 43 (0, 0))) := ⟨by (with_reducible repeat (first | refine kDN ?_ _ | refine kD ?_ | refine blk_alloc ?_ _)); refine blk_far ?_ NB233_237.out _; (with_reducible repeat (first | refine kDN ?_ _ | refine kD ?_ | refine blk_alloc ?_ _)); refine blk_far ?_ NB233_237.out _; (with_reducible repeat (first | refine kDN ?_ _ | refine kD ?_ | refine blk_alloc ?_ _)); exact BK233.out⟩
 have n2_ : Aside0 (((w14.setCell ⟨gb237, 0, none⟩ (.int .i64 t235)).setCell ⟨gb237, 1, none⟩ (.int .i64 t236)).heap[gb234]? = some (.cells #[.int .i64 0, .int .i64 0] 43 (0, 0))) := ⟨by (with_reducible repeat (first | refine kDN ?_ _ | refine kD ?_ | refine blk_alloc ?_ _)); refine blk_far ?_ NB234_237.out _; (with_reducible repeat (first | refine kDN ?_ _ | refine kD ?_ | refine blk_alloc ?_ _)); refine blk_far ?_ NB234_237.out _; (with_reducible repeat (first | refine kDN ?_ _ | refine kD ?_ | refine blk_alloc ?_ _)); exact BK234.out⟩
 have n3_ := zP2 BK237 (.int .i64 t235) (.int .i64 t236)
 have n4_ : Aside0 (Below w.heap.size w ((w14.setCell ⟨gb237, 0, none⟩ (.int .i64 t235)).setCell ⟨gb237, 1, none⟩ (.int .i64 t236))) := ⟨zH4 HB GE232 GE233 GE234 GE237⟩
 (try clear BK232)
 (try clear BK233)
 (try clear BK234)
 (try clear BK237)
 (try clear HB)
 generalize ((w14.setCell ⟨gb237, 0, none⟩ (.int .i64 t235)).setCell ⟨gb237, 1, none⟩ (.int .i64 t236)) = w19 at n0_ n1_ n2_ n3_ n4_ ⊢
 have BK232 := n0_
 have BK233 := n1_
 have BK234 := n2_
 have BK237 := n3_
 have HB := n4_
 clear n0_ n1_ n2_ n3_ n4_
 have n0_ := aK (kD BK232.out)
 have n1_ := aK (kD BK233.out)
 have n2_ := aK (kD BK234.out)
 have n3_ := aK (kD BK237.out)
 have n4_ := aK (bD1 HB.out)
 clear BK232
 clear BK233
 clear BK234
 clear BK237
 clear HB
 have BK232 := n0_
 have BK233 := n1_
 have BK234 := n2_
 have BK237 := n3_
 have HB := n4_
 clear n0_ n1_ n2_ n3_ n4_
 refine start_ (n := 6) (S := fun w' => w'.cell? ⟨gb237, 0, none⟩ = some (.int .i64 t235) ∧ w'.cell? ⟨gb237, 1, none⟩ = some (.int .i64 t236)) (ds := []) #[bN,bN,bN,bN,bN,bN] (by kernel_rfl) rfl rfl ⟨zQ BK237 0, zQ BK237 1⟩ (fun hHeld => ?_)
 generalize w19.drew = w20 at BK232 BK233 BK234 BK237 HB hHeld ⊢
 refine pure_ (i := 1) (N := some 18) (v := ?_) (a' := ?_) #[bN,bY,bN,bN,bN,bN] rfl rfl (by kernel_rfl) (fun _ _ _ h => h) (Or.inl ⟨by rfl, ?_⟩) ?_ ?_
 rotate_left
 ·intro w'
  go_simp
  with_reducible rfl
 rotate_left
 ·simp only [Act.put, sTA, sZ, sS, i64_w, i32_w]
  rfl
 refine take_ (i := 0) (N := some 17) (v := ?_) (a' := ?_) #[bY,bY,bN,bN,bN,bN] rfl rfl (by kernel_rfl) (fun _ _ _ h => h) (Or.inl ⟨by rfl, ?_⟩) hHeld ?_ ?_
 rotate_left
 ·rintro w' ⟨s0, s1⟩
  go_simp
  with_reducible rfl
 rotate_left
 ·simp only [Act.put, sTA, sZ, sS, i64_w, i32_w]
  rfl
 refine take_ (i := 2) (N := some 19) (v := ?_) (a' := ?_) #[bY,bY,bY,bN,bN,bN] rfl rfl (by kernel_rfl) (fun _ _ _ h => h) (Or.inl ⟨by rfl, ?_⟩) hHeld ?_ ?_
 rotate_left
 ·rintro w' ⟨s0, s1⟩
  go_simp
  with_reducible rfl
 rotate_left
 ·simp only [Act.put, sTA, sZ, sS, i64_w, i32_w]
  rfl
 refine pure_ (i := 3) (N := some 20) (v := ?_) (a' := ?_) #[bY,bY,bY,bY,bN,bN] rfl rfl (by kernel_rfl) (fun _ _ _ h => h) (Or.inl ⟨by rfl, ?_⟩) ?_ ?_
 rotate_left
 ·intro w'
  go_simp
  with_reducible rfl
 rotate_left
 ·simp only [Act.put, sTA, sZ, sS, i64_w, i32_w]
  rfl
 refine one_ (i := 4) (N := none) #[bY,bY,bY,bY,bY,bN] rfl rfl (by kernel_rfl) (by decide) (fun K hK => ?_)
 have hs21 : w20.cell? ⟨gb234, 0, none⟩ = some (.int .i64 0) := (kC BK234.out 0).trans rfl
 have hfs21 := kF BK234.out 0
 have hns21_0 := NB232_234.out
 have hns21_1 := NB233_234.out
 have hns21_3 := NB237_234.out
 have hms21_0 := NB234_232.out
 have hms21_1 := NB234_233.out
 have hms21_3 := NB234_237.out
 have hs22 : w20.cell? ⟨gb234, 1, none⟩ = some (.int .i64 0) := (kC BK234.out 1).trans rfl
 have hfs22 := kF BK234.out 1
 have hns22_0 := NB232_234.out
 have hns22_1 := NB233_234.out
 have hns22_3 := NB237_234.out
 have hms22_0 := NB234_232.out
 have hms22_1 := NB234_233.out
 have hms22_3 := NB234_237.out
 refine skip_ (w1 := ?_) (by rfl) rfl ?_ ?_
 rotate_left
 ·go_simp
  rfl
 refine hK.out _ _ ⟨((cell_far (p := ⟨gb234, _, none⟩) NB237_234.out _).trans (((cell_far (p := ⟨gb234, _, none⟩) NB237_234.out _).trans (hHeld.1)))), ((cell_far (p := ⟨gb234, _, none⟩) NB237_234.out _).trans (((cell_far (p := ⟨gb234, _, none⟩) NB237_234.out _).trans (hHeld.2))))⟩ (fun hHeld => ?_)
 clear hK K
 refine pure_ (i := 5) (N := some 7) (v := ?_) (a' := ?_) #[bY,bY,bY,bY,bY,bY] rfl rfl (by kernel_rfl) (fun _ _ _ h => h) (Or.inl ⟨by rfl, ?_⟩) ?_ ?_
 rotate_left
 ·intro w'
  go_simp
  with_reducible rfl
 rotate_left
 ·simp only [Act.put, sTA, sZ, sS, i64_w, i32_w]
  rfl
 refine done_ (by kernel_rfl) ?_
 try go_wp2
 refine bodyPost_ret (results_ct rfl _ _ gb234 43 #[.int .i64 t235, .int .i64 t236] (0, 0) _ rfl (by (with_reducible repeat (first | refine kDN ?_ _ | refine kD ?_ | refine blk_alloc ?_ _)); refine blk_put (cs := #[.int .i64 t235, .int .i64 0]) ?_ 1 _ rfl; (with_reducible repeat (first | refine kDN ?_ _ | refine kD ?_ | refine blk_alloc ?_ _)); refine blk_put (cs := #[.int .i64 0, .int .i64 0]) ?_ 0 _ rfl; (with_reducible repeat (first | refine kDN ?_ _ | refine kD ?_ | refine blk_alloc ?_ _)); exact BK234.out) Try.underlying43 rfl (by kernel_rfl)) rfl ?_
 exact ⟨by first | rfl | (simp [errW_none, errW_some] <;> rfl) | (simp [*, errW_none, errW_some] <;> rfl), by repeat (first | (with_reducible first | exact HB.out | apply bAl | apply bDN | apply bD1 | refine bSt ?_ GE232.out | refine bSt ?_ GE233.out | refine bSt ?_ GE234.out | refine bSt ?_ GE237.out) | exact HB.out)⟩
theorem impl_went.ctr {k : Nat} {a0_0 : Int} {a0_1 : Int} {a0_2 : Int} {a1_0 : Int} {a1_1 : Int} {a2 : Int} {r1 : Int} {r2 : Int} {r3 : Bool} (h : impl_went.f k a0_0 a0_1 a0_2 a1_0 a1_1 a2 = some (r1, r2, r3)) : Ctr Try.prog 41 [.ag [.v (.int .i64 a0_0), .v (.int .i64 a0_1), .v (.int .i64 a0_2)], .ag [.v (.int .i64 a1_0), .v (.int .i64 a1_1)], .v (.int .i64 a2)] (.tu [.ag [.v (.int .i64 r1), .v (.int .i64 r2)], .v (.bool r3)]) := by
  refine ⟨enters_of Try.func41 rfl rfl, fun w ys hys => ?_⟩
  simp only [RepL, Rep] at hys
  obtain ⟨_, _, rfl, ⟨_, rfl, _, _, rfl, rfl, _, _, rfl, rfl, _, _, rfl, rfl, rfl⟩, _, _, rfl, ⟨_, rfl, _, _, rfl, rfl, _, _, rfl, rfl, rfl⟩, _, _, rfl, rfl, rfl⟩ := hys
  refine (impl_went.calls _ _ _ _ _ _ _ _ _ _ w h).mono ?_
  rintro _ _ ⟨rfl, hb⟩
  exact ⟨_, [], rfl, (by first | (simp [RepR, RepRL]; done) | exact repR_vlu _ _ _ rfl), List.nodup_nil, (by first | exact hb | exact hb.below)⟩
theorem slices_Index_impl_Walker.ctr {k : Nat} {l0 : List (SWalker)} {a1_0 : Int} {a1_1 : Int} {r : Int} (h : slices_Index_impl_Walker.f k l0 a1_0 a1_1 = some r) : Ctr Try.prog 76 [.pr 2 (l0.map eWalker), .ag [.v (.int .i64 a1_0), .v (.int .i64 a1_1)]] (.v (.int .i64 r)) := by
  refine Ctr_of tyOk hm Try.func76 rfl rfl (by kernel_rfl) (n := 17) (rv := [.tmp 4]) rfl rfl ?_
  simp only [W, List.replicate]
  unfold slices_Index_impl_Walker.f at h
  try simp only [W, p1, p2, p3, p4, p5, p6, p7, p8, p9, p10, p11, p12]
  refine loopN (fun x : List (SWalker) × Int × Int × Int × Int => [.pr 2 (List.map eWalker x.1), .u, .u, .bp 48 0, .u, .u, .u, .v (.int .i64 x.2.1), .v (.int .i64 x.2.2.1), .u, .u, .u, .u, .u, .u, .u, .u, .u, .u]) (fun x => [(48, .box 43 [.v (.int .i64 x.2.2.2.1), .v (.int .i64 x.2.2.2.2)])]) (fun n x => slices_Index_impl_Walker.l0 n x.1 x.2.1 x.2.2.1 x.2.2.2.1 x.2.2.2.2 = some r) (l0, (l0.length : Int), 0, a1_0, a1_1) [] h (by simp only [W, p1, p2, p3, p4, p5, p6, p7, p8, p9, p10, p11, p12] <;> trivial) (by simp only [W, p1, p2, p3, p4, p5, p6, p7, p8, p9, p10, p11, p12] <;> trivial) rfl (fun _ h => by cases h) ?_
  intro n1 ⟨x1, x2, x3, x4, x5⟩ _ h
  simp only [slices_Index_impl_Walker.l0] at h
  replace h := ifS h; rcases h with ⟨c6, h⟩ | ⟨c6, h⟩
  · replace h := ifN h; obtain ⟨c7, h⟩ := h
    replace h := ifN h; obtain ⟨c8, h⟩ := h
    replace h := ifT h; rcases h with ⟨c9, h⟩ | ⟨c9, h⟩ <;> try simp only [bEq] at c9
    · cases h
      try simp only [W, c6, c7, c8, c9, p1, p2, p3, p4, p5, p6, p7, p8, p9, p10, p11, p12]
    · try simp only [W, c6, c7, c8, c9, p1, p2, p3, p4, p5, p6, p7, p8, p9, p10, p11, p12]
      exact nextN (x1, x2, (wrap64 (x3 + 1)), x4, x5) [] n1 (by omega) h (by simp only [W, p1, p2, p3, p4, p5, p6, p7, p8, p9, p10, p11, p12] <;> trivial) (by simp only [W, p1, p2, p3, p4, p5, p6, p7, p8, p9, p10, p11, p12] <;> trivial) rfl
  · cases h
    try simp only [W, c6, p1, p2, p3, p4, p5, p6, p7, p8, p9, p10, p11, p12]
theorem slices_Contains_impl_Walker.ctr {k : Nat} {l0 : List (SWalker)} {a1_0 : Int} {a1_1 : Int} {r : Bool} (h : slices_Contains_impl_Walker.f k l0 a1_0 a1_1 = some r) : Ctr Try.prog 42 [.pr 2 (l0.map eWalker), .ag [.v (.int .i64 a1_0), .v (.int .i64 a1_1)]] (.v (.bool r)) := by
  refine Ctr_of tyOk hm Try.func42 rfl rfl (by kernel_rfl) (n := 7) (rv := [.tmp 4]) rfl rfl ?_
  simp only [W, List.replicate]
  unfold slices_Contains_impl_Walker.f at h
  replace h := bnd h; obtain ⟨t1, A, h⟩ := h
  try simp only [W, p1, p2, p3, p4, p5, p6, p7, p8, p9, p10, p11, p12]
  refine callR (slices_Index_impl_Walker.ctr A) ?_
  cases h
  try simp only [W, p1, p2, p3, p4, p5, p6, p7, p8, p9, p10, p11, p12]
end Go.Proofs.Ytccjanhdnheclaa.F
end

section
namespace Go.Proofs.Ytccjanhdnheclaa.F
open Go.RowKit Go.Proofs.YtccjanhdnheclaaW.PrintWords Go.Proofs.YtccjanhdnheclaaW.PrintLast Go.Proofs.YtccjanhdnheclaaW.PrintMore
set_option linter.unusedVariables false
set_option linter.unusedSimpArgs false
attribute [local go_sem] max2_int min2_int max_two min_two
def cmpW (x y : SWalker) : Int := 4 * (x.f0 - y.f0) + x.f1 - y.f1
abbrev WkO := { x : SWalker // slices_SortFunc_impl_Walker.l1 x = true }
instance instInhabitedWkO : Inhabited WkO := ⟨⟨⟨0, 0⟩, rfl⟩⟩
theorem wkO_list : ∀ l : List SWalker, l.all slices_SortFunc_impl_Walker.l1 = true → ∃ ds : List WkO, l = ds.map Subtype.val
  | [], _ => ⟨[], rfl⟩
  | x :: l, h => by
    rw [List.all_cons, Bool.and_eq_true] at h
    obtain ⟨ds, e⟩ := wkO_list l h.2
    exact ⟨⟨x, h.1⟩ :: ds, congrArg (x :: ·) e⟩
def encWk (x : WkO) : List Value := [.int .i64 x.1.f0, .int .i64 x.1.f1]
def cfW (x y : WkO) : Int := cmpW x.1 y.1
theorem okW_of (x : WkO) : 0 ≤ x.1.f0 ∧ x.1.f0 ≤ 1000000 ∧ 0 ≤ x.1.f1 ∧ x.1.f1 ≤ 3 := of_decide_eq_true x.2
open Go.Sort in
theorem cfW_swo : SWO (ltOf cfW) where
  irrefl x := by simp [ltOf, cfW, cmpW]
  trans x y z h1 h2 := decide_eq_true (by
    have a : cfW x y < 0 := of_decide_eq_true h1
    have b : cfW y z < 0 := of_decide_eq_true h2
    simp only [cfW, cmpW] at a b ⊢
    omega)
  ntrans x y z h1 h2 := decide_eq_false (by
    have a : ¬ cfW x y < 0 := of_decide_eq_false h1
    have b : ¬ cfW y z < 0 := of_decide_eq_false h2
    simp only [cfW, cmpW] at a b ⊢
    omega)
open Go.Sort in
theorem cfW_tot (x y : WkO) (h1 : ltOf cfW x y = false) (h2 : ltOf cfW y x = false) : x = y := by
  have a := okW_of x
  have b := okW_of y
  have h1 : ¬ cfW x y < 0 := of_decide_eq_false h1
  have h2 : ¬ cfW y x < 0 := of_decide_eq_false h2
  simp only [cfW, cmpW] at h1 h2
  obtain ⟨⟨x0, x1⟩, hx⟩ := x
  obtain ⟨⟨y0, y1⟩, hy⟩ := y
  simp only at a b h1 h2
  obtain rfl : x1 = y1 := by omega
  obtain rfl : x0 = y0 := by omega
  rfl
theorem grownBy_sortedV {w : World} {g n : Nat} {os : Array Obj} (d : Array Value) : w.grownBy (Go.Sort.grow (Go.Sort.putRow id (Go.Sort.ahead w n) g 0 d) os) (some g) := by
  refine ⟨rfl, rfl, rfl, by simp, fun k hk hne => ?_⟩
  rw [Go.Sort.heap_grow_old _ _ (by simpa using hk)]
  have : g ≠ k := fun e => hne (by rw [e])
  simp [Go.Sort.putRow, Go.Sort.mapBlock, Go.Sort.ahead, Array.getElem?_modify, this]
theorem heap_sortedV {w : World} {g n : Nat} {os : Array Obj} {cur : Array Value} {e : TypeId} {fr : Nat × Nat} (d : Array Value) (hb : w.heap[g]? = some (.cells cur e fr)) :
    (Go.Sort.grow (Go.Sort.putRow id (Go.Sort.ahead w n) g 0 d) os).heap[g]? = some (.cells (Go.Sort.putCells id 0 d cur) e fr) := by
  have hg : g < w.heap.size := (Array.getElem?_eq_some_iff.1 hb).1
  rw [Go.Sort.heap_grow_old _ _ (by simpa using hg)]
  simp [Go.Sort.putRow, Go.Sort.mapBlock, Go.Sort.ahead, Array.getElem?_modify, hb, Go.Sort.onCells]
theorem take_putCellsV (cur : Array Value) (ts : Array Value) (h : ts.size ≤ cur.size) : (Go.Sort.putCells id 0 ts cur).toList.take ts.size = ts.toList := by
  apply List.ext_getElem?
  intro j
  by_cases hj : j < ts.size
  · rw [List.getElem?_take_of_lt hj, Array.getElem?_toList]
    simp [Go.Sort.putCells, hj, show j < cur.size by omega]
  · rw [List.getElem?_take_eq_none (by omega), List.getElem?_eq_none (by simp; omega)]
theorem flatK_list (ds : List WkO) : (Go.Sort.flatK encWk 2 ds.toArray).toList = ((ds.map Subtype.val).map eWalker).flatten := by
  have hl : ∀ x ∈ (ds.map Subtype.val).map eWalker, x.length = 2 := fun x hx => by
    obtain ⟨y, _, rfl⟩ := List.mem_map.1 hx
    rfl
  apply List.ext_getElem?
  intro t
  by_cases ht : t < ds.length * 2
  · have h1 := Go.Sort.get_flatK encWk 2 ds.toArray t (by simpa using ht)
    have h2 : t / 2 < ds.length := by omega
    have h3 : t % 2 < 2 := Nat.mod_lt _ (by decide)
    have h4 := flatten_at hl (i := t / 2) (j := t % 2) (by simpa using h2) (z := []) h3
    rw [show t / 2 * 2 + t % 2 = t by omega] at h4
    rw [h4, Array.getElem?_toList, Array.getElem?_eq_getElem (by simpa using ht)]
    rw [getElem!_pos _ t (by simpa using ht)] at h1
    rw [h1]
    have h5 : (ds.toArray)[t / 2]! = ds[t / 2] := by rw [getElem!_pos _ _ (by simpa using h2)]; rfl
    rw [h5]
    have h6 : (((ds.map Subtype.val).map eWalker).getD (t / 2) []) = eWalker ds[t / 2].1 := by
      rw [List.getD_eq_getElem?_getD, List.getElem?_eq_getElem (by simpa using h2)]
      simp
    rw [h6]
    rcases (show t % 2 = 0 ∨ t % 2 = 1 by omega) with q | q <;> rw [q] <;> rfl
  · rw [List.getElem?_eq_none (by simpa using ht), List.getElem?_eq_none (by rw [flatten_len hl]; simpa using ht)]
set_option maxHeartbeats 1000000 in
open Go.Sort in
theorem slices_SortFunc_impl_Walker.cmp (x y : WkO) (W : World) : Calls Try.prog 44 #[.agg #[.int .i64 x.1.f0, .int .i64 x.1.f1], .agg #[.int .i64 y.1.f0, .int .i64 y.1.f1]] W fun e w' => e = .returned (.int .i64 (cfW x y)) ∧ ∃ q os', w' = grow (W.drewN q) os' := by
 have hx := okW_of x
 have hy := okW_of y
 unfold cfW cmpW
 generalize x.1.f0 = a at hx ⊢
 generalize x.1.f1 = b at hx ⊢
 generalize y.1.f0 = c at hy ⊢
 generalize y.1.f1 = d at hy ⊢
 have e1 : IntKind.i64.wrap (a - c) = a - c := by simp [IntKind.wrap, IntKind.bits, IntKind.signed]; omega
 have e2 : IntKind.i64.wrap (4 * (a - c)) = 4 * (a - c) := by simp [IntKind.wrap, IntKind.bits, IntKind.signed]; omega
 have e3 : IntKind.i64.wrap (4 * (a - c) + b) = 4 * (a - c) + b := by simp [IntKind.wrap, IntKind.bits, IntKind.signed]; omega
 have e4 : IntKind.i64.wrap (4 * (a - c) + b - d) = 4 * (a - c) + b - d := by simp [IntKind.wrap, IntKind.bits, IntKind.signed]; omega
 clear hx hy
 go_enter Try.func44, Try.ntmps44
 go_wp2
 go_ret
 exact ⟨rfl, 0, _, by rw [alloc_eq_grow, alloc_eq_grow, grow_grow]; rfl⟩
set_option maxHeartbeats 4000000 in
open Go.Sort in
theorem slices_SortFunc_impl_Walker.sorts {l r : List SWalker} (h : slices_SortFunc_impl_Walker.f l = some r) : CtrS Try.prog 43 43 2 (l.map eWalker) [.v (.func (.func 44) #[] #[])] (r.map eWalker) := by
  unfold slices_SortFunc_impl_Walker.f at h
  obtain ⟨h1, h⟩ := ifN h
  obtain ⟨h2, h⟩ := ifN h
  obtain rfl := Option.some.inj h
  clear h
  have hok : ∀ m : List SWalker, rowOk 2 (m.map eWalker) := fun m x hx => by
    obtain ⟨z, _, rfl⟩ := List.mem_map.1 hx
    exact ⟨rfl, fun u hu => by simp [eWalker] at hu; rcases hu with rfl | rfl <;> rfl⟩
  refine ⟨enters_of Try.func43 rfl rfl, hok _, fun w B y hB ho => ?_⟩
  simp only [vluL, vlu]
  rcases ho.2 with ⟨rfl, h0⟩ | ⟨g, cap, cur, rfl, g1, g2, g3, g4, g5, g6⟩
  · rw [List.length_map] at h0
    obtain rfl : l = [] := List.eq_nil_of_length_eq_zero h0
    refine (AnyF.slices_SortFunc_none Try.laysSF none 0 _ w).mono ?_
    rintro e w' ⟨rfl, rfl⟩
    exact ⟨rfl, by simpa using ho, World.grownBy.refl _ _⟩
  · obtain ⟨ds, rfl⟩ := wkO_list l h1
    have hg : g < w.heap.size := (Array.getElem?_eq_some_iff.1 g2).1
    have hlen : ((ds.map Subtype.val).map eWalker).length = ds.length := by simp
    rw [hlen] at g3 g6 ⊢
    have hfl := flatK_list ds
    have hH : HoldsK encWk 2 w g 0 ds.toArray := by
      intro j hj
      have hj' : j < ds.length * 2 := by simpa using hj
      refine ⟨?_, by simp [World.frozen?, g2]⟩
      have q1 : (cur.toList.take (ds.length * 2))[j]? = ((flatK encWk 2 ds.toArray).toList)[j]? := by rw [g6, hfl]
      rw [List.getElem?_take_of_lt hj'] at q1
      simp only [World.cell?, g2, Nat.zero_add]
      simp only [Option.isSome_none, Bool.false_eq_true, if_false]
      rw [← Array.getElem?_toList, q1, Array.getElem?_toList, Array.getElem?_eq_getElem hj, getElem!_pos _ j hj]
      rfl
    have eg : ∀ args w, (callFunc 44 args).run Try.prog w = .ok (.enter 44 args) w := enters_of Try.func44 (by kernel_rfl) rfl
    have hcon := AnyQ.slices_SortFunc_total Try.laysSF 2 Try.isAgg43 Try.sizeOf43 encWk (fun _ => rfl) (fun x v hv => by simp [encWk] at hv; rcases hv with rfl | rfl <;> rfl) cfW cfW_swo 44 #[] g 0 cap ds.toArray w eg (fun _ _ _ _ x y => slices_SortFunc_impl_Walker.cmp x y _) hH hg (by simp at h2; simpa using h2) cfW_tot
    have hms : (ds.mergeSort fun x y => !(ltOf cfW) y x).map Subtype.val = (ds.map Subtype.val).mergeSort slices_SortFunc_impl_Walker.l2 := List.map_mergeSort fun a _ b _ => rfl
    have hml : (ds.mergeSort fun x y => !(ltOf cfW) y x).length = ds.length := List.length_mergeSort ds
    refine hcon.mono ?_
    rintro e w' ⟨rfl, n, os, rfl⟩
    refine ⟨rfl, ?_, grownBy_sortedV _⟩
    rw [← hms]
    have hf2 := flatK_list (ds.mergeSort fun x y => !(ltOf cfW) y x)
    have hsz : (flatK encWk 2 (ds.mergeSort fun x y => !(ltOf cfW) y x).toArray).size = ds.length * 2 := by simp [hml]
    have hcs : ds.length * 2 ≤ cur.size := by rw [g5]; exact Nat.mul_le_mul_right _ g3
    have hyl : (((ds.mergeSort fun x y => !(ltOf cfW) y x).map Subtype.val).map eWalker).length = ds.length := by rw [List.length_map, List.length_map, hml]
    have hyf : ((((ds.mergeSort fun x y => !(ltOf cfW) y x).map Subtype.val).map eWalker).flatten).length = ds.length * 2 := by rw [flatten_len (sz := 2) (fun x hx => (hok _ x hx).1), hyl]
    rw [hyl]
    refine ⟨hyf, .inr ⟨g, cap, _, rfl, g1, heap_sortedV _ g2, g3, g4, by simp [putCells, g5], ?_⟩⟩
    have ht := take_putCellsV cur (flatK encWk 2 (ds.mergeSort fun x y => !(ltOf cfW) y x).toArray) (by rw [hsz]; exact hcs)
    rw [hsz, hf2] at ht
    exact ht
set_option maxRecDepth 20000 in set_option maxHeartbeats 4000000 in open Nat renaming reduceAdd → p1, reduceSub → p2, reduceMul → p3, reduceDiv → p4, reduceBNe → p5, reduceBEq → p6, reduceEqDiff → p7, reduceLeDiff → p8, reduceLT → p9 in open Int renaming reduceLE → p10, reduceLT → p11, reduceEq → p12 in
theorem impl_PossibleWalkers.ctr {k : Nat} {a0_0 : Int} {a0_1 : Int} {a0_2 : Int} {l1 : List Int} {l2 : List Int} {r : List SWalker} (h : impl_PossibleWalkers.f k a0_0 a0_1 a0_2 l1 l2 = some r) : Ctr Try.prog 13 [.ag [.v (.int .i64 a0_0), .v (.int .i64 a0_1), .v (.int .i64 a0_2)], .pr 1 (l1.map eI), .pr 1 (l2.map eI)] (.ow 43 2 (r.map eWalker)) := by
  refine Ctr_of tyOk hm Try.func13 rfl rfl (by kernel_rfl) (n := 88) (rv := [.tmp 6]) rfl rfl ?_
  simp only [W, List.replicate]
  unfold impl_PossibleWalkers.f at h
  replace h := bnd h; obtain ⟨t1, A, h⟩ := h
  try simp only [W, p1, p2, p3, p4, p5, p6, p7, p8, p9, p10, p11, p12]
  refine callR (impl_MazeOk.ctr A) ?_
  replace h := ifT h; rcases h with ⟨rfl, h⟩ | ⟨rfl, h⟩
  · replace h := ifS h; rcases h with ⟨c3, h⟩ | ⟨c3, h⟩
    · replace h := bnd h; obtain ⟨t4, A, h⟩ := h
      try simp only [W, eq_true c3, p1, p2, p3, p4, p5, p6, p7, p8, p9, p10, p11, p12]
      refine callR (impl_areTurns.ctr A) ?_
      rcases k with _ | m5; · cases h
      rw [impl_PossibleWalkers.j0] at h
      replace h := ifT h; rcases h with ⟨c6, h⟩ | ⟨c6, h⟩
      · cases h
        try simp only [W, eq_true c3, c6, p1, p2, p3, p4, p5, p6, p7, p8, p9, p10, p11, p12]
      · try simp only [W, eq_true c3, c6, p1, p2, p3, p4, p5, p6, p7, p8, p9, p10, p11, p12]
        refine loopN (fun x : List Int × List Int × List (SWalker) × Int × Int × Int × Int => [.u, .pr 1 (List.map eI x.1), .pr 1 (List.map eI x.2.1), .bp 48 0, .u, .u, .u, .lo 112, .v (.int .i64 x.2.2.2.1), .u, .u, .u, .u, .u, .u, .u, .u, .u, .u, .u, .u, .u, .u, .u, .u, .u, .u, .u, .u, .u, .u, .u, .u, .u, .u, .u, .u, .u, .u, .u, .u, .u, .u, .u, .u, .u, .u, .u, .u, .u, .u, .u, .u, .u, .u, .u, .u, .u, .u, .u, .u, .u, .u, .u, .u, .u, .u, .u, .u, .u, .u, .u, .u, .u, .u, .u, .u, .u, .u, .u, .u, .u, .u, .u, .u, .u, .u, .u, .u, .u, .u]) (fun x => [(48, .box 30 [.v (.int .i64 x.2.2.2.2.1), .v (.int .i64 x.2.2.2.2.2.1), .v (.int .i64 x.2.2.2.2.2.2)]), (112, .row 43 2 (List.map eWalker x.2.2.1))]) (fun n x => impl_PossibleWalkers.l0 n x.1 x.2.1 x.2.2.1 x.2.2.2.1 x.2.2.2.2.1 x.2.2.2.2.2.1 x.2.2.2.2.2.2 = some r) (l1, l2, ([] : List (SWalker)), 0, a0_0, a0_1, a0_2) [] h (by simp only [W, p1, p2, p3, p4, p5, p6, p7, p8, p9, p10, p11, p12] <;> trivial) (by simp only [W, p1, p2, p3, p4, p5, p6, p7, p8, p9, p10, p11, p12] <;> trivial) rfl (fun _ h => by cases h) ?_
        intro n1 ⟨x7, x8, x9, x10, x11, x12, x13⟩ _ h
        simp only [impl_PossibleWalkers.l0] at h
        replace h := bnd h; obtain ⟨t14, A, h⟩ := h
        try simp only [W, p1, p2, p3, p4, p5, p6, p7, p8, p9, p10, p11, p12]
        refine callR (impl_CountCells.ctr A) ?_
        replace h := ifS h; rcases h with ⟨c15, h⟩ | ⟨c15, h⟩
        · replace h := bnd h; obtain ⟨t16, A, h⟩ := h
          try simp only [W, c15, p1, p2, p3, p4, p5, p6, p7, p8, p9, p10, p11, p12]
          refine callR (impl_PatternAt.ctr A) ?_
          replace h := ifN h; obtain ⟨c17, h⟩ := h
          try simp only [W, c15, c17, p1, p2, p3, p4, p5, p6, p7, p8, p9, p10, p11, p12]
          refine loopN (fun x : List Int × List Int × List (SWalker) × Int × Bool × Int × Int × Int × Int × Int × Int => [.u, .pr 1 (List.map eI x.1), .pr 1 (List.map eI x.2.1), .bp 48 0, .u, .u, .u, .lo 112, .v (.int .i64 x.2.2.2.1), .bp 144 0, .v (.bool x.2.2.2.2.1), .v (.int .i64 x.2.2.2.2.2.1), .u, .u, .u, .u, .u, .u, .u, .u, .u, .u, .u, .u, .u, .u, .u, .u, .u, .bp 48 0, .u, .u, .u, .u, .u, .u, .u, .u, .u, .u, .u, .u, .u, .u, .u, .u, .u, .u, .u, .u, .u, .u, .u, .u, .u, .u, .u, .u, .u, .u, .u, .u, .u, .u, .u, .u, .u, .u, .u, .u, .u, .u, .u, .u, .u, .u, .u, .u, .u, .u, .u, .u, .u, .u, .u, .u, .u, .u, .u, .u, .u]) (fun x => [(48, .box 30 [.v (.int .i64 x.2.2.2.2.2.2.1), .v (.int .i64 x.2.2.2.2.2.2.2.1), .v (.int .i64 x.2.2.2.2.2.2.2.2.1)]), (112, .row 43 2 (List.map eWalker x.2.2.1)), (144, .box 43 [.v (.int .i64 x.2.2.2.2.2.2.2.2.2.1), .v (.int .i64 x.2.2.2.2.2.2.2.2.2.2)])]) (fun n x => impl_PossibleWalkers.l1 n x.1 x.2.1 x.2.2.1 x.2.2.2.1 x.2.2.2.2.1 x.2.2.2.2.2.1 x.2.2.2.2.2.2.1 x.2.2.2.2.2.2.2.1 x.2.2.2.2.2.2.2.2.1 x.2.2.2.2.2.2.2.2.2.1 x.2.2.2.2.2.2.2.2.2.2 = some r) (x7, x8, x9, x10, (t16 == (rd x7 0)), 0, x11, x12, x13, (wrap64 (Int.tdiv x10 4)), (Int.tmod x10 4)) [] h (by simp only [W, p1, p2, p3, p4, p5, p6, p7, p8, p9, p10, p11, p12] <;> trivial) (by simp only [W, p1, p2, p3, p4, p5, p6, p7, p8, p9, p10, p11, p12] <;> trivial) rfl (fun _ h => by cases h) ?_
          intro n2 ⟨x18, x19, x20, x21, x22, x23, x24, x25, x26, x27, x28⟩ _ h
          simp only [impl_PossibleWalkers.l1] at h
          replace h := ifT h; rcases h with ⟨rfl, h⟩ | ⟨rfl, h⟩
          · rcases n2 with _ | m30; · cases h
            rw [impl_PossibleWalkers.j3] at h
            replace h := ifT h; rcases h with ⟨c31, h⟩ | ⟨c31, h⟩
            · replace h := ifN h; obtain ⟨c32, h⟩ := h
              replace h := ifN h; obtain ⟨c33, h⟩ := h
              replace h := bnd h; obtain ⟨⟨t34_1, t34_2, t34_3⟩, A, h⟩ := h
              dsimp only at h
              try simp only [W, c31, c32, c33, p1, p2, p3, p4, p5, p6, p7, p8, p9, p10, p11, p12]
              refine callR (impl_went.ctr A) ?_
              replace h := ifT h; rcases h with ⟨rfl, h⟩ | ⟨rfl, h⟩
              · replace h := bnd h; obtain ⟨t36, A, h⟩ := h
                try simp only [W, c31, c32, c33, p1, p2, p3, p4, p5, p6, p7, p8, p9, p10, p11, p12]
                refine callR (impl_PatternAt.ctr A) ?_
                replace h := ifN h; obtain ⟨c37, h⟩ := h
                replace h := ifN h; obtain ⟨c38, h⟩ := h
                try simp only [W, c31, c32, c33, c37, c38, p1, p2, p3, p4, p5, p6, p7, p8, p9, p10, p11, p12]
                exact nextN (x18, x19, x20, x21, (t36 == (rd x18 (wrap64 (x23 + 1)))), (wrap64 (x23 + 1)), x24, x25, x26, t34_1, t34_2) [] m30 (by omega) h (by simp only [W, p1, p2, p3, p4, p5, p6, p7, p8, p9, p10, p11, p12] <;> trivial) (by simp only [W, p1, p2, p3, p4, p5, p6, p7, p8, p9, p10, p11, p12] <;> trivial) rfl
              · try simp only [W, c31, c32, c33, p1, p2, p3, p4, p5, p6, p7, p8, p9, p10, p11, p12]
                exact nextN (x18, x19, x20, x21, false, (wrap64 (x23 + 1)), x24, x25, x26, t34_1, t34_2) [] m30 (by omega) h (by simp only [W, p1, p2, p3, p4, p5, p6, p7, p8, p9, p10, p11, p12] <;> trivial) (by simp only [W, p1, p2, p3, p4, p5, p6, p7, p8, p9, p10, p11, p12] <;> trivial) rfl
            · rw [if_pos rfl] at h
              replace h := bnd h; obtain ⟨t33, A, h⟩ := h
              try simp only [W, c31, p1, p2, p3, p4, p5, p6, p7, p8, p9, p10, p11, p12]
              refine callR (slices_Contains_impl_Walker.ctr A) ?_
              replace h := ifT h; rcases h with ⟨rfl, h⟩ | ⟨rfl, h⟩
              · try simp only [W, c31, p1, p2, p3, p4, p5, p6, p7, p8, p9, p10, p11, p12]
                exact nextN (x18, x19, x20, (wrap64 (x21 + 1)), x24, x25, x26) [] m30 (by omega) h (by simp only [W, p1, p2, p3, p4, p5, p6, p7, p8, p9, p10, p11, p12] <;> trivial) (by simp only [W, p1, p2, p3, p4, p5, p6, p7, p8, p9, p10, p11, p12] <;> trivial) rfl
              · replace h := ifN h; obtain ⟨c35, h⟩ := h
                try simp only [W, c31, c35, p1, p2, p3, p4, p5, p6, p7, p8, p9, p10, p11, p12]
                exact nextN (x18, x19, (x20 ++ [(⟨x27, x28⟩ : SWalker)]), (wrap64 (x21 + 1)), x24, x25, x26) [(112, 1392)] m30 (by omega) h (by simp only [W, p1, p2, p3, p4, p5, p6, p7, p8, p9, p10, p11, p12] <;> trivial) (by simp only [W, p1, p2, p3, p4, p5, p6, p7, p8, p9, p10, p11, p12] <;> trivial) rfl
          · rcases n2 with _ | m30; · cases h
            rw [impl_PossibleWalkers.j3] at h
            rw [if_neg (by decide)] at h
            rw [if_neg (by decide)] at h
            try simp only [W, p1, p2, p3, p4, p5, p6, p7, p8, p9, p10, p11, p12]
            exact nextN (x18, x19, x20, (wrap64 (x21 + 1)), x24, x25, x26) [] m30 (by omega) h (by simp only [W, p1, p2, p3, p4, p5, p6, p7, p8, p9, p10, p11, p12] <;> trivial) (by simp only [W, p1, p2, p3, p4, p5, p6, p7, p8, p9, p10, p11, p12] <;> trivial) rfl
        · replace h := bnd h; obtain ⟨t16, A, h⟩ := h
          try simp only [W, c15, p1, p2, p3, p4, p5, p6, p7, p8, p9, p10, p11, p12]
          refine callS (by simp only [W, p1, p2, p3, p4, p5, p6, p7, p8, p9, p10, p11, p12]) rfl (slices_SortFunc_impl_Walker.sorts A) ⟨_, rfl, ?_⟩
          cases h
          try simp only [W, c15, p1, p2, p3, p4, p5, p6, p7, p8, p9, p10, p11, p12]
    · rcases k with _ | m4; · cases h
      rw [impl_PossibleWalkers.j0] at h
      rw [if_pos rfl] at h
      cases h
      try simp only [W, c3, p1, p2, p3, p4, p5, p6, p7, p8, p9, p10, p11, p12]
  · rcases k with _ | m3; · cases h
    rw [impl_PossibleWalkers.j0] at h
    rw [if_pos rfl] at h
    cases h
    try simp only [W, p1, p2, p3, p4, p5, p6, p7, p8, p9, p10, p11, p12]
end Go.Proofs.Ytccjanhdnheclaa.F
end

section
namespace Go.Proofs.Ytccjanhdnheclaa.F
open Go.RowKit Go.Proofs.YtccjanhdnheclaaW.PrintWords Go.Proofs.YtccjanhdnheclaaW.PrintLast Go.Proofs.YtccjanhdnheclaaW.PrintMore
set_option linter.unusedVariables false
set_option linter.unusedSimpArgs false
attribute [local go_sem] max2_int min2_int max_two min_two
set_option maxRecDepth 20000 in set_option maxHeartbeats 4000000 in open Nat renaming reduceAdd → p1, reduceSub → p2, reduceMul → p3, reduceDiv → p4, reduceBNe → p5, reduceBEq → p6, reduceEqDiff → p7, reduceLeDiff → p8, reduceLT → p9 in open Int renaming reduceLE → p10, reduceLT → p11, reduceEq → p12 in
theorem impl_IsLocated.ctr {k : Nat} {a0_0 : Int} {a0_1 : Int} {a0_2 : Int} {l1 : List Int} {l2 : List Int} {r : Bool} (h : impl_IsLocated.f k a0_0 a0_1 a0_2 l1 l2 = some r) : Ctr Try.prog 10 [.ag [.v (.int .i64 a0_0), .v (.int .i64 a0_1), .v (.int .i64 a0_2)], .pr 1 (l1.map eI), .pr 1 (l2.map eI)] (.v (.bool r)) := by
  refine Ctr_of tyOk hm Try.func10 rfl rfl (by kernel_rfl) (n := 10) (rv := [.tmp 6]) rfl rfl ?_
  simp only [W, List.replicate]
  unfold impl_IsLocated.f at h
  replace h := bnd h; obtain ⟨t1, A, h⟩ := h
  try simp only [W, p1, p2, p3, p4, p5, p6, p7, p8, p9, p10, p11, p12]
  refine callR (impl_PossibleWalkers.ctr A) ?_
  cases h
  try simp only [W, p1, p2, p3, p4, p5, p6, p7, p8, p9, p10, p11, p12]
end Go.Proofs.Ytccjanhdnheclaa.F
end

section
namespace Go.Proofs.Ytccjanhdnheclaa.F
open Go.RowKit Go.Proofs.YtccjanhdnheclaaW.PrintWords Go.Proofs.YtccjanhdnheclaaW.PrintLast Go.Proofs.YtccjanhdnheclaaW.PrintMore
set_option linter.unusedVariables false
set_option linter.unusedSimpArgs false
attribute [local go_sem] max2_int min2_int max_two min_two
set_option maxRecDepth 20000
set_option maxHeartbeats 4000000
open Nat renaming reduceAdd → p1, reduceSub → p2, reduceMul → p3, reduceDiv → p4, reduceBNe → p5, reduceBEq → p6, reduceEqDiff → p7, reduceLeDiff → p8, reduceLT → p9
open Int renaming reduceLE → p10, reduceLT → p11, reduceEq → p12
theorem laws_big.ctr {l0 : List Int} {r : Bool} (h : laws_big.f l0 = some r) : Ctr Try.prog 18 [.pr 1 (l0.map eU8)] (.v (.bool r)) := by
  refine Ctr_of tyOk hm Try.func18 rfl rfl (by kernel_rfl) (n := 5) (rv := [.tmp 2]) rfl rfl ?_
  simp only [W, List.replicate]
  unfold laws_big.f at h
  cases h
  try simp only [W, p1, p2, p3, p4, p5, p6, p7, p8, p9, p10, p11, p12]
def IsS94 (w0 W : World) (g : Nat) (f0 : List Int) (f1 : Int) (f2 : Int) : Prop := ∃ A0 c0, W.heap[g]? = some (.cells #[.slice A0 f0.length c0, .int .i64 f1, .int .i64 f2] 94 (0, 0)) ∧ w0.heap.size ≤ g ∧ Kd.C (Kd.int .u8) w0 A0 f0.length f0
theorem IsS94.grown {w0 W : World} {g : Nat} {f0 : List Int} {f1 : Int} {f2 : Int} {W1 : World} {row : Option Nat} (h : IsS94 w0 W g f0 f1 f2) (hw : W.grownBy W1 row) (hne : some g ≠ row) : IsS94 w0 W1 g f0 f1 f2 := by
  obtain ⟨A0, c0, hb, hg, hr0⟩ := h
  exact ⟨A0, c0, blk_grown hb hw hne, hg, hr0⟩
theorem IsS94.below {w0 W : World} {g : Nat} {f0 : List Int} {f1 : Int} {f2 : Int} {W1 : World} (h : IsS94 w0 W g f0 f1 f2) (hw : Below W.heap.size W W1) : IsS94 w0 W1 g f0 f1 f2 := h.grown (grown_of_below hw none) (by simp)
theorem IsS94.drewN {w0 W : World} {g : Nat} {f0 : List Int} {f1 : Int} {f2 : Int} (h : IsS94 w0 W g f0 f1 f2) (m : Nat) : IsS94 w0 (W.drewN m) g f0 f1 f2 := h
theorem IsS94.drew {w0 W : World} {g : Nat} {f0 : List Int} {f1 : Int} {f2 : Int} (h : IsS94 w0 W g f0 f1 f2) : IsS94 w0 W.drew g f0 f1 f2 := h
theorem IsS94.apart {w0 W : World} {g : Nat} {f0 : List Int} {f1 : Int} {f2 : Int} {α : Type} {d : Kd α} {e : Nat} {base : Nat} {ok : Nat → Prop} {v : Value} {xs : List α} (h : IsS94 w0 W g f0 f1 f2) (ho : d.R e W base ok v xs) (ht : ∀ q, q ∈ e :: d.E → q ≠ 94) : d.R e W base (fun k => ok k ∧ k ≠ g) v xs := by
  obtain ⟨A0, c0, hb, hg, hr0⟩ := h
  exact Kd.R_types ho hb ht
theorem IsS94.own_ne {w0 W : World} {g : Nat} {f0 : List Int} {f1 : Int} {f2 : Int} {α : Type} {d : Kd α} {e : Nat} {base : Nat} {ok : Nat → Prop} {v : Value} {xs : List α} (h : IsS94 w0 W g f0 f1 f2) (ho : d.R e W base ok v xs) (ht : e ≠ 94) : some g ≠ v.ownBlock := by
  obtain ⟨A0, c0, hb, hg, hr0⟩ := h
  exact Kd.R_ne ho hb ht
theorem IsS94.lt {w0 W : World} {g : Nat} {f0 : List Int} {f1 : Int} {f2 : Int} (h : IsS94 w0 W g f0 f1 f2) : g < W.heap.size := by
  obtain ⟨A0, c0, hb, hg, hr0⟩ := h
  exact blk_lt hb
theorem IsS94.ge {w0 W : World} {g : Nat} {f0 : List Int} {f1 : Int} {f2 : Int} (h : IsS94 w0 W g f0 f1 f2) : w0.heap.size ≤ g := by
  obtain ⟨A0, c0, hb, hg, hr0⟩ := h
  exact hg
theorem IsS94.ne_blk {w0 W : World} {g : Nat} {f0 : List Int} {f1 : Int} {f2 : Int} {a : Nat} {cs : Array Value} {t : TypeId} {fr : Nat × Nat} (h : IsS94 w0 W g f0 f1 f2) (hb2 : W.heap[a]? = some (.cells cs t fr)) (ht : t ≠ 94) : g ≠ a := by
  obtain ⟨A0, c0, hb, hg, hr0⟩ := h
  rintro rfl
  rw [hb] at hb2
  injection hb2 with hb2
  injection hb2 with _ ht2
  exact ht ht2.symm
theorem IsS94.far {w0 W : World} {g : Nat} {f0 : List Int} {f1 : Int} {f2 : Int} {p : Addr} (h : IsS94 w0 W g f0 f1 f2) (hne : g ≠ p.block) (u : Value) : IsS94 w0 (W.setCell p u) g f0 f1 f2 := by
  obtain ⟨A0, c0, hb, hg, hr0⟩ := h
  exact ⟨A0, c0, blk_far hb hne u, hg, hr0⟩
theorem cellS94_0 {W : World} {g : Nat} {A0 : Option Addr} {c0 : Nat} {f0 : List Int} {f1 : Int} {f2 : Int} (h : W.heap[g]? = some (.cells #[.slice A0 f0.length c0, .int .i64 f1, .int .i64 f2] 94 (0, 0))) : W.cell? ⟨g, 0, none⟩ = some (.slice A0 f0.length c0) := (kC h 0).trans rfl
theorem cellS94_1 {W : World} {g : Nat} {A0 : Option Addr} {c0 : Nat} {f0 : List Int} {f1 : Int} {f2 : Int} (h : W.heap[g]? = some (.cells #[.slice A0 f0.length c0, .int .i64 f1, .int .i64 f2] 94 (0, 0))) : W.cell? ⟨g, 1, none⟩ = some (.int .i64 f1) := (kC h 1).trans rfl
theorem IsS94.set_1 {w0 W : World} {g : Nat} {f0 : List Int} {f1 : Int} {f2 : Int} (h : IsS94 w0 W g f0 f1 f2) (x : Int) : IsS94 w0 (W.setCell ⟨g, 1, none⟩ (.int .i64 x)) g f0 x f2 := by
  obtain ⟨A0, c0, hb, hg, hr0⟩ := h
  exact ⟨A0, c0, by simpa using blk_set hb 1 (.int .i64 x), hg, hr0⟩
theorem cellS94_2 {W : World} {g : Nat} {A0 : Option Addr} {c0 : Nat} {f0 : List Int} {f1 : Int} {f2 : Int} (h : W.heap[g]? = some (.cells #[.slice A0 f0.length c0, .int .i64 f1, .int .i64 f2] 94 (0, 0))) : W.cell? ⟨g, 2, none⟩ = some (.int .i64 f2) := (kC h 2).trans rfl
theorem IsS94.set_2 {w0 W : World} {g : Nat} {f0 : List Int} {f1 : Int} {f2 : Int} (h : IsS94 w0 W g f0 f1 f2) (x : Int) : IsS94 w0 (W.setCell ⟨g, 2, none⟩ (.int .i64 x)) g f0 f1 x := by
  obtain ⟨A0, c0, hb, hg, hr0⟩ := h
  exact ⟨A0, c0, by simpa using blk_set hb 2 (.int .i64 x), hg, hr0⟩
set_option maxHeartbeats 8000000 in
set_option maxRecDepth 100000 in
theorem spec_l01New.calls (k : Nat) (A0 : Option Addr) (c0 : Nat) (l0 : List Int) (r1 : List Int) (r2 : Int) (r3 : Int) (w0 w : World) (hB : Below w0.heap.size w0 w) (hr0 : Kd.C (Kd.int .u8) w0 A0 l0.length l0) (hc0 : l0.length ≤ c0) (h : spec_l01New.f k l0 = some (r1, r2, r3)) :
  Calls Try.prog 46 #[.slice A0 l0.length c0] w fun e w' => ∃ g_ : Nat, e = .returned (.pointer (some ⟨g_, 0, none⟩)) ∧ IsS94 w0 w' g_ r1 r2 r3 ∧ Below w0.heap.size w0 w' ∧ Below w.heap.size w w' := by
 have hu94 := Try.underlying94
 have HR0 := aK hr0
 have HC0 := aK hc0
 clear hr0 hc0
 have HBW := aK (Below.refl w.heap.size w)
 have HW0 := aK hB.size
 have HB := aK hB
 clear hB
 have H : (spec_l01New.l0 k l0 (wrap64 (99041 + (l0.length : Int))) 0) = some (r1, r2, r3) := h
 clear h
 have H' := aK H
 clear H
 go_enter Try.func46, Try.ntmps46
 go_wp2
 go_loopg [3, 4] k (fun kq v3 v4 w' => ∃ (x3_1 : Int) (x4_1 : Int), v3 = .int .i64 x3_1 ∧ v4 = .int .i64 x4_1 ∧ Aside0 (spec_l01New.l0 kq l0 x3_1 x4_1 = some (r1, r2, r3)) ∧ Aside0 (kq ≤ k) ∧ Aside0 (Below w.heap.size w w') ∧ Aside0 (Below w0.heap.size w0 w'))
 case atStart => exact ⟨(wrap64 (99041 + (l0.length : Int))), (0), (by first | rfl | (simp; done) | (simp [*]; done)), (by first | rfl | (simp; done) | (simp [*]; done)), H', ⟨Nat.le_refl _⟩, ⟨zH0 HBW⟩, ⟨zH0 HB⟩⟩
 case round =>
  clear H'
  obtain ⟨x3_1, x4_1, rfl, rfl, HA, HK1, HBW, HB⟩ := hrel
  cases gk with
  | zero => exact absurd HA.out (by simp [spec_l01New.l0])
  | succ k1 =>
   have H := HA.out
   clear HA
   simp only [spec_l01New.l0] at H
   by_cases c2 : x4_1 < (l0.length : Int)
   ·rw [if_pos c2] at H
    have c2b0 : decide (x4_1 < (l0.length : Int)) = true := decide_eq_true c2
    clear c2
    by_cases c3 : x4_1 < 4000
    ·rw [if_pos c3] at H
     have c3b0 : decide (x4_1 < 4000) = true := decide_eq_true c3
     clear c3
     by_cases c4 : 0 ≤ x4_1
     ·rw [if_pos c4] at H
      have c4b0 : decide (0 ≤ x4_1) = true := decide_eq_true c4
      clear c4
      have H' := aK H
      clear H
      have p347 : 0 ≤ (x4_1 : Int) := of_decide_eq_true (by first | (with_reducible assumption) | assumption)
      have q347 : x4_1 < (l0.length : Int) := of_decide_eq_true (by first | (with_reducible assumption) | assumption)
      obtain ⟨ad347, e347, hx347_0⟩ := Kd.at_int HR0.out x4_1 p347 q347
      cases e347
      replace hx347_0 := pw_cell_below HB.out hx347_0
      replace p347 := eq_true p347
      replace q347 := eq_true q347
      go_wp2
      go_roundg k1
      case measure => have := HK1.out; omega
      case rel => exact ⟨(Go.bits .and .i64 (wrap64 ((wrap64 ((wrap64 (x3_1 * 131)) + (wrap64 (rd l0 x4_1)))) + 7)) 1073741823), (wrap64 (x4_1 + 1)), (by first | rfl | (simp; done) | (simp [*]; done)), (by first | rfl | (simp; done) | (simp [*]; done)), H', ⟨by have := HK1.out; omega⟩, ⟨zH0 HBW⟩, ⟨zH0 HB⟩⟩
     ·rw [if_neg c4] at H
      exact absurd H (by simp)
    ·rw [if_neg c3] at H
     have c3b0 : decide (x4_1 < 4000) = false := decide_eq_false c3
     clear c3
     simp only [Option.some.injEq, Prod.mk.injEq] at H
     obtain ⟨rfl, rfl, rfl⟩ := H
     go_wp2_with (first | ((with_reducible refine gate_dst (N := 31) rfl ?_); refine box_event ?hg (N := 31) ?hd (cs := #[.slice A0 l0.length c0, .int .i64 0, .int .i64 x3_1]) (t := 94) ?hr ?_; (case hd => rfl); (case hg => rfl); (case hr => first | (go_simp; done) | (go_simp; rfl)); intro gb348 hg w5 hbox hb; replace HB := aK (bSp (zH0 HB) hb); have BK348 := aK (hbox); have GW348 := aK ((by rw [hg]; exact (bSz (zH0 HBW)) : w.heap.size ≤ gb348)); have GE348 := aK ((Nat.le_trans HW0.out (by rw [hg]; exact (bSz (zH0 HBW)) : w.heap.size ≤ gb348) : w0.heap.size ≤ gb348)); replace HBW := aK (bSp HBW.out hb); clear hb hbox hg))
     go_ret
     exact ⟨_, rfl, (show IsS94 w0 _ gb348 l0 0 x3_1 from ⟨_, _, by (with_reducible repeat (first | refine kDN ?_ _ | refine kD ?_ | refine blk_alloc ?_ _)); exact BK348.out, GE348.out, HR0.out⟩), by repeat (first | (with_reducible first | exact HB.out | apply bAl | apply bDN | apply bD1 | refine bSt ?_ GE348.out) | exact HB.out), by repeat (first | (with_reducible first | exact HBW.out | apply bAl | apply bDN | apply bD1 | refine bSt ?_ GW348.out) | exact HBW.out)⟩
   ·rw [if_neg c2] at H
    have c2b0 : decide (x4_1 < (l0.length : Int)) = false := decide_eq_false c2
    clear c2
    simp only [Option.some.injEq, Prod.mk.injEq] at H
    obtain ⟨rfl, rfl, rfl⟩ := H
    go_wp2_with (first | ((with_reducible refine gate_dst (N := 31) rfl ?_); refine box_event ?hg (N := 31) ?hd (cs := #[.slice A0 l0.length c0, .int .i64 0, .int .i64 x3_1]) (t := 94) ?hr ?_; (case hd => rfl); (case hg => rfl); (case hr => first | (go_simp; done) | (go_simp; rfl)); intro gb349 hg w6 hbox hb; replace HB := aK (bSp (zH0 HB) hb); have BK349 := aK (hbox); have GW349 := aK ((by rw [hg]; exact (bSz (zH0 HBW)) : w.heap.size ≤ gb349)); have GE349 := aK ((Nat.le_trans HW0.out (by rw [hg]; exact (bSz (zH0 HBW)) : w.heap.size ≤ gb349) : w0.heap.size ≤ gb349)); replace HBW := aK (bSp HBW.out hb); clear hb hbox hg))
    go_ret
    exact ⟨_, rfl, (show IsS94 w0 _ gb349 l0 0 x3_1 from ⟨_, _, by (with_reducible repeat (first | refine kDN ?_ _ | refine kD ?_ | refine blk_alloc ?_ _)); exact BK349.out, GE349.out, HR0.out⟩), by repeat (first | (with_reducible first | exact HB.out | apply bAl | apply bDN | apply bD1 | refine bSt ?_ GE349.out) | exact HB.out), by repeat (first | (with_reducible first | exact HBW.out | apply bAl | apply bDN | apply bD1 | refine bSt ?_ GW349.out) | exact HBW.out)⟩
set_option maxHeartbeats 8000000 in
set_option maxRecDepth 100000 in
theorem spec_l01Byte.calls (g : Nat) (s0_0 : List Int) (s0_1 : Int) (s0_2 : Int) (r1 : Int) (r2 : Int) (r3 : Int) (w0 w : World) (hI : IsS94 w0 w g s0_0 s0_1 s0_2) (hB : Below w0.heap.size w0 w) (h : spec_l01Byte.f s0_0 s0_1 s0_2 = some (r1, r2, r3)) :
  Calls Try.prog 89 #[.pointer (some ⟨g, 0, none⟩)] w fun e w' => e = .returned (.int .i64 r1) ∧ IsS94 w0 w' g s0_0 r2 r3 ∧ Below w0.heap.size w0 w' ∧ KeepBut w w' g none := by
 have HI0 := aK hI
 have HK := aK (KeepBut.refl w g none)
 have HL := aK hB.size
 clear hI
 have HW0 := aK hB.size
 have HB := aK hB
 clear hB
 have H : (if s0_1 < (s0_0.length : Int) then (if 0 ≤ s0_1 then (some (Go.bits .and .i64 (wrap64 ((Go.bits .and .i64 (Go.bits .xor .i64 ((wrap64 ((wrap64 (s0_2 * 6364136223846793005)) + 1442695040888963407)) / 8589934592) ((wrap64 ((wrap64 (s0_2 * 6364136223846793005)) + 1442695040888963407)) / 35184372088832)) 255) + (wrap64 (rd s0_0 s0_1)))) 255, wrap64 (s0_1 + 1), wrap64 ((wrap64 (s0_2 * 6364136223846793005)) + 1442695040888963407))) else (none)) else (some (Go.bits .and .i64 (Go.bits .xor .i64 ((wrap64 ((wrap64 (s0_2 * 6364136223846793005)) + 1442695040888963407)) / 8589934592) ((wrap64 ((wrap64 (s0_2 * 6364136223846793005)) + 1442695040888963407)) / 35184372088832)) 255, s0_1, wrap64 ((wrap64 (s0_2 * 6364136223846793005)) + 1442695040888963407)))) = some (r1, r2, r3) := h
 clear h
 by_cases c2 : s0_1 < (s0_0.length : Int)
 ·rw [if_pos c2] at H
  have c2b0 : decide (s0_1 < (s0_0.length : Int)) = true := decide_eq_true c2
  clear c2
  by_cases c3 : 0 ≤ s0_1
  ·rw [if_pos c3] at H
   have c3b0 : decide (0 ≤ s0_1) = true := decide_eq_true c3
   clear c3
   simp only [Option.some.injEq, Prod.mk.injEq] at H
   obtain ⟨rfl, rfl, rfl⟩ := H
   obtain ⟨ASz4_0, cSz4_0, HGz4, hgz4, HSz4_0⟩ := HI0.out
   have hcz4_0 := cellS94_0 HGz4
   have hcz4_1 := cellS94_1 HGz4
   have hcz4_2 := cellS94_2 HGz4
   have hfz4_1 := kF HGz4 1
   have hfz4_2 := kF HGz4 2
   clear HGz4 hgz4
   have p350 : 0 ≤ (s0_1 : Int) := of_decide_eq_true (by first | (with_reducible assumption) | assumption)
   have q350 : s0_1 < (s0_0.length : Int) := of_decide_eq_true (by first | (with_reducible assumption) | assumption)
   obtain ⟨ad350, e350, hx350_0⟩ := Kd.at_int HSz4_0 s0_1 p350 q350
   cases e350
   have hn350_0 : ad350.block ≠ g := Nat.ne_of_lt (Nat.lt_of_lt_of_le (by have := World.block_lt_of_cell? _ _ hx350_0; first | rwa [add_block] at this | exact this) (IsS94.ge HI0.out))
   replace hx350_0 := pw_cell_below HB.out hx350_0
   replace hx350_0 := (cell_far (p := ⟨g, 2, none⟩) (by first | (rw [add_block]; exact hn350_0) | (show (Addr.add _ _).block ≠ _; rw [add_block]; exact hn350_0) | exact hn350_0) (.int .i64 (wrap64 ((wrap64 (s0_2 * 6364136223846793005)) + 1442695040888963407)))).trans hx350_0
   (try have hy350_0 := fun (n_ : Nat) => (show (((w.drewN n_).setCell ⟨g, 2, none⟩ (.int .i64 (wrap64 ((wrap64 (s0_2 * 6364136223846793005)) + 1442695040888963407))))).cell? _ = some _ from hx350_0))
   clear hn350_0
   replace p350 := eq_true p350
   replace q350 := eq_true q350
   go_enter Try.func89, Try.ntmps89
   go_wp2
   repeat (go_quiet (fail); try go_wp2)
   go_ret
   exact ⟨by first | rfl | (simp [errW_none, errW_some] <;> rfl) | (simp [*, errW_none, errW_some] <;> rfl), by repeat (first | (with_reducible first | exact HI0.out | apply IsS94.alloc | apply IsS94.drewN | apply IsS94.drew | apply IsS94.set_1 | apply IsS94.set_2) | exact HI0.out), by repeat (first | (with_reducible first | exact HB.out | apply bAl | apply bDN | apply bD1 | refine bSt ?_ (IsS94.ge HI0.out)) | exact HB.out), by repeat (first | (with_reducible first | exact HK.out | apply KeepBut.set_ | apply keep_drewN | apply keep_drew | apply keep_alloc) | exact HK.out)⟩
  ·rw [if_neg c3] at H
   exact absurd H (by simp)
 ·rw [if_neg c2] at H
  have c2b0 : decide (s0_1 < (s0_0.length : Int)) = false := decide_eq_false c2
  clear c2
  simp only [Option.some.injEq, Prod.mk.injEq] at H
  obtain ⟨rfl, rfl, rfl⟩ := H
  obtain ⟨ASz5_0, cSz5_0, HGz5, hgz5, HSz5_0⟩ := HI0.out
  have hcz5_0 := cellS94_0 HGz5
  have hcz5_1 := cellS94_1 HGz5
  have hcz5_2 := cellS94_2 HGz5
  have hfz5_1 := kF HGz5 1
  have hfz5_2 := kF HGz5 2
  clear HGz5 hgz5
  go_enter Try.func89, Try.ntmps89
  go_wp2
  repeat (go_quiet (fail); try go_wp2)
  go_ret
  exact ⟨by first | rfl | (simp [errW_none, errW_some] <;> rfl) | (simp [*, errW_none, errW_some] <;> rfl), by repeat (first | (with_reducible first | exact HI0.out | apply IsS94.alloc | apply IsS94.drewN | apply IsS94.drew | apply IsS94.set_1 | apply IsS94.set_2) | exact HI0.out), by repeat (first | (with_reducible first | exact HB.out | apply bAl | apply bDN | apply bD1 | refine bSt ?_ (IsS94.ge HI0.out)) | exact HB.out), by repeat (first | (with_reducible first | exact HK.out | apply KeepBut.set_ | apply keep_drewN | apply keep_drew | apply keep_alloc) | exact HK.out)⟩
set_option maxHeartbeats 8000000 in
set_option maxRecDepth 100000 in
theorem spec_l01Below.calls (g : Nat) (s0_0 : List Int) (s0_1 : Int) (s0_2 : Int) (a1 : Int) (r1 : Int) (r2 : Int) (r3 : Int) (w0 w : World) (hI : IsS94 w0 w g s0_0 s0_1 s0_2) (hB : Below w0.heap.size w0 w) (h : spec_l01Below.f s0_0 s0_1 s0_2 a1 = some (r1, r2, r3)) :
  Calls Try.prog 58 #[.pointer (some ⟨g, 0, none⟩), .int .i64 a1] w fun e w' => e = .returned (.int .i64 r1) ∧ IsS94 w0 w' g s0_0 r2 r3 ∧ Below w0.heap.size w0 w' ∧ KeepBut w w' g none := by
 have HI0 := aK hI
 have HK := aK (KeepBut.refl w g none)
 have HL := aK hB.size
 clear hI
 have HW0 := aK hB.size
 have HB := aK hB
 clear hB
 have H : (if a1 ≤ 0 then (some (0, s0_1, s0_2)) else (if a1 ≤ 256 then ((spec_l01Byte.f s0_0 s0_1 s0_2).bind fun bt351 => (if a1 = 0 then (none) else (some (Int.tmod bt351.1 a1, bt351.2.1, bt351.2.2)))) else ((spec_l01Byte.f s0_0 s0_1 s0_2).bind fun bt354 => ((spec_l01Byte.f s0_0 bt354.2.1 bt354.2.2).bind fun bt357 => ((spec_l01Byte.f s0_0 bt357.2.1 bt357.2.2).bind fun bt360 => ((spec_l01Byte.f s0_0 bt360.2.1 bt360.2.2).bind fun bt363 => (if a1 = 0 then (none) else (some (Int.tmod (wrap64 ((wrap64 ((wrap64 ((wrap64 (bt354.1 * 16777216)) + (wrap64 (bt357.1 * 65536)))) + (wrap64 (bt360.1 * 256)))) + bt363.1)) a1, bt363.2.1, bt363.2.2))))))))) = some (r1, r2, r3) := h
 clear h
 by_cases c3 : a1 ≤ 0
 ·rw [if_pos c3] at H
  have c3b0 : decide (a1 ≤ 0) = true := decide_eq_true c3
  clear c3
  simp only [Option.some.injEq, Prod.mk.injEq] at H
  obtain ⟨rfl, rfl, rfl⟩ := H
  go_enter Try.func58, Try.ntmps58
  go_wp2
  go_ret
  exact ⟨by first | rfl | (simp [errW_none, errW_some] <;> rfl) | (simp [*, errW_none, errW_some] <;> rfl), by repeat (first | (with_reducible first | exact HI0.out | apply IsS94.alloc | apply IsS94.drewN | apply IsS94.drew | apply IsS94.set_1 | apply IsS94.set_2) | exact HI0.out), by repeat (first | (with_reducible first | exact HB.out | apply bAl | apply bDN | apply bD1 | refine bSt ?_ (IsS94.ge HI0.out)) | exact HB.out), by repeat (first | (with_reducible first | exact HK.out | apply KeepBut.set_ | apply keep_drewN | apply keep_drew | apply keep_alloc) | exact HK.out)⟩
 ·rw [if_neg c3] at H
  have c3b0 : decide (a1 ≤ 0) = false := decide_eq_false c3
  clear c3
  by_cases c4 : a1 ≤ 256
  ·rw [if_pos c4] at H
   have c4b0 : decide (a1 ≤ 256) = true := decide_eq_true c4
   clear c4
   replace H := Option.bind_eq_some_iff.mp H
   obtain ⟨⟨t351, t352, t353⟩, A50, H⟩ := H
   replace H : (if a1 = 0 then (none) else (some (Int.tmod t351 a1, t352, t353))) = some (r1, r2, r3) := H
   have A5 := aK A50
   clear A50
   by_cases c6 : a1 = 0
   ·rw [if_pos c6] at H
    exact absurd H (by simp)
   ·rw [if_neg c6] at H
    have c6b0 : (a1 == 0) = false := beq_eq_false_iff_ne.mpr c6
    have c6b1 : (a1 != 0) = true := bne_iff_ne.mpr c6
    simp only [Option.some.injEq, Prod.mk.injEq] at H
    obtain ⟨rfl, rfl, rfl⟩ := H
    go_enter Try.func58, Try.ntmps58
    go_wp2_with (first | ((with_reducible refine gate_callee (f := 89) rfl ?_); refine goesL_ (some 14) rfl rfl Try.func89 (by kernel_rfl) rfl #[.pointer (some ⟨g, 0, none⟩)] rfl zD ?_; (with_reducible refine (spec_l01Byte.calls g s0_0 s0_1 s0_2 t351 t352 t353 w0 _ ?side1 ?side2 A5.out).mono ?_); (case side1 => repeat (first | (with_reducible first | exact HI0.out | apply IsS94.alloc | apply IsS94.drewN | apply IsS94.drew | apply IsS94.set_1 | apply IsS94.set_2) | exact HI0.out)); (case side2 => repeat (first | (with_reducible first | exact HB.out | apply bAl | apply bDN | apply bD1 | refine bSt ?_ (IsS94.ge HI0.out)) | exact HB.out)); rintro e w7 ⟨rfl, hi, hb, hk⟩; refine ⟨_, rfl, ?_⟩; replace HK := aK (KeepBut.trans (by repeat (first | (with_reducible first | exact HK.out | apply KeepBut.set_ | apply keep_drewN | apply keep_drew | apply keep_alloc) | exact HK.out)) hk (.inl rfl)); replace HB := aK (hb); replace HI0 := aK (hi); (try clear hb); (try clear hb2); (try clear hk); (try clear hi)))
    go_ret
    exact ⟨by first | rfl | (simp [errW_none, errW_some] <;> rfl) | (simp [*, errW_none, errW_some] <;> rfl), by repeat (first | (with_reducible first | exact HI0.out | apply IsS94.alloc | apply IsS94.drewN | apply IsS94.drew | apply IsS94.set_1 | apply IsS94.set_2) | exact HI0.out), by repeat (first | (with_reducible first | exact HB.out | apply bAl | apply bDN | apply bD1 | refine bSt ?_ (IsS94.ge HI0.out)) | exact HB.out), by repeat (first | (with_reducible first | exact HK.out | apply KeepBut.set_ | apply keep_drewN | apply keep_drew | apply keep_alloc) | exact HK.out)⟩
  ·rw [if_neg c4] at H
   have c4b0 : decide (a1 ≤ 256) = false := decide_eq_false c4
   clear c4
   replace H := Option.bind_eq_some_iff.mp H
   obtain ⟨⟨t354, t355, t356⟩, A80, H⟩ := H
   replace H : ((spec_l01Byte.f s0_0 t355 t356).bind fun bt357 => ((spec_l01Byte.f s0_0 bt357.2.1 bt357.2.2).bind fun bt360 => ((spec_l01Byte.f s0_0 bt360.2.1 bt360.2.2).bind fun bt363 => (if a1 = 0 then (none) else (some (Int.tmod (wrap64 ((wrap64 ((wrap64 ((wrap64 (t354 * 16777216)) + (wrap64 (bt357.1 * 65536)))) + (wrap64 (bt360.1 * 256)))) + bt363.1)) a1, bt363.2.1, bt363.2.2)))))) = some (r1, r2, r3) := H
   have A8 := aK A80
   clear A80
   replace H := Option.bind_eq_some_iff.mp H
   obtain ⟨⟨t357, t358, t359⟩, A90, H⟩ := H
   replace H : ((spec_l01Byte.f s0_0 t358 t359).bind fun bt360 => ((spec_l01Byte.f s0_0 bt360.2.1 bt360.2.2).bind fun bt363 => (if a1 = 0 then (none) else (some (Int.tmod (wrap64 ((wrap64 ((wrap64 ((wrap64 (t354 * 16777216)) + (wrap64 (t357 * 65536)))) + (wrap64 (bt360.1 * 256)))) + bt363.1)) a1, bt363.2.1, bt363.2.2))))) = some (r1, r2, r3) := H
   have A9 := aK A90
   clear A90
   replace H := Option.bind_eq_some_iff.mp H
   obtain ⟨⟨t360, t361, t362⟩, A100, H⟩ := H
   replace H : ((spec_l01Byte.f s0_0 t361 t362).bind fun bt363 => (if a1 = 0 then (none) else (some (Int.tmod (wrap64 ((wrap64 ((wrap64 ((wrap64 (t354 * 16777216)) + (wrap64 (t357 * 65536)))) + (wrap64 (t360 * 256)))) + bt363.1)) a1, bt363.2.1, bt363.2.2)))) = some (r1, r2, r3) := H
   have A10 := aK A100
   clear A100
   replace H := Option.bind_eq_some_iff.mp H
   obtain ⟨⟨t363, t364, t365⟩, A110, H⟩ := H
   replace H : (if a1 = 0 then (none) else (some (Int.tmod (wrap64 ((wrap64 ((wrap64 ((wrap64 (t354 * 16777216)) + (wrap64 (t357 * 65536)))) + (wrap64 (t360 * 256)))) + t363)) a1, t364, t365))) = some (r1, r2, r3) := H
   have A11 := aK A110
   clear A110
   by_cases c12 : a1 = 0
   ·rw [if_pos c12] at H
    exact absurd H (by simp)
   ·rw [if_neg c12] at H
    have c12b0 : (a1 == 0) = false := beq_eq_false_iff_ne.mpr c12
    have c12b1 : (a1 != 0) = true := bne_iff_ne.mpr c12
    simp only [Option.some.injEq, Prod.mk.injEq] at H
    obtain ⟨rfl, rfl, rfl⟩ := H
    go_enter Try.func58, Try.ntmps58
    go_wp2_with (first | ((with_reducible refine gate_callee (f := 89) rfl ?_); refine goesL_ (some 18) rfl rfl Try.func89 (by kernel_rfl) rfl #[.pointer (some ⟨g, 0, none⟩)] rfl zD ?_; (with_reducible refine (spec_l01Byte.calls g s0_0 s0_1 s0_2 t354 t355 t356 w0 _ ?side1 ?side2 A8.out).mono ?_); (case side1 => repeat (first | (with_reducible first | exact HI0.out | apply IsS94.alloc | apply IsS94.drewN | apply IsS94.drew | apply IsS94.set_1 | apply IsS94.set_2) | exact HI0.out)); (case side2 => repeat (first | (with_reducible first | exact HB.out | apply bAl | apply bDN | apply bD1 | refine bSt ?_ (IsS94.ge HI0.out)) | exact HB.out)); rintro e w13 ⟨rfl, hi, hb, hk⟩; refine ⟨_, rfl, ?_⟩; replace HK := aK (KeepBut.trans (by repeat (first | (with_reducible first | exact HK.out | apply KeepBut.set_ | apply keep_drewN | apply keep_drew | apply keep_alloc) | exact HK.out)) hk (.inl rfl)); replace HB := aK (hb); replace HI0 := aK (hi); (try clear hb); (try clear hb2); (try clear hk); (try clear hi)) | ((with_reducible refine gate_callee (f := 89) rfl ?_); refine goesL_ (some 20) rfl rfl Try.func89 (by kernel_rfl) rfl #[.pointer (some ⟨g, 0, none⟩)] rfl zD ?_; (with_reducible refine (spec_l01Byte.calls g s0_0 t355 t356 t357 t358 t359 w0 _ ?side1 ?side2 A9.out).mono ?_); (case side1 => repeat (first | (with_reducible first | exact HI0.out | apply IsS94.alloc | apply IsS94.drewN | apply IsS94.drew | apply IsS94.set_1 | apply IsS94.set_2) | exact HI0.out)); (case side2 => repeat (first | (with_reducible first | exact HB.out | apply bAl | apply bDN | apply bD1 | refine bSt ?_ (IsS94.ge HI0.out)) | exact HB.out)); rintro e w14 ⟨rfl, hi, hb, hk⟩; refine ⟨_, rfl, ?_⟩; replace HK := aK (KeepBut.trans (by repeat (first | (with_reducible first | exact HK.out | apply KeepBut.set_ | apply keep_drewN | apply keep_drew | apply keep_alloc) | exact HK.out)) hk (.inl rfl)); replace HB := aK (hb); replace HI0 := aK (hi); (try clear hb); (try clear hb2); (try clear hk); (try clear hi)) | ((with_reducible refine gate_callee (f := 89) rfl ?_); refine goesL_ (some 22) rfl rfl Try.func89 (by kernel_rfl) rfl #[.pointer (some ⟨g, 0, none⟩)] rfl zD ?_; (with_reducible refine (spec_l01Byte.calls g s0_0 t358 t359 t360 t361 t362 w0 _ ?side1 ?side2 A10.out).mono ?_); (case side1 => repeat (first | (with_reducible first | exact HI0.out | apply IsS94.alloc | apply IsS94.drewN | apply IsS94.drew | apply IsS94.set_1 | apply IsS94.set_2) | exact HI0.out)); (case side2 => repeat (first | (with_reducible first | exact HB.out | apply bAl | apply bDN | apply bD1 | refine bSt ?_ (IsS94.ge HI0.out)) | exact HB.out)); rintro e w15 ⟨rfl, hi, hb, hk⟩; refine ⟨_, rfl, ?_⟩; replace HK := aK (KeepBut.trans (by repeat (first | (with_reducible first | exact HK.out | apply KeepBut.set_ | apply keep_drewN | apply keep_drew | apply keep_alloc) | exact HK.out)) hk (.inl rfl)); replace HB := aK (hb); replace HI0 := aK (hi); (try clear hb); (try clear hb2); (try clear hk); (try clear hi)) | ((with_reducible refine gate_callee (f := 89) rfl ?_); refine goesL_ (some 24) rfl rfl Try.func89 (by kernel_rfl) rfl #[.pointer (some ⟨g, 0, none⟩)] rfl zD ?_; (with_reducible refine (spec_l01Byte.calls g s0_0 t361 t362 t363 t364 t365 w0 _ ?side1 ?side2 A11.out).mono ?_); (case side1 => repeat (first | (with_reducible first | exact HI0.out | apply IsS94.alloc | apply IsS94.drewN | apply IsS94.drew | apply IsS94.set_1 | apply IsS94.set_2) | exact HI0.out)); (case side2 => repeat (first | (with_reducible first | exact HB.out | apply bAl | apply bDN | apply bD1 | refine bSt ?_ (IsS94.ge HI0.out)) | exact HB.out)); rintro e w16 ⟨rfl, hi, hb, hk⟩; refine ⟨_, rfl, ?_⟩; replace HK := aK (KeepBut.trans (by repeat (first | (with_reducible first | exact HK.out | apply KeepBut.set_ | apply keep_drewN | apply keep_drew | apply keep_alloc) | exact HK.out)) hk (.inl rfl)); replace HB := aK (hb); replace HI0 := aK (hi); (try clear hb); (try clear hb2); (try clear hk); (try clear hi)))
    go_ret
    exact ⟨by first | rfl | (simp [errW_none, errW_some] <;> rfl) | (simp [*, errW_none, errW_some] <;> rfl), by repeat (first | (with_reducible first | exact HI0.out | apply IsS94.alloc | apply IsS94.drewN | apply IsS94.drew | apply IsS94.set_1 | apply IsS94.set_2) | exact HI0.out), by repeat (first | (with_reducible first | exact HB.out | apply bAl | apply bDN | apply bD1 | refine bSt ?_ (IsS94.ge HI0.out)) | exact HB.out), by repeat (first | (with_reducible first | exact HK.out | apply KeepBut.set_ | apply keep_drewN | apply keep_drew | apply keep_alloc) | exact HK.out)⟩
set_option maxHeartbeats 8000000 in
set_option maxRecDepth 100000 in
theorem spec_l01PickInt.calls (g : Nat) (s0_0 : List Int) (s0_1 : Int) (s0_2 : Int) (A1 : Option Addr) (c1 : Nat) (l1 : List Int) (r1 : Int) (r2 : Int) (r3 : Int) (w0 w : World) (hI : IsS94 w0 w g s0_0 s0_1 s0_2) (hB : Below w0.heap.size w0 w) (hr1 : Kd.C (Kd.int .i64) w A1 l1.length l1) (hc1 : l1.length ≤ c1) (hf1 : ∀ ad, A1 = some ad → 0 < l1.length → ad.block ≠ g) (h : spec_l01PickInt.f s0_0 s0_1 s0_2 l1 = some (r1, r2, r3)) :
  Calls Try.prog 112 #[.pointer (some ⟨g, 0, none⟩), .slice A1 l1.length c1] w fun e w' => e = .returned (.int .i64 r1) ∧ IsS94 w0 w' g s0_0 r2 r3 ∧ Below w0.heap.size w0 w' ∧ KeepBut w w' g none := by
 have HR1 := aK hr1
 have HC1 := aK hc1
 clear hr1 hc1
 have HI0 := aK hI
 have HK := aK (KeepBut.refl w g none)
 have HL := aK hB.size
 clear hI
 have HW0 := aK hB.size
 have HB := aK hB
 clear hB
 have H : ((spec_l01Below.f s0_0 s0_1 s0_2 (l1.length : Int)).bind fun bt366 => (if 0 ≤ bt366.1 then (if bt366.1 < (l1.length : Int) then (some (rd l1 bt366.1, bt366.2.1, bt366.2.2)) else (none)) else (none))) = some (r1, r2, r3) := h
 clear h
 replace H := Option.bind_eq_some_iff.mp H
 obtain ⟨⟨t366, t367, t368⟩, A30, H⟩ := H
 replace H : (if 0 ≤ t366 then (if t366 < (l1.length : Int) then (some (rd l1 t366, t367, t368)) else (none)) else (none)) = some (r1, r2, r3) := H
 have A3 := aK A30
 clear A30
 by_cases c4 : 0 ≤ t366
 ·rw [if_pos c4] at H
  have c4b0 : decide (0 ≤ t366) = true := decide_eq_true c4
  clear c4
  by_cases c5 : t366 < (l1.length : Int)
  ·rw [if_pos c5] at H
   have c5b0 : decide (t366 < (l1.length : Int)) = true := decide_eq_true c5
   clear c5
   simp only [Option.some.injEq, Prod.mk.injEq] at H
   obtain ⟨rfl, rfl, rfl⟩ := H
   go_enter Try.func112, Try.ntmps112
   go_wp2_with (first | ((with_reducible refine gate_callee (f := 58) rfl ?_); refine goesL_ (some 9) rfl rfl Try.func58 (by kernel_rfl) rfl #[.pointer (some ⟨g, 0, none⟩), .int .i64 (l1.length : Int)] rfl zD ?_; (with_reducible refine (spec_l01Below.calls g s0_0 s0_1 s0_2 (l1.length : Int) t366 t367 t368 w0 _ ?side1 ?side2 A3.out).mono ?_); (case side1 => repeat (first | (with_reducible first | exact HI0.out | apply IsS94.alloc | apply IsS94.drewN | apply IsS94.drew | apply IsS94.set_1 | apply IsS94.set_2) | exact HI0.out)); (case side2 => repeat (first | (with_reducible first | exact HB.out | apply bAl | apply bDN | apply bD1 | refine bSt ?_ (IsS94.ge HI0.out)) | exact HB.out)); rintro e w6 ⟨rfl, hi, hb, hk⟩; refine ⟨_, rfl, ?_⟩; replace HK := aK (KeepBut.trans (by repeat (first | (with_reducible first | exact HK.out | apply KeepBut.set_ | apply keep_drewN | apply keep_drew | apply keep_alloc) | exact HK.out)) hk (.inl rfl)); replace HB := aK (hb); replace HI0 := aK (hi); (try clear hb); (try clear hb2); (try clear hk); (try clear hi); have p369 : 0 ≤ (t366 : Int) := of_decide_eq_true (by first | (with_reducible assumption) | assumption); have q369 : t366 < (l1.length : Int) := of_decide_eq_true (by first | (with_reducible assumption) | assumption); obtain ⟨ad369, e369, hx369_0⟩ := Kd.at_int HR1.out t366 p369 q369; cases e369; replace hx369_0 := keep_cell HK.out hx369_0 (by first | (rw [add_block]; exact hf1 _ rfl (by omega)) | exact hf1 _ rfl (by omega) | exact hf1 ad369 rfl (by omega)); replace p369 := eq_true p369; replace q369 := eq_true q369))
   go_ret
   exact ⟨by first | rfl | (simp [errW_none, errW_some] <;> rfl) | (simp [*, errW_none, errW_some] <;> rfl), by repeat (first | (with_reducible first | exact HI0.out | apply IsS94.alloc | apply IsS94.drewN | apply IsS94.drew | apply IsS94.set_1 | apply IsS94.set_2) | exact HI0.out), by repeat (first | (with_reducible first | exact HB.out | apply bAl | apply bDN | apply bD1 | refine bSt ?_ (IsS94.ge HI0.out)) | exact HB.out), by repeat (first | (with_reducible first | exact HK.out | apply KeepBut.set_ | apply keep_drewN | apply keep_drew | apply keep_alloc) | exact HK.out)⟩
  ·rw [if_neg c5] at H
   exact absurd H (by simp)
 ·rw [if_neg c4] at H
  exact absurd H (by simp)
set_option maxHeartbeats 8000000 in
set_option maxRecDepth 100000 in
theorem spec_l02Grid.calls (g : Nat) (s0_0 : List Int) (s0_1 : Int) (s0_2 : Int) (r1 : Int) (r2 : Int) (r3 : Int) (r4 : Int) (w0 w : World) (hI : IsS94 w0 w g s0_0 s0_1 s0_2) (hB : Below w0.heap.size w0 w) (h : spec_l02Grid.f s0_0 s0_1 s0_2 = some (r1, r2, r3, r4)) :
  Calls Try.prog 79 #[.pointer (some ⟨g, 0, none⟩)] w fun e w' => e = .returned (.agg #[.int .i64 r1, .int .i64 r2]) ∧ IsS94 w0 w' g s0_0 r3 r4 ∧ Below w0.heap.size w0 w' ∧ KeepBut w w' g none := by
 have hu28 := Try.underlying28
 have HI0 := aK hI
 have HK := aK (KeepBut.refl w g none)
 have HL := aK hB.size
 clear hI
 have HW0 := aK hB.size
 have HB := aK hB
 clear hB
 have H : ((spec_l01PickInt.f s0_0 s0_1 s0_2 (([1, 2, 3, 3, 4] : List Int))).bind fun bt374 => ((spec_l01PickInt.f s0_0 bt374.2.1 bt374.2.2 (([1, 2, 3, 3, 4] : List Int))).bind fun bt380 => (some (bt374.1, bt380.1, bt380.2.1, bt380.2.2)))) = some (r1, r2, r3, r4) := h
 clear h
 obtain ⟨y371, hy371⟩ : ∃ y_ : List Int, y_ = (([1, 2, 3, 3, 4] : List Int)) := ⟨_, rfl⟩
 replace H : ((spec_l01PickInt.f s0_0 s0_1 s0_2 y371).bind fun bt374 => ((spec_l01PickInt.f s0_0 bt374.2.1 bt374.2.2 (([1, 2, 3, 3, 4] : List Int))).bind fun bt380 => (some (bt374.1, bt380.1, bt380.2.1, bt380.2.2)))) = some (r1, r2, r3, r4) := by first | (rw [hy371]; with_reducible exact H) | (have H2_ := (Option.bind_some _ _).symm.trans H; rw [hy371]; with_reducible exact H2_) | (have H2_ := (Option.bind_some _ _).symm.trans H; with_reducible exact H2_) | with_reducible exact H | (rw [hy371]; exact H) | exact H
 have Ny371 := aK hy371
 clear hy371
 replace H := Option.bind_eq_some_iff.mp H
 obtain ⟨⟨t374, t375, t376⟩, A20, H⟩ := H
 replace H : ((spec_l01PickInt.f s0_0 t375 t376 (([1, 2, 3, 3, 4] : List Int))).bind fun bt380 => (some (t374, bt380.1, bt380.2.1, bt380.2.2))) = some (r1, r2, r3, r4) := H
 have A2 := aK A20
 clear A20
 obtain ⟨y377, hy377⟩ : ∃ y_ : List Int, y_ = (([1, 2, 3, 3, 4] : List Int)) := ⟨_, rfl⟩
 replace H : ((spec_l01PickInt.f s0_0 t375 t376 y377).bind fun bt380 => (some (t374, bt380.1, bt380.2.1, bt380.2.2))) = some (r1, r2, r3, r4) := by first | (rw [hy377]; with_reducible exact H) | (have H2_ := (Option.bind_some _ _).symm.trans H; rw [hy377]; with_reducible exact H2_) | (have H2_ := (Option.bind_some _ _).symm.trans H; with_reducible exact H2_) | with_reducible exact H | (rw [hy377]; exact H) | exact H
 have Ny377 := aK hy377
 clear hy377
 replace H := Option.bind_eq_some_iff.mp H
 obtain ⟨⟨t380, t381, t382⟩, A30, H⟩ := H
 replace H : (some (t374, t380, t381, t382)) = some (r1, r2, r3, r4) := H
 have A3 := aK A30
 clear A30
 simp only [Option.some.injEq, Prod.mk.injEq] at H
 obtain ⟨rfl, rfl, rfl, rfl⟩ := H
 go_enter Try.func79, Try.ntmps79
 go_wp2_with (first | ((with_reducible refine gate_dst (N := 2) rfl ?_); refine box_event ?hg (N := 2) ?hd (cs := #[.int .i64 0, .int .i64 0]) (t := 28) ?hr ?_; (case hd => rfl); (case hg => rfl); (case hr => first | (go_simp; done) | (go_simp; rfl)); intro gb370 hg w4 hbox hb; replace HB := aK (bSp (by repeat (first | (with_reducible first | exact HB.out | apply bAl | apply bDN | apply bD1 | refine bSt ?_ (IsS94.ge HI0.out)) | exact HB.out)) hb); have BK370 := aK (hbox); have GW370 := aK ((by rw [hg]; exact (keep_size (w := w) (g := g) (row := none) (by repeat (first | (with_reducible first | exact HK.out | apply KeepBut.set_ | apply keep_drewN | apply keep_drew | apply keep_alloc) | exact HK.out))) : w.heap.size ≤ gb370)); have GE370 := aK ((Nat.le_trans HW0.out (by rw [hg]; exact (keep_size (w := w) (g := g) (row := none) (by repeat (first | (with_reducible first | exact HK.out | apply KeepBut.set_ | apply keep_drewN | apply keep_drew | apply keep_alloc) | exact HK.out))) : w.heap.size ≤ gb370) : w0.heap.size ≤ gb370)); replace HK := aK (KeepBut.trans (by repeat (first | (with_reducible first | exact HK.out | apply KeepBut.set_ | apply keep_drewN | apply keep_drew | apply keep_alloc) | exact HK.out)) (KeepBut.of_below hb g none) (.inl rfl)); have NB0_370 := aK ((by rw [hg]; exact Nat.ne_of_lt (IsS94.lt (show IsS94 w0 _ g s0_0 s0_1 s0_2 from by repeat (first | (with_reducible first | exact HI0.out | apply IsS94.alloc | apply IsS94.drewN | apply IsS94.drew | apply IsS94.set_1 | apply IsS94.set_2) | exact HI0.out))) : g ≠ gb370)); have NB370_0 := aK ((by rw [hg]; exact Nat.ne_of_gt (IsS94.lt (show IsS94 w0 _ g s0_0 s0_1 s0_2 from by repeat (first | (with_reducible first | exact HI0.out | apply IsS94.alloc | apply IsS94.drewN | apply IsS94.drew | apply IsS94.set_1 | apply IsS94.set_2) | exact HI0.out))) : gb370 ≠ g)); replace HI0 := aK (IsS94.below (by repeat (first | (with_reducible first | exact HI0.out | apply IsS94.alloc | apply IsS94.drewN | apply IsS94.drew | apply IsS94.set_1 | apply IsS94.set_2) | exact HI0.out)) hb); clear hb hbox hg) | ((with_reducible refine gate_dst (N := 5) rfl ?_); refine Kd.R_lit (Kd.int .i64) _ 3 ?hg (N := 5) ?hd (xs := ([1, 2, 3, 3, 4] : List Int)) (inner := [.int .i64 1, .int .i64 2, .int .i64 3, .int .i64 3, .int .i64 4]) (ok := fun _ => True) (okp := fun _ => True) ?hr ?hp (fun _ hk => hk) trivial (Below.refl _ _) (Nat.le_refl _) (by simp) ?_; (case hd => rfl); (case hg => rfl); (case hr => first | (go_simp; done) | (go_simp; rfl)); (case hp => exact (Reps.one (show Kd.M (Kd.int .i64) _ _ _ 1 [.int .i64 1] from rfl) (Reps.one (show Kd.M (Kd.int .i64) _ _ _ 2 [.int .i64 2] from rfl) (Reps.one (show Kd.M (Kd.int .i64) _ _ _ 3 [.int .i64 3] from rfl) (Reps.one (show Kd.M (Kd.int .i64) _ _ _ 3 [.int .i64 3] from rfl) (Reps.one (show Kd.M (Kd.int .i64) _ _ _ 4 [.int .i64 4] from rfl) (Reps.none _ _))))))); intro v372 w5 ho6 hb hg_ hnew_; clear hg_ hnew_; (first | rw [← Ny371.out] at ho6 | (simp only [Int.reduceToNat] at ho6; rw [← Ny371.out] at ho6)); have HO373 := aK (Kd.R_lower ho6 (keep_size (w := w) (g := g) (row := none) (by repeat (first | (with_reducible first | exact HK.out | apply KeepBut.set_ | apply keep_drewN | apply keep_drew | apply keep_alloc | refine keep_far ?_ GW370.out _) | exact HK.out)))); replace BK370 := zB BK370 hb; replace HK := aK (KeepBut.trans (by repeat (first | (with_reducible first | exact HK.out | apply KeepBut.set_ | apply keep_drewN | apply keep_drew | apply keep_alloc | refine keep_far ?_ GW370.out _) | exact HK.out)) (KeepBut.of_below hb g none) (.inl rfl)); replace HB := aK (bSp (by repeat (first | (with_reducible first | exact HB.out | apply bAl | apply bDN | apply bD1 | refine bSt ?_ (IsS94.ge HI0.out) | refine bSt ?_ GE370.out) | exact HB.out)) hb); replace HI0 := aK (IsS94.below (by repeat (first | (with_reducible first | exact HI0.out | apply IsS94.alloc | apply IsS94.drewN | apply IsS94.drew | apply IsS94.set_1 | apply IsS94.set_2 | refine IsS94.far ?_ NB0_370.out _) | exact HI0.out)) hb); clear hb ho6; obtain ⟨Ao7, co7, eo7⟩ := Kd.R_slice HO373.out; subst eo7) | ((with_reducible refine gate_callee (f := 112) rfl ?_); refine goesL_ (some 6) rfl rfl Try.func112 (by kernel_rfl) rfl #[.pointer (some ⟨g, 0, none⟩), .slice Ao7 y371.length co7] rfl zD ?_; (with_reducible refine (spec_l01PickInt.calls g s0_0 s0_1 s0_2 _ _ y371 t374 t375 t376 w0 _ ?side1 ?side2 ?side3 ?side4 ?side5 A2.out).mono ?_); (case side1 => repeat (first | (with_reducible first | exact HI0.out | apply IsS94.alloc | apply IsS94.drewN | apply IsS94.drew | apply IsS94.set_1 | apply IsS94.set_2 | refine IsS94.far ?_ NB0_370.out _) | exact HI0.out)); (case side2 => repeat (first | (with_reducible first | exact HB.out | apply bAl | apply bDN | apply bD1 | refine bSt ?_ (IsS94.ge HI0.out) | refine bSt ?_ GE370.out) | exact HB.out)); (case side3 => exact zC (Kd.R_reads' HO373.out).2.2); (case side4 => exact (Kd.R_reads' HO373.out).2.1); (case side5 => exact far_slice (IsS94.own_ne HI0.out HO373.out (by decide))); rintro e w8 ⟨rfl, hi, hb, hk⟩; refine ⟨_, rfl, ?_⟩; replace BK370 := aK (KeepBut.blk hk (g' := gb370) (o := .cells #[.int .i64 0, .int .i64 0] 28 (0, 0)) (zK BK370) NB370_0.out (by simp)); replace HO373 := aK (Kd.R_mono (Kd.R_keep (IsS94.apart (show IsS94 w0 _ g s0_0 s0_1 s0_2 from by repeat (first | (with_reducible first | exact HI0.out | apply IsS94.alloc | apply IsS94.drewN | apply IsS94.drew | apply IsS94.set_1 | apply IsS94.set_2 | refine IsS94.far ?_ NB0_370.out _) | exact HI0.out)) (zA HO373) (by decide)) hk (fun _ h => h.2)) (fun _ h => h.1)); replace HK := aK (KeepBut.trans (by repeat (first | (with_reducible first | exact HK.out | apply KeepBut.set_ | apply keep_drewN | apply keep_drew | apply keep_alloc | refine keep_far ?_ GW370.out _) | exact HK.out)) hk (.inl rfl)); replace HB := aK (hb); replace HI0 := aK (hi); (try clear hb); (try clear hb2); (try clear hk); (try clear hi)) | ((with_reducible refine gate_dst (N := 9) rfl ?_); refine Kd.R_lit (Kd.int .i64) _ 3 ?hg (N := 9) ?hd (xs := ([1, 2, 3, 3, 4] : List Int)) (inner := [.int .i64 1, .int .i64 2, .int .i64 3, .int .i64 3, .int .i64 4]) (ok := fun _ => True) (okp := fun _ => True) ?hr ?hp (fun _ hk => hk) trivial (Below.refl _ _) (Nat.le_refl _) (by simp) ?_; (case hd => rfl); (case hg => rfl); (case hr => first | (go_simp; done) | (go_simp; rfl)); (case hp => exact (Reps.one (show Kd.M (Kd.int .i64) _ _ _ 1 [.int .i64 1] from rfl) (Reps.one (show Kd.M (Kd.int .i64) _ _ _ 2 [.int .i64 2] from rfl) (Reps.one (show Kd.M (Kd.int .i64) _ _ _ 3 [.int .i64 3] from rfl) (Reps.one (show Kd.M (Kd.int .i64) _ _ _ 3 [.int .i64 3] from rfl) (Reps.one (show Kd.M (Kd.int .i64) _ _ _ 4 [.int .i64 4] from rfl) (Reps.none _ _))))))); intro v378 w9 ho10 hb hg_ hnew_; clear hg_ hnew_; (first | rw [← Ny377.out] at ho10 | (simp only [Int.reduceToNat] at ho10; rw [← Ny377.out] at ho10)); have HO379 := aK (Kd.R_lower (Kd.R_new' ho10 (Kd.R_lt (zA HO373))) (keep_size (w := w) (g := g) (row := none) (by repeat (first | (with_reducible first | exact HK.out | apply KeepBut.set_ | apply keep_drewN | apply keep_drew | apply keep_alloc | refine keep_far ?_ GW370.out _) | exact HK.out)))); replace HO373 := aK (Kd.R_elder' (zA HO373) (Kd.R_base ho10) hb); replace BK370 := zB BK370 hb; replace HK := aK (KeepBut.trans (by repeat (first | (with_reducible first | exact HK.out | apply KeepBut.set_ | apply keep_drewN | apply keep_drew | apply keep_alloc | refine keep_far ?_ GW370.out _) | exact HK.out)) (KeepBut.of_below hb g none) (.inl rfl)); replace HB := aK (bSp (by repeat (first | (with_reducible first | exact HB.out | apply bAl | apply bDN | apply bD1 | refine bSt ?_ (IsS94.ge HI0.out) | refine bSt ?_ GE370.out) | exact HB.out)) hb); replace HI0 := aK (IsS94.below (by repeat (first | (with_reducible first | exact HI0.out | apply IsS94.alloc | apply IsS94.drewN | apply IsS94.drew | apply IsS94.set_1 | apply IsS94.set_2 | refine IsS94.far ?_ NB0_370.out _) | exact HI0.out)) hb); clear hb ho10; obtain ⟨Ao11, co11, eo11⟩ := Kd.R_slice HO379.out; subst eo11) | ((with_reducible refine gate_callee (f := 112) rfl ?_); refine goesL_ (some 10) rfl rfl Try.func112 (by kernel_rfl) rfl #[.pointer (some ⟨g, 0, none⟩), .slice Ao11 y377.length co11] rfl zD ?_; (with_reducible refine (spec_l01PickInt.calls g s0_0 t375 t376 _ _ y377 t380 t381 t382 w0 _ ?side1 ?side2 ?side3 ?side4 ?side5 A3.out).mono ?_); (case side1 => repeat (first | (with_reducible first | exact HI0.out | apply IsS94.alloc | apply IsS94.drewN | apply IsS94.drew | apply IsS94.set_1 | apply IsS94.set_2 | refine IsS94.far ?_ NB0_370.out _) | exact HI0.out)); (case side2 => repeat (first | (with_reducible first | exact HB.out | apply bAl | apply bDN | apply bD1 | refine bSt ?_ (IsS94.ge HI0.out) | refine bSt ?_ GE370.out) | exact HB.out)); (case side3 => exact zC (Kd.R_reads' HO379.out).2.2); (case side4 => exact (Kd.R_reads' HO379.out).2.1); (case side5 => exact far_slice (IsS94.own_ne HI0.out HO379.out (by decide))); rintro e w12 ⟨rfl, hi, hb, hk⟩; refine ⟨_, rfl, ?_⟩; replace BK370 := aK (KeepBut.blk hk (g' := gb370) (o := .cells #[.int .i64 0, .int .i64 0] 28 (0, 0)) (zK BK370) NB370_0.out (by simp)); replace HO373 := aK (Kd.R_mono (Kd.R_keep (IsS94.apart (show IsS94 w0 _ g s0_0 t375 t376 from by repeat (first | (with_reducible first | exact HI0.out | apply IsS94.alloc | apply IsS94.drewN | apply IsS94.drew | apply IsS94.set_1 | apply IsS94.set_2 | refine IsS94.far ?_ NB0_370.out _) | exact HI0.out)) (zA HO373) (by decide)) hk (fun _ h => h.2)) (fun _ h => h.1)); replace HO379 := aK (Kd.R_mono (Kd.R_keep (IsS94.apart (show IsS94 w0 _ g s0_0 t375 t376 from by repeat (first | (with_reducible first | exact HI0.out | apply IsS94.alloc | apply IsS94.drewN | apply IsS94.drew | apply IsS94.set_1 | apply IsS94.set_2 | refine IsS94.far ?_ NB0_370.out _) | exact HI0.out)) (zA HO379) (by decide)) hk (fun _ h => h.2)) (fun _ h => h.1)); replace HK := aK (KeepBut.trans (by repeat (first | (with_reducible first | exact HK.out | apply KeepBut.set_ | apply keep_drewN | apply keep_drew | apply keep_alloc | refine keep_far ?_ GW370.out _) | exact HK.out)) hk (.inl rfl)); replace HB := aK (hb); replace HI0 := aK (hi); (try clear hb); (try clear hb2); (try clear hk); (try clear hi); have hnb13 := NB370_0.out; have hnc13 := NB0_370.out; obtain ⟨hcz14_0, hcz14_1, hfz14_0, hfz14_1⟩ := cl2 BK370.out))
 refine bodyPost_ret (results_cell_row rfl _ _ gb370 28 #[.int .i64 t374, .int .i64 t380] (0, 0) _ rfl (by (with_reducible repeat (first | refine kDN ?_ _ | refine kD ?_ | refine blk_alloc ?_ _)); refine blk_put (cs := #[.int .i64 t374, .int .i64 0]) ?_ 1 _ rfl; (with_reducible repeat (first | refine kDN ?_ _ | refine kD ?_ | refine blk_alloc ?_ _)); refine blk_put (cs := #[.int .i64 0, .int .i64 0]) ?_ 0 _ rfl; (with_reducible repeat (first | refine kDN ?_ _ | refine kD ?_ | refine blk_alloc ?_ _)); exact BK370.out) Try.underlying28 rfl (by kernel_rfl)) rfl ?_
 exact ⟨by first | rfl | (simp [errW_none, errW_some] <;> rfl) | (simp [*, errW_none, errW_some] <;> rfl), by repeat (first | (with_reducible first | exact HI0.out | apply IsS94.alloc | apply IsS94.drewN | apply IsS94.drew | apply IsS94.set_1 | apply IsS94.set_2 | refine IsS94.far ?_ NB0_370.out _) | exact HI0.out), by repeat (first | (with_reducible first | exact HB.out | apply bAl | apply bDN | apply bD1 | refine bSt ?_ (IsS94.ge HI0.out) | refine bSt ?_ GE370.out) | exact HB.out), by repeat (first | (with_reducible first | exact HK.out | apply KeepBut.set_ | apply keep_drewN | apply keep_drew | apply keep_alloc | refine keep_far ?_ GW370.out _) | exact HK.out)⟩
set_option maxHeartbeats 8000000 in
set_option maxRecDepth 100000 in
theorem spec_l03Common.calls (k : Nat) (a0 : Int) (a1 : Int) (r : Bool) (w : World) (h : spec_l03Common.f k a0 a1 = some r) :
  Calls Try.prog 113 #[.int .i64 a0, .int .i64 a1] w fun e w' => e = .returned (.bool r) ∧ Drawn0 w w' := by
 have H : (spec_l03Common.l0 k a0 a1) = some r := h
 clear h
 have H' := aK H
 clear H
 go_enter Try.func113, Try.ntmps113
 go_wp2
 repeat (go_quiet (fail); try go_wp2)
 go_loopg [0, 1] k (fun kq v0 v1 w' => ∃ (x0_1 : Int) (x1_1 : Int), v0 = .int .i64 x0_1 ∧ v1 = .int .i64 x1_1 ∧ Aside0 (spec_l03Common.l0 kq x0_1 x1_1 = some r) ∧ Aside0 (kq ≤ k) ∧ Drawn0 w w')
 case atStart => exact ⟨(a0), (a1), (by first | rfl | (simp; done) | (simp [*]; done)), (by first | rfl | (simp; done) | (simp [*]; done)), H', ⟨Nat.le_refl _⟩, by repeat (first | exact Drawn0.refl _ | apply Drawn0.step)⟩
 case round =>
  clear H'
  try clear c1
  try clear p2
  obtain ⟨x0_1, x1_1, rfl, rfl, HA, HK1, ⟨m1, rfl⟩⟩ := hrel
  cases gk with
  | zero => exact absurd HA.out (by simp [spec_l03Common.l0])
  | succ k1 =>
   have H := HA.out
   clear HA
   simp only [spec_l03Common.l0] at H
   by_cases c3 : x1_1 > 0
   ·rw [if_pos c3] at H
    have c3b0 : decide (0 < x1_1) = true := decide_eq_true c3
    clear c3
    by_cases c4 : x1_1 = 0
    ·rw [if_pos c4] at H
     exact absurd H (by simp)
    ·rw [if_neg c4] at H
     have c4b0 : (x1_1 == 0) = false := beq_eq_false_iff_ne.mpr c4
     have c4b1 : (x1_1 != 0) = true := bne_iff_ne.mpr c4
     have H' := aK H
     clear H
     go_wp2
     repeat (go_quiet (fail); try go_wp2)
     go_roundg k1
     case measure => have := HK1.out; omega
     case rel => exact ⟨(x1_1), (Int.tmod x0_1 x1_1), (by first | rfl | (simp; done) | (simp [*]; done)), (by first | rfl | (simp; done) | (simp [*]; done)), H', ⟨by have := HK1.out; omega⟩, by repeat (first | exact Drawn0.refl _ | apply Drawn0.step)⟩
   ·rw [if_neg c3] at H
    have c3b0 : decide (0 < x1_1) = false := decide_eq_false c3
    clear c3
    obtain rfl := Option.some.inj H
    go_wp2
    repeat (go_quiet (fail); try go_wp2)
    go_ret
    exact ⟨by first | rfl | (simp; done) | (simp [*]; done), by repeat (first | exact Drawn0.refl _ | apply Drawn0.step)⟩
theorem spec_EndsOf.ctr {a0_0 : Int} {a0_1 : Int} {a1 : Int} {r1 : Int} {r2 : Int} (h : spec_EndsOf.f a0_0 a0_1 a1 = some (r1, r2)) : Ctr Try.prog 114 [.ag [.v (.int .i64 a0_0), .v (.int .i64 a0_1)], .v (.int .i64 a1)] (.tu [.v (.int .i64 r1), .v (.int .i64 r2)]) := by
  refine Ctr_of tyOk hm Try.func114 rfl rfl (by kernel_rfl) (n := 42) (rv := [.tmp 4, .tmp 5]) rfl rfl ?_
  simp only [W, List.replicate]
  unfold spec_EndsOf.f at h
  replace h := bnd h; obtain ⟨t1, A, h⟩ := h
  try simp only [W, p1, p2, p3, p4, p5, p6, p7, p8, p9, p10, p11, p12]
  refine callR (spec_CountGaps.ctr A) ?_
  replace h := bnd h; obtain ⟨t2, A, h⟩ := h
  try simp only [W, p1, p2, p3, p4, p5, p6, p7, p8, p9, p10, p11, p12]
  refine callR (spec_l01In.ctr A) ?_
  replace h := ifT h; rcases h with ⟨rfl, h⟩ | ⟨rfl, h⟩
  · replace h := bnd h; obtain ⟨t4, A, h⟩ := h
    try simp only [W, p1, p2, p3, p4, p5, p6, p7, p8, p9, p10, p11, p12]
    refine callR (spec_l02East.ctr A) ?_
    replace h := ifS h; rcases h with ⟨c5, h⟩ | ⟨c5, h⟩
    · replace h := ifM h; obtain ⟨c6, h⟩ := h
      cases h
      try simp only [W, c5, c6, p1, p2, p3, p4, p5, p6, p7, p8, p9, p10, p11, p12]
    · replace h := bnd h; obtain ⟨t6, A, h⟩ := h
      try simp only [W, c5, p1, p2, p3, p4, p5, p6, p7, p8, p9, p10, p11, p12]
      refine callR (spec_l02East.ctr A) ?_
      cases h
      try simp only [W, c5, p1, p2, p3, p4, p5, p6, p7, p8, p9, p10, p11, p12]
  · cases h
    try simp only [W, p1, p2, p3, p4, p5, p6, p7, p8, p9, p10, p11, p12]
theorem spec_EndsOf.calls (a0_0 : Int) (a0_1 : Int) (a1 : Int) (r1 : Int) (r2 : Int) (w : World) (h : spec_EndsOf.f a0_0 a0_1 a1 = some (r1, r2)) :
    Calls Try.prog 114 #[.agg #[.int .i64 a0_0, .int .i64 a0_1], .int .i64 a1] w fun e w' => e = .returned (.tuple #[.int .i64 r1, .int .i64 r2]) ∧ Below w.heap.size w w' := by
  refine ((spec_EndsOf.ctr h).2 w [.agg #[.int .i64 a0_0, .int .i64 a0_1], .int .i64 a1] (by simp only [RepL, Rep]; exact ⟨_, _, rfl, ⟨_, rfl, _, _, rfl, rfl, _, _, rfl, rfl, rfl⟩, _, _, rfl, rfl, rfl⟩)).mono ?_
  rintro _ _ ⟨y, L, rfl, hR, _, hb⟩
  exact ⟨congrArg Ending.returned (RepR_pln rfl hR).1, hb⟩
end Go.Proofs.Ytccjanhdnheclaa.F
end
