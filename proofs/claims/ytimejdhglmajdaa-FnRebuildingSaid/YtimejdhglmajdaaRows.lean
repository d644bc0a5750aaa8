/-
  No cell of these rows narrows 'for every input' (looked for: loops, veiled, ifaces, maps, wideKeys, modest, calm, conditions, laid).
  DERIVED. THE GIVEN ROWS OF THIS SEAT. 12 by the template 'for every input the law returns true; each argument reads behind the call as it read before'; 0 by the template 'total and deterministic' (their statements: YtimejdhglmajdaaTotals.lean).
  GIVEN WITH THE SEED: the statements are not yours to turn. If you find one false, say at which input.
  Laid BY PROGRAM, IN A SANDBOX (cutbox-rows.mjs): the forced cells as the released guide's own fill.sh prints them over the translation 62255796369294c5… (all of the seat's roots in one cut). By AI agents, Wed Nov 11 2026. No macro, syntax, notation, axiom, sorry.
-/
import Derived.Test.YtimejdhglmajdaaChecked
import GoSem.Claim
import GoSem.ClaimJoined
import GoSem.ClaimMapViews
import Derived.JoinedTies
import Derived.KernelRfl
namespace Go.Proofs.Ytimejdhglmajdaa
/- THE CELL 'sum', in the pinned program and in every row, IS THE sha256 OF THE DUMP (.gsa) THAT YtimejdhglmajdaaProg.lean LOADS. Nothing in Lean hashes anything: it is a label: what it is worth is what the hold of that sum in a sandbox is worth. -/
noncomputable def Try.pinned : Pinned := { name := "ytimejdhglmajdaa", sum := "62255796369294c5f1d4e24720a857905d930e6500303bb4d32a2da8344aba37", checked := Try.checked }
namespace Rows
def none {H : Type} : Left H := { results := [], args := [] }

/-- 'laws.FnExactFollowSigns': WHATEVER THE INPUT: true; the input reads as it did. -/
def fnExactFollowSignsSpec : ChangeSpec := { name := "fnExactFollowSigns", fn := fun _ => fun
  | [d1, d2, d3] => { results := [.lit (.bool true)], args := [d1, d2, d3] }
  | _ => none }
def fnExactFollowSignsRow : OpenClaim := { program := "ytimejdhglmajdaa", sum := "62255796369294c5f1d4e24720a857905d930e6500303bb4d32a2da8344aba37", func := "loop.example/g00990/laws.FnExactFollowSigns", spec := "fnExactFollowSigns", unfollowed := true, recurses := true, apart := false }
def FnExactFollowSignsSaid : Prop := fnExactFollowSignsRow.holds Try.pinned (OpenSpec.ofChange fnExactFollowSignsSpec)

/-- ITS FALSE NEIGHBOUR: 'it returns false'. Refute it at one input. -/
def fnExactFollowSignsWrong : ChangeSpec := { name := "fnExactFollowSigns", fn := fun _ => fun
  | [d1, d2, d3] => { results := [.lit (.bool false)], args := [d1, d2, d3] }
  | _ => none }
def FnExactFollowSignsWrongFalsely : Prop := fnExactFollowSignsRow.holds Try.pinned (OpenSpec.ofChange fnExactFollowSignsWrong)

/-- 'laws.FnExactRescueLength': WHATEVER THE INPUT: true; the input reads as it did. -/
def fnExactRescueLengthSpec : ChangeSpec := { name := "fnExactRescueLength", fn := fun _ => fun
  | [d1, d2, d3] => { results := [.lit (.bool true)], args := [d1, d2, d3] }
  | _ => none }
def fnExactRescueLengthRow : OpenClaim := { program := "ytimejdhglmajdaa", sum := "62255796369294c5f1d4e24720a857905d930e6500303bb4d32a2da8344aba37", func := "loop.example/g00990/laws.FnExactRescueLength", spec := "fnExactRescueLength", unfollowed := true, recurses := true, apart := false }
def FnExactRescueLengthSaid : Prop := fnExactRescueLengthRow.holds Try.pinned (OpenSpec.ofChange fnExactRescueLengthSpec)

/-- ITS FALSE NEIGHBOUR: 'it returns false'. Refute it at one input. -/
def fnExactRescueLengthWrong : ChangeSpec := { name := "fnExactRescueLength", fn := fun _ => fun
  | [d1, d2, d3] => { results := [.lit (.bool false)], args := [d1, d2, d3] }
  | _ => none }
def FnExactRescueLengthWrongFalsely : Prop := fnExactRescueLengthRow.holds Try.pinned (OpenSpec.ofChange fnExactRescueLengthWrong)

/-- 'laws.FnExactReturnLength': WHATEVER THE INPUT: true; the input reads as it did. -/
def fnExactReturnLengthSpec : ChangeSpec := { name := "fnExactReturnLength", fn := fun _ => fun
  | [d1, d2, d3] => { results := [.lit (.bool true)], args := [d1, d2, d3] }
  | _ => none }
def fnExactReturnLengthRow : OpenClaim := { program := "ytimejdhglmajdaa", sum := "62255796369294c5f1d4e24720a857905d930e6500303bb4d32a2da8344aba37", func := "loop.example/g00990/laws.FnExactReturnLength", spec := "fnExactReturnLength", unfollowed := true, recurses := true, apart := false }
def FnExactReturnLengthSaid : Prop := fnExactReturnLengthRow.holds Try.pinned (OpenSpec.ofChange fnExactReturnLengthSpec)

/-- ITS FALSE NEIGHBOUR: 'it returns false'. Refute it at one input. -/
def fnExactReturnLengthWrong : ChangeSpec := { name := "fnExactReturnLength", fn := fun _ => fun
  | [d1, d2, d3] => { results := [.lit (.bool false)], args := [d1, d2, d3] }
  | _ => none }
def FnExactReturnLengthWrongFalsely : Prop := fnExactReturnLengthRow.holds Try.pinned (OpenSpec.ofChange fnExactReturnLengthWrong)

/-- 'laws.FnExactIsSafeOrder': WHATEVER THE INPUT: true; the input reads as it did. -/
def fnExactIsSafeOrderSpec : ChangeSpec := { name := "fnExactIsSafeOrder", fn := fun _ => fun
  | [d1, d2] => { results := [.lit (.bool true)], args := [d1, d2] }
  | _ => none }
def fnExactIsSafeOrderRow : OpenClaim := { program := "ytimejdhglmajdaa", sum := "62255796369294c5f1d4e24720a857905d930e6500303bb4d32a2da8344aba37", func := "loop.example/g00990/laws.FnExactIsSafeOrder", spec := "fnExactIsSafeOrder", unfollowed := true, recurses := true, apart := false }
def FnExactIsSafeOrderSaid : Prop := fnExactIsSafeOrderRow.holds Try.pinned (OpenSpec.ofChange fnExactIsSafeOrderSpec)

/-- ITS FALSE NEIGHBOUR: 'it returns false'. Refute it at one input. -/
def fnExactIsSafeOrderWrong : ChangeSpec := { name := "fnExactIsSafeOrder", fn := fun _ => fun
  | [d1, d2] => { results := [.lit (.bool false)], args := [d1, d2] }
  | _ => none }
def FnExactIsSafeOrderWrongFalsely : Prop := fnExactIsSafeOrderRow.holds Try.pinned (OpenSpec.ofChange fnExactIsSafeOrderWrong)

/-- 'laws.FnExactSafeOrder': WHATEVER THE INPUT: true; the input reads as it did. -/
def fnExactSafeOrderSpec : ChangeSpec := { name := "fnExactSafeOrder", fn := fun _ => fun
  | [d1, d2] => { results := [.lit (.bool true)], args := [d1, d2] }
  | _ => none }
def fnExactSafeOrderRow : OpenClaim := { program := "ytimejdhglmajdaa", sum := "62255796369294c5f1d4e24720a857905d930e6500303bb4d32a2da8344aba37", func := "loop.example/g00990/laws.FnExactSafeOrder", spec := "fnExactSafeOrder", unfollowed := true, recurses := true, apart := false }
def FnExactSafeOrderSaid : Prop := fnExactSafeOrderRow.holds Try.pinned (OpenSpec.ofChange fnExactSafeOrderSpec)

/-- ITS FALSE NEIGHBOUR: 'it returns false'. Refute it at one input. -/
def fnExactSafeOrderWrong : ChangeSpec := { name := "fnExactSafeOrder", fn := fun _ => fun
  | [d1, d2] => { results := [.lit (.bool false)], args := [d1, d2] }
  | _ => none }
def FnExactSafeOrderWrongFalsely : Prop := fnExactSafeOrderRow.holds Try.pinned (OpenSpec.ofChange fnExactSafeOrderWrong)

/-- 'laws.FnExactCanFollow': WHATEVER THE INPUT: true; the input reads as it did. -/
def fnExactCanFollowSpec : ChangeSpec := { name := "fnExactCanFollow", fn := fun _ => fun
  | [d1, d2, d3] => { results := [.lit (.bool true)], args := [d1, d2, d3] }
  | _ => none }
def fnExactCanFollowRow : OpenClaim := { program := "ytimejdhglmajdaa", sum := "62255796369294c5f1d4e24720a857905d930e6500303bb4d32a2da8344aba37", func := "loop.example/g00990/laws.FnExactCanFollow", spec := "fnExactCanFollow", unfollowed := true, recurses := true, apart := false }
def FnExactCanFollowSaid : Prop := fnExactCanFollowRow.holds Try.pinned (OpenSpec.ofChange fnExactCanFollowSpec)

/-- ITS FALSE NEIGHBOUR: 'it returns false'. Refute it at one input. -/
def fnExactCanFollowWrong : ChangeSpec := { name := "fnExactCanFollow", fn := fun _ => fun
  | [d1, d2, d3] => { results := [.lit (.bool false)], args := [d1, d2, d3] }
  | _ => none }
def FnExactCanFollowWrongFalsely : Prop := fnExactCanFollowRow.holds Try.pinned (OpenSpec.ofChange fnExactCanFollowWrong)

/-- 'laws.FnExactRescueOrder': WHATEVER THE INPUT: true; the input reads as it did. -/
def fnExactRescueOrderSpec : ChangeSpec := { name := "fnExactRescueOrder", fn := fun _ => fun
  | [d1, d2, d3] => { results := [.lit (.bool true)], args := [d1, d2, d3] }
  | _ => none }
def fnExactRescueOrderRow : OpenClaim := { program := "ytimejdhglmajdaa", sum := "62255796369294c5f1d4e24720a857905d930e6500303bb4d32a2da8344aba37", func := "loop.example/g00990/laws.FnExactRescueOrder", spec := "fnExactRescueOrder", unfollowed := true, recurses := true, apart := false }
def FnExactRescueOrderSaid : Prop := fnExactRescueOrderRow.holds Try.pinned (OpenSpec.ofChange fnExactRescueOrderSpec)

/-- ITS FALSE NEIGHBOUR: 'it returns false'. Refute it at one input. -/
def fnExactRescueOrderWrong : ChangeSpec := { name := "fnExactRescueOrder", fn := fun _ => fun
  | [d1, d2, d3] => { results := [.lit (.bool false)], args := [d1, d2, d3] }
  | _ => none }
def FnExactRescueOrderWrongFalsely : Prop := fnExactRescueOrderRow.holds Try.pinned (OpenSpec.ofChange fnExactRescueOrderWrong)

/-- 'laws.FnExactGoalsFor': WHATEVER THE INPUT: true; the input reads as it did. -/
def fnExactGoalsForSpec : ChangeSpec := { name := "fnExactGoalsFor", fn := fun _ => fun
  | [d1, d2, d3] => { results := [.lit (.bool true)], args := [d1, d2, d3] }
  | _ => none }
def fnExactGoalsForRow : OpenClaim := { program := "ytimejdhglmajdaa", sum := "62255796369294c5f1d4e24720a857905d930e6500303bb4d32a2da8344aba37", func := "loop.example/g00990/laws.FnExactGoalsFor", spec := "fnExactGoalsFor", unfollowed := true, recurses := true, apart := false }
def FnExactGoalsForSaid : Prop := fnExactGoalsForRow.holds Try.pinned (OpenSpec.ofChange fnExactGoalsForSpec)

/-- ITS FALSE NEIGHBOUR: 'it returns false'. Refute it at one input. -/
def fnExactGoalsForWrong : ChangeSpec := { name := "fnExactGoalsFor", fn := fun _ => fun
  | [d1, d2, d3] => { results := [.lit (.bool false)], args := [d1, d2, d3] }
  | _ => none }
def FnExactGoalsForWrongFalsely : Prop := fnExactGoalsForRow.holds Try.pinned (OpenSpec.ofChange fnExactGoalsForWrong)

/-- 'laws.FnRebuilding': WHATEVER THE INPUT: true; the input reads as it did. -/
def fnRebuildingSpec : ChangeSpec := { name := "fnRebuilding", fn := fun _ => fun
  | [d] => { results := [.lit (.bool true)], args := [d] }
  | _ => none }
def fnRebuildingRow : OpenClaim := { program := "ytimejdhglmajdaa", sum := "62255796369294c5f1d4e24720a857905d930e6500303bb4d32a2da8344aba37", func := "loop.example/g00990/laws.FnRebuilding", spec := "fnRebuilding", unfollowed := true, recurses := true, apart := false }
def FnRebuildingSaid : Prop := fnRebuildingRow.holds Try.pinned (OpenSpec.ofChange fnRebuildingSpec)

/-- ITS FALSE NEIGHBOUR: 'it returns false'. Refute it at one input. -/
def fnRebuildingWrong : ChangeSpec := { name := "fnRebuilding", fn := fun _ => fun
  | [d] => { results := [.lit (.bool false)], args := [d] }
  | _ => none }
def FnRebuildingWrongFalsely : Prop := fnRebuildingRow.holds Try.pinned (OpenSpec.ofChange fnRebuildingWrong)

/-- 'laws.FnExactFirstFalse': WHATEVER THE INPUT: true; the input reads as it did. -/
def fnExactFirstFalseSpec : ChangeSpec := { name := "fnExactFirstFalse", fn := fun _ => fun
  | [d1, d2] => { results := [.lit (.bool true)], args := [d1, d2] }
  | _ => none }
def fnExactFirstFalseRow : OpenClaim := { program := "ytimejdhglmajdaa", sum := "62255796369294c5f1d4e24720a857905d930e6500303bb4d32a2da8344aba37", func := "loop.example/g00990/laws.FnExactFirstFalse", spec := "fnExactFirstFalse", unfollowed := true, recurses := true, apart := false }
def FnExactFirstFalseSaid : Prop := fnExactFirstFalseRow.holds Try.pinned (OpenSpec.ofChange fnExactFirstFalseSpec)

/-- ITS FALSE NEIGHBOUR: 'it returns false'. Refute it at one input. -/
def fnExactFirstFalseWrong : ChangeSpec := { name := "fnExactFirstFalse", fn := fun _ => fun
  | [d1, d2] => { results := [.lit (.bool false)], args := [d1, d2] }
  | _ => none }
def FnExactFirstFalseWrongFalsely : Prop := fnExactFirstFalseRow.holds Try.pinned (OpenSpec.ofChange fnExactFirstFalseWrong)

/-- 'laws.FnExactIsTrueRecord': WHATEVER THE INPUT: true; the input reads as it did. -/
def fnExactIsTrueRecordSpec : ChangeSpec := { name := "fnExactIsTrueRecord", fn := fun _ => fun
  | [d1, d2] => { results := [.lit (.bool true)], args := [d1, d2] }
  | _ => none }
def fnExactIsTrueRecordRow : OpenClaim := { program := "ytimejdhglmajdaa", sum := "62255796369294c5f1d4e24720a857905d930e6500303bb4d32a2da8344aba37", func := "loop.example/g00990/laws.FnExactIsTrueRecord", spec := "fnExactIsTrueRecord", unfollowed := true, recurses := true, apart := false }
def FnExactIsTrueRecordSaid : Prop := fnExactIsTrueRecordRow.holds Try.pinned (OpenSpec.ofChange fnExactIsTrueRecordSpec)

/-- ITS FALSE NEIGHBOUR: 'it returns false'. Refute it at one input. -/
def fnExactIsTrueRecordWrong : ChangeSpec := { name := "fnExactIsTrueRecord", fn := fun _ => fun
  | [d1, d2] => { results := [.lit (.bool false)], args := [d1, d2] }
  | _ => none }
def FnExactIsTrueRecordWrongFalsely : Prop := fnExactIsTrueRecordRow.holds Try.pinned (OpenSpec.ofChange fnExactIsTrueRecordWrong)

/-- 'laws.FnExactBetweenCells': WHATEVER THE INPUT: true; the input reads as it did. -/
def fnExactBetweenCellsSpec : ChangeSpec := { name := "fnExactBetweenCells", fn := fun _ => fun
  | [d1, d2, d3, d4] => { results := [.lit (.bool true)], args := [d1, d2, d3, d4] }
  | _ => none }
def fnExactBetweenCellsRow : OpenClaim := { program := "ytimejdhglmajdaa", sum := "62255796369294c5f1d4e24720a857905d930e6500303bb4d32a2da8344aba37", func := "loop.example/g00990/laws.FnExactBetweenCells", spec := "fnExactBetweenCells", unfollowed := true, recurses := true, apart := false }
def FnExactBetweenCellsSaid : Prop := fnExactBetweenCellsRow.holds Try.pinned (OpenSpec.ofChange fnExactBetweenCellsSpec)

/-- ITS FALSE NEIGHBOUR: 'it returns false'. Refute it at one input. -/
def fnExactBetweenCellsWrong : ChangeSpec := { name := "fnExactBetweenCells", fn := fun _ => fun
  | [d1, d2, d3, d4] => { results := [.lit (.bool false)], args := [d1, d2, d3, d4] }
  | _ => none }
def FnExactBetweenCellsWrongFalsely : Prop := fnExactBetweenCellsRow.holds Try.pinned (OpenSpec.ofChange fnExactBetweenCellsWrong)

/- THE SECOND FORM. 'bulk': how many values and letters a reading holds, each counted each time it is reached (what is shared counts as often as it is met; a slice's spare places count too). A statement '..UptoSaid' is the law's where the arguments, and the package variables that the reading takes, are together of bulk at most 1048576: NARROWER than '..Said'. Prove '..Said' where nothing that the law and all that it calls make is longer than what came in: it says more and counts as full. Else prove '..UptoSaid'. A law counts once. -/
mutual
def uptoBulk {H : Type} : DataW H → Nat
  | .lit (.string bytes) => bytes.length + 1
  | .lit _ => 1
  | .nil => 1
  | .ptr d => uptoBulk d + 1
  | .slice elems spare => uptoBulkAll elems + uptoBulkAll spare + 1
  | .agg parts => uptoBulkAll parts + 1
  | .iface _ d => uptoBulk d + 1
  | .map entries => uptoBulkEntries entries + 1
  | .held _ => 1
def uptoBulkAll {H : Type} : List (DataW H) → Nat
  | [] => 0
  | d :: r => uptoBulk d + uptoBulkAll r
def uptoBulkEntries {H : Type} : List (Lit × DataW H) → Nat
  | [] => 0
  | x :: r => uptoBulkEntry x + uptoBulkEntries r
def uptoBulkEntry {H : Type} : Lit × DataW H → Nat
  | (.string bytes, d) => bytes.length + uptoBulk d + 1
  | (_, d) => uptoBulk d + 1
 end
def uptoSmall : (H : Type) → List (DataW H) → Bool := fun _ ds => decide (uptoBulkAll ds ≤ 1048576)
def OpenSpec.upto (s : _root_.Go.ChangeSpec) : _root_.Go.OpenSpec := { _root_.Go.OpenSpec.ofChange s with cond := some uptoSmall }

/-- 'laws.FnExactFollowSigns', WHERE WHAT IT READS IS OF BULK AT MOST 1048576: true; the input reads as it did. -/
def fnExactFollowSignsUptoRow : OpenClaim := { program := "ytimejdhglmajdaa", sum := "62255796369294c5f1d4e24720a857905d930e6500303bb4d32a2da8344aba37", func := "loop.example/g00990/laws.FnExactFollowSigns", spec := "fnExactFollowSigns", unfollowed := true, recurses := true, apart := false, narrowed := true }
def FnExactFollowSignsUptoSaid : Prop := fnExactFollowSignsUptoRow.holds Try.pinned (OpenSpec.upto fnExactFollowSignsSpec)

/-- 'laws.FnExactRescueLength', WHERE WHAT IT READS IS OF BULK AT MOST 1048576: true; the input reads as it did. -/
def fnExactRescueLengthUptoRow : OpenClaim := { program := "ytimejdhglmajdaa", sum := "62255796369294c5f1d4e24720a857905d930e6500303bb4d32a2da8344aba37", func := "loop.example/g00990/laws.FnExactRescueLength", spec := "fnExactRescueLength", unfollowed := true, recurses := true, apart := false, narrowed := true }
def FnExactRescueLengthUptoSaid : Prop := fnExactRescueLengthUptoRow.holds Try.pinned (OpenSpec.upto fnExactRescueLengthSpec)

/-- 'laws.FnExactReturnLength', WHERE WHAT IT READS IS OF BULK AT MOST 1048576: true; the input reads as it did. -/
def fnExactReturnLengthUptoRow : OpenClaim := { program := "ytimejdhglmajdaa", sum := "62255796369294c5f1d4e24720a857905d930e6500303bb4d32a2da8344aba37", func := "loop.example/g00990/laws.FnExactReturnLength", spec := "fnExactReturnLength", unfollowed := true, recurses := true, apart := false, narrowed := true }
def FnExactReturnLengthUptoSaid : Prop := fnExactReturnLengthUptoRow.holds Try.pinned (OpenSpec.upto fnExactReturnLengthSpec)

/-- 'laws.FnExactIsSafeOrder', WHERE WHAT IT READS IS OF BULK AT MOST 1048576: true; the input reads as it did. -/
def fnExactIsSafeOrderUptoRow : OpenClaim := { program := "ytimejdhglmajdaa", sum := "62255796369294c5f1d4e24720a857905d930e6500303bb4d32a2da8344aba37", func := "loop.example/g00990/laws.FnExactIsSafeOrder", spec := "fnExactIsSafeOrder", unfollowed := true, recurses := true, apart := false, narrowed := true }
def FnExactIsSafeOrderUptoSaid : Prop := fnExactIsSafeOrderUptoRow.holds Try.pinned (OpenSpec.upto fnExactIsSafeOrderSpec)

/-- 'laws.FnExactSafeOrder', WHERE WHAT IT READS IS OF BULK AT MOST 1048576: true; the input reads as it did. -/
def fnExactSafeOrderUptoRow : OpenClaim := { program := "ytimejdhglmajdaa", sum := "62255796369294c5f1d4e24720a857905d930e6500303bb4d32a2da8344aba37", func := "loop.example/g00990/laws.FnExactSafeOrder", spec := "fnExactSafeOrder", unfollowed := true, recurses := true, apart := false, narrowed := true }
def FnExactSafeOrderUptoSaid : Prop := fnExactSafeOrderUptoRow.holds Try.pinned (OpenSpec.upto fnExactSafeOrderSpec)

/-- 'laws.FnExactCanFollow', WHERE WHAT IT READS IS OF BULK AT MOST 1048576: true; the input reads as it did. -/
def fnExactCanFollowUptoRow : OpenClaim := { program := "ytimejdhglmajdaa", sum := "62255796369294c5f1d4e24720a857905d930e6500303bb4d32a2da8344aba37", func := "loop.example/g00990/laws.FnExactCanFollow", spec := "fnExactCanFollow", unfollowed := true, recurses := true, apart := false, narrowed := true }
def FnExactCanFollowUptoSaid : Prop := fnExactCanFollowUptoRow.holds Try.pinned (OpenSpec.upto fnExactCanFollowSpec)

/-- 'laws.FnExactRescueOrder', WHERE WHAT IT READS IS OF BULK AT MOST 1048576: true; the input reads as it did. -/
def fnExactRescueOrderUptoRow : OpenClaim := { program := "ytimejdhglmajdaa", sum := "62255796369294c5f1d4e24720a857905d930e6500303bb4d32a2da8344aba37", func := "loop.example/g00990/laws.FnExactRescueOrder", spec := "fnExactRescueOrder", unfollowed := true, recurses := true, apart := false, narrowed := true }
def FnExactRescueOrderUptoSaid : Prop := fnExactRescueOrderUptoRow.holds Try.pinned (OpenSpec.upto fnExactRescueOrderSpec)

/-- 'laws.FnExactGoalsFor', WHERE WHAT IT READS IS OF BULK AT MOST 1048576: true; the input reads as it did. -/
def fnExactGoalsForUptoRow : OpenClaim := { program := "ytimejdhglmajdaa", sum := "62255796369294c5f1d4e24720a857905d930e6500303bb4d32a2da8344aba37", func := "loop.example/g00990/laws.FnExactGoalsFor", spec := "fnExactGoalsFor", unfollowed := true, recurses := true, apart := false, narrowed := true }
def FnExactGoalsForUptoSaid : Prop := fnExactGoalsForUptoRow.holds Try.pinned (OpenSpec.upto fnExactGoalsForSpec)

/-- 'laws.FnRebuilding', WHERE WHAT IT READS IS OF BULK AT MOST 1048576: true; the input reads as it did. -/
def fnRebuildingUptoRow : OpenClaim := { program := "ytimejdhglmajdaa", sum := "62255796369294c5f1d4e24720a857905d930e6500303bb4d32a2da8344aba37", func := "loop.example/g00990/laws.FnRebuilding", spec := "fnRebuilding", unfollowed := true, recurses := true, apart := false, narrowed := true }
def FnRebuildingUptoSaid : Prop := fnRebuildingUptoRow.holds Try.pinned (OpenSpec.upto fnRebuildingSpec)

/-- 'laws.FnExactFirstFalse', WHERE WHAT IT READS IS OF BULK AT MOST 1048576: true; the input reads as it did. -/
def fnExactFirstFalseUptoRow : OpenClaim := { program := "ytimejdhglmajdaa", sum := "62255796369294c5f1d4e24720a857905d930e6500303bb4d32a2da8344aba37", func := "loop.example/g00990/laws.FnExactFirstFalse", spec := "fnExactFirstFalse", unfollowed := true, recurses := true, apart := false, narrowed := true }
def FnExactFirstFalseUptoSaid : Prop := fnExactFirstFalseUptoRow.holds Try.pinned (OpenSpec.upto fnExactFirstFalseSpec)

/-- 'laws.FnExactIsTrueRecord', WHERE WHAT IT READS IS OF BULK AT MOST 1048576: true; the input reads as it did. -/
def fnExactIsTrueRecordUptoRow : OpenClaim := { program := "ytimejdhglmajdaa", sum := "62255796369294c5f1d4e24720a857905d930e6500303bb4d32a2da8344aba37", func := "loop.example/g00990/laws.FnExactIsTrueRecord", spec := "fnExactIsTrueRecord", unfollowed := true, recurses := true, apart := false, narrowed := true }
def FnExactIsTrueRecordUptoSaid : Prop := fnExactIsTrueRecordUptoRow.holds Try.pinned (OpenSpec.upto fnExactIsTrueRecordSpec)

/-- 'laws.FnExactBetweenCells', WHERE WHAT IT READS IS OF BULK AT MOST 1048576: true; the input reads as it did. -/
def fnExactBetweenCellsUptoRow : OpenClaim := { program := "ytimejdhglmajdaa", sum := "62255796369294c5f1d4e24720a857905d930e6500303bb4d32a2da8344aba37", func := "loop.example/g00990/laws.FnExactBetweenCells", spec := "fnExactBetweenCells", unfollowed := true, recurses := true, apart := false, narrowed := true }
def FnExactBetweenCellsUptoSaid : Prop := fnExactBetweenCellsUptoRow.holds Try.pinned (OpenSpec.upto fnExactBetweenCellsSpec)

end Rows
end Go.Proofs.Ytimejdhglmajdaa
