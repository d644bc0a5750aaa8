/-
  No cell of these rows narrows 'for every input' (looked for: loops, veiled, ifaces, maps, wideKeys, modest, calm, conditions, laid).
  DERIVED. THE GIVEN ROWS OF THIS SEAT. 11 by the template 'for every input the law returns true; each argument reads behind the call as it read before'; 0 by the template 'total and deterministic' (their statements: YtioplamkdoelpaaTotals.lean).
  GIVEN WITH THE SEED: the statements are not yours to turn. If you find one false, say at which input.
  Laid BY PROGRAM, IN A SANDBOX (cutbox-rows.mjs): the forced cells as the released guide's own fill.sh prints them over the translation 9677308106275657… (all of the seat's roots in one cut). By AI agents, Wed Nov 11 2026. No macro, syntax, notation, axiom, sorry.
-/
import Derived.Test.YtioplamkdoelpaaChecked
import GoSem.Claim
import GoSem.ClaimJoined
import GoSem.ClaimMapViews
import Derived.JoinedTies
import Derived.KernelRfl
namespace Go.Proofs.Ytioplamkdoelpaa
/- THE CELL 'sum', in the pinned program and in every row, IS THE sha256 OF THE DUMP (.gsa) THAT YtioplamkdoelpaaProg.lean LOADS. Nothing in Lean hashes anything: it is a label: what it is worth is what the hold of that sum in a sandbox is worth. -/
noncomputable def Try.pinned : Pinned := { name := "ytioplamkdoelpaa", sum := "96773081062756575c16059d4e12a80e6b1168bef1d13237f1de25910fddfcfd", checked := Try.checked }
namespace Rows
def none {H : Type} : Left H := { results := [], args := [] }

/-- 'laws.FnExactAdmitAll': WHATEVER THE INPUT: true; the input reads as it did. -/
def fnExactAdmitAllSpec : ChangeSpec := { name := "fnExactAdmitAll", fn := fun _ => fun
  | [d1, d2] => { results := [.lit (.bool true)], args := [d1, d2] }
  | _ => none }
def fnExactAdmitAllRow : OpenClaim := { program := "ytioplamkdoelpaa", sum := "96773081062756575c16059d4e12a80e6b1168bef1d13237f1de25910fddfcfd", func := "loop.example/g00990/laws.FnExactAdmitAll", spec := "fnExactAdmitAll", unfollowed := true, recurses := true, apart := false }
def FnExactAdmitAllSaid : Prop := fnExactAdmitAllRow.holds Try.pinned (OpenSpec.ofChange fnExactAdmitAllSpec)

/-- ITS FALSE NEIGHBOUR: 'it returns false'. Refute it at one input. -/
def fnExactAdmitAllWrong : ChangeSpec := { name := "fnExactAdmitAll", fn := fun _ => fun
  | [d1, d2] => { results := [.lit (.bool false)], args := [d1, d2] }
  | _ => none }
def FnExactAdmitAllWrongFalsely : Prop := fnExactAdmitAllRow.holds Try.pinned (OpenSpec.ofChange fnExactAdmitAllWrong)

/-- 'laws.FnExactLikeWalkers': WHATEVER THE INPUT: true; the input reads as it did. -/
def fnExactLikeWalkersSpec : ChangeSpec := { name := "fnExactLikeWalkers", fn := fun _ => fun
  | [d1, d2, d3, d4] => { results := [.lit (.bool true)], args := [d1, d2, d3, d4] }
  | _ => none }
def fnExactLikeWalkersRow : OpenClaim := { program := "ytioplamkdoelpaa", sum := "96773081062756575c16059d4e12a80e6b1168bef1d13237f1de25910fddfcfd", func := "loop.example/g00990/laws.FnExactLikeWalkers", spec := "fnExactLikeWalkers", unfollowed := true, recurses := true, apart := false }
def FnExactLikeWalkersSaid : Prop := fnExactLikeWalkersRow.holds Try.pinned (OpenSpec.ofChange fnExactLikeWalkersSpec)

/-- ITS FALSE NEIGHBOUR: 'it returns false'. Refute it at one input. -/
def fnExactLikeWalkersWrong : ChangeSpec := { name := "fnExactLikeWalkers", fn := fun _ => fun
  | [d1, d2, d3, d4] => { results := [.lit (.bool false)], args := [d1, d2, d3, d4] }
  | _ => none }
def FnExactLikeWalkersWrongFalsely : Prop := fnExactLikeWalkersRow.holds Try.pinned (OpenSpec.ofChange fnExactLikeWalkersWrong)

/-- 'laws.FnExactRecordOk': WHATEVER THE INPUT: true; the input reads as it did. -/
def fnExactRecordOkSpec : ChangeSpec := { name := "fnExactRecordOk", fn := fun _ => fun
  | [d1, d2] => { results := [.lit (.bool true)], args := [d1, d2] }
  | _ => none }
def fnExactRecordOkRow : OpenClaim := { program := "ytioplamkdoelpaa", sum := "96773081062756575c16059d4e12a80e6b1168bef1d13237f1de25910fddfcfd", func := "loop.example/g00990/laws.FnExactRecordOk", spec := "fnExactRecordOk", apart := false }
def FnExactRecordOkSaid : Prop := fnExactRecordOkRow.holds Try.pinned (OpenSpec.ofChange fnExactRecordOkSpec)

/-- ITS FALSE NEIGHBOUR: 'it returns false'. Refute it at one input. -/
def fnExactRecordOkWrong : ChangeSpec := { name := "fnExactRecordOk", fn := fun _ => fun
  | [d1, d2] => { results := [.lit (.bool false)], args := [d1, d2] }
  | _ => none }
def FnExactRecordOkWrongFalsely : Prop := fnExactRecordOkRow.holds Try.pinned (OpenSpec.ofChange fnExactRecordOkWrong)

/-- 'laws.FnExactIsTrue': WHATEVER THE INPUT: true; the input reads as it did. -/
def fnExactIsTrueSpec : ChangeSpec := { name := "fnExactIsTrue", fn := fun _ => fun
  | [d1, d2, d3] => { results := [.lit (.bool true)], args := [d1, d2, d3] }
  | _ => none }
def fnExactIsTrueRow : OpenClaim := { program := "ytioplamkdoelpaa", sum := "96773081062756575c16059d4e12a80e6b1168bef1d13237f1de25910fddfcfd", func := "loop.example/g00990/laws.FnExactIsTrue", spec := "fnExactIsTrue", unfollowed := true, recurses := true, apart := false }
def FnExactIsTrueSaid : Prop := fnExactIsTrueRow.holds Try.pinned (OpenSpec.ofChange fnExactIsTrueSpec)

/-- ITS FALSE NEIGHBOUR: 'it returns false'. Refute it at one input. -/
def fnExactIsTrueWrong : ChangeSpec := { name := "fnExactIsTrue", fn := fun _ => fun
  | [d1, d2, d3] => { results := [.lit (.bool false)], args := [d1, d2, d3] }
  | _ => none }
def FnExactIsTrueWrongFalsely : Prop := fnExactIsTrueRow.holds Try.pinned (OpenSpec.ofChange fnExactIsTrueWrong)

/-- 'laws.FnExactReportOf': WHATEVER THE INPUT: true; the input reads as it did. -/
def fnExactReportOfSpec : ChangeSpec := { name := "fnExactReportOf", fn := fun _ => fun
  | [d1, d2, d3] => { results := [.lit (.bool true)], args := [d1, d2, d3] }
  | _ => none }
def fnExactReportOfRow : OpenClaim := { program := "ytioplamkdoelpaa", sum := "96773081062756575c16059d4e12a80e6b1168bef1d13237f1de25910fddfcfd", func := "loop.example/g00990/laws.FnExactReportOf", spec := "fnExactReportOf", unfollowed := true, recurses := true, apart := false }
def FnExactReportOfSaid : Prop := fnExactReportOfRow.holds Try.pinned (OpenSpec.ofChange fnExactReportOfSpec)

/-- ITS FALSE NEIGHBOUR: 'it returns false'. Refute it at one input. -/
def fnExactReportOfWrong : ChangeSpec := { name := "fnExactReportOf", fn := fun _ => fun
  | [d1, d2, d3] => { results := [.lit (.bool false)], args := [d1, d2, d3] }
  | _ => none }
def FnExactReportOfWrongFalsely : Prop := fnExactReportOfRow.holds Try.pinned (OpenSpec.ofChange fnExactReportOfWrong)

/-- 'laws.FnExactFollowSigns': WHATEVER THE INPUT: true; the input reads as it did. -/
def fnExactFollowSignsSpec : ChangeSpec := { name := "fnExactFollowSigns", fn := fun _ => fun
  | [d1, d2, d3] => { results := [.lit (.bool true)], args := [d1, d2, d3] }
  | _ => none }
def fnExactFollowSignsRow : OpenClaim := { program := "ytioplamkdoelpaa", sum := "96773081062756575c16059d4e12a80e6b1168bef1d13237f1de25910fddfcfd", func := "loop.example/g00990/laws.FnExactFollowSigns", spec := "fnExactFollowSigns", unfollowed := true, recurses := true, apart := false }
def FnExactFollowSignsSaid : Prop := fnExactFollowSignsRow.holds Try.pinned (OpenSpec.ofChange fnExactFollowSignsSpec)

/-- ITS FALSE NEIGHBOUR: 'it returns false'. Refute it at one input. -/
def fnExactFollowSignsWrong : ChangeSpec := { name := "fnExactFollowSigns", fn := fun _ => fun
  | [d1, d2, d3] => { results := [.lit (.bool false)], args := [d1, d2, d3] }
  | _ => none }
def FnExactFollowSignsWrongFalsely : Prop := fnExactFollowSignsRow.holds Try.pinned (OpenSpec.ofChange fnExactFollowSignsWrong)

/-- 'laws.FnExactCountLies': WHATEVER THE INPUT: true; the input reads as it did. -/
def fnExactCountLiesSpec : ChangeSpec := { name := "fnExactCountLies", fn := fun _ => fun
  | [d1, d2, d3] => { results := [.lit (.bool true)], args := [d1, d2, d3] }
  | _ => none }
def fnExactCountLiesRow : OpenClaim := { program := "ytioplamkdoelpaa", sum := "96773081062756575c16059d4e12a80e6b1168bef1d13237f1de25910fddfcfd", func := "loop.example/g00990/laws.FnExactCountLies", spec := "fnExactCountLies", unfollowed := true, recurses := true, apart := false }
def FnExactCountLiesSaid : Prop := fnExactCountLiesRow.holds Try.pinned (OpenSpec.ofChange fnExactCountLiesSpec)

/-- ITS FALSE NEIGHBOUR: 'it returns false'. Refute it at one input. -/
def fnExactCountLiesWrong : ChangeSpec := { name := "fnExactCountLies", fn := fun _ => fun
  | [d1, d2, d3] => { results := [.lit (.bool false)], args := [d1, d2, d3] }
  | _ => none }
def FnExactCountLiesWrongFalsely : Prop := fnExactCountLiesRow.holds Try.pinned (OpenSpec.ofChange fnExactCountLiesWrong)

/-- 'laws.FnExactSignsTo': WHATEVER THE INPUT: true; the input reads as it did. -/
def fnExactSignsToSpec : ChangeSpec := { name := "fnExactSignsTo", fn := fun _ => fun
  | [d1, d2] => { results := [.lit (.bool true)], args := [d1, d2] }
  | _ => none }
def fnExactSignsToRow : OpenClaim := { program := "ytioplamkdoelpaa", sum := "96773081062756575c16059d4e12a80e6b1168bef1d13237f1de25910fddfcfd", func := "loop.example/g00990/laws.FnExactSignsTo", spec := "fnExactSignsTo", unfollowed := true, recurses := true, apart := false }
def FnExactSignsToSaid : Prop := fnExactSignsToRow.holds Try.pinned (OpenSpec.ofChange fnExactSignsToSpec)

/-- ITS FALSE NEIGHBOUR: 'it returns false'. Refute it at one input. -/
def fnExactSignsToWrong : ChangeSpec := { name := "fnExactSignsTo", fn := fun _ => fun
  | [d1, d2] => { results := [.lit (.bool false)], args := [d1, d2] }
  | _ => none }
def FnExactSignsToWrongFalsely : Prop := fnExactSignsToRow.holds Try.pinned (OpenSpec.ofChange fnExactSignsToWrong)

/-- 'laws.FnExactRescueLength': WHATEVER THE INPUT: true; the input reads as it did. -/
def fnExactRescueLengthSpec : ChangeSpec := { name := "fnExactRescueLength", fn := fun _ => fun
  | [d1, d2, d3] => { results := [.lit (.bool true)], args := [d1, d2, d3] }
  | _ => none }
def fnExactRescueLengthRow : OpenClaim := { program := "ytioplamkdoelpaa", sum := "96773081062756575c16059d4e12a80e6b1168bef1d13237f1de25910fddfcfd", func := "loop.example/g00990/laws.FnExactRescueLength", spec := "fnExactRescueLength", unfollowed := true, recurses := true, apart := false }
def FnExactRescueLengthSaid : Prop := fnExactRescueLengthRow.holds Try.pinned (OpenSpec.ofChange fnExactRescueLengthSpec)

/-- ITS FALSE NEIGHBOUR: 'it returns false'. Refute it at one input. -/
def fnExactRescueLengthWrong : ChangeSpec := { name := "fnExactRescueLength", fn := fun _ => fun
  | [d1, d2, d3] => { results := [.lit (.bool false)], args := [d1, d2, d3] }
  | _ => none }
def FnExactRescueLengthWrongFalsely : Prop := fnExactRescueLengthRow.holds Try.pinned (OpenSpec.ofChange fnExactRescueLengthWrong)

/-- 'laws.FnExactReturnLength': WHATEVER THE INPUT: true; the input reads as it did. -/
def fnExactReturnLengthSpec : ChangeSpec := { name := "fnExactReturnLength", fn := fun _ => fun
  | [d1, d2, d3] => { results := [.lit (.bool true)], args := [d1, d2, d3] }
  | _ => none }
def fnExactReturnLengthRow : OpenClaim := { program := "ytioplamkdoelpaa", sum := "96773081062756575c16059d4e12a80e6b1168bef1d13237f1de25910fddfcfd", func := "loop.example/g00990/laws.FnExactReturnLength", spec := "fnExactReturnLength", unfollowed := true, recurses := true, apart := false }
def FnExactReturnLengthSaid : Prop := fnExactReturnLengthRow.holds Try.pinned (OpenSpec.ofChange fnExactReturnLengthSpec)

/-- ITS FALSE NEIGHBOUR: 'it returns false'. Refute it at one input. -/
def fnExactReturnLengthWrong : ChangeSpec := { name := "fnExactReturnLength", fn := fun _ => fun
  | [d1, d2, d3] => { results := [.lit (.bool false)], args := [d1, d2, d3] }
  | _ => none }
def FnExactReturnLengthWrongFalsely : Prop := fnExactReturnLengthRow.holds Try.pinned (OpenSpec.ofChange fnExactReturnLengthWrong)

/-- 'laws.FnExactIsSafeOrder': WHATEVER THE INPUT: true; the input reads as it did. -/
def fnExactIsSafeOrderSpec : ChangeSpec := { name := "fnExactIsSafeOrder", fn := fun _ => fun
  | [d1, d2] => { results := [.lit (.bool true)], args := [d1, d2] }
  | _ => none }
def fnExactIsSafeOrderRow : OpenClaim := { program := "ytioplamkdoelpaa", sum := "96773081062756575c16059d4e12a80e6b1168bef1d13237f1de25910fddfcfd", func := "loop.example/g00990/laws.FnExactIsSafeOrder", spec := "fnExactIsSafeOrder", unfollowed := true, recurses := true, apart := false }
def FnExactIsSafeOrderSaid : Prop := fnExactIsSafeOrderRow.holds Try.pinned (OpenSpec.ofChange fnExactIsSafeOrderSpec)

/-- ITS FALSE NEIGHBOUR: 'it returns false'. Refute it at one input. -/
def fnExactIsSafeOrderWrong : ChangeSpec := { name := "fnExactIsSafeOrder", fn := fun _ => fun
  | [d1, d2] => { results := [.lit (.bool false)], args := [d1, d2] }
  | _ => none }
def FnExactIsSafeOrderWrongFalsely : Prop := fnExactIsSafeOrderRow.holds Try.pinned (OpenSpec.ofChange fnExactIsSafeOrderWrong)

/- THE SECOND FORM. 'bulk': how many values and letters a reading holds, each counted each time it is reached (what is shared counts as often as it is met; a slice's spare places count too). A statement '..UptoSaid' is the law's where the arguments, and the package variables that the reading takes, are together of bulk at most 1048576: NARROWER than '..Said'. Prove '..Said' where nothing that the law and all that it calls make is longer than what came in: it says more and counts as full. Else prove '..UptoSaid'. A law counts once. -/
mutual
def uptoBulk {H : Type} : DataW H → Nat
  | .lit (.string bytes) => bytes.length + 1
  | .lit _ => 1
  | .nil => 1
  | .ptr d => uptoBulk d + 1
  | .slice elems spare => uptoBulkAll elems + uptoBulkAll spare + 1
  | .agg parts => uptoBulkAll parts + 1
  | .iface _ d => uptoBulk d + 1
  | .map entries => uptoBulkEntries entries + 1
  | .held _ => 1
def uptoBulkAll {H : Type} : List (DataW H) → Nat
  | [] => 0
  | d :: r => uptoBulk d + uptoBulkAll r
def uptoBulkEntries {H : Type} : List (Lit × DataW H) → Nat
  | [] => 0
  | x :: r => uptoBulkEntry x + uptoBulkEntries r
def uptoBulkEntry {H : Type} : Lit × DataW H → Nat
  | (.string bytes, d) => bytes.length + uptoBulk d + 1
  | (_, d) => uptoBulk d + 1
 end
def uptoSmall : (H : Type) → List (DataW H) → Bool := fun _ ds => decide (uptoBulkAll ds ≤ 1048576)
def OpenSpec.upto (s : _root_.Go.ChangeSpec) : _root_.Go.OpenSpec := { _root_.Go.OpenSpec.ofChange s with cond := some uptoSmall }

/-- 'laws.FnExactAdmitAll', WHERE WHAT IT READS IS OF BULK AT MOST 1048576: true; the input reads as it did. -/
def fnExactAdmitAllUptoRow : OpenClaim := { program := "ytioplamkdoelpaa", sum := "96773081062756575c16059d4e12a80e6b1168bef1d13237f1de25910fddfcfd", func := "loop.example/g00990/laws.FnExactAdmitAll", spec := "fnExactAdmitAll", unfollowed := true, recurses := true, apart := false, narrowed := true }
def FnExactAdmitAllUptoSaid : Prop := fnExactAdmitAllUptoRow.holds Try.pinned (OpenSpec.upto fnExactAdmitAllSpec)

/-- 'laws.FnExactLikeWalkers', WHERE WHAT IT READS IS OF BULK AT MOST 1048576: true; the input reads as it did. -/
def fnExactLikeWalkersUptoRow : OpenClaim := { program := "ytioplamkdoelpaa", sum := "96773081062756575c16059d4e12a80e6b1168bef1d13237f1de25910fddfcfd", func := "loop.example/g00990/laws.FnExactLikeWalkers", spec := "fnExactLikeWalkers", unfollowed := true, recurses := true, apart := false, narrowed := true }
def FnExactLikeWalkersUptoSaid : Prop := fnExactLikeWalkersUptoRow.holds Try.pinned (OpenSpec.upto fnExactLikeWalkersSpec)

/-- 'laws.FnExactRecordOk', WHERE WHAT IT READS IS OF BULK AT MOST 1048576: true; the input reads as it did. -/
def fnExactRecordOkUptoRow : OpenClaim := { program := "ytioplamkdoelpaa", sum := "96773081062756575c16059d4e12a80e6b1168bef1d13237f1de25910fddfcfd", func := "loop.example/g00990/laws.FnExactRecordOk", spec := "fnExactRecordOk", apart := false, narrowed := true }
def FnExactRecordOkUptoSaid : Prop := fnExactRecordOkUptoRow.holds Try.pinned (OpenSpec.upto fnExactRecordOkSpec)

/-- 'laws.FnExactIsTrue', WHERE WHAT IT READS IS OF BULK AT MOST 1048576: true; the input reads as it did. -/
def fnExactIsTrueUptoRow : OpenClaim := { program := "ytioplamkdoelpaa", sum := "96773081062756575c16059d4e12a80e6b1168bef1d13237f1de25910fddfcfd", func := "loop.example/g00990/laws.FnExactIsTrue", spec := "fnExactIsTrue", unfollowed := true, recurses := true, apart := false, narrowed := true }
def FnExactIsTrueUptoSaid : Prop := fnExactIsTrueUptoRow.holds Try.pinned (OpenSpec.upto fnExactIsTrueSpec)

/-- 'laws.FnExactReportOf', WHERE WHAT IT READS IS OF BULK AT MOST 1048576: true; the input reads as it did. -/
def fnExactReportOfUptoRow : OpenClaim := { program := "ytioplamkdoelpaa", sum := "96773081062756575c16059d4e12a80e6b1168bef1d13237f1de25910fddfcfd", func := "loop.example/g00990/laws.FnExactReportOf", spec := "fnExactReportOf", unfollowed := true, recurses := true, apart := false, narrowed := true }
def FnExactReportOfUptoSaid : Prop := fnExactReportOfUptoRow.holds Try.pinned (OpenSpec.upto fnExactReportOfSpec)

/-- 'laws.FnExactFollowSigns', WHERE WHAT IT READS IS OF BULK AT MOST 1048576: true; the input reads as it did. -/
def fnExactFollowSignsUptoRow : OpenClaim := { program := "ytioplamkdoelpaa", sum := "96773081062756575c16059d4e12a80e6b1168bef1d13237f1de25910fddfcfd", func := "loop.example/g00990/laws.FnExactFollowSigns", spec := "fnExactFollowSigns", unfollowed := true, recurses := true, apart := false, narrowed := true }
def FnExactFollowSignsUptoSaid : Prop := fnExactFollowSignsUptoRow.holds Try.pinned (OpenSpec.upto fnExactFollowSignsSpec)

/-- 'laws.FnExactCountLies', WHERE WHAT IT READS IS OF BULK AT MOST 1048576: true; the input reads as it did. -/
def fnExactCountLiesUptoRow : OpenClaim := { program := "ytioplamkdoelpaa", sum := "96773081062756575c16059d4e12a80e6b1168bef1d13237f1de25910fddfcfd", func := "loop.example/g00990/laws.FnExactCountLies", spec := "fnExactCountLies", unfollowed := true, recurses := true, apart := false, narrowed := true }
def FnExactCountLiesUptoSaid : Prop := fnExactCountLiesUptoRow.holds Try.pinned (OpenSpec.upto fnExactCountLiesSpec)

/-- 'laws.FnExactSignsTo', WHERE WHAT IT READS IS OF BULK AT MOST 1048576: true; the input reads as it did. -/
def fnExactSignsToUptoRow : OpenClaim := { program := "ytioplamkdoelpaa", sum := "96773081062756575c16059d4e12a80e6b1168bef1d13237f1de25910fddfcfd", func := "loop.example/g00990/laws.FnExactSignsTo", spec := "fnExactSignsTo", unfollowed := true, recurses := true, apart := false, narrowed := true }
def FnExactSignsToUptoSaid : Prop := fnExactSignsToUptoRow.holds Try.pinned (OpenSpec.upto fnExactSignsToSpec)

/-- 'laws.FnExactRescueLength', WHERE WHAT IT READS IS OF BULK AT MOST 1048576: true; the input reads as it did. -/
def fnExactRescueLengthUptoRow : OpenClaim := { program := "ytioplamkdoelpaa", sum := "96773081062756575c16059d4e12a80e6b1168bef1d13237f1de25910fddfcfd", func := "loop.example/g00990/laws.FnExactRescueLength", spec := "fnExactRescueLength", unfollowed := true, recurses := true, apart := false, narrowed := true }
def FnExactRescueLengthUptoSaid : Prop := fnExactRescueLengthUptoRow.holds Try.pinned (OpenSpec.upto fnExactRescueLengthSpec)

/-- 'laws.FnExactReturnLength', WHERE WHAT IT READS IS OF BULK AT MOST 1048576: true; the input reads as it did. -/
def fnExactReturnLengthUptoRow : OpenClaim := { program := "ytioplamkdoelpaa", sum := "96773081062756575c16059d4e12a80e6b1168bef1d13237f1de25910fddfcfd", func := "loop.example/g00990/laws.FnExactReturnLength", spec := "fnExactReturnLength", unfollowed := true, recurses := true, apart := false, narrowed := true }
def FnExactReturnLengthUptoSaid : Prop := fnExactReturnLengthUptoRow.holds Try.pinned (OpenSpec.upto fnExactReturnLengthSpec)

/-- 'laws.FnExactIsSafeOrder', WHERE WHAT IT READS IS OF BULK AT MOST 1048576: true; the input reads as it did. -/
def fnExactIsSafeOrderUptoRow : OpenClaim := { program := "ytioplamkdoelpaa", sum := "96773081062756575c16059d4e12a80e6b1168bef1d13237f1de25910fddfcfd", func := "loop.example/g00990/laws.FnExactIsSafeOrder", spec := "fnExactIsSafeOrder", unfollowed := true, recurses := true, apart := false, narrowed := true }
def FnExactIsSafeOrderUptoSaid : Prop := fnExactIsSafeOrderUptoRow.holds Try.pinned (OpenSpec.upto fnExactIsSafeOrderSpec)

end Rows
end Go.Proofs.Ytioplamkdoelpaa
