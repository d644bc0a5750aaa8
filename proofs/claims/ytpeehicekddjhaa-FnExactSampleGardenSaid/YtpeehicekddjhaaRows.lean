/-
  No cell of these rows narrows 'for every input' (looked for: loops, veiled, ifaces, maps, wideKeys, modest, calm, conditions, laid).
  DERIVED. THE GIVEN ROWS OF THIS SEAT. 9 by the template 'for every input the law returns true; each argument reads behind the call as it read before'; 0 by the template 'total and deterministic' (their statements: YtpeehicekddjhaaTotals.lean).
  GIVEN WITH THE SEED: the statements are not yours to turn. If you find one false, say at which input.
  Laid BY PROGRAM, IN A SANDBOX (cutbox-rows.mjs): the forced cells as the released guide's own fill.sh prints them over the translation acbb34d5fbe50666… (all of the seat's roots in one cut). By AI agents, Wed Nov 11 2026. No macro, syntax, notation, axiom, sorry.
-/
import Derived.Test.YtpeehicekddjhaaChecked
import GoSem.Claim
import GoSem.ClaimJoined
import GoSem.ClaimMapViews
import Derived.JoinedTies
import Derived.KernelRfl
namespace Go.Proofs.Ytpeehicekddjhaa
/- THE CELL 'sum', in the pinned program and in every row, IS THE sha256 OF THE DUMP (.gsa) THAT YtpeehicekddjhaaProg.lean LOADS. Nothing in Lean hashes anything: it is a label: what it is worth is what the hold of that sum in a sandbox is worth. -/
noncomputable def Try.pinned : Pinned := { name := "ytpeehicekddjhaa", sum := "acbb34d5fbe50666c32ae76beebc8b1432f65d550f68b4960078c908b96eaf9b", checked := Try.checked }
namespace Rows
def none {H : Type} : Left H := { results := [], args := [] }

/-- 'laws.FnRecords': WHATEVER THE INPUT: true; the input reads as it did. -/
def fnRecordsSpec : ChangeSpec := { name := "fnRecords", fn := fun _ => fun
  | [d] => { results := [.lit (.bool true)], args := [d] }
  | _ => none }
def fnRecordsRow : OpenClaim := { program := "ytpeehicekddjhaa", sum := "acbb34d5fbe50666c32ae76beebc8b1432f65d550f68b4960078c908b96eaf9b", func := "loop.example/g00990/laws.FnRecords", spec := "fnRecords", unfollowed := true, recurses := true, apart := false }
def FnRecordsSaid : Prop := fnRecordsRow.holds Try.pinned (OpenSpec.ofChange fnRecordsSpec)

/-- ITS FALSE NEIGHBOUR: 'it returns false'. Refute it at one input. -/
def fnRecordsWrong : ChangeSpec := { name := "fnRecords", fn := fun _ => fun
  | [d] => { results := [.lit (.bool false)], args := [d] }
  | _ => none }
def FnRecordsWrongFalsely : Prop := fnRecordsRow.holds Try.pinned (OpenSpec.ofChange fnRecordsWrong)

/-- 'laws.FnSigns': WHATEVER THE INPUT: true; the input reads as it did. -/
def fnSignsSpec : ChangeSpec := { name := "fnSigns", fn := fun _ => fun
  | [d] => { results := [.lit (.bool true)], args := [d] }
  | _ => none }
def fnSignsRow : OpenClaim := { program := "ytpeehicekddjhaa", sum := "acbb34d5fbe50666c32ae76beebc8b1432f65d550f68b4960078c908b96eaf9b", func := "loop.example/g00990/laws.FnSigns", spec := "fnSigns", unfollowed := true, recurses := true, apart := false }
def FnSignsSaid : Prop := fnSignsRow.holds Try.pinned (OpenSpec.ofChange fnSignsSpec)

/-- ITS FALSE NEIGHBOUR: 'it returns false'. Refute it at one input. -/
def fnSignsWrong : ChangeSpec := { name := "fnSigns", fn := fun _ => fun
  | [d] => { results := [.lit (.bool false)], args := [d] }
  | _ => none }
def FnSignsWrongFalsely : Prop := fnSignsRow.holds Try.pinned (OpenSpec.ofChange fnSignsWrong)

/-- 'laws.FnExactIsLocated': WHATEVER THE INPUT: true; the input reads as it did. -/
def fnExactIsLocatedSpec : ChangeSpec := { name := "fnExactIsLocated", fn := fun _ => fun
  | [d1, d2, d3] => { results := [.lit (.bool true)], args := [d1, d2, d3] }
  | _ => none }
def fnExactIsLocatedRow : OpenClaim := { program := "ytpeehicekddjhaa", sum := "acbb34d5fbe50666c32ae76beebc8b1432f65d550f68b4960078c908b96eaf9b", func := "loop.example/g00990/laws.FnExactIsLocated", spec := "fnExactIsLocated", unfollowed := true, recurses := true, apart := false }
def FnExactIsLocatedSaid : Prop := fnExactIsLocatedRow.holds Try.pinned (OpenSpec.ofChange fnExactIsLocatedSpec)

/-- ITS FALSE NEIGHBOUR: 'it returns false'. Refute it at one input. -/
def fnExactIsLocatedWrong : ChangeSpec := { name := "fnExactIsLocated", fn := fun _ => fun
  | [d1, d2, d3] => { results := [.lit (.bool false)], args := [d1, d2, d3] }
  | _ => none }
def FnExactIsLocatedWrongFalsely : Prop := fnExactIsLocatedRow.holds Try.pinned (OpenSpec.ofChange fnExactIsLocatedWrong)

/-- 'laws.FnLocated': WHATEVER THE INPUT: true; the input reads as it did. -/
def fnLocatedSpec : ChangeSpec := { name := "fnLocated", fn := fun _ => fun
  | [d] => { results := [.lit (.bool true)], args := [d] }
  | _ => none }
def fnLocatedRow : OpenClaim := { program := "ytpeehicekddjhaa", sum := "acbb34d5fbe50666c32ae76beebc8b1432f65d550f68b4960078c908b96eaf9b", func := "loop.example/g00990/laws.FnLocated", spec := "fnLocated", unfollowed := true, recurses := true, apart := false }
def FnLocatedSaid : Prop := fnLocatedRow.holds Try.pinned (OpenSpec.ofChange fnLocatedSpec)

/-- ITS FALSE NEIGHBOUR: 'it returns false'. Refute it at one input. -/
def fnLocatedWrong : ChangeSpec := { name := "fnLocated", fn := fun _ => fun
  | [d] => { results := [.lit (.bool false)], args := [d] }
  | _ => none }
def FnLocatedWrongFalsely : Prop := fnLocatedRow.holds Try.pinned (OpenSpec.ofChange fnLocatedWrong)

/-- 'laws.FnExactTreeSpan': WHATEVER THE INPUT: true; the input reads as it did. -/
def fnExactTreeSpanSpec : ChangeSpec := { name := "fnExactTreeSpan", fn := fun _ => fun
  | [d1, d2] => { results := [.lit (.bool true)], args := [d1, d2] }
  | _ => none }
def fnExactTreeSpanRow : OpenClaim := { program := "ytpeehicekddjhaa", sum := "acbb34d5fbe50666c32ae76beebc8b1432f65d550f68b4960078c908b96eaf9b", func := "loop.example/g00990/laws.FnExactTreeSpan", spec := "fnExactTreeSpan", unfollowed := true, recurses := true, apart := false }
def FnExactTreeSpanSaid : Prop := fnExactTreeSpanRow.holds Try.pinned (OpenSpec.ofChange fnExactTreeSpanSpec)

/-- ITS FALSE NEIGHBOUR: 'it returns false'. Refute it at one input. -/
def fnExactTreeSpanWrong : ChangeSpec := { name := "fnExactTreeSpan", fn := fun _ => fun
  | [d1, d2] => { results := [.lit (.bool false)], args := [d1, d2] }
  | _ => none }
def FnExactTreeSpanWrongFalsely : Prop := fnExactTreeSpanRow.holds Try.pinned (OpenSpec.ofChange fnExactTreeSpanWrong)

/-- 'laws.FnExactGardenOk': WHATEVER THE INPUT: true; the input reads as it did. -/
def fnExactGardenOkSpec : ChangeSpec := { name := "fnExactGardenOk", fn := fun _ => fun
  | [d] => { results := [.lit (.bool true)], args := [d] }
  | _ => none }
def fnExactGardenOkRow : OpenClaim := { program := "ytpeehicekddjhaa", sum := "acbb34d5fbe50666c32ae76beebc8b1432f65d550f68b4960078c908b96eaf9b", func := "loop.example/g00990/laws.FnExactGardenOk", spec := "fnExactGardenOk", unfollowed := true, recurses := true, apart := false }
def FnExactGardenOkSaid : Prop := fnExactGardenOkRow.holds Try.pinned (OpenSpec.ofChange fnExactGardenOkSpec)

/-- ITS FALSE NEIGHBOUR: 'it returns false'. Refute it at one input. -/
def fnExactGardenOkWrong : ChangeSpec := { name := "fnExactGardenOk", fn := fun _ => fun
  | [d] => { results := [.lit (.bool false)], args := [d] }
  | _ => none }
def FnExactGardenOkWrongFalsely : Prop := fnExactGardenOkRow.holds Try.pinned (OpenSpec.ofChange fnExactGardenOkWrong)

/-- 'laws.FnExactNewGarden': WHATEVER THE INPUT: true; the input reads as it did. -/
def fnExactNewGardenSpec : ChangeSpec := { name := "fnExactNewGarden", fn := fun _ => fun
  | [d1, d2, d3] => { results := [.lit (.bool true)], args := [d1, d2, d3] }
  | _ => none }
def fnExactNewGardenRow : OpenClaim := { program := "ytpeehicekddjhaa", sum := "acbb34d5fbe50666c32ae76beebc8b1432f65d550f68b4960078c908b96eaf9b", func := "loop.example/g00990/laws.FnExactNewGarden", spec := "fnExactNewGarden", unfollowed := true, recurses := true, apart := false }
def FnExactNewGardenSaid : Prop := fnExactNewGardenRow.holds Try.pinned (OpenSpec.ofChange fnExactNewGardenSpec)

/-- ITS FALSE NEIGHBOUR: 'it returns false'. Refute it at one input. -/
def fnExactNewGardenWrong : ChangeSpec := { name := "fnExactNewGarden", fn := fun _ => fun
  | [d1, d2, d3] => { results := [.lit (.bool false)], args := [d1, d2, d3] }
  | _ => none }
def FnExactNewGardenWrongFalsely : Prop := fnExactNewGardenRow.holds Try.pinned (OpenSpec.ofChange fnExactNewGardenWrong)

/-- 'laws.FnExactSampleGarden': WHATEVER THE INPUT: true; the input reads as it did. -/
def fnExactSampleGardenSpec : ChangeSpec := { name := "fnExactSampleGarden", fn := fun _ => fun
  | [] => { results := [.lit (.bool true)], args := [] }
  | _ => none }
def fnExactSampleGardenRow : OpenClaim := { program := "ytpeehicekddjhaa", sum := "acbb34d5fbe50666c32ae76beebc8b1432f65d550f68b4960078c908b96eaf9b", func := "loop.example/g00990/laws.FnExactSampleGarden", spec := "fnExactSampleGarden", unfollowed := true, recurses := true, apart := false }
def FnExactSampleGardenSaid : Prop := fnExactSampleGardenRow.holds Try.pinned (OpenSpec.ofChange fnExactSampleGardenSpec)

/-- ITS FALSE NEIGHBOUR: 'it returns false'. Refute it at one input. -/
def fnExactSampleGardenWrong : ChangeSpec := { name := "fnExactSampleGarden", fn := fun _ => fun
  | [] => { results := [.lit (.bool false)], args := [] }
  | _ => none }
def FnExactSampleGardenWrongFalsely : Prop := fnExactSampleGardenRow.holds Try.pinned (OpenSpec.ofChange fnExactSampleGardenWrong)

/-- 'laws.FnExactPossibleWalkers': WHATEVER THE INPUT: true; the input reads as it did. -/
def fnExactPossibleWalkersSpec : ChangeSpec := { name := "fnExactPossibleWalkers", fn := fun _ => fun
  | [d1, d2, d3] => { results := [.lit (.bool true)], args := [d1, d2, d3] }
  | _ => none }
def fnExactPossibleWalkersRow : OpenClaim := { program := "ytpeehicekddjhaa", sum := "acbb34d5fbe50666c32ae76beebc8b1432f65d550f68b4960078c908b96eaf9b", func := "loop.example/g00990/laws.FnExactPossibleWalkers", spec := "fnExactPossibleWalkers", unfollowed := true, recurses := true, apart := false }
def FnExactPossibleWalkersSaid : Prop := fnExactPossibleWalkersRow.holds Try.pinned (OpenSpec.ofChange fnExactPossibleWalkersSpec)

/-- ITS FALSE NEIGHBOUR: 'it returns false'. Refute it at one input. -/
def fnExactPossibleWalkersWrong : ChangeSpec := { name := "fnExactPossibleWalkers", fn := fun _ => fun
  | [d1, d2, d3] => { results := [.lit (.bool false)], args := [d1, d2, d3] }
  | _ => none }
def FnExactPossibleWalkersWrongFalsely : Prop := fnExactPossibleWalkersRow.holds Try.pinned (OpenSpec.ofChange fnExactPossibleWalkersWrong)

/- THE SECOND FORM. 'bulk': how many values and letters a reading holds, each counted each time it is reached (what is shared counts as often as it is met; a slice's spare places count too). A statement '..UptoSaid' is the law's where the arguments, and the package variables that the reading takes, are together of bulk at most 1048576: NARROWER than '..Said'. Prove '..Said' where nothing that the law and all that it calls make is longer than what came in: it says more and counts as full. Else prove '..UptoSaid'. A law counts once. -/
mutual
def uptoBulk {H : Type} : DataW H → Nat
  | .lit (.string bytes) => bytes.length + 1
  | .lit _ => 1
  | .nil => 1
  | .ptr d => uptoBulk d + 1
  | .slice elems spare => uptoBulkAll elems + uptoBulkAll spare + 1
  | .agg parts => uptoBulkAll parts + 1
  | .iface _ d => uptoBulk d + 1
  | .map entries => uptoBulkEntries entries + 1
  | .held _ => 1
def uptoBulkAll {H : Type} : List (DataW H) → Nat
  | [] => 0
  | d :: r => uptoBulk d + uptoBulkAll r
def uptoBulkEntries {H : Type} : List (Lit × DataW H) → Nat
  | [] => 0
  | x :: r => uptoBulkEntry x + uptoBulkEntries r
def uptoBulkEntry {H : Type} : Lit × DataW H → Nat
  | (.string bytes, d) => bytes.length + uptoBulk d + 1
  | (_, d) => uptoBulk d + 1
 end
def uptoSmall : (H : Type) → List (DataW H) → Bool := fun _ ds => decide (uptoBulkAll ds ≤ 1048576)
def OpenSpec.upto (s : _root_.Go.ChangeSpec) : _root_.Go.OpenSpec := { _root_.Go.OpenSpec.ofChange s with cond := some uptoSmall }

/-- 'laws.FnRecords', WHERE WHAT IT READS IS OF BULK AT MOST 1048576: true; the input reads as it did. -/
def fnRecordsUptoRow : OpenClaim := { program := "ytpeehicekddjhaa", sum := "acbb34d5fbe50666c32ae76beebc8b1432f65d550f68b4960078c908b96eaf9b", func := "loop.example/g00990/laws.FnRecords", spec := "fnRecords", unfollowed := true, recurses := true, apart := false, narrowed := true }
def FnRecordsUptoSaid : Prop := fnRecordsUptoRow.holds Try.pinned (OpenSpec.upto fnRecordsSpec)

/-- 'laws.FnSigns', WHERE WHAT IT READS IS OF BULK AT MOST 1048576: true; the input reads as it did. -/
def fnSignsUptoRow : OpenClaim := { program := "ytpeehicekddjhaa", sum := "acbb34d5fbe50666c32ae76beebc8b1432f65d550f68b4960078c908b96eaf9b", func := "loop.example/g00990/laws.FnSigns", spec := "fnSigns", unfollowed := true, recurses := true, apart := false, narrowed := true }
def FnSignsUptoSaid : Prop := fnSignsUptoRow.holds Try.pinned (OpenSpec.upto fnSignsSpec)

/-- 'laws.FnExactIsLocated', WHERE WHAT IT READS IS OF BULK AT MOST 1048576: true; the input reads as it did. -/
def fnExactIsLocatedUptoRow : OpenClaim := { program := "ytpeehicekddjhaa", sum := "acbb34d5fbe50666c32ae76beebc8b1432f65d550f68b4960078c908b96eaf9b", func := "loop.example/g00990/laws.FnExactIsLocated", spec := "fnExactIsLocated", unfollowed := true, recurses := true, apart := false, narrowed := true }
def FnExactIsLocatedUptoSaid : Prop := fnExactIsLocatedUptoRow.holds Try.pinned (OpenSpec.upto fnExactIsLocatedSpec)

/-- 'laws.FnLocated', WHERE WHAT IT READS IS OF BULK AT MOST 1048576: true; the input reads as it did. -/
def fnLocatedUptoRow : OpenClaim := { program := "ytpeehicekddjhaa", sum := "acbb34d5fbe50666c32ae76beebc8b1432f65d550f68b4960078c908b96eaf9b", func := "loop.example/g00990/laws.FnLocated", spec := "fnLocated", unfollowed := true, recurses := true, apart := false, narrowed := true }
def FnLocatedUptoSaid : Prop := fnLocatedUptoRow.holds Try.pinned (OpenSpec.upto fnLocatedSpec)

/-- 'laws.FnExactTreeSpan', WHERE WHAT IT READS IS OF BULK AT MOST 1048576: true; the input reads as it did. -/
def fnExactTreeSpanUptoRow : OpenClaim := { program := "ytpeehicekddjhaa", sum := "acbb34d5fbe50666c32ae76beebc8b1432f65d550f68b4960078c908b96eaf9b", func := "loop.example/g00990/laws.FnExactTreeSpan", spec := "fnExactTreeSpan", unfollowed := true, recurses := true, apart := false, narrowed := true }
def FnExactTreeSpanUptoSaid : Prop := fnExactTreeSpanUptoRow.holds Try.pinned (OpenSpec.upto fnExactTreeSpanSpec)

/-- 'laws.FnExactGardenOk', WHERE WHAT IT READS IS OF BULK AT MOST 1048576: true; the input reads as it did. -/
def fnExactGardenOkUptoRow : OpenClaim := { program := "ytpeehicekddjhaa", sum := "acbb34d5fbe50666c32ae76beebc8b1432f65d550f68b4960078c908b96eaf9b", func := "loop.example/g00990/laws.FnExactGardenOk", spec := "fnExactGardenOk", unfollowed := true, recurses := true, apart := false, narrowed := true }
def FnExactGardenOkUptoSaid : Prop := fnExactGardenOkUptoRow.holds Try.pinned (OpenSpec.upto fnExactGardenOkSpec)

/-- 'laws.FnExactNewGarden', WHERE WHAT IT READS IS OF BULK AT MOST 1048576: true; the input reads as it did. -/
def fnExactNewGardenUptoRow : OpenClaim := { program := "ytpeehicekddjhaa", sum := "acbb34d5fbe50666c32ae76beebc8b1432f65d550f68b4960078c908b96eaf9b", func := "loop.example/g00990/laws.FnExactNewGarden", spec := "fnExactNewGarden", unfollowed := true, recurses := true, apart := false, narrowed := true }
def FnExactNewGardenUptoSaid : Prop := fnExactNewGardenUptoRow.holds Try.pinned (OpenSpec.upto fnExactNewGardenSpec)

/-- 'laws.FnExactSampleGarden', WHERE WHAT IT READS IS OF BULK AT MOST 1048576: true; the input reads as it did. -/
def fnExactSampleGardenUptoRow : OpenClaim := { program := "ytpeehicekddjhaa", sum := "acbb34d5fbe50666c32ae76beebc8b1432f65d550f68b4960078c908b96eaf9b", func := "loop.example/g00990/laws.FnExactSampleGarden", spec := "fnExactSampleGarden", unfollowed := true, recurses := true, apart := false, narrowed := true }
def FnExactSampleGardenUptoSaid : Prop := fnExactSampleGardenUptoRow.holds Try.pinned (OpenSpec.upto fnExactSampleGardenSpec)

/-- 'laws.FnExactPossibleWalkers', WHERE WHAT IT READS IS OF BULK AT MOST 1048576: true; the input reads as it did. -/
def fnExactPossibleWalkersUptoRow : OpenClaim := { program := "ytpeehicekddjhaa", sum := "acbb34d5fbe50666c32ae76beebc8b1432f65d550f68b4960078c908b96eaf9b", func := "loop.example/g00990/laws.FnExactPossibleWalkers", spec := "fnExactPossibleWalkers", unfollowed := true, recurses := true, apart := false, narrowed := true }
def FnExactPossibleWalkersUptoSaid : Prop := fnExactPossibleWalkersUptoRow.holds Try.pinned (OpenSpec.upto fnExactPossibleWalkersSpec)

end Rows
end Go.Proofs.Ytpeehicekddjhaa
