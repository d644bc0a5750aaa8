/-
  No cell of these rows narrows 'for every input' (looked for: loops, veiled, ifaces, maps, wideKeys, modest, calm, conditions, laid).
  DERIVED. THE GIVEN ROWS OF THIS SEAT. 12 by the template 'for every input the law returns true; each argument reads behind the call as it read before'; 0 by the template 'total and deterministic' (their statements: YtiiflckblilhiaaTotals.lean).
  GIVEN WITH THE SEED: the statements are not yours to turn. If you find one false, say at which input.
  Laid BY PROGRAM, IN A SANDBOX (cutbox-rows.mjs): the forced cells as the released guide's own fill.sh prints them over the translation a65c952c8018b141… (all of the seat's roots in one cut). By AI agents, Wed Nov 11 2026. No macro, syntax, notation, axiom, sorry.
-/
import Derived.Test.YtiiflckblilhiaaChecked
import GoSem.Claim
import GoSem.ClaimJoined
import GoSem.ClaimMapViews
import Derived.JoinedTies
import Derived.KernelRfl
namespace Go.Proofs.Ytiiflckblilhiaa
/- THE CELL 'sum', in the pinned program and in every row, IS THE sha256 OF THE DUMP (.gsa) THAT YtiiflckblilhiaaProg.lean LOADS. Nothing in Lean hashes anything: it is a label: what it is worth is what the hold of that sum in a sandbox is worth. -/
noncomputable def Try.pinned : Pinned := { name := "ytiiflckblilhiaa", sum := "a65c952c8018b1411af9d414c86374eac3e1ff59109d04da999ace8b126a5417", checked := Try.checked }
namespace Rows
def none {H : Type} : Left H := { results := [], args := [] }

/-- 'laws.FnExactTicketOk': WHATEVER THE INPUT: true; the input reads as it did. -/
def fnExactTicketOkSpec : ChangeSpec := { name := "fnExactTicketOk", fn := fun _ => fun
  | [d] => { results := [.lit (.bool true)], args := [d] }
  | _ => none }
def fnExactTicketOkRow : OpenClaim := { program := "ytiiflckblilhiaa", sum := "a65c952c8018b1411af9d414c86374eac3e1ff59109d04da999ace8b126a5417", func := "loop.example/g00990/laws.FnExactTicketOk", spec := "fnExactTicketOk", apart := false }
def FnExactTicketOkSaid : Prop := fnExactTicketOkRow.holds Try.pinned (OpenSpec.ofChange fnExactTicketOkSpec)

/-- ITS FALSE NEIGHBOUR: 'it returns false'. Refute it at one input. -/
def fnExactTicketOkWrong : ChangeSpec := { name := "fnExactTicketOk", fn := fun _ => fun
  | [d] => { results := [.lit (.bool false)], args := [d] }
  | _ => none }
def FnExactTicketOkWrongFalsely : Prop := fnExactTicketOkRow.holds Try.pinned (OpenSpec.ofChange fnExactTicketOkWrong)

/-- 'laws.FnExactActOk': WHATEVER THE INPUT: true; the input reads as it did. -/
def fnExactActOkSpec : ChangeSpec := { name := "fnExactActOk", fn := fun _ => fun
  | [d] => { results := [.lit (.bool true)], args := [d] }
  | _ => none }
def fnExactActOkRow : OpenClaim := { program := "ytiiflckblilhiaa", sum := "a65c952c8018b1411af9d414c86374eac3e1ff59109d04da999ace8b126a5417", func := "loop.example/g00990/laws.FnExactActOk", spec := "fnExactActOk", apart := false }
def FnExactActOkSaid : Prop := fnExactActOkRow.holds Try.pinned (OpenSpec.ofChange fnExactActOkSpec)

/-- ITS FALSE NEIGHBOUR: 'it returns false'. Refute it at one input. -/
def fnExactActOkWrong : ChangeSpec := { name := "fnExactActOk", fn := fun _ => fun
  | [d] => { results := [.lit (.bool false)], args := [d] }
  | _ => none }
def FnExactActOkWrongFalsely : Prop := fnExactActOkRow.holds Try.pinned (OpenSpec.ofChange fnExactActOkWrong)

/-- 'laws.FnExactInsideAt': WHATEVER THE INPUT: true; the input reads as it did. -/
def fnExactInsideAtSpec : ChangeSpec := { name := "fnExactInsideAt", fn := fun _ => fun
  | [d1, d2] => { results := [.lit (.bool true)], args := [d1, d2] }
  | _ => none }
def fnExactInsideAtRow : OpenClaim := { program := "ytiiflckblilhiaa", sum := "a65c952c8018b1411af9d414c86374eac3e1ff59109d04da999ace8b126a5417", func := "loop.example/g00990/laws.FnExactInsideAt", spec := "fnExactInsideAt", apart := false }
def FnExactInsideAtSaid : Prop := fnExactInsideAtRow.holds Try.pinned (OpenSpec.ofChange fnExactInsideAtSpec)

/-- ITS FALSE NEIGHBOUR: 'it returns false'. Refute it at one input. -/
def fnExactInsideAtWrong : ChangeSpec := { name := "fnExactInsideAt", fn := fun _ => fun
  | [d1, d2] => { results := [.lit (.bool false)], args := [d1, d2] }
  | _ => none }
def FnExactInsideAtWrongFalsely : Prop := fnExactInsideAtRow.holds Try.pinned (OpenSpec.ofChange fnExactInsideAtWrong)

/-- 'laws.FnExactChangesBetween': WHATEVER THE INPUT: true; the input reads as it did. -/
def fnExactChangesBetweenSpec : ChangeSpec := { name := "fnExactChangesBetween", fn := fun _ => fun
  | [d1, d2] => { results := [.lit (.bool true)], args := [d1, d2] }
  | _ => none }
def fnExactChangesBetweenRow : OpenClaim := { program := "ytiiflckblilhiaa", sum := "a65c952c8018b1411af9d414c86374eac3e1ff59109d04da999ace8b126a5417", func := "loop.example/g00990/laws.FnExactChangesBetween", spec := "fnExactChangesBetween", apart := false }
def FnExactChangesBetweenSaid : Prop := fnExactChangesBetweenRow.holds Try.pinned (OpenSpec.ofChange fnExactChangesBetweenSpec)

/-- ITS FALSE NEIGHBOUR: 'it returns false'. Refute it at one input. -/
def fnExactChangesBetweenWrong : ChangeSpec := { name := "fnExactChangesBetween", fn := fun _ => fun
  | [d1, d2] => { results := [.lit (.bool false)], args := [d1, d2] }
  | _ => none }
def FnExactChangesBetweenWrongFalsely : Prop := fnExactChangesBetweenRow.holds Try.pinned (OpenSpec.ofChange fnExactChangesBetweenWrong)

/-- 'laws.FnExactMostInside': WHATEVER THE INPUT: true; the input reads as it did. -/
def fnExactMostInsideSpec : ChangeSpec := { name := "fnExactMostInside", fn := fun _ => fun
  | [d] => { results := [.lit (.bool true)], args := [d] }
  | _ => none }
def fnExactMostInsideRow : OpenClaim := { program := "ytiiflckblilhiaa", sum := "a65c952c8018b1411af9d414c86374eac3e1ff59109d04da999ace8b126a5417", func := "loop.example/g00990/laws.FnExactMostInside", spec := "fnExactMostInside", unfollowed := true, recurses := true, apart := false }
def FnExactMostInsideSaid : Prop := fnExactMostInsideRow.holds Try.pinned (OpenSpec.ofChange fnExactMostInsideSpec)

/-- ITS FALSE NEIGHBOUR: 'it returns false'. Refute it at one input. -/
def fnExactMostInsideWrong : ChangeSpec := { name := "fnExactMostInside", fn := fun _ => fun
  | [d] => { results := [.lit (.bool false)], args := [d] }
  | _ => none }
def FnExactMostInsideWrongFalsely : Prop := fnExactMostInsideRow.holds Try.pinned (OpenSpec.ofChange fnExactMostInsideWrong)

/-- 'laws.FnExactRebuilt': WHATEVER THE INPUT: true; the input reads as it did. -/
def fnExactRebuiltSpec : ChangeSpec := { name := "fnExactRebuilt", fn := fun _ => fun
  | [d1, d2] => { results := [.lit (.bool true)], args := [d1, d2] }
  | _ => none }
def fnExactRebuiltRow : OpenClaim := { program := "ytiiflckblilhiaa", sum := "a65c952c8018b1411af9d414c86374eac3e1ff59109d04da999ace8b126a5417", func := "loop.example/g00990/laws.FnExactRebuilt", spec := "fnExactRebuilt", unfollowed := true, recurses := true, apart := false }
def FnExactRebuiltSaid : Prop := fnExactRebuiltRow.holds Try.pinned (OpenSpec.ofChange fnExactRebuiltSpec)

/-- ITS FALSE NEIGHBOUR: 'it returns false'. Refute it at one input. -/
def fnExactRebuiltWrong : ChangeSpec := { name := "fnExactRebuilt", fn := fun _ => fun
  | [d1, d2] => { results := [.lit (.bool false)], args := [d1, d2] }
  | _ => none }
def FnExactRebuiltWrongFalsely : Prop := fnExactRebuiltRow.holds Try.pinned (OpenSpec.ofChange fnExactRebuiltWrong)

/-- 'laws.FnExactFewestRooms': WHATEVER THE INPUT: true; the input reads as it did. -/
def fnExactFewestRoomsSpec : ChangeSpec := { name := "fnExactFewestRooms", fn := fun _ => fun
  | [d] => { results := [.lit (.bool true)], args := [d] }
  | _ => none }
def fnExactFewestRoomsRow : OpenClaim := { program := "ytiiflckblilhiaa", sum := "a65c952c8018b1411af9d414c86374eac3e1ff59109d04da999ace8b126a5417", func := "loop.example/g00990/laws.FnExactFewestRooms", spec := "fnExactFewestRooms", unfollowed := true, recurses := true, apart := false }
def FnExactFewestRoomsSaid : Prop := fnExactFewestRoomsRow.holds Try.pinned (OpenSpec.ofChange fnExactFewestRoomsSpec)

/-- ITS FALSE NEIGHBOUR: 'it returns false'. Refute it at one input. -/
def fnExactFewestRoomsWrong : ChangeSpec := { name := "fnExactFewestRooms", fn := fun _ => fun
  | [d] => { results := [.lit (.bool false)], args := [d] }
  | _ => none }
def FnExactFewestRoomsWrongFalsely : Prop := fnExactFewestRoomsRow.holds Try.pinned (OpenSpec.ofChange fnExactFewestRoomsWrong)

/-- 'laws.FnExactCanAdmit': WHATEVER THE INPUT: true; the input reads as it did. -/
def fnExactCanAdmitSpec : ChangeSpec := { name := "fnExactCanAdmit", fn := fun _ => fun
  | [d1, d2, d3] => { results := [.lit (.bool true)], args := [d1, d2, d3] }
  | _ => none }
def fnExactCanAdmitRow : OpenClaim := { program := "ytiiflckblilhiaa", sum := "a65c952c8018b1411af9d414c86374eac3e1ff59109d04da999ace8b126a5417", func := "loop.example/g00990/laws.FnExactCanAdmit", spec := "fnExactCanAdmit", unfollowed := true, recurses := true, apart := false }
def FnExactCanAdmitSaid : Prop := fnExactCanAdmitRow.holds Try.pinned (OpenSpec.ofChange fnExactCanAdmitSpec)

/-- ITS FALSE NEIGHBOUR: 'it returns false'. Refute it at one input. -/
def fnExactCanAdmitWrong : ChangeSpec := { name := "fnExactCanAdmit", fn := fun _ => fun
  | [d1, d2, d3] => { results := [.lit (.bool false)], args := [d1, d2, d3] }
  | _ => none }
def FnExactCanAdmitWrongFalsely : Prop := fnExactCanAdmitRow.holds Try.pinned (OpenSpec.ofChange fnExactCanAdmitWrong)

/-- 'laws.FnTickets': WHATEVER THE INPUT: true; the input reads as it did. -/
def fnTicketsSpec : ChangeSpec := { name := "fnTickets", fn := fun _ => fun
  | [d] => { results := [.lit (.bool true)], args := [d] }
  | _ => none }
def fnTicketsRow : OpenClaim := { program := "ytiiflckblilhiaa", sum := "a65c952c8018b1411af9d414c86374eac3e1ff59109d04da999ace8b126a5417", func := "loop.example/g00990/laws.FnTickets", spec := "fnTickets", unfollowed := true, recurses := true, apart := false }
def FnTicketsSaid : Prop := fnTicketsRow.holds Try.pinned (OpenSpec.ofChange fnTicketsSpec)

/-- ITS FALSE NEIGHBOUR: 'it returns false'. Refute it at one input. -/
def fnTicketsWrong : ChangeSpec := { name := "fnTickets", fn := fun _ => fun
  | [d] => { results := [.lit (.bool false)], args := [d] }
  | _ => none }
def FnTicketsWrongFalsely : Prop := fnTicketsRow.holds Try.pinned (OpenSpec.ofChange fnTicketsWrong)

/-- 'laws.FnExactSignOk': WHATEVER THE INPUT: true; the input reads as it did. -/
def fnExactSignOkSpec : ChangeSpec := { name := "fnExactSignOk", fn := fun _ => fun
  | [d1, d2] => { results := [.lit (.bool true)], args := [d1, d2] }
  | _ => none }
def fnExactSignOkRow : OpenClaim := { program := "ytiiflckblilhiaa", sum := "a65c952c8018b1411af9d414c86374eac3e1ff59109d04da999ace8b126a5417", func := "loop.example/g00990/laws.FnExactSignOk", spec := "fnExactSignOk", unfollowed := true, recurses := true, apart := false }
def FnExactSignOkSaid : Prop := fnExactSignOkRow.holds Try.pinned (OpenSpec.ofChange fnExactSignOkSpec)

/-- ITS FALSE NEIGHBOUR: 'it returns false'. Refute it at one input. -/
def fnExactSignOkWrong : ChangeSpec := { name := "fnExactSignOk", fn := fun _ => fun
  | [d1, d2] => { results := [.lit (.bool false)], args := [d1, d2] }
  | _ => none }
def FnExactSignOkWrongFalsely : Prop := fnExactSignOkRow.holds Try.pinned (OpenSpec.ofChange fnExactSignOkWrong)

/-- 'laws.FnExactMostOpen': WHATEVER THE INPUT: true; the input reads as it did. -/
def fnExactMostOpenSpec : ChangeSpec := { name := "fnExactMostOpen", fn := fun _ => fun
  | [d1, d2] => { results := [.lit (.bool true)], args := [d1, d2] }
  | _ => none }
def fnExactMostOpenRow : OpenClaim := { program := "ytiiflckblilhiaa", sum := "a65c952c8018b1411af9d414c86374eac3e1ff59109d04da999ace8b126a5417", func := "loop.example/g00990/laws.FnExactMostOpen", spec := "fnExactMostOpen", unfollowed := true, recurses := true, apart := false }
def FnExactMostOpenSaid : Prop := fnExactMostOpenRow.holds Try.pinned (OpenSpec.ofChange fnExactMostOpenSpec)

/-- ITS FALSE NEIGHBOUR: 'it returns false'. Refute it at one input. -/
def fnExactMostOpenWrong : ChangeSpec := { name := "fnExactMostOpen", fn := fun _ => fun
  | [d1, d2] => { results := [.lit (.bool false)], args := [d1, d2] }
  | _ => none }
def FnExactMostOpenWrongFalsely : Prop := fnExactMostOpenRow.holds Try.pinned (OpenSpec.ofChange fnExactMostOpenWrong)

/-- 'laws.FnExactPatternAt': WHATEVER THE INPUT: true; the input reads as it did. -/
def fnExactPatternAtSpec : ChangeSpec := { name := "fnExactPatternAt", fn := fun _ => fun
  | [d1, d2] => { results := [.lit (.bool true)], args := [d1, d2] }
  | _ => none }
def fnExactPatternAtRow : OpenClaim := { program := "ytiiflckblilhiaa", sum := "a65c952c8018b1411af9d414c86374eac3e1ff59109d04da999ace8b126a5417", func := "loop.example/g00990/laws.FnExactPatternAt", spec := "fnExactPatternAt", unfollowed := true, recurses := true, apart := false }
def FnExactPatternAtSaid : Prop := fnExactPatternAtRow.holds Try.pinned (OpenSpec.ofChange fnExactPatternAtSpec)

/-- ITS FALSE NEIGHBOUR: 'it returns false'. Refute it at one input. -/
def fnExactPatternAtWrong : ChangeSpec := { name := "fnExactPatternAt", fn := fun _ => fun
  | [d1, d2] => { results := [.lit (.bool false)], args := [d1, d2] }
  | _ => none }
def FnExactPatternAtWrongFalsely : Prop := fnExactPatternAtRow.holds Try.pinned (OpenSpec.ofChange fnExactPatternAtWrong)

/- THE SECOND FORM. 'bulk': how many values and letters a reading holds, each counted each time it is reached (what is shared counts as often as it is met; a slice's spare places count too). A statement '..UptoSaid' is the law's where the arguments, and the package variables that the reading takes, are together of bulk at most 1048576: NARROWER than '..Said'. Prove '..Said' where nothing that the law and all that it calls make is longer than what came in: it says more and counts as full. Else prove '..UptoSaid'. A law counts once. -/
mutual
def uptoBulk {H : Type} : DataW H → Nat
  | .lit (.string bytes) => bytes.length + 1
  | .lit _ => 1
  | .nil => 1
  | .ptr d => uptoBulk d + 1
  | .slice elems spare => uptoBulkAll elems + uptoBulkAll spare + 1
  | .agg parts => uptoBulkAll parts + 1
  | .iface _ d => uptoBulk d + 1
  | .map entries => uptoBulkEntries entries + 1
  | .held _ => 1
def uptoBulkAll {H : Type} : List (DataW H) → Nat
  | [] => 0
  | d :: r => uptoBulk d + uptoBulkAll r
def uptoBulkEntries {H : Type} : List (Lit × DataW H) → Nat
  | [] => 0
  | x :: r => uptoBulkEntry x + uptoBulkEntries r
def uptoBulkEntry {H : Type} : Lit × DataW H → Nat
  | (.string bytes, d) => bytes.length + uptoBulk d + 1
  | (_, d) => uptoBulk d + 1
 end
def uptoSmall : (H : Type) → List (DataW H) → Bool := fun _ ds => decide (uptoBulkAll ds ≤ 1048576)
def OpenSpec.upto (s : _root_.Go.ChangeSpec) : _root_.Go.OpenSpec := { _root_.Go.OpenSpec.ofChange s with cond := some uptoSmall }

/-- 'laws.FnExactTicketOk', WHERE WHAT IT READS IS OF BULK AT MOST 1048576: true; the input reads as it did. -/
def fnExactTicketOkUptoRow : OpenClaim := { program := "ytiiflckblilhiaa", sum := "a65c952c8018b1411af9d414c86374eac3e1ff59109d04da999ace8b126a5417", func := "loop.example/g00990/laws.FnExactTicketOk", spec := "fnExactTicketOk", apart := false, narrowed := true }
def FnExactTicketOkUptoSaid : Prop := fnExactTicketOkUptoRow.holds Try.pinned (OpenSpec.upto fnExactTicketOkSpec)

/-- 'laws.FnExactActOk', WHERE WHAT IT READS IS OF BULK AT MOST 1048576: true; the input reads as it did. -/
def fnExactActOkUptoRow : OpenClaim := { program := "ytiiflckblilhiaa", sum := "a65c952c8018b1411af9d414c86374eac3e1ff59109d04da999ace8b126a5417", func := "loop.example/g00990/laws.FnExactActOk", spec := "fnExactActOk", apart := false, narrowed := true }
def FnExactActOkUptoSaid : Prop := fnExactActOkUptoRow.holds Try.pinned (OpenSpec.upto fnExactActOkSpec)

/-- 'laws.FnExactInsideAt', WHERE WHAT IT READS IS OF BULK AT MOST 1048576: true; the input reads as it did. -/
def fnExactInsideAtUptoRow : OpenClaim := { program := "ytiiflckblilhiaa", sum := "a65c952c8018b1411af9d414c86374eac3e1ff59109d04da999ace8b126a5417", func := "loop.example/g00990/laws.FnExactInsideAt", spec := "fnExactInsideAt", apart := false, narrowed := true }
def FnExactInsideAtUptoSaid : Prop := fnExactInsideAtUptoRow.holds Try.pinned (OpenSpec.upto fnExactInsideAtSpec)

/-- 'laws.FnExactChangesBetween', WHERE WHAT IT READS IS OF BULK AT MOST 1048576: true; the input reads as it did. -/
def fnExactChangesBetweenUptoRow : OpenClaim := { program := "ytiiflckblilhiaa", sum := "a65c952c8018b1411af9d414c86374eac3e1ff59109d04da999ace8b126a5417", func := "loop.example/g00990/laws.FnExactChangesBetween", spec := "fnExactChangesBetween", apart := false, narrowed := true }
def FnExactChangesBetweenUptoSaid : Prop := fnExactChangesBetweenUptoRow.holds Try.pinned (OpenSpec.upto fnExactChangesBetweenSpec)

/-- 'laws.FnExactMostInside', WHERE WHAT IT READS IS OF BULK AT MOST 1048576: true; the input reads as it did. -/
def fnExactMostInsideUptoRow : OpenClaim := { program := "ytiiflckblilhiaa", sum := "a65c952c8018b1411af9d414c86374eac3e1ff59109d04da999ace8b126a5417", func := "loop.example/g00990/laws.FnExactMostInside", spec := "fnExactMostInside", unfollowed := true, recurses := true, apart := false, narrowed := true }
def FnExactMostInsideUptoSaid : Prop := fnExactMostInsideUptoRow.holds Try.pinned (OpenSpec.upto fnExactMostInsideSpec)

/-- 'laws.FnExactRebuilt', WHERE WHAT IT READS IS OF BULK AT MOST 1048576: true; the input reads as it did. -/
def fnExactRebuiltUptoRow : OpenClaim := { program := "ytiiflckblilhiaa", sum := "a65c952c8018b1411af9d414c86374eac3e1ff59109d04da999ace8b126a5417", func := "loop.example/g00990/laws.FnExactRebuilt", spec := "fnExactRebuilt", unfollowed := true, recurses := true, apart := false, narrowed := true }
def FnExactRebuiltUptoSaid : Prop := fnExactRebuiltUptoRow.holds Try.pinned (OpenSpec.upto fnExactRebuiltSpec)

/-- 'laws.FnExactFewestRooms', WHERE WHAT IT READS IS OF BULK AT MOST 1048576: true; the input reads as it did. -/
def fnExactFewestRoomsUptoRow : OpenClaim := { program := "ytiiflckblilhiaa", sum := "a65c952c8018b1411af9d414c86374eac3e1ff59109d04da999ace8b126a5417", func := "loop.example/g00990/laws.FnExactFewestRooms", spec := "fnExactFewestRooms", unfollowed := true, recurses := true, apart := false, narrowed := true }
def FnExactFewestRoomsUptoSaid : Prop := fnExactFewestRoomsUptoRow.holds Try.pinned (OpenSpec.upto fnExactFewestRoomsSpec)

/-- 'laws.FnExactCanAdmit', WHERE WHAT IT READS IS OF BULK AT MOST 1048576: true; the input reads as it did. -/
def fnExactCanAdmitUptoRow : OpenClaim := { program := "ytiiflckblilhiaa", sum := "a65c952c8018b1411af9d414c86374eac3e1ff59109d04da999ace8b126a5417", func := "loop.example/g00990/laws.FnExactCanAdmit", spec := "fnExactCanAdmit", unfollowed := true, recurses := true, apart := false, narrowed := true }
def FnExactCanAdmitUptoSaid : Prop := fnExactCanAdmitUptoRow.holds Try.pinned (OpenSpec.upto fnExactCanAdmitSpec)

/-- 'laws.FnTickets', WHERE WHAT IT READS IS OF BULK AT MOST 1048576: true; the input reads as it did. -/
def fnTicketsUptoRow : OpenClaim := { program := "ytiiflckblilhiaa", sum := "a65c952c8018b1411af9d414c86374eac3e1ff59109d04da999ace8b126a5417", func := "loop.example/g00990/laws.FnTickets", spec := "fnTickets", unfollowed := true, recurses := true, apart := false, narrowed := true }
def FnTicketsUptoSaid : Prop := fnTicketsUptoRow.holds Try.pinned (OpenSpec.upto fnTicketsSpec)

/-- 'laws.FnExactSignOk', WHERE WHAT IT READS IS OF BULK AT MOST 1048576: true; the input reads as it did. -/
def fnExactSignOkUptoRow : OpenClaim := { program := "ytiiflckblilhiaa", sum := "a65c952c8018b1411af9d414c86374eac3e1ff59109d04da999ace8b126a5417", func := "loop.example/g00990/laws.FnExactSignOk", spec := "fnExactSignOk", unfollowed := true, recurses := true, apart := false, narrowed := true }
def FnExactSignOkUptoSaid : Prop := fnExactSignOkUptoRow.holds Try.pinned (OpenSpec.upto fnExactSignOkSpec)

/-- 'laws.FnExactMostOpen', WHERE WHAT IT READS IS OF BULK AT MOST 1048576: true; the input reads as it did. -/
def fnExactMostOpenUptoRow : OpenClaim := { program := "ytiiflckblilhiaa", sum := "a65c952c8018b1411af9d414c86374eac3e1ff59109d04da999ace8b126a5417", func := "loop.example/g00990/laws.FnExactMostOpen", spec := "fnExactMostOpen", unfollowed := true, recurses := true, apart := false, narrowed := true }
def FnExactMostOpenUptoSaid : Prop := fnExactMostOpenUptoRow.holds Try.pinned (OpenSpec.upto fnExactMostOpenSpec)

/-- 'laws.FnExactPatternAt', WHERE WHAT IT READS IS OF BULK AT MOST 1048576: true; the input reads as it did. -/
def fnExactPatternAtUptoRow : OpenClaim := { program := "ytiiflckblilhiaa", sum := "a65c952c8018b1411af9d414c86374eac3e1ff59109d04da999ace8b126a5417", func := "loop.example/g00990/laws.FnExactPatternAt", spec := "fnExactPatternAt", unfollowed := true, recurses := true, apart := false, narrowed := true }
def FnExactPatternAtUptoSaid : Prop := fnExactPatternAtUptoRow.holds Try.pinned (OpenSpec.upto fnExactPatternAtSpec)

end Rows
end Go.Proofs.Ytiiflckblilhiaa
