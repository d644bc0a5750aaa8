/- Written by a program of the session (wip/tools/mk.py): types of values. -/
import Derived.Test.YtioplamkdoelpaaBase
namespace Go.Proofs.Ytioplamkdoelpaa.F
open Go.RowKit Go.Proofs.YtioplamkdoelpaaW.PrintWords Go.Proofs.YtioplamkdoelpaaW.PrintLast Go.Proofs.YtioplamkdoelpaaW.PrintMore
set_option linter.unusedVariables false
set_option linter.unusedSimpArgs false
structure SlaTicket where
  f0 : Int
  f1 : Int
def zlaTicket : SlaTicket := ⟨(0 : Int), (0 : Int)⟩
def rd_laTicket (xs : List SlaTicket) (i : Int) : SlaTicket := xs.getD i.toNat zlaTicket
structure STicket where
  f0 : Int
  f1 : Int
def zTicket : STicket := ⟨(0 : Int), (0 : Int)⟩
def rd_Ticket (xs : List STicket) (i : Int) : STicket := xs.getD i.toNat zTicket
def rd_LlaTicket (xs : List (List SlaTicket)) (i : Int) : (List SlaTicket) := xs.getD i.toNat ([] : List SlaTicket)
structure SlaGrid where
  f0 : Int
  f1 : Int
def zlaGrid : SlaGrid := ⟨(0 : Int), (0 : Int)⟩
def rd_laGrid (xs : List SlaGrid) (i : Int) : SlaGrid := xs.getD i.toNat zlaGrid
structure SlaMaze where
  f0 : SlaGrid
  f1 : Int
def zlaMaze : SlaMaze := ⟨zlaGrid, (0 : Int)⟩
def rd_laMaze (xs : List SlaMaze) (i : Int) : SlaMaze := xs.getD i.toNat zlaMaze
structure SlaWalker where
  f0 : Int
  f1 : Int
def zlaWalker : SlaWalker := ⟨(0 : Int), (0 : Int)⟩
def rd_laWalker (xs : List SlaWalker) (i : Int) : SlaWalker := xs.getD i.toNat zlaWalker
structure SlaGate where
  f0 : Int
  f1 : Int
def zlaGate : SlaGate := ⟨(0 : Int), (0 : Int)⟩
def rd_laGate (xs : List SlaGate) (i : Int) : SlaGate := xs.getD i.toNat zlaGate
structure SlaEntry where
  f0 : Int
  f1 : Int
def zlaEntry : SlaEntry := ⟨(0 : Int), (0 : Int)⟩
def rd_laEntry (xs : List SlaEntry) (i : Int) : SlaEntry := xs.getD i.toNat zlaEntry
structure SGate where
  f0 : Int
  f1 : Int
def zGate : SGate := ⟨(0 : Int), (0 : Int)⟩
def rd_Gate (xs : List SGate) (i : Int) : SGate := xs.getD i.toNat zGate
structure SEntry where
  f0 : Int
  f1 : Int
def zEntry : SEntry := ⟨(0 : Int), (0 : Int)⟩
def rd_Entry (xs : List SEntry) (i : Int) : SEntry := xs.getD i.toNat zEntry
def rd_LlaGate (xs : List (List SlaGate)) (i : Int) : (List SlaGate) := xs.getD i.toNat ([] : List SlaGate)
structure SlaTimed where
  f0 : SlaMaze
  f1 : Int
  f2 : (List SlaGate)
def zlaTimed : SlaTimed := ⟨zlaMaze, (0 : Int), ([] : List SlaGate)⟩
def rd_laTimed (xs : List SlaTimed) (i : Int) : SlaTimed := xs.getD i.toNat zlaTimed
def rd_LlaEntry (xs : List (List SlaEntry)) (i : Int) : (List SlaEntry) := xs.getD i.toNat ([] : List SlaEntry)
structure SlaSign where
  f0 : Int
  f1 : Int
def zlaSign : SlaSign := ⟨(0 : Int), (0 : Int)⟩
def rd_laSign (xs : List SlaSign) (i : Int) : SlaSign := xs.getD i.toNat zlaSign
def rd_LInt (xs : List (List Int)) (i : Int) : (List Int) := xs.getD i.toNat ([] : List Int)
structure SSign where
  f0 : Int
  f1 : Int
def zSign : SSign := ⟨(0 : Int), (0 : Int)⟩
def rd_Sign (xs : List SSign) (i : Int) : SSign := xs.getD i.toNat zSign
def rd_LlaSign (xs : List (List SlaSign)) (i : Int) : (List SlaSign) := xs.getD i.toNat ([] : List SlaSign)
end Go.Proofs.Ytioplamkdoelpaa.F
