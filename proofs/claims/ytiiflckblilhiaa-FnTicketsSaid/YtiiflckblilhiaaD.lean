/- Written by a program of the session (wip/tools/mk.py): types of values. -/
import Derived.Test.YtiiflckblilhiaaBase
namespace Go.Proofs.Ytiiflckblilhiaa.F
open Go.RowKit Go.Proofs.YtiiflckblilhiaaW.PrintWords Go.Proofs.YtiiflckblilhiaaW.PrintLast Go.Proofs.YtiiflckblilhiaaW.PrintMore
set_option linter.unusedVariables false
set_option linter.unusedSimpArgs false
structure SlaTicket where
  f0 : Int
  f1 : Int
def zlaTicket : SlaTicket := ⟨(0 : Int), (0 : Int)⟩
def rd_laTicket (xs : List SlaTicket) (i : Int) : SlaTicket := xs.getD i.toNat zlaTicket
structure SlaAct where
  f0 : Int
  f1 : Int
  f2 : Int
def zlaAct : SlaAct := ⟨(0 : Int), (0 : Int), (0 : Int)⟩
def rd_laAct (xs : List SlaAct) (i : Int) : SlaAct := xs.getD i.toNat zlaAct
structure STicket where
  f0 : Int
  f1 : Int
def zTicket : STicket := ⟨(0 : Int), (0 : Int)⟩
def rd_Ticket (xs : List STicket) (i : Int) : STicket := xs.getD i.toNat zTicket
def rd_LlaTicket (xs : List (List SlaTicket)) (i : Int) : (List SlaTicket) := xs.getD i.toNat ([] : List SlaTicket)
structure SlaGrid where
  f0 : Int
  f1 : Int
def zlaGrid : SlaGrid := ⟨(0 : Int), (0 : Int)⟩
def rd_laGrid (xs : List SlaGrid) (i : Int) : SlaGrid := xs.getD i.toNat zlaGrid
structure SlaMaze where
  f0 : SlaGrid
  f1 : Int
def zlaMaze : SlaMaze := ⟨zlaGrid, (0 : Int)⟩
def rd_laMaze (xs : List SlaMaze) (i : Int) : SlaMaze := xs.getD i.toNat zlaMaze
def rd_LInt (xs : List (List Int)) (i : Int) : (List Int) := xs.getD i.toNat ([] : List Int)
def rd_LU8 (xs : List (List Int)) (i : Int) : (List Int) := xs.getD i.toNat ([] : List Int)
structure SlaSign where
  f0 : Int
  f1 : Int
def zlaSign : SlaSign := ⟨(0 : Int), (0 : Int)⟩
def rd_laSign (xs : List SlaSign) (i : Int) : SlaSign := xs.getD i.toNat zlaSign
structure SlaWalker where
  f0 : Int
  f1 : Int
def zlaWalker : SlaWalker := ⟨(0 : Int), (0 : Int)⟩
def rd_laWalker (xs : List SlaWalker) (i : Int) : SlaWalker := xs.getD i.toNat zlaWalker
end Go.Proofs.Ytiiflckblilhiaa.F
