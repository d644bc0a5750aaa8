/- Packed by a program of the session (wip/tools/pack.py): what the claim's theorem reaches, of the texts that wip/ and the kit's printer lay. -/
import Derived.Test.YtdjdleldocfpaaaDoorPkFnExactParseAct5
import Derived.Lib.SlicesCompact
import Derived.Deep.QuietTactic
import Derived.BigQuiet
import Derived.StillTailTactics
section
namespace Go.Proofs.YtdjdleldocfpaaaDoor.F
open Go.RowKit Go.Proofs.YtdjdleldocfpaaaDoorW.PrintWords Go.Proofs.YtdjdleldocfpaaaDoorW.PrintLast Go.Proofs.YtdjdleldocfpaaaDoorW.PrintMore
set_option linter.unusedVariables false
set_option linter.unusedSimpArgs false
def eAct (x : SAct) : List Value := [.int .i64 x.f0, .int .i64 x.f1, .int .i64 x.f2]
def eI (x : Int) : List Value := [.int .i64 x]
def eS (x : ByteArray) : List Value := [.string x]
def eU8 (x : Int) : List Value := [.int .u8 x]
def elaAct (x : SlaAct) : List Value := [.int .i64 x.f0, .int .i64 x.f1, .int .i64 x.f2]
def ty : TypeId → Option TI
  | 3 => some ⟨false, 1, 8, [.int .i64 0], [], 0⟩
  | 4 => some ⟨false, 1, 1, [.bool false], [], 0⟩
  | 5 => some ⟨false, 1, 1, [.int .u8 0], [], 0⟩
  | 9 => some ⟨false, 1, 16, [.string ⟨#[]⟩], [], 0⟩
  | 22 => some ⟨false, 1, 24, [.slice none 0 0], [], 68⟩
  | 26 => some ⟨false, 1, 24, [.slice none 0 0], [], 31⟩
  | 31 => some ⟨true, 3, 24, [.int .i64 0, .int .i64 0, .int .i64 0], [0, 1, 2], 0⟩
  | 36 => some ⟨false, 1, 24, [.slice none 0 0], [], 5⟩
  | 39 => some ⟨true, 2, 16, [.int .i64 0, .int .i64 0], [0, 1], 0⟩
  | 41 => some ⟨true, 3, 24, [.int .i64 0, .int .i64 0, .int .i64 0], [0, 2], 0⟩
  | 42 => some ⟨false, 1, 24, [.slice none 0 0], [], 3⟩
  | 44 => some ⟨true, 5, 56, [.int .i64 0, .int .i64 0, .int .i64 0, .slice none 0 0, .int .i64 0], [0, 3, 4], 0⟩
  | 46 => some ⟨true, 8, 96, [.int .i64 0, .int .i64 0, .int .i64 0, .slice none 0 0, .int .i64 0, .int .i64 0, .slice none 0 0, .int .i64 0], [0, 5, 6, 7], 0⟩
  | 68 => some ⟨true, 3, 24, [.int .i64 0, .int .i64 0, .int .i64 0], [0, 1, 2], 0⟩
  | 69 => some ⟨false, 1, 24, [.slice none 0 0], [], 9⟩
  | 76 => some ⟨true, 2, 16, [.int .i64 0, .int .i64 0], [], 0⟩
  | 103 => some ⟨true, 3, 40, [.slice none 0 0, .int .i64 0, .int .i64 0], [0, 1, 2], 0⟩
  | _ => none
theorem tyOk : TyOk Tryd.prog ty := by
  intro t i h
  unfold ty at h
  split at h <;> first | (cases h; done) | (obtain rfl := Option.some.inj h; exact mkTI (by kernel_rfl) (by kernel_rfl))
theorem hm : Tryd.prog.follows .mixedOrders = true := by kernel_rfl
theorem gR_eAct : (∀ (x : SAct), eAct x = [.int .i64 x.f0, .int .i64 x.f1, .int .i64 x.f2]) ∧ (∀ (l : List SAct) (i : Int), gR [.int .i64 0, .int .i64 0, .int .i64 0] (l.map eAct) i = [.int .i64 (rd_Act l i).f0, .int .i64 (rd_Act l i).f1, .int .i64 (rd_Act l i).f2]) ∧ (∀ (l : List SAct) (i : Int) (a0 : Int) (a1 : Int) (a2 : Int), sR (l.map eAct) i [.int .i64 a0, .int .i64 a1, .int .i64 a2] = (l.set i.toNat (⟨a0, a1, a2⟩ : SAct)).map eAct) ∧ (∀ (l : List SAct) (a0 : Int) (a1 : Int) (a2 : Int), l.map eAct ++ [[.int .i64 a0, .int .i64 a1, .int .i64 a2]] = (l ++ [(⟨a0, a1, a2⟩ : SAct)]).map eAct) ∧ (∀ n : Nat, List.replicate n [.int .i64 0, .int .i64 0, .int .i64 0] = (List.replicate n zAct).map eAct) := by
  refine ⟨fun _ => rfl, fun l i => ?_, fun l i a0 a1 a2 => ?_, fun l a0 a1 a2 => ?_, fun n => ?_⟩
  · unfold gR rd_Act eAct
    rw [List.getD_eq_getElem?_getD, List.getElem?_map, List.getD_eq_getElem?_getD]
    cases l[i.toNat]? <;> rfl
  · unfold sR; rw [List.map_set]; rfl
  · rw [List.map_append]; rfl
  · rw [List.map_replicate]; rfl
theorem L_eAct : (∀ (a0 : Int) (a1 : Int) (a2 : Int), ([[.int .i64 a0, .int .i64 a1, .int .i64 a2]] : List (List Value)) = [(⟨a0, a1, a2⟩ : SAct)].map eAct) ∧ (∀ (l : List SAct) (a0 : Int) (a1 : Int) (a2 : Int), [.int .i64 a0, .int .i64 a1, .int .i64 a2] :: l.map eAct = ((⟨a0, a1, a2⟩ : SAct) :: l).map eAct) ∧ (∀ (k : Nat) (l : List SAct), ((l.map eAct).take k).length = (l.take k).length) ∧ (∀ l m : List SAct, l.map eAct ++ m.map eAct = (l ++ m).map eAct) ∧ (∀ l : List SAct, litOk 3 (l.map eAct) = true) := by
  refine ⟨?_, ?_, ?_, ?_, ?_⟩ <;> intros <;> first | rfl | (rename_i l_; induction l_ with | nil => rfl | cons x l ih => exact ih) | (rw [List.length_take, List.length_map, List.length_take]; done) | exact (List.map_append).symm
theorem gR_eI : (∀ (x : Int), eI x = [.int .i64 x]) ∧ (∀ (l : List Int) (i : Int), gR [.int .i64 0] (l.map eI) i = [.int .i64 (rd l i)]) ∧ (∀ (l : List Int) (i : Int) (a0 : Int), sR (l.map eI) i [.int .i64 a0] = (l.set i.toNat a0).map eI) ∧ (∀ (l : List Int) (a0 : Int), l.map eI ++ [[.int .i64 a0]] = (l ++ [a0]).map eI) ∧ (∀ n : Nat, List.replicate n [.int .i64 0] = (List.replicate n 0).map eI) := by
  refine ⟨fun _ => rfl, fun l i => ?_, fun l i a0 => ?_, fun l a0 => ?_, fun n => ?_⟩
  · unfold gR rd eI
    rw [List.getD_eq_getElem?_getD, List.getElem?_map, List.getD_eq_getElem?_getD]
    cases l[i.toNat]? <;> rfl
  · unfold sR; rw [List.map_set]; rfl
  · rw [List.map_append]; rfl
  · rw [List.map_replicate]; rfl
theorem L_eI : (∀ (a0 : Int), ([[.int .i64 a0]] : List (List Value)) = [a0].map eI) ∧ (∀ (l : List Int) (a0 : Int), [.int .i64 a0] :: l.map eI = (a0 :: l).map eI) ∧ (∀ (k : Nat) (l : List Int), ((l.map eI).take k).length = (l.take k).length) ∧ (∀ l m : List Int, l.map eI ++ m.map eI = (l ++ m).map eI) ∧ (∀ l : List Int, litOk 1 (l.map eI) = true) := by
  refine ⟨?_, ?_, ?_, ?_, ?_⟩ <;> intros <;> first | rfl | (rename_i l_; induction l_ with | nil => rfl | cons x l ih => exact ih) | (rw [List.length_take, List.length_map, List.length_take]; done) | exact (List.map_append).symm
theorem gR_eS : (∀ (x : ByteArray), eS x = [.string x]) ∧ (∀ (l : List ByteArray) (i : Int), gR [.string ⟨#[]⟩] (l.map eS) i = [.string (rdOf ByteArray.empty l i)]) ∧ (∀ (l : List ByteArray) (i : Int) (a0 : ByteArray), sR (l.map eS) i [.string a0] = (l.set i.toNat a0).map eS) ∧ (∀ (l : List ByteArray) (a0 : ByteArray), l.map eS ++ [[.string a0]] = (l ++ [a0]).map eS) ∧ (∀ n : Nat, List.replicate n [.string ⟨#[]⟩] = (List.replicate n ByteArray.empty).map eS) := by
  refine ⟨fun _ => rfl, fun l i => ?_, fun l i a0 => ?_, fun l a0 => ?_, fun n => ?_⟩
  · unfold gR rdOf eS
    rw [List.getD_eq_getElem?_getD, List.getElem?_map, List.getD_eq_getElem?_getD]
    cases l[i.toNat]? <;> rfl
  · unfold sR; rw [List.map_set]; rfl
  · rw [List.map_append]; rfl
  · rw [List.map_replicate]; rfl
theorem L_eS : (∀ (a0 : ByteArray), ([[.string a0]] : List (List Value)) = [a0].map eS) ∧ (∀ (l : List ByteArray) (a0 : ByteArray), [.string a0] :: l.map eS = (a0 :: l).map eS) ∧ (∀ (k : Nat) (l : List ByteArray), ((l.map eS).take k).length = (l.take k).length) ∧ (∀ l m : List ByteArray, l.map eS ++ m.map eS = (l ++ m).map eS) ∧ (∀ l : List ByteArray, litOk 1 (l.map eS) = true) := by
  refine ⟨?_, ?_, ?_, ?_, ?_⟩ <;> intros <;> first | rfl | (rename_i l_; induction l_ with | nil => rfl | cons x l ih => exact ih) | (rw [List.length_take, List.length_map, List.length_take]; done) | exact (List.map_append).symm
theorem gR_eU8 : (∀ (x : Int), eU8 x = [.int .u8 x]) ∧ (∀ (l : List Int) (i : Int), gR [.int .u8 0] (l.map eU8) i = [.int .u8 (rd l i)]) ∧ (∀ (l : List Int) (i : Int) (a0 : Int), sR (l.map eU8) i [.int .u8 a0] = (l.set i.toNat a0).map eU8) ∧ (∀ (l : List Int) (a0 : Int), l.map eU8 ++ [[.int .u8 a0]] = (l ++ [a0]).map eU8) ∧ (∀ n : Nat, List.replicate n [.int .u8 0] = (List.replicate n 0).map eU8) := by
  refine ⟨fun _ => rfl, fun l i => ?_, fun l i a0 => ?_, fun l a0 => ?_, fun n => ?_⟩
  · unfold gR rd eU8
    rw [List.getD_eq_getElem?_getD, List.getElem?_map, List.getD_eq_getElem?_getD]
    cases l[i.toNat]? <;> rfl
  · unfold sR; rw [List.map_set]; rfl
  · rw [List.map_append]; rfl
  · rw [List.map_replicate]; rfl
theorem B_eU8 : (∀ l : List Int, bys (l.map eU8) = some l) ∧ (∀ l : List Int, (l.map fun n => [Value.int .u8 n]) = l.map eU8) := by
  refine ⟨fun l => ?_, fun l => rfl⟩
  induction l with
  | nil => rfl
  | cons x l ih => show (bys (l.map eU8)).map (x :: ·) = _; rw [ih]; rfl
theorem L_eU8 : (∀ (a0 : Int), ([[.int .u8 a0]] : List (List Value)) = [a0].map eU8) ∧ (∀ (l : List Int) (a0 : Int), [.int .u8 a0] :: l.map eU8 = (a0 :: l).map eU8) ∧ (∀ (k : Nat) (l : List Int), ((l.map eU8).take k).length = (l.take k).length) ∧ (∀ l m : List Int, l.map eU8 ++ m.map eU8 = (l ++ m).map eU8) ∧ (∀ l : List Int, litOk 1 (l.map eU8) = true) := by
  refine ⟨?_, ?_, ?_, ?_, ?_⟩ <;> intros <;> first | rfl | (rename_i l_; induction l_ with | nil => rfl | cons x l ih => exact ih) | (rw [List.length_take, List.length_map, List.length_take]; done) | exact (List.map_append).symm
theorem gR_elaAct : (∀ (x : SlaAct), elaAct x = [.int .i64 x.f0, .int .i64 x.f1, .int .i64 x.f2]) ∧ (∀ (l : List SlaAct) (i : Int), gR [.int .i64 0, .int .i64 0, .int .i64 0] (l.map elaAct) i = [.int .i64 (rd_laAct l i).f0, .int .i64 (rd_laAct l i).f1, .int .i64 (rd_laAct l i).f2]) ∧ (∀ (l : List SlaAct) (i : Int) (a0 : Int) (a1 : Int) (a2 : Int), sR (l.map elaAct) i [.int .i64 a0, .int .i64 a1, .int .i64 a2] = (l.set i.toNat (⟨a0, a1, a2⟩ : SlaAct)).map elaAct) ∧ (∀ (l : List SlaAct) (a0 : Int) (a1 : Int) (a2 : Int), l.map elaAct ++ [[.int .i64 a0, .int .i64 a1, .int .i64 a2]] = (l ++ [(⟨a0, a1, a2⟩ : SlaAct)]).map elaAct) ∧ (∀ n : Nat, List.replicate n [.int .i64 0, .int .i64 0, .int .i64 0] = (List.replicate n zlaAct).map elaAct) := by
  refine ⟨fun _ => rfl, fun l i => ?_, fun l i a0 a1 a2 => ?_, fun l a0 a1 a2 => ?_, fun n => ?_⟩
  · unfold gR rd_laAct elaAct
    rw [List.getD_eq_getElem?_getD, List.getElem?_map, List.getD_eq_getElem?_getD]
    cases l[i.toNat]? <;> rfl
  · unfold sR; rw [List.map_set]; rfl
  · rw [List.map_append]; rfl
  · rw [List.map_replicate]; rfl
theorem L_elaAct : (∀ (a0 : Int) (a1 : Int) (a2 : Int), ([[.int .i64 a0, .int .i64 a1, .int .i64 a2]] : List (List Value)) = [(⟨a0, a1, a2⟩ : SlaAct)].map elaAct) ∧ (∀ (l : List SlaAct) (a0 : Int) (a1 : Int) (a2 : Int), [.int .i64 a0, .int .i64 a1, .int .i64 a2] :: l.map elaAct = ((⟨a0, a1, a2⟩ : SlaAct) :: l).map elaAct) ∧ (∀ (k : Nat) (l : List SlaAct), ((l.map elaAct).take k).length = (l.take k).length) ∧ (∀ l m : List SlaAct, l.map elaAct ++ m.map elaAct = (l ++ m).map elaAct) ∧ (∀ l : List SlaAct, litOk 3 (l.map elaAct) = true) := by
  refine ⟨?_, ?_, ?_, ?_, ?_⟩ <;> intros <;> first | rfl | (rename_i l_; induction l_ with | nil => rfl | cons x l ih => exact ih) | (rw [List.length_take, List.length_map, List.length_take]; done) | exact (List.map_append).symm
theorem eqQ31 (x0 y0 : Int) (x1 y1 : Int) (x2 y2 : Int) : ∀ w : World, (Op.equalIn 10000 31 (.agg (List.toArray (vluL [.v (.int .i64 x0), .v (.int .i64 x1), .v (.int .i64 x2)]))) (.agg (List.toArray (vluL [.v (.int .i64 y0), .v (.int .i64 y1), .v (.int .i64 y2)])))).run Tryd.prog w = .ok (x0 == y0 && (x1 == y1 && (x2 == y2))) w := fun w => eqA31 9998 w _ _ _ _ _ _
theorem eqT31 : (∀ (x0 y0 : Int) (x1 y1 : Int) (x2 y2 : Int) (i : TI) (d : Option Nat) (t : List AV) (s : Sto) (K : Kt), binX Tryd.prog 31 (some i) .eql (.ag [.v (.int .i64 x0), .v (.int .i64 x1), .v (.int .i64 x2)]) (.ag [.v (.int .i64 y0), .v (.int .i64 y1), .v (.int .i64 y2)]) d t s K = K (pT t d (.v (.bool (x0 == y0 && (x1 == y1 && (x2 == y2)))))) s) ∧ (∀ (x0 y0 : Int) (x1 y1 : Int) (x2 y2 : Int) (i : TI) (d : Option Nat) (t : List AV) (s : Sto) (K : Kt), binX Tryd.prog 31 (some i) .neq (.ag [.v (.int .i64 x0), .v (.int .i64 x1), .v (.int .i64 x2)]) (.ag [.v (.int .i64 y0), .v (.int .i64 y1), .v (.int .i64 y2)]) d t s K = K (pT t d (.v (.bool ((!(x0 == y0) || ((!(x1 == y1) || (!(x2 == y2))))))))) s) := by
  refine ⟨fun x0 y0 x1 y1 x2 y2 i d t s K => ?_, fun x0 y0 x1 y1 x2 y2 i d t s K => ?_⟩
  · refine eqRule (dd := 10000) ?_ ?_ ?_ ?_ (eqQ31 _ _ _ _ _ _) i d t s K <;> kernel_rfl
  · refine Eq.trans (b := K (pT t d (.v (.bool (!(x0 == y0 && (x1 == y1 && (x2 == y2))))))) s) ?_ (by simp only [Bool.not_and])
    refine neRule (dd := 10000) ?_ ?_ ?_ ?_ (eqQ31 _ _ _ _ _ _) i d t s K <;> kernel_rfl
theorem Wt : ty 3 = some ⟨false, 1, 8, [.int .i64 0], [], 0⟩ ∧ ty 4 = some ⟨false, 1, 1, [.bool false], [], 0⟩ ∧ ty 5 = some ⟨false, 1, 1, [.int .u8 0], [], 0⟩ ∧ ty 9 = some ⟨false, 1, 16, [.string ⟨#[]⟩], [], 0⟩ ∧ ty 22 = some ⟨false, 1, 24, [.slice none 0 0], [], 68⟩ ∧ ty 26 = some ⟨false, 1, 24, [.slice none 0 0], [], 31⟩ ∧ ty 31 = some ⟨true, 3, 24, [.int .i64 0, .int .i64 0, .int .i64 0], [0, 1, 2], 0⟩ ∧ ty 36 = some ⟨false, 1, 24, [.slice none 0 0], [], 5⟩ ∧ ty 39 = some ⟨true, 2, 16, [.int .i64 0, .int .i64 0], [0, 1], 0⟩ ∧ ty 41 = some ⟨true, 3, 24, [.int .i64 0, .int .i64 0, .int .i64 0], [0, 2], 0⟩ ∧ ty 42 = some ⟨false, 1, 24, [.slice none 0 0], [], 3⟩ ∧ ty 44 = some ⟨true, 5, 56, [.int .i64 0, .int .i64 0, .int .i64 0, .slice none 0 0, .int .i64 0], [0, 3, 4], 0⟩ ∧ ty 46 = some ⟨true, 8, 96, [.int .i64 0, .int .i64 0, .int .i64 0, .slice none 0 0, .int .i64 0, .int .i64 0, .slice none 0 0, .int .i64 0], [0, 5, 6, 7], 0⟩ ∧ ty 68 = some ⟨true, 3, 24, [.int .i64 0, .int .i64 0, .int .i64 0], [0, 1, 2], 0⟩ ∧ ty 69 = some ⟨false, 1, 24, [.slice none 0 0], [], 9⟩ ∧ ty 76 = some ⟨true, 2, 16, [.int .i64 0, .int .i64 0], [], 0⟩ ∧ ty 103 = some ⟨true, 3, 40, [.slice none 0 0, .int .i64 0, .int .i64 0], [0, 1, 2], 0⟩ ∧ ty 0 = none ∧ ty 24 = none ∧ ty 32 = none ∧ ty 47 = none ∧ ty 62 = none ∧ ty 70 = none ∧ ty 74 = none ∧ ty 77 = none ∧ ty 80 = none ∧ ty 112 = none ∧ ty 121 = none ∧ ty 122 = none ∧ ty 124 = none ∧ ty 140 = none := ⟨rfl, rfl, rfl, rfl, rfl, rfl, rfl, rfl, rfl, rfl, rfl, rfl, rfl, rfl, rfl, rfl, rfl, rfl, rfl, rfl, rfl, rfl, rfl, rfl, rfl, rfl, rfl, rfl, rfl, rfl, rfl⟩
theorem W : type_of% (And.intro W1 (And.intro W2 (And.intro (W3 Tryd.prog ty) (And.intro (W4 Tryd.prog ty) (And.intro (W5 ty) (And.intro W6 (And.intro W7 (And.intro W8 (And.intro W9 (And.intro W10 (And.intro @W11 (And.intro W12 (And.intro (W13 ty) (And.intro (W14 ty) (And.intro (W15 Tryd.prog ty) (And.intro W16 (And.intro (W17 ty) (And.intro (W18 Tryd.prog ty) (And.intro W19 (And.intro W20 (And.intro W21 (And.intro W22 (And.intro (W23 ty) (And.intro (W25 ty) (And.intro (W24 Tryd.prog ty) (And.intro bAnd (And.intro W0b (And.intro gR_eAct (And.intro L_eAct (And.intro gR_eI (And.intro L_eI (And.intro gR_eS (And.intro L_eS (And.intro gR_eU8 (And.intro B_eU8 (And.intro L_eU8 (And.intro gR_elaAct (And.intro L_elaAct (And.intro eqT31 Wt))))))))))))))))))))))))))))))))))))))) := (And.intro W1 (And.intro W2 (And.intro (W3 Tryd.prog ty) (And.intro (W4 Tryd.prog ty) (And.intro (W5 ty) (And.intro W6 (And.intro W7 (And.intro W8 (And.intro W9 (And.intro W10 (And.intro @W11 (And.intro W12 (And.intro (W13 ty) (And.intro (W14 ty) (And.intro (W15 Tryd.prog ty) (And.intro W16 (And.intro (W17 ty) (And.intro (W18 Tryd.prog ty) (And.intro W19 (And.intro W20 (And.intro W21 (And.intro W22 (And.intro (W23 ty) (And.intro (W25 ty) (And.intro (W24 Tryd.prog ty) (And.intro bAnd (And.intro W0b (And.intro gR_eAct (And.intro L_eAct (And.intro gR_eI (And.intro L_eI (And.intro gR_eS (And.intro L_eS (And.intro gR_eU8 (And.intro B_eU8 (And.intro L_eU8 (And.intro gR_elaAct (And.intro L_elaAct (And.intro eqT31 Wt)))))))))))))))))))))))))))))))))))))))
end Go.Proofs.YtdjdleldocfpaaaDoor.F
end

section
namespace Go.Proofs.YtdjdleldocfpaaaDoor.F
open Go.RowKit Go.Proofs.YtdjdleldocfpaaaDoorW.PrintWords Go.Proofs.YtdjdleldocfpaaaDoorW.PrintLast Go.Proofs.YtdjdleldocfpaaaDoorW.PrintMore
set_option linter.unusedVariables false
set_option linter.unusedSimpArgs false
attribute [local go_sem] max2_int min2_int max_two min_two
set_option maxRecDepth 20000 in set_option maxHeartbeats 4000000 in open Nat renaming reduceAdd → p1, reduceSub → p2, reduceMul → p3, reduceDiv → p4, reduceBNe → p5, reduceBEq → p6, reduceEqDiff → p7, reduceLeDiff → p8, reduceLT → p9 in open Int renaming reduceLE → p10, reduceLT → p11, reduceEq → p12 in
theorem spec_l01In.ctr {a0 : Int} {a1 : Int} {a2 : Int} {r : Bool} (h : spec_l01In.f a0 a1 a2 = some r) : Ctr Tryd.prog 35 [.v (.int .i64 a0), .v (.int .i64 a1), .v (.int .i64 a2)] (.v (.bool r)) := by
  refine Ctr_of tyOk hm Tryd.func35 rfl rfl (by kernel_rfl) (n := 12) (rv := [.tmp 6]) rfl rfl ?_
  simp only [W, List.replicate]
  unfold spec_l01In.f at h
  replace h := ifS h; rcases h with ⟨c1, h⟩ | ⟨c1, h⟩
  · cases h
    try simp only [W, c1, p1, p2, p3, p4, p5, p6, p7, p8, p9, p10, p11, p12]
  · cases h
    try simp only [W, c1, p1, p2, p3, p4, p5, p6, p7, p8, p9, p10, p11, p12]
theorem dec_two {i : Nat} (h : i < 100) : (Go.Lib.decDigits i).toArray = if i < 10 then #[UInt8.ofNat (48 + i)] else #[UInt8.ofNat (48 + i / 10), UInt8.ofNat (48 + i % 10)] := by
  rw [Go.Lib.decDigits]
  by_cases q : i < 10
  · rw [dif_pos q, if_pos q]
  · rw [dif_neg q, if_neg q, Go.Lib.decDigits, dif_pos (by omega)]
    rfl
theorem strconv_Itoa.ctr {a0 : Int} {r : ByteArray} (h : strconv_Itoa.f a0 = some r) : Ctr Tryd.prog 73 [.v (.int .i64 a0)] (.v (.string r)) := by
  refine ⟨enters_of Tryd.func73 rfl rfl, fun w ys hgl hys => ?_⟩
  simp only [RepL, Rep] at hys
  obtain ⟨_, _, rfl, rfl, rfl⟩ := hys
  unfold strconv_Itoa.f at h
  split at h
  · rename_i q
    obtain rfl := Option.some.inj h
    obtain ⟨i, rfl⟩ : ∃ i : Nat, a0 = i := ⟨a0.toNat, by omega⟩
    refine (Any.strconv_Itoa_small { Tryd.laysIt with } i (by omega) w).mono ?_
    rintro e w' ⟨rfl, rfl⟩
    rw [dec_two (by omega), Int.toNat_natCast]
    exact ⟨_, [], rfl, by unfold RepR; exact ⟨rfl, rfl⟩, List.nodup_nil, Below.refl _ _⟩
  · split at h
    · rename_i q
      obtain rfl := Option.some.inj h
      refine (Any.strconv_Itoa Tryd.laysIt a0 q.1 q.2 w (Gl_tab hgl)).mono ?_
      rintro e w' ⟨rfl, k, os, rfl⟩
      exact ⟨_, [], rfl, by unfold RepR; exact ⟨rfl, rfl⟩, List.nodup_nil, Go.Lib.below_grow _ _ (Nat.le_refl _) _ _⟩
    · cases h
set_option maxRecDepth 20000 in set_option maxHeartbeats 4000000 in open Nat renaming reduceAdd → p1, reduceSub → p2, reduceMul → p3, reduceDiv → p4, reduceBNe → p5, reduceBEq → p6, reduceEqDiff → p7, reduceLeDiff → p8, reduceLT → p9 in open Int renaming reduceLE → p10, reduceLT → p11, reduceEq → p12 in
theorem impl_FormatInt.ctr {a0 : Int} {r : ByteArray} (h : impl_FormatInt.f a0 = some r) : Ctr Tryd.prog 44 [.v (.int .i64 a0)] (.v (.string r)) := by
  refine Ctr_of tyOk hm Tryd.func44 rfl rfl (by kernel_rfl) (n := 4) (rv := [.tmp 2]) rfl rfl ?_
  simp only [W, List.replicate]
  unfold impl_FormatInt.f at h
  replace h := bnd h; obtain ⟨t1, A, h⟩ := h
  try simp only [W, p1, p2, p3, p4, p5, p6, p7, p8, p9, p10, p11, p12]
  refine callR (strconv_Itoa.ctr A) ?_
  cases h
  try simp only [W, p1, p2, p3, p4, p5, p6, p7, p8, p9, p10, p11, p12]
end Go.Proofs.YtdjdleldocfpaaaDoor.F
end

section
namespace Go.Proofs.YtdjdleldocfpaaaDoor.F
open Go.RowKit Go.Proofs.YtdjdleldocfpaaaDoorW.PrintWords Go.Proofs.YtdjdleldocfpaaaDoorW.PrintLast Go.Proofs.YtdjdleldocfpaaaDoorW.PrintMore
set_option linter.unusedVariables false
set_option linter.unusedSimpArgs false
attribute [local go_sem] max2_int min2_int max_two min_two
set_option maxRecDepth 20000 in set_option maxHeartbeats 4000000 in open Nat renaming reduceAdd → p1, reduceSub → p2, reduceMul → p3, reduceDiv → p4, reduceBNe → p5, reduceBEq → p6, reduceEqDiff → p7, reduceLeDiff → p8, reduceLT → p9 in open Int renaming reduceLE → p10, reduceLT → p11, reduceEq → p12 in
theorem spec_ActOk.ctr {k : Nat} {a0_0 : Int} {a0_1 : Int} {a0_2 : Int} {r : Bool} (h : spec_ActOk.f k a0_0 a0_1 a0_2 = some r) : Ctr Tryd.prog 63 [.ag [.v (.int .i64 a0_0), .v (.int .i64 a0_1), .v (.int .i64 a0_2)]] (.v (.bool r)) := by
  refine Ctr_of tyOk hm Tryd.func63 rfl rfl (by kernel_rfl) (n := 46) (rv := [.tmp 2]) rfl rfl ?_
  simp only [W, List.replicate]
  unfold spec_ActOk.f at h
  replace h := ifS h; rcases h with ⟨c1, h⟩ | ⟨c1, h⟩
  · rcases k with _ | m2; · cases h
    rw [spec_ActOk.j0] at h
    rw [if_pos (beq_iff_eq.2 c1)] at h
    replace h := ifS h; rcases h with ⟨c3, h⟩ | ⟨c3, h⟩
    · cases h
      try simp only [W, eq_true c1, eq_true c3, p1, p2, p3, p4, p5, p6, p7, p8, p9, p10, p11, p12]
    · cases h
      try simp only [W, eq_true c1, c3, p1, p2, p3, p4, p5, p6, p7, p8, p9, p10, p11, p12]
  · replace h := ifS h; rcases h with ⟨c2, h⟩ | ⟨c2, h⟩
    · rcases k with _ | m3; · cases h
      rw [spec_ActOk.j0] at h
      rw [if_pos (beq_iff_eq.2 c2)] at h
      replace h := ifS h; rcases h with ⟨c4, h⟩ | ⟨c4, h⟩
      · cases h
        try simp only [W, c1, eq_true c2, eq_true c4, p1, p2, p3, p4, p5, p6, p7, p8, p9, p10, p11, p12]
      · cases h
        try simp only [W, c1, eq_true c2, c4, p1, p2, p3, p4, p5, p6, p7, p8, p9, p10, p11, p12]
    · rcases k with _ | m3; · cases h
      rw [spec_ActOk.j0] at h
      replace h := ifT h; rcases h with ⟨c4, h⟩ | ⟨c4, h⟩ <;> try simp only [bEq] at c4
      · replace h := ifS h; rcases h with ⟨c5, h⟩ | ⟨c5, h⟩
        · cases h
          try simp only [W, c1, c2, c4, eq_true c5, p1, p2, p3, p4, p5, p6, p7, p8, p9, p10, p11, p12]
        · cases h
          try simp only [W, c1, c2, c4, c5, p1, p2, p3, p4, p5, p6, p7, p8, p9, p10, p11, p12]
      · replace h := ifS h; rcases h with ⟨c5, h⟩ | ⟨c5, h⟩
        · replace h := bnd h; obtain ⟨t6, A, h⟩ := h
          try simp only [W, c1, c2, c4, eq_true c5, p1, p2, p3, p4, p5, p6, p7, p8, p9, p10, p11, p12]
          refine callR (spec_l01In.ctr A) ?_
          replace h := ifT h; rcases h with ⟨rfl, h⟩ | ⟨rfl, h⟩
          · cases h
            try simp only [W, c1, c2, c4, eq_true c5, p1, p2, p3, p4, p5, p6, p7, p8, p9, p10, p11, p12]
          · cases h
            try simp only [W, c1, c2, c4, eq_true c5, p1, p2, p3, p4, p5, p6, p7, p8, p9, p10, p11, p12]
        · replace h := ifS h; rcases h with ⟨c6, h⟩ | ⟨c6, h⟩
          · replace h := bnd h; obtain ⟨t7, A, h⟩ := h
            try simp only [W, c1, c2, c4, c5, eq_true c6, p1, p2, p3, p4, p5, p6, p7, p8, p9, p10, p11, p12]
            refine callR (spec_l01In.ctr A) ?_
            replace h := ifT h; rcases h with ⟨rfl, h⟩ | ⟨rfl, h⟩
            · replace h := bnd h; obtain ⟨t9, A, h⟩ := h
              try simp only [W, c1, c2, c4, c5, eq_true c6, p1, p2, p3, p4, p5, p6, p7, p8, p9, p10, p11, p12]
              refine callR (spec_l01In.ctr A) ?_
              cases h
              try simp only [W, c1, c2, c4, c5, eq_true c6, p1, p2, p3, p4, p5, p6, p7, p8, p9, p10, p11, p12]
            · cases h
              try simp only [W, c1, c2, c4, c5, eq_true c6, p1, p2, p3, p4, p5, p6, p7, p8, p9, p10, p11, p12]
          · replace h := ifS h; rcases h with ⟨c7, h⟩ | ⟨c7, h⟩
            · replace h := bnd h; obtain ⟨t8, A, h⟩ := h
              try simp only [W, c1, c2, c4, c5, c6, eq_true c7, p1, p2, p3, p4, p5, p6, p7, p8, p9, p10, p11, p12]
              refine callR (spec_l01In.ctr A) ?_
              replace h := ifT h; rcases h with ⟨rfl, h⟩ | ⟨rfl, h⟩
              · cases h
                try simp only [W, c1, c2, c4, c5, c6, eq_true c7, p1, p2, p3, p4, p5, p6, p7, p8, p9, p10, p11, p12]
              · cases h
                try simp only [W, c1, c2, c4, c5, c6, eq_true c7, p1, p2, p3, p4, p5, p6, p7, p8, p9, p10, p11, p12]
            · cases h
              try simp only [W, c1, c2, c4, c5, c6, c7, p1, p2, p3, p4, p5, p6, p7, p8, p9, p10, p11, p12]
set_option maxRecDepth 20000 in set_option maxHeartbeats 4000000 in open Nat renaming reduceAdd → p1, reduceSub → p2, reduceMul → p3, reduceDiv → p4, reduceBNe → p5, reduceBEq → p6, reduceEqDiff → p7, reduceLeDiff → p8, reduceLT → p9 in open Int renaming reduceLE → p10, reduceLT → p11, reduceEq → p12 in
theorem spec_l01Figure.ctr {a0 : Int} {r : Int} (h : spec_l01Figure.f a0 = some r) : Ctr Tryd.prog 94 [.v (.int .i64 a0)] (.v (.int .u8 r)) := by
  refine Ctr_of tyOk hm Tryd.func94 rfl rfl (by kernel_rfl) (n := 11) (rv := [.tmp 2]) rfl rfl ?_
  simp only [W, List.replicate]
  unfold spec_l01Figure.f at h
  replace h := ifS h; rcases h with ⟨c1, h⟩ | ⟨c1, h⟩
  · cases h
    try simp only [W, c1, p1, p2, p3, p4, p5, p6, p7, p8, p9, p10, p11, p12]
  · cases h
    try simp only [W, c1, p1, p2, p3, p4, p5, p6, p7, p8, p9, p10, p11, p12]
set_option maxRecDepth 20000 in set_option maxHeartbeats 4000000 in open Nat renaming reduceAdd → p1, reduceSub → p2, reduceMul → p3, reduceDiv → p4, reduceBNe → p5, reduceBEq → p6, reduceEqDiff → p7, reduceLeDiff → p8, reduceLT → p9 in open Int renaming reduceLE → p10, reduceLT → p11, reduceEq → p12 in
theorem spec_FormatInt.ctr {k : Nat} {a0 : Int} {r : ByteArray} (h : spec_FormatInt.f k a0 = some r) : Ctr Tryd.prog 64 [.v (.int .i64 a0)] (.v (.string r)) := by
  refine Ctr_of tyOk hm Tryd.func64 rfl rfl (by kernel_rfl) (n := 29) (rv := [.tmp 2]) rfl rfl ?_
  simp only [W, List.replicate]
  unfold spec_FormatInt.f at h
  replace h := ifS h; rcases h with ⟨c1, h⟩ | ⟨c1, h⟩
  · cases h
    try simp only [W, eq_true c1, p1, p2, p3, p4, p5, p6, p7, p8, p9, p10, p11, p12]
  · try simp only [W, c1, p1, p2, p3, p4, p5, p6, p7, p8, p9, p10, p11, p12]
    refine loopN (fun x : Int × Bool × ByteArray => [.v (.int .i64 x.1), .u, .u, .v (.bool x.2.1), .v (.string x.2.2), .u, .u, .u, .u, .u, .u, .u, .u, .u, .u, .u, .u, .u, .u, .u, .u, .u, .u, .u, .u, .u, .u, .u, .u, .u]) (fun x => []) (fun n x => spec_FormatInt.l0 n x.1 x.2.1 x.2.2 = some r) (a0, (decide (a0 < 0)), (⟨#[]⟩ : ByteArray)) [] h (by simp only [W, p1, p2, p3, p4, p5, p6, p7, p8, p9, p10, p11, p12] <;> trivial) (by simp only [W, p1, p2, p3, p4, p5, p6, p7, p8, p9, p10, p11, p12] <;> trivial) rfl (fun _ h => by cases h) ?_
    intro n1 ⟨x2, x3, x4⟩ _ h
    simp only [spec_FormatInt.l0] at h
    replace h := ifS h; rcases h with ⟨c5, h⟩ | ⟨c5, h⟩
    · replace h := ifT h; rcases h with ⟨rfl, h⟩ | ⟨rfl, h⟩
      · replace h := ifN h; obtain ⟨c7, h⟩ := h
        cases h
        try simp only [W, eq_true c5, c7, p1, p2, p3, p4, p5, p6, p7, p8, p9, p10, p11, p12]
      · cases h
        try simp only [W, eq_true c5, p1, p2, p3, p4, p5, p6, p7, p8, p9, p10, p11, p12]
    · replace h := ifS h; rcases h with ⟨c6, h⟩ | ⟨c6, h⟩
      · replace h := bnd h; obtain ⟨t7, A, h⟩ := h
        try simp only [W, c5, c6, p1, p2, p3, p4, p5, p6, p7, p8, p9, p10, p11, p12]
        refine callR (spec_l01Figure.ctr A) ?_
        rw [Option.bind_some] at h
        replace h := ifN h; obtain ⟨c8, h⟩ := h
        try simp only [W, c5, c6, c8, p1, p2, p3, p4, p5, p6, p7, p8, p9, p10, p11, p12]
        exact nextN ((wrap64 (Int.tdiv x2 10)), x3, ((strOfNums (([t7] : List Int) : List Int)) ++ x4)) [] n1 (by omega) h (by simp only [W, p1, p2, p3, p4, p5, p6, p7, p8, p9, p10, p11, p12] <;> trivial) (by simp only [W, p1, p2, p3, p4, p5, p6, p7, p8, p9, p10, p11, p12] <;> trivial) rfl
      · replace h := bnd h; obtain ⟨t7, A, h⟩ := h
        try simp only [W, c5, c6, p1, p2, p3, p4, p5, p6, p7, p8, p9, p10, p11, p12]
        refine callR (spec_l01Figure.ctr A) ?_
        rw [Option.bind_some] at h
        replace h := ifN h; obtain ⟨c8, h⟩ := h
        try simp only [W, c5, c6, c8, p1, p2, p3, p4, p5, p6, p7, p8, p9, p10, p11, p12]
        exact nextN ((wrap64 (Int.tdiv x2 10)), x3, ((strOfNums (([t7] : List Int) : List Int)) ++ x4)) [] n1 (by omega) h (by simp only [W, p1, p2, p3, p4, p5, p6, p7, p8, p9, p10, p11, p12] <;> trivial) (by simp only [W, p1, p2, p3, p4, p5, p6, p7, p8, p9, p10, p11, p12] <;> trivial) rfl
set_option maxRecDepth 20000 in set_option maxHeartbeats 4000000 in open Nat renaming reduceAdd → p1, reduceSub → p2, reduceMul → p3, reduceDiv → p4, reduceBNe → p5, reduceBEq → p6, reduceEqDiff → p7, reduceLeDiff → p8, reduceLT → p9 in open Int renaming reduceLE → p10, reduceLT → p11, reduceEq → p12 in
theorem spec_FormatAct.ctr {k : Nat} {a0_0 : Int} {a0_1 : Int} {a0_2 : Int} {r1 : ByteArray} {r2 : Bool} (h : spec_FormatAct.f k a0_0 a0_1 a0_2 = some (r1, r2)) : Ctr Tryd.prog 32 [.ag [.v (.int .i64 a0_0), .v (.int .i64 a0_1), .v (.int .i64 a0_2)]] (.tu [.v (.string r1), .v (.bool r2)]) := by
  refine Ctr_of tyOk hm Tryd.func32 rfl rfl (by kernel_rfl) (n := 39) (rv := [.tmp 2, .tmp 3]) rfl rfl ?_
  simp only [W, List.replicate]
  unfold spec_FormatAct.f at h
  replace h := bnd h; obtain ⟨t1, A, h⟩ := h
  try simp only [W, p1, p2, p3, p4, p5, p6, p7, p8, p9, p10, p11, p12]
  refine callR (spec_ActOk.ctr A) ?_
  replace h := ifT h; rcases h with ⟨rfl, h⟩ | ⟨rfl, h⟩
  · rw [Option.bind_some] at h
    replace h := ifN h; obtain ⟨c3, h⟩ := h
    replace h := ifN h; obtain ⟨c4, h⟩ := h
    try simp only [List.length_nil] at c4
    rw [Option.bind_some] at h
    replace h := ifN h; obtain ⟨c5, h⟩ := h
    try simp only [List.length_cons, List.length_nil, Nat.zero_add] at c5
    try simp only [W, c3, c4, c5, p1, p2, p3, p4, p5, p6, p7, p8, p9, p10, p11, p12]
    refine loopN (fun x : ByteArray × Int × List Int × Int × Int × Int × Int => [.u, .bp 16 0, .u, .u, .v (.string x.1), .v (.int .i64 x.2.1), .lo 400, .v (.int .i64 x.2.2.2.1), .u, .u, .u, .u, .bp 16 0, .u, .u, .u, .u, .bp 16 0, .u, .u, .u, .bp 16 1, .u, .bp 16 2, .u, .u, .u, .u, .u, .u, .u, .u, .u, .u, .u, .u, .u, .u, .u, .u]) (fun x => [(16, .box 31 [.v (.int .i64 x.2.2.2.2.1), .v (.int .i64 x.2.2.2.2.2.1), .v (.int .i64 x.2.2.2.2.2.2)]), (400, .row 3 1 (List.map eI x.2.2.1))]) (fun n x => spec_FormatAct.l0 n x.1 x.2.1 x.2.2.1 x.2.2.2.1 = some (r1, r2)) ((rdOf ByteArray.empty (([(⟨#[]⟩ : ByteArray), (⟨#[100, 97, 121]⟩ : ByteArray), (⟨#[101, 110, 116, 101, 114]⟩ : ByteArray), (⟨#[119, 97, 108, 107]⟩ : ByteArray), (⟨#[108, 101, 97, 118, 101]⟩ : ByteArray), (⟨#[103, 117, 105, 100, 101]⟩ : ByteArray), (⟨#[102, 97, 114]⟩ : ByteArray)] : List ByteArray) : List ByteArray) a0_0), (rd (([0, 1, 0, 2, 0, 1, 0] : List Int) : List Int) a0_0), (([a0_1, a0_2] : List Int)), 0, a0_0, a0_1, a0_2) [] h (by simp only [W, p1, p2, p3, p4, p5, p6, p7, p8, p9, p10, p11, p12] <;> trivial) (by simp only [W, p1, p2, p3, p4, p5, p6, p7, p8, p9, p10, p11, p12] <;> trivial) rfl (fun _ h => by cases h) ?_
    intro n1 ⟨x6, x7, x8, x9, y10, y11, y12⟩ _ h
    simp only [spec_FormatAct.l0] at h
    replace h := ifS h; rcases h with ⟨c13, h⟩ | ⟨c13, h⟩
    · replace h := ifN h; obtain ⟨c14, h⟩ := h
      replace h := ifN h; obtain ⟨c15, h⟩ := h
      replace h := ifN h; obtain ⟨c16, h⟩ := h
      replace h := bnd h; obtain ⟨t17, A, h⟩ := h
      try simp only [W, c13, c14, c15, c16, p1, p2, p3, p4, p5, p6, p7, p8, p9, p10, p11, p12]
      refine callR (spec_FormatInt.ctr A) ?_
      replace h := ifN h; obtain ⟨c18, h⟩ := h
      try simp only [W, c13, c14, c15, c16, c18, p1, p2, p3, p4, p5, p6, p7, p8, p9, p10, p11, p12]
      exact nextN (((x6 ++ (⟨#[32]⟩ : ByteArray)) ++ t17), x7, x8, (wrap64 (x9 + 1)), y10, y11, y12) [] n1 (by omega) h (by simp only [W, p1, p2, p3, p4, p5, p6, p7, p8, p9, p10, p11, p12] <;> trivial) (by simp only [W, p1, p2, p3, p4, p5, p6, p7, p8, p9, p10, p11, p12] <;> trivial) rfl
    · cases h
      try simp only [W, c13, p1, p2, p3, p4, p5, p6, p7, p8, p9, p10, p11, p12]
  · cases h
    try simp only [W, p1, p2, p3, p4, p5, p6, p7, p8, p9, p10, p11, p12]
set_option maxRecDepth 20000 in set_option maxHeartbeats 4000000 in open Nat renaming reduceAdd → p1, reduceSub → p2, reduceMul → p3, reduceDiv → p4, reduceBNe → p5, reduceBEq → p6, reduceEqDiff → p7, reduceLeDiff → p8, reduceLT → p9 in open Int renaming reduceLE → p10, reduceLT → p11, reduceEq → p12 in
theorem laws_eqAct.ctr {a0_0 : Int} {a0_1 : Int} {a0_2 : Int} {a1_0 : Int} {a1_1 : Int} {a1_2 : Int} {r : Bool} (h : laws_eqAct.f a0_0 a0_1 a0_2 a1_0 a1_1 a1_2 = some r) : Ctr Tryd.prog 15 [.ag [.v (.int .i64 a0_0), .v (.int .i64 a0_1), .v (.int .i64 a0_2)], .ag [.v (.int .i64 a1_0), .v (.int .i64 a1_1), .v (.int .i64 a1_2)]] (.v (.bool r)) := by
  refine Ctr_of tyOk hm Tryd.func15 rfl rfl (by kernel_rfl) (n := 18) (rv := [.tmp 4]) rfl rfl ?_
  simp only [W, List.replicate]
  unfold laws_eqAct.f at h
  replace h := ifS h; rcases h with ⟨c1, h⟩ | ⟨c1, h⟩
  · replace h := ifS h; rcases h with ⟨c2, h⟩ | ⟨c2, h⟩
    · replace h := ifS h; rcases h with ⟨c3, h⟩ | ⟨c3, h⟩
      · cases h
        try simp only [W, eq_true c1, eq_true c2, eq_true c3, p1, p2, p3, p4, p5, p6, p7, p8, p9, p10, p11, p12]
      · cases h
        try simp only [W, eq_true c1, eq_true c2, c3, p1, p2, p3, p4, p5, p6, p7, p8, p9, p10, p11, p12]
    · cases h
      try simp only [W, eq_true c1, c2, p1, p2, p3, p4, p5, p6, p7, p8, p9, p10, p11, p12]
  · cases h
    try simp only [W, c1, p1, p2, p3, p4, p5, p6, p7, p8, p9, p10, p11, p12]
end Go.Proofs.YtdjdleldocfpaaaDoor.F
end

section
namespace Go.Proofs.YtdjdleldocfpaaaDoor.F
open Go.RowKit Go.Proofs.YtdjdleldocfpaaaDoorW.PrintWords Go.Proofs.YtdjdleldocfpaaaDoorW.PrintLast Go.Proofs.YtdjdleldocfpaaaDoorW.PrintMore
set_option linter.unusedVariables false
set_option linter.unusedSimpArgs false
attribute [local go_sem] max2_int min2_int max_two min_two
set_option maxRecDepth 20000 in set_option maxHeartbeats 4000000 in open Nat renaming reduceAdd → p1, reduceSub → p2, reduceMul → p3, reduceDiv → p4, reduceBNe → p5, reduceBEq → p6, reduceEqDiff → p7, reduceLeDiff → p8, reduceLT → p9 in open Int renaming reduceLE → p10, reduceLT → p11, reduceEq → p12 in
theorem spec_SplitFields.ctr {k : Nat} {a0 : ByteArray} {r1 : List ByteArray} {r2 : Bool} (h : spec_SplitFields.f k a0 = some (r1, r2)) : Ctr Tryd.prog 34 [.v (.string a0)] (.tu [.ow 9 1 (r1.map eS), .v (.bool r2)]) := by
  refine Ctr_of tyOk hm Tryd.func34 rfl rfl (by kernel_rfl) (n := 61) (rv := [.tmp 2, .tmp 3]) rfl rfl ?_
  simp only [W, List.replicate]
  unfold spec_SplitFields.f at h
  rw [Option.bind_some] at h
  replace h := ifS h; rcases h with ⟨c1, h⟩ | ⟨c1, h⟩
  · cases h
    try simp only [W, c1, p1, p2, p3, p4, p5, p6, p7, p8, p9, p10, p11, p12]
  · try simp only [W, c1, p1, p2, p3, p4, p5, p6, p7, p8, p9, p10, p11, p12]
    refine loopN (fun x : ByteArray × List ByteArray × Int × Int => [.v (.string x.1), .u, .u, .u, .lo 112, .v (.int .i64 x.2.2.1), .v (.int .i64 x.2.2.2), .u, .u, .u, .u, .u, .u, .u, .u, .u, .u, .u, .u, .u, .u, .u, .u, .u, .u, .u, .u, .u, .u, .u, .u, .u, .u, .u, .u, .u, .u, .u, .u, .u, .u, .u, .u, .u, .u, .u, .u, .u, .u, .u, .u, .u, .u, .u, .u, .u, .u, .u, .u, .u, .u, .u]) (fun x => [(112, .row 9 1 (List.map eS x.2.1))]) (fun n x => spec_SplitFields.l0 n x.1 x.2.1 x.2.2.1 x.2.2.2 = some (r1, r2)) (a0, (([] : List ByteArray) : List ByteArray), 0, 0) [] h (by simp only [W, p1, p2, p3, p4, p5, p6, p7, p8, p9, p10, p11, p12] <;> trivial) (by simp only [W, p1, p2, p3, p4, p5, p6, p7, p8, p9, p10, p11, p12] <;> trivial) rfl (fun _ h => by cases h) ?_
    intro n1 ⟨x2, x3, x4, x5⟩ _ h
    simp only [spec_SplitFields.l0] at h
    replace h := ifS h; rcases h with ⟨c6, h⟩ | ⟨c6, h⟩
    · replace h := ifS h; rcases h with ⟨c7, h⟩ | ⟨c7, h⟩
      · replace h := ifN h; obtain ⟨c8, h⟩ := h
        replace h := ifS h; rcases h with ⟨c9, h⟩ | ⟨c9, h⟩
        · rcases n1 with _ | m10; · cases h
          rw [spec_SplitFields.j1] at h
          rw [if_pos rfl] at h
          cases h
          try simp only [W, c6, c7, c8, c9, p1, p2, p3, p4, p5, p6, p7, p8, p9, p10, p11, p12]
        · rcases n1 with _ | m10; · cases h
          rw [spec_SplitFields.j1] at h
          replace h := ifT h; rcases h with ⟨c11, h⟩ | ⟨c11, h⟩
          · cases h
            try simp only [W, c6, c7, c8, c9, c11, p1, p2, p3, p4, p5, p6, p7, p8, p9, p10, p11, p12]
          · rw [if_pos c7] at h
            replace h := ifN h; obtain ⟨c12, h⟩ := h
            rcases m10 with _ | m13; · cases h
            rw [spec_SplitFields.j2] at h
            replace h := ifT h; rcases h with ⟨c14, h⟩ | ⟨c14, h⟩ <;> try simp only [bEq] at c14
            · try simp only [W, c6, c7, c8, c9, c11, c12, c14, p1, p2, p3, p4, p5, p6, p7, p8, p9, p10, p11, p12]
              exact nextN (x2, x3, x4, (wrap64 (x5 + 1))) [] m13 (by omega) h (by simp only [W, p1, p2, p3, p4, p5, p6, p7, p8, p9, p10, p11, p12] <;> trivial) (by simp only [W, p1, p2, p3, p4, p5, p6, p7, p8, p9, p10, p11, p12] <;> trivial) rfl
            · replace h := ifS h; rcases h with ⟨c15, h⟩ | ⟨c15, h⟩
              · replace h := ifN h; obtain ⟨c16, h⟩ := h
                replace h := ifN h; obtain ⟨c17, h⟩ := h
                rw [if_pos c6] at h
                replace h := ifN h; obtain ⟨c18, h⟩ := h
                try simp only [W, c6, c7, c8, c9, c11, c12, c14, c15, c16, c17, c18, p1, p2, p3, p4, p5, p6, p7, p8, p9, p10, p11, p12]
                exact nextN (x2, (x3 ++ [x2.extract (x4 : Int).toNat (x5 : Int).toNat]), (wrap64 (x5 + 1)), (wrap64 (x5 + 1))) [(112, 864)] m13 (by omega) h (by simp only [W, p1, p2, p3, p4, p5, p6, p7, p8, p9, p10, p11, p12] <;> trivial) (by simp only [W, p1, p2, p3, p4, p5, p6, p7, p8, p9, p10, p11, p12] <;> trivial) rfl
              · try simp only [W, c6, c7, c8, c9, c11, c12, c14, c15, p1, p2, p3, p4, p5, p6, p7, p8, p9, p10, p11, p12]
                exact nextN (x2, x3, (wrap64 (x5 + 1)), (wrap64 (x5 + 1))) [] m13 (by omega) h (by simp only [W, p1, p2, p3, p4, p5, p6, p7, p8, p9, p10, p11, p12] <;> trivial) (by simp only [W, p1, p2, p3, p4, p5, p6, p7, p8, p9, p10, p11, p12] <;> trivial) rfl
      · rcases n1 with _ | m8; · cases h
        rw [spec_SplitFields.j1] at h
        rw [if_neg (by decide)] at h
        rw [if_neg c7] at h
        rcases m8 with _ | m10; · cases h
        rw [spec_SplitFields.j2] at h
        rw [if_neg (by decide)] at h
        replace h := ifS h; rcases h with ⟨c12, h⟩ | ⟨c12, h⟩
        · replace h := ifN h; obtain ⟨c13, h⟩ := h
          replace h := ifN h; obtain ⟨c14, h⟩ := h
          rw [if_pos c6] at h
          replace h := ifN h; obtain ⟨c15, h⟩ := h
          try simp only [W, c6, c7, c12, c13, c14, c15, p1, p2, p3, p4, p5, p6, p7, p8, p9, p10, p11, p12]
          exact nextN (x2, (x3 ++ [x2.extract (x4 : Int).toNat (x5 : Int).toNat]), (wrap64 (x5 + 1)), (wrap64 (x5 + 1))) [(112, 864)] m10 (by omega) h (by simp only [W, p1, p2, p3, p4, p5, p6, p7, p8, p9, p10, p11, p12] <;> trivial) (by simp only [W, p1, p2, p3, p4, p5, p6, p7, p8, p9, p10, p11, p12] <;> trivial) rfl
        · try simp only [W, c6, c7, c12, p1, p2, p3, p4, p5, p6, p7, p8, p9, p10, p11, p12]
          exact nextN (x2, x3, (wrap64 (x5 + 1)), (wrap64 (x5 + 1))) [] m10 (by omega) h (by simp only [W, p1, p2, p3, p4, p5, p6, p7, p8, p9, p10, p11, p12] <;> trivial) (by simp only [W, p1, p2, p3, p4, p5, p6, p7, p8, p9, p10, p11, p12] <;> trivial) rfl
    · replace h := ifS h; rcases h with ⟨c7, h⟩ | ⟨c7, h⟩
      · cases h
        try simp only [W, c6, c7, p1, p2, p3, p4, p5, p6, p7, p8, p9, p10, p11, p12]
      · cases h
        try simp only [W, c6, c7, p1, p2, p3, p4, p5, p6, p7, p8, p9, p10, p11, p12]
set_option maxRecDepth 20000 in set_option maxHeartbeats 4000000 in open Nat renaming reduceAdd → p1, reduceSub → p2, reduceMul → p3, reduceDiv → p4, reduceBNe → p5, reduceBEq → p6, reduceEqDiff → p7, reduceLeDiff → p8, reduceLT → p9 in open Int renaming reduceLE → p10, reduceLT → p11, reduceEq → p12 in
theorem spec_ParseUint.ctr {k : Nat} {a0 : ByteArray} {r1 : Int} {r2 : Bool} (h : spec_ParseUint.f k a0 = some (r1, r2)) : Ctr Tryd.prog 65 [.v (.string a0)] (.tu [.v (.int .i64 r1), .v (.bool r2)]) := by
  refine Ctr_of tyOk hm Tryd.func65 rfl rfl (by kernel_rfl) (n := 41) (rv := [.tmp 2, .tmp 3]) rfl rfl ?_
  simp only [W, List.replicate]
  unfold spec_ParseUint.f at h
  replace h := ifS h; rcases h with ⟨c1, h⟩ | ⟨c1, h⟩
  · cases h
    try simp only [W, c1, p1, p2, p3, p4, p5, p6, p7, p8, p9, p10, p11, p12]
  · try simp only [W, c1, p1, p2, p3, p4, p5, p6, p7, p8, p9, p10, p11, p12]
    refine loopN (fun x : ByteArray × Int × Int => [.v (.string x.1), .u, .u, .u, .v (.int .i64 x.2.1), .v (.int .i64 x.2.2), .u, .u, .u, .u, .u, .u, .u, .u, .u, .u, .u, .u, .u, .u, .u, .u, .u, .u, .u, .u, .u, .u, .u, .u, .u, .u, .u, .u, .u, .u, .u, .u, .u, .u, .u, .u]) (fun x => []) (fun n x => spec_ParseUint.l0 n x.1 x.2.1 x.2.2 = some (r1, r2)) (a0, 0, 0) [] h (by simp only [W, p1, p2, p3, p4, p5, p6, p7, p8, p9, p10, p11, p12] <;> trivial) (by simp only [W, p1, p2, p3, p4, p5, p6, p7, p8, p9, p10, p11, p12] <;> trivial) rfl (fun _ h => by cases h) ?_
    intro n1 ⟨x2, x3, x4⟩ _ h
    simp only [spec_ParseUint.l0] at h
    replace h := ifS h; rcases h with ⟨c5, h⟩ | ⟨c5, h⟩
    · replace h := ifN h; obtain ⟨c6, h⟩ := h
      replace h := ifS h; rcases h with ⟨c7, h⟩ | ⟨c7, h⟩
      · cases h
        try simp only [W, c5, c6, c7, p1, p2, p3, p4, p5, p6, p7, p8, p9, p10, p11, p12]
      · replace h := ifS h; rcases h with ⟨c8, h⟩ | ⟨c8, h⟩
        · cases h
          try simp only [W, c5, c6, c7, c8, p1, p2, p3, p4, p5, p6, p7, p8, p9, p10, p11, p12]
        · try simp only [W, c5, c6, c7, c8, p1, p2, p3, p4, p5, p6, p7, p8, p9, p10, p11, p12]
          exact nextN (x2, (wrap64 ((wrap64 ((wrap64 (10 * x3)) + (wrap64 (bt x2 x4)))) - 48)), (wrap64 (x4 + 1))) [] n1 (by omega) h (by simp only [W, p1, p2, p3, p4, p5, p6, p7, p8, p9, p10, p11, p12] <;> trivial) (by simp only [W, p1, p2, p3, p4, p5, p6, p7, p8, p9, p10, p11, p12] <;> trivial) rfl
    · replace h := ifS h; rcases h with ⟨c6, h⟩ | ⟨c6, h⟩
      · cases h
        try simp only [W, c5, c6, p1, p2, p3, p4, p5, p6, p7, p8, p9, p10, p11, p12]
      · replace h := bnd h; obtain ⟨t7, A, h⟩ := h
        try simp only [W, c5, c6, p1, p2, p3, p4, p5, p6, p7, p8, p9, p10, p11, p12]
        refine callR (spec_FormatInt.ctr A) ?_
        replace h := ifS h; rcases h with ⟨c8, h⟩ | ⟨c8, h⟩
        · cases h
          try simp only [W, c5, c6, eq_true c8, p1, p2, p3, p4, p5, p6, p7, p8, p9, p10, p11, p12]
        · cases h
          try simp only [W, c5, c6, c8, p1, p2, p3, p4, p5, p6, p7, p8, p9, p10, p11, p12]
set_option maxRecDepth 20000 in set_option maxHeartbeats 4000000 in open Nat renaming reduceAdd → p1, reduceSub → p2, reduceMul → p3, reduceDiv → p4, reduceBNe → p5, reduceBEq → p6, reduceEqDiff → p7, reduceLeDiff → p8, reduceLT → p9 in open Int renaming reduceLE → p10, reduceLT → p11, reduceEq → p12 in
theorem spec_l40Number.ctr {k : Nat} {a0 : ByteArray} {r : Int} (h : spec_l40Number.f k a0 = some r) : Ctr Tryd.prog 36 [.v (.string a0)] (.v (.int .i64 r)) := by
  refine Ctr_of tyOk hm Tryd.func36 rfl rfl (by kernel_rfl) (n := 28) (rv := [.tmp 2]) rfl rfl ?_
  simp only [W, List.replicate]
  unfold spec_l40Number.f at h
  replace h := ifS h; rcases h with ⟨c1, h⟩ | ⟨c1, h⟩
  · replace h := ifN h; obtain ⟨c2, h⟩ := h
    rcases k with _ | m3; · cases h
    rw [spec_l40Number.j0] at h
    replace h := ifT h; rcases h with ⟨c4, h⟩ | ⟨c4, h⟩ <;> try simp only [bEq] at c4
    · replace h := ifN h; obtain ⟨c5, h⟩ := h
      replace h := bnd h; obtain ⟨⟨t6_1, t6_2⟩, A, h⟩ := h
      dsimp only at h
      try simp only [W, c1, c2, c4, c5, p1, p2, p3, p4, p5, p6, p7, p8, p9, p10, p11, p12]
      refine callR (spec_ParseUint.ctr A) ?_
      cases h
      try simp only [W, c1, c2, c4, c5, p1, p2, p3, p4, p5, p6, p7, p8, p9, p10, p11, p12]
    · replace h := bnd h; obtain ⟨⟨t5_1, t5_2⟩, A, h⟩ := h
      dsimp only at h
      try simp only [W, c1, c2, c4, p1, p2, p3, p4, p5, p6, p7, p8, p9, p10, p11, p12]
      refine callR (spec_ParseUint.ctr A) ?_
      cases h
      try simp only [W, c1, c2, c4, p1, p2, p3, p4, p5, p6, p7, p8, p9, p10, p11, p12]
  · rcases k with _ | m2; · cases h
    rw [spec_l40Number.j0] at h
    rw [if_neg (by decide)] at h
    replace h := bnd h; obtain ⟨⟨t4_1, t4_2⟩, A, h⟩ := h
    dsimp only at h
    try simp only [W, c1, p1, p2, p3, p4, p5, p6, p7, p8, p9, p10, p11, p12]
    refine callR (spec_ParseUint.ctr A) ?_
    cases h
    try simp only [W, c1, p1, p2, p3, p4, p5, p6, p7, p8, p9, p10, p11, p12]
end Go.Proofs.YtdjdleldocfpaaaDoor.F
end

section
namespace Go.Proofs.YtdjdleldocfpaaaDoor.F
open Go.RowKit Go.Proofs.YtdjdleldocfpaaaDoorW.PrintWords Go.Proofs.YtdjdleldocfpaaaDoorW.PrintLast Go.Proofs.YtdjdleldocfpaaaDoorW.PrintMore
set_option linter.unusedVariables false
set_option linter.unusedSimpArgs false
attribute [local go_sem] max2_int min2_int max_two min_two
set_option maxRecDepth 20000 in set_option maxHeartbeats 4000000 in open Nat renaming reduceAdd → p1, reduceSub → p2, reduceMul → p3, reduceDiv → p4, reduceBNe → p5, reduceBEq → p6, reduceEqDiff → p7, reduceLeDiff → p8, reduceLT → p9 in open Int renaming reduceLE → p10, reduceLT → p11, reduceEq → p12 in
theorem spec_ParseAct.ctr {k : Nat} {a0 : ByteArray} {r1 : Int} {r2 : Int} {r3 : Int} {r4 : Bool} (h : spec_ParseAct.f k a0 = some (r1, r2, r3, r4)) : Ctr Tryd.prog 13 [.v (.string a0)] (.tu [.ag [.v (.int .i64 r1), .v (.int .i64 r2), .v (.int .i64 r3)], .v (.bool r4)]) := by
  refine Ctr_of tyOk hm Tryd.func13 rfl rfl (by kernel_rfl) (n := 79) (rv := [.cell 2 31, .tmp 3]) rfl rfl ?_
  simp only [W, List.replicate]
  unfold spec_ParseAct.f at h
  replace h := bnd h; obtain ⟨⟨t1_1, t1_2⟩, A, h⟩ := h
  dsimp only at h
  try simp only [W, p1, p2, p3, p4, p5, p6, p7, p8, p9, p10, p11, p12]
  refine callR (spec_SplitFields.ctr A) ?_
  replace h := ifT h; rcases h with ⟨rfl, h⟩ | ⟨rfl, h⟩
  · replace h := bnd h; obtain ⟨t3, A, h⟩ := h
    try simp only [W, p1, p2, p3, p4, p5, p6, p7, p8, p9, p10, p11, p12]
    refine callR (spec_l01In.ctr A) ?_
    rcases k with _ | m4; · cases h
    rw [spec_ParseAct.j0] at h
    replace h := ifT h; rcases h with ⟨c5, h⟩ | ⟨c5, h⟩
    · cases h
      try simp only [W, c5, p1, p2, p3, p4, p5, p6, p7, p8, p9, p10, p11, p12]
    · replace h := ifN h; obtain ⟨c6, h⟩ := h
      try simp only [W, c5, c6, p1, p2, p3, p4, p5, p6, p7, p8, p9, p10, p11, p12]
      refine loopN (fun x : List ByteArray × ByteArray × List Int × Int × Int × Int × Int => [.u, .u, .bp 32 0, .u, .lo 240, .u, .v (.string x.2.1), .lo 480, .v (.int .i64 x.2.2.2.1), .u, .u, .u, .u, .u, .u, .u, .u, .u, .u, .u, .u, .u, .u, .u, .u, .u, .u, .u, .u, .u, .u, .u, .u, .u, .u, .u, .u, .u, .u, .u, .u, .u, .u, .u, .u, .u, .u, .u, .u, .u, .u, .u, .u, .u, .u, .u, .u, .u, .u, .u, .u, .u, .u, .u, .u, .u, .u, .u, .u, .u, .u, .u, .u, .u, .u, .u, .u, .u, .u, .u]) (fun x => [(32, .box 31 [.v (.int .i64 x.2.2.2.2.1), .v (.int .i64 x.2.2.2.2.2.1), .v (.int .i64 x.2.2.2.2.2.2)]), (240, .row 9 1 (List.map eS x.1)), (480, .row 3 1 (List.map eI x.2.2.1))]) (fun n x => spec_ParseAct.l0 n x.1 x.2.1 x.2.2.1 x.2.2.2.1 = some (r1, r2, r3, r4)) (t1_1, (rdOf ByteArray.empty t1_1 0), (([] : List Int)), 1, 0, 0, 0) [] h (by simp only [W, p1, p2, p3, p4, p5, p6, p7, p8, p9, p10, p11, p12] <;> trivial) (by simp only [W, p1, p2, p3, p4, p5, p6, p7, p8, p9, p10, p11, p12] <;> trivial) rfl (fun _ h => by cases h) ?_
      intro n1 ⟨x7, x8, x9, x10, y11, y12, y13⟩ _ h
      simp only [spec_ParseAct.l0] at h
      replace h := ifS h; rcases h with ⟨c14, h⟩ | ⟨c14, h⟩
      · replace h := ifN h; obtain ⟨c15, h⟩ := h
        replace h := ifN h; obtain ⟨c16, h⟩ := h
        replace h := ifN h; obtain ⟨c17, h⟩ := h
        replace h := bnd h; obtain ⟨t18, A, h⟩ := h
        try simp only [W, c14, c15, c16, c17, p1, p2, p3, p4, p5, p6, p7, p8, p9, p10, p11, p12]
        refine callR (spec_l40Number.ctr A) ?_
        replace h := ifN h; obtain ⟨c19, h⟩ := h
        try simp only [W, c14, c15, c16, c17, c19, p1, p2, p3, p4, p5, p6, p7, p8, p9, p10, p11, p12]
        exact nextN (x7, ((x8 ++ (⟨#[32]⟩ : ByteArray)) ++ (rdOf ByteArray.empty x7 x10)), (x9 ++ [t18]), (wrap64 (x10 + 1)), y11, y12, y13) [(480, 816)] n1 (by omega) h (by simp only [W, p1, p2, p3, p4, p5, p6, p7, p8, p9, p10, p11, p12] <;> trivial) (by simp only [W, p1, p2, p3, p4, p5, p6, p7, p8, p9, p10, p11, p12] <;> trivial) rfl
      · rw [Option.bind_some] at h
        replace h := ifN h; obtain ⟨c15, h⟩ := h
        try simp only [List.length_cons, List.length_nil, Nat.zero_add] at c15
        try simp only [W, c14, c15, Nat.le_of_lt c15, p1, p2, p3, p4, p5, p6, p7, p8, p9, p10, p11, p12]
        refine loopN (fun x : ByteArray × List Int × Int × Int × Int × Int => [.u, .u, .bp 32 0, .u, .u, .u, .v (.string x.1), .lo 864, .u, .v (.int .i64 x.2.2.1), .u, .u, .u, .u, .u, .u, .u, .u, .u, .u, .u, .u, .u, .u, .u, .u, .u, .u, .u, .u, .u, .u, .u, .u, .u, .u, .u, .u, .u, .u, .u, .u, .u, .u, .u, .u, .u, .u, .u, .u, .u, .u, .u, .u, .u, .u, .u, .u, .u, .u, .u, .u, .u, .u, .u, .u, .u, .u, .u, .u, .u, .u, .u, .u, .u, .u, .u, .u, .u, .u]) (fun x => [(32, .box 31 [.v (.int .i64 x.2.2.2.1), .v (.int .i64 x.2.2.2.2.1), .v (.int .i64 x.2.2.2.2.2)]), (864, .row 3 1 (List.map eI x.2.1))]) (fun n x => spec_ParseAct.l1 n x.1 x.2.1 x.2.2.1 = some (r1, r2, r3, r4)) (x8, (x9 ++ (([0, 0] : List Int) : List Int)), 1, y11, y12, y13) [] h (by simp only [W, p1, p2, p3, p4, p5, p6, p7, p8, p9, p10, p11, p12] <;> trivial) (by simp only [W, p1, p2, p3, p4, p5, p6, p7, p8, p9, p10, p11, p12] <;> trivial) rfl (fun _ h => by cases h) ?_
        intro n2 ⟨x16, x17, x18, y19, y20, y21⟩ _ h
        simp only [spec_ParseAct.l1] at h
        replace h := ifS h; rcases h with ⟨c22, h⟩ | ⟨c22, h⟩
        · replace h := ifN h; obtain ⟨c23, h⟩ := h
          replace h := ifN h; obtain ⟨c24, h⟩ := h
          replace h := bnd h; obtain ⟨⟨t25_1, t25_2⟩, A, h⟩ := h
          dsimp only at h
          try simp only [W, c22, c23, c24, p1, p2, p3, p4, p5, p6, p7, p8, p9, p10, p11, p12]
          refine callR (spec_FormatAct.ctr A) ?_
          replace h := ifT h; rcases h with ⟨rfl, h⟩ | ⟨rfl, h⟩
          · replace h := ifS h; rcases h with ⟨c27, h⟩ | ⟨c27, h⟩
            · cases h
              try simp only [W, c22, c23, c24, eq_true c27, p1, p2, p3, p4, p5, p6, p7, p8, p9, p10, p11, p12]
            · try simp only [W, c22, c23, c24, c27, p1, p2, p3, p4, p5, p6, p7, p8, p9, p10, p11, p12]
              exact nextN (x16, x17, (wrap64 (x18 + 1)), y19, y20, y21) [] n2 (by omega) h (by simp only [W, p1, p2, p3, p4, p5, p6, p7, p8, p9, p10, p11, p12] <;> trivial) (by simp only [W, p1, p2, p3, p4, p5, p6, p7, p8, p9, p10, p11, p12] <;> trivial) rfl
          · try simp only [W, c22, c23, c24, p1, p2, p3, p4, p5, p6, p7, p8, p9, p10, p11, p12]
            exact nextN (x16, x17, (wrap64 (x18 + 1)), y19, y20, y21) [] n2 (by omega) h (by simp only [W, p1, p2, p3, p4, p5, p6, p7, p8, p9, p10, p11, p12] <;> trivial) (by simp only [W, p1, p2, p3, p4, p5, p6, p7, p8, p9, p10, p11, p12] <;> trivial) rfl
        · cases h
          try simp only [W, c22, p1, p2, p3, p4, p5, p6, p7, p8, p9, p10, p11, p12]
  · rcases k with _ | m3; · cases h
    rw [spec_ParseAct.j0] at h
    rw [if_pos rfl] at h
    cases h
    try simp only [W, p1, p2, p3, p4, p5, p6, p7, p8, p9, p10, p11, p12]
end Go.Proofs.YtdjdleldocfpaaaDoor.F
end
