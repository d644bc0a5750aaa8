/- Packed by a program of the session (wip/tools/pack.py): what the claim's theorem reaches, of the texts that wip/ and the kit's printer lay. -/
import Derived.Test.YtdjdleldocfpaaaGreatDoorPkFnSummaries1
import Derived.Lib.SlicesCompact
import Derived.Lib.ItoaNum
import Derived.Lib.AtoiAll
import Derived.Lib.Split
import Derived.Test.YtdjdleldocfpaaaGreatDoorProg
import Derived.Below
import Derived.Deep.Draws
import Derived.Deep.AppendLies
import Derived.Maps.AppendAt
import Derived.OwnWalk
import Derived.Laws.BytesArg
import Derived.Laws.MakeOwn
import Derived.Laws.OwnMore
import Derived.Deep.OwnRows
import Derived.Tactics
import Derived.Lib.ConvBytes
import Derived.Laws.Slices
import Derived.WalkKit
import Derived.KernelRfl
import Derived.RowKit3
import Derived.Deep.LoopGhost
import Derived.Deep.QuietTactic
import Derived.BigQuiet
import Derived.WideLaws
import Derived.Deep.DeepCutAuto
import Derived.Deep.CutBlock
import Derived.Deep.RegionHeld3
import Derived.Laws.Rows
import Derived.Lib.AppendStr
import Derived.ArgAppend
import Derived.Laws.IdiomCopy
import Derived.OrdersHeld
import Derived.Laws.BitsLemmas
import Derived.RowKit
import Derived.WalkSpells
import Derived.LoopTactic
import Derived.Shelf.Abstract
import Derived.Laws.CopyOwn
import Derived.Lib.SliceRun
import Derived.Laws.StructEq
import Derived.StillTailTactics
section
namespace Go.Proofs.YtdjdleldocfpaaaGreatDoor.F
open Go.RowKit Go.Proofs.YtdjdleldocfpaaaGreatDoorW.PrintWords Go.Proofs.YtdjdleldocfpaaaGreatDoorW.PrintLast Go.Proofs.YtdjdleldocfpaaaGreatDoorW.PrintMore
set_option linter.unusedVariables false
set_option linter.unusedSimpArgs false
def idxF {α : Type} (p : α → Bool) (l : List α) : Int := match l.findIdx? p with
  | some i => (i : Int)
  | none => -1
theorem idxF_hit {α : Type} {z : α} (p : α → Bool) (l : List α) (k : Nat) (hlt : k < l.length) (h : p (l.getD k z) = true) (hm : ∀ j, j < k → p (l.getD j z) = false) : idxF p l = k := by
  unfold idxF
  have e : ∀ j (hj : j < l.length), l.getD j z = l[j] := fun j hj => by rw [List.getD_eq_getElem?_getD, List.getElem?_eq_getElem hj]; rfl
  have : l.findIdx? p = some k := by
    rw [List.findIdx?_eq_some_iff_getElem]
    refine ⟨hlt, by rw [← e k hlt]; exact h, fun j hj => ?_⟩
    rw [← e j (by omega), hm j hj]
    simp
  rw [this]
theorem idxF_miss {α : Type} {z : α} (p : α → Bool) (l : List α) (hm : ∀ j, j < l.length → p (l.getD j z) = false) : idxF p l = -1 := by
  unfold idxF
  have : l.findIdx? p = none := by
    rw [List.findIdx?_eq_none_iff]
    intro x hx
    obtain ⟨j, hj, rfl⟩ := List.getElem_of_mem hx
    have := hm j hj
    rwa [List.getD_eq_getElem?_getD, List.getElem?_eq_getElem hj] at this
  rw [this]
theorem idxF_any {α : Type} (p : α → Bool) (l : List α) : decide (0 ≤ idxF p l) = l.any p := by
  unfold idxF
  cases h : l.findIdx? p with
  | some i =>
    rw [List.findIdx?_eq_some_iff_getElem] at h
    obtain ⟨hi, hp, _⟩ := h
    have : l.any p = true := List.any_eq_true.2 ⟨l[i], List.getElem_mem hi, hp⟩
    rw [this]
    simp
  | none =>
    rw [List.findIdx?_eq_none_iff] at h
    have : l.any p = false := by
      rw [List.any_eq_false]
      intro x hx
      rw [h x hx]
      simp
    rw [this]
    simp
theorem rd_nat (l : List Int) (j : Nat) : rd l (j : Int) = l.getD j 0 := rfl
theorem rd_mem {l : List Int} {j : Nat} (h : j < l.length) : rd l (j : Int) ∈ l := by
  rw [rd_nat, List.getD_eq_getElem?_getD, List.getElem?_eq_getElem h]
  exact List.getElem_mem h
def allO {α : Type} (f : α → Option Bool) (l : List α) : Option Bool := (l.mapM f).bind fun bs => some (bs.all id)
theorem allO_some {α : Type} {f : α → Option Bool} : ∀ {l : List α} {r : Bool}, allO f l = some r → (∀ x ∈ l, ∃ v, f x = some v) ∧ r = !(l.any fun x => !((f x).getD false)) := by
  intro l
  unfold allO
  induction l with
  | nil => intro r h; simp at h; simp [h]
  | cons x l ih =>
    intro r h
    rw [List.mapM_cons] at h
    obtain ⟨bs, h1, h2⟩ := Option.bind_eq_some_iff.1 h
    obtain ⟨v, hv, h3⟩ := Option.bind_eq_some_iff.1 h1
    obtain ⟨vs, hvs, h4⟩ := Option.bind_eq_some_iff.1 h3
    simp at h4 h2
    subst h4
    obtain ⟨i1, i2⟩ := ih (r := vs.all id) (by rw [hvs]; rfl)
    refine ⟨fun y hy => ?_, ?_⟩
    · rcases List.mem_cons.1 hy with rfl | hy
      · exact ⟨v, hv⟩
      · exact i1 y hy
    · simp only [List.any_cons, hv, Option.getD_some, ← h2, List.all_cons, id]
      have i3 : (vs.all fun x => x) = vs.all id := rfl
      rw [Bool.not_or, Bool.not_not, ← i2]
theorem allO_of {α : Type} {f : α → Option Bool} {p : α → Bool} : ∀ {l : List α}, (∀ x ∈ l, f x = some (p x)) → allO f l = some (l.all p) := by
  intro l
  unfold allO
  induction l with
  | nil => intro _; rfl
  | cons x l ih =>
    intro h
    have i1 := ih (fun y hy => h y (List.mem_cons_of_mem _ hy))
    obtain ⟨vs, hvs, h4⟩ := Option.bind_eq_some_iff.1 i1
    rw [List.mapM_cons, h x (List.mem_cons_self ..), hvs]
    simp at h4
    simp [h4]
def slices_ContainsFunc_HedgeOk.f (l0 : List Int) : Option (Bool) := some (l0.any fun x => decide (x < 0) || decide (x > 1000))
end Go.Proofs.YtdjdleldocfpaaaGreatDoor.F
end

section
namespace Go.Proofs.YtdjdleldocfpaaaGreatDoor.F
open Go.RowKit Go.Proofs.YtdjdleldocfpaaaGreatDoorW.PrintWords Go.Proofs.YtdjdleldocfpaaaGreatDoorW.PrintLast Go.Proofs.YtdjdleldocfpaaaGreatDoorW.PrintMore
set_option linter.unusedVariables false
set_option linter.unusedSimpArgs false
def rd_LU8 (xs : List (List Int)) (i : Int) : (List Int) := xs.getD i.toNat ([] : List Int)
structure SAct where
  f0 : Int
  f1 : Int
  f2 : Int
def zAct : SAct := ⟨(0 : Int), (0 : Int), (0 : Int)⟩
def rd_Act (xs : List SAct) (i : Int) : SAct := xs.getD i.toNat zAct
end Go.Proofs.YtdjdleldocfpaaaGreatDoor.F
end

section
namespace Go.Proofs.YtdjdleldocfpaaaGreatDoor.F
open Go.RowKit Go.Proofs.YtdjdleldocfpaaaGreatDoorW.PrintWords Go.Proofs.YtdjdleldocfpaaaGreatDoorW.PrintLast Go.Proofs.YtdjdleldocfpaaaGreatDoorW.PrintMore
set_option linter.unusedVariables false
set_option linter.unusedSimpArgs false
attribute [local go_sem] max2_int min2_int max_two min_two
def errW : Option Int → Value
  | none => .nilIface
  | some c => .iface 191 (.int .i64 c)
theorem errW_none : errW none = .nilIface := rfl
theorem errW_some (c : Int) : errW (some c) = .iface 191 (.int .i64 c) := rfl
theorem info3 : (Tryz.prog.info? 3).map (fun i => (i.zero, i.size, i.bytes)) = some (some (.int .i64 0), 1, 8) := by kernel_rfl
theorem info5 : (Tryz.prog.info? 5).map (fun i => (i.zero, i.size, i.bytes)) = some (some (.int .u8 0), 1, 1) := by kernel_rfl
theorem info9 : (Tryz.prog.info? 9).map (fun i => (i.zero, i.size, i.bytes)) = some (some (.string ⟨#[]⟩), 1, 16) := by kernel_rfl
theorem info47 : (Tryz.prog.info? 47).map (fun i => (i.zero, i.size, i.bytes)) = some (some (.slice none 0 0), 1, 24) := by kernel_rfl
theorem at_L3 {w : World} {A : Option Addr} {n : Nat} {xs : List (List Int)} (h : Kd.C (Kd.slice 5 (Kd.int .u8)) w A n xs) (i : Int) (h0 : 0 ≤ i) (h1 : i < n) : ∃ ad A0 c0, A = some ad ∧ w.cell? (ad.add i.toNat) = some (.slice A0 (rd_LU8 xs i).length c0) ∧ (rd_LU8 xs i).length ≤ c0 ∧ (Kd.int .u8).C w A0 (rd_LU8 xs i).length (rd_LU8 xs i) := by
  obtain ⟨ad, c, e, _, hK, hc0⟩ := Kd.C_get h ([] : List Int) i h0 h1
  have hc : ∀ j u, c[j]? = some u → w.cell? (ad.add (i.toNat * 1 + j)) = some u := hc0
  obtain ⟨A0, c0, rfl, l0, g0⟩ := hK
  exact ⟨ad, A0, c0, e, by have hq := hc 0 _ rfl; rwa [Nat.mul_one, Nat.add_zero] at hq, l0, g0⟩
end Go.Proofs.YtdjdleldocfpaaaGreatDoor.F
end

section
namespace Go.Proofs.YtdjdleldocfpaaaGreatDoor.F
open Go.RowKit Go.Proofs.YtdjdleldocfpaaaGreatDoorW.PrintWords Go.Proofs.YtdjdleldocfpaaaGreatDoorW.PrintLast Go.Proofs.YtdjdleldocfpaaaGreatDoorW.PrintMore
set_option linter.unusedVariables false
set_option linter.unusedSimpArgs false
theorem heap_new2 (w : World) (o1 o2 : Obj) : ((w.alloc o1).alloc o2).heap[w.heap.size + 1]? = some o2 := by
  have := heap_alloc_new (w.alloc o1) o2
  rwa [show (w.alloc o1).heap.size = w.heap.size + 1 by simp] at this
theorem row_open {w : World} {base : Nat} {v : Value} {xs : List Int} {e : Nat} (h : Kd.R (Kd.int .i64) e w base (fun _ => True) v xs) (hx : 0 < xs.length) :
    ∃ g cap cur, v = .slice (some ⟨g, 0, none⟩) xs.length cap ∧ xs.length ≤ cap ∧ base ≤ g ∧ w.heap[g]? = some (.cells (List.toArray cur) e (0, 0)) ∧ cur.length = cap ∧ cap ≤ maxLen ∧ ∀ j, j < xs.length → cur[j]? = some (.int .i64 (xs.getD j 0)) := by
  obtain ⟨_, h⟩ := Kd.own_of_R h
  rcases h with ⟨rfl, h0⟩ | ⟨g, cap, cur, rfl, hb, hh, hn, hc, hs, hl⟩
  · omega
  · refine ⟨g, cap, cur.toList, rfl, hn, hb, by simpa using hh, by simpa using hs, hc, fun j hj => ?_⟩
    have e1 := congrArg (fun l : List Value => l[j]?) hl
    simp only [List.getElem?_take, Nat.mul_one] at e1
    rw [if_pos hj] at e1
    rw [e1]
    simp [encs, List.getD_eq_getElem?_getD, List.getElem?_eq_getElem hj]
theorem row_close {w : World} {base g cap e : Nat} {cur : List Value} {xs : List Int} (hb : base ≤ g) (hh : w.heap[g]? = some (.cells (List.toArray cur) e (0, 0))) (hn : xs.length ≤ cap) (hc : cap ≤ maxLen) (hs : cur.length = cap) (hx : ∀ j, j < xs.length → cur[j]? = some (.int .i64 (xs.getD j 0))) :
    Kd.R (Kd.int .i64) e w base (fun _ => True) (.slice (some ⟨g, 0, none⟩) xs.length cap) xs := by
  refine Kd.R_of_own ?_ (fun _ _ => trivial)
  refine ⟨by simp [encs], .inr ⟨g, cap, cur.toArray, by simp, hb, hh, by simpa using hn, hc, by simpa using hs, ?_⟩⟩
  apply List.ext_getElem?
  intro j
  rw [List.getElem?_take]
  by_cases hj : j < xs.length
  · rw [if_pos (by simpa using hj), List.toList_toArray, hx j hj]
    simp [encs, List.getD_eq_getElem?_getD, List.getElem?_eq_getElem hj]
  · rw [if_neg (by simpa using hj)]
    symm
    refine List.getElem?_eq_none ?_
    simp [encs]; omega
theorem grown_refl (w : World) (r : Option Nat) : w.grownBy w r := ⟨rfl, rfl, rfl, Nat.le_refl _, fun _ _ _ => rfl⟩
theorem grown_below {w W W1 : World} {r : Option Nat} (h : w.grownBy W r) (hb : Below W.heap.size W W1) : w.grownBy W1 r :=
  ⟨hb.os.trans h.os, hb.tape.trans h.tape, hb.output.trans h.output, Nat.le_trans h.size hb.size, fun i hi hr => (hb.block i (Nat.lt_of_lt_of_le hi h.size)).trans (h.block i hi hr)⟩
theorem grown_set {w W : World} {b : Nat} (h : w.grownBy W (some b)) (i : Nat) (v : Value) : w.grownBy (W.setCell ⟨b, i, none⟩ v) (some b) :=
  ⟨h.os, h.tape, h.output, by simpa [World.setCell] using h.size, fun k hk hr => (Below.heap_setCell W ⟨b, i, none⟩ v k (fun e => hr (by rw [e]))).trans (h.block k hk hr)⟩
theorem setCells_row {w : World} {b e : Nat} : ∀ (vs : List Value) (o : Nat) (W : World) (c2 : List Value), W.heap[b]? = some (.cells c2.toArray e (0, 0)) → o + vs.length ≤ c2.length → w.grownBy W (some b) →
    ∃ c3 : List Value, (W.setCells b o vs).heap[b]? = some (.cells c3.toArray e (0, 0)) ∧ c3.length = c2.length ∧ (∀ t, t < o → c3[t]? = c2[t]?) ∧ w.grownBy (W.setCells b o vs) (some b)
  | [], o, W, c2, h, hl, hg => ⟨c2, h, rfl, fun _ _ => rfl, hg⟩
  | v :: vs, o, W, c2, h, hl, hg => by
    simp only [List.length_cons] at hl
    obtain ⟨c3, h1, h2, h3, h4⟩ := setCells_row vs (o + 1) (W.setCell ⟨b, o, none⟩ v) (c2.set o v) (blk_put h o v (by simp)) (by rw [List.length_set]; omega) (grown_set hg o v)
    refine ⟨c3, h1, by rw [h2, List.length_set], fun t ht => ?_, h4⟩
    rw [h3 t (by omega), List.getElem?_set, if_neg (by omega)]
end Go.Proofs.YtdjdleldocfpaaaGreatDoor.F
end

section
namespace Go.Proofs.YtdjdleldocfpaaaGreatDoor.F
open Go.RowKit Go.Proofs.YtdjdleldocfpaaaGreatDoorW.PrintWords Go.Proofs.YtdjdleldocfpaaaGreatDoorW.PrintLast Go.Proofs.YtdjdleldocfpaaaGreatDoorW.PrintMore
set_option linter.unusedVariables false
set_option linter.unusedSimpArgs false
def spec_l01In.f (a0 : Int) (a1 : Int) (a2 : Int) : Option (Bool) := if a0 ≥ a1 then (some (decide (a0 ≤ a2))) else (some false)
def spec_GridOk.f (a0_0 : Int) (a0_1 : Int) : Option (Bool) := (spec_l01In.f a0_0 1 4).bind fun t107 => (if t107 = true then ((spec_l01In.f a0_1 1 4).bind fun t108 => (some t108)) else (some false))
def spec_l02East.f (a0_0 : Int) (a0_1 : Int) : Option (Int) := some (wrap64 (a0_1 * (wrap64 (a0_0 - 1))))
def spec_CountGaps.f (a0_0 : Int) (a0_1 : Int) : Option (Int) := (spec_GridOk.f a0_0 a0_1).bind fun t111 => (if t111 = true then ((spec_l02East.f a0_0 a0_1).bind fun t112 => (some (wrap64 (t112 + (wrap64 (a0_0 * (wrap64 (a0_1 - 1)))))))) else (some 0))
def spec_MazeOk.f (a0_0 : Int) (a0_1 : Int) (a0_2 : Int) : Option (Bool) := (spec_GridOk.f a0_0 a0_1).bind fun t114 => (if t114 = true then ((spec_CountGaps.f a0_0 a0_1).bind fun t115 => (if 0 ≤ t115 then ((spec_l01In.f a0_2 0 (wrap64 ((shl .i64 1 t115) - 1))).bind fun t116 => (some t116)) else (none))) else (some false))
def spec_HedgeOk.l0 : Nat → Int → Int → Int → Int → List Int → Int → Option (Bool)
  | 0, _, _, _, _, _, _ => none
  | k + 1, x3, x118000, x118001, x118002, x118003, x118004 => if x3 < (x118003.length : Int) then (if 0 ≤ x3 then ((spec_l01In.f (rd x118003 x3) 0 1000).bind fun t119 => (if t119 = true then (spec_HedgeOk.l0 k (wrap64 (x3 + 1)) x118000 x118001 x118002 x118003 x118004) else (some false))) else (none)) else ((spec_MazeOk.f x118000 x118001 x118002).bind fun t120 => (if t120 = true then ((spec_l01In.f x118004 1 20).bind fun t121 => (if t121 = true then ((spec_CountGaps.f x118000 x118001).bind fun t122 => (some ((x118003.length : Int) == t122))) else (some false))) else (some false)))
def spec_HedgeOk.f (k : Nat) (a0_0 : Int) (a0_1 : Int) (a0_2 : Int) (l0_3 : List Int) (a0_4 : Int) : Option (Bool) := spec_HedgeOk.l0 k 0 a0_0 a0_1 a0_2 l0_3 a0_4
def spec_l03Bit.f (a0 : Int) (a1 : Int) : Option (Bool) := if 0 ≤ a1 then (some ((Go.bits .and .i64 (shr .i64 a0 a1) 1) == 1)) else (none)
def spec_SetGap.j0 : Nat → Int → Bool → Bool → Int → Int → Int → Option (Int × Int × Int × Bool)
  | 0, _, _, _, _, _, _ => none
  | k + 1, x1, x2, x19, x124000, x124001, x124002 => if x19 = true then (some (x124000, x124001, x124002, false)) else ((spec_l03Bit.f x124002 x1).bind fun t128 => (if (t128 != x2) = true then (if 0 ≤ x1 then (some (x124000, x124001, Go.bits .xor .i64 x124002 (shl .i64 1 x1), true)) else (none)) else (some (x124000, x124001, x124002, true))))
def spec_SetGap.f (k : Nat) (a0_0 : Int) (a0_1 : Int) (a0_2 : Int) (a1 : Int) (a2 : Bool) : Option (Int × Int × Int × Bool) := (spec_MazeOk.f a0_0 a0_1 a0_2).bind fun t125 => (if t125 = true then ((spec_CountGaps.f a0_0 a0_1).bind fun t126 => ((spec_l01In.f a1 0 (wrap64 (t126 - 1))).bind fun t127 => (spec_SetGap.j0 k a1 a2 (!t127) a0_0 a0_1 a0_2))) else (spec_SetGap.j0 k a1 a2 true a0_0 a0_1 a0_2))
def spec_OpenNow.l0 : Nat → Int → Int → Int → Int → List Int → Int → Int → Int → Int → Option (Int × Int × Int)
  | 0, _, _, _, _, _, _, _, _, _ => none
  | k + 1, x4, x130000, x130001, x130002, x130003, x130004, x133000, x133001, x133002 => if x4 < (x130003.length : Int) then (if 0 ≤ x4 then (if (rd x130003 x4) ≥ x130004 then ((spec_SetGap.f k x133000 x133001 x133002 x4 false).bind fun bt134 => (spec_OpenNow.l0 k (wrap64 (x4 + 1)) x130000 x130001 x130002 x130003 x130004 bt134.1 bt134.2.1 bt134.2.2.1)) else (spec_OpenNow.l0 k (wrap64 (x4 + 1)) x130000 x130001 x130002 x130003 x130004 x133000 x133001 x133002)) else (none)) else (some (x133000, x133001, x133002))
def spec_OpenNow.f (k : Nat) (a0_0 : Int) (a0_1 : Int) (a0_2 : Int) (l0_3 : List Int) (a0_4 : Int) : Option (Int × Int × Int) := (spec_HedgeOk.f k a0_0 a0_1 a0_2 l0_3 a0_4).bind fun t131 => (if t131 = true then (spec_OpenNow.l0 k 0 a0_0 a0_1 a0_2 l0_3 a0_4 a0_0 a0_1 a0_2) else (some (0, 0, 0)))
def spec_CountCells.f (a0_0 : Int) (a0_1 : Int) : Option (Int) := (spec_GridOk.f a0_0 a0_1).bind fun t139 => (if t139 = true then (some (wrap64 (a0_0 * a0_1))) else (some 0))
def spec_l04Has.f (a0_0 : Int) (a0_1 : Int) (a0_2 : Int) (a1 : Int) : Option (Bool) := (spec_MazeOk.f a0_0 a0_1 a0_2).bind fun t141 => (if t141 = true then ((spec_CountCells.f a0_0 a0_1).bind fun t142 => ((spec_l01In.f a1 0 (wrap64 (t142 - 1))).bind fun t143 => (some t143))) else (some false))
def spec_l07In.l0 : Nat → List Int → Int → Int → Option (Bool)
  | 0, _, _, _ => none
  | k + 1, x0, x1, x5 => if x5 < (x0.length : Int) then (if 0 ≤ x5 then (if (rd x0 x5) = x1 then (some true) else (spec_l07In.l0 k x0 x1 (wrap64 (x5 + 1)))) else (none)) else (some false)
def spec_l07In.f (k : Nat) (l0 : List Int) (a1 : Int) : Option (Bool) := spec_l07In.l0 k l0 a1 0
def spec_CrowdOk.l0 : Nat → List Int → Int → Int → Int → Int → Option (Bool)
  | 0, _, _, _, _, _ => none
  | k + 1, x1, x5, x146000, x146001, x146002 => if x5 < (x1.length : Int) then (if 0 ≤ x5 then ((spec_l04Has.f x146000 x146001 x146002 (rd x1 x5)).bind fun t148 => (if t148 = true then (if x5 ≤ (x1.length : Int) then ((spec_l07In.f k (x1.take (x5 : Int).toNat) (rd x1 x5)).bind fun t151 => (if t151 = true then (some false) else (spec_CrowdOk.l0 k x1 (wrap64 (x5 + 1)) x146000 x146001 x146002))) else (none)) else (some false))) else (none)) else ((spec_MazeOk.f x146000 x146001 x146002).bind fun t146 => (if t146 = true then (some (decide ((x1.length : Int) ≤ 6))) else (some false)))
def spec_CrowdOk.f (k : Nat) (a0_0 : Int) (a0_1 : Int) (a0_2 : Int) (l1 : List Int) : Option (Bool) := spec_CrowdOk.l0 k l1 0 a0_0 a0_1 a0_2
def spec_IsPassage.f (a0_0 : Int) (a0_1 : Int) (a0_2 : Int) (a1 : Int) : Option (Bool) := (spec_MazeOk.f a0_0 a0_1 a0_2).bind fun t153 => (if t153 = true then ((spec_CountGaps.f a0_0 a0_1).bind fun t154 => ((spec_l01In.f a1 0 (wrap64 (t154 - 1))).bind fun t155 => (if t155 = true then ((spec_l03Bit.f a0_2 a1).bind fun t156 => (some t156)) else (some false)))) else (some false))
def spec_Neighbor.j0 : Nat → Int → Int → Int → Int → Option (Int)
  | 0, _, _, _, _ => none
  | k + 1, x7, x8, x158000, x158001 => (spec_l01In.f x7 0 (wrap64 (x158000 - 1))).bind fun t160 => (if t160 = true then ((spec_l01In.f x8 0 (wrap64 (x158001 - 1))).bind fun t161 => (if t161 = true then (some (wrap64 ((wrap64 (x8 * x158000)) + x7))) else (some (-1)))) else (some (-1)))
def spec_Neighbor.f (k : Nat) (a0_0 : Int) (a0_1 : Int) (a1 : Int) (a2 : Int) : Option (Int) := (spec_CountCells.f a0_0 a0_1).bind fun t158 => ((spec_l01In.f a1 0 (wrap64 (t158 - 1))).bind fun t159 => (if t159 = true then (if a0_0 = 0 then (none) else (if a2 = 0 then (spec_Neighbor.j0 k (Int.tmod a1 a0_0) (wrap64 ((wrap64 (Int.tdiv a1 a0_0)) - 1)) a0_0 a0_1) else (if a2 = 1 then (spec_Neighbor.j0 k (wrap64 ((Int.tmod a1 a0_0) + 1)) (wrap64 (Int.tdiv a1 a0_0)) a0_0 a0_1) else (if a2 = 2 then (spec_Neighbor.j0 k (Int.tmod a1 a0_0) (wrap64 ((wrap64 (Int.tdiv a1 a0_0)) + 1)) a0_0 a0_1) else (if a2 = 3 then (spec_Neighbor.j0 k (wrap64 ((Int.tmod a1 a0_0) - 1)) (wrap64 (Int.tdiv a1 a0_0)) a0_0 a0_1) else (some (-1))))))) else (some (-1))))
theorem spec_Neighbor.mono_l : ∀ k, (∀ y0 y1 y2 y3, LeO (spec_Neighbor.j0 k y0 y1 y2 y3) (spec_Neighbor.j0 (k + 1) y0 y1 y2 y3))
  | 0 => fun _ _ _ _ r h => by simp [spec_Neighbor.j0] at h
  | k + 1 => by
    have ih0 := spec_Neighbor.mono_l k
    · intro y0 y1 y2 y3
      unfold spec_Neighbor.j0
      repeat' first
      | (with_reducible exact ih0 _ _ _ _)
      | (with_reducible exact LeO.refl _)
      | (with_reducible exact LeO.none _)
      | (with_reducible refine LeO.ite ?_ ?_)
      | (with_reducible refine LeO.bind ?_ (fun _ => ?_))
      | exact ih0 _ _ _ _
      | exact LeO.none _
      | refine LeO.ite ?_ ?_
      | refine LeO.bind ?_ (fun _ => ?_)
theorem spec_Neighbor.mono : ∀ a0 a1 a2 a3 k, LeO (spec_Neighbor.f k a0 a1 a2 a3) (spec_Neighbor.f (k + 1) a0 a1 a2 a3) := by
  intro a0 a1 a2 a3 k
  have ih0 := spec_Neighbor.mono_l k
  unfold spec_Neighbor.f
  repeat' first
      | (with_reducible exact ih0 _ _ _ _)
      | (with_reducible exact LeO.refl _)
      | (with_reducible exact LeO.none _)
      | (with_reducible refine LeO.ite ?_ ?_)
      | (with_reducible refine LeO.bind ?_ (fun _ => ?_))
      | exact ih0 _ _ _ _
      | exact LeO.none _
      | refine LeO.ite ?_ ?_
      | refine LeO.bind ?_ (fun _ => ?_)
def spec_GapAt.f (k : Nat) (a0_0 : Int) (a0_1 : Int) (a1 : Int) (a2 : Int) : Option (Int) := (spec_Neighbor.f k a0_0 a0_1 a1 a2).bind fun t163 => (if t163 < 0 then (some (-1)) else (if a2 = 1 then (if a0_0 = 0 then (none) else (some (wrap64 ((wrap64 ((wrap64 (Int.tdiv (mn a1 t163) a0_0)) * (wrap64 (a0_0 - 1)))) + (Int.tmod (mn a1 t163) a0_0))))) else (if a2 = 3 then (if a0_0 = 0 then (none) else (some (wrap64 ((wrap64 ((wrap64 (Int.tdiv (mn a1 t163) a0_0)) * (wrap64 (a0_0 - 1)))) + (Int.tmod (mn a1 t163) a0_0))))) else ((spec_l02East.f a0_0 a0_1).bind fun t164 => (some (wrap64 (t164 + (mn a1 t163))))))))
theorem spec_GapAt.mono : ∀ a0 a1 a2 a3 k, LeO (spec_GapAt.f k a0 a1 a2 a3) (spec_GapAt.f (k + 1) a0 a1 a2 a3) := by
  intro a0 a1 a2 a3 k
  unfold spec_GapAt.f
  repeat' first
      | (with_reducible exact spec_Neighbor.mono _ _ _ _ _)
      | (with_reducible exact LeO.refl _)
      | (with_reducible exact LeO.none _)
      | (with_reducible refine LeO.ite ?_ ?_)
      | (with_reducible refine LeO.bind ?_ (fun _ => ?_))
      | exact spec_Neighbor.mono _ _ _ _ _
      | exact LeO.none _
      | refine LeO.ite ?_ ?_
      | refine LeO.bind ?_ (fun _ => ?_)
def spec_Step.f (k : Nat) (a0_0 : Int) (a0_1 : Int) (a0_2 : Int) (a1 : Int) (a2 : Int) : Option (Int) := (spec_MazeOk.f a0_0 a0_1 a0_2).bind fun t166 => (if t166 = true then ((spec_GapAt.f k a0_0 a0_1 a1 a2).bind fun t167 => ((spec_IsPassage.f a0_0 a0_1 a0_2 t167).bind fun t168 => (if t168 = true then ((spec_Neighbor.f k a0_0 a0_1 a1 a2).bind fun t169 => (some t169)) else (some (-1))))) else (some (-1)))
theorem spec_Step.mono : ∀ a0 a1 a2 a3 a4 k, LeO (spec_Step.f k a0 a1 a2 a3 a4) (spec_Step.f (k + 1) a0 a1 a2 a3 a4) := by
  intro a0 a1 a2 a3 a4 k
  unfold spec_Step.f
  repeat' first
      | (with_reducible exact spec_GapAt.mono _ _ _ _ _)
      | (with_reducible exact spec_Neighbor.mono _ _ _ _ _)
      | (with_reducible exact LeO.refl _)
      | (with_reducible exact LeO.none _)
      | (with_reducible refine LeO.ite ?_ ?_)
      | (with_reducible refine LeO.bind ?_ (fun _ => ?_))
      | exact spec_GapAt.mono _ _ _ _ _
      | exact spec_Neighbor.mono _ _ _ _ _
      | exact LeO.none _
      | refine LeO.ite ?_ ?_
      | refine LeO.bind ?_ (fun _ => ?_)
mutual
def spec_l04Distances.l0 : Nat → Int → List Int → Int → Int → Int → Int → Option (List Int)
  | 0, _, _, _, _, _, _ => none
  | k + 1, x1, x5, x6, x171000, x171001, x171002 => if x6 < (x5.length : Int) then (if 0 ≤ x6 then (spec_l04Distances.l0 k x1 (x5.set (x6 : Int).toNat (-1)) (wrap64 (x6 + 1)) x171000 x171001 x171002) else (none)) else (if 0 ≤ x1 then (if x1 < (x5.length : Int) then (spec_l04Distances.l1 k (x5.set (x1 : Int).toNat 0) (([x1] : List Int)) 0 x171000 x171001 x171002) else (none)) else (none))
def spec_l04Distances.l1 : Nat → List Int → List Int → Int → Int → Int → Int → Option (List Int)
  | 0, _, _, _, _, _, _ => none
  | k + 1, x5, x7, x8, x171000, x171001, x171002 => if x8 < (x7.length : Int) then (spec_l04Distances.l2 k x5 x7 x8 0 x171000 x171001 x171002) else (some x5)
def spec_l04Distances.l2 : Nat → List Int → List Int → Int → Int → Int → Int → Int → Option (List Int)
  | 0, _, _, _, _, _, _, _ => none
  | k + 1, x5, x7, x8, x9, x171000, x171001, x171002 => if x9 ≤ 3 then (if 0 ≤ x8 then (if x8 < (x7.length : Int) then ((spec_Step.f k x171000 x171001 x171002 (rd x7 x8) x9).bind fun t181 => (if t181 ≥ 0 then (if 0 ≤ t181 then (if t181 < (x5.length : Int) then (if (rd x5 t181) < 0 then (if 0 ≤ (rd x7 x8) then (if (rd x7 x8) < (x5.length : Int) then (if x7.length < 17592186044416 then (spec_l04Distances.l2 k (x5.set (t181 : Int).toNat (wrap64 ((rd x5 (rd x7 x8)) + 1))) (x7 ++ [t181]) x8 (wrap64 (x9 + 1)) x171000 x171001 x171002) else (none)) else (none)) else (none)) else (spec_l04Distances.l2 k x5 x7 x8 (wrap64 (x9 + 1)) x171000 x171001 x171002)) else (none)) else (none)) else (spec_l04Distances.l2 k x5 x7 x8 (wrap64 (x9 + 1)) x171000 x171001 x171002))) else (none)) else (none)) else (spec_l04Distances.l1 k x5 x7 (wrap64 (x8 + 1)) x171000 x171001 x171002)
end
def spec_l04Distances.f (k : Nat) (a0_0 : Int) (a0_1 : Int) (a0_2 : Int) (a1 : Int) : Option (List Int) := (spec_CountCells.f a0_0 a0_1).bind fun t171 => (if 0 ≤ t171 then (if (t171 : Int).toNat ≤ 35184372088832 then (spec_l04Distances.l0 k a1 (List.replicate (t171 : Int).toNat 0) 0 a0_0 a0_1 a0_2) else (none)) else (none))
theorem spec_l04Distances.mono_l : ∀ k, (∀ y0 y1 y2 y3 y4 y5, LeO (spec_l04Distances.l0 k y0 y1 y2 y3 y4 y5) (spec_l04Distances.l0 (k + 1) y0 y1 y2 y3 y4 y5)) ∧ (∀ y0 y1 y2 y3 y4 y5, LeO (spec_l04Distances.l1 k y0 y1 y2 y3 y4 y5) (spec_l04Distances.l1 (k + 1) y0 y1 y2 y3 y4 y5)) ∧ (∀ y0 y1 y2 y3 y4 y5 y6, LeO (spec_l04Distances.l2 k y0 y1 y2 y3 y4 y5 y6) (spec_l04Distances.l2 (k + 1) y0 y1 y2 y3 y4 y5 y6))
  | 0 => ⟨fun _ _ _ _ _ _ r h => by simp [spec_l04Distances.l0] at h, fun _ _ _ _ _ _ r h => by simp [spec_l04Distances.l1] at h, fun _ _ _ _ _ _ _ r h => by simp [spec_l04Distances.l2] at h⟩
  | k + 1 => by
    obtain ⟨ih0, ih1, ih2⟩ := spec_l04Distances.mono_l k
    refine ⟨?_, ?_, ?_⟩
    · intro y0 y1 y2 y3 y4 y5
      unfold spec_l04Distances.l0
      repeat' first
      | (with_reducible exact ih0 _ _ _ _ _ _)
      | (with_reducible exact ih1 _ _ _ _ _ _)
      | (with_reducible exact ih2 _ _ _ _ _ _ _)
      | (with_reducible exact spec_Step.mono _ _ _ _ _ _)
      | (with_reducible exact LeO.refl _)
      | (with_reducible exact LeO.none _)
      | (with_reducible refine LeO.ite ?_ ?_)
      | (with_reducible refine LeO.bind ?_ (fun _ => ?_))
      | exact ih0 _ _ _ _ _ _
      | exact ih1 _ _ _ _ _ _
      | exact ih2 _ _ _ _ _ _ _
      | exact spec_Step.mono _ _ _ _ _ _
      | exact LeO.none _
      | refine LeO.ite ?_ ?_
      | refine LeO.bind ?_ (fun _ => ?_)
    · intro y0 y1 y2 y3 y4 y5
      unfold spec_l04Distances.l1
      repeat' first
      | (with_reducible exact ih0 _ _ _ _ _ _)
      | (with_reducible exact ih1 _ _ _ _ _ _)
      | (with_reducible exact ih2 _ _ _ _ _ _ _)
      | (with_reducible exact spec_Step.mono _ _ _ _ _ _)
      | (with_reducible exact LeO.refl _)
      | (with_reducible exact LeO.none _)
      | (with_reducible refine LeO.ite ?_ ?_)
      | (with_reducible refine LeO.bind ?_ (fun _ => ?_))
      | exact ih0 _ _ _ _ _ _
      | exact ih1 _ _ _ _ _ _
      | exact ih2 _ _ _ _ _ _ _
      | exact spec_Step.mono _ _ _ _ _ _
      | exact LeO.none _
      | refine LeO.ite ?_ ?_
      | refine LeO.bind ?_ (fun _ => ?_)
    · intro y0 y1 y2 y3 y4 y5 y6
      unfold spec_l04Distances.l2
      repeat' first
      | (with_reducible exact ih0 _ _ _ _ _ _)
      | (with_reducible exact ih1 _ _ _ _ _ _)
      | (with_reducible exact ih2 _ _ _ _ _ _ _)
      | (with_reducible exact spec_Step.mono _ _ _ _ _ _)
      | (with_reducible exact LeO.refl _)
      | (with_reducible exact LeO.none _)
      | (with_reducible refine LeO.ite ?_ ?_)
      | (with_reducible refine LeO.bind ?_ (fun _ => ?_))
      | exact ih0 _ _ _ _ _ _
      | exact ih1 _ _ _ _ _ _
      | exact ih2 _ _ _ _ _ _ _
      | exact spec_Step.mono _ _ _ _ _ _
      | exact LeO.none _
      | refine LeO.ite ?_ ?_
      | refine LeO.bind ?_ (fun _ => ?_)
theorem spec_l04Distances.mono : ∀ a0 a1 a2 a3 k, LeO (spec_l04Distances.f k a0 a1 a2 a3) (spec_l04Distances.f (k + 1) a0 a1 a2 a3) := by
  intro a0 a1 a2 a3 k
  obtain ⟨ih0, ih1, ih2⟩ := spec_l04Distances.mono_l k
  unfold spec_l04Distances.f
  repeat' first
      | (with_reducible exact ih0 _ _ _ _ _ _)
      | (with_reducible exact ih1 _ _ _ _ _ _)
      | (with_reducible exact ih2 _ _ _ _ _ _ _)
      | (with_reducible exact spec_Step.mono _ _ _ _ _ _)
      | (with_reducible exact LeO.refl _)
      | (with_reducible exact LeO.none _)
      | (with_reducible refine LeO.ite ?_ ?_)
      | (with_reducible refine LeO.bind ?_ (fun _ => ?_))
      | exact ih0 _ _ _ _ _ _
      | exact ih1 _ _ _ _ _ _
      | exact ih2 _ _ _ _ _ _ _
      | exact spec_Step.mono _ _ _ _ _ _
      | exact LeO.none _
      | refine LeO.ite ?_ ?_
      | refine LeO.bind ?_ (fun _ => ?_)
def spec_Reached.l0 : Nat → List Int → List Int → Int → Option (List Int)
  | 0, _, _, _ => none
  | k + 1, x5, x6, x7 => if x7 < (x6.length : Int) then (if 0 ≤ x7 then (if (rd x6 x7) ≥ 0 then (if x5.length < 17592186044416 then (spec_Reached.l0 k (x5 ++ [x7]) x6 (wrap64 (x7 + 1))) else (none)) else (spec_Reached.l0 k x5 x6 (wrap64 (x7 + 1)))) else (none)) else (some x5)
def spec_Reached.f (k : Nat) (a0_0 : Int) (a0_1 : Int) (a0_2 : Int) (a1 : Int) : Option (List Int) := (some (([] : List Int) : List Int)).bind fun y190 => ((spec_l04Has.f a0_0 a0_1 a0_2 a1).bind fun t193 => (if t193 = true then ((spec_l04Distances.f k a0_0 a0_1 a0_2 a1).bind fun t194 => (spec_Reached.l0 k y190 t194 0)) else (some y190)))
theorem spec_Reached.mono_l : ∀ k, (∀ y0 y1 y2, LeO (spec_Reached.l0 k y0 y1 y2) (spec_Reached.l0 (k + 1) y0 y1 y2))
  | 0 => fun _ _ _ r h => by simp [spec_Reached.l0] at h
  | k + 1 => by
    have ih0 := spec_Reached.mono_l k
    · intro y0 y1 y2
      unfold spec_Reached.l0
      repeat' first
      | (with_reducible exact ih0 _ _ _)
      | (with_reducible exact spec_l04Distances.mono _ _ _ _ _)
      | (with_reducible exact LeO.refl _)
      | (with_reducible exact LeO.none _)
      | (with_reducible refine LeO.ite ?_ ?_)
      | (with_reducible refine LeO.bind ?_ (fun _ => ?_))
      | exact ih0 _ _ _
      | exact spec_l04Distances.mono _ _ _ _ _
      | exact LeO.none _
      | refine LeO.ite ?_ ?_
      | refine LeO.bind ?_ (fun _ => ?_)
theorem spec_Reached.mono : ∀ a0 a1 a2 a3 k, LeO (spec_Reached.f k a0 a1 a2 a3) (spec_Reached.f (k + 1) a0 a1 a2 a3) := by
  intro a0 a1 a2 a3 k
  have ih0 := spec_Reached.mono_l k
  unfold spec_Reached.f
  repeat' first
      | (with_reducible exact ih0 _ _ _)
      | (with_reducible exact spec_l04Distances.mono _ _ _ _ _)
      | (with_reducible exact LeO.refl _)
      | (with_reducible exact LeO.none _)
      | (with_reducible refine LeO.ite ?_ ?_)
      | (with_reducible refine LeO.bind ?_ (fun _ => ?_))
      | exact ih0 _ _ _
      | exact spec_l04Distances.mono _ _ _ _ _
      | exact LeO.none _
      | refine LeO.ite ?_ ?_
      | refine LeO.bind ?_ (fun _ => ?_)
mutual
def spec_CountParts.l0 : Nat → Int → Int → Int → Int → Int → Option (Int)
  | 0, _, _, _, _, _ => none
  | k + 1, x3, x4, x202000, x202001, x202002 => (spec_CountCells.f x202000 x202001).bind fun t202 => (if x4 < t202 then ((spec_MazeOk.f x202000 x202001 x202002).bind fun t203 => (spec_CountParts.j1 k x3 x4 t203 x202000 x202001 x202002)) else (spec_CountParts.j1 k x3 x4 false x202000 x202001 x202002))
def spec_CountParts.j1 : Nat → Int → Int → Bool → Int → Int → Int → Option (Int)
  | 0, _, _, _, _, _, _ => none
  | k + 1, x3, x4, x13, x202000, x202001, x202002 => if x13 = true then ((spec_Reached.f k x202000 x202001 x202002 x4).bind fun t204 => (if 0 < (t204.length : Int) then (if (rd t204 0) = x4 then (spec_CountParts.l0 k (wrap64 (x3 + 1)) (wrap64 (x4 + 1)) x202000 x202001 x202002) else (spec_CountParts.l0 k x3 (wrap64 (x4 + 1)) x202000 x202001 x202002)) else (none))) else (some x3)
end
def spec_CountParts.f (k : Nat) (a0_0 : Int) (a0_1 : Int) (a0_2 : Int) : Option (Int) := spec_CountParts.l0 k 0 0 a0_0 a0_1 a0_2
theorem spec_CountParts.mono_l : ∀ k, (∀ y0 y1 y2 y3 y4, LeO (spec_CountParts.l0 k y0 y1 y2 y3 y4) (spec_CountParts.l0 (k + 1) y0 y1 y2 y3 y4)) ∧ (∀ y0 y1 y2 y3 y4 y5, LeO (spec_CountParts.j1 k y0 y1 y2 y3 y4 y5) (spec_CountParts.j1 (k + 1) y0 y1 y2 y3 y4 y5))
  | 0 => ⟨fun _ _ _ _ _ r h => by simp [spec_CountParts.l0] at h, fun _ _ _ _ _ _ r h => by simp [spec_CountParts.j1] at h⟩
  | k + 1 => by
    obtain ⟨ih0, ih1⟩ := spec_CountParts.mono_l k
    refine ⟨?_, ?_⟩
    · intro y0 y1 y2 y3 y4
      unfold spec_CountParts.l0
      repeat' first
      | (with_reducible exact ih0 _ _ _ _ _)
      | (with_reducible exact ih1 _ _ _ _ _ _)
      | (with_reducible exact spec_Reached.mono _ _ _ _ _)
      | (with_reducible exact LeO.refl _)
      | (with_reducible exact LeO.none _)
      | (with_reducible refine LeO.ite ?_ ?_)
      | (with_reducible refine LeO.bind ?_ (fun _ => ?_))
      | exact ih0 _ _ _ _ _
      | exact ih1 _ _ _ _ _ _
      | exact spec_Reached.mono _ _ _ _ _
      | exact LeO.none _
      | refine LeO.ite ?_ ?_
      | refine LeO.bind ?_ (fun _ => ?_)
    · intro y0 y1 y2 y3 y4 y5
      unfold spec_CountParts.j1
      repeat' first
      | (with_reducible exact ih0 _ _ _ _ _)
      | (with_reducible exact ih1 _ _ _ _ _ _)
      | (with_reducible exact spec_Reached.mono _ _ _ _ _)
      | (with_reducible exact LeO.refl _)
      | (with_reducible exact LeO.none _)
      | (with_reducible refine LeO.ite ?_ ?_)
      | (with_reducible refine LeO.bind ?_ (fun _ => ?_))
      | exact ih0 _ _ _ _ _
      | exact ih1 _ _ _ _ _ _
      | exact spec_Reached.mono _ _ _ _ _
      | exact LeO.none _
      | refine LeO.ite ?_ ?_
      | refine LeO.bind ?_ (fun _ => ?_)
theorem spec_CountParts.mono : ∀ a0 a1 a2 k, LeO (spec_CountParts.f k a0 a1 a2) (spec_CountParts.f (k + 1) a0 a1 a2) := by
  intro a0 a1 a2 k
  obtain ⟨ih0, ih1⟩ := spec_CountParts.mono_l k
  unfold spec_CountParts.f
  repeat' first
      | (with_reducible exact ih0 _ _ _ _ _)
      | (with_reducible exact ih1 _ _ _ _ _ _)
      | (with_reducible exact spec_Reached.mono _ _ _ _ _)
      | (with_reducible exact LeO.refl _)
      | (with_reducible exact LeO.none _)
      | (with_reducible refine LeO.ite ?_ ?_)
      | (with_reducible refine LeO.bind ?_ (fun _ => ?_))
      | exact ih0 _ _ _ _ _
      | exact ih1 _ _ _ _ _ _
      | exact spec_Reached.mono _ _ _ _ _
      | exact LeO.none _
      | refine LeO.ite ?_ ?_
      | refine LeO.bind ?_ (fun _ => ?_)
def spec_IsConnected.f (k : Nat) (a0_0 : Int) (a0_1 : Int) (a0_2 : Int) : Option (Bool) := (spec_CountParts.f k a0_0 a0_1 a0_2).bind fun t209 => (some (t209 == 1))
def spec_GardenOk.f (k : Nat) (a0_0 : Int) (a0_1 : Int) (a0_2 : Int) (l0_3 : List Int) (a0_4 : Int) (a0_5 : Int) (l0_6 : List Int) (a0_7 : Int) : Option (Bool) := (spec_HedgeOk.f k a0_0 a0_1 a0_2 l0_3 a0_4).bind fun t211 => (if t211 = true then ((spec_l04Has.f a0_0 a0_1 a0_2 a0_5).bind fun t212 => (if t212 = true then ((spec_CrowdOk.f k a0_0 a0_1 a0_2 l0_6).bind fun t213 => (if t213 = true then ((spec_l01In.f a0_7 0 10000).bind fun t214 => (if t214 = true then ((spec_OpenNow.f k a0_0 a0_1 a0_2 l0_3 a0_4).bind fun bt215 => ((spec_IsConnected.f k bt215.1 bt215.2.1 bt215.2.2).bind fun t218 => (some t218))) else (some false))) else (some false))) else (some false))) else (some false))
def impl_GridOk.f (a0_0 : Int) (a0_1 : Int) : Option (Bool) := if a0_0 ≥ 1 then (if a0_0 ≤ 4 then (if a0_1 ≥ 1 then (some (decide (a0_1 ≤ 4))) else (some false)) else (some false)) else (some false)
def impl_CountGaps.f (a0_0 : Int) (a0_1 : Int) : Option (Int) := (impl_GridOk.f a0_0 a0_1).bind fun t302 => (if t302 = true then (some (wrap64 ((wrap64 ((wrap64 (a0_0 - 1)) * a0_1)) + (wrap64 (a0_0 * (wrap64 (a0_1 - 1))))))) else (some 0))
def impl_MazeOk.f (a0_0 : Int) (a0_1 : Int) (a0_2 : Int) : Option (Bool) := (impl_GridOk.f a0_0 a0_1).bind fun t304 => (if t304 = true then (if a0_2 ≥ 0 then ((impl_CountGaps.f a0_0 a0_1).bind fun t305 => (if 0 ≤ t305 then (some (decide (a0_2 < (shl .i64 1 t305)))) else (none))) else (some false)) else (some false))
def math_bits_Mul64.f (a0 : Int) (a1 : Int) : Option (Int × Int) := some (IntKind.u64.wrap ((IntKind.u64.wrap ((IntKind.u64.wrap ((a0 / 4294967296) * (a1 / 4294967296))) + ((IntKind.u64.wrap ((IntKind.u64.wrap ((a0 / 4294967296) * (Go.bits .and .u64 a1 4294967295))) + ((IntKind.u64.wrap ((Go.bits .and .u64 a0 4294967295) * (Go.bits .and .u64 a1 4294967295))) / 4294967296))) / 4294967296))) + ((IntKind.u64.wrap ((Go.bits .and .u64 (IntKind.u64.wrap ((IntKind.u64.wrap ((a0 / 4294967296) * (Go.bits .and .u64 a1 4294967295))) + ((IntKind.u64.wrap ((Go.bits .and .u64 a0 4294967295) * (Go.bits .and .u64 a1 4294967295))) / 4294967296))) 4294967295) + (IntKind.u64.wrap ((Go.bits .and .u64 a0 4294967295) * (a1 / 4294967296))))) / 4294967296)), IntKind.u64.wrap (a0 * a1))
def math_bits_Mul.f (a0 : Int) (a1 : Int) : Option (Int × Int) := (math_bits_Mul64.f a0 a1).bind fun bt306 => (some (bt306.1, bt306.2))
def slices_Repeat_byte.f (l0 : List Int) (a1 : Int) : Option (List Int) := if l0.length = 1 ∧ 1 ≤ a1 ∧ a1 ≤ 4096 then some (List.replicate a1.toNat (rd l0 0)) else none
def impl_CountCells.f (a0_0 : Int) (a0_1 : Int) : Option (Int) := (impl_GridOk.f a0_0 a0_1).bind fun t309 => (if t309 = true then (some (wrap64 (a0_0 * a0_1))) else (some 0))
def impl_isOpen.f (a0_0 : Int) (a0_1 : Int) (a0_2 : Int) (a1 : Int) : Option (Bool) := if a1 ≥ 0 then (if 0 ≤ a1 then (some ((Go.bits .and .i64 (shr .i64 a0_2 a1) 1) == 1)) else (none)) else (some false)
def impl_isGap.f (a0_0 : Int) (a0_1 : Int) (a1 : Int) : Option (Bool) := if a1 ≥ 0 then ((impl_CountGaps.f a0_0 a0_1).bind fun t312 => (some (decide (a1 < t312)))) else (some false)
def impl_EndsOf.f (a0_0 : Int) (a0_1 : Int) (a1 : Int) : Option (Int × Int) := (impl_isGap.f a0_0 a0_1 a1).bind fun t314 => (if t314 = true then (if a1 ≥ (wrap64 ((wrap64 (a0_0 - 1)) * a0_1)) then (some (wrap64 (a1 - (wrap64 ((wrap64 (a0_0 - 1)) * a0_1))), wrap64 ((wrap64 (a1 - (wrap64 ((wrap64 (a0_0 - 1)) * a0_1)))) + a0_0))) else (if (wrap64 (a0_0 - 1)) = 0 then (none) else (some (wrap64 ((wrap64 ((wrap64 (Int.tdiv a1 (wrap64 (a0_0 - 1)))) * a0_0)) + (Int.tmod a1 (wrap64 (a0_0 - 1)))), wrap64 ((wrap64 ((wrap64 ((wrap64 (Int.tdiv a1 (wrap64 (a0_0 - 1)))) * a0_0)) + (Int.tmod a1 (wrap64 (a0_0 - 1))))) + 1))))) else (some ((-1), (-1))))
def impl_gapPlace.f (a0_0 : Int) (a0_1 : Int) (a1 : Int) : Option (Int × Int) := (impl_EndsOf.f a0_0 a0_1 a1).bind fun bt316 => (if a0_0 = 0 then (none) else (some (wrap64 ((wrap64 ((wrap64 (Int.tdiv bt316.1 a0_0)) + (wrap64 (Int.tdiv bt316.2 a0_0)))) + 1), wrap64 ((wrap64 ((Int.tmod bt316.1 a0_0) + (Int.tmod bt316.2 a0_0))) + 1))))
mutual
def impl_MazeLines.l0 : Nat → List (List Int) → Int → Int → Int → Int → Int → Option (List ByteArray)
  | 0, _, _, _, _, _, _ => none
  | k + 1, x3, x22, x23, x319000, x319001, x319002 => if x23 < x22 then ((slices_Repeat_byte.f (([35] : List Int)) (wrap64 ((wrap64 (2 * x319000)) + 1))).bind fun t326 => (if 0 ≤ x23 then (if x23 < (x3.length : Int) then (impl_MazeLines.l0 k (x3.set (x23 : Int).toNat t326) x22 (wrap64 (x23 + 1)) x319000 x319001 x319002) else (none)) else (none))) else (impl_MazeLines.l1 k x3 0 x319000 x319001 x319002)
def impl_MazeLines.l1 : Nat → List (List Int) → Int → Int → Int → Int → Option (List ByteArray)
  | 0, _, _, _, _, _ => none
  | k + 1, x3, x5, x319000, x319001, x319002 => (impl_CountCells.f x319000 x319001).bind fun t330 => (if x5 < t330 then (if x319000 = 0 then (none) else (if 0 ≤ (wrap64 ((wrap64 (2 * (wrap64 (Int.tdiv x5 x319000)))) + 1)) then (if (wrap64 ((wrap64 (2 * (wrap64 (Int.tdiv x5 x319000)))) + 1)) < (x3.length : Int) then (if 0 ≤ (wrap64 ((wrap64 (2 * (Int.tmod x5 x319000))) + 1)) then (if (wrap64 ((wrap64 (2 * (Int.tmod x5 x319000))) + 1)) < ((rd_LU8 x3 (wrap64 ((wrap64 (2 * (wrap64 (Int.tdiv x5 x319000)))) + 1))).length : Int) then (impl_MazeLines.l1 k (x3.set ((wrap64 ((wrap64 (2 * (wrap64 (Int.tdiv x5 x319000)))) + 1)) : Int).toNat ((rd_LU8 x3 (wrap64 ((wrap64 (2 * (wrap64 (Int.tdiv x5 x319000)))) + 1))).set ((wrap64 ((wrap64 (2 * (Int.tmod x5 x319000))) + 1)) : Int).toNat 32)) (wrap64 (x5 + 1)) x319000 x319001 x319002) else (none)) else (none)) else (none)) else (none))) else (impl_MazeLines.l2 k x3 0 x319000 x319001 x319002))
def impl_MazeLines.l2 : Nat → List (List Int) → Int → Int → Int → Int → Option (List ByteArray)
  | 0, _, _, _, _, _ => none
  | k + 1, x3, x6, x319000, x319001, x319002 => (impl_CountGaps.f x319000 x319001).bind fun t335 => (if x6 < t335 then ((impl_isOpen.f x319000 x319001 x319002 x6).bind fun t336 => (if t336 = true then ((impl_gapPlace.f x319000 x319001 x6).bind fun bt337 => (if 0 ≤ bt337.1 then (if bt337.1 < (x3.length : Int) then (if 0 ≤ bt337.2 then (if bt337.2 < ((rd_LU8 x3 bt337.1).length : Int) then (impl_MazeLines.l2 k (x3.set (bt337.1 : Int).toNat ((rd_LU8 x3 bt337.1).set (bt337.2 : Int).toNat 32)) (wrap64 (x6 + 1)) x319000 x319001 x319002) else (none)) else (none)) else (none)) else (none))) else (impl_MazeLines.l2 k x3 (wrap64 (x6 + 1)) x319000 x319001 x319002))) else (impl_MazeLines.l3 k ([] : List ByteArray) x3 (x3.length : Int) 0))
def impl_MazeLines.l3 : Nat → List ByteArray → List (List Int) → Int → Int → Option (List ByteArray)
  | 0, _, _, _, _ => none
  | k + 1, x9, x85, x86, x87 => if x87 < x86 then (if 0 ≤ x87 then (if x87 < (x85.length : Int) then (if x9.length < 8796093022208 then (impl_MazeLines.l3 k (x9 ++ [strOfNums (rd_LU8 x85 x87)]) x85 x86 (wrap64 (x87 + 1))) else (none)) else (none)) else (none)) else (some x9)
end
def impl_MazeLines.f (k : Nat) (a0_0 : Int) (a0_1 : Int) (a0_2 : Int) : Option (List ByteArray) := (impl_MazeOk.f a0_0 a0_1 a0_2).bind fun t319 => (if t319 = true then (if 0 ≤ (wrap64 ((wrap64 (2 * a0_1)) + 1)) then (if (wrap64 ((wrap64 (2 * a0_1)) + 1) : Int).toNat ≤ 11728124029610 then ((some (List.replicate (wrap64 ((wrap64 (2 * a0_1)) + 1) : Int).toNat [] : List (List Int))).bind fun y320 => (impl_MazeLines.l0 k y320 (y320.length : Int) 0 a0_0 a0_1 a0_2)) else (none)) else (none)) else (some ([] : List ByteArray)))
def impl_HedgeOk_1.f (a0 : Int) : Option (Bool) := if a0 < 0 then (some true) else (some (decide (a0 > 1000)))
def impl_HedgeOk.f (a0_0 : Int) (a0_1 : Int) (a0_2 : Int) (l0_3 : List Int) (a0_4 : Int) : Option (Bool) := (impl_MazeOk.f a0_0 a0_1 a0_2).bind fun t1 => (if t1 = true then (if a0_4 < 1 then (some false) else (if a0_4 > 20 then (some false) else ((impl_CountGaps.f a0_0 a0_1).bind fun t2 => (if (l0_3.length : Int) = t2 then ((slices_ContainsFunc_HedgeOk.f l0_3).bind fun t3 => (some (!t3))) else (some false))))) else (some false))
def impl_with.f (a0_0 : Int) (a0_1 : Int) (a0_2 : Int) (a1 : Int) (a2 : Bool) : Option (Int × Int × Int) := if 0 ≤ a1 then (if a2 = true then (some (a0_0, a0_1, Go.bits .or .i64 (Go.bits .andNot .i64 a0_2 (shl .i64 1 a1)) (shl .i64 1 a1))) else (some (a0_0, a0_1, Go.bits .andNot .i64 a0_2 (shl .i64 1 a1)))) else (none)
def impl_OpenNow.l0 : Nat → List Int → Int → Int → Int → Int → Int → List Int → Int → Int → Int → Int → Option (Int × Int × Int)
  | 0, _, _, _, _, _, _, _, _, _, _, _ => none
  | k + 1, x13, x14, x15, x351000, x351001, x351002, x351003, x351004, x354000, x354001, x354002 => if x15 < x14 then (if 0 ≤ x15 then (if x15 < (x13.length : Int) then (if (rd x13 x15) ≥ x351004 then ((impl_with.f x354000 x354001 x354002 x15 false).bind fun bt355 => (impl_OpenNow.l0 k x13 x14 (wrap64 (x15 + 1)) x351000 x351001 x351002 x351003 x351004 bt355.1 bt355.2.1 bt355.2.2)) else (impl_OpenNow.l0 k x13 x14 (wrap64 (x15 + 1)) x351000 x351001 x351002 x351003 x351004 x354000 x354001 x354002)) else (none)) else (none)) else (some (x354000, x354001, x354002))
def impl_OpenNow.f (k : Nat) (a0_0 : Int) (a0_1 : Int) (a0_2 : Int) (l0_3 : List Int) (a0_4 : Int) : Option (Int × Int × Int) := (impl_HedgeOk.f a0_0 a0_1 a0_2 l0_3 a0_4).bind fun t352 => (if t352 = true then (impl_OpenNow.l0 k l0_3 (l0_3.length : Int) 0 a0_0 a0_1 a0_2 l0_3 a0_4 a0_0 a0_1 a0_2) else (some (0, 0, 0)))
def strconv_Itoa.f (a0 : Int) : Option ByteArray := if 0 ≤ a0 ∧ a0 < 100 then some ⟨if a0.toNat < 10 then #[UInt8.ofNat (48 + a0.toNat)] else #[UInt8.ofNat (48 + a0.toNat / 10), UInt8.ofNat (48 + a0.toNat % 10)]⟩ else if -9223372036854775808 ≤ a0 ∧ a0 ≤ 9223372036854775807 then some ⟨(Go.Lib.itoa a0).toArray⟩ else none
def impl_FormatInt.f (a0 : Int) : Option (ByteArray) := (strconv_Itoa.f a0).bind fun t377 => (some t377)
def impl_isCell.f (a0_0 : Int) (a0_1 : Int) (a1 : Int) : Option (Bool) := if a1 ≥ 0 then ((impl_CountCells.f a0_0 a0_1).bind fun t379 => (some (decide (a1 < t379)))) else (some false)
def impl_isIn.f (a0_0 a0_1 a0_2 : Int) (l1 : List Int) : Option Bool := (impl_MazeOk.f a0_0 a0_1 a0_2).bind fun b => if b = true then (allO (fun x => impl_isCell.f a0_0 a0_1 x) l1) else some false
def slices_Clone_int.f (l0 : List Int) : Option (List Int) := if l0.length < 17592186044416 then some l0 else none
def impl_ordered.f (l0 : List Int) : Option (List Int) := if l0.length < 4611686018427387904 then some (Go.Lib.compact (l0.mergeSort fun x y => decide (x ≤ y))) else none
def impl_IsSimple.f (l0 : List Int) : Option (Bool) := (slices_Clone_int.f l0).bind fun t1 => ((impl_ordered.f t1).bind fun t2 => (some ((t2.length : Int) == (l0.length : Int))))
def impl_CrowdOk.f (a0_0 : Int) (a0_1 : Int) (a0_2 : Int) (l1 : List Int) : Option (Bool) := if (l1.length : Int) ≤ 6 then ((impl_isIn.f a0_0 a0_1 a0_2 l1).bind fun t515 => (if t515 = true then ((impl_IsSimple.f l1).bind fun t516 => (some t516)) else (some false))) else (some false)
mutual
def impl_Neighbor.j0 : Nat → Int → Int → Int → Int → Bool → Int → Int → Option (Int)
  | 0, _, _, _, _, _, _, _ => none
  | k + 1, x1, x2, x7, x8, x21, x518000, x518001 => if x21 = true then (some (wrap64 (x1 - x518000))) else (if x2 = 1 then (impl_Neighbor.j1 k x1 x2 x7 x8 (decide (x7 < (wrap64 (x518000 - 1)))) x518000 x518001) else (impl_Neighbor.j1 k x1 x2 x7 x8 false x518000 x518001))
def impl_Neighbor.j1 : Nat → Int → Int → Int → Int → Bool → Int → Int → Option (Int)
  | 0, _, _, _, _, _, _, _ => none
  | k + 1, x1, x2, x7, x8, x32, x518000, x518001 => if x32 = true then (some (wrap64 (x1 + 1))) else (if x2 = 2 then (impl_Neighbor.j2 k x1 x2 x7 (decide (x8 < (wrap64 (x518001 - 1)))) x518000 x518001) else (impl_Neighbor.j2 k x1 x2 x7 false x518000 x518001))
def impl_Neighbor.j2 : Nat → Int → Int → Int → Bool → Int → Int → Option (Int)
  | 0, _, _, _, _, _, _ => none
  | k + 1, x1, x2, x7, x44, x518000, x518001 => if x44 = true then (some (wrap64 (x1 + x518000))) else (if x2 = 3 then (if x7 > 0 then (some (wrap64 (x1 - 1))) else (some (-1))) else (some (-1)))
end
def impl_Neighbor.f (k : Nat) (a0_0 : Int) (a0_1 : Int) (a1 : Int) (a2 : Int) : Option (Int) := (impl_isCell.f a0_0 a0_1 a1).bind fun t518 => (if t518 = true then (if a0_0 = 0 then (none) else (if a2 = 0 then (impl_Neighbor.j0 k a1 a2 (Int.tmod a1 a0_0) (wrap64 (Int.tdiv a1 a0_0)) (decide ((wrap64 (Int.tdiv a1 a0_0)) > 0)) a0_0 a0_1) else (impl_Neighbor.j0 k a1 a2 (Int.tmod a1 a0_0) (wrap64 (Int.tdiv a1 a0_0)) false a0_0 a0_1))) else (some (-1)))
def impl_GapAt.f (k : Nat) (a0_0 : Int) (a0_1 : Int) (a1 : Int) (a2 : Int) : Option (Int) := (impl_Neighbor.f k a0_0 a0_1 a1 a2).bind fun t520 => (if t520 < 0 then (some (-1)) else (if a2 = 1 then (if a0_0 = 0 then (none) else (some (wrap64 ((wrap64 ((wrap64 (Int.tdiv (mn a1 t520) a0_0)) * (wrap64 (a0_0 - 1)))) + (Int.tmod (mn a1 t520) a0_0))))) else (if a2 = 3 then (if a0_0 = 0 then (none) else (some (wrap64 ((wrap64 ((wrap64 (Int.tdiv (mn a1 t520) a0_0)) * (wrap64 (a0_0 - 1)))) + (Int.tmod (mn a1 t520) a0_0))))) else (some (wrap64 ((wrap64 ((wrap64 (a0_0 - 1)) * a0_1)) + (mn a1 t520)))))))
def impl_Step.f (k : Nat) (a0_0 : Int) (a0_1 : Int) (a0_2 : Int) (a1 : Int) (a2 : Int) : Option (Int) := (impl_MazeOk.f a0_0 a0_1 a0_2).bind fun t522 => (if t522 = true then ((impl_GapAt.f k a0_0 a0_1 a1 a2).bind fun t523 => ((impl_isOpen.f a0_0 a0_1 a0_2 t523).bind fun t524 => (if t524 = true then ((impl_Neighbor.f k a0_0 a0_1 a1 a2).bind fun t525 => (some t525)) else (some (-1))))) else (some (-1)))
def impl_WaysFrom.l0 : Nat → Int → List Int → Int → Int → Int → Int → Option (List Int)
  | 0, _, _, _, _, _, _ => none
  | k + 1, x1, x5, x6, x527000, x527001, x527002 => if x6 ≤ 3 then ((impl_Step.f k x527000 x527001 x527002 x1 x6).bind fun t527 => (if t527 ≥ 0 then (if x5.length < 17592186044416 then (impl_WaysFrom.l0 k x1 (x5 ++ [x6]) (wrap64 (x6 + 1)) x527000 x527001 x527002) else (none)) else (impl_WaysFrom.l0 k x1 x5 (wrap64 (x6 + 1)) x527000 x527001 x527002))) else (some x5)
def impl_WaysFrom.f (k : Nat) (a0_0 : Int) (a0_1 : Int) (a0_2 : Int) (a1 : Int) : Option (List Int) := impl_WaysFrom.l0 k a1 ([] : List Int) 0 a0_0 a0_1 a0_2
def slices_Repeat_int.f (l0 : List Int) (a1 : Int) : Option (List Int) := if l0.length = 1 ∧ 1 ≤ a1 ∧ a1 ≤ 4096 then some (List.replicate a1.toNat (rd l0 0)) else none
mutual
def impl_distances.l0 : Nat → List Int → List Int → Int → Int → Int → Int → Option (List Int)
  | 0, _, _, _, _, _, _ => none
  | k + 1, x5, x6, x7, x532000, x532001, x532002 => if x7 < (x6.length : Int) then (if 0 ≤ x7 then ((impl_WaysFrom.f k x532000 x532001 x532002 (rd x6 x7)).bind fun t544 => (impl_distances.l1 k x5 x6 x7 t544 (t544.length : Int) 0 x532000 x532001 x532002)) else (none)) else (some x5)
def impl_distances.l1 : Nat → List Int → List Int → Int → List Int → Int → Int → Int → Int → Int → Option (List Int)
  | 0, _, _, _, _, _, _, _, _, _ => none
  | k + 1, x5, x6, x7, x32, x33, x34, x532000, x532001, x532002 => if x34 < x33 then (if 0 ≤ x34 then (if x34 < (x32.length : Int) then (if 0 ≤ x7 then (if x7 < (x6.length : Int) then ((impl_Step.f k x532000 x532001 x532002 (rd x6 x7) (rd x32 x34)).bind fun t549 => (if 0 ≤ t549 then (if t549 < (x5.length : Int) then (if (rd x5 t549) < 0 then (if 0 ≤ (rd x6 x7) then (if (rd x6 x7) < (x5.length : Int) then (if x6.length < 17592186044416 then (impl_distances.l1 k (x5.set (t549 : Int).toNat (wrap64 ((rd x5 (rd x6 x7)) + 1))) (x6 ++ [t549]) x7 x32 x33 (wrap64 (x34 + 1)) x532000 x532001 x532002) else (none)) else (none)) else (none)) else (impl_distances.l1 k x5 x6 x7 x32 x33 (wrap64 (x34 + 1)) x532000 x532001 x532002)) else (none)) else (none))) else (none)) else (none)) else (none)) else (none)) else (impl_distances.l0 k x5 x6 (wrap64 (x7 + 1)) x532000 x532001 x532002)
end
def impl_distances.f (k : Nat) (a0_0 : Int) (a0_1 : Int) (a0_2 : Int) (a1 : Int) : Option (List Int) := (impl_CountCells.f a0_0 a0_1).bind fun t535 => ((slices_Repeat_int.f (([(-1)] : List Int)) t535).bind fun t536 => (if 0 ≤ a1 then (if a1 < (t536.length : Int) then (impl_distances.l0 k (t536.set (a1 : Int).toNat 0) (([a1] : List Int)) 0 a0_0 a0_1 a0_2) else (none)) else (none)))
def impl_upTo.l0 : Nat → Int → List Int → Int → Option (List Int)
  | 0, _, _, _ => none
  | k + 1, x0, x3, x4 => if x4 < x0 then (if x3.length < 17592186044416 then (impl_upTo.l0 k x0 (x3 ++ [x4]) (wrap64 (x4 + 1))) else (none)) else (some x3)
def impl_upTo.f (k : Nat) (a0 : Int) : Option (List Int) := impl_upTo.l0 k a0 ([] : List Int) 0
def impl_Reached.f (a0_0 a0_1 a0_2 a1 : Int) : Option (List Int) := (impl_isIn.f a0_0 a0_1 a0_2 [a1]).bind fun b => if b = true then ((impl_distances.f 1000 a0_0 a0_1 a0_2 a1).bind fun far => if 0 < far.length then ((impl_upTo.f 1000 (far.length : Int)).bind fun u => if (u.all fun x => decide (0 ≤ x ∧ x < far.length)) = true ∧ 0 < u.length then some (u.filter fun c => !decide (rd far c < 0)) else none) else none) else some []
def impl_CountParts.l0 : Nat → Int → Int → Int → Int → Int → Option (Int)
  | 0, _, _, _, _, _ => none
  | k + 1, x3, x4, x561000, x561001, x561002 => (impl_isIn.f x561000 x561001 x561002 (([x4] : List Int))).bind fun t564 => (if t564 = true then ((impl_Reached.f x561000 x561001 x561002 x4).bind fun t565 => (if 0 < (t565.length : Int) then (if (rd t565 0) = x4 then (impl_CountParts.l0 k (wrap64 (x3 + 1)) (wrap64 (x4 + 1)) x561000 x561001 x561002) else (impl_CountParts.l0 k x3 (wrap64 (x4 + 1)) x561000 x561001 x561002)) else (none))) else (some x3))
def impl_CountParts.f (k : Nat) (a0_0 : Int) (a0_1 : Int) (a0_2 : Int) : Option (Int) := impl_CountParts.l0 k 0 0 a0_0 a0_1 a0_2
def impl_IsConnected.f (k : Nat) (a0_0 : Int) (a0_1 : Int) (a0_2 : Int) : Option (Bool) := (impl_CountParts.f k a0_0 a0_1 a0_2).bind fun t570 => (some (t570 == 1))
def impl_GardenOk.f (k : Nat) (a0_0 : Int) (a0_1 : Int) (a0_2 : Int) (l0_3 : List Int) (a0_4 : Int) (a0_5 : Int) (l0_6 : List Int) (a0_7 : Int) : Option (Bool) := (impl_HedgeOk.f a0_0 a0_1 a0_2 l0_3 a0_4).bind fun t573 => (if t573 = true then ((impl_isCell.f a0_0 a0_1 a0_5).bind fun t574 => (if t574 = true then ((impl_CrowdOk.f a0_0 a0_1 a0_2 l0_6).bind fun t575 => (if t575 = true then (if a0_7 ≥ 0 then (if a0_7 ≤ 10000 then ((impl_OpenNow.f k a0_0 a0_1 a0_2 l0_3 a0_4).bind fun bt576 => ((impl_IsConnected.f k bt576.1 bt576.2.1 bt576.2.2).bind fun t579 => (some t579))) else (some false)) else (some false)) else (some false))) else (some false))) else (some false))
def impl_FormatGarden.l0 : Nat → ByteArray → List Int → Int → Int → Int → Int → Int → List Int → Int → Int → List Int → Int → Option (List ByteArray)
  | 0, _, _, _, _, _, _, _, _, _, _, _, _ => none
  | k + 1, x3, x10, x11, x12, x581000, x581001, x581002, x581003, x581004, x581005, x581006, x581007 => if x12 < x11 then (if 0 ≤ x12 then (if x12 < (x10.length : Int) then ((impl_FormatInt.f (rd x10 x12)).bind fun t583 => (if 1 + t583.size ≤ 9223372036854775807 then (if x3.size + ((⟨#[32]⟩ : ByteArray) ++ t583).size ≤ 9223372036854775807 then (impl_FormatGarden.l0 k (x3 ++ ((⟨#[32]⟩ : ByteArray) ++ t583)) x10 x11 (wrap64 (x12 + 1)) x581000 x581001 x581002 x581003 x581004 x581005 x581006 x581007) else (none)) else (none))) else (none)) else (none)) else ((impl_OpenNow.f k x581000 x581001 x581002 x581003 x581004).bind fun bt584 => ((impl_MazeLines.f k bt584.1 bt584.2.1 bt584.2.2).bind fun t587 => ((impl_FormatInt.f x581005).bind fun t590 => (if 5 + t590.size ≤ 9223372036854775807 then ((impl_FormatInt.f x581007).bind fun t591 => (if 4 + t591.size ≤ 9223372036854775807 then ((some (([(⟨#[101, 120, 105, 116, 32]⟩ : ByteArray) ++ t590, (⟨#[100, 97, 121, 32]⟩ : ByteArray) ++ t591, x3] : List ByteArray) : List ByteArray)).bind fun y592 => (if t587.length + y592.length < 8796093022208 then (some (t587 ++ y592)) else (none))) else (none))) else (none)))))
def impl_FormatGarden.f (k : Nat) (a0_0 : Int) (a0_1 : Int) (a0_2 : Int) (l0_3 : List Int) (a0_4 : Int) (a0_5 : Int) (l0_6 : List Int) (a0_7 : Int) : Option (List ByteArray) := (impl_GardenOk.f k a0_0 a0_1 a0_2 l0_3 a0_4 a0_5 l0_6 a0_7).bind fun t581 => (if t581 = true then (impl_FormatGarden.l0 k (⟨#[118, 105, 115, 105, 116, 111, 114, 115]⟩ : ByteArray) l0_6 (l0_6.length : Int) 0 a0_0 a0_1 a0_2 l0_3 a0_4 a0_5 l0_6 a0_7) else (some ([] : List ByteArray)))
end Go.Proofs.YtdjdleldocfpaaaGreatDoor.F
end
