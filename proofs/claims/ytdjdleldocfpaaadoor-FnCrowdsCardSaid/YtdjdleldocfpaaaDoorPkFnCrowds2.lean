/- Packed by a program of the session (wip/tools/pack.py): what the claim's theorem reaches, of the texts that wip/ and the kit's printer lay. -/
import Derived.Test.YtdjdleldocfpaaaDoorPkFnCrowds1
import Derived.Laws.StructEq
import Derived.Lib.SlicesCompact
import Derived.Test.YtdjdleldocfpaaaDoorProg
import Derived.Below
import Derived.Deep.Draws
import Derived.Deep.AppendLies
import Derived.Maps.AppendAt
import Derived.OwnWalk
import Derived.Laws.BytesArg
import Derived.Laws.MakeOwn
import Derived.Laws.OwnMore
import Derived.Deep.OwnRows
import Derived.Tactics
import Derived.Lib.ConvBytes
import Derived.Laws.Slices
import Derived.WalkKit
import Derived.KernelRfl
import Derived.RowKit3
import Derived.Deep.LoopGhost
import Derived.Deep.QuietTactic
import Derived.BigQuiet
import Derived.WideLaws
import Derived.Deep.DeepCutAuto
import Derived.Deep.CutBlock
import Derived.Deep.RegionHeld3
import Derived.Laws.Rows
import Derived.Lib.AppendStr
import Derived.ArgAppend
import Derived.Laws.IdiomCopy
import Derived.OrdersHeld
import Derived.Laws.BitsLemmas
import Derived.RowKit
import Derived.WalkSpells
import Derived.LoopTactic
import Derived.Shelf.Abstract
import Derived.Laws.CopyOwn
import Derived.Lib.SliceRun
import Derived.Lib.ItoaNum
import Derived.Lib.AtoiAll
import Derived.Lib.Split
import Derived.StillTailTactics
import Derived.Shelf.Strconv.Itoa3
import Derived.Lib.AppendIntMem
import Derived.Lib.LaidTab
import Derived.ChangeBears2
section
namespace Go.Proofs.YtdjdleldocfpaaaDoorW.PrintWords
open Go.RowKit
section
variable {P : Program} {d : Nat} {xs ys : Array Value} {f : Field} {fs : List Field} {a b : Value} {r s : Bool} {w : World}
theorem eqf_last (hn : (f.name == "_") = false) (ha : (part f.type xs f.offset).run P w = .ok a w) (hb : (part f.type ys f.offset).run P w = .ok b w) (he : (Op.equalIn d f.type a b).run P w = .ok r w) : (Op.eqFields d xs ys [f]).run P w = .ok r w := by
  have hn' : f.name ≠ "_" := by simpa using hn
  simp only [Op.eqFields, if_pos hn', Sem.run_bind, ha, hb, he, Result.andThen_ok]
  cases r <;> simp
theorem eqf_cons (hn : (f.name == "_") = false) (ha : (part f.type xs f.offset).run P w = .ok a w) (hb : (part f.type ys f.offset).run P w = .ok b w) (he : (Op.equalIn d f.type a b).run P w = .ok r w) (hr : (Op.eqFields d xs ys fs).run P w = .ok s w) : (Op.eqFields d xs ys (f :: fs)).run P w = .ok (r && s) w := by
  have hn' : f.name ≠ "_" := by simpa using hn
  rw [Op.eqFields]
  simp only [if_pos hn', Sem.run_bind, ha, hb, he, Result.andThen_ok]
  cases r
  · simp
  · simpa using hr
theorem eqA_of {t : TypeId} {fs : Array Field} (hu : P.underlying t = some (.struct fs)) (hp : P.stoodInHeld t = false) (h : (Op.eqFields d xs ys fs.toList).run P w = .ok r w) : (Op.equalIn (d + 1) t (.agg xs) (.agg ys)).run P w = .ok r w := by
  have hf : P.fieldsOf t = fs := by simp [Program.fieldsOf, hu]
  rw [run_equalIn_struct (P := P) w d t xs ys (by rw [hf]; exact hu) hp, hf]
  exact h
end
end Go.Proofs.YtdjdleldocfpaaaDoorW.PrintWords
end

section
namespace Go.Proofs.YtdjdleldocfpaaaDoorW.PrintWords
open Go.RowKit
section
variable {P : Program} {ops : Array Oper} {rest : List Oper} {o : Oper} {a : Act} {Q : Exit → Act → World → Prop} {W : World}
theorem gate_guard (hw : Region.wanted o (yielded ops a.tmps) = true) (h : wpList P ops Q ({ o with guard := none } :: rest) a W) : wpList P ops Q (o :: rest) a W := by
  have h1 : Region.wanted { o with guard := none } (yielded ops a.tmps) = true := rfl
  unfold wpList at h ⊢
  rw [if_pos h1] at h
  rw [if_pos hw]
  exact h
end
end Go.Proofs.YtdjdleldocfpaaaDoorW.PrintWords
end

section
namespace Go.Proofs.YtdjdleldocfpaaaDoorW.PrintMore
open Go.RowKit Go.Proofs.YtdjdleldocfpaaaDoorW.PrintWords
namespace Kd
open Go.Proofs.YtdjdleldocfpaaaDoorW.PrintWords.Kd
end Kd
namespace Kd
open Go.Proofs.YtdjdleldocfpaaaDoorW.PrintWords.Kd
section
variable {α : Type} {d : Kd α} {e base g N : Nat} {ok : Nat → Prop} {W w1 : World} {u v : Value} {xs : List α}
end
end Kd
theorem max2_int (k k' : IntKind) (x y : Int) : Builtin.max2 (.int k x) (.int k' y) = pure (.int k (if x < y then y else x)) := by simp only [Builtin.max2, gt_iff_lt]
theorem min2_int (k k' : IntKind) (x y : Int) : Builtin.min2 (.int k x) (.int k' y) = pure (.int k (if y < x then y else x)) := by simp only [Builtin.min2]
theorem max_two (ats : Array TypeId) (ty : TypeId) (a b : Value) : Builtin.max_ ats ty #[a, b] = (Builtin.max2 a b >>= fun s => pure s) := by simp only [Builtin.max_, List.foldlM_cons, List.foldlM_nil]
theorem min_two (ats : Array TypeId) (ty : TypeId) (a b : Value) : Builtin.min_ ats ty #[a, b] = (Builtin.min2 a b >>= fun s => pure s) := by simp only [Builtin.min_, List.foldlM_cons, List.foldlM_nil]
end Go.Proofs.YtdjdleldocfpaaaDoorW.PrintMore
namespace Go.Proofs.YtdjdleldocfpaaaDoorW.PrintWords
open Go.RowKit
section
variable {P : Program} {ops : Array Oper} {rest : List Oper} {o : Oper} {a : Act} {Q : Exit → Act → World → Prop} {W : World}
theorem gate_callee {f : FuncId} {as1 : Array Operand} {ts : Array TypeId} (_ho : o.op = .call { callee := .value (.func f), args := as1, argTypes := ts }) (h : wpList P ops Q (o :: rest) a W) : wpList P ops Q (o :: rest) a W := h
theorem gate_builtin {b : Builtin} {xs : Array Operand} {ts : Array TypeId} (_ho : o.op = .call { callee := .builtin b, args := xs, argTypes := ts }) (h : wpList P ops Q (o :: rest) a W) : wpList P ops Q (o :: rest) a W := h
end
def mx (a b : Int) : Int := if a < b then b else a
def mn (a b : Int) : Int := if b < a then b else a
def shl (k : IntKind) (x y : Int) : Int := k.wrap (x * 2 ^ min y.toNat k.bits)
def shr (k : IntKind) (x y : Int) : Int := x / 2 ^ min y.toNat k.bits
theorem shl_small {k : IntKind} {x y j : Int} (h : shl k x y = j) (hy : y ≤ k.bits) : k.wrap (x * 2 ^ y.toNat) = j := by rw [← h]; unfold shl; rw [Nat.min_eq_left (by omega)]
theorem shr_small {k : IntKind} {x y j : Int} (h : shr k x y = j) (hy : y ≤ k.bits) : x / 2 ^ y.toNat = j := by rw [← h]; unfold shr; rw [Nat.min_eq_left (by omega)]
theorem drewN_self (w : World) (n : Nat) : w.drewN n = w.drewN n := rfl
namespace Kd
section
variable {α : Type} {d : Kd α} {e base : Nat} {ok : Nat → Prop} {W w1 : World} {v : Value} {xs : List α}
end
section
variable {α : Type} {d : Kd α} {e base g n cap : Nat} {ok oki okp : Nat → Prop} {W : World} {xs : List α} {i : Int} {c : List Value}
end
section
variable {α : Type} {d : Kd α} {e base b b' g N : Nat} {ok ok1 : Nat → Prop} {W W2 w1 : World} {u v : Value} {xs ys : List α} {S : Nat → Prop}
end
end Kd
end Go.Proofs.YtdjdleldocfpaaaDoorW.PrintWords
namespace Go.Proofs.YtdjdleldocfpaaaDoorW.PrintWords
open Go.RowKit
namespace Kd
def V {α : Type} (d : Kd α) (_e : Nat) (W : World) (_base : Nat) (ok : Nat → Prop) (v : Value) (xs : List α) : Prop := ∃ A c, v = .slice A xs.length c ∧ xs.length ≤ c ∧ F d W ok A xs.length xs
section
variable {α β : Type} {d : Kd α} {e base base' n m c g N' lo hi : Nat} {ok ok' S : Nat → Prop} {w W w1 : World} {A : Option Addr} {ad : Addr} {u v v1 : Value} {xs : List α}
end
end Kd
end Go.Proofs.YtdjdleldocfpaaaDoorW.PrintWords
end

section
namespace Go.Proofs.YtdjdleldocfpaaaDoor.F
open Go.RowKit Go.Proofs.YtdjdleldocfpaaaDoorW.PrintWords Go.Proofs.YtdjdleldocfpaaaDoorW.PrintLast Go.Proofs.YtdjdleldocfpaaaDoorW.PrintMore
set_option linter.unusedVariables false
set_option linter.unusedSimpArgs false
def idxF {α : Type} (p : α → Bool) (l : List α) : Int := match l.findIdx? p with
  | some i => (i : Int)
  | none => -1
theorem idxF_hit {α : Type} {z : α} (p : α → Bool) (l : List α) (k : Nat) (hlt : k < l.length) (h : p (l.getD k z) = true) (hm : ∀ j, j < k → p (l.getD j z) = false) : idxF p l = k := by
  unfold idxF
  have e : ∀ j (hj : j < l.length), l.getD j z = l[j] := fun j hj => by rw [List.getD_eq_getElem?_getD, List.getElem?_eq_getElem hj]; rfl
  have : l.findIdx? p = some k := by
    rw [List.findIdx?_eq_some_iff_getElem]
    refine ⟨hlt, by rw [← e k hlt]; exact h, fun j hj => ?_⟩
    rw [← e j (by omega), hm j hj]
    simp
  rw [this]
theorem idxF_miss {α : Type} {z : α} (p : α → Bool) (l : List α) (hm : ∀ j, j < l.length → p (l.getD j z) = false) : idxF p l = -1 := by
  unfold idxF
  have : l.findIdx? p = none := by
    rw [List.findIdx?_eq_none_iff]
    intro x hx
    obtain ⟨j, hj, rfl⟩ := List.getElem_of_mem hx
    have := hm j hj
    rwa [List.getD_eq_getElem?_getD, List.getElem?_eq_getElem hj] at this
  rw [this]
theorem idxF_any {α : Type} (p : α → Bool) (l : List α) : decide (0 ≤ idxF p l) = l.any p := by
  unfold idxF
  cases h : l.findIdx? p with
  | some i =>
    rw [List.findIdx?_eq_some_iff_getElem] at h
    obtain ⟨hi, hp, _⟩ := h
    have : l.any p = true := List.any_eq_true.2 ⟨l[i], List.getElem_mem hi, hp⟩
    rw [this]
    simp
  | none =>
    rw [List.findIdx?_eq_none_iff] at h
    have : l.any p = false := by
      rw [List.any_eq_false]
      intro x hx
      rw [h x hx]
      simp
    rw [this]
    simp
theorem rd_nat (l : List Int) (j : Nat) : rd l (j : Int) = l.getD j 0 := rfl
theorem rd_mem {l : List Int} {j : Nat} (h : j < l.length) : rd l (j : Int) ∈ l := by
  rw [rd_nat, List.getD_eq_getElem?_getD, List.getElem?_eq_getElem h]
  exact List.getElem_mem h
def allO {α : Type} (f : α → Option Bool) (l : List α) : Option Bool := (l.mapM f).bind fun bs => some (bs.all id)
theorem allO_some {α : Type} {f : α → Option Bool} : ∀ {l : List α} {r : Bool}, allO f l = some r → (∀ x ∈ l, ∃ v, f x = some v) ∧ r = !(l.any fun x => !((f x).getD false)) := by
  intro l
  unfold allO
  induction l with
  | nil => intro r h; simp at h; simp [h]
  | cons x l ih =>
    intro r h
    rw [List.mapM_cons] at h
    obtain ⟨bs, h1, h2⟩ := Option.bind_eq_some_iff.1 h
    obtain ⟨v, hv, h3⟩ := Option.bind_eq_some_iff.1 h1
    obtain ⟨vs, hvs, h4⟩ := Option.bind_eq_some_iff.1 h3
    simp at h4 h2
    subst h4
    obtain ⟨i1, i2⟩ := ih (r := vs.all id) (by rw [hvs]; rfl)
    refine ⟨fun y hy => ?_, ?_⟩
    · rcases List.mem_cons.1 hy with rfl | hy
      · exact ⟨v, hv⟩
      · exact i1 y hy
    · simp only [List.any_cons, hv, Option.getD_some, ← h2, List.all_cons, id]
      have i3 : (vs.all fun x => x) = vs.all id := rfl
      rw [Bool.not_or, Bool.not_not, ← i2]
theorem allO_of {α : Type} {f : α → Option Bool} {p : α → Bool} : ∀ {l : List α}, (∀ x ∈ l, f x = some (p x)) → allO f l = some (l.all p) := by
  intro l
  unfold allO
  induction l with
  | nil => intro _; rfl
  | cons x l ih =>
    intro h
    have i1 := ih (fun y hy => h y (List.mem_cons_of_mem _ hy))
    obtain ⟨vs, hvs, h4⟩ := Option.bind_eq_some_iff.1 i1
    rw [List.mapM_cons, h x (List.mem_cons_self ..), hvs]
    simp at h4
    simp [h4]
def cells16 : List Int := [0, 1, 2, 3, 4, 5, 6, 7, 8, 9, 10, 11, 12, 13, 14, 15]
end Go.Proofs.YtdjdleldocfpaaaDoor.F
end

section
namespace Go.Proofs.YtdjdleldocfpaaaDoor.F
open Go.RowKit Go.Proofs.YtdjdleldocfpaaaDoorW.PrintWords Go.Proofs.YtdjdleldocfpaaaDoorW.PrintLast Go.Proofs.YtdjdleldocfpaaaDoorW.PrintMore
set_option linter.unusedVariables false
set_option linter.unusedSimpArgs false
attribute [local go_sem] max2_int min2_int max_two min_two
def errW : Option Int → Value
  | none => .nilIface
  | some c => .iface 148 (.int .i64 c)
theorem errW_none : errW none = .nilIface := rfl
theorem errW_some (c : Int) : errW (some c) = .iface 148 (.int .i64 c) := rfl
theorem info3 : (Tryd.prog.info? 3).map (fun i => (i.zero, i.size, i.bytes)) = some (some (.int .i64 0), 1, 8) := by kernel_rfl
theorem info42 : (Tryd.prog.info? 42).map (fun i => (i.zero, i.size, i.bytes)) = some (some (.slice none 0 0), 1, 24) := by kernel_rfl
theorem eqA31 (d : Nat) (w : World) (x0 y0 : Int) (x1 y1 : Int) (x2 y2 : Int) :
    (Op.equalIn (d + 2) 31 (.agg #[.int .i64 x0, .int .i64 x1, .int .i64 x2]) (.agg #[.int .i64 y0, .int .i64 y1, .int .i64 y2])).run Tryd.prog w = .ok (x0 == y0 && (x1 == y1 && (x2 == y2))) w := by
  refine eqA_of Tryd.underlying31 (by kernel_rfl) ?_
  refine eqf_cons (by rfl) (by go_simp; rfl) (by go_simp; rfl) (by go_simp) ?_
  refine eqf_cons (by rfl) (by go_simp; rfl) (by go_simp; rfl) (by go_simp) ?_
  exact eqf_last (by rfl) (by go_simp; rfl) (by go_simp; rfl) (by go_simp)
end Go.Proofs.YtdjdleldocfpaaaDoor.F
end

section
namespace Go.Proofs.YtdjdleldocfpaaaDoor.F
open Go.RowKit Go.Proofs.YtdjdleldocfpaaaDoorW.PrintWords Go.Proofs.YtdjdleldocfpaaaDoorW.PrintLast Go.Proofs.YtdjdleldocfpaaaDoorW.PrintMore
set_option linter.unusedVariables false
set_option linter.unusedSimpArgs false
theorem row_open {w : World} {base : Nat} {v : Value} {xs : List Int} {e : Nat} (h : Kd.R (Kd.int .i64) e w base (fun _ => True) v xs) (hx : 0 < xs.length) :
    ∃ g cap cur, v = .slice (some ⟨g, 0, none⟩) xs.length cap ∧ xs.length ≤ cap ∧ base ≤ g ∧ w.heap[g]? = some (.cells (List.toArray cur) e (0, 0)) ∧ cur.length = cap ∧ cap ≤ maxLen ∧ ∀ j, j < xs.length → cur[j]? = some (.int .i64 (xs.getD j 0)) := by
  obtain ⟨_, h⟩ := Kd.own_of_R h
  rcases h with ⟨rfl, h0⟩ | ⟨g, cap, cur, rfl, hb, hh, hn, hc, hs, hl⟩
  · omega
  · refine ⟨g, cap, cur.toList, rfl, hn, hb, by simpa using hh, by simpa using hs, hc, fun j hj => ?_⟩
    have e1 := congrArg (fun l : List Value => l[j]?) hl
    simp only [List.getElem?_take, Nat.mul_one] at e1
    rw [if_pos hj] at e1
    rw [e1]
    simp [encs, List.getD_eq_getElem?_getD, List.getElem?_eq_getElem hj]
end Go.Proofs.YtdjdleldocfpaaaDoor.F
end

section
namespace Go.Proofs
def Tryd.laysIt_ren : Go.Shelf.Ren := ⟨fun | 171 => 73 | 243 => 105 | 246 => 127 | 283 => 138 | 284 => 139 | 285 => 140 | 286 => 141 | 129 => 152 | 317 => 156 | 318 => 157 | 319 => 158 | 320 => 159 | 337 => 168 | 338 => 169 | n => n, fun | 3 => 3 | 9 => 9 | 2 => 2 | 4 => 4 | 171 => 157 | 0 => 0 | 53 => 158 | 37 => 36 | 5 => 5 | 173 => 161 | 212 => 180 | 51 => 171 | 20 => 20 | 213 => 181 | 46 => 144 | 232 => 195 | 233 => 196 | n => n, fun | 17 => 2 | 18 => 3 | 19 => 4 | n => n⟩
theorem Tryd.laysIt : LaysM.n171 Tryd.prog Tryd.laysIt_ren := { mixed := by kernel_rfl, f129 := Tryd.func152.trans (congrArg some (by kernel_rfl)), f171 := Tryd.func73.trans (congrArg some (by kernel_rfl)), f243 := Tryd.func105.trans (congrArg some (by kernel_rfl)), f246 := Tryd.func127.trans (congrArg some (by kernel_rfl)), f283 := Tryd.func138.trans (congrArg some (by kernel_rfl)), f284 := Tryd.func139.trans (congrArg some (by kernel_rfl)), f285 := Tryd.func140.trans (congrArg some (by kernel_rfl)), f286 := Tryd.func141.trans (congrArg some (by kernel_rfl)), f317 := Tryd.func156.trans (congrArg some (by kernel_rfl)), f318 := Tryd.func157.trans (congrArg some (by kernel_rfl)), f319 := Tryd.func158.trans (congrArg some (by kernel_rfl)), f320 := Tryd.func159.trans (congrArg some (by kernel_rfl)), f337 := Tryd.func168.trans (congrArg some (by kernel_rfl)), f338 := Tryd.func169.trans (congrArg some (by kernel_rfl)), t0 := Tryd.underlying0, a0 := Tryd.isAgg0, z0 := Tryd.sizeOf0, v0 := Tryd.zeroValue0, t2 := Tryd.underlying2, a2 := Tryd.isAgg2, z2 := Tryd.sizeOf2, v2 := Tryd.zeroValue2, t3 := Tryd.underlying3, a3 := Tryd.isAgg3, z3 := Tryd.sizeOf3, v3 := Tryd.zeroValue3, t4 := Tryd.underlying4, a4 := Tryd.isAgg4, z4 := Tryd.sizeOf4, v4 := Tryd.zeroValue4, t5 := Tryd.underlying5, a5 := Tryd.isAgg5, z5 := Tryd.sizeOf5, v5 := Tryd.zeroValue5, t9 := Tryd.underlying9, a9 := Tryd.isAgg9, z9 := Tryd.sizeOf9, v9 := Tryd.zeroValue9, t20 := Tryd.underlying20, a20 := Tryd.isAgg20, z20 := Tryd.sizeOf20, v20 := Tryd.zeroValue20, t37 := Tryd.underlying36, a37 := Tryd.isAgg36, z37 := Tryd.sizeOf36, v37 := Tryd.zeroValue36, t46 := Tryd.underlying144, a46 := Tryd.isAgg144, z46 := Tryd.sizeOf144, v46 := Tryd.zeroValue144, t51 := Tryd.underlying171, a51 := Tryd.isAgg171, z51 := Tryd.sizeOf171, v51 := Tryd.zeroValue171, t53 := Tryd.underlying158, a53 := Tryd.isAgg158, z53 := Tryd.sizeOf158, v53 := Tryd.zeroValue158, t171 := Tryd.underlying157, a171 := Tryd.isAgg157, z171 := Tryd.sizeOf157, v171 := Tryd.zeroValue157, t173 := Tryd.underlying161, a173 := Tryd.isAgg161, z173 := Tryd.sizeOf161, v173 := Tryd.zeroValue161, t212 := Tryd.underlying180, a212 := Tryd.isAgg180, z212 := Tryd.sizeOf180, v212 := Tryd.zeroValue180, t213 := Tryd.underlying181, a213 := Tryd.isAgg181, z213 := Tryd.sizeOf181, t232 := Tryd.underlying195, a232 := Tryd.isAgg195, z232 := Tryd.sizeOf195, v232 := Tryd.zeroValue195, t233 := Tryd.underlying196, a233 := Tryd.isAgg196, z233 := Tryd.sizeOf196, v233 := Tryd.zeroValue196, g17 := by kernel_rfl, g18 := by kernel_rfl, g19 := by kernel_rfl, i0 := by kernel_rfl, i2 := by kernel_rfl, i3 := by kernel_rfl, i4 := by kernel_rfl, i5 := by kernel_rfl, i9 := by kernel_rfl, i20 := by kernel_rfl, i37 := by kernel_rfl, i46 := by kernel_rfl, i51 := by kernel_rfl, i53 := by kernel_rfl, i171 := by kernel_rfl, i173 := by kernel_rfl, i212 := by kernel_rfl, i232 := by kernel_rfl, i233 := by kernel_rfl, m17 := by kernel_rfl, m18 := by kernel_rfl, m19 := by kernel_rfl }
end Go.Proofs
end

section
namespace Go.Proofs.YtdjdleldocfpaaaDoor.F
open Go.RowKit Go.Proofs.YtdjdleldocfpaaaDoorW.PrintWords Go.Proofs.YtdjdleldocfpaaaDoorW.PrintLast Go.Proofs.YtdjdleldocfpaaaDoorW.PrintMore
set_option linter.unusedVariables false
theorem var_below {P : Program} {w w' : World} {n : String} {cs : Array Value} (h : Below w.heap.size w w') (hv : w.var? P n = some cs) : w'.var? P n = some cs := by
  unfold World.var? at hv ⊢
  obtain ⟨g, hg, hv⟩ := Option.bind_eq_some_iff.1 hv
  rw [hg, Option.bind_some]
  have hlt : g < w.heap.size := by
    cases e : w.heap[g]? with
    | none => rw [e] at hv; cases hv
    | some o => exact (Array.getElem?_eq_some_iff.1 e).1
  rw [h.block g hlt]
  exact hv
theorem laid_at {P : Program} {W : World} : ∀ {l : List (String × DataW Unit)} {ps : List MemPlace} {i : Nat} {n : String} {d : DataW Unit}, DataW.LaidVars P W l ps → l[i]? = some (n, d) →
    ∃ g t cs fuel p, P.globalNamed n = some g ∧ (P.globals[g]?).map (·.type) = some t ∧ W.var? P n = some cs ∧ DataW.trod (fun _ => ()) P W 0 (fun _ => true) false fuel t cs.toList = some (d, p)
  | [], _, _, _, _, _, h => by simp at h
  | (m, e) :: r, ps, 0, n, d, hv, h => by
    obtain ⟨rfl, rfl⟩ : m = n ∧ e = d := by simpa using h
    obtain ⟨g, t, cs, fuel, p, q, h1, h2, h3, h4, _, _⟩ := hv
    exact ⟨g, t, cs, fuel, p, h1, h2, h3, h4⟩
  | (m, e) :: r, ps, i + 1, n, d, hv, h => by
    obtain ⟨g, t, cs, fuel, p, q, _, _, _, _, h5, _⟩ := hv
    exact laid_at h5 (by simpa using h)
theorem laid_tab {P : Program} {W : World} {l : List (String × DataW Unit)} {i : Nat} {name : String} {k : IntKind} {zs : List Int} {d : DataW Unit} {g : Nat} {t e : TypeId} {n : Nat} (h : laidMet P l W) (hi : l[i]? = some (name, d)) (hd : d = Lib.tabData k zs)
    (hg : P.globalNamed name = some g) (hty : (P.globals[g]?).map (·.type) = some t) (ht : P.underlying t = some (.array n e)) (he : P.underlying e = some (.int k)) (hce : P.cellsOf e = 1) (hct : P.cellsOf t = n) : Lib.TabIs P W name k zs := by
  obtain ⟨ps, hv, _⟩ := h
  obtain ⟨g', t', cs, fuel, p, hg', ht', hvar, h1⟩ := laid_at hv hi
  obtain rfl := Option.some.inj (hg.symm.trans hg')
  obtain rfl := Option.some.inj (hty.symm.trans ht')
  rw [hd] at h1
  unfold Lib.TabIs
  rw [hvar, ← Lib.cells_of_tab ht he hce hct h1]
def Gl (w : World) : Prop := Lib.TabIs Tryd.prog w "internal/strconv.uint64pow10" .u64 Lib.pow10Tab
theorem Gl_below {w w' : World} (h : Below w.heap.size w w') (g : Gl w) : Gl w' := var_below h g
theorem Gl_tab {w : World} (g : Gl w) : Lib.TabIs Tryd.prog w "internal/strconv.uint64pow10" .u64 Lib.pow10Tab := g
end Go.Proofs.YtdjdleldocfpaaaDoor.F
end

section
namespace Go.Proofs.YtdjdleldocfpaaaDoor.F
open Go.RowKit Go.Proofs.YtdjdleldocfpaaaDoorW.PrintWords Go.Proofs.YtdjdleldocfpaaaDoorW.PrintLast Go.Proofs.YtdjdleldocfpaaaDoorW.PrintMore
set_option linter.unusedVariables false
set_option linter.unusedSimpArgs false
inductive AV
  | u
  | v (x : Value)
  | ag (cs : List AV)
  | tu (cs : List AV)
  | pr (sz : Nat) (xs : List (List Value))
  | ow (e : TypeId) (sz : Nat) (xs : List (List Value))
  | lo (id : Nat)
  | bp (id off : Nat)
  | pe (cs : List Value)
  | le (id sz : Nat) (i : Int) (off : Nat)
  | vw (id sz lo hi : Nat)
inductive Blk
  | box (t : TypeId) (cs : List AV)
  | row (e : TypeId) (sz : Nat) (xs : List (List Value))
structure TI where
  agg : Bool
  size : Nat
  bytes : Nat
  zero : List Value
  fs : List Nat
  el : TypeId
abbrev Sto := List (Nat × Blk)
abbrev Kt := List AV → Sto → Prop
abbrev Qt := Exit → List AV → Sto → Prop
def gT : List AV → Nat → AV
  | [], _ => .u
  | x :: _, 0 => x
  | _ :: t, n + 1 => gT t n
def sT : List AV → Nat → AV → List AV
  | [], _, _ => []
  | _ :: t, 0, y => y :: t
  | x :: t, n + 1, y => x :: sT t n y
def pT : List AV → Option Nat → AV → List AV
  | t, some d, y => sT t d y
  | t, none, _ => t
def eT : List AV → Operand → AV
  | t, .tmp i => gT t i
  | _, .const x => .v x
  | _, .func f => .v (.func (.func f) #[] #[])
  | _, _ => .u
def gS : Sto → Nat → Option Blk
  | [], _ => none
  | (i, b) :: s, j => if i = j then some b else gS s j
def uS : Sto → Nat → Blk → Sto
  | [], j, b => [(j, b)]
  | (i, c) :: s, j, b => if i = j then (j, b) :: s else (i, c) :: uS s j b
def dS : Sto → Nat → Sto
  | [], _ => []
  | (i, c) :: s, j => if i = j then dS s j else (i, c) :: dS s j
mutual
def AV.fr (j : Nat) : AV → Bool
  | .lo i => i != j
  | .bp i _ => i != j
  | .le i _ _ _ => i != j
  | .vw i _ _ _ => i != j
  | .ag cs => AV.frL j cs
  | .tu cs => AV.frL j cs
  | _ => true
def AV.frL (j : Nat) : List AV → Bool
  | [] => true
  | c :: cs => AV.fr j c && AV.frL j cs
end
def Blk.fr (j : Nat) : Blk → Bool
  | .box _ cs => AV.frL j cs
  | _ => true
def free (j : Nat) (t : List AV) (s : Sto) : Bool := AV.frL j t && s.all fun p => p.2.fr j
def AV.cells : AV → List AV
  | .ag cs => cs
  | x => [x]
def tk : Nat → List AV → List AV
  | n + 1, x :: l => x :: tk n l
  | _, _ => []
def dp : Nat → List AV → List AV
  | n + 1, _ :: l => dp n l
  | _, l => l
def hd1 : List AV → AV
  | x :: _ => x
  | [] => .u
def cutA : Bool → Nat → List AV → AV
  | true, n, cs => .ag (tk n cs)
  | false, _, cs => hd1 cs
def putA : Nat → List AV → List AV → List AV
  | _, _, [] => []
  | _, [], l => l
  | 0, y :: ys, _ :: l => y :: putA 0 ys l
  | n + 1, ys, x :: l => x :: putA n ys l
def vs : List Value → List AV
  | [] => []
  | x :: l => .v x :: vs l
def unv : List AV → List Value
  | .v x :: l => x :: unv l
  | _ => []
def gR (z : List Value) (xs : List (List Value)) (i : Int) : List Value := xs.getD i.toNat z
def sR (xs : List (List Value)) (i : Int) (c : List Value) : List (List Value) := xs.set i.toNat c
def tpV (z lo hi : Nat) : Option Blk → AV
  | some (.row _ sz xs) => if z = sz then .pr sz ((xs.take hi).drop lo) else .u
  | _ => .u
mutual
def toP (s : Sto) : AV → AV
  | .lo id => match gS s id with
    | some (.row _ sz xs) => .pr sz xs
    | _ => .u
  | .ag cs => .ag (toPL s cs)
  | .v x => match x with
    | .slice none 0 0 => .pr 1 []
    | x => .v x
  | .pr z xs => .pr z xs
  | .vw id z lo hi => tpV z lo hi (gS s id)
  | _ => .u
def toPL (s : Sto) : List AV → List AV
  | [] => []
  | c :: cs => toP s c :: toPL s cs
end
mutual
def toR (s : Sto) : AV → AV
  | .lo id => match gS s id with
    | some (.row e sz xs) => .ow e sz xs
    | _ => .u
  | .ag cs => .ag (toRL s cs)
  | .tu cs => .tu (toRL s cs)
  | x => x
def toRL (s : Sto) : List AV → List AV
  | [] => []
  | c :: cs => toR s c :: toRL s cs
end
mutual
def im (n : Nat) : AV → AV × Sto × Nat
  | .ow e sz xs => (.lo n, [(n, .row e sz xs)], n + 1)
  | .ag cs => ((.ag (imL n cs).1), (imL n cs).2)
  | .tu cs => ((.tu (imL n cs).1), (imL n cs).2)
  | x => (x, [], n)
def imL (n : Nat) : List AV → List AV × Sto × Nat
  | [] => ([], [], n)
  | c :: cs => ((im n c).1 :: (imL (im n c).2.2 cs).1, (im n c).2.1 ++ (imL (im n c).2.2 cs).2.1, (imL (im n c).2.2 cs).2.2)
end
end Go.Proofs.YtdjdleldocfpaaaDoor.F
end

section
namespace Go.Proofs.YtdjdleldocfpaaaDoor.F
open Go.RowKit Go.Proofs.YtdjdleldocfpaaaDoorW.PrintWords Go.Proofs.YtdjdleldocfpaaaDoorW.PrintLast Go.Proofs.YtdjdleldocfpaaaDoorW.PrintMore
set_option linter.unusedVariables false
set_option linter.unusedSimpArgs false
def bk : Value → Option Nat
  | .pointer (some a) => some a.block
  | .slice (some a) _ _ => some a.block
  | _ => none
def plainV : Value → Bool
  | .int _ _ | .bool _ | .string _ | .slice _ _ _ | .pointer _ => true
  | _ => false
def rowOk (sz : Nat) (xs : List (List Value)) : Prop := ∀ x ∈ xs, x.length = sz ∧ ∀ u ∈ x, plainV u = true
def RowAt (B : Nat) (w : World) (sz : Nat) (xs : List (List Value)) (y : Value) : Prop :=
  ∃ A c, y = .slice A xs.length c ∧ xs.length ≤ c ∧ xs.length ≤ 9223372036854775807 ∧ 0 < sz ∧ rowOk sz xs ∧ (xs ≠ [] → ∃ ad, A = some ad ∧ ad.block < B ∧ ∀ j u, xs.flatten[j]? = some u → w.cell? (ad.add j) = some u)
mutual
def Rep (B : Nat) (w : World) (φ : Nat → Value) : AV → Value → Prop
  | .u, _ => True
  | .v x, y => y = x
  | .ag cs, y => ∃ l, y = .agg (List.toArray l) ∧ RepL B w φ cs l
  | .tu cs, y => ∃ l, y = .tuple (List.toArray l) ∧ RepL B w φ cs l
  | .pr sz xs, y => RowAt B w sz xs y
  | .ow _ _ _, _ => False
  | .lo id, y => y = φ id ∧ plainV y = true
  | .bp id off, y => ∃ g, φ id = .pointer (some ⟨g, 0, none⟩) ∧ y = .pointer (some ⟨g, off, none⟩)
  | .pe cs, y => ∃ ad, y = .pointer (some ad) ∧ ad.block < B ∧ ∀ j u, cs[j]? = some u → w.cell? (ad.add j) = some u
  | .le id sz i off, y => ∃ g n c, φ id = .slice (some ⟨g, 0, none⟩) n c ∧ 0 ≤ i ∧ i < (n : Int) ∧ y = .pointer (some ⟨g, i.toNat * sz + off, none⟩)
  | .vw id sz lo hi, y => ∃ A m c, φ id = .slice A m c ∧ lo ≤ hi ∧ hi ≤ m ∧ y = sliced A lo hi c sz
def RepL (B : Nat) (w : World) (φ : Nat → Value) : List AV → List Value → Prop
  | [], l => l = []
  | c :: cs, l => ∃ y ys, l = y :: ys ∧ Rep B w φ c y ∧ RepL B w φ cs ys
end
mutual
def RepR (B : Nat) (w : World) : AV → Value → List Nat → Prop
  | .v x, y, L => y = x ∧ L = []
  | .ag cs, y, L => ∃ l, y = .agg (List.toArray l) ∧ RepRL B w cs l L
  | .tu cs, y, L => ∃ l, y = .tuple (List.toArray l) ∧ RepRL B w cs l L
  | .ow e sz xs, y, L => w.ownsRow B e sz y xs.length xs.flatten ∧ rowOk sz xs ∧ 0 < sz ∧ L = (bk y).toList
  | _, _, _ => False
def RepRL (B : Nat) (w : World) : List AV → List Value → List Nat → Prop
  | [], l, L => l = [] ∧ L = []
  | c :: cs, l, L => ∃ y ys L1 L2, l = y :: ys ∧ L = L1 ++ L2 ∧ RepR B w c y L1 ∧ RepRL B w cs ys L2
end
mutual
def pln : AV → Bool
  | .v _ => true
  | .ag cs => plnL cs
  | .tu cs => plnL cs
  | _ => false
def plnL : List AV → Bool
  | [] => true
  | c :: cs => pln c && plnL cs
end
mutual
def vlu : AV → Value
  | .v x => x
  | .ag cs => .agg (List.toArray (vluL cs))
  | .tu cs => .tuple (List.toArray (vluL cs))
  | _ => undef
def vluL : List AV → List Value
  | [] => []
  | c :: cs => vlu c :: vluL cs
end
def Ctr (P : Program) (f : FuncId) (args : List AV) (res : AV) : Prop :=
  (∀ xs w, (callFunc f xs).run P w = .ok (.enter f xs) w) ∧ ∀ (w : World) (ys : List Value), Gl w → RepL w.heap.size w (fun _ => undef) args ys →
    Calls P f ys.toArray w fun e w' => ∃ y L, e = .returned y ∧ RepR w.heap.size w' res y L ∧ L.Nodup ∧ Below w.heap.size w w'
def CtrT (P : Program) (f : FuncId) (e : TypeId) (sz : Nat) (xs : List (List Value)) (rest : List AV) (ys : List (List Value)) : Prop :=
  (∀ xs w, (callFunc f xs).run P w = .ok (.enter f xs) w) ∧ rowOk sz ys ∧ ∀ (w : World) (B : Nat) (y : Value), B ≤ w.heap.size → w.ownsRow B e sz y xs.length xs.flatten →
    Calls P f (List.toArray (y :: vluL rest)) w fun ee w' => ∃ y', ee = .returned y' ∧ w'.ownsRow B e sz y' ys.length ys.flatten ∧ w.grownBy w' (bk y) ∧ ∀ k, bk y' = some k → bk y = some k ∨ w.heap.size ≤ k
def CtrS (P : Program) (f : FuncId) (e : TypeId) (sz : Nat) (xs : List (List Value)) (rest : List AV) (ys : List (List Value)) : Prop :=
  (∀ xs w, (callFunc f xs).run P w = .ok (.enter f xs) w) ∧ rowOk sz ys ∧ ∀ (w : World) (B : Nat) (y : Value), B ≤ w.heap.size → w.ownsRow B e sz y xs.length xs.flatten →
    Calls P f (List.toArray (y :: vluL rest)) w fun ee w' => ee = .returned (.tuple #[]) ∧ w'.ownsRow B e sz y ys.length ys.flatten ∧ w.grownBy w' (bk y)
def BlkOk (B : Nat) (w0 : World) (φ : Nat → Value) (w : World) (id : Nat) : Blk → Prop
  | .box t cs => ∃ g c, φ id = .pointer (some ⟨g, 0, none⟩) ∧ B ≤ g ∧ w.heap[g]? = some (.cells (List.toArray c) t (0, 0)) ∧ RepL B w0 φ cs c
  | .row e sz xs => w.ownsRow B e sz (φ id) xs.length xs.flatten ∧ rowOk sz xs ∧ 0 < sz
def noL : List AV → Bool
  | [] => true
  | .v _ :: l => noL l
  | .pr _ _ :: l => noL l
  | _ :: _ => false
def noB : Blk → Bool
  | .box _ cs => noL cs
  | _ => true
def CtrB (P : Program) (f : FuncId) (args : List AV) (S : Sto) (res : AV) (S' : Sto) : Prop :=
  (∀ xs w, (callFunc f xs).run P w = .ok (.enter f xs) w) ∧ S'.map (·.1) = S.map (·.1) ∧ (S'.map (·.1)).Nodup ∧ (S'.all fun p => noB p.2) = true ∧ ∀ (w0 w : World) (φ : Nat → Value) (ys : List Value), Gl w0 → Below w0.heap.size w0 w → RepL w0.heap.size w0 φ args ys →
    (∀ i b, gS S i = some b → BlkOk w0.heap.size w0 φ w i b) → (∀ i j b c, gS S i = some b → gS S j = some c → i ≠ j → bk (φ i) = none ∨ bk (φ i) ≠ bk (φ j)) →
    Calls P f ys.toArray w fun e w' => ∃ y L, e = .returned y ∧ RepR w.heap.size w' res y L ∧ L.Nodup ∧ Below w0.heap.size w0 w' ∧ w.heap.size ≤ w'.heap.size ∧ (∀ i b, gS S' i = some b → BlkOk w0.heap.size w0 φ w' i b) ∧
      ∀ k, k < w.heap.size → (∀ i b, gS S i = some b → bk (φ i) ≠ some k) → w'.heap[k]? = w.heap[k]?
def CtrN (P : Program) (f : FuncId) (args : List AV) (tb : TypeId) (cs : List AV) : Prop :=
  (∀ xs w, (callFunc f xs).run P w = .ok (.enter f xs) w) ∧ ∀ (w0 w : World) (φ : Nat → Value) (ys : List Value), Gl w0 → Below w0.heap.size w0 w → RepL w0.heap.size w0 φ args ys →
    Calls P f ys.toArray w fun e w' => ∃ g c, e = .returned (.pointer (some ⟨g, 0, none⟩)) ∧ w.heap.size ≤ g ∧ w'.heap[g]? = some (.cells (List.toArray c) tb (0, 0)) ∧ RepL w0.heap.size w0 φ cs c ∧ Below w.heap.size w w'
def CtrV (P : Program) (f : FuncId) (args : List AV) (res : AV) : Prop :=
  (∀ xs w, (callFunc f xs).run P w = .ok (.enter f xs) w) ∧ ∀ (w0 w : World) (φ : Nat → Value) (ys : List Value), Gl w0 → Below w0.heap.size w0 w → RepL w0.heap.size w0 φ args ys →
    Calls P f ys.toArray w fun e w' => ∃ y, e = .returned y ∧ Rep w0.heap.size w0 φ res y ∧ Below w.heap.size w w'
def subS (s : Sto) : Sto → Prop
  | [] => True
  | (i, b) :: S => gS s i = some b ∧ subS s S
def uSL : Sto → Sto → Sto
  | s, [] => s
  | s, (i, b) :: S => uSL (uS s i b) S
mutual
def okR : AV → Bool
  | .v _ => true
  | .ow _ _ _ => true
  | .ag cs => okRL cs
  | .tu cs => okRL cs
  | _ => false
def okRL : List AV → Bool
  | [] => true
  | c :: cs => okR c && okRL cs
end
section
variable (P : Program) (ty : TypeId → Option TI)
def bindW (q : Bool) : AV → Option Nat → List AV → Sto → Kt → Prop
  | .v x, d, t, s, K => K (pT t d (.v x)) s
  | r, some d, t, s, K => (q && !okR r) = false ∧ ((im (16 * d) r).2.1.all fun p => free p.1 t s) = true ∧ (im (16 * d) r).2.2 ≤ 16 * d + 15 ∧ K (sT t d (im (16 * d) r).1) ((im (16 * d) r).2.1 ++ s)
  | _, none, t, s, K => q = false ∧ K t s
def turnR (f : FuncId) (id : Nat) (rest : List AV) : Option Blk → Option Nat → List AV → Sto → Kt → Prop
  | some (.row e sz xs), some d, t, s, K => plnL rest = true ∧ ((∃ ys, CtrT P f e sz xs rest ys ∧ free (16 * d) t (dS s id) = true ∧ K (sT t d (.lo (16 * d))) (uS (dS s id) (16 * d) (.row e sz ys))) ∨ ∃ ys, CtrS P f e sz xs rest ys ∧ K (pT t (some d) (.v (.tuple #[]))) (uS s id (.row e sz ys)))
  | _, _, _, _, _ => False
def turnW (f : FuncId) : List AV → Option Nat → List AV → Sto → Kt → Prop
  | .lo id :: rest, d, t, s, K => turnR P f id rest (gS s id) d t s K
  | _, _, _, _, _ => False
def callW (q : Bool) (f : FuncId) (args : List AV) (d : Option Nat) (t : List AV) (s : Sto) (K : Kt) : Prop :=
  (∃ res, Ctr P f (toPL s args) res ∧ bindW q res d t s K) ∨ (q = false ∧ (turnW P f args d t s K ∨ (∃ tb cs d', CtrN P f args tb cs ∧ d = some d' ∧ noL cs = true ∧ free (16 * d') t s = true ∧ K (sT t d' (.bp (16 * d') 0)) (uS s (16 * d') (.box tb cs))) ∨ ∃ res, CtrV P f args res ∧ K (pT t d res) s)) ∨ ∃ R res R', CtrB P f args R res R' ∧ (q = false ∨ (R.all fun p => p.1 % 16 == 15 && noB p.2) = true) ∧ subS s R ∧ bindW q res d t (uSL s R') K
def loadB : Option Blk → TI → Nat → Option Nat → List AV → Sto → Kt → Prop
  | some (.box _ cs), i, off, d, t, s, K => off + i.size ≤ cs.length ∧ K (pT t d (cutA i.agg i.size (dp off cs))) s
  | _, _, _, _, _, _, _ => False
def loadE : Option Blk → TI → Nat → Int → Nat → Option Nat → List AV → Sto → Kt → Prop
  | some (.row e sz xs), i, sz', n, off, d, t, s, K => ∃ z, (ty e).map (·.zero) = some z ∧ sz' = sz ∧ z.length = sz ∧ off + i.size ≤ sz ∧ K (pT t d (cutA i.agg i.size (dp off (vs (gR z xs n))))) s
  | _, _, _, _, _, _, _, _, _ => False
def loadW : Option TI → AV → Option Nat → List AV → Sto → Kt → Prop
  | some i, .bp id off, d, t, s, K => loadB (gS s id) i off d t s K
  | some i, .pe cs, d, t, s, K => i.size ≤ cs.length ∧ K (pT t d (cutA i.agg i.size (vs cs))) s
  | some i, .le id z n off, d, t, s, K => loadE ty (gS s id) i z n off d t s K
  | _, _, _, _, _, _ => False
def cellsOk : List AV → Bool
  | [] => true
  | .v x :: l => plainV x && cellsOk l
  | .lo _ :: l => cellsOk l
  | .bp _ _ :: l => cellsOk l
  | .pr _ _ :: l => cellsOk l
  | _ :: _ => false
def plainOk : List AV → Bool
  | [] => true
  | .v x :: l => plainV x && plainOk l
  | _ :: _ => false
def storeB : Option Blk → Nat → TI → Nat → List AV → List AV → Sto → Kt → Prop
  | some (.box b cs), id, i, off, c, t, s, K => c.length = i.size ∧ off + i.size ≤ cs.length ∧ cellsOk c = true ∧ K t (uS s id (.box b (putA off c cs)))
  | _, _, _, _, _, _, _, _ => False
def storeE : Option Blk → Nat → TI → Nat → Int → Nat → List AV → List AV → Sto → Kt → Prop
  | some (.row e sz xs), id, i, sz', n, off, c, t, s, K => sz' = sz ∧ off = 0 ∧ i.size = sz ∧ c.length = sz ∧ plainOk c = true ∧ K t (uS s id (.row e sz (sR xs n (unv c))))
  | _, _, _, _, _, _, _, _, _, _ => False
def storeW : Option TI → AV → AV → List AV → Sto → Kt → Prop
  | some i, .bp id off, x, t, s, K => storeB (gS s id) id i off x.cells t s K
  | some i, .le id z n off, x, t, s, K => storeE (gS s id) id i z n off x.cells t s K
  | _, _, _, _, _, _ => False
def nthN : List Nat → Nat → Option Nat
  | [], _ => none
  | x :: _, 0 => some x
  | _ :: l, n + 1 => nthN l n
def faW : Option Nat → AV → Option Nat → List AV → Sto → Kt → Prop
  | some o, .bp id off, d, t, s, K => K (pT t d (.bp id (off + o))) s
  | some o, .pe cs, d, t, s, K => K (pT t d (.pe (cs.drop o))) s
  | some o, .le id z i off, d, t, s, K => K (pT t d (.le id z i (off + o))) s
  | _, _, _, _, _, _ => False
def idxE (ty : TypeId → Option TI) (el : TypeId) : Option Blk → Nat → Int → Option Nat → List AV → Sto → Kt → Prop
  | some (.row e sz xs), id, n, d, t, s, K => (∃ j, ty el = some j ∧ j.size = sz) ∧ 0 ≤ n ∧ n < (xs.length : Int) ∧ K (pT t d (.le id sz n 0)) s
  | _, _, _, _, _, _, _ => False
def idxV (ty : TypeId → Option TI) (el : TypeId) : Option Blk → Nat → Nat → Nat → Nat → Int → Option Nat → List AV → Sto → Kt → Prop
  | some (.row e sz xs), id, z, lo, hi, n, d, t, s, K => (∃ j, ty el = some j ∧ j.size = sz) ∧ z = sz ∧ 0 ≤ n ∧ n < (((xs.take hi).drop lo).length : Int) ∧ K (pT t d (.le id sz (n + (lo : Int)) 0)) s
  | _, _, _, _, _, _, _, _, _, _ => False
def idxW : Option TI → AV → AV → Option Nat → List AV → Sto → Kt → Prop
  | some ti, .pr sz xs, .v (.int _ n), d, t, s, K => ∃ z, (ty ti.el).map (·.zero) = some z ∧ z.length = sz ∧ 0 ≤ n ∧ n < (xs.length : Int) ∧ K (pT t d (.pe (gR z xs n))) s
  | some ti, .lo id, .v (.int _ n), d, t, s, K => idxE ty ti.el (gS s id) id n d t s K
  | some ti, .vw id z lo hi, .v (.int _ n), d, t, s, K => idxV ty ti.el (gS s id) id z lo hi n d t s K
  | some ti, .bp id off, .v (.int _ n), d, t, s, K => ti.agg = true ∧ ti.fs.isEmpty = true ∧ 0 ≤ n ∧ n.toNat < ti.size ∧ K (pT t d (.bp id (off + n.toNat))) s
  | _, _, _, _, _, _, _ => False
def strZ : List Value → Bool
  | [.string _] => true
  | _ => false
def lenB : Option Blk → Option Nat → List AV → Sto → Kt → Prop
  | some (.row _ _ xs), d, t, s, K => K (pT t d (.v (.int .i64 (xs.length : Int)))) s
  | _, _, _, _, _ => False
def lenV : Option Blk → Nat → Nat → Option Nat → List AV → Sto → Kt → Prop
  | some (.row _ _ xs), lo, hi, d, t, s, K => K (pT t d (.v (.int .i64 (((xs.take hi).drop lo).length : Int)))) s
  | _, _, _, _, _, _, _ => False
def lenW : AV → Option Nat → List AV → Sto → Kt → Prop
  | .pr _ xs, d, t, s, K => K (pT t d (.v (.int .i64 (xs.length : Int)))) s
  | .lo id, d, t, s, K => lenB (gS s id) d t s K
  | .vw id _ lo hi, d, t, s, K => lenV (gS s id) lo hi d t s K
  | .v (.slice none 0 0), d, t, s, K => K (pT t d (.v (.int .i64 0))) s
  | .v (.string a), d, t, s, K => K (pT t d (.v (.int .i64 (a.size : Int)))) s
  | _, _, _, _, _ => False
def lenT (ty : TypeId → Option TI) : Option TI → AV → Bool
  | some i, .v (.string _) => strZ i.zero
  | some i, _ => (ty i.el).isSome
  | none, _ => false
def idxS : Option TI → AV → AV → Option Nat → List AV → Sto → Kt → Prop
  | some i, .v (.string a), .v (.int _ n), d, t, s, K => strZ i.zero = true ∧ 0 ≤ n ∧ n < (a.size : Int) ∧ K (pT t d (.v (.int .u8 (bt a n)))) s
  | _, _, _, _, _, _, _ => False
def bok : BinOp → Int → Prop
  | .quo, b => b ≠ 0
  | .rem, b => b ≠ 0
  | .shl, b => 0 ≤ b
  | .shr, b => 0 ≤ b
  | _, _ => True
def kok : BinOp → IntKind → IntKind → Bool
  | .shl, _, _ => true
  | .shr, _, _ => true
  | _, k, k' => k == k'
def wr : IntKind → Int → Int
  | .i64, n => wrap64 n
  | k, n => k.wrap n
def bval : BinOp → IntKind → Int → Int → Value
  | .add, k, a, b => .int k (wr k (a + b))
  | .sub, k, a, b => .int k (wr k (a - b))
  | .mul, k, a, b => .int k (wr k (a * b))
  | .quo, k, a, b => .int k (wr k (Int.tdiv a b))
  | .rem, k, a, b => .int k (Int.tmod a b)
  | .shl, k, a, b => .int k (shl k a b)
  | .shr, k, a, b => .int k (shr k a b)
  | .and, k, a, b => .int k (Go.bits .and k a b)
  | .or, k, a, b => .int k (Go.bits .or k a b)
  | .xor, k, a, b => .int k (Go.bits .xor k a b)
  | .andNot, k, a, b => .int k (Go.bits .andNot k a b)
  | .lss, _, a, b => .bool (decide (a < b))
  | .leq, _, a, b => .bool (decide (a ≤ b))
  | .gtr, _, a, b => .bool (decide (a > b))
  | .geq, _, a, b => .bool (decide (a ≥ b))
  | .eql, _, a, b => .bool (a == b)
  | .neq, _, a, b => .bool (a != b)
def sok : BinOp → ByteArray → ByteArray → Bool
  | .add, a, b => decide (a.size + b.size ≤ 9223372036854775807)
  | .eql, _, _ => true
  | .neq, _, _ => true
  | _, _, _ => false
def sval : BinOp → ByteArray → ByteArray → Value
  | .add, a, b => .string (a ++ b)
  | .eql, a, b => .bool (decide (a.toList = b.toList))
  | .neq, a, b => .bool (decide (¬ a.toList = b.toList))
  | _, _, _ => undef
def binW : BinOp → AV → AV → Option Nat → List AV → Sto → Kt → Prop
  | op, .v (.int k a), .v (.int k' b), d, t, s, K => kok op k k' = true ∧ bok op b ∧ K (pT t d (.v (bval op k a b))) s
  | op, .v (.string a), .v (.string b), d, t, s, K => sok op a b = true ∧ K (pT t d (.v (sval op a b))) s
  | _, _, _, _, _, _, _ => False
def EqC (b : TypeId) (cs ds : List Value) (r : Bool) : Prop := P.eqGuardType P.depth b = false ∧ ∀ w, (Op.equal b (.agg (List.toArray cs)) (.agg (List.toArray ds))).run P w = .ok r w
def binX (b : TypeId) : Option TI → BinOp → AV → AV → Option Nat → List AV → Sto → Kt → Prop
  | some i, .eql, .v (.bool p), .v (.bool q), d, t, s, K => i.zero = [.bool false] ∧ K (pT t d (.v (.bool (p == q)))) s
  | some i, .neq, .v (.bool p), .v (.bool q), d, t, s, K => i.zero = [.bool false] ∧ K (pT t d (.v (.bool (p != q)))) s
  | some i, .eql, .ag cs, .ag ds, d, t, s, K => plnL cs = true ∧ plnL ds = true ∧ ∃ r, EqC P b (vluL cs) (vluL ds) r ∧ K (pT t d (.v (.bool r))) s
  | some i, .neq, .ag cs, .ag ds, d, t, s, K => plnL cs = true ∧ plnL ds = true ∧ ∃ r, EqC P b (vluL cs) (vluL ds) r ∧ K (pT t d (.v (.bool (!r)))) s
  | _, op, x, y, d, t, s, K => binW op x y d t s K
def kindOf : List Value → Option IntKind
  | [.int k _] => some k
  | _ => none
def rdB (sz : Nat) : Option Blk → Option (List (List Value))
  | some (.row _ z xs) => if z = sz then some xs else none
  | _ => none
def rdS (sz : Nat) : AV → Sto → Option (List (List Value))
  | .pr z xs, _ => if z = sz then some xs else none
  | .lo id, s => rdB sz (gS s id)
  | .vw id z lo hi, s => if z = sz then (rdB sz (gS s id)).map fun xs => (xs.take hi).drop lo else none
  | .v (.slice none 0 0), _ => some []
  | _, _ => none
def u8Z : List Value → Bool
  | [.int .u8 0] => true
  | _ => false
def bys : List (List Value) → Option (List Int)
  | [] => some []
  | [.int .u8 n] :: l => (bys l).map (n :: ·)
  | _ :: _ => none
def cnvS (ty : TypeId → Option TI) (i j : TI) (x : AV) (d : Option Nat) (t : List AV) (s : Sto) (K : Kt) : Prop :=
  strZ j.zero = true ∧ (∃ e, ty i.el = some e ∧ u8Z e.zero = true) ∧ ∃ ns, (rdS 1 x s).bind bys = some ns ∧ K (pT t d (.v (.string (strOfNums ns)))) s
def cnvW (ty : TypeId → Option TI) : Option TI → Option TI → AV → Option Nat → List AV → Sto → Kt → Prop
  | some i, some j, .v (.int k n), d, t, s, K => ∃ k', kindOf j.zero = some k' ∧ K (pT t d (.v (.int k' (wr k' n)))) s
  | some i, some j, x, d, t, s, K => cnvS ty i j x d t s K
  | _, _, _, _, _, _, _ => False
def negW : AV → Option Nat → List AV → Sto → Kt → Prop
  | .v (.int k n), d, t, s, K => K (pT t d (.v (.int k (wr k (-n))))) s
  | _, _, _, _, _ => False
def notW : AV → Option Nat → List AV → Sto → Kt → Prop
  | .v (.bool b), d, t, s, K => K (pT t d (.v (.bool (!b)))) s
  | _, _, _, _, _ => False
def pickW : AV → AV → AV → Option Nat → List AV → Sto → Kt → Prop
  | .v (.bool true), a, b, d, t, s, K => K (pT t d a) s
  | .v (.bool false), a, b, d, t, s, K => K (pT t d b) s
  | _, _, _, _, _, _, _ => False
def exW : List AV → Nat → Option Nat → List AV → Sto → Kt → Prop
  | x :: _, 0, d, t, s, K => K (pT t d x) s
  | _ :: l, n + 1, d, t, s, K => exW l n d t s K
  | [], _, _, _, _, _ => False
def extW : AV → Nat → Option Nat → List AV → Sto → Kt → Prop
  | .tu cs, n, d, t, s, K => exW cs n d t s K
  | _, _, _, _, _, _ => False
def boxW (b : TypeId) (c : List AV) : Option Nat → List AV → Sto → Kt → Prop
  | some d, t, s, K => cellsOk c = true ∧ free (16 * d) t s = true ∧ K (sT t d (.bp (16 * d) 0)) (uS s (16 * d) (.box b c))
  | none, _, _, _ => False
def rowW (e : TypeId) (sz : Nat) (xs : List (List Value)) : Option Nat → List AV → Sto → Kt → Prop
  | some d, t, s, K => free (16 * d) (sT t d .u) s = true ∧ K (sT t d (.lo (16 * d))) (uS s (16 * d) (.row e sz xs))
  | none, _, _, _ => False
def mapE : List AV → List Operand → List AV
  | t, [] => []
  | t, x :: l => eT t x :: mapE t l
def litR : List AV → List (Nat × Operand) → Nat → Option (List (List Value))
  | _, [], _ => some []
  | t, (i, x) :: l, k => if i = k ∧ plainOk (eT t x).cells = true then (litR t l (k + 1)).map fun r => unv (eT t x).cells :: r else none
def litOk (sz : Nat) : List (List Value) → Bool
  | [] => true
  | x :: l => x.length == sz && litOk sz l
def litW : Option (List (List Value)) → Nat → TypeId → Nat → Option Nat → List AV → Sto → Kt → Prop
  | some xs, n, e, sz, d, t, s, K => xs.length = n ∧ litOk sz xs = true ∧ 0 < sz ∧ n * sz ≤ 1000 ∧ rowW e sz xs d t s K
  | _, _, _, _, _, _, _, _ => False
def litT : Option TI → Nat → List (Nat × Operand) → Option Nat → List AV → Sto → Kt → Prop
  | some i, n, ps, d, t, s, K => ∃ j, ty i.el = some j ∧ litW (litR t ps 0) n i.el j.size d t s K
  | _, _, _, _, _, _, _ => False
def mkW : Option TI → AV → AV → Option Nat → List AV → Sto → Kt → Prop
  | some i, .v (.int .i64 n), .v (.int .i64 m), d, t, s, K => ∃ j, ty i.el = some j ∧ n = m ∧ 0 ≤ n ∧ n * (j.bytes : Int) ≤ 281474976710656 ∧ 0 < j.bytes ∧ 0 < j.size ∧ rowW i.el j.size (List.replicate n.toNat j.zero) d t s K
  | _, _, _, _, _, _, _ => False
def appR (id : Nat) : Option Blk → Option (List (List Value)) → TI → TypeId → Option Nat → List AV → Sto → Kt → Prop
  | some (.row e sz xs), some ys, j, e', some d, t, s, K => e = e' ∧ sz = j.size ∧ 0 < j.bytes ∧ (xs.length + ys.length) * j.bytes ≤ 140737488355328 ∧ free (16 * d) t (dS s id) = true ∧ K (sT t d (.lo (16 * d))) (uS (dS s id) (16 * d) (.row e sz (xs ++ ys)))
  | _, _, _, _, _, _, _, _ => False
def rdA (sz : Nat) : AV → Sto → Option (List (List Value))
  | .v (.string a), _ => if sz = 1 then some ((bytesOf a).map fun n => [.int .u8 n]) else none
  | x, s => rdS sz x s
def okA (j : TI) : AV → Bool
  | .v (.string _) => u8Z j.zero && j.bytes == 1
  | _ => true
def appW : Option TI → AV → AV → Option Nat → List AV → Sto → Kt → Prop
  | some i, .lo id, y, d, t, s, K => ∃ j, ty i.el = some j ∧ okA j y = true ∧ appR id (gS s id) (rdA j.size y s) j i.el d t s K
  | _, _, _, _, _, _, _ => False
def appT (a b : Nat) : Option (List Value) → AV → Bool
  | some z, .v (.string _) => strZ z
  | none, .v (.string _) => false
  | _, _ => a == b
def mmW : Bool → AV → AV → Option Nat → List AV → Sto → Kt → Prop
  | true, .v (.int .i64 a), .v (.int .i64 b), d, t, s, K => K (pT t d (.v (.int .i64 (mn a b)))) s
  | false, .v (.int .i64 a), .v (.int .i64 b), d, t, s, K => K (pT t d (.v (.int .i64 (mx a b)))) s
  | _, _, _, _, _, _, _ => False
def cW (q : Bool) : Call → Option Nat → List AV → Sto → Kt → Prop
  | ⟨.value (.func f), ⟨args⟩, _⟩, d, t, s, K => callW P q f (mapE t args) d t s K
  | ⟨.builtin .len, ⟨[x]⟩, ⟨[b]⟩⟩, d, t, s, K => lenT ty (ty b) (eT t x) = true ∧ lenW (eT t x) d t s K
  | ⟨.builtin .append, ⟨[x, y]⟩, ⟨[t1, t2]⟩⟩, d, t, s, K => q = false ∧ appT t1 t2 ((ty t2).map (·.zero)) (eT t y) = true ∧ appW ty (ty t1) (eT t x) (eT t y) d t s K
  | ⟨.builtin .min, ⟨[x, y]⟩, _⟩, d, t, s, K => mmW true (eT t x) (eT t y) d t s K
  | ⟨.builtin .max, ⟨[x, y]⟩, _⟩, d, t, s, K => mmW false (eT t x) (eT t y) d t s K
  | _, _, _, _, _ => False
def nilW : Option TI → Option Nat → List AV → Sto → Kt → Prop
  | some i, d, t, s, K => ∃ j, ty i.el = some j ∧ 0 < j.size ∧ rowW i.el j.size [] d t s K
  | none, _, _, _, _ => False
def chkW : AV → Option Nat → List AV → Sto → Kt → Prop
  | .bp id off, d, t, s, K => K (pT t d (.bp id off)) s
  | .pe cs, d, t, s, K => K (pT t d (.pe cs)) s
  | .le id z i off, d, t, s, K => K (pT t d (.le id z i off)) s
  | _, _, _, _, _ => False
def plc (sz : Nat) : List Nat → List (Nat × Nat)
  | [] => []
  | [o] => [(o, sz - o)]
  | o :: o2 :: l => (o, o2 - o) :: plc sz (o2 :: l)
def nthL : List (Nat × Nat) → Nat → Option (Nat × Nat)
  | [], _ => none
  | x :: _, 0 => some x
  | _ :: l, n + 1 => nthL l n
def bldP : Option (Nat × Nat) → List AV → List AV → Option (List AV)
  | some (o, z), c, cs => if c.length = z ∧ o + c.length ≤ cs.length ∧ cellsOk c = true then some (putA o c cs) else none
  | none, _, _ => none
def bldC (pl : List (Nat × Nat)) (t : List AV) : List (Nat × Operand) → List AV → Option (List AV)
  | [], cs => some cs
  | (f, x) :: l, cs => (bldP (nthL pl f) (eT t x).cells cs).bind (bldC pl t l)
def bldW : Option TI → List AV → List (Nat × Operand) → Option Nat → List AV → Sto → Kt → Prop
  | some i, u, ps, d, t, s, K => i.agg = true ∧ i.fs.isEmpty = false ∧ ∃ cs, bldC (plc i.size i.fs) u ps (vs i.zero) = some cs ∧ K (pT t d (.ag cs)) s
  | none, _, _, _, _, _, _ => False
def alW (b : TypeId) : Option TI → Option Nat → List AV → Sto → Kt → Prop
  | some i, d, t, s, K => boxW b (vs i.zero) d t s K
  | none, _, _, _, _ => False
def loN : Option AV → Option Int
  | none => some 0
  | some (.v (.int _ n)) => some n
  | _ => none
def hiN (len : Nat) : Option AV → Option Int
  | none => some (len : Int)
  | some (.v (.int _ n)) => some n
  | _ => none
def slcR (id : Nat) : Option Blk → TI → Option Int → Option AV → Option Nat → List AV → Sto → Kt → Prop
  | some (.row e sz xs), j, some l, hi, d, t, s, K => ∃ h, hiN xs.length hi = some h ∧ j.size = sz ∧ 0 ≤ l ∧ l ≤ h ∧ h ≤ (xs.length : Int) ∧ K (pT t d (.vw id sz l.toNat h.toNat)) s
  | _, _, _, _, _, _, _, _ => False
def slcP (sz : Nat) (xs : List (List Value)) : TI → Option Int → Option AV → Option Nat → List AV → Sto → Kt → Prop
  | j, some l, hi, d, t, s, K => ∃ h, hiN xs.length hi = some h ∧ j.size = sz ∧ 0 ≤ l ∧ l ≤ h ∧ h ≤ (xs.length : Int) ∧ K (pT t d (.pr sz ((xs.take h.toNat).drop l.toNat))) s
  | _, _, _, _, _, _, _ => False
def slcS (a : ByteArray) : Option Int → Option AV → Option Nat → List AV → Sto → Kt → Prop
  | some l, hi, d, t, s, K => ∃ h, hiN a.size hi = some h ∧ 0 ≤ l ∧ l ≤ h ∧ h ≤ (a.size : Int) ∧ K (pT t d (.v (.string (a.extract l.toNat h.toNat)))) s
  | _, _, _, _, _, _ => False
def slcW : Option TI → AV → Option AV → Option AV → Option Nat → List AV → Sto → Kt → Prop
  | some i, .pr z xs, lo, hi, d, t, s, K => ∃ j, ty i.el = some j ∧ slcP z xs j (loN lo) hi d t s K
  | some i, .lo id, lo, hi, d, t, s, K => ∃ j, ty i.el = some j ∧ slcR id (gS s id) j (loN lo) hi d t s K
  | some i, .v (.string a), lo, hi, d, t, s, K => strZ i.zero = true ∧ slcS a (loN lo) hi d t s K
  | _, _, _, _, _, _, _, _ => False
def opX (q : Bool) : Op → TypeId → Option Nat → List AV → Sto → Kt → Prop
  | .move x, _, d, t, s, K => K (pT t d (eT t x)) s
  | .assign (.const (.slice A n c)), o, d, t, s, K => (A = none ∧ n = 0 ∧ c = 0) ∧ nilW ty (ty o) d t s K
  | .assign x, _, d, t, s, K => K (pT t d (eT t x)) s
  | .pick c a b, _, d, t, s, K => pickW (eT t c) (eT t a) (eT t b) d t s K
  | .alloc b, _, d, t, s, K => alW b (ty b) d t s K
  | .box b x, _, d, t, s, K => boxW b (eT t x).cells d t s K
  | .load b x, _, d, t, s, K => loadW ty (ty b) (eT t x) d t s K
  | .store b a x, _, d, t, s, K => q = false ∧ d = none ∧ storeW (ty b) (eT t a) (eT t x) t s K
  | .fieldAddr b x f, _, d, t, s, K => faW (((ty b).map (·.fs)).bind (nthN · f)) (eT t x) d t s K
  | .indexAddr b x i, _, d, t, s, K => idxW ty (ty b) (eT t x) (eT t i) d t s K
  | .binOp op b x y _, _, d, t, s, K => binX P b (ty b) op (eT t x) (eT t y) d t s K
  | .unOp .not _ x, _, d, t, s, K => notW (eT t x) d t s K
  | .unOp .neg _ x, _, d, t, s, K => negW (eT t x) d t s K
  | .index b x i, _, d, t, s, K => idxS (ty b) (eT t x) (eT t i) d t s K
  | .extract x n, _, d, t, s, K => extW (eT t x) n d t s K
  | .convert b c x, _, d, t, s, K => cnvW ty (ty b) (ty c) (eT t x) d t s K
  | .nilCheck x, _, d, t, s, K => chkW (eT t x) d t s K
  | .slice b x lo hi none, _, d, t, s, K => slcW ty (ty b) (eT t x) (lo.map (eT t)) (hi.map (eT t)) d t s K
  | .makeSlice b x y, _, d, t, s, K => mkW ty (ty b) (eT t x) (eT t y) d t s K
  | .buildSlice b n ⟨ps⟩, _, d, t, s, K => litT ty (ty b) n ps d t s K
  | .build b ⟨ps⟩, _, d, t, s, K => bldW (ty b) t ps d t s K
  | .call c, _, d, t, s, K => cW P ty q c d t s K
  | _, _, _, _, _, _ => False
abbrev Gd := List (Option Nat)
def gG : Gd → Nat → Option Nat
  | [], _ => none
  | x :: _, 0 => x
  | _ :: l, n + 1 => gG l n
def guardW : AV → Bool → Prop → Prop → Prop
  | .v (.tuple _), _, _, Y => Y
  | .v (.bool true), true, X, _ => X
  | .v (.bool false), false, X, _ => X
  | .v (.bool true), false, _, Y => Y
  | .v (.bool false), true, _, Y => Y
  | _, _, _, _ => False
def gV : List AV → Option Nat → AV
  | t, some d => gT t d
  | _, none => .u
def ro : Op → Bool
  | .move _ | .pick _ _ _ | .build _ _ | .load _ _ | .fieldAddr _ _ _ | .indexAddr _ _ _ | .binOp _ _ _ _ _ | .unOp _ _ _ | .nilCheck _ | .slice _ _ _ _ none | .extract _ _ | .convert _ _ _ | .index _ _ _ => true
  | .assign (.const (.slice _ _ _)) => false
  | .assign _ => true
  | .call ⟨.builtin .len, _, _⟩ => true
  | .call ⟨.builtin .min, _, _⟩ => true
  | .call ⟨.builtin .max, _, _⟩ => true
  | _ => false
def rot (_ : Option TI) : Op → Bool
  | .move _ | .pick _ _ _ | .build _ _ | .load _ _ | .fieldAddr _ _ _ | .indexAddr _ _ _ | .binOp _ _ _ _ _ | .unOp _ _ _ | .nilCheck _ | .slice _ _ _ _ none | .extract _ _ | .convert _ _ _ | .index _ _ _ => true
  | .assign (.const (.slice _ _ _)) => true
  | .assign _ => true
  | .call ⟨.builtin .len, _, _⟩ => true
  | .call ⟨.builtin .min, _, _⟩ => true
  | .call ⟨.builtin .max, _, _⟩ => true
  | .call ⟨.value _, _, _⟩ => true
  | .alloc _ | .box _ _ | .makeSlice _ _ _ | .buildSlice _ _ _ => true
  | _ => false
def opsW (g : Gd) : Bool → List Oper → List AV → Sto → Kt → Prop
  | _, [], t, s, K => K t s
  | q, ⟨d, op, o, _, _, none⟩ :: rest, t, s, K => opX P ty (q && rot (ty o) op) op o d t s (fun t s => opsW g (q && rot (ty o) op) rest t s K)
  | q, ⟨d, op, o, _, _, some (i, b)⟩ :: rest, t, s, K => guardW (gV t (gG g i)) b (opX P ty (q && rot (ty o) op) op o d t s (fun t s => opsW g (q && rot (ty o) op) rest t s K)) (opsW g (q && rot (ty o) op) rest (pT t d (.v undef)) s K)
def kO (g : Gd) (q : Bool) (r : List Oper) (K : Kt) : Kt := fun t s => opsW P ty g q r t s K
def kN (Q : Qt) : Kt := fun t s => Q .normal t s
def kB (id : Nat) (Q : Qt) : Qt
  | .exit j, t, s => if j = id then Q .normal t s else Q (.exit j) t s
  | e, t, s => Q e t s
def rn (ρ : List (Nat × Nat)) (j : Nat) : Nat := ((ρ.find? fun p => p.1 == j).map (·.2)).getD j
mutual
def AV.ren (ρ : List (Nat × Nat)) : AV → AV
  | .lo i => .lo (rn ρ i)
  | .bp i o => .bp (rn ρ i) o
  | .le i z n o => .le (rn ρ i) z n o
  | .vw i z a b => .vw (rn ρ i) z a b
  | .ag cs => .ag (AV.renL ρ cs)
  | .tu cs => .tu (AV.renL ρ cs)
  | x => x
def AV.renL (ρ : List (Nat × Nat)) : List AV → List AV
  | [] => []
  | c :: cs => AV.ren ρ c :: AV.renL ρ cs
end
def Blk.ren (ρ : List (Nat × Nat)) : Blk → Blk
  | .box t cs => .box t (AV.renL ρ cs)
  | b => b
def EntT (ρ : List (Nat × Nat)) : List AV → List AV → Prop
  | [], [] => True
  | _ :: t, .u :: T => EntT ρ t T
  | x :: t, y :: T => x = AV.ren ρ y ∧ EntT ρ t T
  | _, _ => False
def EntS (ρ : List (Nat × Nat)) (s : Sto) : Sto → Prop
  | [] => True
  | (i, b) :: S => gS s (rn ρ i) = some (b.ren ρ) ∧ EntS ρ s S
def inj (ρ : List (Nat × Nat)) (S : Sto) : Bool := decide (S.map fun p => rn ρ p.1).Nodup && ρ.all fun p => p.1 % 16 != 15
def Ent (t : List AV) (s : Sto) (T : List AV) (S : Sto) : Prop := ∃ ρ, EntT ρ t T ∧ EntS ρ s S ∧ inj ρ S = true
def kL {ι : Type} (T : ι → List AV) (S : ι → Sto) (F : Nat → ι → Prop) (n : Nat) (Q : Qt) : Qt
  | .normal, t, s => ∃ m y, m < n ∧ F m y ∧ Ent t s (T y) (S y)
  | e, t, s => Q e t s
def gds (l : List Oper) : Gd := l.map (·.dst)
def cdW : AV → Prop → Prop → Prop
  | .v (.bool true), X, _ => X
  | .v (.bool false), _, Y => Y
  | _, _, _ => False
def isC : Op → Bool
  | .call ⟨.value _, _, _⟩ => true
  | _ => false
def oT : Operand → List Nat
  | .tmp z => [z]
  | _ => []
def opT (o : Op) : List Nat := (o.operands.toList.map oT).flatten
def pureOp : Op → Bool
  | .extract _ _ => true
  | .move _ => true
  | _ => false
def nct : List Oper → List Nat
  | [] => []
  | ⟨d, op, _, _, _, _⟩ :: l => if isC op = true then nct l else if pureOp op = true then (match d with | some d => if d ∈ nct l then opT op ++ nct l else nct l | none => nct l) else opT op ++ nct l
mutual
def AV.rf : AV → Bool
  | .lo i => i % 16 != 15
  | .bp i _ => i % 16 != 15
  | .le i _ _ _ => i % 16 != 15
  | .vw i _ _ _ => i % 16 != 15
  | .ag cs => AV.rfL cs
  | .tu cs => AV.rfL cs
  | _ => true
def AV.rfL : List AV → Bool
  | [] => true
  | c :: cs => AV.rf c && AV.rfL cs
end
def Blk.rf : Blk → Bool
  | .box _ cs => AV.rfL cs
  | _ => true
def rsv (s : Sto) : Bool := s.any fun p => p.1 % 16 == 15
def hasC (l : List Oper) : Bool := l.any fun o => isC o.op
def rchk (l : List Oper) (t : List AV) (s : Sto) : Bool := ((nct l).all fun z => AV.rf (gT t z)) && s.all fun p => p.2.rf
def dchk (l : List Oper) (t : List AV) (s : Sto) : Bool := !rsv s || (!hasC l || rchk l t s)
def EW : Code → Qt → List AV → Sto → Prop
  | .skip, Q, t, s => Q .normal t s
  | .region _ ⟨l⟩ dr, Q, t, s => (dr = true → dchk l t s = true) ∧ opsW P ty (gds l) dr l t s (kN Q)
  | .seq a b, Q, t, s => EW a (fun e t s => match e with | .normal => EW b Q t s | e => Q e t s) t s
  | .cond c x y, Q, t, s => cdW (eT t c) (EW x Q t s) (EW y Q t s)
  | .block id b, Q, t, s => EW b (kB id Q) t s
  | .exit id, Q, t, s => Q (.exit id) t s
  | .loop b, Q, t, s => ∃ (ι : Type) (T : ι → List AV) (S : ι → Sto) (F : Nat → ι → Prop), (∃ n x, F n x ∧ Ent t s (T x) (S x)) ∧ ∀ n x, F n x → EW b (kL T S F n Q) (T x) (S x)
  | .ret, Q, t, s => Q .ret t s
  | _, _, _, _ => False
def kS (b : Code) (Q : Qt) : Qt := fun e t s => match e with | .normal => EW P ty b Q t s | e => Q e t s
def cdK (c : AV) (x y : Code) (Q : Qt) (t : List AV) (s : Sto) : Prop := cdW c (EW P ty x Q t s) (EW P ty y Q t s)
def gdK (c : AV) (b : Bool) (q : Bool) (op : Op) (o : TypeId) (d : Option Nat) (g : Gd) (r : List Oper) (t : List AV) (s : Sto) (K : Kt) : Prop := guardW c b (opX P ty q op o d t s (kO P ty g q r K)) (opsW P ty g q r (pT t d (.v undef)) s K)
def loopK (b : Code) (Q : Qt) (t : List AV) (s : Sto) : Prop := EW P ty (.loop b) Q t s
end
end Go.Proofs.YtdjdleldocfpaaaDoor.F
end
