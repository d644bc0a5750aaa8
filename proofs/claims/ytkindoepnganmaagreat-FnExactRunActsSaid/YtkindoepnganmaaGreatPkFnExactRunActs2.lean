/- Packed by a program of the session (wip/tools/pack.py): what the claim's theorem reaches, of the texts that wip/ and the kit's printer lay. -/
import Derived.Test.YtkindoepnganmaaGreatPkFnExactRunActs1
import Derived.Laws.StructEq
import Derived.Lib.SlicesCompact
import Derived.Test.YtkindoepnganmaaGreatProg
import Derived.Below
import Derived.Deep.Draws
import Derived.Deep.AppendLies
import Derived.Maps.AppendAt
import Derived.OwnWalk
import Derived.Laws.BytesArg
import Derived.Laws.MakeOwn
import Derived.Laws.OwnMore
import Derived.Deep.OwnRows
import Derived.Tactics
import Derived.Lib.ConvBytes
import Derived.Laws.Slices
import Derived.WalkKit
import Derived.KernelRfl
import Derived.RowKit3
import Derived.Deep.LoopGhost
import Derived.Deep.QuietTactic
import Derived.BigQuiet
import Derived.WideLaws
import Derived.Deep.DeepCutAuto
import Derived.Deep.CutBlock
import Derived.Deep.RegionHeld3
import Derived.Laws.Rows
import Derived.Lib.AppendStr
import Derived.ArgAppend
import Derived.Laws.IdiomCopy
import Derived.OrdersHeld
import Derived.Laws.BitsLemmas
import Derived.RowKit
import Derived.WalkSpells
import Derived.LoopTactic
import Derived.Shelf.Abstract
import Derived.Laws.CopyOwn
import Derived.Lib.SliceRun
import Derived.StillTailTactics
section
namespace Go.Proofs.YtkindoepnganmaaGreatW.PrintWords
open Go.RowKit
section
variable {P : Program} {d : Nat} {xs ys : Array Value} {f : Field} {fs : List Field} {a b : Value} {r s : Bool} {w : World}
theorem eqf_last (hn : (f.name == "_") = false) (ha : (part f.type xs f.offset).run P w = .ok a w) (hb : (part f.type ys f.offset).run P w = .ok b w) (he : (Op.equalIn d f.type a b).run P w = .ok r w) : (Op.eqFields d xs ys [f]).run P w = .ok r w := by
  have hn' : f.name ≠ "_" := by simpa using hn
  simp only [Op.eqFields, if_pos hn', Sem.run_bind, ha, hb, he, Result.andThen_ok]
  cases r <;> simp
theorem eqf_cons (hn : (f.name == "_") = false) (ha : (part f.type xs f.offset).run P w = .ok a w) (hb : (part f.type ys f.offset).run P w = .ok b w) (he : (Op.equalIn d f.type a b).run P w = .ok r w) (hr : (Op.eqFields d xs ys fs).run P w = .ok s w) : (Op.eqFields d xs ys (f :: fs)).run P w = .ok (r && s) w := by
  have hn' : f.name ≠ "_" := by simpa using hn
  rw [Op.eqFields]
  simp only [if_pos hn', Sem.run_bind, ha, hb, he, Result.andThen_ok]
  cases r
  · simp
  · simpa using hr
theorem eqA_of {t : TypeId} {fs : Array Field} (hu : P.underlying t = some (.struct fs)) (hp : P.stoodInHeld t = false) (h : (Op.eqFields d xs ys fs.toList).run P w = .ok r w) : (Op.equalIn (d + 1) t (.agg xs) (.agg ys)).run P w = .ok r w := by
  have hf : P.fieldsOf t = fs := by simp [Program.fieldsOf, hu]
  rw [run_equalIn_struct (P := P) w d t xs ys (by rw [hf]; exact hu) hp, hf]
  exact h
end
end Go.Proofs.YtkindoepnganmaaGreatW.PrintWords
end

section
namespace Go.Proofs.YtkindoepnganmaaGreatW.PrintWords
open Go.RowKit
section
variable {P : Program} {ops : Array Oper} {rest : List Oper} {o : Oper} {a : Act} {Q : Exit → Act → World → Prop} {W : World}
theorem gate_guard (hw : Region.wanted o (yielded ops a.tmps) = true) (h : wpList P ops Q ({ o with guard := none } :: rest) a W) : wpList P ops Q (o :: rest) a W := by
  have h1 : Region.wanted { o with guard := none } (yielded ops a.tmps) = true := rfl
  unfold wpList at h ⊢
  rw [if_pos h1] at h
  rw [if_pos hw]
  exact h
end
end Go.Proofs.YtkindoepnganmaaGreatW.PrintWords
end

section
namespace Go.Proofs.YtkindoepnganmaaGreatW.PrintMore
open Go.RowKit Go.Proofs.YtkindoepnganmaaGreatW.PrintWords
namespace Kd
open Go.Proofs.YtkindoepnganmaaGreatW.PrintWords.Kd
end Kd
namespace Kd
open Go.Proofs.YtkindoepnganmaaGreatW.PrintWords.Kd
section
variable {α : Type} {d : Kd α} {e base g N : Nat} {ok : Nat → Prop} {W w1 : World} {u v : Value} {xs : List α}
theorem R_old (hu : d.R e W base ok u xs) (hb : Below W.heap.size W w1) : d.R e w1 base (fun k => ok k ∧ k < W.heap.size) u xs :=
  R_mono (R_below (R_bound hu) hb) (fun _ h => ⟨h.1, h.2.2.1⟩)
theorem R_told (h : d.R e w1 base (fun k => ok k ∧ k < N) u xs) (hbase : ∀ k, v.ownBlock = some k → N ≤ k) : d.R e w1 base (fun k => (ok k ∧ some k ≠ v.ownBlock) ∧ k < N) u xs :=
  R_mono h (fun k hk => ⟨⟨hk.1, fun e => Nat.lt_irrefl _ (Nat.lt_of_lt_of_le hk.2 (hbase k e.symm))⟩, hk.2⟩)
end
end Kd
theorem max2_int (k k' : IntKind) (x y : Int) : Builtin.max2 (.int k x) (.int k' y) = pure (.int k (if x < y then y else x)) := by simp only [Builtin.max2, gt_iff_lt]
theorem min2_int (k k' : IntKind) (x y : Int) : Builtin.min2 (.int k x) (.int k' y) = pure (.int k (if y < x then y else x)) := by simp only [Builtin.min2]
theorem max_two (ats : Array TypeId) (ty : TypeId) (a b : Value) : Builtin.max_ ats ty #[a, b] = (Builtin.max2 a b >>= fun s => pure s) := by simp only [Builtin.max_, List.foldlM_cons, List.foldlM_nil]
theorem min_two (ats : Array TypeId) (ty : TypeId) (a b : Value) : Builtin.min_ ats ty #[a, b] = (Builtin.min2 a b >>= fun s => pure s) := by simp only [Builtin.min_, List.foldlM_cons, List.foldlM_nil]
end Go.Proofs.YtkindoepnganmaaGreatW.PrintMore
namespace Go.Proofs.YtkindoepnganmaaGreatW.PrintWords
open Go.RowKit
section
variable {P : Program} {ops : Array Oper} {rest : List Oper} {o : Oper} {a : Act} {Q : Exit → Act → World → Prop} {W : World}
theorem gate_callee {f : FuncId} {as1 : Array Operand} {ts : Array TypeId} (_ho : o.op = .call { callee := .value (.func f), args := as1, argTypes := ts }) (h : wpList P ops Q (o :: rest) a W) : wpList P ops Q (o :: rest) a W := h
theorem gate_builtin {b : Builtin} {xs : Array Operand} {ts : Array TypeId} (_ho : o.op = .call { callee := .builtin b, args := xs, argTypes := ts }) (h : wpList P ops Q (o :: rest) a W) : wpList P ops Q (o :: rest) a W := h
end
def mx (a b : Int) : Int := if a < b then b else a
def mn (a b : Int) : Int := if b < a then b else a
def shl (k : IntKind) (x y : Int) : Int := k.wrap (x * 2 ^ min y.toNat k.bits)
def shr (k : IntKind) (x y : Int) : Int := x / 2 ^ min y.toNat k.bits
namespace Kd
section
variable {α : Type} {d : Kd α} {e base : Nat} {ok : Nat → Prop} {W w1 : World} {v : Value} {xs : List α}
end
section
variable {α : Type} {d : Kd α} {e base g n cap : Nat} {ok oki okp : Nat → Prop} {W : World} {xs : List α} {i : Int} {c : List Value}
end
section
variable {α : Type} {d : Kd α} {e base b b' g N : Nat} {ok ok1 : Nat → Prop} {W W2 w1 : World} {u v : Value} {xs ys : List α} {S : Nat → Prop}
theorem R_reok (hE : d.E = []) (h : d.R e W base ok1 v xs) (hok : ∀ k, v.ownBlock = some k → ok k) : d.R e W base ok v xs := R_mono (R_tight hE h) (fun k hk => hok k hk.symm)
theorem R_keptB (h : d.R e W base ok v xs) (hk : Kept W W2 S) (hne : ∀ k, ok k → ¬ S k) : d.R e W2 base (fun k => ok k ∧ (¬ S k ∧ k < W.heap.size)) v xs :=
  R_kept (R_mono (R_bound h) (fun k hk => ⟨hk.1, hne k hk.1, hk.2.2.1⟩)) hk (fun _ hk => hk.2.1)
end
end Kd
end Go.Proofs.YtkindoepnganmaaGreatW.PrintWords
namespace Go.Proofs.YtkindoepnganmaaGreatW.PrintWords
open Go.RowKit
namespace Kd
def V {α : Type} (d : Kd α) (_e : Nat) (W : World) (_base : Nat) (ok : Nat → Prop) (v : Value) (xs : List α) : Prop := ∃ A c, v = .slice A xs.length c ∧ xs.length ≤ c ∧ F d W ok A xs.length xs
section
variable {α β : Type} {d : Kd α} {e base base' n m c g N' lo hi : Nat} {ok ok' S : Nat → Prop} {w W w1 : World} {A : Option Addr} {ad : Addr} {u v v1 : Value} {xs : List α}
end
end Kd
end Go.Proofs.YtkindoepnganmaaGreatW.PrintWords
end

section
namespace Go.Proofs.YtkindoepnganmaaGreat.F
open Go.RowKit Go.Proofs.YtkindoepnganmaaGreatW.PrintWords Go.Proofs.YtkindoepnganmaaGreatW.PrintLast Go.Proofs.YtkindoepnganmaaGreatW.PrintMore
set_option linter.unusedVariables false
set_option linter.unusedSimpArgs false
def I64 (n : Int) : Prop := -9223372036854775808 ≤ n ∧ n ≤ 9223372036854775807
def idxF {α : Type} (p : α → Bool) (l : List α) : Int := match l.findIdx? p with
  | some i => (i : Int)
  | none => -1
theorem idxF_hit {α : Type} {z : α} (p : α → Bool) (l : List α) (k : Nat) (hlt : k < l.length) (h : p (l.getD k z) = true) (hm : ∀ j, j < k → p (l.getD j z) = false) : idxF p l = k := by
  unfold idxF
  have e : ∀ j (hj : j < l.length), l.getD j z = l[j] := fun j hj => by rw [List.getD_eq_getElem?_getD, List.getElem?_eq_getElem hj]; rfl
  have : l.findIdx? p = some k := by
    rw [List.findIdx?_eq_some_iff_getElem]
    refine ⟨hlt, by rw [← e k hlt]; exact h, fun j hj => ?_⟩
    rw [← e j (by omega), hm j hj]
    simp
  rw [this]
theorem idxF_miss {α : Type} {z : α} (p : α → Bool) (l : List α) (hm : ∀ j, j < l.length → p (l.getD j z) = false) : idxF p l = -1 := by
  unfold idxF
  have : l.findIdx? p = none := by
    rw [List.findIdx?_eq_none_iff]
    intro x hx
    obtain ⟨j, hj, rfl⟩ := List.getElem_of_mem hx
    have := hm j hj
    rwa [List.getD_eq_getElem?_getD, List.getElem?_eq_getElem hj] at this
  rw [this]
theorem idxF_any {α : Type} (p : α → Bool) (l : List α) : decide (0 ≤ idxF p l) = l.any p := by
  unfold idxF
  cases h : l.findIdx? p with
  | some i =>
    rw [List.findIdx?_eq_some_iff_getElem] at h
    obtain ⟨hi, hp, _⟩ := h
    have : l.any p = true := List.any_eq_true.2 ⟨l[i], List.getElem_mem hi, hp⟩
    rw [this]
    simp
  | none =>
    rw [List.findIdx?_eq_none_iff] at h
    have : l.any p = false := by
      rw [List.any_eq_false]
      intro x hx
      rw [h x hx]
      simp
    rw [this]
    simp
theorem rd_nat (l : List Int) (j : Nat) : rd l (j : Int) = l.getD j 0 := rfl
theorem rd_mem {l : List Int} {j : Nat} (h : j < l.length) : rd l (j : Int) ∈ l := by
  rw [rd_nat, List.getD_eq_getElem?_getD, List.getElem?_eq_getElem h]
  exact List.getElem_mem h
def allO {α : Type} (f : α → Option Bool) (l : List α) : Option Bool := (l.mapM f).bind fun bs => some (bs.all id)
theorem allO_some {α : Type} {f : α → Option Bool} : ∀ {l : List α} {r : Bool}, allO f l = some r → (∀ x ∈ l, ∃ v, f x = some v) ∧ r = !(l.any fun x => !((f x).getD false)) := by
  intro l
  unfold allO
  induction l with
  | nil => intro r h; simp at h; simp [h]
  | cons x l ih =>
    intro r h
    rw [List.mapM_cons] at h
    obtain ⟨bs, h1, h2⟩ := Option.bind_eq_some_iff.1 h
    obtain ⟨v, hv, h3⟩ := Option.bind_eq_some_iff.1 h1
    obtain ⟨vs, hvs, h4⟩ := Option.bind_eq_some_iff.1 h3
    simp at h4 h2
    subst h4
    obtain ⟨i1, i2⟩ := ih (r := vs.all id) (by rw [hvs]; rfl)
    refine ⟨fun y hy => ?_, ?_⟩
    · rcases List.mem_cons.1 hy with rfl | hy
      · exact ⟨v, hv⟩
      · exact i1 y hy
    · simp only [List.any_cons, hv, Option.getD_some, ← h2, List.all_cons, id]
      have i3 : (vs.all fun x => x) = vs.all id := rfl
      rw [Bool.not_or, Bool.not_not, ← i2]
theorem allO_of {α : Type} {f : α → Option Bool} {p : α → Bool} : ∀ {l : List α}, (∀ x ∈ l, f x = some (p x)) → allO f l = some (l.all p) := by
  intro l
  unfold allO
  induction l with
  | nil => intro _; rfl
  | cons x l ih =>
    intro h
    have i1 := ih (fun y hy => h y (List.mem_cons_of_mem _ hy))
    obtain ⟨vs, hvs, h4⟩ := Option.bind_eq_some_iff.1 i1
    rw [List.mapM_cons, h x (List.mem_cons_self ..), hvs]
    simp at h4
    simp [h4]
def slices_ContainsFunc_HedgeOk.f (l0 : List Int) : Option (Bool) := some (l0.any fun x => decide (x < 0) || decide (x > 1000))
end Go.Proofs.YtkindoepnganmaaGreat.F
end

section
namespace Go.Proofs.YtkindoepnganmaaGreat.F
open Go.RowKit Go.Proofs.YtkindoepnganmaaGreatW.PrintWords Go.Proofs.YtkindoepnganmaaGreatW.PrintLast Go.Proofs.YtkindoepnganmaaGreatW.PrintMore
set_option linter.unusedVariables false
set_option linter.unusedSimpArgs false
structure SlaGrid where
  f0 : Int
  f1 : Int
structure SlaMaze where
  f0 : SlaGrid
  f1 : Int
structure SlaHedge where
  f0 : SlaMaze
  f1 : (List Int)
  f2 : Int
structure SlaGarden where
  f0 : SlaHedge
  f1 : Int
  f2 : (List Int)
  f3 : Int
structure SlaAct where
  f0 : Int
  f1 : Int
  f2 : Int
def zlaAct : SlaAct := ⟨(0 : Int), (0 : Int), (0 : Int)⟩
def rd_laAct (xs : List SlaAct) (i : Int) : SlaAct := xs.getD i.toNat zlaAct
structure SAct where
  f0 : Int
  f1 : Int
  f2 : Int
def zAct : SAct := ⟨(0 : Int), (0 : Int), (0 : Int)⟩
def rd_Act (xs : List SAct) (i : Int) : SAct := xs.getD i.toNat zAct
end Go.Proofs.YtkindoepnganmaaGreat.F
end

section
namespace Go.Proofs.YtkindoepnganmaaGreat.F
open Go.RowKit Go.Proofs.YtkindoepnganmaaGreatW.PrintWords Go.Proofs.YtkindoepnganmaaGreatW.PrintLast Go.Proofs.YtkindoepnganmaaGreatW.PrintMore
set_option linter.unusedVariables false
set_option linter.unusedSimpArgs false
attribute [local go_sem] max2_int min2_int max_two min_two
def errW : Option Int → Value
  | none => .nilIface
  | some c => .iface 0 (.int .i64 c)
theorem errW_none : errW none = .nilIface := rfl
theorem errW_some (c : Int) : errW (some c) = .iface 0 (.int .i64 c) := rfl
theorem info3 : (Tryz.prog.info? 3).map (fun i => (i.zero, i.size, i.bytes)) = some (some (.int .i64 0), 1, 8) := by kernel_rfl
def k23 : Kd SlaGrid := Kd.iso (Kd.pair (Kd.int .i64) (Kd.int .i64)) (fun x : SlaGrid => (x.f0, x.f1))
theorem k23_open {w : World} {x : SlaGrid} {cs : List Value} (h : k23.K w x cs) : cs = [.int .i64 x.f0, .int .i64 x.f1] := by
  obtain ⟨_, _, rfl, rfl, rfl⟩ := h
  exact rfl
def k25 : Kd SlaMaze := Kd.iso (Kd.pair k23 (Kd.int .i64)) (fun x : SlaMaze => (x.f0, x.f1))
theorem k25_open {w : World} {x : SlaMaze} {cs : List Value} (h : k25.K w x cs) : cs = [.int .i64 x.f0.f0, .int .i64 x.f0.f1, .int .i64 x.f1] := by
  obtain ⟨_, _, rfl, s0, rfl⟩ := h
  obtain rfl := k23_open s0
  exact rfl
def k28 : Kd SlaHedge := Kd.iso (Kd.pair k25 (Kd.pair (Kd.slice 3 (Kd.int .i64)) (Kd.int .i64))) (fun x : SlaHedge => (x.f0, x.f1, x.f2))
theorem k28_open {w : World} {x : SlaHedge} {cs : List Value} (h : k28.K w x cs) : ∃ A3 c3, cs = [.int .i64 x.f0.f0.f0, .int .i64 x.f0.f0.f1, .int .i64 x.f0.f1, .slice A3 x.f1.length c3, .int .i64 x.f2] ∧ x.f1.length ≤ c3 ∧ (Kd.int .i64).C w A3 x.f1.length x.f1 := by
  obtain ⟨_, _, rfl, s0, ⟨_, _, rfl, ⟨A3, c3, rfl, l3, g3⟩, rfl⟩⟩ := h
  obtain rfl := k25_open s0
  exact ⟨A3, c3, rfl, l3, g3⟩
def k30 : Kd SlaGarden := Kd.iso (Kd.pair k28 (Kd.pair (Kd.int .i64) (Kd.pair (Kd.slice 3 (Kd.int .i64)) (Kd.int .i64)))) (fun x : SlaGarden => (x.f0, x.f1, x.f2, x.f3))
theorem k30_open {w : World} {x : SlaGarden} {cs : List Value} (h : k30.K w x cs) : ∃ A3 c3 A6 c6, cs = [.int .i64 x.f0.f0.f0.f0, .int .i64 x.f0.f0.f0.f1, .int .i64 x.f0.f0.f1, .slice A3 x.f0.f1.length c3, .int .i64 x.f0.f2, .int .i64 x.f1, .slice A6 x.f2.length c6, .int .i64 x.f3] ∧ x.f0.f1.length ≤ c3 ∧ (Kd.int .i64).C w A3 x.f0.f1.length x.f0.f1 ∧ x.f2.length ≤ c6 ∧ (Kd.int .i64).C w A6 x.f2.length x.f2 := by
  obtain ⟨_, _, rfl, s0, ⟨_, _, rfl, rfl, ⟨_, _, rfl, ⟨A6, c6, rfl, l6, g6⟩, rfl⟩⟩⟩ := h
  obtain ⟨A3, c3, rfl, l3, g3⟩ := k28_open s0
  exact ⟨A3, c3, A6, c6, rfl, l3, g3, l6, g6⟩
def k50 : Kd SlaAct := Kd.iso (Kd.pair (Kd.int .i64) (Kd.pair (Kd.int .i64) (Kd.int .i64))) (fun x : SlaAct => (x.f0, x.f1, x.f2))
theorem k50_open {w : World} {x : SlaAct} {cs : List Value} (h : k50.K w x cs) : cs = [.int .i64 x.f0, .int .i64 x.f1, .int .i64 x.f2] := by
  obtain ⟨_, _, rfl, rfl, ⟨_, _, rfl, rfl, rfl⟩⟩ := h
  exact rfl
theorem k50_openM {w : World} {base : Nat} {ok : Nat → Prop} {x : SlaAct} {cs : List Value} (h : k50.M w base ok x cs) : cs = [.int .i64 x.f0, .int .i64 x.f1, .int .i64 x.f2] := by
  obtain ⟨_, _, rfl, rfl, ⟨_, _, rfl, rfl, rfl⟩⟩ := h
  exact rfl
theorem k50_mk (w : World) (x : SlaAct)  : k50.K w x [.int .i64 x.f0, .int .i64 x.f1, .int .i64 x.f2] := ⟨[.int .i64 x.f0], [.int .i64 x.f1, .int .i64 x.f2], rfl, rfl, ⟨[.int .i64 x.f1], [.int .i64 x.f2], rfl, rfl, rfl⟩⟩
theorem k50_mkM (w : World) (base : Nat) (ok : Nat → Prop) (x : SlaAct)  : k50.M w base ok x [.int .i64 x.f0, .int .i64 x.f1, .int .i64 x.f2] := ⟨[.int .i64 x.f0], [.int .i64 x.f1, .int .i64 x.f2], rfl, rfl, ⟨[.int .i64 x.f1], [.int .i64 x.f2], rfl, rfl, rfl⟩⟩
def k53 : Kd SAct := Kd.iso (Kd.pair (Kd.int .i64) (Kd.pair (Kd.int .i64) (Kd.int .i64))) (fun x : SAct => (x.f0, x.f1, x.f2))
theorem k53_open {w : World} {x : SAct} {cs : List Value} (h : k53.K w x cs) : cs = [.int .i64 x.f0, .int .i64 x.f1, .int .i64 x.f2] := by
  obtain ⟨_, _, rfl, rfl, ⟨_, _, rfl, rfl, rfl⟩⟩ := h
  exact rfl
theorem k53_openM {w : World} {base : Nat} {ok : Nat → Prop} {x : SAct} {cs : List Value} (h : k53.M w base ok x cs) : cs = [.int .i64 x.f0, .int .i64 x.f1, .int .i64 x.f2] := by
  obtain ⟨_, _, rfl, rfl, ⟨_, _, rfl, rfl, rfl⟩⟩ := h
  exact rfl
theorem k53_mk (w : World) (x : SAct)  : k53.K w x [.int .i64 x.f0, .int .i64 x.f1, .int .i64 x.f2] := ⟨[.int .i64 x.f0], [.int .i64 x.f1, .int .i64 x.f2], rfl, rfl, ⟨[.int .i64 x.f1], [.int .i64 x.f2], rfl, rfl, rfl⟩⟩
theorem k53_mkM (w : World) (base : Nat) (ok : Nat → Prop) (x : SAct)  : k53.M w base ok x [.int .i64 x.f0, .int .i64 x.f1, .int .i64 x.f2] := ⟨[.int .i64 x.f0], [.int .i64 x.f1, .int .i64 x.f2], rfl, rfl, ⟨[.int .i64 x.f1], [.int .i64 x.f2], rfl, rfl, rfl⟩⟩
theorem at_T53 {w : World} {A : Option Addr} {n : Nat} {xs : List SAct} (h : Kd.C k53 w A n xs) (i : Int) (h0 : 0 ≤ i) (h1 : i < n) : ∃ ad , A = some ad ∧ w.cell? (ad.add (i.toNat * 3)) = some (.int .i64 (rd_Act xs i).f0) ∧ w.cell? ⟨(ad.add (i.toNat * 3)).block, (ad.add (i.toNat * 3)).off + 1, none⟩ = some (.int .i64 (rd_Act xs i).f1) ∧ w.cell? ⟨(ad.add (i.toNat * 3)).block, (ad.add (i.toNat * 3)).off + 2, none⟩ = some (.int .i64 (rd_Act xs i).f2) := by
  obtain ⟨ad, c, e, _, hK, hc0⟩ := Kd.C_get h zAct i h0 h1
  have hc : ∀ j u, c[j]? = some u → w.cell? (ad.add (i.toNat * 3 + j)) = some u := hc0
  obtain rfl := k53_open hK
  exact ⟨ad, e, hc 0 _ rfl, by rw [← add_field _ _ 1 (by omega)]; exact hc 1 _ rfl, by rw [← add_field _ _ 2 (by omega)]; exact hc 2 _ rfl⟩
theorem eqA32 (d : Nat) (w : World) (x0 y0 : Int) (x1 y1 : Int) :
    (Op.equalIn (d + 2) 32 (.agg #[.int .i64 x0, .int .i64 x1]) (.agg #[.int .i64 y0, .int .i64 y1])).run Tryz.prog w = .ok (x0 == y0 && (x1 == y1)) w := by
  refine eqA_of Tryz.underlying32 (by kernel_rfl) ?_
  refine eqf_cons (by rfl) (by go_simp; rfl) (by go_simp; rfl) (by go_simp) ?_
  exact eqf_last (by rfl) (by go_simp; rfl) (by go_simp; rfl) (by go_simp)
theorem eqA34 (d : Nat) (w : World) (x0 y0 : Int) (x1 y1 : Int) (x2 y2 : Int) :
    (Op.equalIn (d + 3) 34 (.agg #[.int .i64 x0, .int .i64 x1, .int .i64 x2]) (.agg #[.int .i64 y0, .int .i64 y1, .int .i64 y2])).run Tryz.prog w = .ok ((x0 == y0 && (x1 == y1)) && (x2 == y2)) w := by
  refine eqA_of Tryz.underlying34 (by kernel_rfl) ?_
  refine eqf_cons (by rfl) (by go_simp) (by go_simp) (eqA32 (d + 0) w _ _ _ _) ?_
  exact eqf_last (by rfl) (by go_simp; rfl) (by go_simp; rfl) (by go_simp)
end Go.Proofs.YtkindoepnganmaaGreat.F
end

section
namespace Go.Proofs.YtkindoepnganmaaGreat.F
open Go.RowKit Go.Proofs.YtkindoepnganmaaGreatW.PrintWords Go.Proofs.YtkindoepnganmaaGreatW.PrintLast Go.Proofs.YtkindoepnganmaaGreatW.PrintMore
set_option linter.unusedVariables false
set_option linter.unusedSimpArgs false
theorem heap_new2 (w : World) (o1 o2 : Obj) : ((w.alloc o1).alloc o2).heap[w.heap.size + 1]? = some o2 := by
  have := heap_alloc_new (w.alloc o1) o2
  rwa [show (w.alloc o1).heap.size = w.heap.size + 1 by simp] at this
theorem row_open {w : World} {base : Nat} {v : Value} {xs : List Int} {e : Nat} (h : Kd.R (Kd.int .i64) e w base (fun _ => True) v xs) (hx : 0 < xs.length) :
    ∃ g cap cur, v = .slice (some ⟨g, 0, none⟩) xs.length cap ∧ xs.length ≤ cap ∧ base ≤ g ∧ w.heap[g]? = some (.cells (List.toArray cur) e (0, 0)) ∧ cur.length = cap ∧ cap ≤ maxLen ∧ ∀ j, j < xs.length → cur[j]? = some (.int .i64 (xs.getD j 0)) := by
  obtain ⟨_, h⟩ := Kd.own_of_R h
  rcases h with ⟨rfl, h0⟩ | ⟨g, cap, cur, rfl, hb, hh, hn, hc, hs, hl⟩
  · omega
  · refine ⟨g, cap, cur.toList, rfl, hn, hb, by simpa using hh, by simpa using hs, hc, fun j hj => ?_⟩
    have e1 := congrArg (fun l : List Value => l[j]?) hl
    simp only [List.getElem?_take, Nat.mul_one] at e1
    rw [if_pos hj] at e1
    rw [e1]
    simp [encs, List.getD_eq_getElem?_getD, List.getElem?_eq_getElem hj]
theorem row_close {w : World} {base g cap e : Nat} {cur : List Value} {xs : List Int} (hb : base ≤ g) (hh : w.heap[g]? = some (.cells (List.toArray cur) e (0, 0))) (hn : xs.length ≤ cap) (hc : cap ≤ maxLen) (hs : cur.length = cap) (hx : ∀ j, j < xs.length → cur[j]? = some (.int .i64 (xs.getD j 0))) :
    Kd.R (Kd.int .i64) e w base (fun _ => True) (.slice (some ⟨g, 0, none⟩) xs.length cap) xs := by
  refine Kd.R_of_own ?_ (fun _ _ => trivial)
  refine ⟨by simp [encs], .inr ⟨g, cap, cur.toArray, by simp, hb, hh, by simpa using hn, hc, by simpa using hs, ?_⟩⟩
  apply List.ext_getElem?
  intro j
  rw [List.getElem?_take]
  by_cases hj : j < xs.length
  · rw [if_pos (by simpa using hj), List.toList_toArray, hx j hj]
    simp [encs, List.getD_eq_getElem?_getD, List.getElem?_eq_getElem hj]
  · rw [if_neg (by simpa using hj)]
    symm
    refine List.getElem?_eq_none ?_
    simp [encs]; omega
theorem grown_refl (w : World) (r : Option Nat) : w.grownBy w r := ⟨rfl, rfl, rfl, Nat.le_refl _, fun _ _ _ => rfl⟩
theorem grown_below {w W W1 : World} {r : Option Nat} (h : w.grownBy W r) (hb : Below W.heap.size W W1) : w.grownBy W1 r :=
  ⟨hb.os.trans h.os, hb.tape.trans h.tape, hb.output.trans h.output, Nat.le_trans h.size hb.size, fun i hi hr => (hb.block i (Nat.lt_of_lt_of_le hi h.size)).trans (h.block i hi hr)⟩
theorem grown_set {w W : World} {b : Nat} (h : w.grownBy W (some b)) (i : Nat) (v : Value) : w.grownBy (W.setCell ⟨b, i, none⟩ v) (some b) :=
  ⟨h.os, h.tape, h.output, by simpa [World.setCell] using h.size, fun k hk hr => (Below.heap_setCell W ⟨b, i, none⟩ v k (fun e => hr (by rw [e]))).trans (h.block k hk hr)⟩
theorem setCells_row {w : World} {b e : Nat} : ∀ (vs : List Value) (o : Nat) (W : World) (c2 : List Value), W.heap[b]? = some (.cells c2.toArray e (0, 0)) → o + vs.length ≤ c2.length → w.grownBy W (some b) →
    ∃ c3 : List Value, (W.setCells b o vs).heap[b]? = some (.cells c3.toArray e (0, 0)) ∧ c3.length = c2.length ∧ (∀ t, t < o → c3[t]? = c2[t]?) ∧ w.grownBy (W.setCells b o vs) (some b)
  | [], o, W, c2, h, hl, hg => ⟨c2, h, rfl, fun _ _ => rfl, hg⟩
  | v :: vs, o, W, c2, h, hl, hg => by
    simp only [List.length_cons] at hl
    obtain ⟨c3, h1, h2, h3, h4⟩ := setCells_row vs (o + 1) (W.setCell ⟨b, o, none⟩ v) (c2.set o v) (blk_put h o v (by simp)) (by rw [List.length_set]; omega) (grown_set hg o v)
    refine ⟨c3, h1, by rw [h2, List.length_set], fun t ht => ?_, h4⟩
    rw [h3 t (by omega), List.getElem?_set, if_neg (by omega)]
end Go.Proofs.YtkindoepnganmaaGreat.F
end
