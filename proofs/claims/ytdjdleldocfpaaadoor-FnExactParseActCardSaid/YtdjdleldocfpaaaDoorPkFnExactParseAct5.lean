/- Packed by a program of the session (wip/tools/pack.py): what the claim's theorem reaches, of the texts that wip/ and the kit's printer lay. -/
import Derived.Test.YtdjdleldocfpaaaDoorPkFnExactParseAct4
import Derived.StillTailTactics
import Derived.Lib.SlicesCompact
import Derived.Deep.LoopGhost
import Derived.Shelf.Abstract
section
namespace Go.Proofs.YtdjdleldocfpaaaDoor.F
open Go.RowKit Go.Proofs.YtdjdleldocfpaaaDoorW.PrintWords Go.Proofs.YtdjdleldocfpaaaDoorW.PrintLast Go.Proofs.YtdjdleldocfpaaaDoorW.PrintMore
set_option linter.unusedVariables false
set_option linter.unusedSimpArgs false
theorem getD_lt {l : Array Bool} {i : Nat} {b : Bool} (h : i < l.size) : l.getD i b = l[i] := by simp [h]
theorem getD_ge {l : Array Bool} {i : Nat} {b : Bool} (h : ¬ i < l.size) : l.getD i b = b := by simp [h]
def drN (ty : TypeId → Option TI) (l : List Oper) : Nat := (l.takeWhile fun o => rot (ty o.type) o.op).length
def rch (ops : Array Oper) (i : Nat) : Nat → Nat → Bool
  | 0, _ => false
  | f + 1, d => match ops[d]? with
    | some o => (o.after.any fun e => Region.binds .any e && e.on == i) || o.after.any fun e => Region.binds .any e && (decide (i < e.on) && rch ops i f e.on)
    | none => false
def backOk : List Oper → Nat → Bool
  | [], _ => true
  | o :: l, j => (o.after.all fun e => !Region.binds .any e || decide (e.on < j)) && backOk l (j + 1)
def pureT (o : Oper) : Bool := o.guard.isNone && match o.op with | .extract _ _ => true | .move _ => true | _ => false
def pureN (ops : Array Oper) (k : Nat) : Bool := match ops[k]? with | some o => pureT o | none => false
def tlB (ops : Array Oper) : Nat → Nat → Array Bool → Bool
  | 0, _, listed => (Region.ready .any ops listed).isEmpty
  | g + 1, k, listed => (decide (Region.ready .any ops listed = [k]) || ((Region.ready .any ops listed).contains k && pureN ops k && Region.free .any ops listed k)) && tlB ops g (k + 1) (listed.setIfInBounds k true)
def apartAll (ops : Array Oper) (i : Nat) (oi : Oper) : Bool := (List.range ops.size).all fun j => j == i || match ops[j]? with
  | some oj => oj.after.any (fun e => Region.binds .any e && e.on == i) || oi.after.any (fun e => Region.binds .any e && e.on == j) || oi.apart ops oj
  | none => true
def fstB (ops : Array Oper) (i : Nat) : Bool := match ops[i]? with | some o => pureT o && apartAll ops i o | none => false
def opOk (l : List Oper) (n i : Nat) : Bool := match l[i]? with
  | some o => ((List.range n).all fun j => j == i || (o.dst.isNone || (l[j]?).bind (·.dst) != o.dst)) &&
      (o.op.operands.toList.all fun x => match x with
        | .tmp z => (List.range n).all fun j => (l[j]?).bind (·.dst) != some z || rch l.toArray j l.length i
        | _ => true) &&
      match o.guard with
        | some (g, _) => rch l.toArray g l.length i
        | none => true
  | none => true
def tailOk (n : Nat) (l : List Oper) : Bool := (List.range l.length).all fun d => decide (d < n) || (List.range n).all fun i => fstB l.toArray i || rch l.toArray i l.length d
def asg : Op → Bool
  | .assign _ => true
  | _ => false
def drA (ty : TypeId → Option TI) (l : List Oper) : Nat := (l.takeWhile fun o => rot (ty o.type) o.op && !asg o.op).length
def isCk (l : List Oper) (k : Nat) : Bool := match l[k]? with | some o => isC o.op | none => false
def callsOrd (l : List Oper) (n : Nat) : Bool := (List.range n).all fun j => !isCk l j || (List.range j).all fun i => !isCk l i || rch l.toArray i l.length j
def nctOk (l : List Oper) : Bool := l.all fun o => isC o.op || (if pureOp o.op = true then (match o.dst with | some d => !((nct l).contains d) || (opT o.op).all (nct l).contains | none => true) else (opT o.op).all (nct l).contains)
def drOkN (l : List Oper) (n : Nat) : Bool :=
  ((List.range n).all fun i => opOk l n i) && backOk l 0 && tailOk n l && Region.noSelect l.toArray && callsOrd l n && nctOk l &&
    tlB l.toArray (l.length - n) n (Array.replicate n true ++ Array.replicate (l.length - n) false)
def drOk (ty : TypeId → Option TI) (l : List Oper) : Bool := drOkN l (drN ty l) || drOkN l (drA ty l)
inductive Anc (ops : Array Oper) : Nat → Nat → Prop
  | edge {i : Nat} {o : Oper} {e : Edge} (h : ops[i]? = some o) (he : e ∈ o.after) (hb : Region.binds .any e = true) : Anc ops i e.on
  | step {i j : Nat} {o : Oper} {e : Edge} (h : ops[i]? = some o) (he : e ∈ o.after) (hb : Region.binds .any e = true) (r : Anc ops e.on j) : Anc ops i j
theorem Anc.trans {ops : Array Oper} {i j k : Nat} (h : Anc ops i j) (h2 : Anc ops j k) : Anc ops i k := by
  induction h with
  | edge h he hb => exact .step h he hb h2
  | step h he hb _ ih => exact .step h he hb (ih h2)
theorem rch_anc {ops : Array Oper} {i : Nat} : ∀ {f d : Nat}, rch ops i f d = true → Anc ops d i
  | 0, _, h => by simp [rch] at h
  | f + 1, d, h => by
    unfold rch at h
    cases e : ops[d]? with
    | none => rw [e] at h; cases h
    | some o =>
      rw [e] at h
      simp only [Bool.or_eq_true] at h
      rcases h with h | h <;> rw [Array.any_eq_true'] at h <;> obtain ⟨x, h1, h2⟩ := h <;> simp only [Bool.and_eq_true, beq_iff_eq] at h2
      · rw [← h2.2]; exact .edge e h1 h2.1
      · exact .step e h1 h2.1 (rch_anc h2.2.2)
theorem backOk_at : ∀ {l : List Oper} {k j : Nat} {o : Oper}, backOk l k = true → l[j]? = some o → ∀ e ∈ o.after, Region.binds .any e = true → e.on < k + j
  | [], k, j, o, _, h => by simp at h
  | x :: l, k, 0, o, hb, h => by
    intro e he hbe
    simp only [backOk, Bool.and_eq_true] at hb
    obtain rfl : x = o := by simpa using h
    have := Array.all_eq_true'.1 hb.1 e he
    simp only [hbe, Bool.not_true, Bool.false_or, decide_eq_true_eq] at this
    omega
  | x :: l, k, j + 1, o, hb, h => by
    intro e he hbe
    simp only [backOk, Bool.and_eq_true] at hb
    have := backOk_at hb.2 (by simpa using h) e he hbe
    omega
theorem Anc.lt {l : List Oper} (hb : backOk l 0 = true) {i j : Nat} (h : Anc l.toArray i j) : j < i := by
  induction h with
  | edge h he hb' => have := backOk_at hb (by simpa using h) _ he hb'; omega
  | step h he hb' _ ih => have := backOk_at hb (by simpa using h) _ he hb'; omega
theorem Anc.listed {ops : Array Oper} {listed : Array Bool} (hc : ListedClosed .any ops listed) {i j : Nat} (h : Anc ops i j) : listed.getD i false = true → listed.getD j false = true := by
  induction h with
  | edge h he hb => exact fun hi => hc _ _ h hi _ he hb
  | step h he hb _ ih => exact fun hi => ih (hc _ _ h hi _ he hb)
theorem Anc.ready {ops : Array Oper} {listed : Array Bool} (hc : ListedClosed .any ops listed) {i j : Nat} (h : Anc ops i j) (hr : i ∈ Region.ready .any ops listed) : listed.getD j false = true := by
  obtain ⟨_, o, ho, h2⟩ := mem_ready.1 hr
  cases h with
  | edge h he hb => rw [ho] at h; cases h; exact h2 _ he hb
  | step h he hb r => rw [ho] at h; cases h; exact r.listed hc (h2 _ he hb)
end Go.Proofs.YtdjdleldocfpaaaDoor.F
end

section
namespace Go.Proofs.YtdjdleldocfpaaaDoor.F
open Go.RowKit Go.Proofs.YtdjdleldocfpaaaDoorW.PrintWords Go.Proofs.YtdjdleldocfpaaaDoorW.PrintLast Go.Proofs.YtdjdleldocfpaaaDoorW.PrintMore
set_option linter.unusedVariables false
set_option linter.unusedSimpArgs false
section
variable {P : Program} {ty : TypeId → Option TI} {w0 : Bs} {Q : Exit → Act → World → Prop}
theorem gG_gds : ∀ (l : List Oper) (i : Nat), gG (gds l) i = (l[i]?).bind (·.dst)
  | [], i => by simp [gds, gG]
  | o :: l, 0 => by simp [gds, gG]
  | o :: l, i + 1 => by
    have := gG_gds l i
    simpa [gds, gG] using this
def bOf : Value → Option Bool
  | .bool b => some b
  | _ => none
theorem guard_yields {t : List AV} {s : Sto} {φ : Nat → Value} {a : Act} {w : World} (S : Sim w0 t s φ a w) {l : List Oper} {i : Nat} {v : Value} (h : gV t (gG (gds l) i) = .v v) : yielded l.toArray a.tmps i = bOf v := by
  rw [gG_gds] at h
  unfold yielded
  simp only [List.getElem?_toArray]
  cases e : (l[i]?).bind (·.dst) with
  | none => rw [e] at h; simp [gV] at h
  | some d =>
    rw [e] at h
    simp only [gV] at h
    have h1 := RepL_get d S.tmp
    rw [h] at h1
    simp only [Rep] at h1
    rw [List.getD_eq_getElem?_getD, Array.getElem?_toList] at h1
    cases e2 : a.tmps[d]? with
    | none =>
      rw [e2] at h1
      simp only [Option.getD_none] at h1
      subst h1
      simp only [Option.bind_some, e2]
      rfl
    | some u =>
      rw [e2] at h1
      simp only [Option.getD_some] at h1
      subst h1
      simp only [Option.bind_some, e2]
      cases u <;> rfl
theorem guardW_inv {c : AV} {b : Bool} {X Y : Prop} (h : guardW c b X Y) : ∃ v, c = .v v ∧ ((v = .bool b ∧ X) ∨ (bOf v ≠ some b ∧ Y)) := by
  unfold guardW at h
  split at h
  · exact ⟨_, rfl, .inr ⟨by simp [bOf], h⟩⟩
  · exact ⟨_, rfl, .inl ⟨rfl, h⟩⟩
  · exact ⟨_, rfl, .inl ⟨rfl, h⟩⟩
  · exact ⟨_, rfl, .inr ⟨by simp [bOf], h⟩⟩
  · exact ⟨_, rfl, .inr ⟨by simp [bOf], h⟩⟩
  · exact h.elim
theorem opsW_ok (T : TyOk P ty) {l0 : List Oper} {K : Kt} (hK : ∀ φ t s a w, K t s → Sim w0 t s φ a w → Q .normal a w) : ∀ (l : List Oper) {t : List AV} {s : Sto} {φ : Nat → Value} {a : Act} {w : World},
    opsW P ty (gds l0) false l t s K → Sim w0 t s φ a w → wpList P l0.toArray Q l a w
  | [], t, s, φ, a, w, h, S => hK φ t s a w h S
  | ⟨d, op, o, p, af, none⟩ :: l, t, s, φ, a, w, h, S => by
    simp only [opsW, Bool.false_and] at h
    unfold wpList
    rw [if_pos (by simp [Region.wanted])]
    left
    refine Oper.wp_mono (fun a' w' hn => ?_) (opX_ok (o := ⟨d, op, o, p, af, none⟩) T S h)
    obtain ⟨φ', t', s', h', S'⟩ := hn
    exact opsW_ok T hK l h' S'
  | ⟨d, op, o, p, af, some (i, b)⟩ :: l, t, s, φ, a, w, h, S => by
    simp only [opsW, Bool.false_and] at h
    obtain ⟨v, hv, hz⟩ := guardW_inv h
    clear h
    have hy := guard_yields S hv
    unfold wpList
    rcases hz with ⟨rfl, h⟩ | ⟨hne, h⟩
    · rw [if_pos (by simp [Region.wanted, hy, bOf])]
      left
      refine Oper.wp_mono (fun a' w' hn => ?_) (opX_ok (o := ⟨d, op, o, p, af, some (i, b)⟩) T S h)
      obtain ⟨φ', t', s', h', S'⟩ := hn
      exact opsW_ok T hK l h' S'
    · rw [if_neg (by simp [Region.wanted, hy, hne])]
      exact opsW_ok T hK l h (Sim_put S d (y := .v undef) (by simp [Rep]))
theorem Sim_weak {t1 : List AV} {s1 : Sto} {φ : Nat → Value} {a : Act} {w : World} {t : List AV} {s : Sto} (S : Sim w0 t s φ a w) (hl : t1.length = t.length) (ht : ∀ x, gT t1 x = .u ∨ gT t1 x = gT t x) (hs : ∀ i b, gS s1 i = some b → gS s i = some b) : Sim w0 t1 s1 φ a w := by
  refine ⟨S.below, S.defs, ?_, fun i b h => S.blk i b (hs i b h), fun i j b c h h' => S.apart i j b c (hs i b h) (hs j c h'), S.fix, S.kept, fun i b k h => S.inn i b k (hs i b h), S.wsz⟩
  have key : ∀ (t t1 : List AV) (l : List Value), t1.length = t.length → (∀ x, gT t1 x = .u ∨ gT t1 x = gT t x) → RepL w0.heap.size w0 φ t l → RepL w0.heap.size w0 φ t1 l := by
    intro t
    induction t with
    | nil => intro t1 l hl _ h; obtain rfl : t1 = [] := List.length_eq_zero_iff.1 hl; exact h
    | cons x t ih =>
      intro t1 l hl ht h
      cases t1 with
      | nil => simp at hl
      | cons y t1 =>
        simp only [RepL] at h ⊢
        obtain ⟨v, vs, rfl, h1, h2⟩ := h
        refine ⟨v, vs, rfl, ?_, ih t1 vs (by simpa using hl) (fun x => ht (x + 1)) h2⟩
        rcases ht 0 with e | e
        · simp only [gT] at e; rw [e]; simp only [Rep]
        · simp only [gT] at e; rw [e]; exact h1
  exact key t t1 _ hl ht S.tmp
structure Ef (P : Program) (l0 : List Oper) (o : Oper) (t : List AV) (s : Sto) (y : AV) (r : Sto) : Prop where
  own : ∀ i b, gS r i = some b → (i % 16 ≠ 15 ∧ ∃ d : Nat, o.dst = some d ∧ 16 * d ≤ i ∧ i < 16 * d + 15) ∨ (i % 16 = 15 ∧ isC o.op = true ∧ ∃ c, gS s i = some c ∧ ∀ j, c.fr j = true)
  new : ∀ i b, gS r i = some b → i % 16 ≠ 15 → AV.frL i (pT t o.dst .u) = true ∧ ∀ j c, gS s j = some c → c.fr i = true
  opr : ∀ x ∈ o.op.operands.toList, ∀ i b, gS r i = some b → i % 16 ≠ 15 → AV.fr i (eT t x) = true
  cal : isC o.op = true → AIn (fun j => j % 16 ≠ 15 ∧ ∃ b, gS r j = some b) y ∧ ∀ i b, gS r i = some b → ∀ j, b.fr j = true
  pur : pureOp o.op = true → (∀ i, gS r i = none) ∧ ∀ A : Nat → Prop, (∀ x ∈ o.op.operands.toList, AIn A (eT t x)) → AIn A y
  prun : pureOp o.op = true → ∀ (s1 : Sto) (t1 : List AV), (∀ x ∈ o.op.operands.toList, eT t1 x = eT t x) → ∀ (w0 : Bs) (φ : Nat → Value) (a : Act) (w : World) (Q : Exit → Act → World → Prop) (i : Nat), l0.toArray[i]? = some o → (∀ g b, o.guard = some (g, b) → gV t1 (gG (gds l0) g) = gV t (gG (gds l0) g)) → Sim w0 t1 s1 φ a w →
    wpOp P l0.toArray Q i (NxW w0 φ a w o.dst y r) a w ∧ (pureT o = true → ∃ v, Yields P l0.toArray o v a)
  run : ∀ (A : Nat → Prop) (s1 : Sto) (t1 : List AV), (∀ x ∈ o.op.operands.toList, eT t1 x = eT t x ∧ AIn A (eT t x)) → Fr A s s1 → (∀ i b, gS r i = some b → i % 16 ≠ 15 → ¬ A i) → (isC o.op = true → ∀ i, i % 16 = 15 → gS s1 i = gS s i) →
    AIn (fun j => A j ∨ (j % 16 ≠ 15 ∧ ∃ b, gS r j = some b)) y ∧ (∀ i b, gS r i = some b → BIn (fun j => A j ∨ (j % 16 ≠ 15 ∧ ∃ b, gS r j = some b)) b) ∧
    ∀ (w0 : Bs) (φ : Nat → Value) (a : Act) (w : World) (Q : Exit → Act → World → Prop) (i : Nat), l0.toArray[i]? = some o → (∀ g b, o.guard = some (g, b) → gV t1 (gG (gds l0) g) = gV t (gG (gds l0) g)) → Sim w0 t1 s1 φ a w →
      wpOp P l0.toArray Q i (NxW w0 φ a w o.dst y r) a w ∧ (pureT o = true → ∃ v, Yields P l0.toArray o v a)
theorem Yields_of {l0 : List Oper} {o : Oper} {a : Act} {v : Value} (hg : o.guard = none) (h : ∀ w, (execOp a.eval o).run P w = .ok (.value v) w) : Yields P l0.toArray o v a := .inl ⟨by simp [Region.wanted, hg], h⟩
theorem pure_run {o : Oper} {φ : Nat → Value} {a : Act} {w : World} {t : List AV} {s : Sto} (hp : pureT o = true) {K' : Act → World → Prop} (h : o.wp P a w K' (fun _ _ _ => False)) : ∃ v, ∀ w1, (execOp a.eval o).run P w1 = .ok (.value v) w1 := by
  obtain ⟨d, op, ot, p, af, gd⟩ := o
  unfold pureT at hp
  simp only [Bool.and_eq_true] at hp
  obtain ⟨_, hp⟩ := hp
  cases op with
  | move x => exact ⟨a.eval x, fun w1 => by simp [execOp]⟩
  | extract x n =>
    unfold Oper.wp at h
    cases e : a.eval x with
    | tuple cs =>
      cases e2 : cs[n]? with
      | some v => exact ⟨v, fun w1 => by simp [execOp, e, Instr.extract, e2]⟩
      | none => simp [execOp, e, Instr.extract, e2, Oper.upon] at h
    | _ => simp [execOp, e, Instr.extract, Oper.upon] at h
  | _ => simp at hp
theorem Ef_of (T : TyOk P ty) {l0 : List Oper} {o : Oper} {t : List AV} {s : Sto} {K : Kt} (hr : rot (ty o.type) o.op = true) {rest : List Oper} (h : opsW P ty (gds l0) true (o :: rest) t s K) :
    ∃ y r s', Ef P l0 o t s y r ∧ (∀ i, gS s' i = (gS r i).or (gS s i)) ∧ opsW P ty (gds l0) true rest (pT t o.dst y) s' K := by
  have wanted : ∀ {K1 : Kt}, (∀ (a : Act) (t1 : List AV) (s1 : Sto) (φ : Nat → Value) (w0 : Bs) (w : World), (∀ g b, o.guard = some (g, b) → gV t1 (gG (gds l0) g) = gV t (gG (gds l0) g)) → Sim w0 t1 s1 φ a w → Region.wanted o (yielded l0.toArray a.tmps) = true) → opX P ty true o.op o.type o.dst t s K1 →
      ∃ y r s', Ef P l0 o t s y r ∧ (∀ i, gS s' i = (gS r i).or (gS s i)) ∧ K1 (pT t o.dst y) s' := fun hw hx => by
    obtain ⟨y, r, s', F, hs, hK⟩ := ex_any T hr hx
    have fin : ∀ {s1 : Sto} {t1 : List AV}, (∀ (w0 : Bs) (φ : Nat → Value) (a : Act) (w : World) (Q : Exit → Act → World → Prop), Sim w0 t1 s1 φ a w → o.wp P a w (NxW w0 φ a w o.dst y r) Q) → ∀ (w0 : Bs) (φ : Nat → Value) (a : Act) (w : World) (Q : Exit → Act → World → Prop) (i : Nat), l0.toArray[i]? = some o → (∀ g b, o.guard = some (g, b) → gV t1 (gG (gds l0) g) = gV t (gG (gds l0) g)) → Sim w0 t1 s1 φ a w →
        wpOp P l0.toArray Q i (NxW w0 φ a w o.dst y r) a w ∧ (pureT o = true → ∃ v, Yields P l0.toArray o v a) := fun {s1 t1} h3 w0 φ a w Q i hi hg S => by
      refine ⟨?_, fun hp => ?_⟩
      · unfold wpOp
        simp only [hi]
        rw [if_pos (hw a t1 s1 φ w0 w hg S)]
        exact .inl (h3 w0 φ a w Q S)
      · obtain ⟨v, hv⟩ := pure_run (t := t) (s := s) (φ := φ) hp (h3 w0 φ a w (fun _ _ _ => False) S)
        have hgn : o.guard = none := by unfold pureT at hp; simp only [Bool.and_eq_true, Option.isNone_iff_eq_none] at hp; exact hp.1
        exact ⟨v, Yields_of hgn hv⟩
    exact ⟨y, r, s', ⟨F.own, F.new, F.opr, F.cal, F.pur, fun hp s1 t1 ha => fin (F.prun hp s1 t1 ha), fun A s1 t1 ha hF hA hres => ⟨(F.run A s1 t1 ha hF hA hres).1, (F.run A s1 t1 ha hF hA hres).2.1, fin (F.run A s1 t1 ha hF hA hres).2.2⟩⟩, hs, hK⟩
  obtain ⟨d, op, ot, p, af, gd⟩ := o
  cases gd with
  | none =>
    simp only [opsW] at h
    rw [show rot (ty ot) op = true from hr] at h
    exact wanted (fun a t1 s1 φ w0 w hg S => by simp [Region.wanted]) h
  | some g =>
    obtain ⟨i', b⟩ := g
    simp only [opsW] at h
    rw [show rot (ty ot) op = true from hr] at h
    obtain ⟨v, hv, hz⟩ := guardW_inv h
    have hy : ∀ (a : Act) (t1 : List AV) (s1 : Sto) (φ : Nat → Value) (w0 : Bs) (w : World), (∀ g b', (some (i', b) : Option (Nat × Bool)) = some (g, b') → gV t1 (gG (gds l0) g) = gV t (gG (gds l0) g)) → Sim w0 t1 s1 φ a w → yielded l0.toArray a.tmps i' = bOf v := fun a t1 s1 φ w0 w hg S =>
      guard_yields S ((hg i' b rfl).trans hv)
    rcases hz with ⟨rfl, hx⟩ | ⟨hne, hx⟩
    · exact wanted (fun a t1 s1 φ w0 w hg S => by simp [Region.wanted, hy a t1 s1 φ w0 w hg S, bOf]) hx
    · have fin : ∀ {s1 : Sto} {t1 : List AV} (w0 : Bs) (φ : Nat → Value) (a : Act) (w : World) (Q : Exit → Act → World → Prop) (i : Nat), l0.toArray[i]? = some (⟨d, op, ot, p, af, some (i', b)⟩ : Oper) → (∀ g b', (some (i', b) : Option (Nat × Bool)) = some (g, b') → gV t1 (gG (gds l0) g) = gV t (gG (gds l0) g)) → Sim w0 t1 s1 φ a w →
          wpOp P l0.toArray Q i (NxW w0 φ a w d (.v undef) []) a w ∧ (pureT (⟨d, op, ot, p, af, some (i', b)⟩ : Oper) = true → ∃ v, Yields P l0.toArray (⟨d, op, ot, p, af, some (i', b)⟩ : Oper) v a) := fun {s1 t1} w0 φ a w Q i hi hg S => by
        refine ⟨?_, fun hp => ?_⟩
        · unfold wpOp
          simp only [hi]
          rw [if_neg (by simp [Region.wanted, hy a t1 s1 φ w0 w hg S, hne])]
          exact ⟨undef, φ, rfl, S.below, Nat.le_refl _, fun _ _ _ => rfl, by simp only [Rep], fun _ _ => rfl, fun i b hb => by simp [gS] at hb, fun i j b c hb => by simp [gS] at hb⟩
        · simp [pureT] at hp
      refine ⟨.v undef, [], s, ⟨fun i b hb => by simp [gS] at hb, fun i b hb => by simp [gS] at hb, fun x hx i b hb => by simp [gS] at hb, fun _ => ⟨fun _ _ => rfl, fun i b hb => by simp [gS] at hb⟩, fun _ => ⟨fun _ => rfl, fun _ _ _ _ => rfl⟩, fun _ s1 t1 ha => fin, fun A s1 t1 ha hF hA _ => ⟨fun j hj => rfl, fun i b hb => by simp [gS] at hb, fin⟩⟩, fun i => by simp [gS], hx⟩
structure Trc (P : Program) (l0 : List Oper) (n : Nat) (U : Nat → List AV) (V : Nat → Sto) (Y : Nat → AV) (R : Nat → Sto) : Prop where
  at' : ∀ i, i < n → ∀ o, l0[i]? = some o → Ef P l0 o (U i) (V i) (Y i) (R i) ∧ U (i + 1) = pT (U i) o.dst (Y i) ∧ ∀ k, gS (V (i + 1)) k = (gS (R i) k).or (gS (V i) k)
theorem trace (T : TyOk P ty) {l0 : List Oper} {K : Kt} {n : Nat} (hn : n ≤ l0.length) (hr : ∀ i, i < n → ∀ o, l0[i]? = some o → rot (ty o.type) o.op = true) {t : List AV} {s : Sto} (h : opsW P ty (gds l0) true l0 t s K) :
    ∃ U V Y R, U 0 = t ∧ V 0 = s ∧ Trc P l0 n U V Y R ∧ opsW P ty (gds l0) true (l0.drop n) (U n) (V n) K := by
  induction n with
  | zero => exact ⟨fun _ => t, fun _ => s, fun _ => .u, fun _ => [], rfl, rfl, ⟨fun i hi => absurd hi (Nat.not_lt_zero _)⟩, h⟩
  | succ n ih =>
    obtain ⟨U, V, Y, R, hU, hV, ⟨ht⟩, hk⟩ := ih (by omega) (fun i hi => hr i (by omega))
    have hlt : n < l0.length := by omega
    have ho : l0[n]? = some l0[n] := List.getElem?_eq_getElem hlt
    rw [List.drop_eq_getElem_cons hlt] at hk
    obtain ⟨y, r, s', hE, hs, hK⟩ := Ef_of T (hr n (by omega) _ ho) hk
    refine ⟨fun i => if i = n + 1 then pT (U n) l0[n].dst y else U i, fun i => if i = n + 1 then s' else V i, fun i => if i = n then y else Y i, fun i => if i = n then r else R i, by simp [hU], by simp [hV], ⟨fun i hi o hio => ?_⟩, by simpa using hK⟩
    by_cases e : i = n
    · subst e
      rw [ho] at hio
      obtain rfl := Option.some.inj hio
      simp only [if_neg (show ¬ i = i + 1 by omega), if_true]
      exact ⟨hE, trivial, hs⟩
    · obtain ⟨q1, q2, q3⟩ := ht i (by omega) o hio
      simp only [if_neg e, if_neg (show ¬ i = n + 1 by omega), if_neg (show ¬ i + 1 = n + 1 by omega)]
      exact ⟨q1, q2, q3⟩
theorem gT_sT : ∀ (t : List AV) (d : Nat) (y : AV) (x : Nat), gT (sT t d y) x = if d = x then (if d < t.length then y else .u) else gT t x
  | [], d, y, x => by by_cases e : d = x <;> simp [sT, gT, e]
  | z :: t, 0, y, 0 => by simp [sT, gT]
  | z :: t, 0, y, x + 1 => by simp [sT, gT]
  | z :: t, d + 1, y, 0 => by simp [sT, gT]
  | z :: t, d + 1, y, x + 1 => by simp only [sT, gT, gT_sT t d y x, List.length_cons, Nat.add_lt_add_iff_right, Nat.add_right_cancel_iff]
theorem gT_pT (t : List AV) (d : Option Nat) (y : AV) (x : Nat) : gT (pT t d y) x = if d = some x then (if x < t.length then y else .u) else gT t x := by
  cases d with
  | none => simp [pT]
  | some d =>
    simp only [pT, gT_sT, Option.some.injEq]
    by_cases e : d = x
    · subst e; rfl
    · simp [e]
theorem len_sT : ∀ (t : List AV) (d : Nat) (y : AV), (sT t d y).length = t.length
  | [], _, _ => rfl
  | z :: t, 0, y => rfl
  | z :: t, d + 1, y => by simp only [sT, List.length_cons, len_sT t d y]
theorem len_pT (t : List AV) (d : Option Nat) (y : AV) : (pT t d y).length = t.length := by
  cases d with
  | none => rfl
  | some d => exact len_sT t d y
theorem gT_ge : ∀ {t : List AV} {x : Nat}, t.length ≤ x → gT t x = .u
  | [], _, _ => rfl
  | z :: t, 0, h => by simp at h
  | z :: t, x + 1, h => by simp only [gT]; exact gT_ge (by simpa using h)
theorem gT_at : ∀ {t : List AV} {x : Nat} (h : x < t.length), gT t x = t[x]
  | [], x, h => by simp at h
  | z :: t, 0, h => rfl
  | z :: t, x + 1, h => by simp only [gT, List.getElem_cons_succ]; exact gT_at (by simpa using h)
theorem frL_of {j : Nat} : ∀ {t : List AV}, (∀ x, AV.fr j (gT t x) = true) → AV.frL j t = true
  | [], _ => rfl
  | z :: t, h => by simp only [AV.frL, Bool.and_eq_true]; exact ⟨h 0, frL_of fun x => h (x + 1)⟩
theorem gS_filter (p : Nat → Bool) : ∀ (s : Sto) (i : Nat), gS (s.filter fun q => p q.1) i = if p i = true then gS s i else none
  | [], i => by simp [gS]
  | (j, b) :: s, i => by
    simp only [List.filter_cons]
    by_cases hj : p j = true
    · simp only [hj, if_true, gS]
      by_cases e : j = i
      · subst e; simp [hj]
      · simp only [if_neg e]; exact gS_filter p s i
    · simp only [hj, Bool.false_eq_true, if_false, gS]
      by_cases e : j = i
      · subst e; rw [gS_filter p s j]; simp [hj]
      · simp only [if_neg e]; exact gS_filter p s i
theorem least_of {p : Nat → Prop} (h : ∃ i, p i) : ∃ i, p i ∧ ∀ j, j < i → ¬ p j := by
  obtain ⟨i, h1, h2⟩ := exists_least (p := p) h
  exact ⟨i, h1, fun j hj hp => by have := h2 j hp; omega⟩
structure Hd (P : Program) (ty : TypeId → Option TI) (l0 : List Oper) (n : Nat) (U : Nat → List AV) (V : Nat → Sto) (Y : Nat → AV) (R : Nat → Sto) : Prop where
  nl : n ≤ l0.length
  back : backOk l0 0 = true
  op : ∀ i, i < n → opOk l0 n i = true
  tl : tailOk n l0 = true
  ns : Region.noSelect l0.toArray = true
  co : callsOrd l0 n = true
  cl : nctOk l0 = true
  dc : dchk l0 (U 0) (V 0) = true
  tr : Trc P l0 n U V Y R
mutual
theorem rf_fr1 {j : Nat} (hj : j % 16 = 15) : ∀ (x : AV), AV.rf x = true → AV.fr j x = true
  | .ag cs, hr => by simp only [AV.rf] at hr; simp only [AV.fr]; exact rf_fr2 hj cs hr
  | .tu cs, hr => by simp only [AV.rf] at hr; simp only [AV.fr]; exact rf_fr2 hj cs hr
  | .lo i, hr => by simp only [AV.rf, bne_iff_ne, ne_eq] at hr; simp only [AV.fr, bne_iff_ne, ne_eq]; rintro rfl; exact hr hj
  | .bp i o, hr => by simp only [AV.rf, bne_iff_ne, ne_eq] at hr; simp only [AV.fr, bne_iff_ne, ne_eq]; rintro rfl; exact hr hj
  | .le i z m o, hr => by simp only [AV.rf, bne_iff_ne, ne_eq] at hr; simp only [AV.fr, bne_iff_ne, ne_eq]; rintro rfl; exact hr hj
  | .vw i z m o, hr => by simp only [AV.rf, bne_iff_ne, ne_eq] at hr; simp only [AV.fr, bne_iff_ne, ne_eq]; rintro rfl; exact hr hj
  | .u, _ | .v _, _ | .pr _ _, _ | .ow _ _ _, _ | .pe _, _ => rfl
theorem rf_fr2 {j : Nat} (hj : j % 16 = 15) : ∀ (x : List AV), AV.rfL x = true → AV.frL j x = true
  | [], _ => rfl
  | c :: cs, hr => by
    simp only [AV.rfL, Bool.and_eq_true] at hr
    simp only [AV.frL, Bool.and_eq_true]
    exact ⟨rf_fr1 hj c hr.1, rf_fr2 hj cs hr.2⟩
end
theorem rf_fr : (∀ {x : AV} {j : Nat}, AV.rf x = true → j % 16 = 15 → AV.fr j x = true) ∧ (∀ {x : List AV} {j : Nat}, AV.rfL x = true → j % 16 = 15 → AV.frL j x = true) :=
  ⟨fun {x _} h hj => rf_fr1 hj x h, fun {x _} h hj => rf_fr2 hj x h⟩
theorem Brf_fr {b : Blk} {j : Nat} (h : b.rf = true) (hj : j % 16 = 15) : b.fr j = true := by
  cases b with
  | box tb cs => exact rf_fr.2 h hj
  | row e sz xs => rfl
theorem opT_mem {op : Op} {z : Nat} (h : Operand.tmp z ∈ op.operands.toList) : z ∈ opT op := by
  unfold opT
  exact List.mem_flatten.2 ⟨oT (.tmp z), List.mem_map.2 ⟨_, h, rfl⟩, by simp [oT]⟩
section
variable {l0 : List Oper} {n : Nat} {U : Nat → List AV} {V : Nat → Sto} {Y : Nat → AV} {R : Nat → Sto}
def dsO (l0 : List Oper) (k : Nat) : Option Nat := (l0[k]?).bind (·.dst)
theorem Hd.dis (H : Hd P ty l0 n U V Y R) {i j d : Nat} (hi : i < n) (hj : j < n) (h1 : dsO l0 i = some d) (h2 : dsO l0 j = some d) : i = j := by
  have := H.op i hi
  unfold opOk at this
  have hl : i < l0.length := Nat.lt_of_lt_of_le hi H.nl
  simp only [List.getElem?_eq_getElem hl, Bool.and_eq_true, List.all_eq_true, List.mem_range, Bool.or_eq_true, beq_iff_eq, bne_iff_ne] at this
  have h := this.1.1 j hj
  unfold dsO at h1 h2
  simp only [List.getElem?_eq_getElem hl, Option.bind_some] at h1
  rw [h1, h2] at h
  rcases h with h | h | h
  · exact h.symm
  · cases h
  · exact absurd rfl h
theorem Hd.opr (H : Hd P ty l0 n U V Y R) {i : Nat} (hi : i < n) {o : Oper} (ho : l0[i]? = some o) {z : Nat} (hx : Operand.tmp z ∈ o.op.operands.toList) {j : Nat} (hj : j < n) (hd : dsO l0 j = some z) : Anc l0.toArray i j := by
  have := H.op i hi
  unfold opOk at this
  simp only [ho, Bool.and_eq_true, List.all_eq_true, List.mem_range, Bool.or_eq_true, beq_iff_eq, bne_iff_ne] at this
  have h := this.1.2 _ hx
  simp only [List.all_eq_true, List.mem_range, Bool.or_eq_true, bne_iff_ne] at h
  rcases h j hj with h | h
  · exact absurd hd h
  · exact rch_anc h
theorem Hd.gd (H : Hd P ty l0 n U V Y R) {i : Nat} (hi : i < n) {o : Oper} (ho : l0[i]? = some o) {g : Nat} {b : Bool} (hg : o.guard = some (g, b)) : Anc l0.toArray i g := by
  have := H.op i hi
  unfold opOk at this
  simp only [ho, Bool.and_eq_true, hg] at this
  exact rch_anc this.2
def Dk (R : Nat → Sto) (k id : Nat) : Prop := id % 16 ≠ 15 ∧ ∃ b, gS (R k) id = some b
theorem noD {R : Nat → Sto} {k id : Nat} (hx : id % 16 ≠ 15) (h : ¬ Dk R k id) : gS (R k) id = none := by
  cases e : gS (R k) id with
  | none => rfl
  | some b => exact absurd ⟨hx, b, e⟩ h
theorem gS_no {r : Sto} {id : Nat} (h : ¬ ∃ b, gS r id = some b) : gS r id = none := by
  cases e : gS r id with
  | none => rfl
  | some b => exact absurd ⟨b, e⟩ h
theorem Hd.ef (H : Hd P ty l0 n U V Y R) {i : Nat} (hi : i < n) : ∃ o, l0[i]? = some o ∧ Ef P l0 o (U i) (V i) (Y i) (R i) ∧ U (i + 1) = pT (U i) (dsO l0 i) (Y i) ∧ ∀ k, gS (V (i + 1)) k = (gS (R i) k).or (gS (V i) k) := by
  have hl : i < l0.length := Nat.lt_of_lt_of_le hi H.nl
  have ho := List.getElem?_eq_getElem hl
  obtain ⟨q1, q2, q3⟩ := H.tr.at' i hi _ ho
  exact ⟨_, ho, q1, by unfold dsO; rw [ho]; exact q2, q3⟩
theorem Hd.disD (H : Hd P ty l0 n U V Y R) {i j id : Nat} (hi : i < n) (hj : j < n) (h1 : Dk R i id) (h2 : Dk R j id) : i = j := by
  obtain ⟨o, ho, e, _, _⟩ := H.ef hi
  obtain ⟨o', ho', e', _, _⟩ := H.ef hj
  obtain ⟨h15, b, hb⟩ := h1
  obtain ⟨_, c, hc⟩ := h2
  rcases e.own id b hb with ⟨_, d, q1, q2, q3⟩ | ⟨q, _⟩
  rotate_left
  · exact absurd q h15
  rcases e'.own id c hc with ⟨_, d', q1', q2', q3'⟩ | ⟨q, _⟩
  rotate_left
  · exact absurd q h15
  have e1 : id / 16 = d := Nat.div_eq_of_lt_le (by omega) (by omega)
  have e2 : id / 16 = d' := Nat.div_eq_of_lt_le (by omega) (by omega)
  obtain rfl : d = d' := e1.symm.trans e2
  exact H.dis hi hj (by unfold dsO; rw [ho]; exact q1) (by unfold dsO; rw [ho']; exact q1')
theorem Hd.lenU (H : Hd P ty l0 n U V Y R) : ∀ i, i ≤ n → (U i).length = (U 0).length
  | 0, _ => rfl
  | i + 1, hi => by
    obtain ⟨o, ho, _, h, _⟩ := H.ef (show i < n by omega)
    rw [h, len_pT]; exact H.lenU i (by omega)
theorem Hd.keepU (H : Hd P ty l0 n U V Y R) {i x : Nat} : ∀ j, i ≤ j → j ≤ n → (∀ k, i ≤ k → k < j → dsO l0 k ≠ some x) → gT (U j) x = gT (U i) x
  | 0, h, _, _ => by obtain rfl : i = 0 := by omega
                     rfl
  | j + 1, h, hj, hx => by
    by_cases e : i = j + 1
    · subst e; rfl
    · obtain ⟨o, ho, _, h1, _⟩ := H.ef (show j < n by omega)
      rw [h1, gT_pT, if_neg (hx j (by omega) (by omega))]
      exact H.keepU j (by omega) (by omega) fun k h1 h2 => hx k h1 (by omega)
theorem Hd.keepV (H : Hd P ty l0 n U V Y R) {i x : Nat} : ∀ j, i ≤ j → j ≤ n → (∀ k, i ≤ k → k < j → gS (R k) x = none) → gS (V j) x = gS (V i) x
  | 0, h, _, _ => by obtain rfl : i = 0 := by omega
                     rfl
  | j + 1, h, hj, hx => by
    by_cases e : i = j + 1
    · subst e; rfl
    · obtain ⟨o, ho, _, _, h1⟩ := H.ef (show j < n by omega)
      rw [h1, hx j (by omega) (by omega), Option.none_or]
      exact H.keepV j (by omega) (by omega) fun k h1 h2 => hx k h1 (by omega)
theorem Hd.valU (H : Hd P ty l0 n U V Y R) {k x : Nat} (hk : k < n) (hd : dsO l0 k = some x) {j : Nat} (h1 : k < j) (h2 : j ≤ n) : gT (U j) x = if x < (U 0).length then Y k else .u := by
  rw [H.keepU (i := k + 1) j h1 h2 fun i q1 q2 e => by have := H.dis (show i < n by omega) hk e hd; omega]
  obtain ⟨o, ho, _, h, _⟩ := H.ef hk
  rw [h, gT_pT, if_pos hd, H.lenU k (by omega)]
theorem Hd.blkV (H : Hd P ty l0 n U V Y R) {k id : Nat} (hk : k < n) (hd : Dk R k id) {j : Nat} (h1 : k < j) (h2 : j ≤ n) : gS (V j) id = gS (R k) id := by
  rw [H.keepV (i := k + 1) j h1 h2 fun i q1 q2 => noD hd.1 fun e => by have := H.disD (show i < n by omega) hk e hd; omega]
  obtain ⟨o, ho, _, _, h⟩ := H.ef hk
  obtain ⟨_, b, hb⟩ := hd
  rw [h, hb]; rfl
def Al (l0 : List Oper) (n : Nat) (R : Nat → Sto) (i id : Nat) : Prop := ∀ k, k < n → Dk R k id → Anc l0.toArray i k
theorem Al_no {i id : Nat} (h : ¬ Al l0 n R i id) : ∃ k, k < n ∧ Dk R k id ∧ ¬ Anc l0.toArray i k := by
  simp only [Al, Classical.not_forall] at h
  obtain ⟨k, h1, h2, h3⟩ := h
  exact ⟨k, h1, h2, h3⟩
theorem Hd.oldT (H : Hd P ty l0 n U V Y R) {x : Nat} (hx : ∀ k, k < n → dsO l0 k ≠ some x) {k id : Nat} (hk : k < n) (hd : Dk R k id) : AV.fr id (gT (U 0) x) = true := by
  obtain ⟨o, ho, e, _, _⟩ := H.ef hk
  obtain ⟨h15, b, hb⟩ := hd
  have h1 := frL_gT x (e.new id b hb h15).1
  have hne : o.dst ≠ some x := by have := hx k hk; unfold dsO at this; rw [ho] at this; exact this
  rw [gT_pT, if_neg hne, H.keepU k (Nat.zero_le _) (by omega) fun j _ hj => hx j (by omega)] at h1
  exact h1
theorem Hd.oldS (H : Hd P ty l0 n U V Y R) {j : Nat} {b : Blk} (hb : gS (V 0) j = some b) (hj : ∀ k, k < n → gS (R k) j = none) {k id : Nat} (hk : k < n) (hd : Dk R k id) : b.fr id = true := by
  obtain ⟨o, ho, e, _, _⟩ := H.ef hk
  obtain ⟨h15, c, hc⟩ := hd
  exact (e.new id c hc h15).2 j b (by rw [H.keepV k (Nat.zero_le _) (by omega) fun i _ hi => hj i (by omega)]; exact hb)
theorem Hd.resFr (H : Hd P ty l0 n U V Y R) {j : Nat} (h15 : j % 16 = 15) {q : Nat} (hq : q ≤ n) {c : Blk} (hc : gS (V q) j = some c) {k id : Nat} (hk : k < n) (hd : Dk R k id) : c.fr id = true := by
  by_cases hw : ∃ m, m < n ∧ ∃ b, gS (R m) j = some b
  · obtain ⟨m, ⟨hm, b, hb⟩, hl⟩ := least_of hw
    have h0 : ∀ c, gS (V 0) j = some c → ∀ i, c.fr i = true := fun c hc i => by
      obtain ⟨o, ho, e, _, _⟩ := H.ef hm
      rcases e.own j b hb with ⟨q, _⟩ | ⟨_, _, c', q1, q2⟩
      · exact absurd h15 q
      · rw [H.keepV m (Nat.zero_le _) (by omega) fun i _ hi => gS_no fun hb' => hl i hi ⟨by omega, hb'⟩, hc] at q1
        obtain rfl := Option.some.inj q1
        exact q2 i
    have all : ∀ q, q ≤ n → ∀ c, gS (V q) j = some c → ∀ i, c.fr i = true := by
      intro q
      induction q with
      | zero => exact fun _ => h0
      | succ q ih =>
        intro hq c hc i
        obtain ⟨o, ho, e, _, hV⟩ := H.ef (show q < n by omega)
        rw [hV] at hc
        cases e2 : gS (R q) j with
        | none => rw [e2] at hc; exact ih (by omega) c (by simpa using hc) i
        | some b' =>
          rw [e2] at hc
          obtain rfl : b' = c := by simpa using hc
          rcases e.own j _ e2 with ⟨q', _⟩ | ⟨_, q1, _⟩
          · exact absurd h15 q'
          · exact (e.cal q1).2 j _ e2 i
    exact all q hq c hc id
  · have hno : ∀ m, m < n → gS (R m) j = none := fun m hm => gS_no fun hb => hw ⟨m, hm, hb⟩
    rw [H.keepV q (Nat.zero_le _) hq fun i _ hi => hno i (by omega)] at hc
    exact H.oldS hc hno hk hd
structure In (l0 : List Oper) (n : Nat) (Y : Nat → AV) (R : Nat → Sto) (k : Nat) : Prop where
  y : AIn (fun j => Al l0 n R k j ∨ Dk R k j) (Y k)
  r : ∀ i b, gS (R k) i = some b → BIn (fun j => Al l0 n R k j ∨ Dk R k j) b
theorem Hd.up (H : Hd P ty l0 n U V Y R) {i k : Nat} (hk : k < n) (ha : Anc l0.toArray i k) {j : Nat} (h : Al l0 n R k j ∨ Dk R k j) : Al l0 n R i j := by
  intro m hm hd
  rcases h with h | h
  · exact ha.trans (h m hm hd)
  · rw [H.disD hm hk hd h]; exact ha
theorem Hd.anc (H : Hd P ty l0 n U V Y R) {i k : Nat} (h : Anc l0.toArray i k) : k < i := h.lt H.back
theorem Hd.opnd (H : Hd P ty l0 n U V Y R) {i : Nat} (hi : i < n) (hI : ∀ k, k < i → In l0 n Y R k) {o : Oper} (ho : l0[i]? = some o) : ∀ x ∈ o.op.operands.toList, AIn (Al l0 n R i) (eT (U i) x) := by
  intro x hx
  cases x with
  | tmp z =>
    simp only [eT]
    by_cases hz : ∃ k, k < n ∧ dsO l0 k = some z
    · obtain ⟨k, hk, hd⟩ := hz
      have ha := H.opr hi ho hx hk hd
      rw [H.valU hk hd (H.anc ha) (by omega)]
      split
      · intro j hj
        exact (hI k (H.anc ha)).y j fun h => hj (H.up hk ha h)
      · intro j _; rfl
    · have hz' : ∀ k, k < n → dsO l0 k ≠ some z := fun k hk e => hz ⟨k, hk, e⟩
      rw [H.keepU i (Nat.zero_le _) (by omega) fun k _ hk => hz' k (by omega)]
      intro j hj
      obtain ⟨k, hk, hd, _⟩ := Al_no hj
      exact H.oldT hz' hk hd
  | const v => intro j _; rfl
  | global g => intro j _; rfl
  | func f => intro j _; rfl
theorem Hd.clos (H : Hd P ty l0 n U V Y R) {i : Nat} (hi : i < n) (hI : ∀ k, k < i → In l0 n Y R k) : ∀ id b, Al l0 n R i id → gS (V i) id = some b → BIn (Al l0 n R i) b := by
  intro id b hA hb j hj
  by_cases h15 : id % 16 = 15
  · obtain ⟨k, hk, hdk, _⟩ := Al_no hj
    exact H.resFr h15 (by omega) hb hk hdk
  by_cases hd : ∃ k, k < n ∧ Dk R k id
  · obtain ⟨k, hk, hd⟩ := hd
    have ha := hA k hk hd
    rw [H.blkV hk hd (H.anc ha) (by omega)] at hb
    exact (hI k (H.anc ha)).r id b hb j fun h => hj (H.up hk ha h)
  · have hd' : ∀ k, k < n → ¬ Dk R k id := fun k hk e => hd ⟨k, hk, e⟩
    rw [H.keepV i (Nat.zero_le _) (by omega) fun k _ hk => noD h15 (hd' k (by omega))] at hb
    obtain ⟨k, hk, hdk, _⟩ := Al_no hj
    exact H.oldS hb (fun k hk => noD h15 (hd' k hk)) hk hdk
theorem Hd.irr (H : Hd P ty l0 n U V Y R) {i : Nat} (h : Anc l0.toArray i i) : False := absurd (H.anc h) (Nat.lt_irrefl _)
theorem Hd.inn (H : Hd P ty l0 n U V Y R) : ∀ m, m ≤ n → ∀ i, i < m → In l0 n Y R i
  | 0, _, i, hi => absurd hi (Nat.not_lt_zero _)
  | m + 1, hm, i, hi => by
    by_cases e : i = m
    · subst e
      have hI := H.inn i (by omega)
      obtain ⟨o, ho, e, _, _⟩ := H.ef (show i < n by omega)
      obtain ⟨h1, h2, _⟩ := e.run (Al l0 n R i) (V i) (U i) (fun x hx => ⟨rfl, H.opnd (by omega) hI ho x hx⟩) ⟨fun _ _ => rfl, H.clos (by omega) hI⟩ (fun j b hb h15 hA => H.irr (hA i (by omega) ⟨h15, b, hb⟩)) (fun _ _ _ => rfl)
      exact ⟨h1, h2⟩
    · exact H.inn m (by omega) i (by omega)
def hid (l0 : List Oper) (n : Nat) (m : Nat → Bool) (x : Nat) : Bool := (List.range n).any fun k => !m k && dsO l0 k == some x
def TM (l0 : List Oper) (n : Nat) (U : Nat → List AV) (m : Nat → Bool) : List AV := (List.range (U n).length).map fun x => if hid l0 n m x = true then .u else gT (U n) x
def okS (n : Nat) (R : Nat → Sto) (m : Nat → Bool) (id : Nat) : Bool := (List.range n).all fun k => m k || (gS (R k) id).isNone
def lc (l0 : List Oper) (m : Nat → Bool) : Nat → Nat
  | 0 => 0
  | k + 1 => if (m k && isCk l0 k) = true then k + 1 else lc l0 m k
def SM (l0 : List Oper) (n : Nat) (V : Nat → Sto) (R : Nat → Sto) (m : Nat → Bool) : Sto := ((V (lc l0 m n)).filter fun p => p.1 % 16 == 15) ++ (V n).filter fun p => p.1 % 16 != 15 && okS n R m p.1
theorem lc_le (l0 : List Oper) (m : Nat → Bool) : ∀ n, lc l0 m n ≤ n
  | 0 => Nat.le_refl _
  | n + 1 => by
    simp only [lc]
    split
    · exact Nat.le_refl _
    · exact Nat.le_succ_of_le (lc_le l0 m n)
theorem lc_gt {l0 : List Oper} {m : Nat → Bool} : ∀ {n k : Nat}, k < n → m k = true → isCk l0 k = true → k < lc l0 m n
  | n + 1, k, hk, h1, h2 => by
    simp only [lc]
    split
    · omega
    · rename_i h
      by_cases e : k = n
      · subst e; simp [h1, h2] at h
      · exact lc_gt (by omega) h1 h2
theorem lc_at {l0 : List Oper} {m : Nat → Bool} : ∀ {n : Nat}, lc l0 m n = 0 ∨ ∃ c, lc l0 m n = c + 1 ∧ c < n ∧ m c = true ∧ isCk l0 c = true
  | 0 => .inl rfl
  | n + 1 => by
    simp only [lc]
    split
    · rename_i h
      simp only [Bool.and_eq_true] at h
      exact .inr ⟨n, rfl, by omega, h.1, h.2⟩
    · rcases lc_at (l0 := l0) (m := m) (n := n) with h | ⟨c, h1, h2, h3⟩
      · exact .inl h
      · exact .inr ⟨c, h1, by omega, h3⟩
theorem hid_t {m : Nat → Bool} {x k : Nat} (hk : k < n) (hm : m k = false) (hd : dsO l0 k = some x) : hid l0 n m x = true := List.any_eq_true.2 ⟨k, List.mem_range.2 hk, by simp [hm, hd]⟩
theorem hid_f {m : Nat → Bool} {x : Nat} (h : ∀ k, k < n → dsO l0 k = some x → m k = true) : hid l0 n m x = false := by
  cases e : hid l0 n m x with
  | false => rfl
  | true =>
    obtain ⟨k, hk, h2⟩ := List.any_eq_true.1 e
    simp only [Bool.and_eq_true, Bool.not_eq_true', beq_iff_eq] at h2
    rw [h k (List.mem_range.1 hk) h2.2] at h2
    cases h2.1
theorem gT_TM (m : Nat → Bool) (x : Nat) : gT (TM l0 n U m) x = if hid l0 n m x = true then .u else gT (U n) x := by
  by_cases h : x < (U n).length
  · rw [gT_at (by simpa [TM] using h)]
    simp [TM]
  · rw [gT_ge (by simpa [TM] using h), gT_ge (t := U n) (by omega)]
    split <;> rfl
theorem gS_SM (m : Nat → Bool) (id : Nat) : gS (SM l0 n V R m) id = if id % 16 = 15 then gS (V (lc l0 m n)) id else if okS n R m id = true then gS (V n) id else none := by
  unfold SM
  rw [gS_app, gS_filter (fun j => j % 16 == 15), gS_filter (fun j => j % 16 != 15 && okS n R m j)]
  by_cases h : id % 16 = 15
  · simp [h]
  · have : (id % 16 == 15) = false := by simpa using h
    simp only [this, Bool.false_eq_true, if_false, Option.none_or, if_neg h]
    have h2 : (id % 16 != 15) = true := by simpa using h
    simp [h2]
theorem okS_iff {m : Nat → Bool} {id : Nat} (h15 : id % 16 ≠ 15) : okS n R m id = true ↔ ∀ k, k < n → Dk R k id → m k = true := by
  simp only [okS, List.all_eq_true, List.mem_range, Bool.or_eq_true, Option.isNone_iff_eq_none]
  refine ⟨fun h k hk hd => ?_, fun h k hk => ?_⟩
  · rcases h k hk with q | q
    · exact q
    · obtain ⟨_, b, hb⟩ := hd; rw [q] at hb; cases hb
  · by_cases hd : Dk R k id
    · exact .inl (h k hk hd)
    · exact .inr (noD h15 hd)
theorem Hd.ord (H : Hd P ty l0 n U V Y R) {i j : Nat} (hij : i < j) (hj : j < n) (h1 : isCk l0 i = true) (h2 : isCk l0 j = true) : Anc l0.toArray j i := by
  have := List.all_eq_true.1 H.co j (List.mem_range.2 hj)
  simp only [h2, Bool.not_true, Bool.false_or, List.all_eq_true, List.mem_range, Bool.or_eq_true, Bool.not_eq_true'] at this
  rcases this i hij with h | h
  · rw [h1] at h; cases h
  · exact rch_anc h
theorem isCk_at {l0 : List Oper} {i : Nat} {o : Oper} (ho : l0[i]? = some o) : isCk l0 i = isC o.op := by unfold isCk; rw [ho]
theorem Hd.noRes (H : Hd P ty l0 n U V Y R) {k x : Nat} (hk : k < n) (h15 : x % 16 = 15) (hC : isCk l0 k = false) : gS (R k) x = none := by
  obtain ⟨o, ho, e, _, _⟩ := H.ef hk
  cases h : gS (R k) x with
  | none => rfl
  | some b =>
    rcases e.own x b h with ⟨q, _⟩ | ⟨_, q, _⟩
    · exact absurd h15 q
    · rw [isCk_at ho, q] at hC; cases hC
def cf (l0 : List Oper) (s : Sto) : Prop := hasC l0 = true ∧ rsv s = true
theorem Hd.resConst (H : Hd P ty l0 n U V Y R) (h : ¬ cf l0 (V 0)) {x : Nat} (h15 : x % 16 = 15) : ∀ q, q ≤ n → gS (V q) x = gS (V 0) x
  | 0, _ => rfl
  | q + 1, hq => by
    have ih := H.resConst h h15 q (by omega)
    obtain ⟨o, ho, e, _, hV⟩ := H.ef (show q < n by omega)
    rw [hV, ← ih]
    cases e2 : gS (R q) x with
    | none => rfl
    | some b =>
      exfalso
      rcases e.own x b e2 with ⟨q', _⟩ | ⟨_, q1, c, q2, _⟩
      · exact absurd h15 q'
      · refine h ⟨?_, ?_⟩
        · exact List.any_eq_true.2 ⟨o, List.mem_of_getElem? ho, q1⟩
        · rw [ih] at q2
          exact List.any_eq_true.2 ⟨_, gS_mem q2, by simpa using h15⟩
theorem Hd.clo (H : Hd P ty l0 n U V Y R) {o : Oper} (ho : o ∈ l0) (hC : isC o.op = false) : (pureOp o.op = false → ∀ z, Operand.tmp z ∈ o.op.operands.toList → z ∈ nct l0) ∧ (pureOp o.op = true → ∀ d, o.dst = some d → d ∈ nct l0 → ∀ z, Operand.tmp z ∈ o.op.operands.toList → z ∈ nct l0) := by
  have := List.all_eq_true.1 H.cl o ho
  simp only [hC, Bool.false_or] at this
  refine ⟨fun hp z hz => ?_, fun hp d hd hdn z hz => ?_⟩
  · rw [if_neg (by rw [hp]; exact Bool.false_ne_true)] at this
    have := List.all_eq_true.1 this z (opT_mem hz)
    simpa using this
  · rw [if_pos hp, hd] at this
    simp only [Bool.or_eq_true, Bool.not_eq_true', List.contains_eq_mem, decide_eq_false_iff_not] at this
    rcases this with q | q
    · exact absurd hdn q
    · have := List.all_eq_true.1 q z (opT_mem hz)
      simpa using this
theorem Hd.clm (H : Hd P ty l0 n U V Y R) (hcf : cf l0 (V 0)) : ∀ k, k ≤ n → (∀ z, z ∈ nct l0 → ∀ j, j % 16 = 15 → AV.fr j (gT (U k) z) = true) ∧ ∀ id c, gS (V k) id = some c → ∀ j, j % 16 = 15 → c.fr j = true
  | 0, _ => by
    have := H.dc
    unfold dchk at this
    rw [hcf.1, hcf.2] at this
    simp only [Bool.not_true, Bool.false_or, rchk, Bool.and_eq_true, List.all_eq_true] at this
    exact ⟨fun z hz j hj => rf_fr.1 (this.1 z hz) hj, fun id c hc j hj => Brf_fr (this.2 _ (gS_mem hc)) hj⟩
  | k + 1, hk => by
    obtain ⟨c1, c2⟩ := H.clm hcf k (by omega)
    obtain ⟨o, ho, e, hU, hV⟩ := H.ef (show k < n by omega)
    have hmem := List.mem_of_getElem? ho
    have hd0 : dsO l0 k = o.dst := by unfold dsO; rw [ho]; rfl
    have opn : (∀ z, Operand.tmp z ∈ o.op.operands.toList → z ∈ nct l0) → ∀ x ∈ o.op.operands.toList, ∀ j, j % 16 = 15 → AV.fr j (eT (U k) x) = true := fun hz x hx j hj => by
      cases x with
      | tmp z => simp only [eT]; exact c1 z (hz z hx) j hj
      | const v => rfl
      | global g => rfl
      | func f => rfl
    have main : (∀ d, o.dst = some d → d ∈ nct l0 → ∀ j, j % 16 = 15 → AV.fr j (Y k) = true) ∧ ∀ id c, gS (R k) id = some c → ∀ j, j % 16 = 15 → c.fr j = true := by
      by_cases hC : isC o.op = true
      · obtain ⟨q1, q2⟩ := e.cal hC
        exact ⟨fun _ _ _ j hj => q1 j fun h => h.1 hj, fun id c hc j _ => q2 id c hc j⟩
      · have hC : isC o.op = false := by simpa using hC
        by_cases hp : pureOp o.op = true
        · obtain ⟨q1, q2⟩ := e.pur hp
          refine ⟨fun d hd hdn j hj => q2 (fun i => i % 16 ≠ 15) (fun x hx i hi => opn ((H.clo hmem hC).2 hp d hd hdn) x hx i (by simpa using hi)) j (by simpa using hj), fun id c hc => by rw [q1 id] at hc; cases hc⟩
        · have hp : pureOp o.op = false := by simpa using hp
          have ho2 := opn ((H.clo hmem hC).1 hp)
          obtain ⟨q1, q2, _⟩ := e.run (fun i => i % 16 ≠ 15 ∧ ¬ ∃ b, gS (R k) i = some b) (V k) (U k) (fun x hx => ⟨rfl, fun i hi => by
            by_cases h15 : i % 16 = 15
            · exact ho2 x hx i h15
            · have : ∃ b, gS (R k) i = some b := Classical.byContradiction fun hb => hi ⟨h15, hb⟩
              obtain ⟨b, hb⟩ := this
              exact e.opr x hx i b hb h15⟩) ⟨fun _ _ => rfl, fun id b _ hb i hi => by
            by_cases h15 : i % 16 = 15
            · exact c2 id b hb i h15
            · have : ∃ b, gS (R k) i = some b := Classical.byContradiction fun hb => hi ⟨h15, hb⟩
              obtain ⟨b', hb'⟩ := this
              exact (e.new i b' hb' h15).2 id b hb⟩ (fun i b hb h15 hA => hA.2 ⟨b, hb⟩) (fun h => bno hC h)
          have no : ∀ j, j % 16 = 15 → ¬ ((j % 16 ≠ 15 ∧ ¬ ∃ b, gS (R k) j = some b) ∨ (j % 16 ≠ 15 ∧ ∃ b, gS (R k) j = some b)) := fun j hj h => by rcases h with h | h <;> exact h.1 hj
          exact ⟨fun _ _ _ j hj => q1 j (no j hj), fun id c hc j hj => q2 id c hc j (no j hj)⟩
    refine ⟨fun z hz j hj => ?_, fun id c hc j hj => ?_⟩
    · rw [hU, gT_pT]
      split
      · rename_i hdz
        split
        · exact main.1 z (hd0 ▸ hdz) hz j hj
        · rfl
      · exact c1 z hz j hj
    · rw [hV] at hc
      cases e2 : gS (R k) id with
      | none => rw [e2] at hc; exact c2 id c (by simpa using hc) j hj
      | some b =>
        rw [e2] at hc
        obtain rfl : b = c := by simpa using hc
        exact main.2 id _ e2 j hj
theorem Hd.resAt (H : Hd P ty l0 n U V Y R) {m : Nat → Bool} {i : Nat} (hi : i < n) (hCi : isCk l0 i = true) (hmi : m i = false) (hdn : ∀ k j, Anc l0.toArray k j → m k = true → m j = true) (hanc : ∀ j, Anc l0.toArray i j → m j = true) {x : Nat} (h15 : x % 16 = 15) : gS (V (lc l0 m n)) x = gS (V i) x := by
  have hle : lc l0 m n ≤ i := by
    rcases lc_at (l0 := l0) (m := m) (n := n) with h | ⟨c, h1, h2, h3, h4⟩
    · omega
    · have : c < i := by
        apply Classical.byContradiction
        intro hc
        by_cases e : c = i
        · subst e; rw [hmi] at h3; cases h3
        · have := hdn c i (H.ord (show i < c by omega) h2 hCi h4) h3
          rw [hmi] at this; cases this
      omega
  exact (H.keepV i hle (by omega) fun k hk1 hk2 => by
    by_cases hC : isCk l0 k = true
    · have := lc_gt (n := n) (by omega) (hanc k (H.ord hk2 hi hC hCi)) hC
      omega
    · exact H.noRes (by omega) h15 (by simpa using hC)).symm
theorem lc_same {l0 : List Oper} {m m' : Nat → Bool} {i : Nat} (hm' : ∀ j, m' j = (decide (j = i) || m j)) (hC : isCk l0 i = false) : ∀ n, lc l0 m' n = lc l0 m n
  | 0 => rfl
  | n + 1 => by
    simp only [lc]
    have : (m' n && isCk l0 n) = (m n && isCk l0 n) := by
      rw [hm']
      by_cases e : n = i
      · subst e; simp [hC]
      · simp [e]
    rw [this, lc_same hm' hC n]
theorem Hd.lcNext (H : Hd P ty l0 n U V Y R) {m m' : Nat → Bool} {i : Nat} (hi : i < n) (hCi : isCk l0 i = true) (hmi : m i = false) (hdn : ∀ k j, Anc l0.toArray k j → m k = true → m j = true) (hm' : ∀ j, m' j = (decide (j = i) || m j)) : lc l0 m' n = i + 1 := by
  have h1 : i < lc l0 m' n := lc_gt hi (by rw [hm']; simp) hCi
  rcases lc_at (l0 := l0) (m := m') (n := n) with h | ⟨c, h2, h3, h4, h5⟩
  · omega
  · by_cases e : c = i
    · subst e; exact h2
    · have hci : i < c := by omega
      rw [hm'] at h4
      simp only [e, decide_false, Bool.false_or] at h4
      have := hdn c i (H.ord hci h3 hCi h5) h4
      rw [hmi] at this; cases this
theorem Hd.step (H : Hd P ty l0 n U V Y R) {m : Nat → Bool} {i : Nat} (hi : i < n) {o : Oper} (ho : l0[i]? = some o) (hmi : m i = false) (hdn : ∀ k j, Anc l0.toArray k j → m k = true → m j = true) (hanc : ∀ j, Anc l0.toArray i j → m j = true) {w0 : Bs} {φ : Nat → Value} {a : Act} {w : World}
    (S : Sim w0 (TM l0 n U m) (SM l0 n V R m) φ a w) {m' : Nat → Bool} (hm' : ∀ j, m' j = (decide (j = i) || m j)) :
    (∀ Q, wpOp P l0.toArray Q i (fun a' w' => ∃ ψ, Sim w0 (TM l0 n U m') (SM l0 n V R m') ψ a' w') a w) ∧ (pureT o = true → ∃ v, Yields P l0.toArray o v a) := by
  have hI := H.inn n (Nat.le_refl _)
  obtain ⟨o', ho', e, hU, hV⟩ := H.ef hi
  obtain rfl : o' = o := Option.some.inj (ho'.symm.trans ho)
  have hd0 : dsO l0 i = o'.dst := by unfold dsO; rw [ho]; rfl
  have hmem := List.mem_of_getElem? ho
  have hCk := isCk_at ho
  have opx : ∀ x ∈ o'.op.operands.toList, eT (TM l0 n U m) x = eT (U i) x := fun x hx => by
    cases x with
    | tmp z =>
      simp only [eT]
      by_cases hz : ∃ k, k < n ∧ dsO l0 k = some z
      · obtain ⟨k, hk, hd⟩ := hz
        have ha := H.opr hi ho hx hk hd
        rw [gT_TM, hid_f fun k' hk' hd' => by rw [H.dis hk' hk hd' hd]; exact hanc k ha]
        rw [if_neg (by decide), H.valU hk hd hk (Nat.le_refl _), H.valU hk hd (H.anc ha) (by omega)]
      · have hz' : ∀ k, k < n → dsO l0 k ≠ some z := fun k hk e => hz ⟨k, hk, e⟩
        rw [gT_TM, hid_f fun k' hk' hd' => absurd hd' (hz' k' hk')]
        rw [if_neg (by decide), H.keepU (i := i) n (by omega) (Nat.le_refl _) fun k _ hk => hz' k hk]
    | const v => rfl
    | global g => rfl
    | func f => rfl
  have hg : ∀ g b, o'.guard = some (g, b) → gV (TM l0 n U m) (gG (gds l0) g) = gV (U i) (gG (gds l0) g) := fun g b hg => by
    have ha := H.gd hi ho hg
    have hgi := H.anc ha
    have hgn : g < n := by omega
    rw [gG_gds]
    cases ed : (l0[g]?).bind (·.dst) with
    | none => rfl
    | some z =>
      simp only [gV]
      have hd : dsO l0 g = some z := ed
      rw [gT_TM, hid_f fun k' hk' hd' => by rw [H.dis hk' hgn hd' hd]; exact hanc g ha]
      rw [if_neg (by decide), H.valU hgn hd hgn (Nat.le_refl _), H.valU hgn hd hgi (by omega)]
  have hio : l0.toArray[i]? = some o' := by simpa using ho
  have hopn := H.opnd hi (fun k hk => hI k (by omega)) ho
  have hclo := H.clos hi fun k hk => hI k (by omega)
  have hAeq : ∀ id, Al l0 n R i id → id % 16 ≠ 15 → gS (SM l0 n V R m) id = gS (V i) id := fun id hA h15 => by
    rw [gS_SM, if_neg h15, if_pos ((okS_iff h15).2 fun k hk hd => hanc k (hA k hk hd))]
    exact H.keepV (i := i) n (by omega) (Nat.le_refl _) fun k h1 h2 => noD h15 fun hd => by have := H.anc (hA k h2 hd); omega
  have hz : ∀ Q, wpOp P l0.toArray Q i (NxW w0 φ a w o'.dst (Y i) (R i)) a w ∧ (pureT o' = true → ∃ v, Yields P l0.toArray o' v a) := fun Q => by
    by_cases hp : pureOp o'.op = true
    · exact e.prun hp _ _ opx w0 φ a w Q i hio hg S
    · have hp : pureOp o'.op = false := by simpa using hp
      by_cases hC : isC o'.op = true
      · have hres : ∀ id, id % 16 = 15 → gS (SM l0 n V R m) id = gS (V i) id := fun id h15 => by
          rw [gS_SM, if_pos h15]
          exact H.resAt hi (by rw [hCk]; exact hC) hmi hdn hanc h15
        exact (e.run (Al l0 n R i) (SM l0 n V R m) (TM l0 n U m) (fun x hx => ⟨opx x hx, hopn x hx⟩) ⟨fun id hA => by
          by_cases h15 : id % 16 = 15
          · exact hres id h15
          · exact hAeq id hA h15, hclo⟩ (fun j b hb h15 hA => H.irr (hA i hi ⟨h15, b, hb⟩)) (fun _ => hres)).2.2 w0 φ a w Q i hio hg S
      · have hC : isC o'.op = false := by simpa using hC
        by_cases hcf : cf l0 (V 0)
        · obtain ⟨c1, c2⟩ := H.clm hcf i (by omega)
          have rz : ∀ x ∈ o'.op.operands.toList, ∀ j, j % 16 = 15 → AV.fr j (eT (U i) x) = true := fun x hx j hj => by
            cases x with
            | tmp z => simp only [eT]; exact c1 z ((H.clo hmem hC).1 hp z hx) j hj
            | const v => rfl
            | global g => rfl
            | func f => rfl
          exact (e.run (fun id => Al l0 n R i id ∧ id % 16 ≠ 15) (SM l0 n V R m) (TM l0 n U m) (fun x hx => ⟨opx x hx, fun j hj => by
            by_cases h15 : j % 16 = 15
            · exact rz x hx j h15
            · exact hopn x hx j fun h => hj ⟨h, h15⟩⟩) ⟨fun id hA => hAeq id hA.1 hA.2, fun id b hA hb j hj => by
            by_cases h15 : j % 16 = 15
            · exact c2 id b hb j h15
            · exact hclo id b hA.1 hb j fun h => hj ⟨h, h15⟩⟩ (fun j b hb h15 hA => H.irr (hA.1 i hi ⟨h15, b, hb⟩)) (fun h => bno hC h)).2.2 w0 φ a w Q i hio hg S
        · exact (e.run (Al l0 n R i) (SM l0 n V R m) (TM l0 n U m) (fun x hx => ⟨opx x hx, hopn x hx⟩) ⟨fun id hA => by
            by_cases h15 : id % 16 = 15
            · rw [gS_SM, if_pos h15, H.resConst hcf h15 _ (lc_le _ _ _), H.resConst hcf h15 i (by omega)]
            · exact hAeq id hA h15, hclo⟩ (fun j b hb h15 hA => H.irr (hA i hi ⟨h15, b, hb⟩)) (fun h => bno hC h)).2.2 w0 φ a w Q i hio hg S
  refine ⟨fun Q => wpOp_mono (fun a' w' hn => ?_) (hz Q).1, (hz fun _ _ _ => False).2⟩
  have fresh : ∀ id, Dk R i id → ∀ k, k < n → m k = true → ¬ (Al l0 n R k id ∨ Dk R k id) := fun id hd k hk hmk h => by
    rcases h with h | h
    · have := hdn k i (h i hi hd) hmk
      rw [hmi] at this; cases this
    · rw [H.disD hk hi h hd, hmi] at hmk; cases hmk
  have hf : ∀ id b, gS (R i) id = some b → id % 16 ≠ 15 → AV.frL id (pT (TM l0 n U m) o'.dst .u) = true ∧ ∀ j c, gS (SM l0 n V R m) j = some c → gS (R i) j = none ∨ j % 16 = 15 → c.fr id = true := fun id b hb hid15 => by
    have hD : Dk R i id := ⟨hid15, b, hb⟩
    refine ⟨frL_of fun x => ?_, fun j c hj _ => ?_⟩
    · rw [gT_pT]
      split
      · split <;> rfl
      · rename_i hx
        rw [gT_TM]
        by_cases h : hid l0 n m x = true
        · rw [if_pos h]; rfl
        · rw [if_neg h]
          by_cases hz : ∃ k, k < n ∧ dsO l0 k = some x
          · obtain ⟨k, hk, hd⟩ := hz
            rw [H.valU hk hd hk (Nat.le_refl _)]
            split
            · have hmk : m k = true := by
                cases e : m k with
                | true => rfl
                | false => exact absurd (hid_t hk e hd) h
              exact (hI k hk).y id (fresh id hD k hk hmk)
            · rfl
          · have hz' : ∀ k, k < n → dsO l0 k ≠ some x := fun k hk e => hz ⟨k, hk, e⟩
            rw [H.keepU n (Nat.zero_le _) (Nat.le_refl _) fun k _ hk => hz' k hk]
            exact H.oldT hz' hi hD
    · rw [gS_SM] at hj
      split at hj
      · rename_i h15
        exact H.resFr h15 (lc_le _ _ _) hj hi hD
      · rename_i h15
        split at hj
        · rename_i hok
          by_cases hd : ∃ k, k < n ∧ Dk R k j
          · obtain ⟨k, hk, hd⟩ := hd
            rw [H.blkV hk hd hk (Nat.le_refl _)] at hj
            exact (hI k hk).r j c hj id (fresh id hD k hk ((okS_iff h15).1 hok k hk hd))
          · have hd' : ∀ k, k < n → gS (R k) j = none := fun k hk => noD h15 fun e => hd ⟨k, hk, e⟩
            rw [H.keepV n (Nat.zero_le _) (Nat.le_refl _) fun k _ hk => hd' k hk] at hj
            exact H.oldS hj hd' hi hD
        · cases hj
  have hin : ∀ id b, gS (R i) id = some b → id % 16 = 15 → (∃ c, gS (SM l0 n V R m) id = some c) ∧ ∀ j, b.fr j = true := fun id b hb h15 => by
    rcases e.own id b hb with ⟨q, _⟩ | ⟨_, hC, c, hc, _⟩
    · exact absurd h15 q
    · refine ⟨⟨c, ?_⟩, (e.cal hC).2 id b hb⟩
      rw [gS_SM, if_pos h15, H.resAt hi (by rw [hCk]; exact hC) hmi hdn hanc h15]
      exact hc
  have hs : ∀ id, gS (SM l0 n V R m') id = (gS (R i) id).or (gS (SM l0 n V R m) id) := fun id => by
    rw [gS_SM, gS_SM]
    by_cases h15 : id % 16 = 15
    · rw [if_pos h15, if_pos h15]
      by_cases hC : isCk l0 i = true
      · rw [H.lcNext hi hC hmi hdn hm', hV, H.resAt hi hC hmi hdn hanc h15]
      · have hC : isCk l0 i = false := by simpa using hC
        rw [lc_same hm' hC, H.noRes hi h15 hC, Option.none_or]
    · rw [if_neg h15, if_neg h15]
      by_cases hd : Dk R i id
      · rw [if_pos ((okS_iff h15).2 fun k hk h => by rw [H.disD hk hi h hd, hm']; simp), H.blkV hi hd hi (Nat.le_refl _)]
        obtain ⟨_, b, hb⟩ := hd
        rw [hb]; rfl
      · rw [noD h15 hd, Option.none_or]
        have : okS n R m' id = okS n R m id := by
          rw [Bool.eq_iff_iff, okS_iff h15, okS_iff h15]
          refine ⟨fun h k hk q => ?_, fun h k hk q => by rw [hm', h k hk q]; simp⟩
          have := h k hk q
          rw [hm'] at this
          simp only [Bool.or_eq_true, decide_eq_true_eq] at this
          rcases this with e | e
          · subst e; exact absurd q hd
          · exact e
        rw [this]
  obtain ⟨ψ, S'⟩ := mergeW (s' := SM l0 n V R m') S hn hf hin hs
  refine ⟨ψ, Sim_weak S' ?_ (fun x => ?_) fun _ _ h => h⟩
  · rw [len_pT]; simp [TM]
  · rw [gT_TM]
    by_cases h : hid l0 n m' x = true
    · rw [if_pos h]; exact .inl rfl
    · rw [if_neg h]
      right
      rw [gT_pT]
      by_cases hx : o'.dst = some x
      · rw [if_pos hx, H.valU hi (hd0.trans hx) hi (Nat.le_refl _)]
        have : (TM l0 n U m).length = (U 0).length := by simp only [TM, List.length_map, List.length_range]; exact H.lenU n (Nat.le_refl _)
        rw [this]
      · rw [if_neg hx, gT_TM, if_neg]
        intro h'
        refine h (List.any_eq_true.2 ?_)
        obtain ⟨k, hk, h9⟩ := List.any_eq_true.1 h'
        refine ⟨k, hk, ?_⟩
        simp only [Bool.and_eq_true, Bool.not_eq_true', beq_iff_eq] at h9 ⊢
        refine ⟨?_, h9.2⟩
        rw [hm', h9.1, Bool.or_false]
        refine decide_eq_false fun e => ?_
        rw [e] at h9
        exact hx (hd0 ▸ h9.2)
end
theorem tail_ok (T : TyOk P ty) {l0 : List Oper} (hns : Region.noSelect l0.toArray = true) (hp : ∀ c a w, ¬ Q (.panic c) a w) {K : Kt} (hK : ∀ φ t s a w, K t s → Sim w0 t s φ a w → Q .normal a w) : ∀ (l : List Oper) (k : Nat) (listed : Array Bool) {q : Bool} {t : List AV} {s : Sto} {φ : Nat → Value} {a : Act} {w : World},
    (∀ j, l[j]? = l0.toArray[k + j]?) → tlB l0.toArray l.length k listed = true → opsW P ty (gds l0) q l t s K → Sim w0 t s φ a w → wpAny P .any l0.toArray Q l.length listed a w
  | [], k, listed, q, t, s, φ, a, w, hl, hB, h, S => ⟨by simpa [tlB] using hB, hK φ t s a w h S⟩
  | o :: l, k, listed, q, t, s, φ, a, w, hl, hB, h, S => by
    have h0 : l0.toArray[k]? = some o := by simpa using (hl 0).symm
    have hl' : ∀ j, l[j]? = l0.toArray[k + 1 + j]? := fun j => by have := hl (j + 1); simpa [Nat.add_assoc, Nat.add_comm 1 j] using this
    simp only [List.length_cons, tlB, Bool.and_eq_true, Bool.or_eq_true, decide_eq_true_eq] at hB
    obtain ⟨hB, hB'⟩ := hB
    rcases hB with hB | hB
    · refine ⟨fun h1 => (by rw [hB] at h1; cases h1), fun i hi => ?_⟩
      rw [hB] at hi
      have hik : i = k := by simpa using hi
      subst hik
      unfold wpOp
      simp only [h0]
      obtain ⟨d, op, ot, p, af, gd⟩ := o
      cases gd with
      | none =>
        simp only [opsW] at h
        rw [if_pos (by simp [Region.wanted])]
        left
        refine Oper.wp_mono (fun a' w' hn => ?_) (opX_ok (o := ⟨d, op, ot, p, af, none⟩) T S h)
        obtain ⟨φ', t', s', h', S'⟩ := hn
        exact tail_ok T hns hp hK l _ _ hl' hB' h' S'
      | some g =>
        obtain ⟨i', b⟩ := g
        simp only [opsW] at h
        obtain ⟨v, hv, hz⟩ := guardW_inv h
        clear h
        have hy := guard_yields S hv
        rcases hz with ⟨rfl, h⟩ | ⟨hne, h⟩
        · rw [if_pos (by simp [Region.wanted, hy, bOf])]
          left
          refine Oper.wp_mono (fun a' w' hn => ?_) (opX_ok (o := ⟨d, op, ot, p, af, some (i', b)⟩) T S h)
          obtain ⟨φ', t', s', h', S'⟩ := hn
          exact tail_ok T hns hp hK l _ _ hl' hB' h' S'
        · rw [if_neg (by simp [Region.wanted, hy, hne])]
          exact tail_ok T hns hp hK l _ _ hl' hB' h (Sim_put S d (y := .v undef) (by simp [Rep]))
    · obtain ⟨⟨hr, hpu⟩, hf⟩ := hB
      have hpu : pureT o = true := by unfold pureN at hpu; rw [h0] at hpu; exact hpu
      obtain ⟨d, op, ot, p, af, gd⟩ := o
      unfold pureT at hpu
      simp only [Bool.and_eq_true, Option.isNone_iff_eq_none] at hpu
      obtain ⟨rfl, hpu⟩ := hpu
      simp only [opsW] at h
      have key : ∃ y v, opsW P ty (gds l0) (q && rot (ty ot) op) l (pT t d y) s K ∧ Rep w0.heap.size w0 φ y v ∧ ∀ w1, (execOp a.eval (⟨d, op, ot, p, af, none⟩ : Oper)).run P w1 = .ok (.value v) w1 := by
        cases op with
        | move x =>
          simp only [opX] at h
          exact ⟨_, _, h, Sim_ev S x, fun w1 => by simp [execOp]⟩
        | extract x n =>
          simp only [opX] at h
          have hx := Sim_ev S x
          unfold extW at h
          split at h
          · rename_i cs _ _ _ _ _ e1
            rw [e1] at hx
            simp only [Rep] at hx
            obtain ⟨z, e2, h2⟩ := hx
            obtain ⟨y, v, h3, h4, h5⟩ := exW_get h h2
            exact ⟨y, v, h5, h4, fun w1 => by simp [execOp, e2, Instr.extract, h3]⟩
          · exact h.elim
        | _ => simp at hpu
      obtain ⟨y, v, h1, h2, h3⟩ := key
      exact wpAny_first (oi := ⟨d, op, ot, p, af, none⟩) h0 (Region.noSelect_spec hns) (fun c a w hh => absurd hh (hp c _ w)) l.length listed a w (Region.free_spec h0 hf) (by simpa using hr) (.inl ⟨by simp [Region.wanted], h3⟩)
        (tail_ok T hns hp hK l _ _ hl' hB' h1 (Sim_put S d h2))
def lefT (n : Nat) (listed : Array Bool) : Nat := ((List.range n).filter fun i => !listed.getD i false).length
theorem lefT_set {n i : Nat} {listed : Array Bool} (hi : i < n) (hs : n ≤ listed.size) (h : listed.getD i false = false) : lefT n (listed.setIfInBounds i true) + 1 = lefT n listed := by
  unfold lefT
  have key : ∀ m, m ≤ n → ((List.range m).filter fun j => !(listed.setIfInBounds i true).getD j false).length + (if i < m then 1 else 0) = ((List.range m).filter fun j => !listed.getD j false).length := by
    intro m
    induction m with
    | zero => intro _; simp
    | succ m ih =>
      intro hm
      have := ih (by omega)
      simp only [List.range_succ, List.filter_append, List.length_append]
      by_cases e : i = m
      · subst e
        have e1 : (if i < i then 1 else 0) = 0 := if_neg (Nat.lt_irrefl i)
        have e2 : (if i < i + 1 then 1 else 0) = 1 := if_pos (Nat.lt_succ_self i)
        rw [e1] at this
        rw [e2]
        have h1 : (listed.setIfInBounds i true).getD i false = true := by
          have : i < listed.size := by omega
          simp [this]
        simp only [List.filter_cons, List.filter_nil, h1, h, Bool.not_true, Bool.not_false, if_true, if_false, Bool.false_eq_true, List.length_cons, List.length_nil]
        omega
      · have h1 : (listed.setIfInBounds i true).getD m false = listed.getD m false := getD_set_ne false e
        have e2 : (if i < m + 1 then 1 else 0) = (if i < m then 1 else 0) := by
          by_cases e3 : i < m
          · rw [if_pos e3, if_pos (by omega)]
          · rw [if_neg e3, if_neg (by omega)]
        simp only [List.filter_cons, List.filter_nil, h1]
        rw [e2]
        omega
  have := key n (Nat.le_refl _)
  rw [if_pos hi] at this
  exact this
theorem lefT_zero {n : Nat} {listed : Array Bool} (h : lefT n listed = 0) {i : Nat} (hi : i < n) : listed.getD i false = true := by
  unfold lefT at h
  cases e : listed.getD i false with
  | true => rfl
  | false =>
    have : i ∈ (List.range n).filter fun j => !listed.getD j false := List.mem_filter.2 ⟨List.mem_range.2 hi, by simp [e]⟩
    rw [List.length_eq_zero_iff.1 h] at this
    cases this
theorem lefT_pos {n k : Nat} {listed : Array Bool} (h : lefT n listed = k + 1) : ∃ i, i < n ∧ listed.getD i false = false := by
  unfold lefT at h
  cases e : (List.range n).filter fun j => !listed.getD j false with
  | nil => rw [e] at h; simp at h
  | cons x l =>
    have : x ∈ (List.range n).filter fun j => !listed.getD j false := by rw [e]; simp
    obtain ⟨h1, h2⟩ := List.mem_filter.1 this
    exact ⟨x, List.mem_range.1 h1, by simpa using h2⟩
theorem getD_tf {listed : Array Bool} {i : Nat} (h : i < listed.size) : listed.getD i true = listed.getD i false := by simp [h]
theorem head_any {l0 : List Oper} {n : Nat} {U : Nat → List AV} {V : Nat → Sto} {Y : Nat → AV} {R : Nat → Sto} (H : Hd P ty l0 n U V Y R) (hp : ∀ c a w, ¬ Q (.panic c) a w)
    (hQ : ∀ φ a w, Sim w0 (U n) (V n) φ a w → wpAny P .any l0.toArray Q (l0.length - n) (Array.replicate n true ++ Array.replicate (l0.length - n) false) a w) :
    ∀ (f : Nat) (listed : Array Bool) (φ : Nat → Value) (a : Act) (w : World), listed.size = l0.length → (∀ j, n ≤ j → listed.getD j false = false) → lefT n listed = f → ListedClosed .any l0.toArray listed →
      Sim w0 (TM l0 n U (fun j => listed.getD j false)) (SM l0 n V R (fun j => listed.getD j false)) φ a w → wpAny P .any l0.toArray Q (f + (l0.length - n)) listed a w
  | 0, listed, φ, a, w, hsz, htl, hc, hcl, S => by
    have hall : listed = Array.replicate n true ++ Array.replicate (l0.length - n) false := by
      apply Array.ext
      · have := H.nl; simp [hsz]; omega
      · intro i h1 h2
        have hg : listed[i] = listed.getD i false := by simp [h1]
        rw [hg]
        by_cases hi : i < n
        · rw [lefT_zero hc hi, Array.getElem_append_left (by simpa using hi)]; simp
        · rw [htl i (by omega), Array.getElem_append_right (by simpa using hi)]; simp
    rw [hall]
    simp only [Nat.zero_add]
    refine hQ φ a w (Sim_weak S ?_ (fun x => .inr ?_) fun id b hb => ?_)
    · simp [TM]
    · rw [gT_TM, hid_f fun k hk _ => lefT_zero hc hk, if_neg (by decide)]
    · rw [gS_SM]
      by_cases h15 : id % 16 = 15
      · rw [if_pos h15]
        rw [← hb]
        exact (H.keepV n (lc_le _ _ _) (Nat.le_refl _) fun k hk1 hk2 => by
          by_cases hC : isCk l0 k = true
          · have := lc_gt (m := fun j => listed.getD j false) hk2 (lefT_zero hc hk2) hC
            omega
          · exact H.noRes hk2 h15 (by simpa using hC)).symm
      · rw [if_neg h15, if_pos ((okS_iff h15).2 fun k hk _ => lefT_zero hc hk)]; exact hb
  | f + 1, listed, φ, a, w, hsz, htl, hc, hcl, S => by
    have hnl := H.nl
    have rdy : ∀ i, i < l0.length → listed.getD i false = false → (∀ e ∈ (l0[i]?.map (·.after)).getD #[], Region.binds .any e = true → listed.getD e.on false = true) → i ∈ Region.ready .any l0.toArray listed := fun i hi h1 h2 => by
      refine mem_ready.2 ⟨by rw [getD_tf (by omega)]; exact h1, l0[i], by simp [hi], fun e he hb => h2 e ?_ hb⟩
      rw [List.getElem?_eq_getElem hi]; exact he
    have run1 : ∀ i, i ∈ Region.ready .any l0.toArray listed → i < n → ∃ o, l0[i]? = some o ∧ listed.getD i false = false ∧ (∀ Q', wpOp P l0.toArray Q' i (fun a' w' => ∃ ψ, Sim w0 (TM l0 n U (fun j => (listed.setIfInBounds i true).getD j false)) (SM l0 n V R (fun j => (listed.setIfInBounds i true).getD j false)) ψ a' w') a w) ∧ (pureT o = true → ∃ v, Yields P l0.toArray o v a) := fun i hr hi => by
      have hil : i < l0.length := by omega
      have hun : listed.getD i false = false := by rw [← getD_tf (by omega)]; exact (mem_ready.1 hr).1
      obtain ⟨h1, h2⟩ := H.step (m := fun j => listed.getD j false) (m' := fun j => (listed.setIfInBounds i true).getD j false) hi (List.getElem?_eq_getElem hil) hun (fun k j ha hk => ha.listed hcl hk) (fun j ha => ha.ready hcl hr) S (fun j => by
        by_cases e : j = i
        · subst e; simp [show j < listed.size by omega]
        · simp only [decide_eq_false e, Bool.false_or]; exact getD_set_ne false (Ne.symm e))
      exact ⟨_, List.getElem?_eq_getElem hil, hun, h1, h2⟩
    have nxt : ∀ i, i ∈ Region.ready .any l0.toArray listed → i < n → ∀ φ a w, Sim w0 (TM l0 n U (fun j => (listed.setIfInBounds i true).getD j false)) (SM l0 n V R (fun j => (listed.setIfInBounds i true).getD j false)) φ a w → wpAny P .any l0.toArray Q (f + (l0.length - n)) (listed.setIfInBounds i true) a w := fun i hr hi φ a w S' => by
      have hun : listed.getD i false = false := by rw [← getD_tf (by omega)]; exact (mem_ready.1 hr).1
      refine head_any H hp hQ f _ φ a w (by simp [hsz]) (fun j hj => ?_) (by have := lefT_set hi (by omega) hun; omega) (hcl.set hr) S'
      rw [getD_set_ne false (by omega)]; exact htl j hj
    rw [show f + 1 + (l0.length - n) = (f + (l0.length - n)) + 1 by omega]
    by_cases hF : ∃ i, i ∈ Region.ready .any l0.toArray listed ∧ i < n ∧ fstB l0.toArray i = true
    · obtain ⟨i, hr, hi, hf⟩ := hF
      obtain ⟨o, ho, hun, h1, h2⟩ := run1 i hr hi
      have ho' : l0.toArray[i]? = some o := by simpa using ho
      unfold fstB at hf
      rw [ho'] at hf
      simp only [Bool.and_eq_true] at hf
      obtain ⟨v, hv⟩ := h2 hf.1
      refine wpAny_first ho' (Region.noSelect_spec H.ns) (fun c a w hh => absurd hh (hp c _ w)) _ listed a w (fun j oj hj hne hjun hno => ?_) hr hv ?_
      · have := List.all_eq_true.1 hf.2 j (List.mem_range.2 (Array.getElem?_eq_some_iff.1 hj).1)
        simp only [hj, Bool.or_eq_true, beq_iff_eq, hne, false_or] at this
        rcases this with (q | q) | q
        · obtain ⟨e, he, hb⟩ := Array.any_eq_true'.1 q
          simp only [Bool.and_eq_true, beq_iff_eq] at hb
          exact absurd hb.2 (hno e he hb.1)
        · obtain ⟨e, he, hb⟩ := Array.any_eq_true'.1 q
          simp only [Bool.and_eq_true, beq_iff_eq] at hb
          obtain ⟨_, o2, ho2, h3⟩ := mem_ready.1 hr
          obtain rfl : o2 = o := Option.some.inj (ho2.symm.trans ho')
          have h4 := h3 e he hb.1
          rw [hb.2] at h4
          have hjl : j < listed.size := by have := (Array.getElem?_eq_some_iff.1 hj).1; simp at this; omega
          rw [getD_tf hjl, h4] at hjun
          cases hjun
        · exact q
      · have h5 := h1 (fun _ _ _ => False)
        have h6 : ∃ ψ, Sim w0 (TM l0 n U (fun j => (listed.setIfInBounds i true).getD j false)) (SM l0 n V R (fun j => (listed.setIfInBounds i true).getD j false)) ψ (a.put o.dst v) w := by
          unfold wpOp at h5
          simp only [ho'] at h5
          rcases hv with ⟨q1, q2⟩ | ⟨q1, q2⟩
          · rw [if_pos q1] at h5
            rcases h5 with h5 | h5
            · unfold Oper.wp at h5
              rw [q2 w] at h5
              exact h5
            · exact absurd h5.2 (fun hl => by have := hl; simp [LetsOut] at this)
          · rw [if_neg (by rw [q1]; exact Bool.false_ne_true)] at h5
            rw [q2]; exact h5
        obtain ⟨ψ, h6⟩ := h6
        exact nxt i hr hi ψ _ w h6
    · have least : ∃ k, k < n ∧ listed.getD k false = false ∧ ∀ j, j < k → listed.getD j false = true := by
        obtain ⟨k, hk, hk2⟩ := least_of (lefT_pos hc)
        refine ⟨k, hk.1, hk.2, fun j hj => ?_⟩
        cases e : listed.getD j false with
        | true => rfl
        | false => exact absurd ⟨by omega, e⟩ (hk2 j hj)
      obtain ⟨k, hk, hku, hkl⟩ := least
      have hkr : k ∈ Region.ready .any l0.toArray listed := rdy k (by omega) hku fun e he hb => by
        rw [List.getElem?_eq_getElem (show k < l0.length by omega)] at he
        have := backOk_at H.back (List.getElem?_eq_getElem (show k < l0.length by omega)) e he hb
        exact hkl _ (by omega)
      refine ⟨fun h0 => (by rw [h0] at hkr; cases hkr), fun i hi => ?_⟩
      have hin : i < n := by
        apply Classical.byContradiction
        intro hin
        have hil : i < l0.length := by
          obtain ⟨_, o, ho, _⟩ := mem_ready.1 hi
          simpa using (Array.getElem?_eq_some_iff.1 ho).1
        have := List.all_eq_true.1 H.tl i (List.mem_range.2 hil)
        simp only [Bool.or_eq_true, decide_eq_true_eq, List.all_eq_true, List.mem_range] at this
        rcases this with h | h
        · omega
        · rcases h k hk with h | h
          · exact hF ⟨k, hkr, hk, h⟩
          · have := (rch_anc h).ready hcl hi
            rw [hku] at this; cases this
      obtain ⟨o, ho, hun, h1, _⟩ := run1 i hi hin
      exact wpOp_mono (fun a' w' hS => by obtain ⟨ψ, hS⟩ := hS; exact nxt i hi hin ψ a' w' hS) (h1 Q)
theorem region_ok (T : TyOk P ty) (hm : P.follows .mixedOrders = true) {id : Nat} {l : List Oper} {dr : Bool} (hd : dr = true → drOk ty l = true) {K : Kt} (hK : ∀ φ t s a w, K t s → Sim w0 t s φ a w → Q .normal a w) {t : List AV} {s : Sto} {φ : Nat → Value} {a : Act} {w : World}
    (hdc : dr = true → dchk l t s = true) (h : opsW P ty (gds l) dr l t s K) (S : Sim w0 t s φ a w) : (Code.region id l.toArray dr).wp P Q a w := by
  cases dr with
  | false => exact wp_region_lit (opsW_ok T hK l h S)
  | true =>
    have hro' : ∀ p : Oper → Bool, (∀ o, p o = true → rot (ty o.type) o.op = true) → (l.takeWhile p).length ≤ l.length ∧ ∀ i, i < (l.takeWhile p).length → ∀ o, l[i]? = some o → rot (ty o.type) o.op = true := fun p hp => ⟨(List.takeWhile_sublist _).length_le, fun i hi o ho => by
      have e : l.take (l.takeWhile p).length = l.takeWhile p := (List.prefix_iff_eq_take.1 (List.takeWhile_prefix (l := l) p)).symm
      have hm' : o ∈ l.take (l.takeWhile p).length := List.mem_of_getElem? (i := i) (by rw [List.getElem?_take, if_pos hi]; exact ho)
      rw [e] at hm'
      exact hp o (List.all_eq_true.1 (List.all_takeWhile (l := l)) o hm')⟩
    have hn : ∃ n, drOkN l n = true ∧ n ≤ l.length ∧ ∀ i, i < n → ∀ o, l[i]? = some o → rot (ty o.type) o.op = true := by
      have hd := hd rfl
      simp only [drOk, Bool.or_eq_true] at hd
      rcases hd with hd | hd
      · exact ⟨_, hd, hro' _ fun o ho => ho⟩
      · exact ⟨_, hd, hro' _ fun o ho => by simp only [Bool.and_eq_true] at ho; exact ho.1⟩
    obtain ⟨n, hd, hnl, hro⟩ := hn
    simp only [drOkN, Bool.and_eq_true] at hd
    obtain ⟨⟨⟨⟨⟨⟨h1, h2⟩, h3⟩, h4⟩, h6⟩, h7⟩, h5⟩ := hd
    obtain ⟨U, V, Y, R, hU, hV, hT, hk⟩ := trace T hnl hro h
    have H : Hd P ty l n U V Y R := ⟨hnl, h2, fun i hi => List.all_eq_true.1 h1 i (List.mem_range.2 hi), h3, h4, h6, h7, by rw [hU, hV]; exact hdc rfl, hT⟩
    refine wp_mono (Q := fun e a w => e = .normal ∧ Q .normal a w) ?_ (fun e a w hh => by rw [hh.1]; exact hh.2)
    refine wp_region_any hm ?_
    have S0 : Sim w0 t s φ a { w with drawn := w.drawn + 1 } := Sim_below S ⟨rfl, rfl, rfl, Nat.le_refl _, fun _ _ => rfl⟩
    have e0 : lefT n (Array.replicate l.toArray.size false) = n := by
      unfold lefT
      rw [List.filter_eq_self.2 (fun i hi => by
        have : i < l.length := by have := List.mem_range.1 hi; omega
        simp [this])]
      simp
    have hcl : ListedClosed .any l.toArray (Array.replicate l.toArray.size false) := by
      intro j oj hj hl
      have : j < l.toArray.size := (Array.getElem?_eq_some_iff.1 hj).1
      rw [getD_lt (by simpa using this)] at hl
      simp at hl
    have f0 : ∀ j, (Array.replicate l.toArray.size false).getD j false = false := fun j => by
      by_cases hj : j < (Array.replicate l.toArray.size false).size
      · rw [getD_lt hj]; simp
      · exact getD_ge hj
    have := head_any (w0 := w0) (Q := fun e a w => e = .normal ∧ Q .normal a w) H (fun c a w hh => nomatch hh.1) (fun φ a' w' S' => by
      have := tail_ok (Q := fun e a w => e = .normal ∧ Q .normal a w) T h4 (fun c a w hh => nomatch hh.1) (fun φ t s a w h1 h2 => ⟨rfl, hK φ t s a w h1 h2⟩) (l.drop n) n _ (fun j => by simp) (by rw [List.length_drop]; exact h5) hk S'
      rwa [List.length_drop] at this) n (Array.replicate l.toArray.size false) φ a _ (by simp) (fun j _ => f0 j) e0 hcl (by
      refine Sim_weak S0 ?_ (fun x => ?_) fun id b hb => ?_
      · rw [← hU, ← H.lenU n (Nat.le_refl _)]; simp [TM]
      · rw [gT_TM]
        by_cases hx : hid l n (fun j => (Array.replicate l.toArray.size false).getD j false) x = true
        · rw [if_pos hx]; exact .inl rfl
        · rw [if_neg hx, ← hU]
          exact .inr (H.keepU _ (Nat.zero_le _) (Nat.le_refl _) fun k _ hk hd => hx (hid_t hk (f0 k) hd))
      · have hl0 : lc l (fun j => (Array.replicate l.toArray.size false).getD j false) n = 0 := by
          rcases lc_at (l0 := l) (m := fun j => (Array.replicate l.toArray.size false).getD j false) (n := n) with h | ⟨c, _, _, h3, _⟩
          · exact h
          · rw [f0 c] at h3; cases h3
        rw [gS_SM, hl0] at hb
        split at hb
        · rw [hV] at hb; exact hb
        · rename_i h15
          split at hb
          · rename_i hok
            rw [H.keepV _ (Nat.zero_le _) (Nat.le_refl _) (fun k _ hk => noD h15 fun hd => absurd ((okS_iff h15).1 hok k hk hd) (by rw [f0]; exact Bool.false_ne_true)), hV] at hb
            exact hb
          · cases hb)
    rwa [show n + (l.length - n) = l.toArray.size by simp; omega] at this
mutual
theorem Rep_ren {B : Nat} {w : World} {φ : Nat → Value} {ρ : List (Nat × Nat)} : ∀ {x : AV} {y : Value}, Rep B w φ (AV.ren ρ x) y → Rep B w (fun i => φ (rn ρ i)) x y
  | .u, _, _ => by simp [Rep]
  | .v _, _, h => by simpa [AV.ren, Rep] using h
  | .pr _ _, _, h => by simpa [AV.ren, Rep] using h
  | .pe _, _, h => by simpa [AV.ren, Rep] using h
  | .ow _ _ _, _, h => by simp [AV.ren, Rep] at h
  | .lo _, _, h => by simpa [AV.ren, Rep] using h
  | .bp _ _, _, h => by simpa [AV.ren, Rep] using h
  | .le _ _ _ _, _, h => by simpa [AV.ren, Rep] using h
  | .vw _ _ _ _, _, h => by simpa [AV.ren, Rep] using h
  | .ag cs, y, h => by
    simp only [AV.ren, Rep] at h ⊢
    obtain ⟨l, h1, h2⟩ := h
    exact ⟨l, h1, RepL_ren h2⟩
  | .tu cs, y, h => by
    simp only [AV.ren, Rep] at h ⊢
    obtain ⟨l, h1, h2⟩ := h
    exact ⟨l, h1, RepL_ren h2⟩
theorem RepL_ren {B : Nat} {w : World} {φ : Nat → Value} {ρ : List (Nat × Nat)} : ∀ {x : List AV} {y : List Value}, RepL B w φ (AV.renL ρ x) y → RepL B w (fun i => φ (rn ρ i)) x y
  | [], y, h => by simpa [AV.renL, RepL] using h
  | c :: cs, y, h => by
    simp only [AV.renL, RepL] at h ⊢
    obtain ⟨z, zs, h1, h2, h3⟩ := h
    exact ⟨z, zs, h1, Rep_ren h2, RepL_ren h3⟩
end
theorem EntT_ok {B : Nat} {w : World} {φ : Nat → Value} {ρ : List (Nat × Nat)} : ∀ {t T : List AV} {l : List Value}, EntT ρ t T → RepL B w φ t l → RepL B w (fun i => φ (rn ρ i)) T l
  | [], [], l, _, h => by simpa [RepL] using h
  | [], _ :: _, l, h, _ => by simp [EntT] at h
  | _ :: _, [], l, h, _ => by simp [EntT] at h
  | x :: t, y :: T, l, h, hl => by
    simp only [RepL] at hl ⊢
    obtain ⟨z, zs, rfl, h1, h2⟩ := hl
    cases y with
    | u => simp only [EntT] at h; exact ⟨z, zs, rfl, by simp [Rep], EntT_ok h h2⟩
    | _ => simp only [EntT] at h; exact ⟨z, zs, rfl, Rep_ren (by rw [← h.1]; exact h1), EntT_ok h.2 h2⟩
theorem EntS_at {ρ : List (Nat × Nat)} {s : Sto} : ∀ {S : Sto} {i : Nat} {b : Blk}, EntS ρ s S → gS S i = some b → gS s (rn ρ i) = some (b.ren ρ)
  | [], i, b, _, h => by simp [gS] at h
  | (j, c) :: S, i, b, h, hi => by
    simp only [EntS] at h
    simp only [gS] at hi
    split at hi
    · rename_i e
      subst e
      obtain rfl := Option.some.inj hi
      exact h.1
    · exact EntS_at h.2 hi
theorem inj_at {ρ : List (Nat × Nat)} {S : Sto} (h : inj ρ S = true) {i j : Nat} {b c : Blk} (hi : gS S i = some b) (hj : gS S j = some c) (hne : i ≠ j) : rn ρ i ≠ rn ρ j := by
  unfold inj at h
  simp only [Bool.and_eq_true] at h
  replace h := of_decide_eq_true h.1
  induction S with
  | nil => simp [gS] at hi
  | cons p S ih =>
    obtain ⟨k, d⟩ := p
    simp only [List.map_cons, List.nodup_cons] at h
    simp only [gS] at hi hj
    by_cases e1 : k = i
    · subst e1
      rw [if_neg hne] at hj
      intro e
      exact h.1 (by rw [e]; exact List.mem_map.2 ⟨(j, c), gS_mem hj, rfl⟩)
    · rw [if_neg e1] at hi
      by_cases e2 : k = j
      · subst e2
        intro e
        exact h.1 (by rw [← e]; exact List.mem_map.2 ⟨(i, b), gS_mem hi, rfl⟩)
      · rw [if_neg e2] at hj
        exact ih hi hj h.2
theorem Ent_ok {t T : List AV} {s S' : Sto} {φ : Nat → Value} {a : Act} {w : World} (h : Ent t s T S') (S : Sim w0 t s φ a w) : ∃ φ', Sim w0 T S' φ' a w := by
  obtain ⟨ρ, h1, h2, h3⟩ := h
  have h4 : ∀ i, i % 16 = 15 → rn ρ i = i := fun i hi => by
    unfold inj at h3
    simp only [Bool.and_eq_true, List.all_eq_true] at h3
    unfold rn
    cases e : ρ.find? fun p => p.1 == i with
    | none => rfl
    | some p =>
      have h5 := h3.2 p (List.mem_of_find?_eq_some e)
      have h6 := List.find?_some e
      simp only [beq_iff_eq] at h6
      rw [h6] at h5
      simp [hi] at h5
  refine ⟨fun i => φ (rn ρ i), S.below, S.defs, EntT_ok h1 S.tmp, fun i b hb => ?_, fun i j b c hb hc hne => ?_, fun i hi => by rw [h4 i hi]; exact S.fix i hi, S.kept, fun i b k hb hk => S.inn _ _ k (EntS_at h2 hb) hk, S.wsz⟩
  · have := S.blk _ _ (EntS_at h2 hb)
    cases b with
    | box tb cs =>
      obtain ⟨g, c, g1, g2, g3, g4⟩ := this
      exact ⟨g, c, g1, g2, g3, RepL_ren g4⟩
    | row e sz xs => exact this
  · exact S.apart _ _ _ _ (EntS_at h2 hb) (EntS_at h2 hc) (inj_at h3 hb hc hne)
def okC (ty : TypeId → Option TI) : Code → Bool
  | .skip => true
  | .region _ ⟨l⟩ dr => !dr || drOk ty l
  | .seq a b => okC ty a && okC ty b
  | .cond _ a b => okC ty a && okC ty b
  | .block _ b => okC ty b
  | .loop b => okC ty b
  | .exit _ => true
  | .ret => true
  | _ => false
def Qx (w0 : Bs) (Q : Qt) : Exit → Act → World → Prop := fun e a w => ∃ φ t s, Q e t s ∧ Sim w0 t s φ a w
theorem EW_ok (T : TyOk P ty) (hm : P.follows .mixedOrders = true) : ∀ (c : Code), okC ty c = true → ∀ {Q : Qt} {t : List AV} {s : Sto} {φ : Nat → Value} {a : Act} {w : World}, EW P ty c Q t s → Sim w0 t s φ a w → c.wp P (Qx w0 Q) a w
  | .skip, _, Q, t, s, φ, a, w, h, S => wp_skip ⟨φ, t, s, h, S⟩
  | .exit id, _, Q, t, s, φ, a, w, h, S => wp_exit ⟨φ, t, s, h, S⟩
  | .ret, _, Q, t, s, φ, a, w, h, S => wp_ret ⟨φ, t, s, h, S⟩
  | .region id ⟨l⟩ dr, hc, Q, t, s, φ, a, w, h, S => by
    simp only [okC, Bool.or_eq_true, Bool.not_eq_true'] at hc
    exact region_ok T hm (fun e => by rcases hc with hc | hc; rw [e] at hc; cases hc; exact hc) (K := kN Q) (fun φ t s a w hk S => ⟨φ, t, s, hk, S⟩) h.1 h.2 S
  | .seq x y, hc, Q, t, s, φ, a, w, h, S => by
    simp only [okC, Bool.and_eq_true] at hc
    refine wp_seq (wp_mono (EW_ok T hm x hc.1 h S) fun e a w hq => ?_)
    obtain ⟨φ', t', s', hq, S'⟩ := hq
    cases e with
    | normal => exact EW_ok T hm y hc.2 hq S'
    | _ => exact ⟨φ', t', s', hq, S'⟩
  | .cond c x y, hc, Q, t, s, φ, a, w, h, S => by
    simp only [okC, Bool.and_eq_true] at hc
    have hx := Sim_ev S c
    simp only [EW] at h
    unfold cdW at h
    split at h
    · rename_i e
      rw [e] at hx
      simp only [Rep] at hx
      exact wp_cond_true hx (EW_ok T hm x hc.1 h S)
    · rename_i e
      rw [e] at hx
      simp only [Rep] at hx
      exact wp_cond_false hx (EW_ok T hm y hc.2 h S)
    · exact h.elim
  | .block id b, hc, Q, t, s, φ, a, w, h, S => by
    simp only [okC] at hc
    refine wp_block (wp_mono (EW_ok T hm b hc h S) fun e a w hq => ?_)
    obtain ⟨φ', t', s', hq, S'⟩ := hq
    cases e with
    | exit j =>
      simp only [kB] at hq
      simp only [Exit.inBlock]
      split
      · rename_i e; rw [if_pos e] at hq; exact ⟨φ', t', s', hq, S'⟩
      · rename_i e; rw [if_neg e] at hq; exact ⟨φ', t', s', hq, S'⟩
    | _ => exact ⟨φ', t', s', hq, S'⟩
  | .loop b, hc, Q, t, s, φ, a, w, h, S => by
    simp only [okC] at hc
    obtain ⟨ι, TT, SS, F, ⟨n0, x0, hF, hE⟩, hr⟩ := h
    obtain ⟨φ0, S0⟩ := Ent_ok hE S
    refine wp_loop_ghost (fun n a w => ∃ x φ, F n x ∧ Sim w0 (TT x) (SS x) φ a w) n0 ⟨x0, φ0, hF, S0⟩ fun n a' w' hI => ?_
    obtain ⟨x, φ', hF', S'⟩ := hI
    refine wp_mono (EW_ok T hm b hc (hr n x hF') S') fun e a w hq => ?_
    obtain ⟨φ2, t2, s2, hq, S2⟩ := hq
    cases e with
    | normal =>
      obtain ⟨m, y, hlt, hFm, hEm⟩ := hq
      obtain ⟨φ3, S3⟩ := Ent_ok hEm S2
      exact ⟨m, hlt, y, φ3, hFm, S3⟩
    | _ => exact ⟨φ2, t2, s2, hq, S2⟩
  | .rangeFunc .., hc, _, _, _, _, _, _, _, _ => by simp [okC] at hc
  | .scope _, hc, _, _, _, _, _, _, _, _ => by simp [okC] at hc
  | .label _, hc, _, _, _, _, _, _, _, _ => by simp [okC] at hc
  | .goto _, hc, _, _, _, _, _, _, _, _ => by simp [okC] at hc
  | .refuse _, hc, _, _, _, _, _, _, _, _ => by simp [okC] at hc
end
end Go.Proofs.YtdjdleldocfpaaaDoor.F
end

section
namespace Go.Proofs.YtdjdleldocfpaaaDoor.F
open Go.RowKit Go.Proofs.YtdjdleldocfpaaaDoorW.PrintWords Go.Proofs.YtdjdleldocfpaaaDoorW.PrintLast Go.Proofs.YtdjdleldocfpaaaDoorW.PrintMore
set_option linter.unusedVariables false
set_option linter.unusedSimpArgs false
mutual
def FitR (s : Sto) : AV → AV → Prop
  | .v x, .v y => x = y
  | .lo id, .ow e sz xs => gS s id = some (.row e sz xs)
  | .v x, .ow e sz xs => x = .slice none 0 0 ∧ xs = [] ∧ 0 < sz
  | .ag cs, .ag ds => FitRL s cs ds
  | .tu cs, .tu ds => FitRL s cs ds
  | _, _ => False
def FitRL (s : Sto) : List AV → List AV → Prop
  | [], [] => True
  | c :: cs, d :: ds => FitR s c d ∧ FitRL s cs ds
  | _, _ => False
end
mutual
def AV.ids : AV → List Nat
  | .lo i => [i]
  | .ag cs => AV.idsL cs
  | .tu cs => AV.idsL cs
  | _ => []
def AV.idsL : List AV → List Nat
  | [] => []
  | c :: cs => AV.ids c ++ AV.idsL cs
end
mutual
theorem FitR_ok {w0 : Bs} {t : List AV} {s : Sto} {φ : Nat → Value} {a : Act} {w : World} (S : Sim w0 t s φ a w) : ∀ (x : AV) {r : AV} {y : Value}, FitR s x r → (AV.ids x).Nodup → Rep w0.heap.size w0 φ x y → ∃ L, RepR w0.heap.size w r y L ∧ L.Nodup ∧ ∀ k ∈ L, ∃ id ∈ AV.ids x, (∃ b, gS s id = some b) ∧ bk (φ id) = some k
  | .v x, r, y, h, _, hr => by
    simp only [Rep] at hr
    subst hr
    cases r with
    | v z => simp only [FitR] at h; subst h; exact ⟨[], by simp [RepR], by simp, by simp⟩
    | ow e sz xs =>
      simp only [FitR] at h
      obtain ⟨rfl, rfl, h0⟩ := h
      refine ⟨[], ?_, by simp, by simp⟩
      simp only [RepR]
      exact ⟨World.ownsRow_nil _ _ _ _, fun x hx => by simp at hx, h0, by first | rfl | trivial⟩
    | _ => simp [FitR] at h
  | .lo id, r, y, h, _, hr => by
    simp only [Rep] at hr
    obtain ⟨rfl, _⟩ := hr
    cases r with
    | ow e sz xs =>
      simp only [FitR] at h
      obtain ⟨b1, b2, b3⟩ := S.blk id _ h
      refine ⟨(bk (φ id)).toList, by simp only [RepR]; exact ⟨b1, b2, b3, trivial⟩, by cases bk (φ id) <;> simp, fun k hk => ⟨id, by simp [AV.ids], ⟨_, h⟩, ?_⟩⟩
      cases e : bk (φ id) with
      | none => rw [e] at hk; simp at hk
      | some q => rw [e] at hk; simp at hk; rw [hk]
    | _ => simp [FitR] at h
  | .ag cs, r, y, h, hn, hr => by
    simp only [Rep] at hr
    obtain ⟨l, rfl, hr⟩ := hr
    cases r with
    | ag ds =>
      simp only [FitR] at h
      simp only [AV.ids] at hn ⊢
      obtain ⟨L, h1, h2, h3⟩ := FitRL_ok S cs h hn hr
      exact ⟨L, by simp only [RepR]; exact ⟨l, rfl, h1⟩, h2, h3⟩
    | _ => simp [FitR] at h
  | .tu cs, r, y, h, hn, hr => by
    simp only [Rep] at hr
    obtain ⟨l, rfl, hr⟩ := hr
    cases r with
    | tu ds =>
      simp only [FitR] at h
      simp only [AV.ids] at hn ⊢
      obtain ⟨L, h1, h2, h3⟩ := FitRL_ok S cs h hn hr
      exact ⟨L, by simp only [RepR]; exact ⟨l, rfl, h1⟩, h2, h3⟩
    | _ => simp [FitR] at h
  | .u, r, y, h, _, _ => by cases r <;> simp [FitR] at h
  | .pr _ _, r, y, h, _, _ => by cases r <;> simp [FitR] at h
  | .ow _ _ _, r, y, h, _, _ => by cases r <;> simp [FitR] at h
  | .bp _ _, r, y, h, _, _ => by cases r <;> simp [FitR] at h
  | .pe _, r, y, h, _, _ => by cases r <;> simp [FitR] at h
  | .le _ _ _ _, r, y, h, _, _ => by cases r <;> simp [FitR] at h
theorem FitRL_ok {w0 : Bs} {t : List AV} {s : Sto} {φ : Nat → Value} {a : Act} {w : World} (S : Sim w0 t s φ a w) : ∀ (cs : List AV) {ds : List AV} {l : List Value}, FitRL s cs ds → (AV.idsL cs).Nodup → RepL w0.heap.size w0 φ cs l → ∃ L, RepRL w0.heap.size w ds l L ∧ L.Nodup ∧ ∀ k ∈ L, ∃ id ∈ AV.idsL cs, (∃ b, gS s id = some b) ∧ bk (φ id) = some k
  | [], ds, l, h, _, hr => by
    cases ds with
    | nil => simp only [RepL] at hr; subst hr; exact ⟨[], by simp [RepRL], by simp, by simp⟩
    | cons d ds => simp [FitRL] at h
  | c :: cs, ds, l, h, hn, hr => by
    cases ds with
    | nil => simp [FitRL] at h
    | cons d ds =>
      simp only [FitRL] at h
      simp only [AV.idsL] at hn ⊢
      simp only [RepL] at hr
      obtain ⟨y, ys, rfl, hr1, hr2⟩ := hr
      obtain ⟨hn1, hn2, hdis⟩ := List.nodup_append.1 hn
      obtain ⟨L1, a1, a2, a3⟩ := FitR_ok S c h.1 hn1 hr1
      obtain ⟨L2, b1, b2, b3⟩ := FitRL_ok S cs h.2 hn2 hr2
      refine ⟨L1 ++ L2, by simp only [RepRL]; exact ⟨y, ys, L1, L2, rfl, rfl, a1, b1⟩, List.nodup_append.2 ⟨a2, b2, fun k hk k' hk' e => ?_⟩, fun k hk => ?_⟩
      · subst e
        obtain ⟨i, hi, ⟨bi, ei⟩, hbi⟩ := a3 k hk
        obtain ⟨j, hj, ⟨bj, ej⟩, hbj⟩ := b3 k hk'
        have hne : i ≠ j := hdis i hi j hj
        rcases S.apart i j bi bj ei ej hne with h9 | h9
        · rw [h9] at hbi; cases hbi
        · exact h9 (by rw [hbi, hbj])
      · rcases List.mem_append.1 hk with hk | hk
        · obtain ⟨i, hi, h9⟩ := a3 k hk
          exact ⟨i, List.mem_append_left _ hi, h9⟩
        · obtain ⟨i, hi, h9⟩ := b3 k hk
          exact ⟨i, List.mem_append_right _ hi, h9⟩
end
section
variable {P : Program} (ty : TypeId → Option TI)
def cellB (i : TI) (off : Nat) : Option Blk → Option AV
  | some (.box _ cs) => if off + i.size ≤ cs.length then some (cutA i.agg i.size (dp off cs)) else none
  | _ => none
def cellV : Option TI → AV → Sto → Option AV
  | some i, .bp id off, s => cellB i off (gS s id)
  | _, _, _ => none
def resL (t : List AV) (s : Sto) : List ResultVar → Option (List AV)
  | [] => some []
  | .tmp i :: l => (resL t s l).map (gT t i :: ·)
  | .cell i b :: l => (cellV (ty b) (gT t i) s).bind fun x => (resL t s l).map (x :: ·)
def FitO (s : Sto) : List AV → AV → Prop
  | [x], r => FitR s x r
  | [], .tu rs => FitRL s [] rs
  | x :: y :: l, .tu rs => FitRL s (x :: y :: l) rs
  | _, _ => False
def nodB (l : List Nat) : Bool := decide l.Nodup
def QR (rv : List ResultVar) (res : AV) : Qt
  | .ret, t, s => ∃ xs, resL ty t s rv = some xs ∧ nodB (AV.idsL xs) = true ∧ FitO s xs res
  | .normal, t, s => ∃ xs, resL ty t s rv = some xs ∧ nodB (AV.idsL xs) = true ∧ FitO s xs res
  | _, _, _ => False
variable {ty}
def resOne (tm : Array Value) : ResultVar → Sem Value
  | .tmp i => pure (tm.getD i undef)
  | .cell x b => do loadVar b (← asAddr (tm.getD x undef))
theorem resL_ok (T : TyOk P ty) {w0 : Bs} {t : List AV} {s : Sto} {φ : Nat → Value} {a : Act} {w : World} (S : Sim w0 t s φ a w) : ∀ {rv : List ResultVar} {xs : List AV}, resL ty t s rv = some xs →
    ∃ vs, (rv.mapM (resOne a.tmps)).run P w = .ok vs w ∧ RepL w0.heap.size w0 φ xs vs
  | [], xs, h => by simp only [resL] at h; obtain rfl := Option.some.inj h; exact ⟨[], by simp, by simp [RepL]⟩
  | .tmp i :: l, xs, h => by
    simp only [resL] at h
    obtain ⟨ys, h1, rfl⟩ := Option.map_eq_some_iff.1 h
    obtain ⟨vs, h2, h3⟩ := resL_ok T S h1
    have h4 := RepL_get i S.tmp
    refine ⟨a.tmps.getD i undef :: vs, by rw [List.mapM_cons]; simp only [Sem.run_bind, resOne, Sem.run_pure, Result.andThen_ok, h2], ?_⟩
    simp only [RepL]
    exact ⟨_, vs, rfl, by simpa [Array.getD_eq_getD_getElem?, List.getD_eq_getElem?_getD] using h4, h3⟩
  | .cell x b :: l, xs, h => by
    simp only [resL] at h
    obtain ⟨y, h0, h⟩ := Option.bind_eq_some_iff.1 h
    obtain ⟨ys, h1, rfl⟩ := Option.map_eq_some_iff.1 h
    obtain ⟨vs, h2, h3⟩ := resL_ok T S h1
    have h4 := RepL_get x S.tmp
    have h4 : Rep w0.heap.size w0 φ (gT t x) (a.tmps.getD x undef) := by simpa [Array.getD_eq_getD_getElem?, List.getD_eq_getElem?_getD] using h4
    cases ei : ty b with
    | none => rw [ei] at h0; simp [cellV] at h0
    | some i =>
      rw [ei] at h0
      cases ex : gT t x with
      | bp id off =>
        rw [ex] at h0 h4
        simp only [cellV] at h0
        cases eb : gS s id with
        | none => rw [eb] at h0; simp [cellB] at h0
        | some bl =>
          cases bl with
          | row e sz xs => rw [eb] at h0; simp [cellB] at h0
          | box tb cs =>
            rw [eb] at h0
            simp only [cellB] at h0
            split at h0
            · rename_i hn
              obtain rfl := Option.some.inj h0
              obtain ⟨g, c, g1, g2, g3, g4⟩ := S.blk id _ eb
              simp only [Rep] at h4
              obtain ⟨g', g5, g6⟩ := h4
              rw [g1] at g5
              obtain rfl : g = g' := by simpa using g5
              have hlen := RepL_len g4
              have Ti := T b i ei
              have hr := run_loadVar Ti (w := w) (ad := ⟨g, off, none⟩) (cs := (c.drop off).take i.size) (by rw [List.length_take, List.length_drop, ← hlen]; omega) (fun j u hu => by
                rw [addr_at]
                rw [cell_of_row w g (off + j) (List.toArray c) tb (0, 0) g3]
                rw [List.getElem?_take] at hu
                split at hu
                · rw [List.getElem?_drop] at hu; simpa using hu
                · cases hu)
              refine ⟨cutV i.agg ((c.drop off).take i.size) :: vs, by rw [List.mapM_cons]; simp only [Sem.run_bind, resOne, g6, asAddr, Sem.run_pure, Result.andThen_ok, hr, h2], ?_⟩
              simp only [RepL]
              refine ⟨_, vs, rfl, Rep_cut (size_one Ti) (RepL_drop off g4) ?_, h3⟩
              have hd : (dp off cs).length = cs.length - off := by rw [RepL_len (RepL_drop off g4), List.length_drop, hlen]
              omega
            · cases h0
      | _ => rw [ex] at h0; simp [cellV] at h0
theorem RepL_app {B : Nat} {w : World} {φ : Nat → Value} : ∀ {x y : List AV} {k l : List Value}, RepL B w φ x k → RepL B w φ y l → RepL B w φ (x ++ y) (k ++ l)
  | [], y, k, l, h1, h2 => by simp only [RepL] at h1; subst h1; exact h2
  | c :: cs, y, k, l, h1, h2 => by
    simp only [RepL] at h1
    obtain ⟨z, zs, rfl, h3, h4⟩ := h1
    simp only [List.cons_append, RepL]
    exact ⟨z, _, rfl, h3, RepL_app h4 h2⟩
theorem RepL_u {B : Nat} {w : World} {φ : Nat → Value} : ∀ (n : Nat) (v : Value), RepL B w φ (List.replicate n .u) (List.replicate n v)
  | 0, v => by simp [RepL]
  | n + 1, v => by simp only [List.replicate_succ, RepL]; exact ⟨v, _, rfl, by simp [Rep], RepL_u n v⟩
theorem Ctr_of (T : TyOk P ty) (hm : P.follows .mixedOrders = true) {f : FuncId} {fn : Func} {c : Code} (hf : P.funcs[f]? = some fn) (hname : (fn.name == "runtime.NumGoroutine") = false) (hb : fn.body = some c) (hc : okC ty c = true)
    {args : List AV} {res : AV} {n : Nat} {rv : List ResultVar} (hn : fn.ntmps = args.length + n) (hrv : fn.results = List.toArray rv) (h : EW P ty c (QR ty rv res) (args ++ List.replicate n .u) []) : Ctr P f args res := by
  refine ⟨enters_of hf hname hb, fun w ys hgl hys => calls_of_wp hf hb ?_⟩
  have hlen := RepL_len hys
  have S : Sim { toWorld := w, ws := w, φ0 := fun _ => undef, G := fun _ => False, gl := hgl } (args ++ List.replicate n .u) [] (fun _ => undef) { tmps := ys.toArray ++ Array.replicate (fn.ntmps - ys.toArray.size) undef, defers := [] } w := by
    refine ⟨Below.refl _ _, rfl, ?_, fun id b hb => by simp [gS] at hb, fun i j b c hb => by simp [gS] at hb, fun _ _ => rfl, fun _ _ _ => rfl, fun i b k hb => by simp [gS] at hb, Nat.le_refl _⟩
    have : fn.ntmps - ys.toArray.size = n := by simp only [List.size_toArray]; omega
    rw [this]
    simpa using RepL_app hys (RepL_u n undef)
  refine wp_mono (EW_ok T hm c hc h S) fun e a w' hq => ?_
  obtain ⟨φ, t, s, hq, S'⟩ := hq
  have key : (∃ xs, resL ty t s rv = some xs ∧ nodB (AV.idsL xs) = true ∧ FitO s xs res) → ∃ v, (results fn a.tmps).run P w' = .ok v w' ∧ ∃ y L, Ending.returned v = .returned y ∧ RepR w.heap.size w' res y L ∧ L.Nodup ∧ Below w.heap.size w w' := by
    rintro ⟨xs, h1, h2, h3⟩
    obtain ⟨vs, h4, h5⟩ := resL_ok T S' h1
    have h2 := of_decide_eq_true h2
    have hrun : (results fn a.tmps).run P w' = .ok (if h : vs.length = 1 then vs[0] else .tuple (List.toArray vs)) w' := by
      have e : results fn a.tmps = (do let vs ← fn.results.mapM (resOne a.tmps); pure (if h : vs.size = 1 then vs[0] else .tuple vs)) := by
        unfold results
        congr 1
      rw [e, hrv, List.mapM_toArray]
      simp only [Sem.run_bind, map_eq_pure_bind, h4, Result.andThen_ok, Sem.run_pure]
      simp
    have hl5 := RepL_len h5
    refine ⟨_, hrun, ?_⟩
    match xs, h3 with
    | [x], h3 =>
      simp only [List.length_cons, List.length_nil] at hl5
      simp only [RepL] at h5
      obtain ⟨y, zs, rfl, h6, rfl⟩ := h5
      simp only [AV.idsL, List.append_nil] at h2
      obtain ⟨L, h7, h8, _⟩ := FitR_ok S' x h3 h2 h6
      exact ⟨y, L, rfl, h7, h8, S'.below⟩
    | [], h3 =>
      cases res with
      | tu rs =>
        obtain ⟨L, h7, h8, _⟩ := FitRL_ok S' [] h3 h2 h5
        rw [dif_neg (by rw [← hl5]; simp)]
        exact ⟨_, L, rfl, by simp only [RepR]; exact ⟨vs, rfl, h7⟩, h8, S'.below⟩
      | _ => simp [FitO] at h3
    | x :: y :: l, h3 =>
      cases res with
      | tu rs =>
        obtain ⟨L, h7, h8, _⟩ := FitRL_ok S' (x :: y :: l) h3 h2 h5
        rw [dif_neg (by rw [← hl5]; simp)]
        exact ⟨_, L, rfl, by simp only [RepR]; exact ⟨vs, rfl, h7⟩, h8, S'.below⟩
      | _ => simp [FitO] at h3
  cases e with
  | ret => exact ⟨S'.defs, key hq⟩
  | normal => exact ⟨S'.defs, key hq⟩
  | _ => exact hq.elim
def QB (ty : TypeId → Option TI) (rv : List ResultVar) (res : AV) (R' : Sto) : Qt
  | .ret, t, s => subS s R' ∧ ∃ xs, resL ty t s rv = some xs ∧ nodB (AV.idsL xs) = true ∧ ((AV.idsL xs).all fun i => (gS R' i).isNone) = true ∧ FitO s xs res
  | .normal, t, s => subS s R' ∧ ∃ xs, resL ty t s rv = some xs ∧ nodB (AV.idsL xs) = true ∧ ((AV.idsL xs).all fun i => (gS R' i).isNone) = true ∧ FitO s xs res
  | _, _, _ => False
def isN (s : Sto) (tb : TypeId) (cs : List AV) : List AV → Prop
  | [.bp id 0] => gS s id = some (.box tb cs)
  | _ => False
def QN (ty : TypeId → Option TI) (rv : List ResultVar) (tb : TypeId) (cs : List AV) : Qt
  | .ret, t, s => ∃ xs, resL ty t s rv = some xs ∧ isN s tb cs xs
  | .normal, t, s => ∃ xs, resL ty t s rv = some xs ∧ isN s tb cs xs
  | _, _, _ => False
end
end Go.Proofs.YtdjdleldocfpaaaDoor.F
end

section
namespace Go.Proofs.YtdjdleldocfpaaaDoor.F
open Go.RowKit Go.Proofs.YtdjdleldocfpaaaDoorW.PrintWords Go.Proofs.YtdjdleldocfpaaaDoorW.PrintLast Go.Proofs.YtdjdleldocfpaaaDoorW.PrintMore
set_option linter.unusedVariables false
set_option linter.unusedSimpArgs false
theorem W1 : (∀ x t, gT (x :: t) 0 = x) ∧ (∀ x t n, gT (x :: t) (n + 1) = gT t n) ∧ (∀ x t y, sT (x :: t) 0 y = y :: t) ∧ (∀ x t n y, sT (x :: t) (n + 1) y = x :: sT t n y) ∧
    (∀ t d y, pT t (some d) y = sT t d y) ∧ (∀ t y, pT t none y = t) ∧ (∀ t i, eT t (.tmp i) = gT t i) ∧ (∀ t x, eT t (.const x) = .v x) ∧
    (∀ i b s j, gS ((i, b) :: s) j = if i = j then some b else gS s j) ∧ (∀ j b, uS [] j b = [(j, b)]) ∧ (∀ i c s j b, uS ((i, c) :: s) j b = if i = j then (j, b) :: s else (i, c) :: uS s j b) ∧
    (∀ j, dS [] j = []) ∧ (∀ i c s j, dS ((i, c) :: s) j = if i = j then dS s j else (i, c) :: dS s j) ∧
    (∀ cs, AV.cells (.ag cs) = cs) ∧ (∀ x, AV.cells (.v x) = [.v x]) ∧ (∀ i, AV.cells (.lo i) = [.lo i]) ∧ (∀ i o, AV.cells (.bp i o) = [.bp i o]) ∧ (∀ z l, AV.cells (.pr z l) = [.pr z l]) ∧
    (∀ n x l, tk (n + 1) (x :: l) = x :: tk n l) ∧ (∀ l, tk 0 l = []) ∧ (∀ n x l, dp (n + 1) (x :: l) = dp n l) ∧ (∀ l, dp 0 l = l) ∧ (∀ x l, hd1 (x :: l) = x) ∧
    (∀ n cs, cutA true n cs = .ag (tk n cs)) ∧ (∀ n cs, cutA false n cs = hd1 cs) ∧ (∀ n l, putA n [] l = l) ∧ (∀ y ys x l, putA 0 (y :: ys) (x :: l) = y :: putA 0 ys l) ∧ (∀ n y ys x l, putA (n + 1) (y :: ys) (x :: l) = x :: putA n (y :: ys) l) ∧
    (vs [] = []) ∧ (∀ x l, vs (x :: l) = .v x :: vs l) ∧ (unv [] = []) ∧ (∀ x l, unv (.v x :: l) = x :: unv l) := by
  refine ⟨?_, ?_, ?_, ?_, ?_, ?_, ?_, ?_, ?_, ?_, ?_, ?_, ?_, ?_, ?_, ?_, ?_, ?_, ?_, ?_, ?_, ?_, ?_, ?_, ?_, ?_, ?_, ?_, ?_, ?_, ?_, ?_⟩ <;> intros <;> try rfl
  · rename_i n l; cases n <;> cases l <;> rfl
theorem W2 : (∀ s, toPL s [] = []) ∧ (∀ s c cs, toPL s (c :: cs) = toP s c :: toPL s cs) ∧ (∀ s cs, toP s (.ag cs) = .ag (toPL s cs)) ∧ (∀ s k n, toP s (.v (.int k n)) = .v (.int k n)) ∧ (∀ s b, toP s (.v (.bool b)) = .v (.bool b)) ∧
    (∀ s b, toP s (.v (.string b)) = .v (.string b)) ∧ (∀ s, toP s (.v (.slice none 0 0)) = .pr 1 []) ∧ (∀ s z x, toP s (.pr z x) = .pr z x) ∧
    (∀ s, toRL s [] = []) ∧ (∀ s c cs, toRL s (c :: cs) = toR s c :: toRL s cs) ∧ (∀ s cs, toR s (.ag cs) = .ag (toRL s cs)) ∧ (∀ s cs, toR s (.tu cs) = .tu (toRL s cs)) ∧ (∀ s x, toR s (.v x) = .v x) ∧
    (∀ n e z x, im n (.ow e z x) = (.lo n, [(n, .row e z x)], n + 1)) ∧ (∀ n x, im n (.v x) = (.v x, [], n)) ∧ (∀ n cs, im n (.ag cs) = (.ag (imL n cs).1, (imL n cs).2)) ∧ (∀ n cs, im n (.tu cs) = (.tu (imL n cs).1, (imL n cs).2)) ∧
    (∀ n, imL n [] = ([], [], n)) ∧ (∀ n c cs, imL n (c :: cs) = ((im n c).1 :: (imL (im n c).2.2 cs).1, (im n c).2.1 ++ (imL (im n c).2.2 cs).2.1, (imL (im n c).2.2 cs).2.2)) := by
  refine ⟨?_, ?_, ?_, ?_, ?_, ?_, ?_, ?_, ?_, ?_, ?_, ?_, ?_, ?_, ?_, ?_, ?_, ?_, ?_⟩ <;> intros <;> rfl
section
variable (P : Program) (ty : TypeId → Option TI)
theorem W3 : (∀ Q t s, EW P ty .skip Q t s = Q .normal t s) ∧ (∀ i l Q t s, EW P ty (.region i ⟨l⟩ false) Q t s = opsW P ty (gds l) false l t s (kN Q)) ∧ (∀ i l Q t s, EW P ty (.region i ⟨l⟩ true) Q t s = (dchk l t s = true ∧ opsW P ty (gds l) true l t s (kN Q))) ∧ (∀ a b Q t s, EW P ty (.seq a b) Q t s = EW P ty a (kS P ty b Q) t s) ∧
    (∀ c x y Q t s, EW P ty (.cond c x y) Q t s = cdK P ty (eT t c) x y Q t s) ∧ (∀ i b Q t s, EW P ty (.block i b) Q t s = EW P ty b (kB i Q) t s) ∧ (∀ i Q t s, EW P ty (.exit i) Q t s = Q (.exit i) t s) ∧ (∀ Q t s, EW P ty .ret Q t s = Q .ret t s) ∧
    (∀ b Q t s, EW P ty (.loop b) Q t s = loopK P ty b Q t s) ∧
    (∀ Q t s, kN Q t s = Q .normal t s) ∧ (∀ b Q t s, kS P ty b Q .normal t s = EW P ty b Q t s) ∧ (∀ b Q i t s, kS P ty b Q (.exit i) t s = Q (.exit i) t s) ∧ (∀ b Q t s, kS P ty b Q .ret t s = Q .ret t s) ∧
    (∀ j i Q t s, kB j Q (.exit i) t s = if i = j then Q .normal t s else Q (.exit i) t s) ∧ (∀ j Q t s, kB j Q .normal t s = Q .normal t s) ∧ (∀ j Q t s, kB j Q .ret t s = Q .ret t s) ∧
    (∀ x y Q t s, cdK P ty (.v (.bool true)) x y Q t s = EW P ty x Q t s) ∧ (∀ x y Q t s, cdK P ty (.v (.bool false)) x y Q t s = EW P ty y Q t s) ∧
    (∀ g q t s K, opsW P ty g q [] t s K = K t s) ∧ (∀ g q d op o p a r t s K, opsW P ty g q (⟨d, op, o, p, a, none⟩ :: r) t s K = opX P ty (q && rot (ty o) op) op o d t s (kO P ty g (q && rot (ty o) op) r K)) ∧
    (∀ g q d op o p a i b r t s K, opsW P ty g q (⟨d, op, o, p, a, some (i, b)⟩ :: r) t s K = gdK P ty (gV t (gG g i)) b (q && rot (ty o) op) op o d g r t s K) ∧ (∀ g q r K t s, kO P ty g q r K t s = opsW P ty g q r t s K) ∧
    (∀ b q op o d g r t s K, gdK P ty (.v undef) b q op o d g r t s K = opsW P ty g q r (pT t d (.v undef)) s K) ∧ (∀ t d, gV t (some d) = gT t d) ∧ (∀ x l, gG (x :: l) 0 = x) ∧ (∀ x l n, gG (x :: l) (n + 1) = gG l n) ∧ (gds [] = []) ∧ (∀ o l, gds (o :: l) = o.dst :: gds l) ∧
    (∀ q op o d g r t s K, gdK P ty (.v (.bool true)) true q op o d g r t s K = opX P ty q op o d t s (kO P ty g q r K)) ∧ (∀ q op o d g r t s K, gdK P ty (.v (.bool false)) false q op o d g r t s K = opX P ty q op o d t s (kO P ty g q r K)) ∧
    (∀ q op o d g r t s K, gdK P ty (.v (.bool true)) false q op o d g r t s K = opsW P ty g q r (pT t d (.v undef)) s K) ∧ (∀ q op o d g r t s K, gdK P ty (.v (.bool false)) true q op o d g r t s K = opsW P ty g q r (pT t d (.v undef)) s K) := by
  refine ⟨?_, ?_, ?_, ?_, ?_, ?_, ?_, ?_, ?_, ?_, ?_, ?_, ?_, ?_, ?_, ?_, ?_, ?_, ?_, ?_, ?_, ?_, ?_, ?_, ?_, ?_, ?_, ?_, ?_, ?_, ?_, ?_⟩ <;> intros <;> first | rfl | (simp only [EW]; simp)
theorem W4 : (∀ q x o d t s K, opX P ty q (.move x) o d t s K = K (pT t d (eT t x)) s) ∧ (∀ q o d t s K, opX P ty q (.assign (.const (.slice none 0 0))) o d t s K = nilW ty (ty o) d t s K) ∧ (∀ q i o d t s K, opX P ty q (.assign (.tmp i)) o d t s K = K (pT t d (gT t i)) s) ∧
    (∀ q k n o d t s K, opX P ty q (.assign (.const (.int k n))) o d t s K = K (pT t d (.v (.int k n))) s) ∧ (∀ q b o d t s K, opX P ty q (.assign (.const (.bool b))) o d t s K = K (pT t d (.v (.bool b))) s) ∧ (∀ q b o d t s K, opX P ty q (.assign (.const (.string b))) o d t s K = K (pT t d (.v (.string b))) s) ∧
    (∀ q c a b o d t s K, opX P ty q (.pick c a b) o d t s K = pickW (eT t c) (eT t a) (eT t b) d t s K) ∧ (∀ q b o d t s K, opX P ty q (.alloc b) o d t s K = alW b (ty b) d t s K) ∧ (∀ q b x o d t s K, opX P ty q (.box b x) o d t s K = boxW b (eT t x).cells d t s K) ∧
    (∀ q b x o d t s K, opX P ty q (.load b x) o d t s K = loadW ty (ty b) (eT t x) d t s K) ∧ (∀ q b a x o t s K, opX P ty q (.store b a x) o none t s K = (q = false ∧ storeW (ty b) (eT t a) (eT t x) t s K)) ∧ (∀ q b x f o d t s K, opX P ty q (.fieldAddr b x f) o d t s K = faW (((ty b).map (·.fs)).bind (nthN · f)) (eT t x) d t s K) ∧
    (∀ q b x i o d t s K, opX P ty q (.indexAddr b x i) o d t s K = idxW ty (ty b) (eT t x) (eT t i) d t s K) ∧ (∀ q op a x y b o d t s K, opX P ty q (.binOp op a x y b) o d t s K = binX P a (ty a) op (eT t x) (eT t y) d t s K) ∧ (∀ q a x o d t s K, opX P ty q (.unOp .not a x) o d t s K = notW (eT t x) d t s K) ∧
    (∀ q x n o d t s K, opX P ty q (.extract x n) o d t s K = extW (eT t x) n d t s K) ∧ (∀ q x o d t s K, opX P ty q (.nilCheck x) o d t s K = chkW (eT t x) d t s K) ∧ (∀ q b x y o d t s K, opX P ty q (.makeSlice b x y) o d t s K = mkW ty (ty b) (eT t x) (eT t y) d t s K) ∧
    (∀ q b ps o d t s K, opX P ty q (.build b ⟨ps⟩) o d t s K = bldW (ty b) t ps d t s K) ∧ (∀ q b n ps o d t s K, opX P ty q (.buildSlice b n ⟨ps⟩) o d t s K = litT ty (ty b) n ps d t s K) ∧ (∀ q f l a o d t s K, opX P ty q (.call ⟨.value (.func f), ⟨l⟩, a⟩) o d t s K = callW P q f (mapE t l) d t s K) ∧ (∀ q x b o d t s K, opX P ty q (.call ⟨.builtin .len, ⟨[x]⟩, ⟨[b]⟩⟩) o d t s K = (lenT ty (ty b) (eT t x) = true ∧ lenW (eT t x) d t s K)) ∧
    (∀ q x y t1 t2 o d t s K, opX P ty q (.call ⟨.builtin .append, ⟨[x, y]⟩, ⟨[t1, t2]⟩⟩) o d t s K = (q = false ∧ appT t1 t2 ((ty t2).map (·.zero)) (eT t y) = true ∧ appW ty (ty t1) (eT t x) (eT t y) d t s K)) ∧ (∀ q x y a o d t s K, opX P ty q (.call ⟨.builtin .min, ⟨[x, y]⟩, a⟩) o d t s K = mmW true (eT t x) (eT t y) d t s K) ∧ (∀ q x y a o d t s K, opX P ty q (.call ⟨.builtin .max, ⟨[x, y]⟩, a⟩) o d t s K = mmW false (eT t x) (eT t y) d t s K) ∧
    (∀ t, mapE t [] = []) ∧ (∀ t x l, mapE t (x :: l) = eT t x :: mapE t l) := by
  refine ⟨?_, ?_, ?_, ?_, ?_, ?_, ?_, ?_, ?_, ?_, ?_, ?_, ?_, ?_, ?_, ?_, ?_, ?_, ?_, ?_, ?_, ?_, ?_, ?_, ?_, ?_, ?_⟩ <;> intros <;> (first | rfl | (unfold opX cW; simp) | (unfold opX; simp))
theorem W5 : (∀ a b d t s K, pickW (.v (.bool true)) a b d t s K = K (pT t d a) s) ∧ (∀ a b d t s K, pickW (.v (.bool false)) a b d t s K = K (pT t d b) s) ∧ (∀ b i d t s K, alW b (some i) d t s K = boxW b (vs i.zero) d t s K) ∧
    (∀ i id off d t s K, loadW ty (some i) (.bp id off) d t s K = loadB (gS s id) i off d t s K) ∧ (∀ i cs d t s K, loadW ty (some i) (.pe cs) d t s K = (i.size ≤ cs.length ∧ K (pT t d (cutA i.agg i.size (vs cs))) s)) ∧ (∀ i id z n off d t s K, loadW ty (some i) (.le id z n off) d t s K = loadE ty (gS s id) i z n off d t s K) ∧
    (∀ b cs i off d t s K, loadB (some (.box b cs)) i off d t s K = (off + i.size ≤ cs.length ∧ K (pT t d (cutA i.agg i.size (dp off cs))) s)) ∧
    (∀ i id off x t s K, storeW (some i) (.bp id off) x t s K = storeB (gS s id) id i off x.cells t s K) ∧ (∀ i id z n off x t s K, storeW (some i) (.le id z n off) x t s K = storeE (gS s id) id i z n off x.cells t s K) ∧
    (∀ b cs id i off c t s K, storeB (some (.box b cs)) id i off c t s K = (c.length = i.size ∧ off + i.size ≤ cs.length ∧ cellsOk c = true ∧ K t (uS s id (.box b (putA off c cs))))) ∧
    (∀ e z xs id i z' n off c t s K, storeE (some (.row e z xs)) id i z' n off c t s K = (z' = z ∧ off = 0 ∧ i.size = z ∧ c.length = z ∧ plainOk c = true ∧ K t (uS s id (.row e z (sR xs n (unv c)))))) ∧
    (∀ o id off d t s K, faW (some o) (.bp id off) d t s K = K (pT t d (.bp id (off + o))) s) ∧ (∀ o cs d t s K, faW (some o) (.pe cs) d t s K = K (pT t d (.pe (cs.drop o))) s) ∧ (∀ o id z i off d t s K, faW (some o) (.le id z i off) d t s K = K (pT t d (.le id z i (off + o))) s) ∧
    (∀ ti z xs k n d t s K, idxW ty (some ti) (.pr z xs) (.v (.int k n)) d t s K = ∃ q, (ty ti.el).map (·.zero) = some q ∧ q.length = z ∧ 0 ≤ n ∧ n < (xs.length : Int) ∧ K (pT t d (.pe (gR q xs n))) s) ∧ (∀ ti id k n d t s K, idxW ty (some ti) (.lo id) (.v (.int k n)) d t s K = idxE ty ti.el (gS s id) id n d t s K) ∧
    (∀ el e z xs id n d t s K, idxE ty el (some (.row e z xs)) id n d t s K = ((∃ j, ty el = some j ∧ j.size = z) ∧ 0 ≤ n ∧ n < (xs.length : Int) ∧ K (pT t d (.le id z n 0)) s)) ∧
    (∀ z xs d t s K, lenW (.pr z xs) d t s K = K (pT t d (.v (.int .i64 (xs.length : Int)))) s) ∧ (∀ id d t s K, lenW (.lo id) d t s K = lenB (gS s id) d t s K) ∧ (∀ e z xs d t s K, lenB (some (.row e z xs)) d t s K = K (pT t d (.v (.int .i64 (xs.length : Int)))) s) ∧
    (∀ op a b d t s K, binW op (.v (.int .i64 a)) (.v (.int .i64 b)) d t s K = (kok op .i64 .i64 = true ∧ bok op b ∧ K (pT t d (.v (bval op .i64 a b))) s)) ∧ (∀ b d t s K, notW (.v (.bool b)) d t s K = K (pT t d (.v (.bool (!b)))) s) ∧
    (∀ cs n d t s K, extW (.tu cs) n d t s K = exW cs n d t s K) ∧ (∀ x l d t s K, exW (x :: l) 0 d t s K = K (pT t d x) s) ∧ (∀ x l n d t s K, exW (x :: l) (n + 1) d t s K = exW l n d t s K) ∧
    (∀ b c d t s K, boxW b c (some d) t s K = (cellsOk c = true ∧ free (16 * d) t s = true ∧ K (sT t d (.bp (16 * d) 0)) (uS s (16 * d) (.box b c)))) ∧ (∀ e z xs d t s K, rowW e z xs (some d) t s K = (free (16 * d) (sT t d .u) s = true ∧ K (sT t d (.lo (16 * d))) (uS s (16 * d) (.row e z xs)))) := by
  refine ⟨?_, ?_, ?_, ?_, ?_, ?_, ?_, ?_, ?_, ?_, ?_, ?_, ?_, ?_, ?_, ?_, ?_, ?_, ?_, ?_, ?_, ?_, ?_, ?_, ?_, ?_, ?_⟩ <;> intros <;> (first | rfl | (unfold binW; rfl) | (unfold idxW; simp only))
theorem W7 : (∀ i x, rot i (.move x) = true) ∧ (∀ i a b c, rot i (.pick a b c) = true) ∧ (∀ i a b, rot i (.load a b) = true) ∧ (∀ i a b c, rot i (.fieldAddr a b c) = true) ∧ (∀ i a b c, rot i (.indexAddr a b c) = true) ∧ (∀ i a b c d e, rot i (.binOp a b c d e) = true) ∧ (∀ i a b c, rot i (.unOp a b c) = true) ∧
    (∀ i a b, rot i (.extract a b) = true) ∧ (∀ i a, rot i (.nilCheck a) = true) ∧ (∀ i a b c, rot i (.assign (.const (.slice a b c))) = true) ∧ (∀ j i, rot j (.assign (.tmp i)) = true) ∧ (∀ j k n, rot j (.assign (.const (.int k n))) = true) ∧ (∀ j b, rot j (.assign (.const (.bool b))) = true) ∧ (∀ j b, rot j (.assign (.const (.string b))) = true) ∧
    (∀ i f a b, rot i (.call ⟨.value f, a, b⟩) = true) ∧ (∀ i a b, rot i (.call ⟨.builtin .len, a, b⟩) = true) ∧ (∀ i a b, rot i (.call ⟨.builtin .min, a, b⟩) = true) ∧ (∀ i a b, rot i (.call ⟨.builtin .max, a, b⟩) = true) ∧ (∀ i a b, rot i (.call ⟨.builtin .append, a, b⟩) = false) ∧
    (∀ i a b, rot i (.box a b) = true) ∧ (∀ i a, rot i (.alloc a) = true) ∧ (∀ i a b, rot i (.build a b) = true) ∧ (∀ i a b c, rot i (.store a b c) = false) ∧ (∀ i a b c, rot i (.makeSlice a b c) = true) ∧ (∀ i a b c, rot i (.buildSlice a b c) = true) ∧ (∀ b : Bool, (true && b) = b) ∧ (∀ b : Bool, (false && b) = false) := by
  refine ⟨?_, ?_, ?_, ?_, ?_, ?_, ?_, ?_, ?_, ?_, ?_, ?_, ?_, ?_, ?_, ?_, ?_, ?_, ?_, ?_, ?_, ?_, ?_, ?_, ?_, ?_, ?_⟩ <;> intros <;> first | rfl | (rename_i b; cases b <;> rfl)
theorem W6 : (kok .add .i64 .i64 = true) ∧ (kok .sub .i64 .i64 = true) ∧ (kok .mul .i64 .i64 = true) ∧ (kok .quo .i64 .i64 = true) ∧ (kok .rem .i64 .i64 = true) ∧ (kok .and .i64 .i64 = true) ∧ (kok .or .i64 .i64 = true) ∧ (kok .xor .i64 .i64 = true) ∧ (kok .andNot .i64 .i64 = true) ∧
    (kok .shl .i64 .i64 = true) ∧ (kok .shr .i64 .i64 = true) ∧ (kok .lss .i64 .i64 = true) ∧ (kok .leq .i64 .i64 = true) ∧ (kok .gtr .i64 .i64 = true) ∧ (kok .geq .i64 .i64 = true) ∧ (kok .eql .i64 .i64 = true) ∧ (kok .neq .i64 .i64 = true) ∧
    (∀ b, bok .add b = True) ∧ (∀ b, bok .sub b = True) ∧ (∀ b, bok .mul b = True) ∧ (∀ b, bok .and b = True) ∧ (∀ b, bok .or b = True) ∧ (∀ b, bok .xor b = True) ∧ (∀ b, bok .andNot b = True) ∧ (∀ b, bok .lss b = True) ∧ (∀ b, bok .leq b = True) ∧ (∀ b, bok .gtr b = True) ∧ (∀ b, bok .geq b = True) ∧ (∀ b, bok .eql b = True) ∧ (∀ b, bok .neq b = True) ∧
    (∀ b, bok .quo b = (b ≠ 0)) ∧ (∀ b, bok .rem b = (b ≠ 0)) ∧ (∀ b, bok .shl b = (0 ≤ b)) ∧ (∀ b, bok .shr b = (0 ≤ b)) ∧
    (∀ a b, bval .add .i64 a b = .int .i64 (wrap64 (a + b))) ∧ (∀ a b, bval .sub .i64 a b = .int .i64 (wrap64 (a - b))) ∧ (∀ a b, bval .mul .i64 a b = .int .i64 (wrap64 (a * b))) ∧ (∀ a b, bval .quo .i64 a b = .int .i64 (wrap64 (Int.tdiv a b))) ∧ (∀ a b, bval .rem .i64 a b = .int .i64 (Int.tmod a b)) ∧
    (∀ a b, bval .shl .i64 a b = .int .i64 (shl .i64 a b)) ∧ (∀ a b, bval .shr .i64 a b = .int .i64 (shr .i64 a b)) ∧ (∀ a b, bval .and .i64 a b = .int .i64 (Go.bits .and .i64 a b)) ∧ (∀ a b, bval .or .i64 a b = .int .i64 (Go.bits .or .i64 a b)) ∧ (∀ a b, bval .xor .i64 a b = .int .i64 (Go.bits .xor .i64 a b)) ∧ (∀ a b, bval .andNot .i64 a b = .int .i64 (Go.bits .andNot .i64 a b)) ∧
    (∀ a b, bval .lss .i64 a b = .bool (decide (a < b))) ∧ (∀ a b, bval .leq .i64 a b = .bool (decide (a ≤ b))) ∧ (∀ a b, bval .gtr .i64 a b = .bool (decide (a > b))) ∧ (∀ a b, bval .geq .i64 a b = .bool (decide (a ≥ b))) ∧ (∀ a b, bval .eql .i64 a b = .bool (a == b)) ∧ (∀ a b, bval .neq .i64 a b = .bool (a != b)) := by
  refine ⟨rfl, rfl, rfl, rfl, rfl, rfl, rfl, rfl, rfl, rfl, rfl, rfl, rfl, rfl, rfl, rfl, rfl, ?_⟩
  refine ⟨?_, ?_, ?_, ?_, ?_, ?_, ?_, ?_, ?_, ?_, ?_, ?_, ?_, ?_, ?_, ?_, ?_, ?_, ?_, ?_, ?_, ?_, ?_, ?_, ?_, ?_, ?_, ?_, ?_, ?_, ?_, ?_, ?_, ?_⟩ <;> intros <;> rfl
end
end Go.Proofs.YtdjdleldocfpaaaDoor.F
end

section
namespace Go.Proofs.YtdjdleldocfpaaaDoor.F
open Go.RowKit Go.Proofs.YtdjdleldocfpaaaDoorW.PrintWords Go.Proofs.YtdjdleldocfpaaaDoorW.PrintLast Go.Proofs.YtdjdleldocfpaaaDoorW.PrintMore
set_option linter.unusedVariables false
set_option linter.unusedSimpArgs false
def fsOk (P : Program) (fs : Array Field) : List Nat → Nat → Bool
  | [], _ => true
  | o :: l, k => (match fs[k]? with
    | some fl => fl.offset == o && (match P.info? fl.type with | some fi => fi.size != 0 | none => false)
    | none => false) && fsOk P fs l (k + 1)
def blB (P : Program) (t : TypeId) : List Value → Bool
  | [.bool false] => match P.underlying t with | some .bool => true | _ => false
  | _ => true
def itB (P : Program) (t : TypeId) : List Value → Bool
  | [.int k _] => match P.underlying t with | some (.int k') => k' == k | _ => false
  | _ => true
def stB (P : Program) (t : TypeId) : List Value → Bool
  | [.string _] => match P.underlying t with | some .string => true | _ => false
  | _ => true
def plB (P : Program) (t : TypeId) (i : TI) : Bool := !i.agg || i.fs.isEmpty || match P.underlying t with
  | some (.struct ⟨l⟩) => (l.map fun fl => (fl.offset, (P.info? fl.type).map (·.size))) == ((plc i.size i.fs).map fun p => (p.1, some p.2))
  | _ => false
def okT (P : Program) (ty : TypeId → Option TI) (t : TypeId) (i : TI) : Bool :=
  (match P.info? t with
  | some f => f.size == i.size && f.bytes == i.bytes && (i.agg || (match f.zero with | some (.agg _) => false | some (.tuple _) => false | some _ => true | none => false))
  | none => false) && i.zero.length == i.size && i.zero.all plainV &&
  (match P.underlying t with
  | some (.struct fs) => i.agg && fsOk P fs i.fs 0 && (ty i.el).isNone && !i.fs.isEmpty
  | some (.array n e) => i.agg && i.fs.isEmpty && n == i.size && (match P.info? e with | some fe => fe.size == 1 | none => false) && (ty i.el).isNone
  | some (.slice e) => !i.agg && i.size == 1 && i.fs.isEmpty && ((ty i.el).isNone || i.el == e)
  | some _ => !i.agg && i.size == 1 && i.fs.isEmpty && (ty i.el).isNone
  | none => false) && blB P t i.zero && plB P t i && itB P t i.zero && stB P t i.zero
theorem fsOk_at {P : Program} {fs : Array Field} : ∀ {l : List Nat} {k f o : Nat}, fsOk P fs l k = true → nthN l f = some o → ∃ fl, fs[k + f]? = some fl ∧ fl.offset = o ∧ ∃ fi, P.info? fl.type = some fi ∧ fi.size ≠ 0
  | [], k, f, o, _, h => by simp [nthN] at h
  | x :: l, k, 0, o, h, hf => by
    simp only [fsOk, Bool.and_eq_true] at h
    simp only [nthN, Option.some.injEq] at hf
    subst hf
    have h1 := h.1
    split at h1
    · rename_i fl e
      simp only [Bool.and_eq_true, beq_iff_eq] at h1
      obtain ⟨h1, h2⟩ := h1
      split at h2
      · rename_i fi e2
        exact ⟨fl, e, h1, fi, e2, by simpa using h2⟩
      · cases h2
    · cases h1
  | x :: l, k, f + 1, o, h, hf => by
    simp only [fsOk, Bool.and_eq_true] at h
    have := fsOk_at h.2 (f := f) (by simpa [nthN] using hf)
    rwa [show k + 1 + f = k + (f + 1) by omega] at this
theorem mkTI {P : Program} {ty : TypeId → Option TI} {t : TypeId} {i : TI} (h : okT P ty t i = true) (hz : ((P.info? t).bind (·.zero)).map (·.cells) = some (List.toArray i.zero)) : TIok P ty t i := by
  unfold okT at h
  simp only [Bool.and_eq_true, beq_iff_eq] at h
  obtain ⟨⟨⟨⟨⟨⟨⟨h1, h2⟩, h3⟩, h4⟩, hbl⟩, hpl⟩, hit⟩, hst⟩ := h
  have hnf : ∃ f, P.info? t = some f ∧ f.size = i.size ∧ f.bytes = i.bytes ∧ ∃ z, f.zero = some z ∧ z.cells = List.toArray i.zero ∧ (i.agg = false → z.cells = #[z]) := by
    split at h1
    · rename_i f e
      simp only [Bool.and_eq_true, beq_iff_eq, Bool.or_eq_true] at h1
      rw [e] at hz
      simp only [Option.bind_some] at hz
      obtain ⟨z, e2, e3⟩ := Option.map_eq_some_iff.1 hz
      refine ⟨f, e, h1.1.1, h1.1.2, z, e2, e3, fun ha => ?_⟩
      rcases h1.2 with h5 | h5
      · rw [ha] at h5; cases h5
      · rw [e2] at h5
        cases z <;> first | rfl | (simp at h5)
    · cases h1
  have hit' : ∀ k, kindOf i.zero = some k → P.underlying t = some (.int k) := fun k hk => by
    unfold kindOf at hk
    unfold itB at hit
    split at hk
    · rename_i k0 n0 e
      obtain rfl := Option.some.inj hk
      rw [e] at hit
      simp only at hit
      split at hit
      · rename_i k1 e1; rw [e1, show k1 = _ from by simpa using hit]
      · cases hit
    · cases hk
  have hst' : strZ i.zero = true → P.underlying t = some .string := fun hk => by
    unfold strZ at hk
    unfold stB at hst
    split at hk
    · rename_i e
      rw [e] at hst
      simp only at hst
      split at hst
      · assumption
      · cases hst
    · cases hk
  refine ⟨hnf, ⟨h2, h3⟩, ?_, fun j hj => ?_, fun hz => ?_, hit', fun hg hf => ?_, hst', fun hg hne => ?_⟩
  · split at h4
    · rename_i fs e
      simp only [Bool.and_eq_true] at h4
      refine .inl ⟨h4.1.1.1, fs, e, fun f o hf => ?_⟩
      have := fsOk_at h4.1.1.2 hf
      rwa [Nat.zero_add] at this
    · rename_i n e hu
      simp only [Bool.and_eq_true, beq_iff_eq, List.isEmpty_iff] at h4
      obtain ⟨⟨⟨⟨a1, a2⟩, a3⟩, a4⟩, a5⟩ := h4
      split at a4
      · rename_i fe e1; exact .inr (.inr ⟨a1, a2, e, fe, by rw [hu, a3], e1, by simpa using a4⟩)
      · cases a4
    · rename_i e
      simp only [Bool.and_eq_true, Bool.not_eq_true', beq_iff_eq, List.isEmpty_iff] at h4
      exact .inr (.inl ⟨h4.1.1.1, h4.1.1.2, h4.1.2, _, e, ⟨fun x e' => TypeDesc.noConfusion e', fun x y e' => TypeDesc.noConfusion e'⟩⟩)
    · rename_i d h5 h6 h7 e
      simp only [Bool.and_eq_true, Bool.not_eq_true', beq_iff_eq, List.isEmpty_iff] at h4
      exact .inr (.inl ⟨h4.1.1.1, h4.1.1.2, h4.1.2, d, e, fun x e' => h5 x (by rw [e']), fun x y e' => h6 x y (by rw [e'])⟩)
    · cases h4
  · split at h4
    · simp only [Bool.and_eq_true, Option.isNone_iff_eq_none] at h4; rw [h4.1.2] at hj; cases hj
    · simp only [Bool.and_eq_true, Option.isNone_iff_eq_none] at h4; rw [h4.2] at hj; cases hj
    · rename_i e' e
      simp only [Bool.and_eq_true, Bool.or_eq_true, Option.isNone_iff_eq_none, beq_iff_eq] at h4
      rcases h4.2 with h5 | h5
      · rw [h5] at hj; cases hj
      · rw [e, h5]
    · simp only [Bool.and_eq_true, Option.isNone_iff_eq_none] at h4; rw [h4.2] at hj; cases hj
    · cases h4
  · rw [hz] at hbl
    unfold blB at hbl
    split at hbl
    · split at hbl
      · assumption
      · cases hbl
    · rename_i hne; exact absurd rfl hne
  · split at h4
    · simp only [Bool.and_eq_true, Bool.not_eq_true'] at h4; rw [hf] at h4; exact absurd h4.2 (by simp)
    · rename_i n e hu
      simp only [Bool.and_eq_true, beq_iff_eq, List.isEmpty_iff] at h4
      obtain ⟨⟨⟨⟨a1, a2⟩, a3⟩, a4⟩, a5⟩ := h4
      split at a4
      · rename_i fe e1; exact ⟨e, fe, by rw [hu, a3], e1, by simpa using a4⟩
      · cases a4
    · simp only [Bool.and_eq_true, Bool.not_eq_true'] at h4; rw [hg] at h4; exact absurd h4.1.1.1 (by simp)
    · simp only [Bool.and_eq_true, Bool.not_eq_true'] at h4; rw [hg] at h4; exact absurd h4.1.1.1 (by simp)
    · cases h4
  · unfold plB at hpl
    rw [hg, hne] at hpl
    simp only [Bool.not_true, Bool.false_or] at hpl
    split at hpl
    · rename_i l e
      exact ⟨l, e, by simpa using hpl⟩
    · cases hpl
theorem bnd {α β : Type} {x : Option α} {f : α → Option β} {r : β} (h : x.bind f = some r) : ∃ t, x = some t ∧ f t = some r := Option.bind_eq_some_iff.1 h
section
variable {P : Program} {ty : TypeId → Option TI}
theorem loopR {ι : Type} (T : ι → List AV) (S : ι → Sto) (F : Nat → ι → Prop) {n : Nat} (x : ι) {b : Code} {Q : Qt} {t : List AV} {s : Sto} (ρ : List (Nat × Nat)) (h : F n x) (h1 : EntT ρ t (T x)) (h2 : EntS ρ s (S x)) (h3 : inj ρ (S x) = true)
    (hr : ∀ n x, F n x → EW P ty b (kL T S F n Q) (T x) (S x)) : loopK P ty b Q t s := ⟨ι, T, S, F, ⟨n, x, h, ρ, h1, h2, h3⟩, hr⟩
theorem callR {q : Bool} {f : FuncId} {args : List AV} {d : Option Nat} {t : List AV} {s : Sto} {K : Kt} {res : AV} (h : Ctr P f (toPL s args) res) (hb : bindW q res d t s K) : callW P q f args d t s K := .inl ⟨res, h, hb⟩
end
theorem W8 : (∀ ρ, EntT ρ [] [] = True) ∧ (∀ ρ x t T, EntT ρ (x :: t) (.u :: T) = EntT ρ t T) ∧ (∀ ρ x t y T, EntT ρ (x :: t) (.v y :: T) = (x = .v y ∧ EntT ρ t T)) ∧ (∀ ρ x t i T, EntT ρ (x :: t) (.lo i :: T) = (x = .lo (rn ρ i) ∧ EntT ρ t T)) ∧ (∀ ρ x t i o T, EntT ρ (x :: t) (.bp i o :: T) = (x = .bp (rn ρ i) o ∧ EntT ρ t T)) ∧
    (∀ ρ x t z l T, EntT ρ (x :: t) (.pr z l :: T) = (x = .pr z l ∧ EntT ρ t T)) ∧ (∀ ρ x t l T, EntT ρ (x :: t) (.ag l :: T) = (x = .ag (AV.renL ρ l) ∧ EntT ρ t T)) ∧
    (∀ ρ s, EntS ρ s [] = True) ∧ (∀ ρ s i t c S, EntS ρ s ((i, .box t c) :: S) = (gS s (rn ρ i) = some (.box t (AV.renL ρ c)) ∧ EntS ρ s S)) ∧ (∀ ρ s i e z l S, EntS ρ s ((i, .row e z l) :: S) = (gS s (rn ρ i) = some (.row e z l) ∧ EntS ρ s S)) ∧
    (∀ ρ, AV.renL ρ [] = []) ∧ (∀ ρ c cs, AV.renL ρ (c :: cs) = AV.ren ρ c :: AV.renL ρ cs) ∧ (∀ ρ x, AV.ren ρ (.v x) = .v x) ∧ (∀ ρ z l, AV.ren ρ (.pr z l) = .pr z l) ∧ (∀ ρ i, AV.ren ρ (.lo i) = .lo (rn ρ i)) ∧ (∀ ρ i o, AV.ren ρ (.bp i o) = .bp (rn ρ i) o) ∧ (∀ ρ l, AV.ren ρ (.ag l) = .ag (AV.renL ρ l)) := by
  refine ⟨?_, ?_, ?_, ?_, ?_, ?_, ?_, ?_, ?_, ?_, ?_, ?_, ?_, ?_, ?_, ?_, ?_⟩ <;> intros <;> rfl
theorem W9 : (∀ ty t s, resL ty t s [] = some []) ∧ (∀ ty t s i l, resL ty t s (.tmp i :: l) = (resL ty t s l).map (gT t i :: ·)) ∧ (∀ ty t s i b l, resL ty t s (.cell i b :: l) = (cellV (ty b) (gT t i) s).bind fun x => (resL ty t s l).map (x :: ·)) ∧ (∀ i id off s, cellV (some i) (.bp id off) s = cellB i off (gS s id)) ∧
    (∀ i off t cs, cellB i off (some (.box t cs)) = if off + i.size ≤ cs.length then some (cutA i.agg i.size (dp off cs)) else none) ∧ (∀ s x r, FitO s [x] r = FitR s x r) ∧ (∀ s rs, FitO s [] (.tu rs) = FitRL s [] rs) ∧ (∀ s x y l rs, FitO s (x :: y :: l) (.tu rs) = FitRL s (x :: y :: l) rs) ∧
    (∀ s x y, FitR s (.v x) (.v y) = (x = y)) ∧ (∀ s i e z l, FitR s (.lo i) (.ow e z l) = (gS s i = some (.row e z l))) ∧ (∀ s x e z l, FitR s (.v x) (.ow e z l) = (x = .slice none 0 0 ∧ l = [] ∧ 0 < z)) ∧ (∀ s l r, FitR s (.ag l) (.ag r) = FitRL s l r) ∧ (∀ s l r, FitR s (.tu l) (.tu r) = FitRL s l r) ∧
    (∀ s, FitRL s [] [] = True) ∧ (∀ s c cs d ds, FitRL s (c :: cs) (d :: ds) = (FitR s c d ∧ FitRL s cs ds)) ∧ (AV.idsL [] = []) ∧ (∀ c cs, AV.idsL (c :: cs) = AV.ids c ++ AV.idsL cs) ∧ (∀ x, AV.ids (.v x) = []) ∧ (∀ i, AV.ids (.lo i) = [i]) ∧ (∀ l, AV.ids (.ag l) = AV.idsL l) ∧ (∀ l, AV.ids (.tu l) = AV.idsL l) := by
  refine ⟨?_, ?_, ?_, ?_, ?_, ?_, ?_, ?_, ?_, ?_, ?_, ?_, ?_, ?_, ?_, ?_, ?_, ?_, ?_, ?_, ?_⟩ <;> intros <;> rfl
theorem W10 : (∀ ty rv res t s, QR ty rv res .ret t s = ∃ xs, resL ty t s rv = some xs ∧ nodB (AV.idsL xs) = true ∧ FitO s xs res) ∧ (∀ ty rv res t s, QR ty rv res .normal t s = ∃ xs, resL ty t s rv = some xs ∧ nodB (AV.idsL xs) = true ∧ FitO s xs res) ∧
    (nodB [] = true) ∧ (∀ i, nodB [i] = true) := by
  refine ⟨?_, ?_, ?_, ?_⟩ <;> intros <;> first | rfl | simp [nodB]
theorem W11 : (∀ {ι : Type} (T : ι → List AV) S F n Q i t s, kL T S F n Q (.exit i) t s = Q (.exit i) t s) ∧ (∀ {ι : Type} (T : ι → List AV) S F n Q t s, kL T S F n Q .ret t s = Q .ret t s) ∧ (∀ q x d t s K, bindW q (.v x) d t s K = K (pT t d (.v x)) s) := by
  refine ⟨?_, ?_, ?_⟩ <;> intros <;> rfl
theorem W12 : (∀ j, AV.frL j [] = true) ∧ (∀ j c cs, AV.frL j (c :: cs) = (AV.fr j c && AV.frL j cs)) ∧ (∀ j, AV.fr j .u = true) ∧ (∀ j x, AV.fr j (.v x) = true) ∧ (∀ j z x, AV.fr j (.pr z x) = true) ∧ (∀ j x, AV.fr j (.pe x) = true) ∧ (∀ j i, AV.fr j (.lo i) = (i != j)) ∧ (∀ j i o, AV.fr j (.bp i o) = (i != j)) ∧ (∀ j i z n o, AV.fr j (.le i z n o) = (i != j)) ∧ (∀ j l, AV.fr j (.ag l) = AV.frL j l) ∧ (∀ j l, AV.fr j (.tu l) = AV.frL j l) ∧
    (∀ j t s, free j t s = (AV.frL j t && s.all fun p => p.2.fr j)) ∧ (∀ j t c, Blk.fr j (.box t c) = AV.frL j c) ∧ (∀ j e z l, Blk.fr j (.row e z l) = true) ∧
    (cellsOk [] = true) ∧ (∀ x l, cellsOk (.v x :: l) = (plainV x && cellsOk l)) ∧ (∀ i l, cellsOk (.lo i :: l) = cellsOk l) ∧ (∀ i o l, cellsOk (.bp i o :: l) = cellsOk l) ∧ (∀ z x l, cellsOk (.pr z x :: l) = cellsOk l) ∧ (plainOk [] = true) ∧ (∀ x l, plainOk (.v x :: l) = (plainV x && plainOk l)) ∧
    (∀ k n, plainV (.int k n) = true) ∧ (∀ b, plainV (.bool b) = true) ∧ (∀ b, plainV (.string b) = true) ∧ (∀ a n c, plainV (.slice a n c) = true) := by
  refine ⟨?_, ?_, ?_, ?_, ?_, ?_, ?_, ?_, ?_, ?_, ?_, ?_, ?_, ?_, ?_, ?_, ?_, ?_, ?_, ?_, ?_, ?_, ?_, ?_, ?_⟩ <;> intros <;> rfl
theorem bAnd : (∀ b : Bool, (b && true) = b) ∧ (∀ b : Bool, (true && b) = b) ∧ (∀ b : Bool, (false && b) = false) ∧ (∀ b : Bool, (b && false) = false) := by
  refine ⟨?_, ?_, ?_, ?_⟩ <;> intro b <;> cases b <;> rfl
end Go.Proofs.YtdjdleldocfpaaaDoor.F
end

section
namespace Go.Proofs.YtdjdleldocfpaaaDoor.F
open Go.RowKit Go.Proofs.YtdjdleldocfpaaaDoorW.PrintWords Go.Proofs.YtdjdleldocfpaaaDoorW.PrintLast Go.Proofs.YtdjdleldocfpaaaDoorW.PrintMore
set_option linter.unusedVariables false
set_option linter.unusedSimpArgs false
theorem ifN {α : Type} {c : Prop} [Decidable c] {a : Option α} {r : α} (h : (if c then a else none) = some r) : c ∧ a = some r := by
  by_cases x : c
  · rw [if_pos x] at h; exact ⟨x, h⟩
  · rw [if_neg x] at h; cases h
theorem ifS {α : Type} {c : Prop} [Decidable c] {a b : Option α} {r : α} (h : (if c then a else b) = some r) : (c ∧ a = some r) ∨ (¬c ∧ b = some r) := by
  by_cases x : c
  · rw [if_pos x] at h; exact .inl ⟨x, h⟩
  · rw [if_neg x] at h; exact .inr ⟨x, h⟩
theorem ifT {α : Type} {c : Bool} {a b : Option α} {r : α} (h : (if c = true then a else b) = some r) : (c = true ∧ a = some r) ∨ (c = false ∧ b = some r) := by
  cases c
  · exact .inr ⟨rfl, h⟩
  · exact .inl ⟨rfl, h⟩
section
variable {P : Program} {ty : TypeId → Option TI}
theorem loopN {ι : Type} (T : ι → List AV) (S : ι → Sto) (F : Nat → ι → Prop) {n : Nat} {b : Code} {Q : Qt} {t : List AV} {s : Sto} (x : ι) (ρ : List (Nat × Nat)) (h : F n x) (h1 : EntT ρ t (T x)) (h2 : EntS ρ s (S x)) (h3 : inj ρ (S x) = true)
    (hz : ∀ x, F 0 x → False) (hr : ∀ m x, m + 1 ≤ n → F (m + 1) x → EW P ty b (kL T S (fun m x => m ≤ n ∧ F m x) (m + 1) Q) (T x) (S x)) : loopK P ty b Q t s :=
  loopR T S (fun m x => m ≤ n ∧ F m x) x ρ ⟨Nat.le_refl _, h⟩ h1 h2 h3 fun m x h => by
    cases m with
    | zero => exact absurd h.2 (hz x)
    | succ m => exact hr m x h.1 h.2
theorem nextN {ι : Type} {T : ι → List AV} {S : ι → Sto} {F : Nat → ι → Prop} {n N : Nat} {Q : Qt} {t : List AV} {s : Sto} (x : ι) (ρ : List (Nat × Nat)) (m : Nat) (hm : m < n ∧ m ≤ N) (h : F m x) (h1 : EntT ρ t (T x)) (h2 : EntS ρ s (S x)) (h3 : inj ρ (S x) = true) : kL T S (fun m x => m ≤ N ∧ F m x) n Q .normal t s := ⟨m, x, hm.1, ⟨hm.2, h⟩, ρ, h1, h2, h3⟩
theorem rn_cons (a b : Nat) (ρ : List (Nat × Nat)) (j : Nat) : rn ((a, b) :: ρ) j = if a = j then b else rn ρ j := by
  unfold rn
  rw [List.find?_cons]
  by_cases e : a = j
  · subst e; simp
  · have : (a == j) = false := by simpa using e
    simp only [this, if_neg e]
variable (ty)
theorem W13 : (∀ i n ps d t s K, litT ty (some i) n ps d t s K = ∃ j, ty i.el = some j ∧ litW (litR t ps 0) n i.el j.size d t s K) ∧ (∀ t k, litR t [] k = some []) ∧ (∀ t i x l k, litR t ((i, x) :: l) k = if i = k ∧ plainOk (eT t x).cells = true then (litR t l (k + 1)).map fun r => unv (eT t x).cells :: r else none) ∧
    (∀ z, litOk z [] = true) ∧ (∀ z x l, litOk z (x :: l) = (x.length == z && litOk z l)) ∧ (∀ xs n e z d t s K, litW (some xs) n e z d t s K = (xs.length = n ∧ litOk z xs = true ∧ 0 < z ∧ n * z ≤ 1000 ∧ rowW e z xs d t s K)) ∧
    (∀ i id y d t s K, appW ty (some i) (.lo id) y d t s K = ∃ j, ty i.el = some j ∧ okA j y = true ∧ appR id (gS s id) (rdA j.size y s) j i.el d t s K) ∧
    (∀ z y xs s, rdS z (.pr y xs) s = if y = z then some xs else none) ∧ (∀ z i s, rdS z (.lo i) s = rdB z (gS s i)) ∧ (∀ z s, rdS z (.v (.slice none 0 0)) s = some []) ∧ (∀ z e y xs, rdB z (some (.row e y xs)) = if y = z then some xs else none) ∧
    (∀ i d t s K, nilW ty (some i) d t s K = ∃ j, ty i.el = some j ∧ 0 < j.size ∧ rowW i.el j.size [] d t s K) ∧
    (∀ e z xs i y n off d t s K, loadE ty (some (.row e z xs)) i y n off d t s K = ∃ q, (ty e).map (·.zero) = some q ∧ y = z ∧ q.length = z ∧ off + i.size ≤ z ∧ K (pT t d (cutA i.agg i.size (dp off (vs (gR q xs n))))) s) ∧
    (∀ a b d t s K, mmW true (.v (.int .i64 a)) (.v (.int .i64 b)) d t s K = K (pT t d (.v (.int .i64 (mn a b)))) s) ∧ (∀ a b d t s K, mmW false (.v (.int .i64 a)) (.v (.int .i64 b)) d t s K = K (pT t d (.v (.int .i64 (mx a b)))) s) ∧
    (∀ i o d t s K, chkW (.bp i o) d t s K = K (pT t d (.bp i o)) s) ∧ (∀ c d t s K, chkW (.pe c) d t s K = K (pT t d (.pe c)) s) ∧ (∀ i z n o d t s K, chkW (.le i z n o) d t s K = K (pT t d (.le i z n o)) s) ∧
    (∀ q l d t s K, bindW q (.ag l) (some d) t s K = ((q && !okRL l) = false ∧ ((im (16 * d) (.ag l)).2.1.all fun p => free p.1 t s) = true ∧ (im (16 * d) (.ag l)).2.2 ≤ 16 * d + 15 ∧ K (sT t d (im (16 * d) (.ag l)).1) ((im (16 * d) (.ag l)).2.1 ++ s))) ∧
    (∀ q l d t s K, bindW q (.tu l) (some d) t s K = ((q && !okRL l) = false ∧ ((im (16 * d) (.tu l)).2.1.all fun p => free p.1 t s) = true ∧ (im (16 * d) (.tu l)).2.2 ≤ 16 * d + 15 ∧ K (sT t d (im (16 * d) (.tu l)).1) ((im (16 * d) (.tu l)).2.1 ++ s))) ∧
    (∀ x l, nthN (x :: l) 0 = some x) ∧ (∀ x l n, nthN (x :: l) (n + 1) = nthN l n) ∧
    (∀ (P : Program) e o op k a k' b d t s K, binX P e o op (.v (.int k a)) (.v (.int k' b)) d t s K = binW op (.v (.int k a)) (.v (.int k' b)) d t s K) ∧ (∀ (P : Program) e i a b d t s K, binX P e (some i) .eql (.v (.bool a)) (.v (.bool b)) d t s K = (i.zero = [.bool false] ∧ K (pT t d (.v (.bool (a == b)))) s)) ∧ (∀ (P : Program) e i a b d t s K, binX P e (some i) .neq (.v (.bool a)) (.v (.bool b)) d t s K = (i.zero = [.bool false] ∧ K (pT t d (.v (.bool (a != b)))) s)) ∧ (∀ j, rn [] j = j) ∧ (∀ a b ρ j, rn ((a, b) :: ρ) j = if a = j then b else rn ρ j) ∧
    (∀ i u ps d t s K, bldW (some i) u ps d t s K = (i.agg = true ∧ i.fs.isEmpty = false ∧ ∃ cs, bldC (plc i.size i.fs) u ps (vs i.zero) = some cs ∧ K (pT t d (.ag cs)) s)) ∧ (∀ z, plc z [] = []) ∧ (∀ z o, plc z [o] = [(o, z - o)]) ∧ (∀ z o o2 l, plc z (o :: o2 :: l) = (o, o2 - o) :: plc z (o2 :: l)) ∧ (∀ x l, nthL (x :: l) 0 = some x) ∧ (∀ x l n, nthL (x :: l) (n + 1) = nthL l n) ∧ (∀ pl t cs, bldC pl t [] cs = some cs) ∧ (∀ pl t f x l cs, bldC pl t ((f, x) :: l) cs = (bldP (nthL pl f) (eT t x).cells cs).bind (bldC pl t l)) ∧ (∀ o z c cs, bldP (some (o, z)) c cs = if c.length = z ∧ o + c.length ≤ cs.length ∧ cellsOk c = true then some (putA o c cs) else none) ∧
    (okRL [] = true) ∧ (∀ c l, okRL (c :: l) = (okR c && okRL l)) ∧ (∀ x, okR (.v x) = true) ∧ (∀ l, okR (.ag l) = okRL l) ∧ (∀ l, okR (.tu l) = okRL l) ∧ (∀ e z l, okR (.ow e z l) = true) ∧ (plnL [] = true) ∧ (∀ c l, plnL (c :: l) = (pln c && plnL l)) ∧ (∀ x, pln (.v x) = true) ∧ (∀ l, pln (.ag l) = plnL l) ∧ (∀ l, pln (.tu l) = plnL l) ∧ (∀ e z l, pln (.ow e z l) = false) ∧
    (∀ q e z l d t s K, bindW q (.ow e z l) (some d) t s K = ((q && !true) = false ∧ ((im (16 * d) (.ow e z l)).2.1.all fun p => free p.1 t s) = true ∧ (im (16 * d) (.ow e z l)).2.2 ≤ 16 * d + 15 ∧ K (sT t d (im (16 * d) (.ow e z l)).1) ((im (16 * d) (.ow e z l)).2.1 ++ s))) := by
  refine ⟨?_, ?_, ?_, ?_, ?_, ?_, ?_, ?_, ?_, ?_, ?_, ?_, ?_, ?_, ?_, ?_, ?_, ?_, ?_, ?_, ?_, ?_, ?_, ?_, ?_, ?_, ?_, ?_, ?_, ?_, ?_, ?_, ?_, ?_, ?_, ?_, ?_, ?_, ?_, ?_, ?_, ?_, ?_, ?_, ?_, ?_, ?_, ?_, ?_⟩ <;> intros <;> first | rfl | (unfold binX; split <;> simp_all; done) | exact rn_cons _ _ _ _
theorem mkN {n : Int} {b : Nat} (h0 : 0 ≤ n) (hb : 0 < b) : (n * (b : Int) ≤ 281474976710656) = (n.toNat ≤ 281474976710656 / b) := by
  obtain ⟨m, rfl⟩ : ∃ m : Nat, n = m := ⟨n.toNat, by omega⟩
  rw [Int.toNat_natCast, Nat.le_div_iff_mul_le hb]
  exact propext (by omega)
theorem W14 : (∀ i n d t s K, mkW ty (some i) (.v (.int .i64 n)) (.v (.int .i64 n)) d t s K = ∃ j, ty i.el = some j ∧ 0 ≤ n ∧ n.toNat ≤ 281474976710656 / j.bytes ∧ 0 < j.bytes ∧ 0 < j.size ∧ rowW i.el j.size (List.replicate n.toNat j.zero) d t s K) ∧
    (∀ id e z xs ys j e' d t s K, appR id (some (.row e z xs)) (some ys) j e' (some d) t s K = (e = e' ∧ z = j.size ∧ 0 < j.bytes ∧ xs.length + ys.length ≤ 140737488355328 / j.bytes ∧ free (16 * d) t (dS s id) = true ∧ K (sT t d (.lo (16 * d))) (uS (dS s id) (16 * d) (.row e z (xs ++ ys))))) := by
  refine ⟨fun i n d t s K => ?_, fun id e z xs ys j e' d t s K => ?_⟩
  · show (∃ j, ty i.el = some j ∧ n = n ∧ 0 ≤ n ∧ n * (j.bytes : Int) ≤ 281474976710656 ∧ 0 < j.bytes ∧ 0 < j.size ∧ rowW i.el j.size (List.replicate n.toNat j.zero) d t s K) = _
    refine propext ⟨?_, ?_⟩
    · rintro ⟨j, h1, _, h2, h3, h4, h5⟩
      exact ⟨j, h1, h2, (mkN h2 h4) ▸ h3, h4, h5⟩
    · rintro ⟨j, h1, h2, h3, h4, h5⟩
      exact ⟨j, h1, rfl, h2, (mkN h2 h4) ▸ h3, h4, h5⟩
  · show (e = e' ∧ z = j.size ∧ 0 < j.bytes ∧ (xs.length + ys.length) * j.bytes ≤ 140737488355328 ∧ _) = _
    refine propext ⟨?_, ?_⟩
    · rintro ⟨h1, h2, h3, h4, h5⟩
      exact ⟨h1, h2, h3, (Nat.le_div_iff_mul_le h3).2 h4, h5⟩
    · rintro ⟨h1, h2, h3, h4, h5⟩
      exact ⟨h1, h2, h3, (Nat.le_div_iff_mul_le h3).1 h4, h5⟩
end
theorem eqRule {P : Program} {b : TypeId} {cs ds : List AV} {e : Bool} (hg : P.eqGuardType P.depth b = false) (hc : plnL cs = true) (hd : plnL ds = true) {dd : Nat} (hdd : dd = Op.maxDepth) (h0 : ∀ w, (Op.equalIn dd b (.agg (List.toArray (vluL cs))) (.agg (List.toArray (vluL ds)))).run P w = .ok e w) (i : TI) (d : Option Nat) (t : List AV) (s : Sto) (K : Kt) :
    binX P b (some i) .eql (.ag cs) (.ag ds) d t s K = K (pT t d (.v (.bool e))) s := by
  have h : ∀ w, (Op.equal b (.agg (List.toArray (vluL cs))) (.agg (List.toArray (vluL ds)))).run P w = .ok e w := fun w => by subst hdd; exact h0 w
  refine propext ⟨?_, fun hK => ⟨hc, hd, e, ⟨hg, h⟩, hK⟩⟩
  rintro ⟨_, _, r, h1, h2⟩
  have := h1.2 { (default : World) with }
  rw [h] at this
  injection this with this
  rw [this]; exact h2
theorem neRule {P : Program} {b : TypeId} {cs ds : List AV} {e : Bool} (hg : P.eqGuardType P.depth b = false) (hc : plnL cs = true) (hd : plnL ds = true) {dd : Nat} (hdd : dd = Op.maxDepth) (h0 : ∀ w, (Op.equalIn dd b (.agg (List.toArray (vluL cs))) (.agg (List.toArray (vluL ds)))).run P w = .ok e w) (i : TI) (d : Option Nat) (t : List AV) (s : Sto) (K : Kt) :
    binX P b (some i) .neq (.ag cs) (.ag ds) d t s K = K (pT t d (.v (.bool (!e)))) s := by
  have h : ∀ w, (Op.equal b (.agg (List.toArray (vluL cs))) (.agg (List.toArray (vluL ds)))).run P w = .ok e w := fun w => by subst hdd; exact h0 w
  refine propext ⟨?_, fun hK => ⟨hc, hd, e, ⟨hg, h⟩, hK⟩⟩
  rintro ⟨_, _, r, h1, h2⟩
  have := h1.2 { (default : World) with }
  rw [h] at this
  injection this with this
  rw [this]; exact h2
theorem bEq : (∀ a b : Int, (a == b) = decide (a = b)) ∧ (∀ a b : Int, (a != b) = !decide (a = b)) := ⟨fun a b => by by_cases h : a = b <;> simp [h], fun a b => by by_cases h : a = b <;> simp [h, bne]⟩
theorem W0b : (∀ (α : Type) (_ : Decidable True) (a b : α), (if True then a else b) = a) ∧ (∀ (α : Type) (_ : Decidable False) (a b : α), (if False then a else b) = b) ∧ (∀ (α β : Type) (f : α → β) (l : List α), (l.map f).length = l.length) ∧ (∀ (α β : Type) (x : α) (f : α → Option β), (some x).bind f = f x) ∧ (∀ (α β : Type) (x : α) (f : α → β), (some x).map f = some (f x)) ∧ (∀ (α : Type) (x : α), (some x).isSome = true) ∧
    (∀ p : Prop, (True ∧ p) = p) ∧ (∀ p : Prop, (p ∧ True) = p) ∧ (∀ p : Prop, (False ∧ p) = False) ∧ (∀ (α : Type) (x : α), (x = x) = True) ∧ (∀ (α : Type) (x : α) (l : List α), (x :: l).length = l.length + 1) ∧ (∀ α : Type, ([] : List α).length = 0) ∧ (∀ (α : Type) (p : α → Bool), ([] : List α).all p = true) ∧ (∀ (α : Type) (p : α → Bool) (x : α) (l : List α), (x :: l).all p = (p x && l.all p)) ∧
    (∀ h : Decidable True, @decide True h = true) ∧ (∀ h : Decidable False, @decide False h = false) ∧ (∀ (α : Type) (a : α) (p : α → Prop), (∃ x, some a = some x ∧ p x) = p a) ∧ (∀ (α : Type) (a : α) (p : α → Prop), (∃ x, some x = some a ∧ p x) = p a) ∧ (∀ a b : Nat, (a + 1 ≤ b) = (a < b)) ∧
    (∀ (α : Type) (l : List α), [] ++ l = l) ∧ (∀ (α : Type) (x : α) (l m : List α), (x :: l) ++ m = x :: (l ++ m)) ∧ (∀ (α : Type) (l : List α), l.drop 0 = l) ∧ (∀ (α : Type) (n : Nat) (x : α) (l : List α), (x :: l).drop (n + 1) = l.drop n) ∧ ((!true) = false) ∧ ((!false) = true) ∧ (∀ a b : Int, (a == b) = decide (a = b)) ∧ (∀ a b : Int, (a != b) = !decide (a = b)) ∧ ((¬True) = False) ∧ ((¬False) = True) ∧ (∀ (α : Type) (a b : α), (a ≠ b) = ¬(a = b)) ∧
    (∀ (α : Type) (l m : List α), (l ++ m).length = l.length + m.length) ∧ (∀ (α : Type) (l : List α) (i : Nat) (x : α), (l.set i x).length = l.length) ∧ (∀ (α : Type) (n : Nat) (x : α), (List.replicate n x).length = n) ∧ (∀ (α β : Type) (f : α → β) (l m : List α), l.map f ++ m.map f = (l ++ m).map f) ∧ (∀ (α β : Type) (f : α → β), [].map f = []) := by
  refine ⟨?_, ?_, ?_, ?_, ?_, ?_, ?_, ?_, ?_, ?_, ?_, ?_, ?_, ?_, ?_, ?_, ?_, ?_, ?_, ?_, ?_, ?_, ?_, ?_, ?_, ?_, ?_, ?_, ?_, ?_, ?_, ?_, ?_, ?_, ?_⟩ <;> intros <;> first | rfl | simp | (exact propext Iff.rfl)
end Go.Proofs.YtdjdleldocfpaaaDoor.F
end

section
namespace Go.Proofs.YtdjdleldocfpaaaDoor.F
open Go.RowKit Go.Proofs.YtdjdleldocfpaaaDoorW.PrintWords Go.Proofs.YtdjdleldocfpaaaDoorW.PrintLast Go.Proofs.YtdjdleldocfpaaaDoorW.PrintMore
set_option linter.unusedVariables false
set_option linter.unusedSimpArgs false
theorem W15 (P : Program) (ty : TypeId → Option TI) : (∀ s id z lo hi, toP s (.vw id z lo hi) = tpV z lo hi (gS s id)) ∧ (∀ z lo hi e y xs, tpV z lo hi (some (.row e y xs)) = if z = y then .pr y ((xs.take hi).drop lo) else .u) ∧ (∀ s f a b, toP s (.v (.func f a b)) = .v (.func f a b)) ∧
    (∀ id z lo hi d t s K, lenW (.vw id z lo hi) d t s K = lenV (gS s id) lo hi d t s K) ∧ (∀ e z xs lo hi d t s K, lenV (some (.row e z xs)) lo hi d t s K = K (pT t d (.v (.int .i64 (((xs.take hi).drop lo).length : Int)))) s) ∧
    (∀ i id z lo hi k n d t s K, idxW ty (some i) (.vw id z lo hi) (.v (.int k n)) d t s K = idxV ty i.el (gS s id) id z lo hi n d t s K) ∧
    (∀ el e z xs id y lo hi n d t s K, idxV ty el (some (.row e z xs)) id y lo hi n d t s K = ((∃ j, ty el = some j ∧ j.size = z) ∧ y = z ∧ 0 ≤ n ∧ n < (((xs.take hi).drop lo).length : Int) ∧ K (pT t d (.le id z (n + (lo : Int)) 0)) s)) ∧
    (∀ z id y lo hi s, rdS z (.vw id y lo hi) s = if y = z then (rdB z (gS s id)).map fun xs => (xs.take hi).drop lo else none) ∧
    (∀ q b x lo hi o d t s K, opX P ty q (.slice b x lo hi none) o d t s K = slcW ty (ty b) (eT t x) (lo.map (eT t)) (hi.map (eT t)) d t s K) ∧
    (∀ i z xs lo hi d t s K, slcW ty (some i) (.pr z xs) lo hi d t s K = ∃ j, ty i.el = some j ∧ slcP z xs j (loN lo) hi d t s K) ∧
    (∀ i id lo hi d t s K, slcW ty (some i) (.lo id) lo hi d t s K = ∃ j, ty i.el = some j ∧ slcR id (gS s id) j (loN lo) hi d t s K) ∧
    (∀ z xs j l hi d t s K, slcP z xs j (some l) hi d t s K = ∃ h, hiN xs.length hi = some h ∧ j.size = z ∧ 0 ≤ l ∧ l ≤ h ∧ h ≤ (xs.length : Int) ∧ K (pT t d (.pr z ((xs.take h.toNat).drop l.toNat))) s) ∧
    (∀ id e z xs j l hi d t s K, slcR id (some (.row e z xs)) j (some l) hi d t s K = ∃ h, hiN xs.length hi = some h ∧ j.size = z ∧ 0 ≤ l ∧ l ≤ h ∧ h ≤ (xs.length : Int) ∧ K (pT t d (.vw id z l.toNat h.toNat)) s) ∧
    (loN none = some 0) ∧ (∀ k n, loN (some (.v (.int k n))) = some n) ∧ (∀ n, hiN n none = some (n : Int)) ∧ (∀ n k h, hiN n (some (.v (.int k h))) = some h) ∧
    (∀ i a b c d, rot i (.slice a b c d none) = true) ∧ (∀ (α β : Type) (f : α → β), (none : Option α).map f = none) ∧ (∀ (α : Type) (l : List α), l.drop (Int.toNat 0) = l) ∧ (∀ (α : Type) (l : List α), l.take ((l.length : Int)).toNat = l) ∧ (∀ i j, nodB [i, j] = (i != j)) ∧ (∀ i j k, nodB [i, j, k] = (i != j && (i != k && j != k))) ∧
    (∀ (α β : Type) (f : α → β) (l : List α) (n : Nat), (l.map f).take n = (l.take n).map f) ∧ (∀ (α β : Type) (f : α → β) (l : List α) (n : Nat), (l.map f).drop n = (l.drop n).map f) ∧ (∀ n : Int, n ≤ n) ∧ (∀ n : Int, n + ((0 : Nat) : Int) = n) ∧ (∀ t f, eT t (.func f) = .v (.func (.func f) #[] #[])) := by
  refine ⟨?_, ?_, ?_, ?_, ?_, ?_, ?_, ?_, ?_, ?_, ?_, ?_, ?_, ?_, ?_, ?_, ?_, ?_, ?_, ?_, ?_, ?_, ?_, ?_, ?_, ?_, ?_, ?_⟩ <;> intros <;> first | rfl | (rename_i i _ _ _ _; cases i <;> rfl) | (rw [Int.toNat_natCast]; exact List.take_length) | (rename_i i j; by_cases h : i = j <;> simp [nodB, h]; done) | (rename_i i j k; by_cases h : i = j <;> by_cases h2 : i = k <;> by_cases h3 : j = k <;> simp [nodB, h, h2, h3]; done) | exact List.map_take.symm | exact List.map_drop.symm | exact Int.le_refl _ | exact Int.add_zero _ | exact Nat.cast_ofNat | simp
theorem W16 : (∀ s, subS s [] = True) ∧ (∀ s i b S, subS s ((i, b) :: S) = (gS s i = some b ∧ subS s S)) ∧ (∀ s, uSL s [] = s) ∧ (∀ s i b S, uSL s ((i, b) :: S) = uSL (uS s i b) S) := by
  refine ⟨?_, ?_, ?_, ?_⟩ <;> intros <;> rfl
theorem W17 (ty : TypeId → Option TI) : (∀ rv res R t s, QB ty rv res R .ret t s = (subS s R ∧ ∃ xs, resL ty t s rv = some xs ∧ nodB (AV.idsL xs) = true ∧ ((AV.idsL xs).all fun i => (gS R i).isNone) = true ∧ FitO s xs res)) ∧ (∀ rv res R t s, QB ty rv res R .normal t s = (subS s R ∧ ∃ xs, resL ty t s rv = some xs ∧ nodB (AV.idsL xs) = true ∧ ((AV.idsL xs).all fun i => (gS R i).isNone) = true ∧ FitO s xs res)) ∧
    (∀ rv tb cs t s, QN ty rv tb cs .ret t s = ∃ xs, resL ty t s rv = some xs ∧ isN s tb cs xs) ∧ (∀ rv tb cs t s, QN ty rv tb cs .normal t s = ∃ xs, resL ty t s rv = some xs ∧ isN s tb cs xs) ∧ (∀ s tb cs id, isN s tb cs [.bp id 0] = (gS s id = some (.box tb cs))) ∧ (∀ α : Type, (none : Option α).isNone = true) ∧ (∀ j, gS [] j = none) := by
  refine ⟨?_, ?_, ?_, ?_, ?_, ?_, ?_⟩ <;> intros <;> rfl
theorem W18 (P : Program) (ty : TypeId → Option TI) : (∀ q b c x o d t s K, opX P ty q (.convert b c x) o d t s K = cnvW ty (ty b) (ty c) (eT t x) d t s K) ∧ (∀ i j k n d t s K, cnvW ty (some i) (some j) (.v (.int k n)) d t s K = ∃ k', kindOf j.zero = some k' ∧ K (pT t d (.v (.int k' (wr k' n)))) s) ∧ (∀ k n, kindOf [.int k n] = some k) ∧ (∀ n, wr .i64 n = wrap64 n) ∧ (∀ i a b c, rot i (.convert a b c) = true) ∧
    (∀ q o d t s K, opX P ty q (.assign (.const (.pointer none))) o d t s K = K (pT t d (.v (.pointer none))) s) ∧ (∀ j, rot j (.assign (.const (.pointer none))) = true) ∧ (∀ a b d t s K, binW .shr (.v (.int .i64 a)) (.v (.int .u64 b)) d t s K = (bok .shr b ∧ K (pT t d (.v (bval .shr .i64 a b))) s)) ∧ (∀ a b d t s K, binW .shl (.v (.int .i64 a)) (.v (.int .u64 b)) d t s K = (bok .shl b ∧ K (pT t d (.v (bval .shl .i64 a b))) s)) ∧
    (∀ a, shr .i64 a 33 = a / 8589934592) ∧ (∀ a, shr .i64 a 45 = a / 35184372088832) := by
  refine ⟨?_, ?_, ?_, ?_, ?_, ?_, ?_, ?_, ?_, ?_, ?_⟩ <;> intros <;> first | rfl | (unfold binW; simp [kok]) | (simp [shr, IntKind.bits]; done)
def rs2 : Bool → Sto → Bool
  | true, _ => true
  | false, s => rsv s
def dch2 : Bool → List Oper → List AV → Sto → Bool
  | false, _, _, _ => true
  | true, l, t, s => !hasC l || rchk l t s
def dch3 : Bool → List Oper → List AV → Sto → Bool
  | false, _, _, _ => true
  | true, l, t, s => rchk l t s
def hc2 : Bool → List Oper → Bool
  | true, _ => true
  | false, l => hasC l
theorem rsv_cons (i : Nat) (b : Blk) (s : Sto) : rsv ((i, b) :: s) = rs2 (i - i / 16 * 16 == 15) s := by
  have h : i % 16 = i - i / 16 * 16 := by omega
  show (i % 16 == 15 || rsv s) = _
  rw [h]; cases (i - i / 16 * 16 == 15) <;> rfl
theorem W19 : (∀ l t s, dchk l t s = dch2 (rsv s) l t s) ∧ (rsv [] = false) ∧ (∀ i b s, rsv ((i, b) :: s) = rs2 (i - i / 16 * 16 == 15) s) ∧ (∀ s, rs2 true s = true) ∧ (∀ s, rs2 false s = rsv s) ∧ (∀ l t s, dch2 false l t s = true) ∧ (∀ l t s, dch2 true l t s = dch3 (hasC l) l t s) ∧ (∀ l t s, dch3 false l t s = true) ∧ (∀ l t s, dch3 true l t s = rchk l t s) ∧
    (hasC [] = false) ∧ (∀ o l, hasC (o :: l) = hc2 (isC o.op) l) ∧ (∀ l, hc2 true l = true) ∧ (∀ l, hc2 false l = hasC l) ∧ (∀ o, isC o = match o with | .call ⟨.value _, _, _⟩ => true | _ => false) ∧ (∀ l, (true = true ∧ l) = l) := by
  refine ⟨?_, ?_, rsv_cons, ?_, ?_, ?_, ?_, ?_, ?_, ?_, ?_, ?_, ?_, ?_, ?_⟩ <;> intros <;> first | rfl | (simp; done) | (rename_i l t s; unfold dchk; cases rsv s <;> rfl) | (rename_i l t s; show (!hasC l || rchk l t s) = _; cases hasC l <;> rfl) | (rename_i o l; show (isC o.op || hasC l) = _; cases isC o.op <;> rfl)
theorem W20 : (∀ j i z lo hi, AV.fr j (.vw i z lo hi) = (i != j)) ∧ (Int.toNat 0 = 0) := ⟨fun _ _ _ _ _ => rfl, rfl⟩
theorem W21 : (∀ (P : Program) e o op a b d t s K, binX P e o op (.v (.string a)) (.v (.string b)) d t s K = (sok op a b = true ∧ K (pT t d (.v (sval op a b))) s)) ∧ (∀ a b, (sok .add a b = true) = (a.size + b.size ≤ 9223372036854775807)) ∧ (∀ a b, sok .eql a b = true) ∧ (∀ a b, sok .neq a b = true) ∧
    (∀ a b, sval .add a b = .string (a ++ b)) ∧ (∀ a b, sval .eql a b = .bool (decide (a.toList = b.toList))) ∧ (∀ a b, sval .neq a b = .bool (decide (¬ a.toList = b.toList))) ∧ (∀ c, ByteArray.size ⟨#[c]⟩ = 1) := by
  refine ⟨?_, ?_, ?_, ?_, ?_, ?_, ?_, ?_⟩ <;> intros <;> first | rfl | (rename_i P_ e_ o_ op_ a_ b_ d_ t_ s_ K_; cases o_ <;> cases op_ <;> rfl) | simp [sok]
theorem W22 : (∀ ρ x t i z lo hi T, EntT ρ (x :: t) (.vw i z lo hi :: T) = (x = .vw (rn ρ i) z lo hi ∧ EntT ρ t T)) ∧ (∀ ρ i z lo hi, AV.ren ρ (.vw i z lo hi) = .vw (rn ρ i) z lo hi) ∧ (∀ n, wr .u8 n = n % 256) := by
  refine ⟨?_, ?_, ?_⟩ <;> intros <;> rfl
theorem W23 (ty : TypeId → Option TI) : (∀ i k, lenT ty (some i) (.lo k) = (ty i.el).isSome) ∧ (∀ i z l, lenT ty (some i) (.pr z l) = (ty i.el).isSome) ∧ (∀ i k z a b, lenT ty (some i) (.vw k z a b) = (ty i.el).isSome) ∧ (∀ i a n c, lenT ty (some i) (.v (.slice a n c)) = (ty i.el).isSome) ∧ (∀ i m, lenT ty (some i) (.v (.string m)) = strZ i.zero) ∧ (∀ m, strZ [.string m] = true) ∧
    (∀ a d t s K, lenW (.v (.string a)) d t s K = K (pT t d (.v (.int .i64 (a.size : Int)))) s) ∧
    (∀ a z i, appT a a z (.lo i) = true) ∧ (∀ a z y l, appT a a z (.pr y l) = true) ∧ (∀ a z k y p q, appT a a z (.vw k y p q) = true) ∧ (∀ a z p n c, appT a a z (.v (.slice p n c)) = true) ∧ (∀ a b z m, appT a b (some z) (.v (.string m)) = strZ z) ∧
    (∀ j i, okA j (.lo i) = true) ∧ (∀ j z l, okA j (.pr z l) = true) ∧ (∀ j k z a b, okA j (.vw k z a b) = true) ∧ (∀ j a n c, okA j (.v (.slice a n c)) = true) ∧ (∀ j m, okA j (.v (.string m)) = (u8Z j.zero && j.bytes == 1)) ∧ (u8Z [.int .u8 0] = true) ∧
    (∀ z i s, rdA z (.lo i) s = rdS z (.lo i) s) ∧ (∀ z y l s, rdA z (.pr y l) s = rdS z (.pr y l) s) ∧ (∀ z k y a b s, rdA z (.vw k y a b) s = rdS z (.vw k y a b) s) ∧ (∀ z a n c s, rdA z (.v (.slice a n c)) s = rdS z (.v (.slice a n c)) s) ∧ (∀ a s, rdA 1 (.v (.string a)) s = some ((bytesOf a).map fun n => [.int .u8 n])) := by
  refine ⟨?_, ?_, ?_, ?_, ?_, ?_, ?_, ?_, ?_, ?_, ?_, ?_, ?_, ?_, ?_, ?_, ?_, ?_, ?_, ?_, ?_, ?_, ?_⟩ <;> intros <;> first | rfl | (unfold appT; simp; done)
theorem W25 (ty : TypeId → Option TI) : (∀ i id off k n d t s K, idxW ty (some i) (.bp id off) (.v (.int k n)) d t s K = (i.agg = true ∧ i.fs.isEmpty = true ∧ 0 ≤ n ∧ n.toNat < i.size ∧ K (pT t d (.bp id (off + n.toNat))) s)) ∧ (∀ (x : Nat) l, (x :: l).isEmpty = false) ∧ (([] : List Nat).isEmpty = true) ∧ (∀ a b, ByteArray.size ⟨#[a, b]⟩ = 2) ∧ (∀ a b c d, ByteArray.size ⟨#[a, b, c, d]⟩ = 4) ∧ (∀ a b c d e, ByteArray.size ⟨#[a, b, c, d, e]⟩ = 5) ∧ (∀ a b c d e f g h, ByteArray.size ⟨#[a, b, c, d, e, f, g, h]⟩ = 8) := by
  refine ⟨?_, ?_, ?_, ?_, ?_, ?_, ?_⟩ <;> intros <;> rfl
theorem W24 (P : Program) (ty : TypeId → Option TI) : (∀ q b x i o d t s K, opX P ty q (.index b x i) o d t s K = idxS (ty b) (eT t x) (eT t i) d t s K) ∧ (∀ i a k n d t s K, idxS (some i) (.v (.string a)) (.v (.int k n)) d t s K = (strZ i.zero = true ∧ 0 ≤ n ∧ n < (a.size : Int) ∧ K (pT t d (.v (.int .u8 (bt a n)))) s)) ∧ (∀ i a b c, rot i (.index a b c) = true) ∧
    (∀ i a lo hi d t s K, slcW ty (some i) (.v (.string a)) lo hi d t s K = (strZ i.zero = true ∧ slcS a (loN lo) hi d t s K)) ∧ (∀ a l d t s K, slcS a (some l) none d t s K = (0 ≤ l ∧ l ≤ (a.size : Int) ∧ K (pT t d (.v (.string (a.extract l.toNat a.size)))) s)) ∧ (∀ a l k h d t s K, slcS a (some l) (some (.v (.int k h))) d t s K = (0 ≤ l ∧ l ≤ h ∧ h ≤ (a.size : Int) ∧ K (pT t d (.v (.string (a.extract l.toNat h.toNat)))) s)) ∧ (Int.toNat 1 = 1) ∧ (Int.toNat 2 = 2) ∧
    (∀ i j k d t s K, cnvW ty (some i) (some j) (.lo k) d t s K = cnvS ty i j (.lo k) d t s K) ∧ (∀ i j z l d t s K, cnvW ty (some i) (some j) (.pr z l) d t s K = cnvS ty i j (.pr z l) d t s K) ∧ (∀ i j k z a b d t s K, cnvW ty (some i) (some j) (.vw k z a b) d t s K = cnvS ty i j (.vw k z a b) d t s K) ∧ (∀ i j a n c d t s K, cnvW ty (some i) (some j) (.v (.slice a n c)) d t s K = cnvS ty i j (.v (.slice a n c)) d t s K) ∧
    (∀ i j x d t s K, cnvS ty i j x d t s K = (strZ j.zero = true ∧ (∃ e, ty i.el = some e ∧ u8Z e.zero = true) ∧ ∃ ns, (rdS 1 x s).bind bys = some ns ∧ K (pT t d (.v (.string (strOfNums ns)))) s)) ∧ (∀ (α β : Type) (f : α → Option β) (x : α), (some x).bind f = f x) ∧ (bys [] = some []) ∧ (∀ a, (bytesOf a).length = a.size) ∧
    (∀ q a x o d t s K, opX P ty q (.unOp .neg a x) o d t s K = negW (eT t x) d t s K) ∧ (∀ k n d t s K, negW (.v (.int k n)) d t s K = K (pT t d (.v (.int k (wr k (-n))))) s) ∧
    (∀ op a b d t s K, binW op (.v (.int .u8 a)) (.v (.int .u8 b)) d t s K = (kok op .u8 .u8 = true ∧ bok op b ∧ K (pT t d (.v (bval op .u8 a b))) s)) ∧ (kok .lss .u8 .u8 = true) ∧ (kok .leq .u8 .u8 = true) ∧ (kok .gtr .u8 .u8 = true) ∧ (kok .geq .u8 .u8 = true) ∧ (kok .eql .u8 .u8 = true) ∧ (kok .neq .u8 .u8 = true) ∧
    (∀ a b, bval .lss .u8 a b = .bool (decide (a < b))) ∧ (∀ a b, bval .leq .u8 a b = .bool (decide (a ≤ b))) ∧ (∀ a b, bval .gtr .u8 a b = .bool (decide (a > b))) ∧ (∀ a b, bval .geq .u8 a b = .bool (decide (a ≥ b))) ∧ (∀ a b, bval .eql .u8 a b = .bool (a == b)) ∧ (∀ a b, bval .neq .u8 a b = .bool (a != b)) ∧ (∀ n : Int, n ≤ n) := by
  refine ⟨?_, ?_, ?_, ?_, ?_, ?_, ?_, ?_, ?_, ?_, ?_, ?_, ?_, ?_, ?_, ?_, ?_, ?_, ?_, ?_, ?_, ?_, ?_, ?_, ?_, ?_, ?_, ?_, ?_, ?_, ?_, ?_⟩ <;> intros <;> first | rfl | exact Int.le_refl _ | exact bytesOf_length _ | (unfold binW; rfl) | (unfold slcS; simp [hiN]; done)
end Go.Proofs.YtdjdleldocfpaaaDoor.F
end

section
namespace Go.Proofs.YtdjdleldocfpaaaDoor.F
open Go.RowKit Go.Proofs.YtdjdleldocfpaaaDoorW.PrintWords Go.Proofs.YtdjdleldocfpaaaDoorW.PrintLast Go.Proofs.YtdjdleldocfpaaaDoorW.PrintMore
set_option linter.unusedVariables false
set_option linter.unusedSimpArgs false
structure EncOk {α : Type} (d : Kd α) (sz : Nat) (enc : α → List Value) : Prop where
  hz : d.sz = sz
  pos : 0 < sz
  len : ∀ x, (enc x).length = sz
  pl : ∀ x, ∀ u ∈ enc x, plainV u = true
  K : ∀ {w x c}, d.K w x c ↔ c = enc x
  M : ∀ {w b ok x c}, d.M w b ok x c ↔ c = enc x
section
variable {α : Type} {d : Kd α} {sz : Nat} {enc : α → List Value}
theorem EncOk.all (E : EncOk d sz enc) {xs : List α} : ∀ x ∈ xs.map enc, x.length = sz := fun x hx => by
  obtain ⟨y, _, rfl⟩ := List.mem_map.1 hx
  exact E.len y
theorem EncOk.row (E : EncOk d sz enc) (xs : List α) : rowOk sz (xs.map enc) := fun x hx => by
  obtain ⟨y, _, rfl⟩ := List.mem_map.1 hx
  exact ⟨E.len y, E.pl y⟩
theorem EncOk.cell (E : EncOk d sz enc) {xs : List α} {i j : Nat} (hi : i < xs.length) (hj : j < sz) : (xs.map enc).flatten[i * sz + j]? = (enc xs[i])[j]? := by
  rw [flatten_at E.all (by simpa using hi) (z := []) hj]
  simp [List.getD_eq_getElem?_getD, hi]
end
end Go.Proofs.YtdjdleldocfpaaaDoor.F
namespace Go.Proofs.YtdjdleldocfpaaaDoor.F
open Go.RowKit Go.Proofs.YtdjdleldocfpaaaDoorW.PrintWords Go.Proofs.YtdjdleldocfpaaaDoorW.PrintLast Go.Proofs.YtdjdleldocfpaaaDoorW.PrintMore
mutual
theorem repR_vlu (B : Nat) (w : World) : ∀ c : AV, pln c = true → RepR B w c (vlu c) []
  | .v x, _ => by unfold RepR; exact ⟨rfl, rfl⟩
  | .ag cs, h => by unfold RepR; exact ⟨_, rfl, repRL_vlu B w cs h⟩
  | .tu cs, h => by unfold RepR; exact ⟨_, rfl, repRL_vlu B w cs h⟩
  | .u, h => by simp [pln] at h
  | .pr _ _, h => by simp [pln] at h
  | .ow _ _ _, h => by simp [pln] at h
  | .lo _, h => by simp [pln] at h
  | .bp _ _, h => by simp [pln] at h
  | .pe _, h => by simp [pln] at h
  | .le _ _ _ _, h => by simp [pln] at h
  | .vw _ _ _ _, h => by simp [pln] at h
theorem repRL_vlu (B : Nat) (w : World) : ∀ cs : List AV, plnL cs = true → RepRL B w cs (vluL cs) []
  | [], _ => by unfold RepRL; exact ⟨rfl, rfl⟩
  | c :: cs, h => by
    unfold plnL at h
    rw [Bool.and_eq_true] at h
    unfold RepRL
    exact ⟨_, _, [], [], rfl, rfl, repR_vlu B w c h.1, repRL_vlu B w cs h.2⟩
end
end Go.Proofs.YtdjdleldocfpaaaDoor.F
end

section
namespace Go.Proofs.YtdjdleldocfpaaaDoor.F
open Go.RowKit Go.Proofs.YtdjdleldocfpaaaDoorW.PrintWords Go.Proofs.YtdjdleldocfpaaaDoorW.PrintLast Go.Proofs.YtdjdleldocfpaaaDoorW.PrintMore
set_option linter.unusedVariables false
set_option linter.unusedSimpArgs false
def spec_l01In.f (a0 : Int) (a1 : Int) (a2 : Int) : Option (Bool) := if a0 ≥ a1 then (some (decide (a0 ≤ a2))) else (some false)
def strconv_Itoa.f (a0 : Int) : Option ByteArray := if 0 ≤ a0 ∧ a0 < 100 then some ⟨if a0.toNat < 10 then #[UInt8.ofNat (48 + a0.toNat)] else #[UInt8.ofNat (48 + a0.toNat / 10), UInt8.ofNat (48 + a0.toNat % 10)]⟩ else if -9223372036854775808 ≤ a0 ∧ a0 ≤ 9223372036854775807 then some ⟨(Go.Lib.itoa a0).toArray⟩ else none
def impl_FormatInt.f (a0 : Int) : Option (ByteArray) := (strconv_Itoa.f a0).bind fun t170 => (some t170)
end Go.Proofs.YtdjdleldocfpaaaDoor.F
end

section
namespace Go.Proofs.YtdjdleldocfpaaaDoor.F
open Go.RowKit Go.Proofs.YtdjdleldocfpaaaDoorW.PrintWords Go.Proofs.YtdjdleldocfpaaaDoorW.PrintLast Go.Proofs.YtdjdleldocfpaaaDoorW.PrintMore
set_option linter.unusedVariables false
set_option linter.unusedSimpArgs false
def impl_wordOf.f (a0 : Int) : Option (ByteArray × Int) := if a0 = 1 then (some ((⟨#[100, 97, 121]⟩ : ByteArray), 1)) else (if a0 = 2 then (some ((⟨#[101, 110, 116, 101, 114]⟩ : ByteArray), 0)) else (if a0 = 3 then (some ((⟨#[119, 97, 108, 107]⟩ : ByteArray), 2)) else (if a0 = 4 then (some ((⟨#[108, 101, 97, 118, 101]⟩ : ByteArray), 0)) else (if a0 = 5 then (some ((⟨#[103, 117, 105, 100, 101]⟩ : ByteArray), 1)) else (some ((⟨#[102, 97, 114]⟩ : ByteArray), 0))))))
def impl_isDirection.f (a0 : Int) : Option (Bool) := if a0 ≥ 0 then (some (decide (a0 ≤ 3))) else (some false)
def impl_ActOk.j0 : Nat → Bool → Int → Int → Int → Option (Bool)
  | 0, _, _, _, _ => none
  | k + 1, x3, x150000, x150001, x150002 => if x150000 = 1 then (if x150001 ≥ 1 then (if x150001 ≤ 20 then (some (x150002 == 0)) else (some false)) else (some false)) else (if x150000 = 3 then (if x3 = true then ((impl_isDirection.f x150002).bind fun t150 => (some t150)) else (some false)) else (if x150000 = 5 then (if x3 = true then (some (x150002 == 0)) else (some false)) else (if x150000 = 2 then (if x150001 = 0 then (some (x150002 == 0)) else (some false)) else (if x150000 = 4 then (if x150001 = 0 then (some (x150002 == 0)) else (some false)) else (if x150000 = 6 then (if x150001 = 0 then (some (x150002 == 0)) else (some false)) else (some false))))))
def impl_ActOk.f (k : Nat) (a0_0 : Int) (a0_1 : Int) (a0_2 : Int) : Option (Bool) := if a0_1 ≥ 0 then (impl_ActOk.j0 k (decide (a0_1 < 6)) a0_0 a0_1 a0_2) else (impl_ActOk.j0 k false a0_0 a0_1 a0_2)
theorem impl_ActOk.mono_l : ∀ k, (∀ y0 y1 y2 y3, LeO (impl_ActOk.j0 k y0 y1 y2 y3) (impl_ActOk.j0 (k + 1) y0 y1 y2 y3))
  | 0 => fun _ _ _ _ r h => by simp [impl_ActOk.j0] at h
  | k + 1 => by
    have ih0 := impl_ActOk.mono_l k
    · intro y0 y1 y2 y3
      unfold impl_ActOk.j0
      repeat' first
      | (with_reducible exact ih0 _ _ _ _)
      | (with_reducible exact LeO.refl _)
      | (with_reducible exact LeO.none _)
      | (with_reducible refine LeO.ite ?_ ?_)
      | (with_reducible refine LeO.bind ?_ (fun _ => ?_))
      | exact ih0 _ _ _ _
      | exact LeO.none _
      | refine LeO.ite ?_ ?_
      | refine LeO.bind ?_ (fun _ => ?_)
theorem impl_ActOk.mono : ∀ a0 a1 a2 k, LeO (impl_ActOk.f k a0 a1 a2) (impl_ActOk.f (k + 1) a0 a1 a2) := by
  intro a0 a1 a2 k
  have ih0 := impl_ActOk.mono_l k
  unfold impl_ActOk.f
  repeat' first
      | (with_reducible exact ih0 _ _ _ _)
      | (with_reducible exact LeO.refl _)
      | (with_reducible exact LeO.none _)
      | (with_reducible refine LeO.ite ?_ ?_)
      | (with_reducible refine LeO.bind ?_ (fun _ => ?_))
      | exact ih0 _ _ _ _
      | exact LeO.none _
      | refine LeO.ite ?_ ?_
      | refine LeO.bind ?_ (fun _ => ?_)
end Go.Proofs.YtdjdleldocfpaaaDoor.F
end

section
namespace Go.Proofs.YtdjdleldocfpaaaDoor.F
open Go.RowKit Go.Proofs.YtdjdleldocfpaaaDoorW.PrintWords Go.Proofs.YtdjdleldocfpaaaDoorW.PrintLast Go.Proofs.YtdjdleldocfpaaaDoorW.PrintMore
set_option linter.unusedVariables false
set_option linter.unusedSimpArgs false
def impl_FormatAct.l0 : Nat → ByteArray → List Int → Int → Int → Option (ByteArray × Bool)
  | 0, _, _, _, _ => none
  | k + 1, x4, x23, x24, x25 => if x25 < x24 then (if 0 ≤ x25 then (if x25 < (x23.length : Int) then ((impl_FormatInt.f (rd x23 x25)).bind fun t183 => (if 1 + t183.size ≤ 9223372036854775807 then (if x4.size + ((⟨#[32]⟩ : ByteArray) ++ t183).size ≤ 9223372036854775807 then (impl_FormatAct.l0 k (x4 ++ ((⟨#[32]⟩ : ByteArray) ++ t183)) x23 x24 (wrap64 (x25 + 1))) else (none)) else (none))) else (none)) else (none)) else (some (x4, true))
def impl_FormatAct.f (k : Nat) (a0_0 : Int) (a0_1 : Int) (a0_2 : Int) : Option (ByteArray × Bool) := (impl_ActOk.f k a0_0 a0_1 a0_2).bind fun t172 => (if t172 = true then ((impl_wordOf.f a0_0).bind fun bt173 => ((some (([a0_1, a0_2] : List Int) : List Int)).bind fun y175 => (if 0 ≤ bt173.2 then (if bt173.2 ≤ (y175.length : Int) then ((some (y175.take (bt173.2 : Int).toNat : List Int)).bind fun y178 => (impl_FormatAct.l0 k bt173.1 y178 (y178.length : Int) 0)) else (none)) else (none)))) else (some ((⟨#[]⟩ : ByteArray), false)))
theorem impl_FormatAct.mono_l : ∀ k, (∀ y0 y1 y2 y3, LeO (impl_FormatAct.l0 k y0 y1 y2 y3) (impl_FormatAct.l0 (k + 1) y0 y1 y2 y3))
  | 0 => fun _ _ _ _ r h => by simp [impl_FormatAct.l0] at h
  | k + 1 => by
    have ih0 := impl_FormatAct.mono_l k
    · intro y0 y1 y2 y3
      unfold impl_FormatAct.l0
      repeat' first
      | (with_reducible exact ih0 _ _ _ _)
      | (with_reducible exact impl_ActOk.mono _ _ _ _)
      | (with_reducible exact LeO.refl _)
      | (with_reducible exact LeO.none _)
      | (with_reducible refine LeO.ite ?_ ?_)
      | (with_reducible refine LeO.bind ?_ (fun _ => ?_))
      | exact ih0 _ _ _ _
      | exact impl_ActOk.mono _ _ _ _
      | exact LeO.none _
      | refine LeO.ite ?_ ?_
      | refine LeO.bind ?_ (fun _ => ?_)
theorem impl_FormatAct.mono : ∀ a0 a1 a2 k, LeO (impl_FormatAct.f k a0 a1 a2) (impl_FormatAct.f (k + 1) a0 a1 a2) := by
  intro a0 a1 a2 k
  have ih0 := impl_FormatAct.mono_l k
  unfold impl_FormatAct.f
  repeat' first
      | (with_reducible exact ih0 _ _ _ _)
      | (with_reducible exact impl_ActOk.mono _ _ _ _)
      | (with_reducible exact LeO.refl _)
      | (with_reducible exact LeO.none _)
      | (with_reducible refine LeO.ite ?_ ?_)
      | (with_reducible refine LeO.bind ?_ (fun _ => ?_))
      | exact ih0 _ _ _ _
      | exact impl_ActOk.mono _ _ _ _
      | exact LeO.none _
      | refine LeO.ite ?_ ?_
      | refine LeO.bind ?_ (fun _ => ?_)
end Go.Proofs.YtdjdleldocfpaaaDoor.F
end

section
namespace Go.Proofs.YtdjdleldocfpaaaDoor.F
open Go.RowKit Go.Proofs.YtdjdleldocfpaaaDoorW.PrintWords Go.Proofs.YtdjdleldocfpaaaDoorW.PrintLast Go.Proofs.YtdjdleldocfpaaaDoorW.PrintMore
set_option linter.unusedVariables false
set_option linter.unusedSimpArgs false
def spec_ActOk.j0 : Nat → Int → Bool → Int → Int → Int → Option (Bool)
  | 0, _, _, _, _, _ => none
  | k + 1, x4, x5, x102000, x102001, x102002 => if x5 = true then (if x102001 = 0 then (some (x102002 == 0)) else (some false)) else (if x4 = 1 then ((spec_l01In.f x102001 1 20).bind fun t102 => (if t102 = true then (some (x102002 == 0)) else (some false))) else (if x4 = 3 then ((spec_l01In.f x102001 0 5).bind fun t103 => (if t103 = true then ((spec_l01In.f x102002 0 3).bind fun t104 => (some t104)) else (some false))) else (if x4 = 5 then ((spec_l01In.f x102001 0 5).bind fun t105 => (if t105 = true then (some (x102002 == 0)) else (some false))) else (some false))))
def spec_ActOk.f (k : Nat) (a0_0 : Int) (a0_1 : Int) (a0_2 : Int) : Option (Bool) := if a0_0 = 2 then (spec_ActOk.j0 k a0_0 (a0_0 == 2) a0_0 a0_1 a0_2) else (if a0_0 = 4 then (spec_ActOk.j0 k a0_0 (a0_0 == 4) a0_0 a0_1 a0_2) else (spec_ActOk.j0 k a0_0 (a0_0 == 6) a0_0 a0_1 a0_2))
theorem spec_ActOk.mono_l : ∀ k, (∀ y0 y1 y2 y3 y4, LeO (spec_ActOk.j0 k y0 y1 y2 y3 y4) (spec_ActOk.j0 (k + 1) y0 y1 y2 y3 y4))
  | 0 => fun _ _ _ _ _ r h => by simp [spec_ActOk.j0] at h
  | k + 1 => by
    have ih0 := spec_ActOk.mono_l k
    · intro y0 y1 y2 y3 y4
      unfold spec_ActOk.j0
      repeat' first
      | (with_reducible exact ih0 _ _ _ _ _)
      | (with_reducible exact LeO.refl _)
      | (with_reducible exact LeO.none _)
      | (with_reducible refine LeO.ite ?_ ?_)
      | (with_reducible refine LeO.bind ?_ (fun _ => ?_))
      | exact ih0 _ _ _ _ _
      | exact LeO.none _
      | refine LeO.ite ?_ ?_
      | refine LeO.bind ?_ (fun _ => ?_)
theorem spec_ActOk.mono : ∀ a0 a1 a2 k, LeO (spec_ActOk.f k a0 a1 a2) (spec_ActOk.f (k + 1) a0 a1 a2) := by
  intro a0 a1 a2 k
  have ih0 := spec_ActOk.mono_l k
  unfold spec_ActOk.f
  repeat' first
      | (with_reducible exact ih0 _ _ _ _ _)
      | (with_reducible exact LeO.refl _)
      | (with_reducible exact LeO.none _)
      | (with_reducible refine LeO.ite ?_ ?_)
      | (with_reducible refine LeO.bind ?_ (fun _ => ?_))
      | exact ih0 _ _ _ _ _
      | exact LeO.none _
      | refine LeO.ite ?_ ?_
      | refine LeO.bind ?_ (fun _ => ?_)
def spec_l01Figure.f (a0 : Int) : Option (Int) := if a0 < 10 then (some ((wrap64 (48 + a0)) % 256)) else (some ((wrap64 ((wrap64 (97 + a0)) - 10)) % 256))
def spec_FormatInt.l0 : Nat → Int → Bool → ByteArray → Option (ByteArray)
  | 0, _, _, _ => none
  | k + 1, x0, x3, x4 => if x0 = 0 then (if x3 = true then (if 1 + x4.size ≤ 9223372036854775807 then (some ((⟨#[45]⟩ : ByteArray) ++ x4)) else (none)) else (some x4)) else (if (Int.tmod x0 10) < 0 then ((spec_l01Figure.f (wrap64 (-(Int.tmod x0 10)))).bind fun t106 => ((some (([t106] : List Int) : List Int)).bind fun y107 => (if (strOfNums y107).size + x4.size ≤ 9223372036854775807 then (spec_FormatInt.l0 k (wrap64 (Int.tdiv x0 10)) x3 ((strOfNums y107) ++ x4)) else (none)))) else ((spec_l01Figure.f (Int.tmod x0 10)).bind fun t110 => ((some (([t110] : List Int) : List Int)).bind fun y111 => (if (strOfNums y111).size + x4.size ≤ 9223372036854775807 then (spec_FormatInt.l0 k (wrap64 (Int.tdiv x0 10)) x3 ((strOfNums y111) ++ x4)) else (none)))))
def spec_FormatInt.f (k : Nat) (a0 : Int) : Option (ByteArray) := if a0 = 0 then (some (⟨#[48]⟩ : ByteArray)) else (spec_FormatInt.l0 k a0 (decide (a0 < 0)) (⟨#[]⟩ : ByteArray))
theorem spec_FormatInt.mono_l : ∀ k, (∀ y0 y1 y2, LeO (spec_FormatInt.l0 k y0 y1 y2) (spec_FormatInt.l0 (k + 1) y0 y1 y2))
  | 0 => fun _ _ _ r h => by simp [spec_FormatInt.l0] at h
  | k + 1 => by
    have ih0 := spec_FormatInt.mono_l k
    · intro y0 y1 y2
      unfold spec_FormatInt.l0
      repeat' first
      | (with_reducible exact ih0 _ _ _)
      | (with_reducible exact LeO.refl _)
      | (with_reducible exact LeO.none _)
      | (with_reducible refine LeO.ite ?_ ?_)
      | (with_reducible refine LeO.bind ?_ (fun _ => ?_))
      | exact ih0 _ _ _
      | exact LeO.none _
      | refine LeO.ite ?_ ?_
      | refine LeO.bind ?_ (fun _ => ?_)
theorem spec_FormatInt.mono : ∀ a0 k, LeO (spec_FormatInt.f k a0) (spec_FormatInt.f (k + 1) a0) := by
  intro a0 k
  have ih0 := spec_FormatInt.mono_l k
  unfold spec_FormatInt.f
  repeat' first
      | (with_reducible exact ih0 _ _ _)
      | (with_reducible exact LeO.refl _)
      | (with_reducible exact LeO.none _)
      | (with_reducible refine LeO.ite ?_ ?_)
      | (with_reducible refine LeO.bind ?_ (fun _ => ?_))
      | exact ih0 _ _ _
      | exact LeO.none _
      | refine LeO.ite ?_ ?_
      | refine LeO.bind ?_ (fun _ => ?_)
def spec_FormatAct.l0 : Nat → ByteArray → Int → List Int → Int → Option (ByteArray × Bool)
  | 0, _, _, _, _ => none
  | k + 1, x4, x5, x6, x7 => if x7 < x5 then (if x4.size + 1 ≤ 9223372036854775807 then (if 0 ≤ x7 then (if x7 < (x6.length : Int) then ((spec_FormatInt.f k (rd x6 x7)).bind fun t128 => (if (x4 ++ (⟨#[32]⟩ : ByteArray)).size + t128.size ≤ 9223372036854775807 then (spec_FormatAct.l0 k ((x4 ++ (⟨#[32]⟩ : ByteArray)) ++ t128) x5 x6 (wrap64 (x7 + 1))) else (none))) else (none)) else (none)) else (none)) else (some (x4, true))
def spec_FormatAct.f (k : Nat) (a0_0 : Int) (a0_1 : Int) (a0_2 : Int) : Option (ByteArray × Bool) := (spec_ActOk.f k a0_0 a0_1 a0_2).bind fun t115 => (if t115 = true then ((some (([(⟨#[]⟩ : ByteArray), (⟨#[100, 97, 121]⟩ : ByteArray), (⟨#[101, 110, 116, 101, 114]⟩ : ByteArray), (⟨#[119, 97, 108, 107]⟩ : ByteArray), (⟨#[108, 101, 97, 118, 101]⟩ : ByteArray), (⟨#[103, 117, 105, 100, 101]⟩ : ByteArray), (⟨#[102, 97, 114]⟩ : ByteArray)] : List ByteArray) : List ByteArray)).bind fun y116 => (if 0 ≤ a0_0 then (if a0_0 < (y116.length : Int) then ((some (([0, 1, 0, 2, 0, 1, 0] : List Int) : List Int)).bind fun y120 => (if a0_0 < (y120.length : Int) then (spec_FormatAct.l0 k (rdOf ByteArray.empty y116 a0_0) (rd y120 a0_0) (([a0_1, a0_2] : List Int)) 0) else (none))) else (none)) else (none))) else (some ((⟨#[]⟩ : ByteArray), false)))
theorem spec_FormatAct.mono_l : ∀ k, (∀ y0 y1 y2 y3, LeO (spec_FormatAct.l0 k y0 y1 y2 y3) (spec_FormatAct.l0 (k + 1) y0 y1 y2 y3))
  | 0 => fun _ _ _ _ r h => by simp [spec_FormatAct.l0] at h
  | k + 1 => by
    have ih0 := spec_FormatAct.mono_l k
    · intro y0 y1 y2 y3
      unfold spec_FormatAct.l0
      repeat' first
      | (with_reducible exact ih0 _ _ _ _)
      | (with_reducible exact spec_ActOk.mono _ _ _ _)
      | (with_reducible exact spec_FormatInt.mono _ _)
      | (with_reducible exact LeO.refl _)
      | (with_reducible exact LeO.none _)
      | (with_reducible refine LeO.ite ?_ ?_)
      | (with_reducible refine LeO.bind ?_ (fun _ => ?_))
      | exact ih0 _ _ _ _
      | exact spec_ActOk.mono _ _ _ _
      | exact spec_FormatInt.mono _ _
      | exact LeO.none _
      | refine LeO.ite ?_ ?_
      | refine LeO.bind ?_ (fun _ => ?_)
theorem spec_FormatAct.mono : ∀ a0 a1 a2 k, LeO (spec_FormatAct.f k a0 a1 a2) (spec_FormatAct.f (k + 1) a0 a1 a2) := by
  intro a0 a1 a2 k
  have ih0 := spec_FormatAct.mono_l k
  unfold spec_FormatAct.f
  repeat' first
      | (with_reducible exact ih0 _ _ _ _)
      | (with_reducible exact spec_ActOk.mono _ _ _ _)
      | (with_reducible exact spec_FormatInt.mono _ _)
      | (with_reducible exact LeO.refl _)
      | (with_reducible exact LeO.none _)
      | (with_reducible refine LeO.ite ?_ ?_)
      | (with_reducible refine LeO.bind ?_ (fun _ => ?_))
      | exact ih0 _ _ _ _
      | exact spec_ActOk.mono _ _ _ _
      | exact spec_FormatInt.mono _ _
      | exact LeO.none _
      | refine LeO.ite ?_ ?_
      | refine LeO.bind ?_ (fun _ => ?_)
def laws_eqAct.f (a0_0 : Int) (a0_1 : Int) (a0_2 : Int) (a1_0 : Int) (a1_1 : Int) (a1_2 : Int) : Option (Bool) := if a0_0 = a1_0 then (if a0_1 = a1_1 then (if a0_2 = a1_2 then (some true) else (some false)) else (some false)) else (some false)
end Go.Proofs.YtdjdleldocfpaaaDoor.F
end

section
namespace Go.Proofs.YtdjdleldocfpaaaDoor.F
open Go.RowKit Go.Proofs.YtdjdleldocfpaaaDoorW.PrintWords Go.Proofs.YtdjdleldocfpaaaDoorW.PrintLast Go.Proofs.YtdjdleldocfpaaaDoorW.PrintMore
set_option linter.unusedVariables false
set_option linter.unusedSimpArgs false
mutual
def spec_SplitFields.l0 : Nat → ByteArray → List ByteArray → Int → Int → Option (List ByteArray × Bool)
  | 0, _, _, _, _ => none
  | k + 1, x0, x4, x5, x6 => if x6 ≤ (x0.size : Int) then (if x6 < (x0.size : Int) then (if 0 ≤ x6 then (if (bt x0 x6) < 32 then (spec_SplitFields.j1 k x0 x4 x5 x6 true) else (spec_SplitFields.j1 k x0 x4 x5 x6 (decide ((bt x0 x6) > 126)))) else (none)) else (spec_SplitFields.j1 k x0 x4 x5 x6 false)) else (if (x4.length : Int) > 24 then (some ((([] : List ByteArray)), false)) else (some (x4, true)))
def spec_SplitFields.j1 : Nat → ByteArray → List ByteArray → Int → Int → Bool → Option (List ByteArray × Bool)
  | 0, _, _, _, _, _ => none
  | k + 1, x0, x4, x5, x6, x33 => if x33 = true then (some ((([] : List ByteArray)), false)) else (if x6 < (x0.size : Int) then (if 0 ≤ x6 then (spec_SplitFields.j2 k x0 x4 x5 x6 ((bt x0 x6) != 32)) else (none)) else (spec_SplitFields.j2 k x0 x4 x5 x6 false))
def spec_SplitFields.j2 : Nat → ByteArray → List ByteArray → Int → Int → Bool → Option (List ByteArray × Bool)
  | 0, _, _, _, _, _ => none
  | k + 1, x0, x4, x5, x6, x44 => if x44 = true then (spec_SplitFields.l0 k x0 x4 x5 (wrap64 (x6 + 1))) else (if x5 < x6 then (if 0 ≤ x5 then (if x5 ≤ x6 then (if x6 ≤ (x0.size : Int) then (if x4.length < 8796093022208 then (spec_SplitFields.l0 k x0 (x4 ++ [x0.extract (x5 : Int).toNat (x6 : Int).toNat]) (wrap64 (x6 + 1)) (wrap64 (x6 + 1))) else (none)) else (none)) else (none)) else (none)) else (spec_SplitFields.l0 k x0 x4 (wrap64 (x6 + 1)) (wrap64 (x6 + 1))))
end
def spec_SplitFields.f (k : Nat) (a0 : ByteArray) : Option (List ByteArray × Bool) := (some (([] : List ByteArray) : List ByteArray)).bind fun y208 => (if (a0.size : Int) > 600 then (some (y208, false)) else (spec_SplitFields.l0 k a0 y208 0 0))
def spec_ParseUint.l0 : Nat → ByteArray → Int → Int → Option (Int × Bool)
  | 0, _, _, _ => none
  | k + 1, x0, x4, x5 => if x5 < (x0.size : Int) then (if 0 ≤ x5 then (if (bt x0 x5) < 48 then (some (0, false)) else (if (bt x0 x5) > 57 then (some (0, false)) else (spec_ParseUint.l0 k x0 (wrap64 ((wrap64 ((wrap64 (10 * x4)) + (wrap64 (bt x0 x5)))) - 48)) (wrap64 (x5 + 1))))) else (none)) else (if x4 > 1000000000 then (some (0, false)) else ((spec_FormatInt.f k x4).bind fun t220 => (if t220.toList = x0.toList then (some (x4, true)) else (some (0, false)))))
def spec_ParseUint.f (k : Nat) (a0 : ByteArray) : Option (Int × Bool) := if (a0.size : Int) > 10 then (some (0, false)) else (spec_ParseUint.l0 k a0 0 0)
theorem spec_ParseUint.mono_l : ∀ k, (∀ y0 y1 y2, LeO (spec_ParseUint.l0 k y0 y1 y2) (spec_ParseUint.l0 (k + 1) y0 y1 y2))
  | 0 => fun _ _ _ r h => by simp [spec_ParseUint.l0] at h
  | k + 1 => by
    have ih0 := spec_ParseUint.mono_l k
    · intro y0 y1 y2
      unfold spec_ParseUint.l0
      repeat' first
      | (with_reducible exact ih0 _ _ _)
      | (with_reducible exact spec_FormatInt.mono _ _)
      | (with_reducible exact LeO.refl _)
      | (with_reducible exact LeO.none _)
      | (with_reducible refine LeO.ite ?_ ?_)
      | (with_reducible refine LeO.bind ?_ (fun _ => ?_))
      | exact ih0 _ _ _
      | exact spec_FormatInt.mono _ _
      | exact LeO.none _
      | refine LeO.ite ?_ ?_
      | refine LeO.bind ?_ (fun _ => ?_)
theorem spec_ParseUint.mono : ∀ a0 k, LeO (spec_ParseUint.f k a0) (spec_ParseUint.f (k + 1) a0) := by
  intro a0 k
  have ih0 := spec_ParseUint.mono_l k
  unfold spec_ParseUint.f
  repeat' first
      | (with_reducible exact ih0 _ _ _)
      | (with_reducible exact spec_FormatInt.mono _ _)
      | (with_reducible exact LeO.refl _)
      | (with_reducible exact LeO.none _)
      | (with_reducible refine LeO.ite ?_ ?_)
      | (with_reducible refine LeO.bind ?_ (fun _ => ?_))
      | exact ih0 _ _ _
      | exact spec_FormatInt.mono _ _
      | exact LeO.none _
      | refine LeO.ite ?_ ?_
      | refine LeO.bind ?_ (fun _ => ?_)
def spec_l40Number.j0 : Nat → ByteArray → Bool → Option (Int)
  | 0, _, _ => none
  | k + 1, x0, x14 => if x14 = true then (if 1 ≤ (x0.size : Int) then ((spec_ParseUint.f k (x0.extract 1 x0.size)).bind fun bt221 => (some (wrap64 (-bt221.1)))) else (none)) else ((spec_ParseUint.f k x0).bind fun bt223 => (some bt223.1))
def spec_l40Number.f (k : Nat) (a0 : ByteArray) : Option (Int) := if (a0.size : Int) > 1 then (if 0 < (a0.size : Int) then (spec_l40Number.j0 k a0 ((bt a0 0) == 45)) else (none)) else (spec_l40Number.j0 k a0 false)
theorem spec_l40Number.mono_l : ∀ k, (∀ y0 y1, LeO (spec_l40Number.j0 k y0 y1) (spec_l40Number.j0 (k + 1) y0 y1))
  | 0 => fun _ _ r h => by simp [spec_l40Number.j0] at h
  | k + 1 => by
    have ih0 := spec_l40Number.mono_l k
    · intro y0 y1
      unfold spec_l40Number.j0
      repeat' first
      | (with_reducible exact ih0 _ _)
      | (with_reducible exact spec_ParseUint.mono _ _)
      | (with_reducible exact LeO.refl _)
      | (with_reducible exact LeO.none _)
      | (with_reducible refine LeO.ite ?_ ?_)
      | (with_reducible refine LeO.bind ?_ (fun _ => ?_))
      | exact ih0 _ _
      | exact spec_ParseUint.mono _ _
      | exact LeO.none _
      | refine LeO.ite ?_ ?_
      | refine LeO.bind ?_ (fun _ => ?_)
theorem spec_l40Number.mono : ∀ a0 k, LeO (spec_l40Number.f k a0) (spec_l40Number.f (k + 1) a0) := by
  intro a0 k
  have ih0 := spec_l40Number.mono_l k
  unfold spec_l40Number.f
  repeat' first
      | (with_reducible exact ih0 _ _)
      | (with_reducible exact spec_ParseUint.mono _ _)
      | (with_reducible exact LeO.refl _)
      | (with_reducible exact LeO.none _)
      | (with_reducible refine LeO.ite ?_ ?_)
      | (with_reducible refine LeO.bind ?_ (fun _ => ?_))
      | exact ih0 _ _
      | exact spec_ParseUint.mono _ _
      | exact LeO.none _
      | refine LeO.ite ?_ ?_
      | refine LeO.bind ?_ (fun _ => ?_)
mutual
def spec_ParseAct.j0 : Nat → List ByteArray → Bool → Option (Int × Int × Int × Bool)
  | 0, _, _ => none
  | k + 1, x4, x25 => if x25 = true then (some (0, 0, 0, false)) else (if 0 < (x4.length : Int) then (spec_ParseAct.l0 k x4 (rdOf ByteArray.empty x4 0) (([] : List Int)) 1) else (none))
def spec_ParseAct.l0 : Nat → List ByteArray → ByteArray → List Int → Int → Option (Int × Int × Int × Bool)
  | 0, _, _, _, _ => none
  | k + 1, x4, x6, x7, x8 => if x8 < (x4.length : Int) then (if x6.size + 1 ≤ 9223372036854775807 then (if 0 ≤ x8 then (if (x6 ++ (⟨#[32]⟩ : ByteArray)).size + (rdOf ByteArray.empty x4 x8).size ≤ 9223372036854775807 then ((spec_l40Number.f k (rdOf ByteArray.empty x4 x8)).bind fun t237 => (if x7.length < 17592186044416 then (spec_ParseAct.l0 k x4 ((x6 ++ (⟨#[32]⟩ : ByteArray)) ++ (rdOf ByteArray.empty x4 x8)) (x7 ++ [t237]) (wrap64 (x8 + 1))) else (none))) else (none)) else (none)) else (none)) else ((some (([0, 0] : List Int) : List Int)).bind fun y241 => (if x7.length + y241.length < 17592186044416 then (spec_ParseAct.l1 k x6 (x7 ++ y241) 1) else (none)))
def spec_ParseAct.l1 : Nat → ByteArray → List Int → Int → Option (Int × Int × Int × Bool)
  | 0, _, _, _ => none
  | k + 1, x6, x7, x9 => if x9 ≤ 6 then (if 0 < (x7.length : Int) then (if 1 < (x7.length : Int) then ((spec_FormatAct.f k x9 (rd x7 0) (rd x7 1)).bind fun bt250 => (if bt250.2 = true then (if bt250.1.toList = x6.toList then (some (x9, rd x7 0, rd x7 1, true)) else (spec_ParseAct.l1 k x6 x7 (wrap64 (x9 + 1)))) else (spec_ParseAct.l1 k x6 x7 (wrap64 (x9 + 1))))) else (none)) else (none)) else (some (0, 0, 0, false))
end
def spec_ParseAct.f (k : Nat) (a0 : ByteArray) : Option (Int × Int × Int × Bool) := (spec_SplitFields.f k a0).bind fun bt226 => (if bt226.2 = true then ((spec_l01In.f (bt226.1.length : Int) 1 3).bind fun t230 => (spec_ParseAct.j0 k bt226.1 (!t230))) else (spec_ParseAct.j0 k bt226.1 true))
theorem spec_ParseAct.mono_l : ∀ k, (∀ y0 y1, LeO (spec_ParseAct.j0 k y0 y1) (spec_ParseAct.j0 (k + 1) y0 y1)) ∧ (∀ y0 y1 y2 y3, LeO (spec_ParseAct.l0 k y0 y1 y2 y3) (spec_ParseAct.l0 (k + 1) y0 y1 y2 y3)) ∧ (∀ y0 y1 y2, LeO (spec_ParseAct.l1 k y0 y1 y2) (spec_ParseAct.l1 (k + 1) y0 y1 y2))
  | 0 => ⟨fun _ _ r h => by simp [spec_ParseAct.j0] at h, fun _ _ _ _ r h => by simp [spec_ParseAct.l0] at h, fun _ _ _ r h => by simp [spec_ParseAct.l1] at h⟩
  | k + 1 => by
    obtain ⟨ih0, ih1, ih2⟩ := spec_ParseAct.mono_l k
    refine ⟨?_, ?_, ?_⟩
    · intro y0 y1
      unfold spec_ParseAct.j0
      repeat' first
      | (with_reducible exact ih0 _ _)
      | (with_reducible exact ih1 _ _ _ _)
      | (with_reducible exact ih2 _ _ _)
      | (with_reducible exact spec_FormatAct.mono _ _ _ _)
      | (with_reducible exact spec_SplitFields.mono _ _)
      | (with_reducible exact spec_l40Number.mono _ _)
      | (with_reducible exact LeO.refl _)
      | (with_reducible exact LeO.none _)
      | (with_reducible refine LeO.ite ?_ ?_)
      | (with_reducible refine LeO.bind ?_ (fun _ => ?_))
      | exact ih0 _ _
      | exact ih1 _ _ _ _
      | exact ih2 _ _ _
      | exact spec_FormatAct.mono _ _ _ _
      | exact spec_SplitFields.mono _ _
      | exact spec_l40Number.mono _ _
      | exact LeO.none _
      | refine LeO.ite ?_ ?_
      | refine LeO.bind ?_ (fun _ => ?_)
    · intro y0 y1 y2 y3
      unfold spec_ParseAct.l0
      repeat' first
      | (with_reducible exact ih0 _ _)
      | (with_reducible exact ih1 _ _ _ _)
      | (with_reducible exact ih2 _ _ _)
      | (with_reducible exact spec_FormatAct.mono _ _ _ _)
      | (with_reducible exact spec_SplitFields.mono _ _)
      | (with_reducible exact spec_l40Number.mono _ _)
      | (with_reducible exact LeO.refl _)
      | (with_reducible exact LeO.none _)
      | (with_reducible refine LeO.ite ?_ ?_)
      | (with_reducible refine LeO.bind ?_ (fun _ => ?_))
      | exact ih0 _ _
      | exact ih1 _ _ _ _
      | exact ih2 _ _ _
      | exact spec_FormatAct.mono _ _ _ _
      | exact spec_SplitFields.mono _ _
      | exact spec_l40Number.mono _ _
      | exact LeO.none _
      | refine LeO.ite ?_ ?_
      | refine LeO.bind ?_ (fun _ => ?_)
    · intro y0 y1 y2
      unfold spec_ParseAct.l1
      repeat' first
      | (with_reducible exact ih0 _ _)
      | (with_reducible exact ih1 _ _ _ _)
      | (with_reducible exact ih2 _ _ _)
      | (with_reducible exact spec_FormatAct.mono _ _ _ _)
      | (with_reducible exact spec_SplitFields.mono _ _)
      | (with_reducible exact spec_l40Number.mono _ _)
      | (with_reducible exact LeO.refl _)
      | (with_reducible exact LeO.none _)
      | (with_reducible refine LeO.ite ?_ ?_)
      | (with_reducible refine LeO.bind ?_ (fun _ => ?_))
      | exact ih0 _ _
      | exact ih1 _ _ _ _
      | exact ih2 _ _ _
      | exact spec_FormatAct.mono _ _ _ _
      | exact spec_SplitFields.mono _ _
      | exact spec_l40Number.mono _ _
      | exact LeO.none _
      | refine LeO.ite ?_ ?_
      | refine LeO.bind ?_ (fun _ => ?_)
end Go.Proofs.YtdjdleldocfpaaaDoor.F
end

section
namespace Go.Proofs.YtdjdleldocfpaaaDoor.F
open Go.RowKit Go.Proofs.YtdjdleldocfpaaaDoorW.PrintWords Go.Proofs.YtdjdleldocfpaaaDoorW.PrintLast Go.Proofs.YtdjdleldocfpaaaDoorW.PrintMore
set_option linter.unusedVariables false
set_option linter.unusedSimpArgs false
mutual
def impl_SplitFields.l0 : Nat → ByteArray → List ByteArray → Int → Int → Option (List ByteArray × Bool)
  | 0, _, _, _, _ => none
  | k + 1, x0, x4, x5, x6 => if x6 ≤ (x0.size : Int) then (if x6 < (x0.size : Int) then (if 0 ≤ x6 then (if (bt x0 x6) < 32 then (impl_SplitFields.j1 k x0 x4 x5 x6 true) else (impl_SplitFields.j1 k x0 x4 x5 x6 (decide ((bt x0 x6) > 126)))) else (none)) else (impl_SplitFields.j1 k x0 x4 x5 x6 false)) else (if (x4.length : Int) > 24 then (some (([] : List ByteArray), false)) else (some (x4, true)))
def impl_SplitFields.j1 : Nat → ByteArray → List ByteArray → Int → Int → Bool → Option (List ByteArray × Bool)
  | 0, _, _, _, _, _ => none
  | k + 1, x0, x4, x5, x6, x31 => if x31 = true then (some (([] : List ByteArray), false)) else (if x6 < (x0.size : Int) then (if 0 ≤ x6 then (impl_SplitFields.j2 k x0 x4 x5 x6 ((bt x0 x6) != 32)) else (none)) else (impl_SplitFields.j2 k x0 x4 x5 x6 false))
def impl_SplitFields.j2 : Nat → ByteArray → List ByteArray → Int → Int → Bool → Option (List ByteArray × Bool)
  | 0, _, _, _, _, _ => none
  | k + 1, x0, x4, x5, x6, x41 => if x41 = true then (impl_SplitFields.l0 k x0 x4 x5 (wrap64 (x6 + 1))) else (if x6 > x5 then (if 0 ≤ x5 then (if x5 ≤ x6 then (if x6 ≤ (x0.size : Int) then (if x4.length < 8796093022208 then (impl_SplitFields.l0 k x0 (x4 ++ [x0.extract (x5 : Int).toNat (x6 : Int).toNat]) (wrap64 (x6 + 1)) (wrap64 (x6 + 1))) else (none)) else (none)) else (none)) else (none)) else (impl_SplitFields.l0 k x0 x4 (wrap64 (x6 + 1)) (wrap64 (x6 + 1))))
end
def impl_SplitFields.f (k : Nat) (a0 : ByteArray) : Option (List ByteArray × Bool) := if (a0.size : Int) > 600 then (some (([] : List ByteArray), false)) else (impl_SplitFields.l0 k a0 ([] : List ByteArray) 0 0)
def impl_signed.f (a0 : ByteArray) (a1 : Int) (a2 : Int) : Option (Int × Bool) := if a0.size ≤ 281474976710656 then (match Go.Lib.atoiAll a0.data.toList with | .ok v => (if v < a1 then some (0, false) else if v > a2 then some (0, false) else (impl_FormatInt.f v).bind fun t => if t.toList = a0.toList then some (v, true) else some (0, false)) | _ => some (0, false)) else none
def impl_ParseUint.f (a0 : ByteArray) : Option (Int × Bool) := (impl_signed.f a0 0 1000000000).bind fun bt270 => (some (bt270.1, bt270.2))
mutual
def impl_ParseAct.l0 : Nat → List ByteArray → Int → Option (Int × Int × Int × Bool)
  | 0, _, _ => none
  | k + 1, x4, x6 => if x6 ≤ 6 then ((impl_wordOf.f x6).bind fun t => (if 0 < (x4.length : Int) then (if (t.1).toList = (rdOf ByteArray.empty x4 0).toList then (if (x4.length : Int) = (wrap64 (t.2 + 1)) then (if 1 ≤ (x4.length : Int) then (impl_ParseAct.l1 k x4 x6 (x4.drop 1) ((x4.drop 1).length : Int) 0 0 0) else none) else (impl_ParseAct.l0 k x4 (wrap64 (x6 + 1)))) else (impl_ParseAct.l0 k x4 (wrap64 (x6 + 1)))) else none)) else some (0, 0, 0, false)
def impl_ParseAct.l1 : Nat → List ByteArray → Int → List ByteArray → Int → Int → Int → Int → Option (Int × Int × Int × Bool)
  | 0, _, _, _, _, _, _, _ => none
  | k + 1, x4, x6, x48, x49, x50, x9000, x9001 => if x50 < x49 then (if 0 ≤ x50 then (if x50 < (x48.length : Int) then ((impl_ParseUint.f (rdOf ByteArray.empty x4 (x50 + 1))).bind fun t => (if x50 = 0 then (if t.2 = true then (impl_ParseAct.l1 k x4 x6 x48 x49 (wrap64 (0 + 1)) t.1 x9001) else some (0, 0, 0, false)) else (if x50 = 1 then (if t.2 = true then (impl_ParseAct.l1 k x4 x6 x48 x49 (wrap64 (1 + 1)) x9000 t.1) else some (0, 0, 0, false)) else none))) else none) else none) else ((impl_ActOk.f k x6 x9000 x9001).bind fun t => (if t = true then some (x6, x9000, x9001, true) else (impl_ParseAct.l0 k x4 (wrap64 (x6 + 1)))))
end
def impl_ParseAct.f (k : Nat) (a0 : ByteArray) : Option (Int × Int × Int × Bool) := (impl_SplitFields.f k a0).bind fun t => (if t.2 = true then (if (t.1.length : Int) = 0 then some (0, 0, 0, false) else (impl_ParseAct.l0 k t.1 1)) else some (0, 0, 0, false))
theorem impl_ParseAct.mono_l : ∀ k, (∀ y0 y1, LeO (impl_ParseAct.l0 k y0 y1) (impl_ParseAct.l0 (k + 1) y0 y1)) ∧ (∀ y0 y1 y2 y3 y4 y5 y6, LeO (impl_ParseAct.l1 k y0 y1 y2 y3 y4 y5 y6) (impl_ParseAct.l1 (k + 1) y0 y1 y2 y3 y4 y5 y6))
  | 0 => ⟨fun _ _ r h => by simp [impl_ParseAct.l0] at h, fun _ _ _ _ _ _ _ r h => by simp [impl_ParseAct.l1] at h⟩
  | k + 1 => by
    obtain ⟨ih0, ih1⟩ := impl_ParseAct.mono_l k
    refine ⟨?_, ?_⟩
    · intro y0 y1
      unfold impl_ParseAct.l0
      repeat' first
      | (with_reducible exact ih0 _ _)
      | (with_reducible exact ih1 _ _ _ _ _ _ _)
      | (with_reducible exact impl_ActOk.mono _ _ _ _)
      | (with_reducible exact impl_SplitFields.mono _ _)
      | (with_reducible exact LeO.refl _)
      | (with_reducible exact LeO.none _)
      | (with_reducible refine LeO.ite ?_ ?_)
      | (with_reducible refine LeO.bind ?_ (fun _ => ?_))
      | exact LeO.refl _
    · intro y0 y1 y2 y3 y4 y5 y6
      unfold impl_ParseAct.l1
      repeat' first
      | (with_reducible exact ih0 _ _)
      | (with_reducible exact ih1 _ _ _ _ _ _ _)
      | (with_reducible exact impl_ActOk.mono _ _ _ _)
      | (with_reducible exact impl_SplitFields.mono _ _)
      | (with_reducible exact LeO.refl _)
      | (with_reducible exact LeO.none _)
      | (with_reducible refine LeO.ite ?_ ?_)
      | (with_reducible refine LeO.bind ?_ (fun _ => ?_))
      | exact LeO.refl _
end Go.Proofs.YtdjdleldocfpaaaDoor.F
end
