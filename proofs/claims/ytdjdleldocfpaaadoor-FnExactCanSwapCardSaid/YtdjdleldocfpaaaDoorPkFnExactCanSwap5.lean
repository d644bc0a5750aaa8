/- Packed by a program of the session (wip/tools/pack.py): what the claim's theorem reaches, of the texts that wip/ and the kit's printer lay. -/
import Derived.Test.YtdjdleldocfpaaaDoorPkFnExactCanSwap4
import Derived.Lib.QuietBelow
import Derived.Deep.OwnRows
section
namespace Go.Proofs.YtdjdleldocfpaaaDoor.F
open Go.RowKit Go.Proofs.YtdjdleldocfpaaaDoorW.PrintWords Go.Proofs.YtdjdleldocfpaaaDoorW.PrintLast Go.Proofs.YtdjdleldocfpaaaDoorW.PrintMore
set_option linter.unusedVariables false
set_option linter.unusedSimpArgs false
theorem RepL_len {B : Nat} {w : World} {φ : Nat → Value} : ∀ {t : List AV} {l : List Value}, RepL B w φ t l → t.length = l.length
  | [], l, h => by simp only [RepL] at h; subst h; rfl
  | c :: cs, l, h => by
    simp only [RepL] at h
    obtain ⟨y, ys, rfl, _, h2⟩ := h
    simp [RepL_len h2]
theorem RepL_get {B : Nat} {w : World} {φ : Nat → Value} : ∀ {t : List AV} {l : List Value} (i : Nat), RepL B w φ t l → Rep B w φ (gT t i) (l.getD i undef)
  | [], l, i, h => by simp only [gT, Rep]
  | c :: cs, l, 0, h => by
    simp only [RepL] at h
    obtain ⟨y, ys, rfl, h1, h2⟩ := h
    exact h1
  | c :: cs, l, i + 1, h => by
    simp only [RepL] at h
    obtain ⟨y, ys, rfl, h1, h2⟩ := h
    simp only [gT]
    exact RepL_get i h2
theorem RepL_set {B : Nat} {w : World} {φ : Nat → Value} {y : AV} {v : Value} (hv : Rep B w φ y v) : ∀ {t : List AV} {l : List Value} (d : Nat), RepL B w φ t l → RepL B w φ (sT t d y) (l.set d v)
  | [], l, d, h => by simp only [RepL] at h; subst h; simp [sT, RepL]
  | c :: cs, l, 0, h => by
    simp only [RepL] at h
    obtain ⟨z, zs, rfl, h1, h2⟩ := h
    simp only [sT, List.set_cons_zero, RepL]
    exact ⟨v, zs, rfl, hv, h2⟩
  | c :: cs, l, d + 1, h => by
    simp only [RepL] at h
    obtain ⟨z, zs, rfl, h1, h2⟩ := h
    simp only [sT, List.set_cons_succ, RepL]
    exact ⟨z, _, rfl, h1, RepL_set hv d h2⟩
theorem RepL_drop {B : Nat} {w : World} {φ : Nat → Value} : ∀ {t : List AV} {l : List Value} (n : Nat), RepL B w φ t l → RepL B w φ (dp n t) (l.drop n)
  | t, l, 0, h => by cases t <;> exact h
  | [], l, n + 1, h => by simp only [RepL] at h; subst h; simp [dp, RepL]
  | c :: cs, l, n + 1, h => by
    simp only [RepL] at h
    obtain ⟨z, zs, rfl, h1, h2⟩ := h
    simp only [dp, List.drop_succ_cons]
    exact RepL_drop n h2
theorem RepL_take {B : Nat} {w : World} {φ : Nat → Value} : ∀ {t : List AV} {l : List Value} (n : Nat), RepL B w φ t l → RepL B w φ (tk n t) (l.take n)
  | t, l, 0, h => by cases t <;> simp [tk, RepL]
  | [], l, n + 1, h => by simp only [RepL] at h; subst h; simp [tk, RepL]
  | c :: cs, l, n + 1, h => by
    simp only [RepL] at h
    obtain ⟨z, zs, rfl, h1, h2⟩ := h
    simp only [tk, List.take_succ_cons, RepL]
    exact ⟨z, _, rfl, h1, RepL_take n h2⟩
theorem RepL_vs {B : Nat} {w : World} {φ : Nat → Value} : ∀ (l : List Value), RepL B w φ (vs l) l
  | [] => by simp [vs, RepL]
  | x :: l => by simp only [vs, RepL]; exact ⟨x, l, rfl, by simp [Rep], RepL_vs l⟩
mutual
theorem Rep_frD {B : Nat} {w : World} {φ ψ : Nat → Value} {D : Nat → Prop} (hψ : ∀ i, ¬ D i → ψ i = φ i) : ∀ {x : AV} {y : Value}, (∀ j, D j → AV.fr j x = true) → Rep B w φ x y → Rep B w ψ x y
  | .u, _, _, _ => by simp [Rep]
  | .v _, _, _, h => by simpa [Rep] using h
  | .pr _ _, _, _, h => by simpa [Rep] using h
  | .pe _, _, _, h => by simpa [Rep] using h
  | .ow _ _ _, _, _, h => by simp [Rep] at h
  | .lo i, y, hf, h => by
    have hi : ¬ D i := fun hd => by have := hf i hd; simp [AV.fr] at this
    simp only [Rep] at h ⊢
    rw [hψ i hi]; exact h
  | .bp i o, y, hf, h => by
    have hi : ¬ D i := fun hd => by have := hf i hd; simp [AV.fr] at this
    simp only [Rep] at h ⊢
    rw [hψ i hi]; exact h
  | .le i z n o, y, hf, h => by
    have hi : ¬ D i := fun hd => by have := hf i hd; simp [AV.fr] at this
    simp only [Rep] at h ⊢
    rw [hψ i hi]; exact h
  | .vw i z a b, y, hf, h => by
    have hi : ¬ D i := fun hd => by have := hf i hd; simp [AV.fr] at this
    simp only [Rep] at h ⊢
    rw [hψ i hi]; exact h
  | .ag cs, y, hf, h => by
    have hf' : ∀ j, D j → AV.frL j cs = true := fun j hj => by have := hf j hj; simpa [AV.fr] using this
    simp only [Rep] at h ⊢
    obtain ⟨l, h1, h2⟩ := h
    exact ⟨l, h1, RepL_frD hψ hf' h2⟩
  | .tu cs, y, hf, h => by
    have hf' : ∀ j, D j → AV.frL j cs = true := fun j hj => by have := hf j hj; simpa [AV.fr] using this
    simp only [Rep] at h ⊢
    obtain ⟨l, h1, h2⟩ := h
    exact ⟨l, h1, RepL_frD hψ hf' h2⟩
theorem RepL_frD {B : Nat} {w : World} {φ ψ : Nat → Value} {D : Nat → Prop} (hψ : ∀ i, ¬ D i → ψ i = φ i) : ∀ {x : List AV} {y : List Value}, (∀ j, D j → AV.frL j x = true) → RepL B w φ x y → RepL B w ψ x y
  | [], _, _, h => by simpa [RepL] using h
  | c :: cs, l, hf, h => by
    have hf1 : ∀ j, D j → AV.fr j c = true := fun j hj => by have := hf j hj; simp only [AV.frL, Bool.and_eq_true] at this; exact this.1
    have hf2 : ∀ j, D j → AV.frL j cs = true := fun j hj => by have := hf j hj; simp only [AV.frL, Bool.and_eq_true] at this; exact this.2
    simp only [RepL] at h ⊢
    obtain ⟨y, ys, h1, h2, h3⟩ := h
    exact ⟨y, ys, h1, Rep_frD hψ hf1 h2, RepL_frD hψ hf2 h3⟩
end
theorem RepL_fr {B : Nat} {w : World} {φ ψ : Nat → Value} {j : Nat} (hψ : ∀ i, i ≠ j → ψ i = φ i) {x : List AV} {y : List Value} (hf : AV.frL j x = true) (h : RepL B w φ x y) : RepL B w ψ x y :=
  RepL_frD (D := fun i => i = j) hψ (fun i hi => by subst hi; exact hf) h
structure Bs extends World where
  ws : World
  φ0 : Nat → Value
  G : Nat → Prop
  gl : Gl toWorld
instance instCoeBs : Coe Bs World := ⟨Bs.toWorld⟩
structure Sim (w0 : Bs) (t : List AV) (s : Sto) (φ : Nat → Value) (a : Act) (w : World) : Prop where
  below : Below w0.heap.size w0 w
  defs : a.defers = []
  tmp : RepL w0.heap.size w0 φ t a.tmps.toList
  blk : ∀ id b, gS s id = some b → BlkOk w0.heap.size w0 φ w id b
  apart : ∀ i j b c, gS s i = some b → gS s j = some c → i ≠ j → bk (φ i) = none ∨ bk (φ i) ≠ bk (φ j)
  fix : ∀ i, i % 16 = 15 → φ i = w0.φ0 i
  kept : ∀ k, k < w0.ws.heap.size → ¬ w0.G k → w.heap[k]? = w0.ws.heap[k]?
  inn : ∀ i b k, gS s i = some b → bk (φ i) = some k → w0.G k ∨ w0.ws.heap.size ≤ k
  wsz : w0.ws.heap.size ≤ w.heap.size
theorem Sim_ev {w0 : Bs} {t : List AV} {s : Sto} {φ : Nat → Value} {a : Act} {w : World} (S : Sim w0 t s φ a w) (x : Operand) : Rep w0.heap.size w0 φ (eT t x) (a.eval x) := by
  cases x with
  | tmp i =>
    have := RepL_get i S.tmp
    simpa [eT, Act.eval, Array.getD_eq_getD_getElem?, List.getD_eq_getElem?_getD] using this
  | const v => simp [eT, Act.eval, Rep]
  | global g => simp [eT, Rep]
  | func f => simp [eT, Act.eval, Rep]
theorem Sim_put {w0 : Bs} {t : List AV} {s : Sto} {φ : Nat → Value} {a : Act} {w : World} (S : Sim w0 t s φ a w) (d : Option Nat) {y : AV} {v : Value} (h : Rep w0.heap.size w0 φ y v) : Sim w0 (pT t d y) s φ (a.put d v) w := by
  cases d with
  | none => exact S
  | some d =>
    refine ⟨S.below, S.defs, ?_, S.blk, S.apart, S.fix, S.kept, S.inn, S.wsz⟩
    have := RepL_set h d S.tmp
    simpa [pT, Act.put, Array.toList_setIfInBounds] using this
theorem own_world {w w1 : World} {B : Nat} {e : TypeId} {sz n : Nat} {v : Value} {xs : List Value} (h : w.ownsRow B e sz v n xs) (hb : ∀ k, bk v = some k → w1.heap[k]? = w.heap[k]?) : w1.ownsRow B e sz v n xs := by
  refine ⟨h.1, ?_⟩
  rcases h.2 with h2 | ⟨g, cap, cur, rfl, h3, h4, h5⟩
  · exact .inl h2
  · exact .inr ⟨g, cap, cur, rfl, h3, by rw [hb g rfl]; exact h4, h5⟩
theorem BlkOk_world {B : Nat} {w0 : World} {φ : Nat → Value} {w w1 : World} {id : Nat} {b : Blk} (h : BlkOk B w0 φ w id b) (hb : ∀ k, bk (φ id) = some k → w1.heap[k]? = w.heap[k]?) : BlkOk B w0 φ w1 id b := by
  cases b with
  | box t cs =>
    obtain ⟨g, c, h1, h2, h3, h4⟩ := h
    exact ⟨g, c, h1, h2, by rw [hb g (by rw [h1]; rfl)]; exact h3, h4⟩
  | row e sz xs => exact ⟨own_world h.1 hb, h.2⟩
theorem BlkOk_lt {B : Nat} {w0 : World} {φ : Nat → Value} {w : World} {id : Nat} {b : Blk} (h : BlkOk B w0 φ w id b) {k : Nat} (hk : bk (φ id) = some k) : B ≤ k ∧ k < w.heap.size := by
  cases b with
  | box t cs =>
    obtain ⟨g, c, h1, h2, h3, h4⟩ := h
    rw [h1] at hk
    obtain rfl : g = k := by simpa [bk] using hk
    exact ⟨h2, (Array.getElem?_eq_some_iff.1 h3).1⟩
  | row e sz xs =>
    rcases h.1.2 with ⟨h2, _⟩ | ⟨g, cap, cur, h2, h3, h4, h5⟩
    · rw [h2] at hk; simp [bk] at hk
    · rw [h2] at hk
      obtain rfl : g = k := by simpa [bk] using hk
      exact ⟨h3, (Array.getElem?_eq_some_iff.1 h4).1⟩
theorem BlkOk_fr {B : Nat} {w0 : World} {φ ψ : Nat → Value} {w : World} {id j : Nat} {b : Blk} (hψ : ∀ i, i ≠ j → ψ i = φ i) (hj : id ≠ j) (hf : b.fr j = true) (h : BlkOk B w0 φ w id b) : BlkOk B w0 ψ w id b := by
  cases b with
  | box t cs =>
    obtain ⟨g, c, h1, h2, h3, h4⟩ := h
    exact ⟨g, c, by rw [hψ id hj]; exact h1, h2, h3, RepL_fr hψ (by simpa [Blk.fr] using hf) h4⟩
  | row e sz xs =>
    show _ ∧ _
    rw [hψ id hj]
    exact h
theorem Sim_below {w0 : Bs} {t : List AV} {s : Sto} {φ : Nat → Value} {a : Act} {w w1 : World} (S : Sim w0 t s φ a w) (hb : Below w.heap.size w w1) : Sim w0 t s φ a w1 :=
  ⟨S.below.trans (hb.mono S.below.size), S.defs, S.tmp, fun id b h => BlkOk_world (S.blk id b h) fun k hk => hb.block k (BlkOk_lt (S.blk id b h) hk).2, S.apart, S.fix, fun k hk hG => (hb.block k (Nat.lt_of_lt_of_le hk S.wsz)).trans (S.kept k hk hG), S.inn, Nat.le_trans S.wsz hb.size⟩
theorem gS_uS {s : Sto} {i j : Nat} {b : Blk} : gS (uS s i b) j = if i = j then some b else gS s j := by
  induction s with
  | nil => simp [uS, gS]
  | cons p s ih =>
    obtain ⟨k, c⟩ := p
    simp only [uS]
    by_cases h : k = i
    · subst h
      simp only [if_true, gS]
      by_cases hj : k = j <;> simp [hj]
    · rw [if_neg h]
      simp only [gS, ih]
      by_cases hk : k = j
      · subst hk; simp [Ne.symm h]
      · simp [hk]
theorem gS_dS {s : Sto} {i j : Nat} : gS (dS s i) j = if i = j then none else gS s j := by
  induction s with
  | nil => simp [dS, gS]
  | cons p s ih =>
    obtain ⟨k, c⟩ := p
    simp only [dS]
    by_cases h : k = i
    · subst h
      simp only [if_true, ih, gS]
      by_cases hj : k = j <;> simp [hj]
    · rw [if_neg h]
      simp only [gS, ih]
      by_cases hk : k = j
      · subst hk; simp [Ne.symm h]
      · simp [hk]
theorem gS_app {r s : Sto} {j : Nat} : gS (r ++ s) j = (gS r j).or (gS s j) := by
  induction r with
  | nil => simp [gS]
  | cons p r ih =>
    obtain ⟨k, c⟩ := p
    simp only [List.cons_append, gS]
    by_cases h : k = j <;> simp [h, ih]
theorem gS_mem {s : Sto} {j : Nat} {b : Blk} (h : gS s j = some b) : (j, b) ∈ s := by
  induction s with
  | nil => simp [gS] at h
  | cons p s ih =>
    obtain ⟨k, c⟩ := p
    simp only [gS] at h
    by_cases hk : k = j
    · subst hk
      simp only [if_true, Option.some.injEq] at h
      subst h; simp
    · rw [if_neg hk] at h
      exact List.mem_cons_of_mem _ (ih h)
theorem free_blk {j : Nat} {t : List AV} {s : Sto} (h : free j t s = true) : AV.frL j t = true ∧ ∀ i b, gS s i = some b → b.fr j = true := by
  simp only [free, Bool.and_eq_true, List.all_eq_true] at h
  exact ⟨h.1, fun i b hb => h.2 _ (gS_mem hb)⟩
def upd (φ : Nat → Value) (j : Nat) (v : Value) : Nat → Value := fun i => if i = j then v else φ i
theorem upd_same (φ : Nat → Value) (j : Nat) (v : Value) : upd φ j v j = v := if_pos rfl
theorem upd_ne (φ : Nat → Value) (j : Nat) (v : Value) : ∀ i, i ≠ j → upd φ j v i = φ i := fun i h => if_neg h
theorem Sim_new {w0 : Bs} {t : List AV} {s : Sto} {φ : Nat → Value} {a : Act} {w w1 : World} (S : Sim w0 t s φ a w) {j : Nat} {b : Blk} {y : Value} (hf : free j t s = true) (hb : Below w0.heap.size w0 w1)
    (hk : ∀ i c k, gS s i = some c → i ≠ j → bk (φ i) = some k → w1.heap[k]? = w.heap[k]? ∧ bk y ≠ some k)
    (hn : BlkOk w0.heap.size w0 (upd φ j y) w1 j b) (h15 : j % 16 ≠ 15) (hkp : ∀ k, k < w0.ws.heap.size → ¬ w0.G k → w1.heap[k]? = w.heap[k]?) (hyn : ∀ k, bk y = some k → w0.G k ∨ w0.ws.heap.size ≤ k) (hsz : w.heap.size ≤ w1.heap.size) : Sim w0 t (uS s j b) (upd φ j y) a w1 := by
  obtain ⟨f1, f2⟩ := free_blk hf
  have hψ := upd_ne φ j y
  refine ⟨hb, S.defs, RepL_fr hψ f1 S.tmp, fun id c h => ?_, fun i i' c c' h h' hne => ?_, fun i hi => (hψ i fun e => h15 (e ▸ hi)).trans (S.fix i hi), fun k hk hG => (hkp k hk hG).trans (S.kept k hk hG), fun i c k h hk' => ?_, Nat.le_trans S.wsz hsz⟩
  rotate_right
  · rw [gS_uS] at h
    by_cases e : j = i
    · subst e; rw [upd_same] at hk'; exact hyn k hk'
    · rw [if_neg e] at h; rw [hψ i (Ne.symm e)] at hk'; exact S.inn i c k h hk'
  · rw [gS_uS] at h
    by_cases e : j = id
    · subst e
      rw [if_pos rfl] at h
      obtain rfl := Option.some.inj h
      exact hn
    · rw [if_neg e] at h
      refine BlkOk_world (BlkOk_fr hψ (Ne.symm e) (f2 _ _ h) (S.blk id c h)) fun k hk' => ?_
      rw [hψ id (Ne.symm e)] at hk'
      exact (hk id c k h (Ne.symm e) hk').1
  · rw [gS_uS] at h h'
    have key : ∀ i c, gS s i = some c → i ≠ j → bk (upd φ j y i) = none ∨ bk (upd φ j y i) ≠ bk (upd φ j y j) := fun i c h hi => by
      rw [hψ i hi, upd_same]
      cases e : bk (φ i) with
      | none => exact .inl rfl
      | some k => exact .inr (fun e' => (hk i c k h hi e).2 e'.symm)
    by_cases e : j = i
    · subst e
      rw [if_neg hne] at h'
      have := key i' c' h' (Ne.symm hne)
      rcases this with h1 | h1
      · cases e2 : bk (upd φ j y j) with
        | none => exact .inl rfl
        | some k => exact .inr (by rw [h1]; exact fun h => nomatch h)
      · exact .inr (Ne.symm h1)
    · rw [if_neg e] at h
      by_cases e' : j = i'
      · subst e'
        exact key i c h (Ne.symm e)
      · rw [if_neg e'] at h'
        rw [hψ i (Ne.symm e), hψ i' (Ne.symm e')]
        exact S.apart i i' c c' h h' hne
mutual
theorem Rep_plnE {B : Nat} {w : World} {φ : Nat → Value} : ∀ {r : AV} {y : Value}, pln r = true → Rep B w φ r y → y = vlu r
  | .v x, y, _, h => by simpa [Rep, vlu] using h
  | .ag cs, y, hp, h => by
    simp only [pln] at hp
    simp only [Rep] at h
    obtain ⟨l, rfl, h⟩ := h
    rw [RepL_plnE hp h]; rfl
  | .tu cs, y, hp, h => by
    simp only [pln] at hp
    simp only [Rep] at h
    obtain ⟨l, rfl, h⟩ := h
    rw [RepL_plnE hp h]; rfl
  | .u, _, hp, _ => by simp [pln] at hp
  | .pr _ _, _, hp, _ => by simp [pln] at hp
  | .ow _ _ _, _, hp, _ => by simp [pln] at hp
  | .lo _, _, hp, _ => by simp [pln] at hp
  | .bp _ _, _, hp, _ => by simp [pln] at hp
  | .pe _, _, hp, _ => by simp [pln] at hp
  | .le _ _ _ _, _, hp, _ => by simp [pln] at hp
  | .vw _ _ _ _, _, hp, _ => by simp [pln] at hp
theorem RepL_plnE {B : Nat} {w : World} {φ : Nat → Value} : ∀ {r : List AV} {y : List Value}, plnL r = true → RepL B w φ r y → y = vluL r
  | [], y, _, h => by simpa [RepL, vluL] using h
  | c :: cs, y, hp, h => by
    simp only [plnL, Bool.and_eq_true] at hp
    simp only [RepL] at h
    obtain ⟨z, zs, rfl, h1, h2⟩ := h
    rw [Rep_plnE hp.1 h1, RepL_plnE hp.2 h2]; rfl
end
end Go.Proofs.YtdjdleldocfpaaaDoor.F
end

section
namespace Go.Proofs.YtdjdleldocfpaaaDoor.F
open Go.RowKit Go.Proofs.YtdjdleldocfpaaaDoorW.PrintWords Go.Proofs.YtdjdleldocfpaaaDoorW.PrintLast Go.Proofs.YtdjdleldocfpaaaDoorW.PrintMore
set_option linter.unusedVariables false
set_option linter.unusedSimpArgs false
structure TIok (P : Program) (ty : TypeId → Option TI) (t : TypeId) (i : TI) : Prop where
  nf : ∃ f, P.info? t = some f ∧ f.size = i.size ∧ f.bytes = i.bytes ∧ ∃ z, f.zero = some z ∧ z.cells = List.toArray i.zero ∧ (i.agg = false → z.cells = #[z])
  zl : i.zero.length = i.size ∧ i.zero.all plainV = true
  agg : (i.agg = true ∧ ∃ fs, P.underlying t = some (.struct fs) ∧ ∀ f o, nthN i.fs f = some o → ∃ fl, fs[f]? = some fl ∧ fl.offset = o ∧ ∃ fi, P.info? fl.type = some fi ∧ fi.size ≠ 0) ∨
    (i.agg = false ∧ i.size = 1 ∧ i.fs = [] ∧ ∃ d, P.underlying t = some d ∧ (∀ x, d ≠ .struct x) ∧ ∀ x y, d ≠ .array x y) ∨ (i.agg = true ∧ i.fs = [] ∧ ∃ e fe, P.underlying t = some (.array i.size e) ∧ P.info? e = some fe ∧ fe.size = 1)
  el : ∀ j, ty i.el = some j → P.underlying t = some (.slice i.el)
  bl : i.zero = [.bool false] → P.underlying t = some .bool
  it : ∀ k, kindOf i.zero = some k → P.underlying t = some (.int k)
  nar : i.agg = true → i.fs = [] → ∃ e fe, P.underlying t = some (.array i.size e) ∧ P.info? e = some fe ∧ fe.size = 1
  st : strZ i.zero = true → P.underlying t = some .string
  pl : i.agg = true → i.fs.isEmpty = false → ∃ l, P.underlying t = some (.struct (List.toArray l)) ∧ l.map (fun fl => (fl.offset, (P.info? fl.type).map (·.size))) = (plc i.size i.fs).map fun p => (p.1, some p.2)
def TyOk (P : Program) (ty : TypeId → Option TI) : Prop := ∀ t i, ty t = some i → TIok P ty t i
theorem addr_add_add (a : Addr) (m n : Nat) : (a.add m).add n = a.add (m + n) := by
  unfold Addr.add
  by_cases hm : m = 0
  · subst hm; simp
  · by_cases hn : n = 0
    · subst hn; simp [hm]
    · simp [hm, hn, Nat.add_assoc]
theorem addr_at (g o j : Nat) : (⟨g, o, none⟩ : Addr).add j = ⟨g, o + j, none⟩ := by
  unfold Addr.add
  split <;> simp_all
theorem run_isAgg {P : Program} {ty : TypeId → Option TI} {t : TypeId} {i : TI} (T : TIok P ty t i) (w : World) : (isAgg t).run P w = .ok i.agg w := by
  rcases T.agg with ⟨h1, fs, h2, _⟩ | ⟨h1, _, _, d, h2, h3, h4⟩ | ⟨h1, _, e, fe, h2, _⟩
  · simp [isAgg, run_underlying h2, h1]
  rotate_left
  · simp [isAgg, run_underlying h2, h1]
  · rw [h1]
    cases d <;> first | (exact absurd rfl (h3 _)) | (exact absurd rfl (h4 _ _)) | (simp [isAgg, run_underlying h2])
theorem run_size {P : Program} {ty : TypeId → Option TI} {t : TypeId} {i : TI} (T : TIok P ty t i) (w : World) : (sizeOf t).run P w = .ok i.size w := by
  obtain ⟨f, h1, h2, _⟩ := T.nf
  simp [sizeOf, typeInfo, h1, h2]
def cutV : Bool → List Value → Value
  | true, l => .agg (List.toArray l)
  | false, l => l.headD undef
theorem run_loadVar {P : Program} {ty : TypeId → Option TI} {t : TypeId} {i : TI} (T : TIok P ty t i) {w : World} {ad : Addr} {cs : List Value} (hl : cs.length = i.size) (hc : ∀ j u, cs[j]? = some u → w.cell? (ad.add j) = some u) :
    (loadVar t ad).run P w = .ok (cutV i.agg cs) w := by
  have ha := run_isAgg T w
  cases e : i.agg with
  | true =>
    have hL := run_loadCells_list (P := P) w ad cs hc
    rw [hl] at hL
    simp [loadVar, ha, e, run_size T, hL, cutV]
  | false =>
    have h1 : i.size = 1 := by
      rcases T.agg with ⟨h1, _⟩ | ⟨_, h1, _⟩ | ⟨h1, _⟩
      · rw [h1] at e; cases e
      · exact h1
      · rw [h1] at e; cases e
    rw [h1] at hl
    match cs, hl with
    | [u], _ =>
      have h0 := hc 0 u rfl
      have ha0 : ad.add 0 = ad := by unfold Addr.add; rfl
      rw [ha0] at h0
      simp [loadVar, ha, e, run_load, h0, cutV]
theorem Rep_cut {B : Nat} {w : World} {φ : Nat → Value} {ag : Bool} {n : Nat} (h1 : ag = false → n = 1) {L : List AV} {l : List Value} (h : RepL B w φ L l) (hn : n ≤ L.length) : Rep B w φ (cutA ag n L) (cutV ag (l.take n)) := by
  cases ag with
  | true =>
    simp only [cutA, cutV, Rep]
    exact ⟨_, rfl, RepL_take n h⟩
  | false =>
    rw [h1 rfl] at hn ⊢
    cases L with
    | nil => simp at hn
    | cons c cs =>
      simp only [RepL] at h
      obtain ⟨y, ys, rfl, h2, h3⟩ := h
      simpa [cutA, cutV, hd1] using h2
theorem size_one {P : Program} {ty : TypeId → Option TI} {t : TypeId} {i : TI} (T : TIok P ty t i) (h : i.agg = false) : i.size = 1 := by
  rcases T.agg with ⟨h1, _⟩ | ⟨_, h1, _⟩ | ⟨h1, _⟩
  · rw [h1] at h; cases h
  · exact h1
  · rw [h1] at h; cases h
theorem flatten_at {xs : List (List Value)} {sz : Nat} (hs : ∀ x ∈ xs, x.length = sz) {i j : Nat} (hi : i < xs.length) {z : List Value} (hj : j < sz) : xs.flatten[i * sz + j]? = (xs.getD i z)[j]? := by
  induction xs generalizing i with
  | nil => simp at hi
  | cons x xs ih =>
    have hx : x.length = sz := hs x (by simp)
    rw [List.flatten_cons]
    cases i with
    | zero =>
      rw [Nat.zero_mul, Nat.zero_add, List.getElem?_append_left (by omega)]
      rfl
    | succ i =>
      rw [List.getElem?_append_right (by rw [Nat.add_mul]; omega), show (i + 1) * sz + j - x.length = i * sz + j by rw [Nat.add_mul]; omega, ih (fun y hy => hs y (by simp [hy])) (by simpa using hi)]
      rfl
theorem flatten_len {xs : List (List Value)} {sz : Nat} (hs : ∀ x ∈ xs, x.length = sz) : xs.flatten.length = xs.length * sz := by
  induction xs with
  | nil => simp
  | cons x xs ih => rw [List.flatten_cons, List.length_append, hs x (by simp), ih (fun y hy => hs y (by simp [hy])), List.length_cons, Nat.add_mul]; omega
theorem getD_mem_len {xs : List (List Value)} {sz : Nat} (hs : ∀ x ∈ xs, x.length = sz) {z : List Value} {i : Nat} (hz : z.length = sz) : (xs.getD i z).length = sz := by
  rw [List.getD_eq_getElem?_getD]
  rcases Nat.lt_or_ge i xs.length with h | h
  · rw [List.getElem?_eq_getElem h]; exact hs _ (List.getElem_mem h)
  · rw [List.getElem?_eq_none h]; exact hz
section
variable {P : Program} {ty : TypeId → Option TI}
def Ro (P : Program) (w0 : World) (φ : Nat → Value) (a : Act) (w : World) (o : Oper) (y : AV) : Prop :=
  ∃ v, Rep w0.heap.size w0 φ y v ∧ ∀ w1, Below w.heap.size w w1 → o.quietAt P a (Below w.heap.size w) w1 v
theorem Ro_val {w0 : World} {φ : Nat → Value} {a : Act} {w : World} {o : Oper} {y : AV} (v : Value) (hy : Rep w0.heap.size w0 φ y v) (h : ∀ w1, Below w.heap.size w w1 → (execOp a.eval o).run P w1 = .ok (.value v) w1) : Ro P w0 φ a w o y :=
  ⟨v, hy, fun w1 hb => by unfold Oper.quietAt; rw [h w1 hb]; exact ⟨rfl, rfl⟩⟩
theorem cell_stay {w0 w w1 : World} (h : Below w0.heap.size w0 w) (hb : Below w.heap.size w w1) {ad : Addr} (ha : ad.block < w0.heap.size) : w1.cell? ad = w0.cell? ad :=
  (Below.cell hb (Nat.lt_of_lt_of_le ha h.size)).trans (Below.cell h ha)
theorem ro_load {t2 : List AV} {w0 : Bs} {t : List AV} {s : Sto} {φ : Nat → Value} {a : Act} {w : World} (T : TyOk P ty) (S : Sim w0 t s φ a w) {o : Oper} {b : TypeId} {x : Operand} (ho : o.op = .load b x) {d : Option Nat} {K : Kt} (h : loadW ty (ty b) (eT t x) d t2 s K) :
    ∃ y, K (pT t2 d y) s ∧ Ro P w0 φ a w o y := by
  have hx := Sim_ev S x
  cases ei : ty b with
  | none => rw [ei] at h; simp [loadW] at h
  | some i =>
    rw [ei] at h
    have Ti := T b i ei
    cases ex : eT t x with
    | bp id off =>
      rw [ex] at h hx
      simp only [loadW] at h
      cases eb : gS s id with
      | none => rw [eb] at h; simp [loadB] at h
      | some bl =>
        cases bl with
        | row e sz xs => rw [eb] at h; simp [loadB] at h
        | box tb cs =>
          rw [eb] at h
          simp only [loadB] at h
          obtain ⟨hn, hK⟩ := h
          obtain ⟨g, c, h1, h2, h3, h4⟩ := S.blk id _ eb
          simp only [Rep] at hx
          obtain ⟨g', h5, h6⟩ := hx
          rw [h1] at h5
          obtain rfl : g = g' := by simpa using h5
          have hlen := RepL_len h4
          refine ⟨_, hK, Ro_val (cutV i.agg ((c.drop off).take i.size)) (Rep_cut (size_one Ti) (RepL_drop off h4) ?_) fun w1 hb => ?_⟩
          · have hd : (dp off cs).length = cs.length - off := by rw [RepL_len (RepL_drop off h4), List.length_drop, hlen]
            omega
          · have hg : w1.heap[g]? = some (.cells (List.toArray c) tb (0, 0)) := (hb.block g (Array.getElem?_eq_some_iff.1 h3).1).trans h3
            have hr := run_loadVar Ti (w := w1) (ad := ⟨g, off, none⟩) (cs := (c.drop off).take i.size) (by rw [List.length_take, List.length_drop, ← hlen]; omega) (fun j u hu => by
              rw [addr_at]
              have hcell := cell_of_row w1 g (off + j) (List.toArray c) tb (0, 0) hg
              rw [hcell]
              rw [List.getElem?_take] at hu
              split at hu
              · rw [List.getElem?_drop] at hu; simpa using hu
              · cases hu)
            simp [execOp, ho, Instr.loadAt, h6, Instr.sureAddr, hr]
    | pe cs =>
      rw [ex] at h hx
      simp only [loadW] at h
      simp only [Rep] at hx
      obtain ⟨ad, h1, h2, h3⟩ := hx
      refine ⟨_, h.2, Ro_val (cutV i.agg (cs.take i.size)) (Rep_cut (size_one Ti) (RepL_vs cs) (by rw [RepL_len (RepL_vs (B := 0) (w := w) (φ := φ) cs)]; exact h.1)) fun w1 hb => ?_⟩
      have hr := run_loadVar Ti (w := w1) (ad := ad) (cs := cs.take i.size) (by rw [List.length_take]; omega) (fun j u hu => by
        have hab : (ad.add j).block = ad.block := by unfold Addr.add; split <;> rfl
        rw [cell_stay S.below hb (by rw [hab]; exact h2)]
        rw [List.getElem?_take] at hu
        split at hu
        · exact h3 j u hu
        · cases hu)
      simp [execOp, ho, Instr.loadAt, h1, Instr.sureAddr, hr]
    | le id z n off =>
      rw [ex] at h hx
      simp only [loadW] at h
      cases eb : gS s id with
      | none => rw [eb] at h; simp [loadE] at h
      | some bl =>
        cases bl with
        | box tb cs => rw [eb] at h; simp [loadE] at h
        | row e sz xs =>
          rw [eb] at h
          simp only [loadE] at h
          obtain ⟨q, hq, rfl, hql, hn, hK⟩ := h
          obtain ⟨h1, h2, h3⟩ := S.blk id _ eb
          simp only [Rep] at hx
          obtain ⟨g, m, c, h4, h5, h6, h7⟩ := hx
          rw [h4] at h1
          have hm : m = xs.length := by
            rcases h1.2 with ⟨hh, _⟩ | ⟨g', cap, cur, hh, _⟩
            · cases hh
            · injection hh
          have hg : xs.getD n.toNat q = gR q xs n := rfl
          have h2' : ∀ x ∈ xs, x.length = z := fun x hx => (h2 x hx).1
          have hgl : (gR q xs n).length = z := getD_mem_len h2' hql
          have hni : n.toNat < xs.length := by omega
          refine ⟨_, hK, Ro_val (cutV i.agg (((gR q xs n).drop off).take i.size)) (Rep_cut (size_one Ti) (RepL_drop off (RepL_vs _)) ?_) fun w1 hb => ?_⟩
          · rw [RepL_len (RepL_drop (B := 0) (w := w) (φ := φ) off (RepL_vs (gR q xs n))), List.length_drop, hgl]; omega
          · have h1' := own_world (w1 := w1) h1 (fun k hk => hb.block k (by
              have := BlkOk_lt (S.blk id _ eb) (k := k) (by rw [h4]; exact hk)
              exact this.2))
            have hr := run_loadVar Ti (w := w1) (ad := ⟨g, n.toNat * z + off, none⟩) (cs := ((gR q xs n).drop off).take i.size) (by rw [List.length_take, List.length_drop, hgl]; omega) (fun j u hu => by
              rw [addr_at]
              rw [List.getElem?_take] at hu
              split at hu
              · rename_i hj
                rw [List.getElem?_drop] at hu
                have := h1'.cells (g := g) rfl (n.toNat * z + (off + j)) u (by rw [flatten_at h2' hni (z := q) (by omega)]; exact hu)
                rw [addr_at, Nat.zero_add] at this
                rw [Nat.add_assoc]; exact this
              · cases hu)
            simp [execOp, ho, Instr.loadAt, h7, Instr.sureAddr, hr]
    | u => rw [ex] at h; simp [loadW] at h
    | v _ => rw [ex] at h; simp [loadW] at h
    | ag _ => rw [ex] at h; simp [loadW] at h
    | tu _ => rw [ex] at h; simp [loadW] at h
    | pr _ _ => rw [ex] at h; simp [loadW] at h
    | ow _ _ _ => rw [ex] at h; simp [loadW] at h
    | lo _ => rw [ex] at h; simp [loadW] at h
    | vw _ _ _ _ => rw [ex] at h; simp [loadW] at h
end
end Go.Proofs.YtdjdleldocfpaaaDoor.F
end

section
namespace Go.Proofs.YtdjdleldocfpaaaDoor.F
open Go.RowKit Go.Proofs.YtdjdleldocfpaaaDoorW.PrintWords Go.Proofs.YtdjdleldocfpaaaDoorW.PrintLast Go.Proofs.YtdjdleldocfpaaaDoorW.PrintMore
set_option linter.unusedVariables false
set_option linter.unusedSimpArgs false
section
variable {P : Program} {ty : TypeId → Option TI} {w0 : Bs} {t : List AV} {s : Sto} {φ : Nat → Value} {a : Act} {w : World} {o : Oper} {d : Option Nat} {K : Kt}
theorem ro_fa {t2 : List AV} (T : TyOk P ty) (S : Sim w0 t s φ a w) {b : TypeId} {x : Operand} {f : Nat} (ho : o.op = .fieldAddr b x f) (h : faW (((ty b).map (·.fs)).bind (nthN · f)) (eT t x) d t2 s K) : ∃ y, K (pT t2 d y) s ∧ Ro P w0 φ a w o y := by
  have hx := Sim_ev S x
  cases ei : ty b with
  | none => rw [ei] at h; simp [faW] at h
  | some i =>
    rw [ei] at h
    simp only [Option.map_some, Option.bind_some] at h
    have Ti := T b i ei
    cases ef : nthN i.fs f with
    | none => rw [ef] at h; simp [faW] at h
    | some off =>
      rw [ef] at h
      have hfs : ∃ fs, P.underlying b = some (.struct fs) ∧ ∃ fl, fs[f]? = some fl ∧ fl.offset = off ∧ ∃ fi, P.info? fl.type = some fi ∧ fi.size ≠ 0 := by
        rcases Ti.agg with ⟨_, fs, h1, h2⟩ | ⟨_, _, h1, _⟩ | ⟨_, h1, _⟩
        · exact ⟨fs, h1, h2 f off ef⟩
        · rw [h1] at ef; cases ef
        · rw [h1] at ef; cases ef
      obtain ⟨fs, h1, fl, h2, h3, fi, h4, h5⟩ := hfs
      have key : ∀ (ad : Addr) (w1 : World), a.eval x = .pointer (some ad) → (execOp a.eval o).run P w1 = .ok (.value (.pointer (some (ad.add off)))) w1 := fun ad w1 e => by
        simp [execOp, ho, Instr.fieldAt, e, run_underlying h1, h2, Instr.sureAddr, fieldPlace, sizeOf, typeInfo, h4, h5, h3]
      cases ex : eT t x with
      | bp id o1 =>
        rw [ex] at h hx
        simp only [faW] at h
        simp only [Rep] at hx
        obtain ⟨g, e1, e2⟩ := hx
        refine ⟨_, h, Ro_val (.pointer (some ⟨g, o1 + off, none⟩)) ?_ fun w1 hb => ?_⟩
        · simp only [Rep]; exact ⟨g, e1, rfl⟩
        · rw [key _ w1 e2, addr_at]
      | pe cs =>
        rw [ex] at h hx
        simp only [faW] at h
        simp only [Rep] at hx
        obtain ⟨ad, e1, e2, e3⟩ := hx
        refine ⟨_, h, Ro_val (.pointer (some (ad.add off))) ?_ fun w1 hb => key _ w1 e1⟩
        simp only [Rep]
        refine ⟨_, rfl, ?_, fun j u hu => ?_⟩
        · have : (ad.add off).block = ad.block := by unfold Addr.add; split <;> rfl
          rw [this]; exact e2
        · rw [addr_add_add]
          rw [List.getElem?_drop] at hu
          exact e3 _ _ hu
      | le id z n o1 =>
        rw [ex] at h hx
        simp only [faW] at h
        simp only [Rep] at hx
        obtain ⟨g, m, c, e1, e2, e3, e4⟩ := hx
        refine ⟨_, h, Ro_val (.pointer (some ⟨g, n.toNat * z + (o1 + off), none⟩)) ?_ fun w1 hb => ?_⟩
        · simp only [Rep]; exact ⟨g, m, c, e1, e2, e3, rfl⟩
        · rw [key _ w1 e4, addr_at, Nat.add_assoc]
      | u => rw [ex] at h; simp [faW] at h
      | v _ => rw [ex] at h; simp [faW] at h
      | ag _ => rw [ex] at h; simp [faW] at h
      | tu _ => rw [ex] at h; simp [faW] at h
      | pr _ _ => rw [ex] at h; simp [faW] at h
      | ow _ _ _ => rw [ex] at h; simp [faW] at h
      | lo _ => rw [ex] at h; simp [faW] at h
      | vw _ _ _ _ => rw [ex] at h; simp [faW] at h
theorem own_len {w : World} {B : Nat} {e : TypeId} {sz n m c : Nat} {A : Option Addr} {ys : List Value} (h : w.ownsRow B e sz (.slice A m c) n ys) : m = n ∧ n ≤ c := by
  rcases h.2 with ⟨hh, hl⟩ | ⟨g', cap, cur, hh, h1, h2, h3, _⟩
  · injection hh with _ hm hc; rw [hm, hl]; exact ⟨rfl, Nat.zero_le _⟩
  · injection hh with _ hm hc; subst hc; exact ⟨hm, h3⟩
theorem ro_idx {t2 : List AV} (T : TyOk P ty) (S : Sim w0 t s φ a w) {b : TypeId} {x i : Operand} (ho : o.op = .indexAddr b x i) (h : idxW ty (ty b) (eT t x) (eT t i) d t2 s K) : ∃ y, K (pT t2 d y) s ∧ Ro P w0 φ a w o y := by
  have hx := Sim_ev S x
  have hi := Sim_ev S i
  cases ei : ty b with
  | none => rw [ei] at h; simp [idxW] at h
  | some ti =>
    rw [ei] at h
    have Ti := T b ti ei
    have key : ∀ (A : Addr) (len cap : Nat) (k : IntKind) (n : Int) (j : TI) (w1 : World), ty ti.el = some j → a.eval x = .slice (some A) len cap → a.eval i = .int k n → 0 ≤ n → n < (len : Int) → (execOp a.eval o).run P w1 = .ok (.value (.pointer (some (A.add (n.toNat * j.size))))) w1 := fun A len cap k n j w1 ej e1 e2 h0 h1 => by
      have hu := Ti.el j ej
      have hs := run_size (T _ j ej) w1
      simp [execOp, ho, Instr.indexAt, e1, e2, asIntOf, run_underlying hu, h0, h1, hs]
    cases ex : eT t x with
    | pr z xs =>
      cases en : eT t i with
      | v y =>
        cases y with
        | int k n =>
          rw [ex, en] at h
          simp only [idxW] at h
          obtain ⟨q, hq, hz, h0, h1, hK⟩ := h
          cases ej : ty ti.el with
          | none => rw [ej] at hq; simp at hq
          | some j =>
            rw [ej] at hq
            have hqj : j.zero = q := by simpa using hq
            rw [ex] at hx
            rw [en] at hi
            simp only [Rep] at hx hi
            obtain ⟨A, c, e1, e2, e3, e4, e5, e6⟩ := hx
            have e5' : ∀ x ∈ xs, x.length = z := fun x hx => (e5 x hx).1
            have hne : xs ≠ [] := by intro e; subst e; simp at h1; omega
            obtain ⟨ad, rfl, e7, e8⟩ := e6 hne
            have hjs : j.size = z := by rw [← hz, ← hqj]; exact ((T _ j ej).zl.1).symm
            have hni : n.toNat < xs.length := by omega
            refine ⟨_, hK, Ro_val (.pointer (some (ad.add (n.toNat * z)))) ?_ fun w1 hb => ?_⟩
            · simp only [Rep]
              refine ⟨_, rfl, ?_, fun m u hu => ?_⟩
              · have : (ad.add (n.toNat * z)).block = ad.block := by unfold Addr.add; split <;> rfl
                rw [this]; exact e7
              · rw [addr_add_add]
                have hm : m < z := by
                  have := (List.getElem?_eq_some_iff.1 hu).1
                  unfold gR at this
                  rw [getD_mem_len e5' hz] at this
                  exact this
                refine e8 _ _ ?_
                rw [flatten_at e5' hni (z := q) hm]
                exact hu
            · rw [key ad xs.length c k n j w1 ej e1 hi h0 h1, hjs]
        | _ => rw [ex, en] at h; simp [idxW] at h
      | _ => rw [ex, en] at h; simp [idxW] at h
    | lo id =>
      cases en : eT t i with
      | v y =>
        cases y with
        | int k n =>
          rw [ex, en] at h
          simp only [idxW] at h
          cases eb : gS s id with
          | none => rw [eb] at h; simp [idxE] at h
          | some bl =>
            cases bl with
            | box tb cs => rw [eb] at h; simp [idxE] at h
            | row e sz xs =>
              rw [eb] at h
              simp only [idxE] at h
              obtain ⟨⟨j, ej, hjs⟩, h0, h1, hK⟩ := h
              rw [ex] at hx
              rw [en] at hi
              simp only [Rep] at hx hi
              obtain ⟨b1, b2, b3⟩ := S.blk id _ eb
              have hpos : 0 < xs.length := by omega
              obtain ⟨g, cap, e1, _⟩ := b1.form hpos
              rw [e1] at hx
              have hx := hx.1
              refine ⟨_, hK, Ro_val (.pointer (some ⟨g, n.toNat * sz + 0, none⟩)) ?_ fun w1 hb => ?_⟩
              · simp only [Rep]
                exact ⟨g, _, cap, e1, h0, h1, rfl⟩
              · rw [key _ _ _ k n j w1 ej hx hi h0 h1, addr_at, Nat.zero_add, hjs]; rfl
        | _ => rw [ex, en] at h; simp [idxW] at h
      | _ => rw [ex, en] at h; simp [idxW] at h
    | u => rw [ex] at h; simp [idxW] at h
    | v _ => rw [ex] at h; simp [idxW] at h
    | ag _ => rw [ex] at h; simp [idxW] at h
    | tu _ => rw [ex] at h; simp [idxW] at h
    | pe _ => rw [ex] at h; simp [idxW] at h
    | ow _ _ _ => rw [ex] at h; simp [idxW] at h
    | bp id off =>
      cases en : eT t i with
      | v y =>
        cases y with
        | int k n =>
          rw [ex, en] at h
          simp only [idxW] at h
          obtain ⟨g1, g2, h0, h1, hK⟩ := h
          rw [ex] at hx
          rw [en] at hi
          simp only [Rep] at hx hi
          obtain ⟨g, e1, e2⟩ := hx
          have hfs : ti.fs = [] := List.isEmpty_iff.1 g2
          obtain ⟨e, fe, q1, q2, q3⟩ := Ti.nar g1 hfs
          refine ⟨_, hK, Ro_val (.pointer (some ⟨g, off + n.toNat, none⟩)) ?_ fun w1 hb => ?_⟩
          · simp only [Rep]; exact ⟨g, e1, rfl⟩
          · have h1' : n < (ti.size : Int) := by omega
            simp [execOp, ho, Instr.indexAt, e2, hi, asIntOf, run_underlying q1, Instr.sureAddr, h0, h1', sizeOf, typeInfo, q2, q3, addr_at]
        | _ => rw [ex, en] at h; simp [idxW] at h
      | _ => rw [ex, en] at h; simp [idxW] at h
    | le _ _ _ _ => rw [ex] at h; simp [idxW] at h
    | vw id z lo hj =>
      cases en : eT t i with
      | v y =>
        cases y with
        | int k n =>
          rw [ex, en] at h
          simp only [idxW] at h
          cases eb : gS s id with
          | none => rw [eb] at h; simp [idxV] at h
          | some bl =>
            cases bl with
            | box tb cs => rw [eb] at h; simp [idxV] at h
            | row e sz xs =>
              rw [eb] at h
              simp only [idxV] at h
              obtain ⟨⟨j, ej, hjs⟩, rfl, h0, h1, hK⟩ := h
              rw [ex] at hx
              rw [en] at hi
              simp only [Rep] at hx hi
              obtain ⟨b1, b2, b3⟩ := S.blk id _ eb
              obtain ⟨A, m, c, v1, v2, v3, v4⟩ := hx
              have hm : m = xs.length := by
                have b1' := b1
                rw [v1] at b1'
                exact (own_len b1').1
              subst hm
              have hl : ((xs.take hj).drop lo).length = hj - lo := by rw [List.length_drop, List.length_take]; omega
              rw [hl] at h1
              have hpos : 0 < xs.length := by omega
              obtain ⟨g, cap, e1, hcap⟩ := b1.form hpos
              rw [e1] at v1
              obtain ⟨rfl, rfl⟩ : some (⟨g, 0, none⟩ : Addr) = A ∧ cap = c := by injection v1 with q1 _ q3; exact ⟨q1, q3⟩
              have hxc : xs.length ≤ cap := by rw [e1] at b1; exact (own_len b1).2
              refine ⟨_, hK, Ro_val (.pointer (some ⟨g, (n + (lo : Int)).toNat * z + 0, none⟩)) ?_ fun w1 hb => ?_⟩
              · simp only [Rep]
                exact ⟨g, _, cap, e1, by omega, by omega, rfl⟩
              · have hv : a.eval x = .slice (some ⟨g, lo * z, none⟩) (hj - lo) (cap - lo) := by
                  rw [v4]
                  unfold sliced
                  rw [if_neg (by omega), Option.map_some, addr_at, Nat.zero_add]
                rw [key _ _ _ k n j w1 ej hv hi h0 (by omega), addr_at, hjs, show (n + (lo : Int)).toNat = lo + n.toNat by omega, Nat.add_mul]; rfl
        | _ => rw [ex, en] at h; simp [idxW] at h
      | _ => rw [ex, en] at h; simp [idxW] at h
theorem wr_eq (k : IntKind) (n : Int) : k.wrap n = wr k n := by
  cases k <;> first | rfl | exact i64_w n
theorem run_bin (op : BinOp) (b c : TypeId) (x y : Operand) (k k' : IntKind) (m n : Int) (ho : o.op = .binOp op b x y c) (hx : a.eval x = .int k m) (hy : a.eval y = .int k' n) (hk : kok op k k' = true) (hb : bok op n) (w1 : World) :
    (execOp a.eval o).run P w1 = .ok (.value (bval op k m n)) w1 := by
  have sh : ∀ z : Int, 0 ≤ z → ¬ z < 0 := fun z h => by omega
  have hpow : ∀ q : Nat, (0 : Int) ≤ 2 ^ q := fun q => Int.pow_nonneg (by decide)
  cases op
  case shl => simp only [bok] at hb; simp [execOp, ho, hx, hy, eqGuard, binOp, Op.shift, sh n hb, bval, shl]
  case shr => simp only [bok] at hb; simp [execOp, ho, hx, hy, eqGuard, binOp, Op.shift, sh n hb, bval, shr, Int.fdiv_eq_ediv_of_nonneg _ (hpow _)]
  all_goals
    obtain rfl : k = k' := by simpa [kok] using hk
    first
    | (simp [execOp, ho, hx, hy, eqGuard, binOp, Op.intArith, bval, wr_eq]; done)
    | (simp [execOp, ho, hx, hy, eqGuard, binOp, Op.intBits, bval, Go.bits]; done)
    | (simp [execOp, ho, hx, hy, eqGuard, binOp, Op.intCmp, bval]; done)
    | (simp only [bok] at hb; simp [execOp, ho, hx, hy, eqGuard, binOp, Op.intDiv, hb, bval, wr_eq]; done)
theorem run_str (op : BinOp) (b c : TypeId) (x y : Operand) (m n : ByteArray) (ho : o.op = .binOp op b x y c) (hx : a.eval x = .string m) (hy : a.eval y = .string n) (hk : sok op m n = true) (w1 : World) :
    (execOp a.eval o).run P w1 = .ok (.value (sval op m n)) w1 := by
  cases op <;> simp only [sok, decide_eq_true_eq, Bool.false_eq_true] at hk
  · have h1 : IntKind.i64.max = 9223372036854775807 := rfl
    simp [execOp, ho, hx, hy, eqGuard, binOp, Op.stringOp, sval, h1] <;> omega
  · have h2 : (m.toList == n.toList) = decide (m.toList = n.toList) := by rw [Bool.eq_iff_iff]; simp
    simp [execOp, ho, hx, hy, eqGuard, binOp, Op.stringOp, sval, h2]
  · have h2 : (m.toList == n.toList) = decide (m.toList = n.toList) := by rw [Bool.eq_iff_iff]; simp
    simp [execOp, ho, hx, hy, eqGuard, binOp, Op.stringOp, sval, h2]
theorem binW_inv {op : BinOp} {x y : AV} (h : binW op x y d t s K) : (∃ k m k' n, x = .v (.int k m) ∧ y = .v (.int k' n) ∧ kok op k k' = true ∧ bok op n ∧ K (pT t d (.v (bval op k m n))) s) ∨ ∃ m n, x = .v (.string m) ∧ y = .v (.string n) ∧ sok op m n = true ∧ K (pT t d (.v (sval op m n))) s := by
  unfold binW at h
  split at h
  · exact .inl ⟨_, _, _, _, rfl, rfl, h⟩
  · exact .inr ⟨_, _, rfl, rfl, h⟩
  · exact h.elim
theorem ro_binW {t2 : List AV} (S : Sim w0 t s φ a w) {op : BinOp} {b c : TypeId} {x y : Operand} (ho : o.op = .binOp op b x y c) (h : binW op (eT t x) (eT t y) d t2 s K) : ∃ y, K (pT t2 d y) s ∧ Ro P w0 φ a w o y := by
  have hx := Sim_ev S x
  have hy := Sim_ev S y
  rcases binW_inv h with ⟨k, m, k', n, e1, e2, h1, h2, h3⟩ | ⟨m, n, e1, e2, h1, h3⟩
  · rw [e1] at hx
    rw [e2] at hy
    simp only [Rep] at hx hy
    exact ⟨_, h3, Ro_val _ (by simp [Rep]) fun w1 hb => run_bin op b c x y k k' m n ho hx hy h1 h2 w1⟩
  · rw [e1] at hx
    rw [e2] at hy
    simp only [Rep] at hx hy
    exact ⟨_, h3, Ro_val _ (by simp [Rep]) fun w1 hb => run_str op b c x y m n ho hx hy h1 w1⟩
theorem run_eqb {b : TypeId} (hu : P.underlying b = some .bool) (p q : Bool) (w : World) : (Op.equal b (.bool p) (.bool q)).run P w = .ok (p == q) w := run_equalIn_bool w 9999 b p q hu
theorem ro_bin {t2 : List AV} (T : TyOk P ty) (S : Sim w0 t s φ a w) {op : BinOp} {b c : TypeId} {x y : Operand} (ho : o.op = .binOp op b x y c) (h : binX P b (ty b) op (eT t x) (eT t y) d t2 s K) : ∃ y, K (pT t2 d y) s ∧ Ro P w0 φ a w o y := by
  have hx := Sim_ev S x
  have hy := Sim_ev S y
  unfold binX at h
  split at h
  · rename_i ii pa pb e1 e2 e3
    have hu := (T _ _ e1).bl h.1
    rw [e2] at hx
    rw [e3] at hy
    simp only [Rep] at hx hy
    exact ⟨_, h.2, Ro_val (.bool (pa == pb)) (by simp [Rep]) fun w1 hb => by simp [execOp, ho, hx, hy, eqGuard, binOp, run_eqb hu]⟩
  · rename_i ii pa pb e1 e2 e3
    have hu := (T _ _ e1).bl h.1
    rw [e2] at hx
    rw [e3] at hy
    simp only [Rep] at hx hy
    exact ⟨_, h.2, Ro_val (.bool (pa != pb)) (by simp [Rep]) fun w1 hb => by simp [execOp, ho, hx, hy, eqGuard, binOp, run_eqb hu, bne]⟩
  · rename_i ii cs ds e1 e2 e3
    rw [e2] at hx
    rw [e3] at hy
    simp only [Rep] at hx hy
    obtain ⟨l, e4, hx⟩ := hx
    obtain ⟨m, e5, hy⟩ := hy
    obtain ⟨p1, p2, r, h1, h2⟩ := h
    rw [RepL_plnE p1 hx] at e4
    rw [RepL_plnE p2 hy] at e5
    exact ⟨_, h2, Ro_val (.bool r) (by simp [Rep]) fun w1 hb => by simp [execOp, ho, e4, e5, eqGuard, binOp, h1.1, h1.2 w1]⟩
  · rename_i ii cs ds e1 e2 e3
    rw [e2] at hx
    rw [e3] at hy
    simp only [Rep] at hx hy
    obtain ⟨l, e4, hx⟩ := hx
    obtain ⟨m, e5, hy⟩ := hy
    obtain ⟨p1, p2, r, h1, h2⟩ := h
    rw [RepL_plnE p1 hx] at e4
    rw [RepL_plnE p2 hy] at e5
    exact ⟨_, h2, Ro_val (.bool (!r)) (by simp [Rep]) fun w1 hb => by simp [execOp, ho, e4, e5, eqGuard, binOp, h1.1, h1.2 w1]⟩
  · exact ro_binW S ho h
theorem notW_inv {x : AV} (h : notW x d t s K) : ∃ b, x = .v (.bool b) ∧ K (pT t d (.v (.bool (!b)))) s := by
  unfold notW at h
  split at h
  · exact ⟨_, rfl, h⟩
  · exact h.elim
theorem ro_not {t2 : List AV} (S : Sim w0 t s φ a w) {b : TypeId} {x : Operand} (ho : o.op = .unOp .not b x) (h : notW (eT t x) d t2 s K) : ∃ y, K (pT t2 d y) s ∧ Ro P w0 φ a w o y := by
  have hx := Sim_ev S x
  obtain ⟨q, e1, h1⟩ := notW_inv h
  rw [e1] at hx
  simp only [Rep] at hx
  exact ⟨_, h1, Ro_val (.bool (!q)) (by simp [Rep]) fun w1 hb => by simp [execOp, ho, hx, Op.unary]⟩
theorem ro_neg {t2 : List AV} (S : Sim w0 t s φ a w) {b : TypeId} {x : Operand} (ho : o.op = .unOp .neg b x) (h : negW (eT t x) d t2 s K) : ∃ y, K (pT t2 d y) s ∧ Ro P w0 φ a w o y := by
  have hx := Sim_ev S x
  unfold negW at h
  split at h
  · rename_i k n e1
    rw [e1] at hx
    simp only [Rep] at hx
    exact ⟨_, h, Ro_val (.int k (wr k (-n))) (by simp [Rep]) fun w1 hb => by simp [execOp, ho, hx, Op.unary, Op.intArith, ← wr_eq]⟩
  · exact h.elim
theorem bt_at {a : ByteArray} {i : Nat} (h : i < a.size) : a[i]? = some (a[i]'h) ∧ bt a i = ((a[i]'h).toNat : Int) := by
  refine ⟨getElem?_pos a i h, ?_⟩
  unfold bt
  rw [dif_pos (by simpa using h)]
  simp
theorem ro_idxS {t2 : List AV} (T : TyOk P ty) (S : Sim w0 t s φ a w) {b : TypeId} {x i : Operand} (ho : o.op = .index b x i) (h : idxS (ty b) (eT t x) (eT t i) d t2 s K) : ∃ y, K (pT t2 d y) s ∧ Ro P w0 φ a w o y := by
  have hx := Sim_ev S x
  have hi := Sim_ev S i
  unfold idxS at h
  split at h
  · rename_i ti m k n e1 e2 e3
    obtain ⟨h1, h2, h3, h4⟩ := h
    rw [e2] at hx
    rw [e3] at hi
    simp only [Rep] at hx hi
    have hu := (T _ _ e1).st h1
    obtain ⟨q, rfl⟩ : ∃ q : Nat, n = (q : Int) := ⟨n.toNat, by omega⟩
    obtain ⟨g1, g2⟩ := bt_at (a := m) (i := q) (by omega)
    refine ⟨_, h4, Ro_val (.int .u8 (bt m q)) (by simp [Rep]) fun w1 hb => ?_⟩
    simp [execOp, ho, hx, hi, Instr.index, asIntOf, run_underlying hu, g1, g2]
  · exact h.elim
theorem ro_pick {t2 : List AV} (S : Sim w0 t s φ a w) {c x y : Operand} (ho : o.op = .pick c x y) (h : pickW (eT t c) (eT t x) (eT t y) d t2 s K) : ∃ y, K (pT t2 d y) s ∧ Ro P w0 φ a w o y := by
  have hc := Sim_ev S c
  unfold pickW at h
  split at h
  · rename_i e1
    rw [e1] at hc
    simp only [Rep] at hc
    exact ⟨_, h, Ro_val (a.eval x) (Sim_ev S x) fun w1 hb => by simp [execOp, ho, hc, asBool]⟩
  · rename_i e1
    rw [e1] at hc
    simp only [Rep] at hc
    exact ⟨_, h, Ro_val (a.eval y) (Sim_ev S y) fun w1 hb => by simp [execOp, ho, hc, asBool]⟩
  · exact h.elim
theorem ro_move {t2 : List AV} (S : Sim w0 t s φ a w) {x : Operand} (ho : o.op = .move x ∨ o.op = .assign x) (h : K (pT t2 d (eT t x)) s) : ∃ y, K (pT t2 d y) s ∧ Ro P w0 φ a w o y :=
  ⟨_, h, Ro_val (a.eval x) (Sim_ev S x) fun w1 hb => by rcases ho with ho | ho <;> simp [execOp, ho]⟩
theorem exW_get : ∀ {cs : List AV} {n : Nat} {l : List Value}, exW cs n d t s K → RepL w0.heap.size w0 φ cs l → ∃ y v, l[n]? = some v ∧ Rep w0.heap.size w0 φ y v ∧ K (pT t d y) s
  | [], n, l, h, _ => by simp [exW] at h
  | c :: cs, 0, l, h, hl => by
    simp only [RepL] at hl
    obtain ⟨y, ys, rfl, h1, h2⟩ := hl
    exact ⟨c, y, rfl, h1, h⟩
  | c :: cs, n + 1, l, h, hl => by
    simp only [RepL] at hl
    obtain ⟨y, ys, rfl, h1, h2⟩ := hl
    simp only [exW] at h
    simpa using exW_get h h2
theorem ro_ext {t2 : List AV} (S : Sim w0 t s φ a w) {x : Operand} {n : Nat} (ho : o.op = .extract x n) (h : extW (eT t x) n d t2 s K) : ∃ y, K (pT t2 d y) s ∧ Ro P w0 φ a w o y := by
  have hx := Sim_ev S x
  unfold extW at h
  split at h
  · rename_i cs _ _ _ _ _ e1
    rw [e1] at hx
    simp only [Rep] at hx
    obtain ⟨l, e2, h2⟩ := hx
    obtain ⟨y, v, h3, h4, h5⟩ := exW_get h h2
    exact ⟨y, h5, Ro_val v h4 fun w1 hb => by simp [execOp, ho, e2, Instr.extract, h3]⟩
  · exact h.elim
theorem ro_chk {t2 : List AV} (S : Sim w0 t s φ a w) {x : Operand} (ho : o.op = .nilCheck x) (h : chkW (eT t x) d t2 s K) : ∃ y, K (pT t2 d y) s ∧ Ro P w0 φ a w o y := by
  have hx := Sim_ev S x
  have key : ∀ ad, a.eval x = .pointer (some ad) → ∀ w1, (execOp a.eval o).run P w1 = .ok (.value (a.eval x)) w1 := fun ad e w1 => by simp [execOp, ho, e]
  unfold chkW at h
  split at h
  · rename_i e1
    have hx' := hx
    rw [e1] at hx' hx
    simp only [Rep] at hx'
    obtain ⟨g, _, e2⟩ := hx'
    exact ⟨_, h, Ro_val (a.eval x) hx fun w1 hb => key _ e2 w1⟩
  · rename_i e1
    have hx' := hx
    rw [e1] at hx' hx
    simp only [Rep] at hx'
    obtain ⟨g, e2, _⟩ := hx'
    exact ⟨_, h, Ro_val (a.eval x) hx fun w1 hb => key _ e2 w1⟩
  · rename_i e1
    have hx' := hx
    rw [e1] at hx' hx
    simp only [Rep] at hx'
    obtain ⟨g, _, _, _, _, _, e2⟩ := hx'
    exact ⟨_, h, Ro_val (a.eval x) hx fun w1 hb => key _ e2 w1⟩
  · exact h.elim
theorem ro_len {t2 : List AV} (T : TyOk P ty) (S : Sim w0 t s φ a w) {x : Operand} {b : TypeId} (ho : o.op = .call ⟨.builtin .len, ⟨[x]⟩, ⟨[b]⟩⟩) (hb : lenT ty (ty b) (eT t x) = true) (h : lenW (eT t x) d t2 s K) : ∃ y, K (pT t2 d y) s ∧ Ro P w0 φ a w o y := by
  have hx := Sim_ev S x
  by_cases hst : ∃ m, eT t x = .v (.string m)
  · obtain ⟨m, em⟩ := hst
    rw [em] at hb h hx
    simp only [Rep] at hx
    cases ei : ty b with
    | none => rw [ei] at hb; simp [lenT] at hb
    | some i =>
      rw [ei] at hb
      have hu := (T b i ei).st hb
      exact ⟨_, h, Ro_val (.int .i64 (m.size : Int)) (by simp [Rep]) fun w1 hb => by simp [execOp, ho, resolve, invoke, builtin, Builtin.len_, hx, run_underlying hu, goInt]⟩
  replace hb : ((ty b).bind fun i => ty i.el).isSome = true := by
    unfold lenT at hb
    split at hb
    · rename_i e; exact absurd ⟨_, e⟩ hst
    · rename_i e _; rw [e]; exact hb
    · cases hb
  obtain ⟨j, hj⟩ := Option.isSome_iff_exists.1 hb
  obtain ⟨i, ei, ej⟩ := Option.bind_eq_some_iff.1 hj
  have hu := (T b i ei).el j ej
  have key : ∀ A n c w1, a.eval x = .slice A n c → (execOp a.eval o).run P w1 = .ok (.value (.int .i64 (n : Int))) w1 := fun A n c w1 e => by
    simp [execOp, ho, resolve, invoke, builtin, Builtin.len_, e, run_underlying hu, goInt]
  cases ex : eT t x with
  | pr z xs =>
    rw [ex] at h hx
    simp only [Rep] at hx
    simp only [lenW] at h
    obtain ⟨A, c, e2, _⟩ := hx
    exact ⟨_, h, Ro_val _ (by simp [Rep]) fun w1 hb => key _ _ _ w1 e2⟩
  | lo id =>
    rw [ex] at h hx
    simp only [Rep] at hx
    simp only [lenW] at h
    cases eb : gS s id with
    | none => rw [eb] at h; simp [lenB] at h
    | some bl =>
      cases bl with
      | box tb cs => rw [eb] at h; simp [lenB] at h
      | row e sz xs =>
        rw [eb] at h
        simp only [lenB] at h
        obtain ⟨b1, b2, b3⟩ := S.blk id _ eb
        obtain ⟨A, c, e3⟩ := own_slice b1
        rw [e3] at hx
        have hx := hx.1
        exact ⟨_, h, Ro_val _ (by simp [Rep]) fun w1 hb => key _ _ _ w1 hx⟩
  | vw id z lo hj =>
    rw [ex] at h hx
    simp only [Rep] at hx
    simp only [lenW] at h
    cases eb : gS s id with
    | none => rw [eb] at h; simp [lenV] at h
    | some bl =>
      cases bl with
      | box tb cs => rw [eb] at h; simp [lenV] at h
      | row e sz xs =>
        rw [eb] at h
        simp only [lenV] at h
        obtain ⟨b1, b2, b3⟩ := S.blk id _ eb
        obtain ⟨A, m, c, v1, v2, v3, v4⟩ := hx
        rw [v1] at b1
        have hm := (own_len b1).1
        have hl : ((xs.take hj).drop lo).length = hj - lo := by rw [List.length_drop, List.length_take]; omega
        rw [hl] at h
        exact ⟨_, h, Ro_val _ (by simp [Rep]) fun w1 hb => key _ _ _ w1 v4⟩
  | v y =>
    rw [ex] at h hx
    simp only [Rep] at hx
    unfold lenW at h
    split at h
    · rename_i e1; cases e1
    · rename_i e1; cases e1
    · rename_i e1; cases e1
    · rename_i e1
      injection e1 with e1
      rw [e1] at hx
      exact ⟨_, h, Ro_val (.int .i64 0) (by simp [Rep]) fun w1 hb => key _ _ _ w1 hx⟩
    · rename_i e1; injection e1 with e1; exact absurd ⟨_, ex.trans (by rw [e1])⟩ hst
    · exact h.elim
  | _ => rw [ex] at h; simp [lenW] at h
theorem ro_mm {t2 : List AV} (S : Sim w0 t s φ a w) {x y : Operand} {ats : Array TypeId} {mi : Bool} (ho : o.op = .call ⟨.builtin (if mi = true then .min else .max), ⟨[x, y]⟩, ats⟩) (h : mmW mi (eT t x) (eT t y) d t2 s K) : ∃ y, K (pT t2 d y) s ∧ Ro P w0 φ a w o y := by
  have hx := Sim_ev S x
  have hy := Sim_ev S y
  cases ex : eT t x with
  | v u =>
    cases ey : eT t y with
    | v z =>
      cases u with
      | int k m =>
        cases z with
        | int k' n =>
          rw [ex] at hx
          rw [ey] at hy
          rw [ex, ey] at h
          simp only [Rep] at hx hy
          cases mi <;> cases k <;> cases k' <;> first | (exact h.elim) | skip
          · simp only [mmW] at h
            exact ⟨_, h, Ro_val (.int .i64 (mx m n)) (by simp [Rep]) fun w1 hb => by simp [execOp, ho, resolve, invoke, builtin, max_two, max2_int, hx, hy, mx]⟩
          · simp only [mmW] at h
            exact ⟨_, h, Ro_val (.int .i64 (mn m n)) (by simp [Rep]) fun w1 hb => by simp [execOp, ho, resolve, invoke, builtin, min_two, min2_int, hx, hy, mn]⟩
        | _ => rw [ex, ey] at h; cases mi <;> cases k <;> exact h.elim
      | _ => rw [ex, ey] at h; cases mi <;> exact h.elim
    | _ => rw [ex, ey] at h; cases mi <;> (cases u <;> first | exact h.elim | (rename_i k _; cases k <;> exact h.elim))
  | _ => rw [ex] at h; cases mi <;> exact h.elim
end
end Go.Proofs.YtdjdleldocfpaaaDoor.F
end
