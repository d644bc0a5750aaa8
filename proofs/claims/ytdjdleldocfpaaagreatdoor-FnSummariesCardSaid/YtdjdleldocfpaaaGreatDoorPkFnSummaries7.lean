/- Packed by a program of the session (wip/tools/pack.py): what the claim's theorem reaches, of the texts that wip/ and the kit's printer lay. -/
import Derived.Test.YtdjdleldocfpaaaGreatDoorPkFnSummaries6
import Derived.Shelf.Abstract
import Derived.Laws.StructEq
section
namespace Go.Proofs.YtdjdleldocfpaaaGreatDoor.F
open Go.RowKit Go.Proofs.YtdjdleldocfpaaaGreatDoorW.PrintWords Go.Proofs.YtdjdleldocfpaaaGreatDoorW.PrintLast Go.Proofs.YtdjdleldocfpaaaGreatDoorW.PrintMore
set_option linter.unusedVariables false
set_option linter.unusedSimpArgs false
mutual
def FitR (s : Sto) : AV → AV → Prop
  | .v x, .v y => x = y
  | .lo id, .ow e sz xs => gS s id = some (.row e sz xs)
  | .v x, .ow e sz xs => x = .slice none 0 0 ∧ xs = [] ∧ 0 < sz
  | .ag cs, .ag ds => FitRL s cs ds
  | .tu cs, .tu ds => FitRL s cs ds
  | _, _ => False
def FitRL (s : Sto) : List AV → List AV → Prop
  | [], [] => True
  | c :: cs, d :: ds => FitR s c d ∧ FitRL s cs ds
  | _, _ => False
end
mutual
def AV.ids : AV → List Nat
  | .lo i => [i]
  | .ag cs => AV.idsL cs
  | .tu cs => AV.idsL cs
  | _ => []
def AV.idsL : List AV → List Nat
  | [] => []
  | c :: cs => AV.ids c ++ AV.idsL cs
end
mutual
theorem FitR_ok {w0 : Bs} {t : List AV} {s : Sto} {φ : Nat → Value} {a : Act} {w : World} (S : Sim w0 t s φ a w) : ∀ (x : AV) {r : AV} {y : Value}, FitR s x r → (AV.ids x).Nodup → Rep w0.heap.size w0 φ x y → ∃ L, RepR w0.heap.size w r y L ∧ L.Nodup ∧ ∀ k ∈ L, ∃ id ∈ AV.ids x, (∃ b, gS s id = some b) ∧ bk (φ id) = some k
  | .v x, r, y, h, _, hr => by
    simp only [Rep] at hr
    subst hr
    cases r with
    | v z => simp only [FitR] at h; subst h; exact ⟨[], by simp [RepR], by simp, by simp⟩
    | ow e sz xs =>
      simp only [FitR] at h
      obtain ⟨rfl, rfl, h0⟩ := h
      refine ⟨[], ?_, by simp, by simp⟩
      simp only [RepR]
      exact ⟨World.ownsRow_nil _ _ _ _, fun x hx => by simp at hx, h0, by first | rfl | trivial⟩
    | _ => simp [FitR] at h
  | .lo id, r, y, h, _, hr => by
    simp only [Rep] at hr
    obtain ⟨rfl, _⟩ := hr
    cases r with
    | ow e sz xs =>
      simp only [FitR] at h
      obtain ⟨b1, b2, b3⟩ := S.blk id _ h
      refine ⟨(bk (φ id)).toList, by simp only [RepR]; exact ⟨b1, b2, b3, trivial⟩, by cases bk (φ id) <;> simp, fun k hk => ⟨id, by simp [AV.ids], ⟨_, h⟩, ?_⟩⟩
      cases e : bk (φ id) with
      | none => rw [e] at hk; simp at hk
      | some q => rw [e] at hk; simp at hk; rw [hk]
    | _ => simp [FitR] at h
  | .ag cs, r, y, h, hn, hr => by
    simp only [Rep] at hr
    obtain ⟨l, rfl, hr⟩ := hr
    cases r with
    | ag ds =>
      simp only [FitR] at h
      simp only [AV.ids] at hn ⊢
      obtain ⟨L, h1, h2, h3⟩ := FitRL_ok S cs h hn hr
      exact ⟨L, by simp only [RepR]; exact ⟨l, rfl, h1⟩, h2, h3⟩
    | _ => simp [FitR] at h
  | .tu cs, r, y, h, hn, hr => by
    simp only [Rep] at hr
    obtain ⟨l, rfl, hr⟩ := hr
    cases r with
    | tu ds =>
      simp only [FitR] at h
      simp only [AV.ids] at hn ⊢
      obtain ⟨L, h1, h2, h3⟩ := FitRL_ok S cs h hn hr
      exact ⟨L, by simp only [RepR]; exact ⟨l, rfl, h1⟩, h2, h3⟩
    | _ => simp [FitR] at h
  | .u, r, y, h, _, _ => by cases r <;> simp [FitR] at h
  | .pr _ _, r, y, h, _, _ => by cases r <;> simp [FitR] at h
  | .ow _ _ _, r, y, h, _, _ => by cases r <;> simp [FitR] at h
  | .bp _ _, r, y, h, _, _ => by cases r <;> simp [FitR] at h
  | .pe _, r, y, h, _, _ => by cases r <;> simp [FitR] at h
  | .le _ _ _ _, r, y, h, _, _ => by cases r <;> simp [FitR] at h
theorem FitRL_ok {w0 : Bs} {t : List AV} {s : Sto} {φ : Nat → Value} {a : Act} {w : World} (S : Sim w0 t s φ a w) : ∀ (cs : List AV) {ds : List AV} {l : List Value}, FitRL s cs ds → (AV.idsL cs).Nodup → RepL w0.heap.size w0 φ cs l → ∃ L, RepRL w0.heap.size w ds l L ∧ L.Nodup ∧ ∀ k ∈ L, ∃ id ∈ AV.idsL cs, (∃ b, gS s id = some b) ∧ bk (φ id) = some k
  | [], ds, l, h, _, hr => by
    cases ds with
    | nil => simp only [RepL] at hr; subst hr; exact ⟨[], by simp [RepRL], by simp, by simp⟩
    | cons d ds => simp [FitRL] at h
  | c :: cs, ds, l, h, hn, hr => by
    cases ds with
    | nil => simp [FitRL] at h
    | cons d ds =>
      simp only [FitRL] at h
      simp only [AV.idsL] at hn ⊢
      simp only [RepL] at hr
      obtain ⟨y, ys, rfl, hr1, hr2⟩ := hr
      obtain ⟨hn1, hn2, hdis⟩ := List.nodup_append.1 hn
      obtain ⟨L1, a1, a2, a3⟩ := FitR_ok S c h.1 hn1 hr1
      obtain ⟨L2, b1, b2, b3⟩ := FitRL_ok S cs h.2 hn2 hr2
      refine ⟨L1 ++ L2, by simp only [RepRL]; exact ⟨y, ys, L1, L2, rfl, rfl, a1, b1⟩, List.nodup_append.2 ⟨a2, b2, fun k hk k' hk' e => ?_⟩, fun k hk => ?_⟩
      · subst e
        obtain ⟨i, hi, ⟨bi, ei⟩, hbi⟩ := a3 k hk
        obtain ⟨j, hj, ⟨bj, ej⟩, hbj⟩ := b3 k hk'
        have hne : i ≠ j := hdis i hi j hj
        rcases S.apart i j bi bj ei ej hne with h9 | h9
        · rw [h9] at hbi; cases hbi
        · exact h9 (by rw [hbi, hbj])
      · rcases List.mem_append.1 hk with hk | hk
        · obtain ⟨i, hi, h9⟩ := a3 k hk
          exact ⟨i, List.mem_append_left _ hi, h9⟩
        · obtain ⟨i, hi, h9⟩ := b3 k hk
          exact ⟨i, List.mem_append_right _ hi, h9⟩
end
section
variable {P : Program} (ty : TypeId → Option TI)
def cellB (i : TI) (off : Nat) : Option Blk → Option AV
  | some (.box _ cs) => if off + i.size ≤ cs.length then some (cutA i.agg i.size (dp off cs)) else none
  | _ => none
def cellV : Option TI → AV → Sto → Option AV
  | some i, .bp id off, s => cellB i off (gS s id)
  | _, _, _ => none
def resL (t : List AV) (s : Sto) : List ResultVar → Option (List AV)
  | [] => some []
  | .tmp i :: l => (resL t s l).map (gT t i :: ·)
  | .cell i b :: l => (cellV (ty b) (gT t i) s).bind fun x => (resL t s l).map (x :: ·)
def FitO (s : Sto) : List AV → AV → Prop
  | [x], r => FitR s x r
  | [], .tu rs => FitRL s [] rs
  | x :: y :: l, .tu rs => FitRL s (x :: y :: l) rs
  | _, _ => False
def nodB (l : List Nat) : Bool := decide l.Nodup
def QR (rv : List ResultVar) (res : AV) : Qt
  | .ret, t, s => ∃ xs, resL ty t s rv = some xs ∧ nodB (AV.idsL xs) = true ∧ FitO s xs res
  | .normal, t, s => ∃ xs, resL ty t s rv = some xs ∧ nodB (AV.idsL xs) = true ∧ FitO s xs res
  | _, _, _ => False
variable {ty}
def resOne (tm : Array Value) : ResultVar → Sem Value
  | .tmp i => pure (tm.getD i undef)
  | .cell x b => do loadVar b (← asAddr (tm.getD x undef))
theorem resL_ok (T : TyOk P ty) {w0 : Bs} {t : List AV} {s : Sto} {φ : Nat → Value} {a : Act} {w : World} (S : Sim w0 t s φ a w) : ∀ {rv : List ResultVar} {xs : List AV}, resL ty t s rv = some xs →
    ∃ vs, (rv.mapM (resOne a.tmps)).run P w = .ok vs w ∧ RepL w0.heap.size w0 φ xs vs
  | [], xs, h => by simp only [resL] at h; obtain rfl := Option.some.inj h; exact ⟨[], by simp, by simp [RepL]⟩
  | .tmp i :: l, xs, h => by
    simp only [resL] at h
    obtain ⟨ys, h1, rfl⟩ := Option.map_eq_some_iff.1 h
    obtain ⟨vs, h2, h3⟩ := resL_ok T S h1
    have h4 := RepL_get i S.tmp
    refine ⟨a.tmps.getD i undef :: vs, by rw [List.mapM_cons]; simp only [Sem.run_bind, resOne, Sem.run_pure, Result.andThen_ok, h2], ?_⟩
    simp only [RepL]
    exact ⟨_, vs, rfl, by simpa [Array.getD_eq_getD_getElem?, List.getD_eq_getElem?_getD] using h4, h3⟩
  | .cell x b :: l, xs, h => by
    simp only [resL] at h
    obtain ⟨y, h0, h⟩ := Option.bind_eq_some_iff.1 h
    obtain ⟨ys, h1, rfl⟩ := Option.map_eq_some_iff.1 h
    obtain ⟨vs, h2, h3⟩ := resL_ok T S h1
    have h4 := RepL_get x S.tmp
    have h4 : Rep w0.heap.size w0 φ (gT t x) (a.tmps.getD x undef) := by simpa [Array.getD_eq_getD_getElem?, List.getD_eq_getElem?_getD] using h4
    cases ei : ty b with
    | none => rw [ei] at h0; simp [cellV] at h0
    | some i =>
      rw [ei] at h0
      cases ex : gT t x with
      | bp id off =>
        rw [ex] at h0 h4
        simp only [cellV] at h0
        cases eb : gS s id with
        | none => rw [eb] at h0; simp [cellB] at h0
        | some bl =>
          cases bl with
          | row e sz xs => rw [eb] at h0; simp [cellB] at h0
          | box tb cs =>
            rw [eb] at h0
            simp only [cellB] at h0
            split at h0
            · rename_i hn
              obtain rfl := Option.some.inj h0
              obtain ⟨g, c, g1, g2, g3, g4⟩ := S.blk id _ eb
              simp only [Rep] at h4
              obtain ⟨g', g5, g6⟩ := h4
              rw [g1] at g5
              obtain rfl : g = g' := by simpa using g5
              have hlen := RepL_len g4
              have Ti := T b i ei
              have hr := run_loadVar Ti (w := w) (ad := ⟨g, off, none⟩) (cs := (c.drop off).take i.size) (by rw [List.length_take, List.length_drop, ← hlen]; omega) (fun j u hu => by
                rw [addr_at]
                rw [cell_of_row w g (off + j) (List.toArray c) tb (0, 0) g3]
                rw [List.getElem?_take] at hu
                split at hu
                · rw [List.getElem?_drop] at hu; simpa using hu
                · cases hu)
              refine ⟨cutV i.agg ((c.drop off).take i.size) :: vs, by rw [List.mapM_cons]; simp only [Sem.run_bind, resOne, g6, asAddr, Sem.run_pure, Result.andThen_ok, hr, h2], ?_⟩
              simp only [RepL]
              refine ⟨_, vs, rfl, Rep_cut (size_one Ti) (RepL_drop off g4) ?_, h3⟩
              have hd : (dp off cs).length = cs.length - off := by rw [RepL_len (RepL_drop off g4), List.length_drop, hlen]
              omega
            · cases h0
      | _ => rw [ex] at h0; simp [cellV] at h0
theorem RepL_app {B : Nat} {w : World} {φ : Nat → Value} : ∀ {x y : List AV} {k l : List Value}, RepL B w φ x k → RepL B w φ y l → RepL B w φ (x ++ y) (k ++ l)
  | [], y, k, l, h1, h2 => by simp only [RepL] at h1; subst h1; exact h2
  | c :: cs, y, k, l, h1, h2 => by
    simp only [RepL] at h1
    obtain ⟨z, zs, rfl, h3, h4⟩ := h1
    simp only [List.cons_append, RepL]
    exact ⟨z, _, rfl, h3, RepL_app h4 h2⟩
theorem RepL_u {B : Nat} {w : World} {φ : Nat → Value} : ∀ (n : Nat) (v : Value), RepL B w φ (List.replicate n .u) (List.replicate n v)
  | 0, v => by simp [RepL]
  | n + 1, v => by simp only [List.replicate_succ, RepL]; exact ⟨v, _, rfl, by simp [Rep], RepL_u n v⟩
theorem Ctr_of (T : TyOk P ty) (hm : P.follows .mixedOrders = true) {f : FuncId} {fn : Func} {c : Code} (hf : P.funcs[f]? = some fn) (hname : (fn.name == "runtime.NumGoroutine") = false) (hb : fn.body = some c) (hc : okC ty c = true)
    {args : List AV} {res : AV} {n : Nat} {rv : List ResultVar} (hn : fn.ntmps = args.length + n) (hrv : fn.results = List.toArray rv) (h : EW P ty c (QR ty rv res) (args ++ List.replicate n .u) []) : Ctr P f args res := by
  refine ⟨enters_of hf hname hb, fun w ys hgl hys => calls_of_wp hf hb ?_⟩
  have hlen := RepL_len hys
  have S : Sim { toWorld := w, ws := w, φ0 := fun _ => undef, G := fun _ => False, gl := hgl } (args ++ List.replicate n .u) [] (fun _ => undef) { tmps := ys.toArray ++ Array.replicate (fn.ntmps - ys.toArray.size) undef, defers := [] } w := by
    refine ⟨Below.refl _ _, rfl, ?_, fun id b hb => by simp [gS] at hb, fun i j b c hb => by simp [gS] at hb, fun _ _ => rfl, fun _ _ _ => rfl, fun i b k hb => by simp [gS] at hb, Nat.le_refl _⟩
    have : fn.ntmps - ys.toArray.size = n := by simp only [List.size_toArray]; omega
    rw [this]
    simpa using RepL_app hys (RepL_u n undef)
  refine wp_mono (EW_ok T hm c hc h S) fun e a w' hq => ?_
  obtain ⟨φ, t, s, hq, S'⟩ := hq
  have key : (∃ xs, resL ty t s rv = some xs ∧ nodB (AV.idsL xs) = true ∧ FitO s xs res) → ∃ v, (results fn a.tmps).run P w' = .ok v w' ∧ ∃ y L, Ending.returned v = .returned y ∧ RepR w.heap.size w' res y L ∧ L.Nodup ∧ Below w.heap.size w w' := by
    rintro ⟨xs, h1, h2, h3⟩
    obtain ⟨vs, h4, h5⟩ := resL_ok T S' h1
    have h2 := of_decide_eq_true h2
    have hrun : (results fn a.tmps).run P w' = .ok (if h : vs.length = 1 then vs[0] else .tuple (List.toArray vs)) w' := by
      have e : results fn a.tmps = (do let vs ← fn.results.mapM (resOne a.tmps); pure (if h : vs.size = 1 then vs[0] else .tuple vs)) := by
        unfold results
        congr 1
      rw [e, hrv, List.mapM_toArray]
      simp only [Sem.run_bind, map_eq_pure_bind, h4, Result.andThen_ok, Sem.run_pure]
      simp
    have hl5 := RepL_len h5
    refine ⟨_, hrun, ?_⟩
    match xs, h3 with
    | [x], h3 =>
      simp only [List.length_cons, List.length_nil] at hl5
      simp only [RepL] at h5
      obtain ⟨y, zs, rfl, h6, rfl⟩ := h5
      simp only [AV.idsL, List.append_nil] at h2
      obtain ⟨L, h7, h8, _⟩ := FitR_ok S' x h3 h2 h6
      exact ⟨y, L, rfl, h7, h8, S'.below⟩
    | [], h3 =>
      cases res with
      | tu rs =>
        obtain ⟨L, h7, h8, _⟩ := FitRL_ok S' [] h3 h2 h5
        rw [dif_neg (by rw [← hl5]; simp)]
        exact ⟨_, L, rfl, by simp only [RepR]; exact ⟨vs, rfl, h7⟩, h8, S'.below⟩
      | _ => simp [FitO] at h3
    | x :: y :: l, h3 =>
      cases res with
      | tu rs =>
        obtain ⟨L, h7, h8, _⟩ := FitRL_ok S' (x :: y :: l) h3 h2 h5
        rw [dif_neg (by rw [← hl5]; simp)]
        exact ⟨_, L, rfl, by simp only [RepR]; exact ⟨vs, rfl, h7⟩, h8, S'.below⟩
      | _ => simp [FitO] at h3
  cases e with
  | ret => exact ⟨S'.defs, key hq⟩
  | normal => exact ⟨S'.defs, key hq⟩
  | _ => exact hq.elim
theorem run_results (T : TyOk P ty) {fn : Func} {rv : List ResultVar} (hrv : fn.results = List.toArray rv) {w0 : Bs} {t : List AV} {s : Sto} {φ : Nat → Value} {a : Act} {w : World} (S : Sim w0 t s φ a w) {xs : List AV} (h : resL ty t s rv = some xs) :
    ∃ vs, RepL w0.heap.size w0 φ xs vs ∧ (results fn a.tmps).run P w = .ok (if h : vs.length = 1 then vs[0] else .tuple (List.toArray vs)) w := by
  obtain ⟨vs, h4, h5⟩ := resL_ok T S h
  refine ⟨vs, h5, ?_⟩
  have e : results fn a.tmps = (do let vs ← fn.results.mapM (resOne a.tmps); pure (if h : vs.size = 1 then vs[0] else .tuple vs)) := by
    unfold results
    congr 1
  rw [e, hrv, List.mapM_toArray]
  simp only [Sem.run_bind, map_eq_pure_bind, h4, Result.andThen_ok, Sem.run_pure]
  simp
mutual
theorem RepR_base {B B' : Nat} {w : World} : ∀ {r : AV} {y : Value} {L : List Nat}, RepR B w r y L → (∀ k ∈ L, B' ≤ k) → RepR B' w r y L
  | .v x, y, L, h, _ => by simpa only [RepR] using h
  | .ag cs, y, L, h, hk => by
    simp only [RepR] at h ⊢
    obtain ⟨l, h1, h2⟩ := h
    exact ⟨l, h1, RepRL_base h2 hk⟩
  | .tu cs, y, L, h, hk => by
    simp only [RepR] at h ⊢
    obtain ⟨l, h1, h2⟩ := h
    exact ⟨l, h1, RepRL_base h2 hk⟩
  | .ow e sz xs, y, L, h, hk => by
    simp only [RepR] at h ⊢
    obtain ⟨⟨h1, h2⟩, h3, h4, rfl⟩ := h
    refine ⟨⟨h1, ?_⟩, h3, h4, rfl⟩
    rcases h2 with h2 | ⟨g, cap, cur, rfl, q⟩
    · exact .inl h2
    · exact .inr ⟨g, cap, cur, rfl, hk g (by simp [bk]), q.2⟩
  | .u, _, _, h, _ | .pr _ _, _, _, h, _ | .lo _, _, _, h, _ | .bp _ _, _, _, h, _ | .pe _, _, _, h, _ | .le _ _ _ _, _, _, h, _ | .vw _ _ _ _, _, _, h, _ => by simp [RepR] at h
theorem RepRL_base {B B' : Nat} {w : World} : ∀ {r : List AV} {y : List Value} {L : List Nat}, RepRL B w r y L → (∀ k ∈ L, B' ≤ k) → RepRL B' w r y L
  | [], y, L, h, _ => by simpa only [RepRL] using h
  | c :: cs, y, L, h, hk => by
    simp only [RepRL] at h ⊢
    obtain ⟨z, zs, L1, L2, rfl, rfl, h1, h2⟩ := h
    exact ⟨z, zs, L1, L2, rfl, rfl, RepR_base h1 fun k q => hk k (List.mem_append_left _ q), RepRL_base h2 fun k q => hk k (List.mem_append_right _ q)⟩
end
theorem RepL_noL {B : Nat} {w : World} {φ ψ : Nat → Value} {cs : List AV} {l : List Value} (hn : noL cs = true) (h : RepL B w φ cs l) : RepL B w ψ cs l :=
  RepL_frD (D := fun _ => True) (fun i hi => absurd trivial hi) (fun j _ => noL_fr j hn) h
theorem Fit_any {w0 : Bs} {t : List AV} {s : Sto} {φ : Nat → Value} {a : Act} {w : World} (S : Sim w0 t s φ a w) {xs : List AV} {vs : List Value} {res : AV} (h3 : FitO s xs res) (h2 : (AV.idsL xs).Nodup) (h5 : RepL w0.heap.size w0 φ xs vs) :
    ∃ L, RepR w0.heap.size w res (if h : vs.length = 1 then vs[0] else .tuple (List.toArray vs)) L ∧ L.Nodup ∧ ∀ k ∈ L, ∃ id ∈ AV.idsL xs, (∃ b, gS s id = some b) ∧ bk (φ id) = some k := by
  have hl5 := RepL_len h5
  match xs, h3 with
  | [x], h3 =>
    simp only [List.length_cons, List.length_nil] at hl5
    simp only [RepL] at h5
    obtain ⟨y, zs, rfl, h6, rfl⟩ := h5
    simp only [AV.idsL, List.append_nil] at h2 ⊢
    exact FitR_ok S x h3 h2 h6
  | [], h3 =>
    cases res with
    | tu rs =>
      obtain ⟨L, h7, h8, h9⟩ := FitRL_ok S [] h3 h2 h5
      rw [dif_neg (by rw [← hl5]; simp)]
      exact ⟨L, by simp only [RepR]; exact ⟨vs, rfl, h7⟩, h8, h9⟩
    | _ => simp [FitO] at h3
  | x :: y :: l, h3 =>
    cases res with
    | tu rs =>
      obtain ⟨L, h7, h8, h9⟩ := FitRL_ok S (x :: y :: l) h3 h2 h5
      rw [dif_neg (by rw [← hl5]; simp)]
      exact ⟨L, by simp only [RepR]; exact ⟨vs, rfl, h7⟩, h8, h9⟩
    | _ => simp [FitO] at h3
def QB (ty : TypeId → Option TI) (rv : List ResultVar) (res : AV) (R' : Sto) : Qt
  | .ret, t, s => subS s R' ∧ ∃ xs, resL ty t s rv = some xs ∧ nodB (AV.idsL xs) = true ∧ ((AV.idsL xs).all fun i => (gS R' i).isNone) = true ∧ FitO s xs res
  | .normal, t, s => subS s R' ∧ ∃ xs, resL ty t s rv = some xs ∧ nodB (AV.idsL xs) = true ∧ ((AV.idsL xs).all fun i => (gS R' i).isNone) = true ∧ FitO s xs res
  | _, _, _ => False
theorem CtrB_of (T : TyOk P ty) (hm : P.follows .mixedOrders = true) {f : FuncId} {fn : Func} {c : Code} (hf : P.funcs[f]? = some fn) (hname : (fn.name == "runtime.NumGoroutine") = false) (hb : fn.body = some c) (hc : okC ty c = true)
    {args : List AV} {res : AV} {R R' : Sto} {n : Nat} {rv : List ResultVar} (hn : fn.ntmps = args.length + n) (hrv : fn.results = List.toArray rv) (h15 : (R.all fun p => p.1 % 16 == 15) = true) (hk : R'.map (·.1) = R.map (·.1)) (hnd : (R'.map (·.1)).Nodup) (hno : (R'.all fun p => noB p.2) = true)
    (h : EW P ty c (QB ty rv res R') (args ++ List.replicate n .u) R) : CtrB P f args R res R' := by
  refine ⟨enters_of hf hname hb, hk, hnd, hno, fun w0 w φ ys hgl hB hys hS hap => calls_of_wp hf hb ?_⟩
  have hlen := RepL_len hys
  have S : Sim { toWorld := w0, ws := w, φ0 := φ, G := fun k => ∃ i b, gS R i = some b ∧ bk (φ i) = some k, gl := hgl } (args ++ List.replicate n .u) R φ { tmps := ys.toArray ++ Array.replicate (fn.ntmps - ys.toArray.size) undef, defers := [] } w := by
    refine ⟨hB, rfl, ?_, hS, hap, fun _ _ => rfl, fun _ _ _ => rfl, fun i b k hb hk => .inl ⟨i, b, hb, hk⟩, Nat.le_refl _⟩
    have : fn.ntmps - ys.toArray.size = n := by simp only [List.size_toArray]; omega
    rw [this]
    simpa using RepL_app hys (RepL_u n undef)
  refine wp_mono (EW_ok T hm c hc h S) fun e a w' hq => ?_
  obtain ⟨φ', t, s, hq, S'⟩ := hq
  have key15 : ∀ i b, gS R i = some b → φ' i = φ i := fun i b hb => S'.fix i (by
    have := List.all_eq_true.1 h15 _ (gS_mem hb)
    simpa using this)
  have key : (subS s R' ∧ ∃ xs, resL ty t s rv = some xs ∧ nodB (AV.idsL xs) = true ∧ ((AV.idsL xs).all fun i => (gS R' i).isNone) = true ∧ FitO s xs res) → ∃ v, (results fn a.tmps).run P w' = .ok v w' ∧ ∃ y L, Ending.returned v = .returned y ∧ RepR w.heap.size w' res y L ∧ L.Nodup ∧ Below w0.heap.size w0 w' ∧ w.heap.size ≤ w'.heap.size ∧
      (∀ i b, gS R' i = some b → BlkOk w0.heap.size w0 φ w' i b) ∧ ∀ k, k < w.heap.size → (∀ i b, gS R i = some b → bk (φ i) ≠ some k) → w'.heap[k]? = w.heap[k]? := by
    rintro ⟨hsub, xs, h1, h2, hnone, h3⟩
    have h2 := of_decide_eq_true h2
    obtain ⟨vs, h5, hrun⟩ := run_results T hrv S' h1
    obtain ⟨L, h7, h8, h9⟩ := Fit_any S' h3 h2 h5
    refine ⟨_, hrun, _, L, rfl, RepR_base h7 fun k hkL => ?_, h8, S'.below, S'.wsz, fun i b hb => ?_, fun k hk1 hk2 => S'.kept k hk1 fun hG => ?_⟩
    · obtain ⟨id, hid, ⟨b, hb⟩, hbk⟩ := h9 k hkL
      rcases S'.inn id b k hb hbk with ⟨i, b0, hi, hbi⟩ | q
      · have hidn := List.all_eq_true.1 hnone id hid
        have hne : id ≠ i := fun e => by
          have := gS_key hk (i := i)
          rw [hi, ← e] at this
          simp only [Option.isNone_iff_eq_none] at hidn
          rw [hidn] at this; cases this
        have hsi : ∃ b1, gS s i = some b1 := by
          have := gS_key hk (i := i)
          rw [hi] at this
          obtain ⟨b1, hb1⟩ := Option.isSome_iff_exists.1 this
          exact ⟨b1, subS_at hsub hb1⟩
        obtain ⟨b1, hb1⟩ := hsi
        rcases S'.apart id i b b1 hb hb1 hne with q | q
        · rw [q] at hbk; cases hbk
        · rw [hbk, key15 i b0 hi, hbi] at q; exact absurd rfl q
      · exact q
    · have h10 := S'.blk i b (subS_at hsub hb)
      have hi : ∃ b0, gS R i = some b0 := by
        have := gS_key hk (i := i)
        rw [hb] at this
        exact Option.isSome_iff_exists.1 this.symm
      obtain ⟨b0, hi⟩ := hi
      have e15 := key15 i b0 hi
      have hnb := List.all_eq_true.1 hno _ (gS_mem hb)
      cases b with
      | box tb cs =>
        obtain ⟨g, c, g1, g2, g3, g4⟩ := h10
        exact ⟨g, c, by rw [← e15]; exact g1, g2, g3, RepL_noL (by simpa [noB] using hnb) g4⟩
      | row e sz xs =>
        obtain ⟨g1, g2⟩ := h10
        rw [e15] at g1
        exact ⟨g1, g2⟩
    · obtain ⟨i, b, hi, hbi⟩ := hG
      exact hk2 i b hi hbi
  cases e with
  | ret => exact ⟨S'.defs, key hq⟩
  | normal => exact ⟨S'.defs, key hq⟩
  | _ => exact hq.elim
def isN (s : Sto) (tb : TypeId) (cs : List AV) : List AV → Prop
  | [.bp id 0] => gS s id = some (.box tb cs)
  | _ => False
def QN (ty : TypeId → Option TI) (rv : List ResultVar) (tb : TypeId) (cs : List AV) : Qt
  | .ret, t, s => ∃ xs, resL ty t s rv = some xs ∧ isN s tb cs xs
  | .normal, t, s => ∃ xs, resL ty t s rv = some xs ∧ isN s tb cs xs
  | _, _, _ => False
theorem CtrN_of (T : TyOk P ty) (hm : P.follows .mixedOrders = true) {f : FuncId} {fn : Func} {c : Code} (hf : P.funcs[f]? = some fn) (hname : (fn.name == "runtime.NumGoroutine") = false) (hb : fn.body = some c) (hc : okC ty c = true)
    {args : List AV} {tb : TypeId} {cs : List AV} {n : Nat} {rv : List ResultVar} (hn : fn.ntmps = args.length + n) (hrv : fn.results = List.toArray rv) (hno : noL cs = true)
    (h : EW P ty c (QN ty rv tb cs) (args ++ List.replicate n .u) []) : CtrN P f args tb cs := by
  refine ⟨enters_of hf hname hb, fun w0 w φ ys hgl hB hys => calls_of_wp hf hb ?_⟩
  have hlen := RepL_len hys
  have S : Sim { toWorld := w0, ws := w, φ0 := φ, G := fun _ => False, gl := hgl } (args ++ List.replicate n .u) [] φ { tmps := ys.toArray ++ Array.replicate (fn.ntmps - ys.toArray.size) undef, defers := [] } w := by
    refine ⟨hB, rfl, ?_, fun id b hb => by simp [gS] at hb, fun i j b c hb => by simp [gS] at hb, fun _ _ => rfl, fun _ _ _ => rfl, fun i b k hb => by simp [gS] at hb, Nat.le_refl _⟩
    have : fn.ntmps - ys.toArray.size = n := by simp only [List.size_toArray]; omega
    rw [this]
    simpa using RepL_app hys (RepL_u n undef)
  refine wp_mono (EW_ok T hm c hc h S) fun e a w' hq => ?_
  obtain ⟨φ', t, s, hq, S'⟩ := hq
  have key : (∃ xs, resL ty t s rv = some xs ∧ isN s tb cs xs) → ∃ v, (results fn a.tmps).run P w' = .ok v w' ∧ ∃ g c, Ending.returned v = .returned (.pointer (some ⟨g, 0, none⟩)) ∧ w.heap.size ≤ g ∧ w'.heap[g]? = some (.cells (List.toArray c) tb (0, 0)) ∧ RepL w0.heap.size w0 φ cs c ∧ Below w.heap.size w w' := by
    rintro ⟨xs, h1, h2⟩
    unfold isN at h2
    split at h2
    rotate_left
    · exact h2.elim
    rename_i id
    obtain ⟨vs, h5, hrun⟩ := run_results T hrv S' h1
    simp only [RepL] at h5
    obtain ⟨y, zs, rfl, h6, rfl⟩ := h5
    simp only [Rep] at h6
    obtain ⟨g', g5, rfl⟩ := h6
    obtain ⟨g, c, g1, g2, g3, g4⟩ := S'.blk id _ h2
    rw [g1] at g5
    obtain rfl : g = g' := by simpa using g5
    refine ⟨_, hrun, g, c, rfl, ?_, g3, RepL_noL hno g4, ⟨S'.below.os.trans hB.os.symm, S'.below.tape.trans hB.tape.symm, S'.below.output.trans hB.output.symm, S'.wsz, fun k hk => S'.kept k hk (fun hf => hf)⟩⟩
    rcases S'.inn id _ g h2 (by rw [g1]; rfl) with q | q
    · exact q.elim
    · exact q
  cases e with
  | ret => exact ⟨S'.defs, key hq⟩
  | normal => exact ⟨S'.defs, key hq⟩
  | _ => exact hq.elim
theorem CtrB_ren {f : FuncId} {args args' : List AV} {tb : TypeId} {cs cs' : List AV} {res : AV} {i : Nat} (h : CtrB P f args [(15, .box tb cs)] res [(15, .box tb cs')]) (ha : AV.renL [(15, i)] args = args') (h1 : noL cs = true) (h2 : noL cs' = true) :
    CtrB P f args' [(i, .box tb cs)] res [(i, .box tb cs')] := by
  subst ha
  obtain ⟨c1, _, _, _, c3⟩ := h
  have hrn : rn [(15, i)] 15 = i := by simp [rn]
  have one : ∀ {j k : Nat} {b c : Blk}, gS [(j, b)] k = some c → k = j ∧ c = b := fun h => by
    rw [gS_one] at h
    split at h
    · rename_i e; exact ⟨e.symm, (Option.some.inj h).symm⟩
    · cases h
  refine ⟨c1, rfl, by simp, by simp [noB, h2], fun w0 w φ ys hgl hB hys hS hap => ?_⟩
  refine (c3 w0 w (fun j => φ (rn [(15, i)] j)) ys hgl hB (RepL_ren hys) (fun j b hb => ?_) (fun j k b c hb hc hne => absurd ((one hb).1.trans (one hc).1.symm) hne)).mono ?_
  · obtain ⟨rfl, rfl⟩ := one hb
    obtain ⟨g, c, g1, g2, g3, g4⟩ := hS i _ (by rw [gS_one, if_pos rfl])
    exact ⟨g, c, by show φ (rn _ 15) = _; rw [hrn]; exact g1, g2, g3, RepL_noL h1 g4⟩
  · rintro e w' ⟨y, L, rfl, q1, q2, q3, q4, q5, q6⟩
    refine ⟨y, L, rfl, q1, q2, q3, q4, fun j b hb => ?_, fun k hk hk2 => q6 k hk fun j b hb => ?_⟩
    · obtain ⟨rfl, rfl⟩ := one hb
      obtain ⟨g, c, g1, g2, g3, g4⟩ := q5 15 _ (by rw [gS_one, if_pos rfl])
      refine ⟨g, c, ?_, g2, g3, RepL_noL h2 g4⟩
      rw [← g1]; show _ = φ (rn _ 15); rw [hrn]
    · obtain ⟨rfl, rfl⟩ := one hb
      have := hk2 i _ (by rw [gS_one, if_pos rfl])
      show bk (φ (rn _ 15)) ≠ _
      rw [hrn]; exact this
theorem CtrB_ren2 {f : FuncId} {args args' : List AV} {tb : TypeId} {cs cs' : List AV} {e : TypeId} {z : Nat} {xs xs' : List (List Value)} {res : AV} {i j : Nat} (h : CtrB P f args [(15, .box tb cs), (31, .row e z xs)] res [(15, .box tb cs'), (31, .row e z xs')]) (hij : nodB [i, j] = true) (ha : AV.renL [(15, i), (31, j)] args = args') (h1 : noL cs = true) (h2 : noL cs' = true) :
    CtrB P f args' [(i, .box tb cs), (j, .row e z xs)] res [(i, .box tb cs'), (j, .row e z xs')] := by
  subst ha
  obtain ⟨c1, _, _, _, c3⟩ := h
  have hn := of_decide_eq_true hij
  have hne : i ≠ j := by simpa using hn
  have hr1 : rn [(15, i), (31, j)] 15 = i := by simp [rn]
  have hr2 : rn [(15, i), (31, j)] 31 = j := by simp [rn]
  have two : ∀ {p q k : Nat} {a b c : Blk}, gS [(p, a), (q, b)] k = some c → (k = p ∧ c = a) ∨ (k = q ∧ c = b) := fun h => by
    simp only [gS] at h
    split at h
    · rename_i e; exact .inl ⟨e.symm, (Option.some.inj h).symm⟩
    · split at h
      · rename_i e; exact .inr ⟨e.symm, (Option.some.inj h).symm⟩
      · cases h
  have ga : ∀ {p q : Nat} {a b : Blk}, gS [(p, a), (q, b)] p = some a := by simp [gS]
  have gb : ∀ {p q : Nat} {a b : Blk}, p ≠ q → gS [(p, a), (q, b)] q = some b := fun h => by simp [gS, h]
  refine ⟨c1, rfl, hn, by simp [noB, h2], fun w0 w φ ys hgl hB hys hS hap => ?_⟩
  refine (c3 w0 w (fun k => φ (rn [(15, i), (31, j)] k)) ys hgl hB (RepL_ren hys) (fun k b hb => ?_) (fun k m b c hb hc hkm => ?_)).mono ?_
  · rcases two hb with ⟨rfl, rfl⟩ | ⟨rfl, rfl⟩
    · obtain ⟨g, c, g1, g2, g3, g4⟩ := hS i _ ga
      exact ⟨g, c, by show φ (rn _ 15) = _; rw [hr1]; exact g1, g2, g3, RepL_noL h1 g4⟩
    · have := hS j _ (gb hne)
      show BlkOk _ _ _ _ _ _
      obtain ⟨g1, g2⟩ := this
      exact ⟨by show w.ownsRow _ _ _ (φ (rn _ 31)) _ _; rw [hr2]; exact g1, g2⟩
  · show bk (φ (rn _ k)) = none ∨ bk (φ (rn _ k)) ≠ bk (φ (rn _ m))
    rcases two hb with ⟨rfl, rfl⟩ | ⟨rfl, rfl⟩ <;> rcases two hc with ⟨rfl, rfl⟩ | ⟨rfl, rfl⟩
    · exact absurd rfl hkm
    · rw [hr1, hr2]; exact hap i j _ _ ga (gb hne) hne
    · rw [hr1, hr2]; exact hap j i _ _ (gb hne) ga (Ne.symm hne)
    · exact absurd rfl hkm
  · rintro ee w' ⟨y, L, rfl, q1, q2, q3, q4, q5, q6⟩
    refine ⟨y, L, rfl, q1, q2, q3, q4, fun k b hb => ?_, fun k hk hk2 => q6 k hk fun m b hb => ?_⟩
    · rcases two hb with ⟨rfl, rfl⟩ | ⟨rfl, rfl⟩
      · obtain ⟨g, c, g1, g2, g3, g4⟩ := q5 15 _ ga
        refine ⟨g, c, ?_, g2, g3, RepL_noL h2 g4⟩
        rw [← g1]; show _ = φ (rn _ 15); rw [hr1]
      · obtain ⟨g1, g2⟩ := q5 31 _ (gb (by decide))
        have g1 : w'.ownsRow w0.heap.size e z (φ (rn [(15, i), (31, k)] 31)) xs'.length xs'.flatten := g1
        rw [hr2] at g1
        exact ⟨g1, g2⟩
    · show bk (φ (rn _ m)) ≠ _
      rcases two hb with ⟨rfl, rfl⟩ | ⟨rfl, rfl⟩
      · rw [hr1]; exact hk2 i _ ga
      · rw [hr2]; exact hk2 j _ (gb hne)
end
end Go.Proofs.YtdjdleldocfpaaaGreatDoor.F
end

section
namespace Go.Proofs.YtdjdleldocfpaaaGreatDoor.F
open Go.RowKit Go.Proofs.YtdjdleldocfpaaaGreatDoorW.PrintWords Go.Proofs.YtdjdleldocfpaaaGreatDoorW.PrintLast Go.Proofs.YtdjdleldocfpaaaGreatDoorW.PrintMore
set_option linter.unusedVariables false
set_option linter.unusedSimpArgs false
theorem W1 : (∀ x t, gT (x :: t) 0 = x) ∧ (∀ x t n, gT (x :: t) (n + 1) = gT t n) ∧ (∀ x t y, sT (x :: t) 0 y = y :: t) ∧ (∀ x t n y, sT (x :: t) (n + 1) y = x :: sT t n y) ∧
    (∀ t d y, pT t (some d) y = sT t d y) ∧ (∀ t y, pT t none y = t) ∧ (∀ t i, eT t (.tmp i) = gT t i) ∧ (∀ t x, eT t (.const x) = .v x) ∧
    (∀ i b s j, gS ((i, b) :: s) j = if i = j then some b else gS s j) ∧ (∀ j b, uS [] j b = [(j, b)]) ∧ (∀ i c s j b, uS ((i, c) :: s) j b = if i = j then (j, b) :: s else (i, c) :: uS s j b) ∧
    (∀ j, dS [] j = []) ∧ (∀ i c s j, dS ((i, c) :: s) j = if i = j then dS s j else (i, c) :: dS s j) ∧
    (∀ cs, AV.cells (.ag cs) = cs) ∧ (∀ x, AV.cells (.v x) = [.v x]) ∧ (∀ i, AV.cells (.lo i) = [.lo i]) ∧ (∀ i o, AV.cells (.bp i o) = [.bp i o]) ∧ (∀ z l, AV.cells (.pr z l) = [.pr z l]) ∧
    (∀ n x l, tk (n + 1) (x :: l) = x :: tk n l) ∧ (∀ l, tk 0 l = []) ∧ (∀ n x l, dp (n + 1) (x :: l) = dp n l) ∧ (∀ l, dp 0 l = l) ∧ (∀ x l, hd1 (x :: l) = x) ∧
    (∀ n cs, cutA true n cs = .ag (tk n cs)) ∧ (∀ n cs, cutA false n cs = hd1 cs) ∧ (∀ n l, putA n [] l = l) ∧ (∀ y ys x l, putA 0 (y :: ys) (x :: l) = y :: putA 0 ys l) ∧ (∀ n y ys x l, putA (n + 1) (y :: ys) (x :: l) = x :: putA n (y :: ys) l) ∧
    (vs [] = []) ∧ (∀ x l, vs (x :: l) = .v x :: vs l) ∧ (unv [] = []) ∧ (∀ x l, unv (.v x :: l) = x :: unv l) := by
  refine ⟨?_, ?_, ?_, ?_, ?_, ?_, ?_, ?_, ?_, ?_, ?_, ?_, ?_, ?_, ?_, ?_, ?_, ?_, ?_, ?_, ?_, ?_, ?_, ?_, ?_, ?_, ?_, ?_, ?_, ?_, ?_, ?_⟩ <;> intros <;> try rfl
  · rename_i n l; cases n <;> cases l <;> rfl
theorem W2 : (∀ s, toPL s [] = []) ∧ (∀ s c cs, toPL s (c :: cs) = toP s c :: toPL s cs) ∧ (∀ s cs, toP s (.ag cs) = .ag (toPL s cs)) ∧ (∀ s k n, toP s (.v (.int k n)) = .v (.int k n)) ∧ (∀ s b, toP s (.v (.bool b)) = .v (.bool b)) ∧
    (∀ s b, toP s (.v (.string b)) = .v (.string b)) ∧ (∀ s, toP s (.v (.slice none 0 0)) = .pr 1 []) ∧ (∀ s z x, toP s (.pr z x) = .pr z x) ∧
    (∀ s, toRL s [] = []) ∧ (∀ s c cs, toRL s (c :: cs) = toR s c :: toRL s cs) ∧ (∀ s cs, toR s (.ag cs) = .ag (toRL s cs)) ∧ (∀ s cs, toR s (.tu cs) = .tu (toRL s cs)) ∧ (∀ s x, toR s (.v x) = .v x) ∧
    (∀ n e z x, im n (.ow e z x) = (.lo n, [(n, .row e z x)], n + 1)) ∧ (∀ n x, im n (.v x) = (.v x, [], n)) ∧ (∀ n cs, im n (.ag cs) = (.ag (imL n cs).1, (imL n cs).2)) ∧ (∀ n cs, im n (.tu cs) = (.tu (imL n cs).1, (imL n cs).2)) ∧
    (∀ n, imL n [] = ([], [], n)) ∧ (∀ n c cs, imL n (c :: cs) = ((im n c).1 :: (imL (im n c).2.2 cs).1, (im n c).2.1 ++ (imL (im n c).2.2 cs).2.1, (imL (im n c).2.2 cs).2.2)) := by
  refine ⟨?_, ?_, ?_, ?_, ?_, ?_, ?_, ?_, ?_, ?_, ?_, ?_, ?_, ?_, ?_, ?_, ?_, ?_, ?_⟩ <;> intros <;> rfl
section
variable (P : Program) (ty : TypeId → Option TI)
theorem W3 : (∀ Q t s, EW P ty .skip Q t s = Q .normal t s) ∧ (∀ i l Q t s, EW P ty (.region i ⟨l⟩ false) Q t s = opsW P ty (gds l) false l t s (kN Q)) ∧ (∀ i l Q t s, EW P ty (.region i ⟨l⟩ true) Q t s = (dchk l t s = true ∧ opsW P ty (gds l) true l t s (kN Q))) ∧ (∀ a b Q t s, EW P ty (.seq a b) Q t s = EW P ty a (kS P ty b Q) t s) ∧
    (∀ c x y Q t s, EW P ty (.cond c x y) Q t s = cdK P ty (eT t c) x y Q t s) ∧ (∀ i b Q t s, EW P ty (.block i b) Q t s = EW P ty b (kB i Q) t s) ∧ (∀ i Q t s, EW P ty (.exit i) Q t s = Q (.exit i) t s) ∧ (∀ Q t s, EW P ty .ret Q t s = Q .ret t s) ∧
    (∀ b Q t s, EW P ty (.loop b) Q t s = loopK P ty b Q t s) ∧
    (∀ Q t s, kN Q t s = Q .normal t s) ∧ (∀ b Q t s, kS P ty b Q .normal t s = EW P ty b Q t s) ∧ (∀ b Q i t s, kS P ty b Q (.exit i) t s = Q (.exit i) t s) ∧ (∀ b Q t s, kS P ty b Q .ret t s = Q .ret t s) ∧
    (∀ j i Q t s, kB j Q (.exit i) t s = if i = j then Q .normal t s else Q (.exit i) t s) ∧ (∀ j Q t s, kB j Q .normal t s = Q .normal t s) ∧ (∀ j Q t s, kB j Q .ret t s = Q .ret t s) ∧
    (∀ x y Q t s, cdK P ty (.v (.bool true)) x y Q t s = EW P ty x Q t s) ∧ (∀ x y Q t s, cdK P ty (.v (.bool false)) x y Q t s = EW P ty y Q t s) ∧
    (∀ g q t s K, opsW P ty g q [] t s K = K t s) ∧ (∀ g q d op o p a r t s K, opsW P ty g q (⟨d, op, o, p, a, none⟩ :: r) t s K = opX P ty (q && rot (ty o) op) op o d t s (kO P ty g (q && rot (ty o) op) r K)) ∧
    (∀ g q d op o p a i b r t s K, opsW P ty g q (⟨d, op, o, p, a, some (i, b)⟩ :: r) t s K = gdK P ty (gV t (gG g i)) b (q && rot (ty o) op) op o d g r t s K) ∧ (∀ g q r K t s, kO P ty g q r K t s = opsW P ty g q r t s K) ∧
    (∀ b q op o d g r t s K, gdK P ty (.v undef) b q op o d g r t s K = opsW P ty g q r (pT t d (.v undef)) s K) ∧ (∀ t d, gV t (some d) = gT t d) ∧ (∀ x l, gG (x :: l) 0 = x) ∧ (∀ x l n, gG (x :: l) (n + 1) = gG l n) ∧ (gds [] = []) ∧ (∀ o l, gds (o :: l) = o.dst :: gds l) ∧
    (∀ q op o d g r t s K, gdK P ty (.v (.bool true)) true q op o d g r t s K = opX P ty q op o d t s (kO P ty g q r K)) ∧ (∀ q op o d g r t s K, gdK P ty (.v (.bool false)) false q op o d g r t s K = opX P ty q op o d t s (kO P ty g q r K)) ∧
    (∀ q op o d g r t s K, gdK P ty (.v (.bool true)) false q op o d g r t s K = opsW P ty g q r (pT t d (.v undef)) s K) ∧ (∀ q op o d g r t s K, gdK P ty (.v (.bool false)) true q op o d g r t s K = opsW P ty g q r (pT t d (.v undef)) s K) := by
  refine ⟨?_, ?_, ?_, ?_, ?_, ?_, ?_, ?_, ?_, ?_, ?_, ?_, ?_, ?_, ?_, ?_, ?_, ?_, ?_, ?_, ?_, ?_, ?_, ?_, ?_, ?_, ?_, ?_, ?_, ?_, ?_, ?_⟩ <;> intros <;> first | rfl | (simp only [EW]; simp)
theorem W4 : (∀ q x o d t s K, opX P ty q (.move x) o d t s K = K (pT t d (eT t x)) s) ∧ (∀ q o d t s K, opX P ty q (.assign (.const (.slice none 0 0))) o d t s K = nilW ty (ty o) d t s K) ∧ (∀ q i o d t s K, opX P ty q (.assign (.tmp i)) o d t s K = K (pT t d (gT t i)) s) ∧
    (∀ q k n o d t s K, opX P ty q (.assign (.const (.int k n))) o d t s K = K (pT t d (.v (.int k n))) s) ∧ (∀ q b o d t s K, opX P ty q (.assign (.const (.bool b))) o d t s K = K (pT t d (.v (.bool b))) s) ∧ (∀ q b o d t s K, opX P ty q (.assign (.const (.string b))) o d t s K = K (pT t d (.v (.string b))) s) ∧
    (∀ q c a b o d t s K, opX P ty q (.pick c a b) o d t s K = pickW (eT t c) (eT t a) (eT t b) d t s K) ∧ (∀ q b o d t s K, opX P ty q (.alloc b) o d t s K = alW b (ty b) d t s K) ∧ (∀ q b x o d t s K, opX P ty q (.box b x) o d t s K = boxW b (eT t x).cells d t s K) ∧
    (∀ q b x o d t s K, opX P ty q (.load b x) o d t s K = loadW ty (ty b) (eT t x) d t s K) ∧ (∀ q b a x o t s K, opX P ty q (.store b a x) o none t s K = (q = false ∧ storeW (ty b) (eT t a) (eT t x) t s K)) ∧ (∀ q b x f o d t s K, opX P ty q (.fieldAddr b x f) o d t s K = faW (((ty b).map (·.fs)).bind (nthN · f)) (eT t x) d t s K) ∧
    (∀ q b x i o d t s K, opX P ty q (.indexAddr b x i) o d t s K = idxW ty (ty b) (eT t x) (eT t i) d t s K) ∧ (∀ q op a x y b o d t s K, opX P ty q (.binOp op a x y b) o d t s K = binX P a (ty a) op (eT t x) (eT t y) d t s K) ∧ (∀ q a x o d t s K, opX P ty q (.unOp .not a x) o d t s K = notW (eT t x) d t s K) ∧
    (∀ q x n o d t s K, opX P ty q (.extract x n) o d t s K = extW (eT t x) n d t s K) ∧ (∀ q x o d t s K, opX P ty q (.nilCheck x) o d t s K = chkW (eT t x) d t s K) ∧ (∀ q b x y o d t s K, opX P ty q (.makeSlice b x y) o d t s K = mkW ty (ty b) (eT t x) (eT t y) d t s K) ∧
    (∀ q b ps o d t s K, opX P ty q (.build b ⟨ps⟩) o d t s K = bldW (ty b) t ps d t s K) ∧ (∀ q b n ps o d t s K, opX P ty q (.buildSlice b n ⟨ps⟩) o d t s K = litT ty (ty b) n ps d t s K) ∧ (∀ q f l a o d t s K, opX P ty q (.call ⟨.value (.func f), ⟨l⟩, a⟩) o d t s K = callW P q f (mapE t l) d t s K) ∧ (∀ q x b o d t s K, opX P ty q (.call ⟨.builtin .len, ⟨[x]⟩, ⟨[b]⟩⟩) o d t s K = (lenT ty (ty b) (eT t x) = true ∧ lenW (eT t x) d t s K)) ∧
    (∀ q x y t1 t2 o d t s K, opX P ty q (.call ⟨.builtin .append, ⟨[x, y]⟩, ⟨[t1, t2]⟩⟩) o d t s K = (q = false ∧ appT t1 t2 ((ty t2).map (·.zero)) (eT t y) = true ∧ appW ty (ty t1) (eT t x) (eT t y) d t s K)) ∧ (∀ q x y a o d t s K, opX P ty q (.call ⟨.builtin .min, ⟨[x, y]⟩, a⟩) o d t s K = mmW true (eT t x) (eT t y) d t s K) ∧ (∀ q x y a o d t s K, opX P ty q (.call ⟨.builtin .max, ⟨[x, y]⟩, a⟩) o d t s K = mmW false (eT t x) (eT t y) d t s K) ∧
    (∀ t, mapE t [] = []) ∧ (∀ t x l, mapE t (x :: l) = eT t x :: mapE t l) := by
  refine ⟨?_, ?_, ?_, ?_, ?_, ?_, ?_, ?_, ?_, ?_, ?_, ?_, ?_, ?_, ?_, ?_, ?_, ?_, ?_, ?_, ?_, ?_, ?_, ?_, ?_, ?_, ?_⟩ <;> intros <;> (first | rfl | (unfold opX cW; simp) | (unfold opX; simp))
theorem W5 : (∀ a b d t s K, pickW (.v (.bool true)) a b d t s K = K (pT t d a) s) ∧ (∀ a b d t s K, pickW (.v (.bool false)) a b d t s K = K (pT t d b) s) ∧ (∀ b i d t s K, alW b (some i) d t s K = boxW b (vs i.zero) d t s K) ∧
    (∀ i id off d t s K, loadW ty (some i) (.bp id off) d t s K = loadB (gS s id) i off d t s K) ∧ (∀ i cs d t s K, loadW ty (some i) (.pe cs) d t s K = (i.size ≤ cs.length ∧ K (pT t d (cutA i.agg i.size (vs cs))) s)) ∧ (∀ i id z n off d t s K, loadW ty (some i) (.le id z n off) d t s K = loadE ty (gS s id) i z n off d t s K) ∧
    (∀ b cs i off d t s K, loadB (some (.box b cs)) i off d t s K = (off + i.size ≤ cs.length ∧ K (pT t d (cutA i.agg i.size (dp off cs))) s)) ∧
    (∀ i id off x t s K, storeW (some i) (.bp id off) x t s K = storeB (gS s id) id i off x.cells t s K) ∧ (∀ i id z n off x t s K, storeW (some i) (.le id z n off) x t s K = storeE (gS s id) id i z n off x.cells t s K) ∧
    (∀ b cs id i off c t s K, storeB (some (.box b cs)) id i off c t s K = (c.length = i.size ∧ off + i.size ≤ cs.length ∧ cellsOk c = true ∧ K t (uS s id (.box b (putA off c cs))))) ∧
    (∀ e z xs id i z' n off c t s K, storeE (some (.row e z xs)) id i z' n off c t s K = (z' = z ∧ off = 0 ∧ i.size = z ∧ c.length = z ∧ plainOk c = true ∧ K t (uS s id (.row e z (sR xs n (unv c)))))) ∧
    (∀ o id off d t s K, faW (some o) (.bp id off) d t s K = K (pT t d (.bp id (off + o))) s) ∧ (∀ o cs d t s K, faW (some o) (.pe cs) d t s K = K (pT t d (.pe (cs.drop o))) s) ∧ (∀ o id z i off d t s K, faW (some o) (.le id z i off) d t s K = K (pT t d (.le id z i (off + o))) s) ∧
    (∀ ti z xs k n d t s K, idxW ty (some ti) (.pr z xs) (.v (.int k n)) d t s K = ∃ q, (ty ti.el).map (·.zero) = some q ∧ q.length = z ∧ 0 ≤ n ∧ n < (xs.length : Int) ∧ K (pT t d (.pe (gR q xs n))) s) ∧ (∀ ti id k n d t s K, idxW ty (some ti) (.lo id) (.v (.int k n)) d t s K = idxE ty ti.el (gS s id) id n d t s K) ∧
    (∀ el e z xs id n d t s K, idxE ty el (some (.row e z xs)) id n d t s K = ((∃ j, ty el = some j ∧ j.size = z) ∧ 0 ≤ n ∧ n < (xs.length : Int) ∧ K (pT t d (.le id z n 0)) s)) ∧
    (∀ z xs d t s K, lenW (.pr z xs) d t s K = K (pT t d (.v (.int .i64 (xs.length : Int)))) s) ∧ (∀ id d t s K, lenW (.lo id) d t s K = lenB (gS s id) d t s K) ∧ (∀ e z xs d t s K, lenB (some (.row e z xs)) d t s K = K (pT t d (.v (.int .i64 (xs.length : Int)))) s) ∧
    (∀ op a b d t s K, binW op (.v (.int .i64 a)) (.v (.int .i64 b)) d t s K = (kok op .i64 .i64 = true ∧ bok op b ∧ K (pT t d (.v (bval op .i64 a b))) s)) ∧ (∀ b d t s K, notW (.v (.bool b)) d t s K = K (pT t d (.v (.bool (!b)))) s) ∧
    (∀ cs n d t s K, extW (.tu cs) n d t s K = exW cs n d t s K) ∧ (∀ x l d t s K, exW (x :: l) 0 d t s K = K (pT t d x) s) ∧ (∀ x l n d t s K, exW (x :: l) (n + 1) d t s K = exW l n d t s K) ∧
    (∀ b c d t s K, boxW b c (some d) t s K = (cellsOk c = true ∧ free (16 * d) t s = true ∧ K (sT t d (.bp (16 * d) 0)) (uS s (16 * d) (.box b c)))) ∧ (∀ e z xs d t s K, rowW e z xs (some d) t s K = (free (16 * d) (sT t d .u) s = true ∧ K (sT t d (.lo (16 * d))) (uS s (16 * d) (.row e z xs)))) := by
  refine ⟨?_, ?_, ?_, ?_, ?_, ?_, ?_, ?_, ?_, ?_, ?_, ?_, ?_, ?_, ?_, ?_, ?_, ?_, ?_, ?_, ?_, ?_, ?_, ?_, ?_, ?_, ?_⟩ <;> intros <;> (first | rfl | (unfold binW; rfl) | (unfold idxW; simp only))
theorem W7 : (∀ i x, rot i (.move x) = true) ∧ (∀ i a b c, rot i (.pick a b c) = true) ∧ (∀ i a b, rot i (.load a b) = true) ∧ (∀ i a b c, rot i (.fieldAddr a b c) = true) ∧ (∀ i a b c, rot i (.indexAddr a b c) = true) ∧ (∀ i a b c d e, rot i (.binOp a b c d e) = true) ∧ (∀ i a b c, rot i (.unOp a b c) = true) ∧
    (∀ i a b, rot i (.extract a b) = true) ∧ (∀ i a, rot i (.nilCheck a) = true) ∧ (∀ i a b c, rot i (.assign (.const (.slice a b c))) = true) ∧ (∀ j i, rot j (.assign (.tmp i)) = true) ∧ (∀ j k n, rot j (.assign (.const (.int k n))) = true) ∧ (∀ j b, rot j (.assign (.const (.bool b))) = true) ∧ (∀ j b, rot j (.assign (.const (.string b))) = true) ∧
    (∀ i f a b, rot i (.call ⟨.value f, a, b⟩) = true) ∧ (∀ i a b, rot i (.call ⟨.builtin .len, a, b⟩) = true) ∧ (∀ i a b, rot i (.call ⟨.builtin .min, a, b⟩) = true) ∧ (∀ i a b, rot i (.call ⟨.builtin .max, a, b⟩) = true) ∧ (∀ i a b, rot i (.call ⟨.builtin .append, a, b⟩) = false) ∧
    (∀ i a b, rot i (.box a b) = true) ∧ (∀ i a, rot i (.alloc a) = true) ∧ (∀ i a b, rot i (.build a b) = true) ∧ (∀ i a b c, rot i (.store a b c) = false) ∧ (∀ i a b c, rot i (.makeSlice a b c) = true) ∧ (∀ i a b c, rot i (.buildSlice a b c) = true) ∧ (∀ b : Bool, (true && b) = b) ∧ (∀ b : Bool, (false && b) = false) := by
  refine ⟨?_, ?_, ?_, ?_, ?_, ?_, ?_, ?_, ?_, ?_, ?_, ?_, ?_, ?_, ?_, ?_, ?_, ?_, ?_, ?_, ?_, ?_, ?_, ?_, ?_, ?_, ?_⟩ <;> intros <;> first | rfl | (rename_i b; cases b <;> rfl)
theorem W6 : (kok .add .i64 .i64 = true) ∧ (kok .sub .i64 .i64 = true) ∧ (kok .mul .i64 .i64 = true) ∧ (kok .quo .i64 .i64 = true) ∧ (kok .rem .i64 .i64 = true) ∧ (kok .and .i64 .i64 = true) ∧ (kok .or .i64 .i64 = true) ∧ (kok .xor .i64 .i64 = true) ∧ (kok .andNot .i64 .i64 = true) ∧
    (kok .shl .i64 .i64 = true) ∧ (kok .shr .i64 .i64 = true) ∧ (kok .lss .i64 .i64 = true) ∧ (kok .leq .i64 .i64 = true) ∧ (kok .gtr .i64 .i64 = true) ∧ (kok .geq .i64 .i64 = true) ∧ (kok .eql .i64 .i64 = true) ∧ (kok .neq .i64 .i64 = true) ∧
    (∀ b, bok .add b = True) ∧ (∀ b, bok .sub b = True) ∧ (∀ b, bok .mul b = True) ∧ (∀ b, bok .and b = True) ∧ (∀ b, bok .or b = True) ∧ (∀ b, bok .xor b = True) ∧ (∀ b, bok .andNot b = True) ∧ (∀ b, bok .lss b = True) ∧ (∀ b, bok .leq b = True) ∧ (∀ b, bok .gtr b = True) ∧ (∀ b, bok .geq b = True) ∧ (∀ b, bok .eql b = True) ∧ (∀ b, bok .neq b = True) ∧
    (∀ b, bok .quo b = (b ≠ 0)) ∧ (∀ b, bok .rem b = (b ≠ 0)) ∧ (∀ b, bok .shl b = (0 ≤ b)) ∧ (∀ b, bok .shr b = (0 ≤ b)) ∧
    (∀ a b, bval .add .i64 a b = .int .i64 (wrap64 (a + b))) ∧ (∀ a b, bval .sub .i64 a b = .int .i64 (wrap64 (a - b))) ∧ (∀ a b, bval .mul .i64 a b = .int .i64 (wrap64 (a * b))) ∧ (∀ a b, bval .quo .i64 a b = .int .i64 (wrap64 (Int.tdiv a b))) ∧ (∀ a b, bval .rem .i64 a b = .int .i64 (Int.tmod a b)) ∧
    (∀ a b, bval .shl .i64 a b = .int .i64 (shl .i64 a b)) ∧ (∀ a b, bval .shr .i64 a b = .int .i64 (shr .i64 a b)) ∧ (∀ a b, bval .and .i64 a b = .int .i64 (Go.bits .and .i64 a b)) ∧ (∀ a b, bval .or .i64 a b = .int .i64 (Go.bits .or .i64 a b)) ∧ (∀ a b, bval .xor .i64 a b = .int .i64 (Go.bits .xor .i64 a b)) ∧ (∀ a b, bval .andNot .i64 a b = .int .i64 (Go.bits .andNot .i64 a b)) ∧
    (∀ a b, bval .lss .i64 a b = .bool (decide (a < b))) ∧ (∀ a b, bval .leq .i64 a b = .bool (decide (a ≤ b))) ∧ (∀ a b, bval .gtr .i64 a b = .bool (decide (a > b))) ∧ (∀ a b, bval .geq .i64 a b = .bool (decide (a ≥ b))) ∧ (∀ a b, bval .eql .i64 a b = .bool (a == b)) ∧ (∀ a b, bval .neq .i64 a b = .bool (a != b)) := by
  refine ⟨rfl, rfl, rfl, rfl, rfl, rfl, rfl, rfl, rfl, rfl, rfl, rfl, rfl, rfl, rfl, rfl, rfl, ?_⟩
  refine ⟨?_, ?_, ?_, ?_, ?_, ?_, ?_, ?_, ?_, ?_, ?_, ?_, ?_, ?_, ?_, ?_, ?_, ?_, ?_, ?_, ?_, ?_, ?_, ?_, ?_, ?_, ?_, ?_, ?_, ?_, ?_, ?_, ?_, ?_⟩ <;> intros <;> rfl
end
end Go.Proofs.YtdjdleldocfpaaaGreatDoor.F
end

section
namespace Go.Proofs.YtdjdleldocfpaaaGreatDoor.F
open Go.RowKit Go.Proofs.YtdjdleldocfpaaaGreatDoorW.PrintWords Go.Proofs.YtdjdleldocfpaaaGreatDoorW.PrintLast Go.Proofs.YtdjdleldocfpaaaGreatDoorW.PrintMore
set_option linter.unusedVariables false
set_option linter.unusedSimpArgs false
def fsOk (P : Program) (fs : Array Field) : List Nat → Nat → Bool
  | [], _ => true
  | o :: l, k => (match fs[k]? with
    | some fl => fl.offset == o && (match P.info? fl.type with | some fi => fi.size != 0 | none => false)
    | none => false) && fsOk P fs l (k + 1)
def blB (P : Program) (t : TypeId) : List Value → Bool
  | [.bool false] => match P.underlying t with | some .bool => true | _ => false
  | _ => true
def itB (P : Program) (t : TypeId) : List Value → Bool
  | [.int k _] => match P.underlying t with | some (.int k') => k' == k | _ => false
  | _ => true
def stB (P : Program) (t : TypeId) : List Value → Bool
  | [.string _] => match P.underlying t with | some .string => true | _ => false
  | _ => true
def plB (P : Program) (t : TypeId) (i : TI) : Bool := !i.agg || i.fs.isEmpty || match P.underlying t with
  | some (.struct ⟨l⟩) => (l.map fun fl => (fl.offset, (P.info? fl.type).map (·.size))) == ((plc i.size i.fs).map fun p => (p.1, some p.2))
  | _ => false
def okT (P : Program) (ty : TypeId → Option TI) (t : TypeId) (i : TI) : Bool :=
  (match P.info? t with
  | some f => f.size == i.size && f.bytes == i.bytes && (i.agg || (match f.zero with | some (.agg _) => false | some (.tuple _) => false | some _ => true | none => false))
  | none => false) && i.zero.length == i.size && i.zero.all plainV &&
  (match P.underlying t with
  | some (.struct fs) => i.agg && fsOk P fs i.fs 0 && (ty i.el).isNone && !i.fs.isEmpty
  | some (.array n e) => i.agg && i.fs.isEmpty && n == i.size && (match P.info? e with | some fe => fe.size == 1 | none => false) && (ty i.el).isNone
  | some (.slice e) => !i.agg && i.size == 1 && i.fs.isEmpty && ((ty i.el).isNone || i.el == e)
  | some _ => !i.agg && i.size == 1 && i.fs.isEmpty && (ty i.el).isNone
  | none => false) && blB P t i.zero && plB P t i && itB P t i.zero && stB P t i.zero
theorem fsOk_at {P : Program} {fs : Array Field} : ∀ {l : List Nat} {k f o : Nat}, fsOk P fs l k = true → nthN l f = some o → ∃ fl, fs[k + f]? = some fl ∧ fl.offset = o ∧ ∃ fi, P.info? fl.type = some fi ∧ fi.size ≠ 0
  | [], k, f, o, _, h => by simp [nthN] at h
  | x :: l, k, 0, o, h, hf => by
    simp only [fsOk, Bool.and_eq_true] at h
    simp only [nthN, Option.some.injEq] at hf
    subst hf
    have h1 := h.1
    split at h1
    · rename_i fl e
      simp only [Bool.and_eq_true, beq_iff_eq] at h1
      obtain ⟨h1, h2⟩ := h1
      split at h2
      · rename_i fi e2
        exact ⟨fl, e, h1, fi, e2, by simpa using h2⟩
      · cases h2
    · cases h1
  | x :: l, k, f + 1, o, h, hf => by
    simp only [fsOk, Bool.and_eq_true] at h
    have := fsOk_at h.2 (f := f) (by simpa [nthN] using hf)
    rwa [show k + 1 + f = k + (f + 1) by omega] at this
theorem mkTI {P : Program} {ty : TypeId → Option TI} {t : TypeId} {i : TI} (h : okT P ty t i = true) (hz : ((P.info? t).bind (·.zero)).map (·.cells) = some (List.toArray i.zero)) : TIok P ty t i := by
  unfold okT at h
  simp only [Bool.and_eq_true, beq_iff_eq] at h
  obtain ⟨⟨⟨⟨⟨⟨⟨h1, h2⟩, h3⟩, h4⟩, hbl⟩, hpl⟩, hit⟩, hst⟩ := h
  have hnf : ∃ f, P.info? t = some f ∧ f.size = i.size ∧ f.bytes = i.bytes ∧ ∃ z, f.zero = some z ∧ z.cells = List.toArray i.zero ∧ (i.agg = false → z.cells = #[z]) := by
    split at h1
    · rename_i f e
      simp only [Bool.and_eq_true, beq_iff_eq, Bool.or_eq_true] at h1
      rw [e] at hz
      simp only [Option.bind_some] at hz
      obtain ⟨z, e2, e3⟩ := Option.map_eq_some_iff.1 hz
      refine ⟨f, e, h1.1.1, h1.1.2, z, e2, e3, fun ha => ?_⟩
      rcases h1.2 with h5 | h5
      · rw [ha] at h5; cases h5
      · rw [e2] at h5
        cases z <;> first | rfl | (simp at h5)
    · cases h1
  have hit' : ∀ k, kindOf i.zero = some k → P.underlying t = some (.int k) := fun k hk => by
    unfold kindOf at hk
    unfold itB at hit
    split at hk
    · rename_i k0 n0 e
      obtain rfl := Option.some.inj hk
      rw [e] at hit
      simp only at hit
      split at hit
      · rename_i k1 e1; rw [e1, show k1 = _ from by simpa using hit]
      · cases hit
    · cases hk
  have hst' : strZ i.zero = true → P.underlying t = some .string := fun hk => by
    unfold strZ at hk
    unfold stB at hst
    split at hk
    · rename_i e
      rw [e] at hst
      simp only at hst
      split at hst
      · assumption
      · cases hst
    · cases hk
  refine ⟨hnf, ⟨h2, h3⟩, ?_, fun j hj => ?_, fun hz => ?_, hit', fun hg hf => ?_, hst', fun hg hne => ?_⟩
  · split at h4
    · rename_i fs e
      simp only [Bool.and_eq_true] at h4
      refine .inl ⟨h4.1.1.1, fs, e, fun f o hf => ?_⟩
      have := fsOk_at h4.1.1.2 hf
      rwa [Nat.zero_add] at this
    · rename_i n e hu
      simp only [Bool.and_eq_true, beq_iff_eq, List.isEmpty_iff] at h4
      obtain ⟨⟨⟨⟨a1, a2⟩, a3⟩, a4⟩, a5⟩ := h4
      split at a4
      · rename_i fe e1; exact .inr (.inr ⟨a1, a2, e, fe, by rw [hu, a3], e1, by simpa using a4⟩)
      · cases a4
    · rename_i e
      simp only [Bool.and_eq_true, Bool.not_eq_true', beq_iff_eq, List.isEmpty_iff] at h4
      exact .inr (.inl ⟨h4.1.1.1, h4.1.1.2, h4.1.2, _, e, ⟨fun x e' => TypeDesc.noConfusion e', fun x y e' => TypeDesc.noConfusion e'⟩⟩)
    · rename_i d h5 h6 h7 e
      simp only [Bool.and_eq_true, Bool.not_eq_true', beq_iff_eq, List.isEmpty_iff] at h4
      exact .inr (.inl ⟨h4.1.1.1, h4.1.1.2, h4.1.2, d, e, fun x e' => h5 x (by rw [e']), fun x y e' => h6 x y (by rw [e'])⟩)
    · cases h4
  · split at h4
    · simp only [Bool.and_eq_true, Option.isNone_iff_eq_none] at h4; rw [h4.1.2] at hj; cases hj
    · simp only [Bool.and_eq_true, Option.isNone_iff_eq_none] at h4; rw [h4.2] at hj; cases hj
    · rename_i e' e
      simp only [Bool.and_eq_true, Bool.or_eq_true, Option.isNone_iff_eq_none, beq_iff_eq] at h4
      rcases h4.2 with h5 | h5
      · rw [h5] at hj; cases hj
      · rw [e, h5]
    · simp only [Bool.and_eq_true, Option.isNone_iff_eq_none] at h4; rw [h4.2] at hj; cases hj
    · cases h4
  · rw [hz] at hbl
    unfold blB at hbl
    split at hbl
    · split at hbl
      · assumption
      · cases hbl
    · rename_i hne; exact absurd rfl hne
  · split at h4
    · simp only [Bool.and_eq_true, Bool.not_eq_true'] at h4; rw [hf] at h4; exact absurd h4.2 (by simp)
    · rename_i n e hu
      simp only [Bool.and_eq_true, beq_iff_eq, List.isEmpty_iff] at h4
      obtain ⟨⟨⟨⟨a1, a2⟩, a3⟩, a4⟩, a5⟩ := h4
      split at a4
      · rename_i fe e1; exact ⟨e, fe, by rw [hu, a3], e1, by simpa using a4⟩
      · cases a4
    · simp only [Bool.and_eq_true, Bool.not_eq_true'] at h4; rw [hg] at h4; exact absurd h4.1.1.1 (by simp)
    · simp only [Bool.and_eq_true, Bool.not_eq_true'] at h4; rw [hg] at h4; exact absurd h4.1.1.1 (by simp)
    · cases h4
  · unfold plB at hpl
    rw [hg, hne] at hpl
    simp only [Bool.not_true, Bool.false_or] at hpl
    split at hpl
    · rename_i l e
      exact ⟨l, e, by simpa using hpl⟩
    · cases hpl
theorem bnd {α β : Type} {x : Option α} {f : α → Option β} {r : β} (h : x.bind f = some r) : ∃ t, x = some t ∧ f t = some r := Option.bind_eq_some_iff.1 h
section
variable {P : Program} {ty : TypeId → Option TI}
theorem loopR {ι : Type} (T : ι → List AV) (S : ι → Sto) (F : Nat → ι → Prop) {n : Nat} (x : ι) {b : Code} {Q : Qt} {t : List AV} {s : Sto} (ρ : List (Nat × Nat)) (h : F n x) (h1 : EntT ρ t (T x)) (h2 : EntS ρ s (S x)) (h3 : inj ρ (S x) = true)
    (hr : ∀ n x, F n x → EW P ty b (kL T S F n Q) (T x) (S x)) : loopK P ty b Q t s := ⟨ι, T, S, F, ⟨n, x, h, ρ, h1, h2, h3⟩, hr⟩
theorem callR {q : Bool} {f : FuncId} {args : List AV} {d : Option Nat} {t : List AV} {s : Sto} {K : Kt} {res : AV} (h : Ctr P f (toPL s args) res) (hb : bindW q res d t s K) : callW P q f args d t s K := .inl ⟨res, h, hb⟩
theorem callRE {q : Bool} {f : FuncId} {args A : List AV} {d : Option Nat} {t : List AV} {s : Sto} {K : Kt} {res : AV} (h : Ctr P f A res) (hA : toPL s args = A) (hb : bindW q res d t s K) : callW P q f args d t s K := callR (hA ▸ h) hb
theorem callT {f : FuncId} {id : Nat} {rest : List AV} {d : Option Nat} {t : List AV} {s : Sto} {K : Kt} {e : TypeId} {sz : Nat} {xs ys : List (List Value)} (hg : gS s id = some (.row e sz xs)) (hp : plnL rest = true) (h : CtrT P f e sz xs rest ys)
    (hb : ∃ d', d = some d' ∧ free (16 * d') t (dS s id) = true ∧ K (sT t d' (.lo (16 * d'))) (uS (dS s id) (16 * d') (.row e sz ys))) : callW P false f (.lo id :: rest) d t s K := by
  obtain ⟨d', rfl, h1, h2⟩ := hb
  refine .inr (.inl ⟨rfl, .inl ?_⟩)
  simp only [turnW, hg, turnR]
  exact ⟨hp, .inl ⟨ys, h, h1, h2⟩⟩
theorem callM {q : Bool} {f : FuncId} {args : List AV} {d : Option Nat} {t : List AV} {s : Sto} {K : Kt} {R R' : Sto} {res : AV} (h : CtrB P f args R res R') (hq : q = false ∨ (R.all fun p => p.1 % 16 == 15 && noB p.2) = true) (hR : subS s R) (hb : bindW q res d t (uSL s R') K) : callW P q f args d t s K :=
  .inr (.inr ⟨R, res, R', h, hq, hR, hb⟩)
theorem callN {f : FuncId} {args : List AV} {d : Nat} {t : List AV} {s : Sto} {K : Kt} {tb : TypeId} {cs : List AV} (h : CtrN P f args tb cs) (hn : noL cs = true) (hb : free (16 * d) t s = true ∧ K (sT t d (.bp (16 * d) 0)) (uS s (16 * d) (.box tb cs))) : callW P false f args (some d) t s K :=
  .inr (.inl ⟨rfl, .inr (.inl ⟨tb, cs, d, h, rfl, hn, hb.1, hb.2⟩)⟩)
end
theorem W8 : (∀ ρ, EntT ρ [] [] = True) ∧ (∀ ρ x t T, EntT ρ (x :: t) (.u :: T) = EntT ρ t T) ∧ (∀ ρ x t y T, EntT ρ (x :: t) (.v y :: T) = (x = .v y ∧ EntT ρ t T)) ∧ (∀ ρ x t i T, EntT ρ (x :: t) (.lo i :: T) = (x = .lo (rn ρ i) ∧ EntT ρ t T)) ∧ (∀ ρ x t i o T, EntT ρ (x :: t) (.bp i o :: T) = (x = .bp (rn ρ i) o ∧ EntT ρ t T)) ∧
    (∀ ρ x t z l T, EntT ρ (x :: t) (.pr z l :: T) = (x = .pr z l ∧ EntT ρ t T)) ∧ (∀ ρ x t l T, EntT ρ (x :: t) (.ag l :: T) = (x = .ag (AV.renL ρ l) ∧ EntT ρ t T)) ∧
    (∀ ρ s, EntS ρ s [] = True) ∧ (∀ ρ s i t c S, EntS ρ s ((i, .box t c) :: S) = (gS s (rn ρ i) = some (.box t (AV.renL ρ c)) ∧ EntS ρ s S)) ∧ (∀ ρ s i e z l S, EntS ρ s ((i, .row e z l) :: S) = (gS s (rn ρ i) = some (.row e z l) ∧ EntS ρ s S)) ∧
    (∀ ρ, AV.renL ρ [] = []) ∧ (∀ ρ c cs, AV.renL ρ (c :: cs) = AV.ren ρ c :: AV.renL ρ cs) ∧ (∀ ρ x, AV.ren ρ (.v x) = .v x) ∧ (∀ ρ z l, AV.ren ρ (.pr z l) = .pr z l) ∧ (∀ ρ i, AV.ren ρ (.lo i) = .lo (rn ρ i)) ∧ (∀ ρ i o, AV.ren ρ (.bp i o) = .bp (rn ρ i) o) ∧ (∀ ρ l, AV.ren ρ (.ag l) = .ag (AV.renL ρ l)) := by
  refine ⟨?_, ?_, ?_, ?_, ?_, ?_, ?_, ?_, ?_, ?_, ?_, ?_, ?_, ?_, ?_, ?_, ?_⟩ <;> intros <;> rfl
theorem W9 : (∀ ty t s, resL ty t s [] = some []) ∧ (∀ ty t s i l, resL ty t s (.tmp i :: l) = (resL ty t s l).map (gT t i :: ·)) ∧ (∀ ty t s i b l, resL ty t s (.cell i b :: l) = (cellV (ty b) (gT t i) s).bind fun x => (resL ty t s l).map (x :: ·)) ∧ (∀ i id off s, cellV (some i) (.bp id off) s = cellB i off (gS s id)) ∧
    (∀ i off t cs, cellB i off (some (.box t cs)) = if off + i.size ≤ cs.length then some (cutA i.agg i.size (dp off cs)) else none) ∧ (∀ s x r, FitO s [x] r = FitR s x r) ∧ (∀ s rs, FitO s [] (.tu rs) = FitRL s [] rs) ∧ (∀ s x y l rs, FitO s (x :: y :: l) (.tu rs) = FitRL s (x :: y :: l) rs) ∧
    (∀ s x y, FitR s (.v x) (.v y) = (x = y)) ∧ (∀ s i e z l, FitR s (.lo i) (.ow e z l) = (gS s i = some (.row e z l))) ∧ (∀ s x e z l, FitR s (.v x) (.ow e z l) = (x = .slice none 0 0 ∧ l = [] ∧ 0 < z)) ∧ (∀ s l r, FitR s (.ag l) (.ag r) = FitRL s l r) ∧ (∀ s l r, FitR s (.tu l) (.tu r) = FitRL s l r) ∧
    (∀ s, FitRL s [] [] = True) ∧ (∀ s c cs d ds, FitRL s (c :: cs) (d :: ds) = (FitR s c d ∧ FitRL s cs ds)) ∧ (AV.idsL [] = []) ∧ (∀ c cs, AV.idsL (c :: cs) = AV.ids c ++ AV.idsL cs) ∧ (∀ x, AV.ids (.v x) = []) ∧ (∀ i, AV.ids (.lo i) = [i]) ∧ (∀ l, AV.ids (.ag l) = AV.idsL l) ∧ (∀ l, AV.ids (.tu l) = AV.idsL l) := by
  refine ⟨?_, ?_, ?_, ?_, ?_, ?_, ?_, ?_, ?_, ?_, ?_, ?_, ?_, ?_, ?_, ?_, ?_, ?_, ?_, ?_, ?_⟩ <;> intros <;> rfl
theorem W10 : (∀ ty rv res t s, QR ty rv res .ret t s = ∃ xs, resL ty t s rv = some xs ∧ nodB (AV.idsL xs) = true ∧ FitO s xs res) ∧ (∀ ty rv res t s, QR ty rv res .normal t s = ∃ xs, resL ty t s rv = some xs ∧ nodB (AV.idsL xs) = true ∧ FitO s xs res) ∧
    (nodB [] = true) ∧ (∀ i, nodB [i] = true) := by
  refine ⟨?_, ?_, ?_, ?_⟩ <;> intros <;> first | rfl | simp [nodB]
theorem W11 : (∀ {ι : Type} (T : ι → List AV) S F n Q i t s, kL T S F n Q (.exit i) t s = Q (.exit i) t s) ∧ (∀ {ι : Type} (T : ι → List AV) S F n Q t s, kL T S F n Q .ret t s = Q .ret t s) ∧ (∀ q x d t s K, bindW q (.v x) d t s K = K (pT t d (.v x)) s) := by
  refine ⟨?_, ?_, ?_⟩ <;> intros <;> rfl
theorem W12 : (∀ j, AV.frL j [] = true) ∧ (∀ j c cs, AV.frL j (c :: cs) = (AV.fr j c && AV.frL j cs)) ∧ (∀ j, AV.fr j .u = true) ∧ (∀ j x, AV.fr j (.v x) = true) ∧ (∀ j z x, AV.fr j (.pr z x) = true) ∧ (∀ j x, AV.fr j (.pe x) = true) ∧ (∀ j i, AV.fr j (.lo i) = (i != j)) ∧ (∀ j i o, AV.fr j (.bp i o) = (i != j)) ∧ (∀ j i z n o, AV.fr j (.le i z n o) = (i != j)) ∧ (∀ j l, AV.fr j (.ag l) = AV.frL j l) ∧ (∀ j l, AV.fr j (.tu l) = AV.frL j l) ∧
    (∀ j t s, free j t s = (AV.frL j t && s.all fun p => p.2.fr j)) ∧ (∀ j t c, Blk.fr j (.box t c) = AV.frL j c) ∧ (∀ j e z l, Blk.fr j (.row e z l) = true) ∧
    (cellsOk [] = true) ∧ (∀ x l, cellsOk (.v x :: l) = (plainV x && cellsOk l)) ∧ (∀ i l, cellsOk (.lo i :: l) = cellsOk l) ∧ (∀ i o l, cellsOk (.bp i o :: l) = cellsOk l) ∧ (∀ z x l, cellsOk (.pr z x :: l) = cellsOk l) ∧ (plainOk [] = true) ∧ (∀ x l, plainOk (.v x :: l) = (plainV x && plainOk l)) ∧
    (∀ k n, plainV (.int k n) = true) ∧ (∀ b, plainV (.bool b) = true) ∧ (∀ b, plainV (.string b) = true) ∧ (∀ a n c, plainV (.slice a n c) = true) := by
  refine ⟨?_, ?_, ?_, ?_, ?_, ?_, ?_, ?_, ?_, ?_, ?_, ?_, ?_, ?_, ?_, ?_, ?_, ?_, ?_, ?_, ?_, ?_, ?_, ?_, ?_⟩ <;> intros <;> rfl
theorem bAnd : (∀ b : Bool, (b && true) = b) ∧ (∀ b : Bool, (true && b) = b) ∧ (∀ b : Bool, (false && b) = false) ∧ (∀ b : Bool, (b && false) = false) := by
  refine ⟨?_, ?_, ?_, ?_⟩ <;> intro b <;> cases b <;> rfl
end Go.Proofs.YtdjdleldocfpaaaGreatDoor.F
end

section
namespace Go.Proofs.YtdjdleldocfpaaaGreatDoor.F
open Go.RowKit Go.Proofs.YtdjdleldocfpaaaGreatDoorW.PrintWords Go.Proofs.YtdjdleldocfpaaaGreatDoorW.PrintLast Go.Proofs.YtdjdleldocfpaaaGreatDoorW.PrintMore
set_option linter.unusedVariables false
set_option linter.unusedSimpArgs false
theorem ifN {α : Type} {c : Prop} [Decidable c] {a : Option α} {r : α} (h : (if c then a else none) = some r) : c ∧ a = some r := by
  by_cases x : c
  · rw [if_pos x] at h; exact ⟨x, h⟩
  · rw [if_neg x] at h; cases h
theorem ifM {α : Type} {c : Prop} [Decidable c] {a : Option α} {r : α} (h : (if c then none else a) = some r) : ¬c ∧ a = some r := by
  by_cases x : c
  · rw [if_pos x] at h; cases h
  · rw [if_neg x] at h; exact ⟨x, h⟩
theorem ifS {α : Type} {c : Prop} [Decidable c] {a b : Option α} {r : α} (h : (if c then a else b) = some r) : (c ∧ a = some r) ∨ (¬c ∧ b = some r) := by
  by_cases x : c
  · rw [if_pos x] at h; exact .inl ⟨x, h⟩
  · rw [if_neg x] at h; exact .inr ⟨x, h⟩
theorem ifT {α : Type} {c : Bool} {a b : Option α} {r : α} (h : (if c = true then a else b) = some r) : (c = true ∧ a = some r) ∨ (c = false ∧ b = some r) := by
  cases c
  · exact .inr ⟨rfl, h⟩
  · exact .inl ⟨rfl, h⟩
section
variable {P : Program} {ty : TypeId → Option TI}
theorem loopN {ι : Type} (T : ι → List AV) (S : ι → Sto) (F : Nat → ι → Prop) {n : Nat} {b : Code} {Q : Qt} {t : List AV} {s : Sto} (x : ι) (ρ : List (Nat × Nat)) (h : F n x) (h1 : EntT ρ t (T x)) (h2 : EntS ρ s (S x)) (h3 : inj ρ (S x) = true)
    (hz : ∀ x, F 0 x → False) (hr : ∀ m x, m + 1 ≤ n → F (m + 1) x → EW P ty b (kL T S (fun m x => m ≤ n ∧ F m x) (m + 1) Q) (T x) (S x)) : loopK P ty b Q t s :=
  loopR T S (fun m x => m ≤ n ∧ F m x) x ρ ⟨Nat.le_refl _, h⟩ h1 h2 h3 fun m x h => by
    cases m with
    | zero => exact absurd h.2 (hz x)
    | succ m => exact hr m x h.1 h.2
theorem nextN {ι : Type} {T : ι → List AV} {S : ι → Sto} {F : Nat → ι → Prop} {n N : Nat} {Q : Qt} {t : List AV} {s : Sto} (x : ι) (ρ : List (Nat × Nat)) (m : Nat) (hm : m < n ∧ m ≤ N) (h : F m x) (h1 : EntT ρ t (T x)) (h2 : EntS ρ s (S x)) (h3 : inj ρ (S x) = true) : kL T S (fun m x => m ≤ N ∧ F m x) n Q .normal t s := ⟨m, x, hm.1, ⟨hm.2, h⟩, ρ, h1, h2, h3⟩
theorem rn_cons (a b : Nat) (ρ : List (Nat × Nat)) (j : Nat) : rn ((a, b) :: ρ) j = if a = j then b else rn ρ j := by
  unfold rn
  rw [List.find?_cons]
  by_cases e : a = j
  · subst e; simp
  · have : (a == j) = false := by simpa using e
    simp only [this, if_neg e]
variable (ty)
theorem W13 : (∀ i n ps d t s K, litT ty (some i) n ps d t s K = ∃ j, ty i.el = some j ∧ litW (litR t ps 0) n i.el j.size d t s K) ∧ (∀ t k, litR t [] k = some []) ∧ (∀ t i x l k, litR t ((i, x) :: l) k = if i = k ∧ plainOk (eT t x).cells = true then (litR t l (k + 1)).map fun r => unv (eT t x).cells :: r else none) ∧
    (∀ z, litOk z [] = true) ∧ (∀ z x l, litOk z (x :: l) = (x.length == z && litOk z l)) ∧ (∀ xs n e z d t s K, litW (some xs) n e z d t s K = (xs.length = n ∧ litOk z xs = true ∧ 0 < z ∧ n * z ≤ 1000 ∧ rowW e z xs d t s K)) ∧
    (∀ i id y d t s K, appW ty (some i) (.lo id) y d t s K = ∃ j, ty i.el = some j ∧ okA j y = true ∧ appR id (gS s id) (rdA j.size y s) j i.el d t s K) ∧
    (∀ z y xs s, rdS z (.pr y xs) s = if y = z then some xs else none) ∧ (∀ z i s, rdS z (.lo i) s = rdB z (gS s i)) ∧ (∀ z s, rdS z (.v (.slice none 0 0)) s = some []) ∧ (∀ z e y xs, rdB z (some (.row e y xs)) = if y = z then some xs else none) ∧
    (∀ i d t s K, nilW ty (some i) d t s K = ∃ j, ty i.el = some j ∧ 0 < j.size ∧ rowW i.el j.size [] d t s K) ∧
    (∀ e z xs i y n off d t s K, loadE ty (some (.row e z xs)) i y n off d t s K = ∃ q, (ty e).map (·.zero) = some q ∧ y = z ∧ q.length = z ∧ off + i.size ≤ z ∧ K (pT t d (cutA i.agg i.size (dp off (vs (gR q xs n))))) s) ∧
    (∀ a b d t s K, mmW true (.v (.int .i64 a)) (.v (.int .i64 b)) d t s K = K (pT t d (.v (.int .i64 (mn a b)))) s) ∧ (∀ a b d t s K, mmW false (.v (.int .i64 a)) (.v (.int .i64 b)) d t s K = K (pT t d (.v (.int .i64 (mx a b)))) s) ∧
    (∀ i o d t s K, chkW (.bp i o) d t s K = K (pT t d (.bp i o)) s) ∧ (∀ c d t s K, chkW (.pe c) d t s K = K (pT t d (.pe c)) s) ∧ (∀ i z n o d t s K, chkW (.le i z n o) d t s K = K (pT t d (.le i z n o)) s) ∧
    (∀ q l d t s K, bindW q (.ag l) (some d) t s K = ((q && !okRL l) = false ∧ ((im (16 * d) (.ag l)).2.1.all fun p => free p.1 t s) = true ∧ (im (16 * d) (.ag l)).2.2 ≤ 16 * d + 15 ∧ K (sT t d (im (16 * d) (.ag l)).1) ((im (16 * d) (.ag l)).2.1 ++ s))) ∧
    (∀ q l d t s K, bindW q (.tu l) (some d) t s K = ((q && !okRL l) = false ∧ ((im (16 * d) (.tu l)).2.1.all fun p => free p.1 t s) = true ∧ (im (16 * d) (.tu l)).2.2 ≤ 16 * d + 15 ∧ K (sT t d (im (16 * d) (.tu l)).1) ((im (16 * d) (.tu l)).2.1 ++ s))) ∧
    (∀ x l, nthN (x :: l) 0 = some x) ∧ (∀ x l n, nthN (x :: l) (n + 1) = nthN l n) ∧
    (∀ (P : Program) e o op k a k' b d t s K, binX P e o op (.v (.int k a)) (.v (.int k' b)) d t s K = binW op (.v (.int k a)) (.v (.int k' b)) d t s K) ∧ (∀ (P : Program) e i a b d t s K, binX P e (some i) .eql (.v (.bool a)) (.v (.bool b)) d t s K = (i.zero = [.bool false] ∧ K (pT t d (.v (.bool (a == b)))) s)) ∧ (∀ (P : Program) e i a b d t s K, binX P e (some i) .neq (.v (.bool a)) (.v (.bool b)) d t s K = (i.zero = [.bool false] ∧ K (pT t d (.v (.bool (a != b)))) s)) ∧ (∀ j, rn [] j = j) ∧ (∀ a b ρ j, rn ((a, b) :: ρ) j = if a = j then b else rn ρ j) ∧
    (∀ i u ps d t s K, bldW (some i) u ps d t s K = (i.agg = true ∧ i.fs.isEmpty = false ∧ ∃ cs, bldC (plc i.size i.fs) u ps (vs i.zero) = some cs ∧ K (pT t d (.ag cs)) s)) ∧ (∀ z, plc z [] = []) ∧ (∀ z o, plc z [o] = [(o, z - o)]) ∧ (∀ z o o2 l, plc z (o :: o2 :: l) = (o, o2 - o) :: plc z (o2 :: l)) ∧ (∀ x l, nthL (x :: l) 0 = some x) ∧ (∀ x l n, nthL (x :: l) (n + 1) = nthL l n) ∧ (∀ pl t cs, bldC pl t [] cs = some cs) ∧ (∀ pl t f x l cs, bldC pl t ((f, x) :: l) cs = (bldP (nthL pl f) (eT t x).cells cs).bind (bldC pl t l)) ∧ (∀ o z c cs, bldP (some (o, z)) c cs = if c.length = z ∧ o + c.length ≤ cs.length ∧ cellsOk c = true then some (putA o c cs) else none) ∧
    (okRL [] = true) ∧ (∀ c l, okRL (c :: l) = (okR c && okRL l)) ∧ (∀ x, okR (.v x) = true) ∧ (∀ l, okR (.ag l) = okRL l) ∧ (∀ l, okR (.tu l) = okRL l) ∧ (∀ e z l, okR (.ow e z l) = true) ∧ (plnL [] = true) ∧ (∀ c l, plnL (c :: l) = (pln c && plnL l)) ∧ (∀ x, pln (.v x) = true) ∧ (∀ l, pln (.ag l) = plnL l) ∧ (∀ l, pln (.tu l) = plnL l) ∧ (∀ e z l, pln (.ow e z l) = false) ∧
    (∀ q e z l d t s K, bindW q (.ow e z l) (some d) t s K = ((q && !true) = false ∧ ((im (16 * d) (.ow e z l)).2.1.all fun p => free p.1 t s) = true ∧ (im (16 * d) (.ow e z l)).2.2 ≤ 16 * d + 15 ∧ K (sT t d (im (16 * d) (.ow e z l)).1) ((im (16 * d) (.ow e z l)).2.1 ++ s))) := by
  refine ⟨?_, ?_, ?_, ?_, ?_, ?_, ?_, ?_, ?_, ?_, ?_, ?_, ?_, ?_, ?_, ?_, ?_, ?_, ?_, ?_, ?_, ?_, ?_, ?_, ?_, ?_, ?_, ?_, ?_, ?_, ?_, ?_, ?_, ?_, ?_, ?_, ?_, ?_, ?_, ?_, ?_, ?_, ?_, ?_, ?_, ?_, ?_, ?_, ?_⟩ <;> intros <;> first | rfl | (unfold binX; split <;> simp_all; done) | exact rn_cons _ _ _ _
theorem mkN {n : Int} {b : Nat} (h0 : 0 ≤ n) (hb : 0 < b) : (n * (b : Int) ≤ 281474976710656) = (n.toNat ≤ 281474976710656 / b) := by
  obtain ⟨m, rfl⟩ : ∃ m : Nat, n = m := ⟨n.toNat, by omega⟩
  rw [Int.toNat_natCast, Nat.le_div_iff_mul_le hb]
  exact propext (by omega)
theorem W14 : (∀ i n d t s K, mkW ty (some i) (.v (.int .i64 n)) (.v (.int .i64 n)) d t s K = ∃ j, ty i.el = some j ∧ 0 ≤ n ∧ n.toNat ≤ 281474976710656 / j.bytes ∧ 0 < j.bytes ∧ 0 < j.size ∧ rowW i.el j.size (List.replicate n.toNat j.zero) d t s K) ∧
    (∀ id e z xs ys j e' d t s K, appR id (some (.row e z xs)) (some ys) j e' (some d) t s K = (e = e' ∧ z = j.size ∧ 0 < j.bytes ∧ xs.length + ys.length ≤ 140737488355328 / j.bytes ∧ free (16 * d) t (dS s id) = true ∧ K (sT t d (.lo (16 * d))) (uS (dS s id) (16 * d) (.row e z (xs ++ ys))))) := by
  refine ⟨fun i n d t s K => ?_, fun id e z xs ys j e' d t s K => ?_⟩
  · show (∃ j, ty i.el = some j ∧ n = n ∧ 0 ≤ n ∧ n * (j.bytes : Int) ≤ 281474976710656 ∧ 0 < j.bytes ∧ 0 < j.size ∧ rowW i.el j.size (List.replicate n.toNat j.zero) d t s K) = _
    refine propext ⟨?_, ?_⟩
    · rintro ⟨j, h1, _, h2, h3, h4, h5⟩
      exact ⟨j, h1, h2, (mkN h2 h4) ▸ h3, h4, h5⟩
    · rintro ⟨j, h1, h2, h3, h4, h5⟩
      exact ⟨j, h1, rfl, h2, (mkN h2 h4) ▸ h3, h4, h5⟩
  · show (e = e' ∧ z = j.size ∧ 0 < j.bytes ∧ (xs.length + ys.length) * j.bytes ≤ 140737488355328 ∧ _) = _
    refine propext ⟨?_, ?_⟩
    · rintro ⟨h1, h2, h3, h4, h5⟩
      exact ⟨h1, h2, h3, (Nat.le_div_iff_mul_le h3).2 h4, h5⟩
    · rintro ⟨h1, h2, h3, h4, h5⟩
      exact ⟨h1, h2, h3, (Nat.le_div_iff_mul_le h3).1 h4, h5⟩
end
theorem bEq : (∀ a b : Int, (a == b) = decide (a = b)) ∧ (∀ a b : Int, (a != b) = !decide (a = b)) := ⟨fun a b => by by_cases h : a = b <;> simp [h], fun a b => by by_cases h : a = b <;> simp [h, bne]⟩
theorem W0b : (∀ (α : Type) (_ : Decidable True) (a b : α), (if True then a else b) = a) ∧ (∀ (α : Type) (_ : Decidable False) (a b : α), (if False then a else b) = b) ∧ (∀ (α β : Type) (f : α → β) (l : List α), (l.map f).length = l.length) ∧ (∀ (α β : Type) (x : α) (f : α → Option β), (some x).bind f = f x) ∧ (∀ (α β : Type) (x : α) (f : α → β), (some x).map f = some (f x)) ∧ (∀ (α : Type) (x : α), (some x).isSome = true) ∧
    (∀ p : Prop, (True ∧ p) = p) ∧ (∀ p : Prop, (p ∧ True) = p) ∧ (∀ p : Prop, (False ∧ p) = False) ∧ (∀ (α : Type) (x : α), (x = x) = True) ∧ (∀ (α : Type) (x : α) (l : List α), (x :: l).length = l.length + 1) ∧ (∀ α : Type, ([] : List α).length = 0) ∧ (∀ (α : Type) (p : α → Bool), ([] : List α).all p = true) ∧ (∀ (α : Type) (p : α → Bool) (x : α) (l : List α), (x :: l).all p = (p x && l.all p)) ∧
    (∀ h : Decidable True, @decide True h = true) ∧ (∀ h : Decidable False, @decide False h = false) ∧ (∀ (α : Type) (a : α) (p : α → Prop), (∃ x, some a = some x ∧ p x) = p a) ∧ (∀ (α : Type) (a : α) (p : α → Prop), (∃ x, some x = some a ∧ p x) = p a) ∧ (∀ a b : Nat, (a + 1 ≤ b) = (a < b)) ∧
    (∀ (α : Type) (l : List α), [] ++ l = l) ∧ (∀ (α : Type) (x : α) (l m : List α), (x :: l) ++ m = x :: (l ++ m)) ∧ (∀ (α : Type) (l : List α), l.drop 0 = l) ∧ (∀ (α : Type) (n : Nat) (x : α) (l : List α), (x :: l).drop (n + 1) = l.drop n) ∧ ((!true) = false) ∧ ((!false) = true) ∧ (∀ a b : Int, (a == b) = decide (a = b)) ∧ (∀ a b : Int, (a != b) = !decide (a = b)) ∧ ((¬True) = False) ∧ ((¬False) = True) ∧ (∀ (α : Type) (a b : α), (a ≠ b) = ¬(a = b)) ∧
    (∀ (α : Type) (l m : List α), (l ++ m).length = l.length + m.length) ∧ (∀ (α : Type) (l : List α) (i : Nat) (x : α), (l.set i x).length = l.length) ∧ (∀ (α : Type) (n : Nat) (x : α), (List.replicate n x).length = n) ∧ (∀ (α β : Type) (f : α → β) (l m : List α), l.map f ++ m.map f = (l ++ m).map f) ∧ (∀ (α β : Type) (f : α → β), [].map f = []) := by
  refine ⟨?_, ?_, ?_, ?_, ?_, ?_, ?_, ?_, ?_, ?_, ?_, ?_, ?_, ?_, ?_, ?_, ?_, ?_, ?_, ?_, ?_, ?_, ?_, ?_, ?_, ?_, ?_, ?_, ?_, ?_, ?_, ?_, ?_, ?_, ?_⟩ <;> intros <;> first | rfl | simp | (exact propext Iff.rfl)
end Go.Proofs.YtdjdleldocfpaaaGreatDoor.F
end

section
namespace Go.Proofs.YtdjdleldocfpaaaGreatDoor.F
open Go.RowKit Go.Proofs.YtdjdleldocfpaaaGreatDoorW.PrintWords Go.Proofs.YtdjdleldocfpaaaGreatDoorW.PrintLast Go.Proofs.YtdjdleldocfpaaaGreatDoorW.PrintMore
set_option linter.unusedVariables false
set_option linter.unusedSimpArgs false
theorem W15 (P : Program) (ty : TypeId → Option TI) : (∀ s id z lo hi, toP s (.vw id z lo hi) = tpV z lo hi (gS s id)) ∧ (∀ z lo hi e y xs, tpV z lo hi (some (.row e y xs)) = if z = y then .pr y ((xs.take hi).drop lo) else .u) ∧ (∀ s f a b, toP s (.v (.func f a b)) = .v (.func f a b)) ∧
    (∀ id z lo hi d t s K, lenW (.vw id z lo hi) d t s K = lenV (gS s id) lo hi d t s K) ∧ (∀ e z xs lo hi d t s K, lenV (some (.row e z xs)) lo hi d t s K = K (pT t d (.v (.int .i64 (((xs.take hi).drop lo).length : Int)))) s) ∧
    (∀ i id z lo hi k n d t s K, idxW ty (some i) (.vw id z lo hi) (.v (.int k n)) d t s K = idxV ty i.el (gS s id) id z lo hi n d t s K) ∧
    (∀ el e z xs id y lo hi n d t s K, idxV ty el (some (.row e z xs)) id y lo hi n d t s K = ((∃ j, ty el = some j ∧ j.size = z) ∧ y = z ∧ 0 ≤ n ∧ n < (((xs.take hi).drop lo).length : Int) ∧ K (pT t d (.le id z (n + (lo : Int)) 0)) s)) ∧
    (∀ z id y lo hi s, rdS z (.vw id y lo hi) s = if y = z then (rdB z (gS s id)).map fun xs => (xs.take hi).drop lo else none) ∧
    (∀ q b x lo hi o d t s K, opX P ty q (.slice b x lo hi none) o d t s K = slcW ty (ty b) (eT t x) (lo.map (eT t)) (hi.map (eT t)) d t s K) ∧
    (∀ i z xs lo hi d t s K, slcW ty (some i) (.pr z xs) lo hi d t s K = ∃ j, ty i.el = some j ∧ slcP z xs j (loN lo) hi d t s K) ∧
    (∀ i id lo hi d t s K, slcW ty (some i) (.lo id) lo hi d t s K = ∃ j, ty i.el = some j ∧ slcR id (gS s id) j (loN lo) hi d t s K) ∧
    (∀ z xs j l hi d t s K, slcP z xs j (some l) hi d t s K = ∃ h, hiN xs.length hi = some h ∧ j.size = z ∧ 0 ≤ l ∧ l ≤ h ∧ h ≤ (xs.length : Int) ∧ K (pT t d (.pr z ((xs.take h.toNat).drop l.toNat))) s) ∧
    (∀ id e z xs j l hi d t s K, slcR id (some (.row e z xs)) j (some l) hi d t s K = ∃ h, hiN xs.length hi = some h ∧ j.size = z ∧ 0 ≤ l ∧ l ≤ h ∧ h ≤ (xs.length : Int) ∧ K (pT t d (.vw id z l.toNat h.toNat)) s) ∧
    (loN none = some 0) ∧ (∀ k n, loN (some (.v (.int k n))) = some n) ∧ (∀ n, hiN n none = some (n : Int)) ∧ (∀ n k h, hiN n (some (.v (.int k h))) = some h) ∧
    (∀ i a b c d, rot i (.slice a b c d none) = true) ∧ (∀ (α β : Type) (f : α → β), (none : Option α).map f = none) ∧ (∀ (α : Type) (l : List α), l.drop (Int.toNat 0) = l) ∧ (∀ (α : Type) (l : List α), l.take ((l.length : Int)).toNat = l) ∧ (∀ i j, nodB [i, j] = (i != j)) ∧ (∀ i j k, nodB [i, j, k] = (i != j && (i != k && j != k))) ∧
    (∀ (α β : Type) (f : α → β) (l : List α) (n : Nat), (l.map f).take n = (l.take n).map f) ∧ (∀ (α β : Type) (f : α → β) (l : List α) (n : Nat), (l.map f).drop n = (l.drop n).map f) ∧ (∀ n : Int, n ≤ n) ∧ (∀ n : Int, n + ((0 : Nat) : Int) = n) ∧ (∀ t f, eT t (.func f) = .v (.func (.func f) #[] #[])) := by
  refine ⟨?_, ?_, ?_, ?_, ?_, ?_, ?_, ?_, ?_, ?_, ?_, ?_, ?_, ?_, ?_, ?_, ?_, ?_, ?_, ?_, ?_, ?_, ?_, ?_, ?_, ?_, ?_, ?_⟩ <;> intros <;> first | rfl | (rename_i i _ _ _ _; cases i <;> rfl) | (rw [Int.toNat_natCast]; exact List.take_length) | (rename_i i j; by_cases h : i = j <;> simp [nodB, h]; done) | (rename_i i j k; by_cases h : i = j <;> by_cases h2 : i = k <;> by_cases h3 : j = k <;> simp [nodB, h, h2, h3]; done) | exact List.map_take.symm | exact List.map_drop.symm | exact Int.le_refl _ | exact Int.add_zero _ | exact Nat.cast_ofNat | simp
theorem W16 : (∀ s, subS s [] = True) ∧ (∀ s i b S, subS s ((i, b) :: S) = (gS s i = some b ∧ subS s S)) ∧ (∀ s, uSL s [] = s) ∧ (∀ s i b S, uSL s ((i, b) :: S) = uSL (uS s i b) S) := by
  refine ⟨?_, ?_, ?_, ?_⟩ <;> intros <;> rfl
theorem W17 (ty : TypeId → Option TI) : (∀ rv res R t s, QB ty rv res R .ret t s = (subS s R ∧ ∃ xs, resL ty t s rv = some xs ∧ nodB (AV.idsL xs) = true ∧ ((AV.idsL xs).all fun i => (gS R i).isNone) = true ∧ FitO s xs res)) ∧ (∀ rv res R t s, QB ty rv res R .normal t s = (subS s R ∧ ∃ xs, resL ty t s rv = some xs ∧ nodB (AV.idsL xs) = true ∧ ((AV.idsL xs).all fun i => (gS R i).isNone) = true ∧ FitO s xs res)) ∧
    (∀ rv tb cs t s, QN ty rv tb cs .ret t s = ∃ xs, resL ty t s rv = some xs ∧ isN s tb cs xs) ∧ (∀ rv tb cs t s, QN ty rv tb cs .normal t s = ∃ xs, resL ty t s rv = some xs ∧ isN s tb cs xs) ∧ (∀ s tb cs id, isN s tb cs [.bp id 0] = (gS s id = some (.box tb cs))) ∧ (∀ α : Type, (none : Option α).isNone = true) ∧ (∀ j, gS [] j = none) := by
  refine ⟨?_, ?_, ?_, ?_, ?_, ?_, ?_⟩ <;> intros <;> rfl
theorem W18 (P : Program) (ty : TypeId → Option TI) : (∀ q b c x o d t s K, opX P ty q (.convert b c x) o d t s K = cnvW ty (ty b) (ty c) (eT t x) d t s K) ∧ (∀ i j k n d t s K, cnvW ty (some i) (some j) (.v (.int k n)) d t s K = ∃ k', kindOf j.zero = some k' ∧ K (pT t d (.v (.int k' (wr k' n)))) s) ∧ (∀ k n, kindOf [.int k n] = some k) ∧ (∀ n, wr .i64 n = wrap64 n) ∧ (∀ i a b c, rot i (.convert a b c) = true) ∧
    (∀ q o d t s K, opX P ty q (.assign (.const (.pointer none))) o d t s K = K (pT t d (.v (.pointer none))) s) ∧ (∀ j, rot j (.assign (.const (.pointer none))) = true) ∧ (∀ a b d t s K, binW .shr (.v (.int .i64 a)) (.v (.int .u64 b)) d t s K = (bok .shr b ∧ K (pT t d (.v (bval .shr .i64 a b))) s)) ∧ (∀ a b d t s K, binW .shl (.v (.int .i64 a)) (.v (.int .u64 b)) d t s K = (bok .shl b ∧ K (pT t d (.v (bval .shl .i64 a b))) s)) ∧
    (∀ a, shr .i64 a 33 = a / 8589934592) ∧ (∀ a, shr .i64 a 45 = a / 35184372088832) := by
  refine ⟨?_, ?_, ?_, ?_, ?_, ?_, ?_, ?_, ?_, ?_, ?_⟩ <;> intros <;> first | rfl | (unfold binW; simp [kok]) | (simp [shr, IntKind.bits]; done)
def rs2 : Bool → Sto → Bool
  | true, _ => true
  | false, s => rsv s
def dch2 : Bool → List Oper → List AV → Sto → Bool
  | false, _, _, _ => true
  | true, l, t, s => !hasC l || rchk l t s
def dch3 : Bool → List Oper → List AV → Sto → Bool
  | false, _, _, _ => true
  | true, l, t, s => rchk l t s
def hc2 : Bool → List Oper → Bool
  | true, _ => true
  | false, l => hasC l
theorem rsv_cons (i : Nat) (b : Blk) (s : Sto) : rsv ((i, b) :: s) = rs2 (i - i / 16 * 16 == 15) s := by
  have h : i % 16 = i - i / 16 * 16 := by omega
  show (i % 16 == 15 || rsv s) = _
  rw [h]; cases (i - i / 16 * 16 == 15) <;> rfl
theorem W19 : (∀ l t s, dchk l t s = dch2 (rsv s) l t s) ∧ (rsv [] = false) ∧ (∀ i b s, rsv ((i, b) :: s) = rs2 (i - i / 16 * 16 == 15) s) ∧ (∀ s, rs2 true s = true) ∧ (∀ s, rs2 false s = rsv s) ∧ (∀ l t s, dch2 false l t s = true) ∧ (∀ l t s, dch2 true l t s = dch3 (hasC l) l t s) ∧ (∀ l t s, dch3 false l t s = true) ∧ (∀ l t s, dch3 true l t s = rchk l t s) ∧
    (hasC [] = false) ∧ (∀ o l, hasC (o :: l) = hc2 (isC o.op) l) ∧ (∀ l, hc2 true l = true) ∧ (∀ l, hc2 false l = hasC l) ∧ (∀ o, isC o = match o with | .call ⟨.value _, _, _⟩ => true | _ => false) ∧ (∀ l, (true = true ∧ l) = l) := by
  refine ⟨?_, ?_, rsv_cons, ?_, ?_, ?_, ?_, ?_, ?_, ?_, ?_, ?_, ?_, ?_, ?_⟩ <;> intros <;> first | rfl | (simp; done) | (rename_i l t s; unfold dchk; cases rsv s <;> rfl) | (rename_i l t s; show (!hasC l || rchk l t s) = _; cases hasC l <;> rfl) | (rename_i o l; show (isC o.op || hasC l) = _; cases isC o.op <;> rfl)
theorem W20 : (∀ j i z lo hi, AV.fr j (.vw i z lo hi) = (i != j)) ∧ (Int.toNat 0 = 0) := ⟨fun _ _ _ _ _ => rfl, rfl⟩
theorem W21 : (∀ (P : Program) e o op a b d t s K, binX P e o op (.v (.string a)) (.v (.string b)) d t s K = (sok op a b = true ∧ K (pT t d (.v (sval op a b))) s)) ∧ (∀ a b, (sok .add a b = true) = (a.size + b.size ≤ 9223372036854775807)) ∧ (∀ a b, sok .eql a b = true) ∧ (∀ a b, sok .neq a b = true) ∧
    (∀ a b, sval .add a b = .string (a ++ b)) ∧ (∀ a b, sval .eql a b = .bool (decide (a.toList = b.toList))) ∧ (∀ a b, sval .neq a b = .bool (decide (¬ a.toList = b.toList))) ∧ (∀ c, ByteArray.size ⟨#[c]⟩ = 1) := by
  refine ⟨?_, ?_, ?_, ?_, ?_, ?_, ?_, ?_⟩ <;> intros <;> first | rfl | (rename_i P_ e_ o_ op_ a_ b_ d_ t_ s_ K_; cases o_ <;> cases op_ <;> rfl) | simp [sok]
theorem W22 : (∀ ρ x t i z lo hi T, EntT ρ (x :: t) (.vw i z lo hi :: T) = (x = .vw (rn ρ i) z lo hi ∧ EntT ρ t T)) ∧ (∀ ρ i z lo hi, AV.ren ρ (.vw i z lo hi) = .vw (rn ρ i) z lo hi) ∧ (∀ n, wr .u8 n = n % 256) := by
  refine ⟨?_, ?_, ?_⟩ <;> intros <;> rfl
theorem rd_take {l : List Int} {n : Nat} {i : Int} (h0 : 0 ≤ i) (h1 : i < ((l.take n).length : Int)) : rd (l.take n) i = rd l i := by
  show (l.take n).getD i.toNat 0 = l.getD i.toNat 0
  rw [List.length_take] at h1
  rw [List.getD_eq_getElem?_getD, List.getD_eq_getElem?_getD, List.getElem?_take_of_lt (by omega)]
theorem W23 (ty : TypeId → Option TI) : (∀ i k, lenT ty (some i) (.lo k) = (ty i.el).isSome) ∧ (∀ i z l, lenT ty (some i) (.pr z l) = (ty i.el).isSome) ∧ (∀ i k z a b, lenT ty (some i) (.vw k z a b) = (ty i.el).isSome) ∧ (∀ i a n c, lenT ty (some i) (.v (.slice a n c)) = (ty i.el).isSome) ∧ (∀ i m, lenT ty (some i) (.v (.string m)) = strZ i.zero) ∧ (∀ m, strZ [.string m] = true) ∧
    (∀ a d t s K, lenW (.v (.string a)) d t s K = K (pT t d (.v (.int .i64 (a.size : Int)))) s) ∧
    (∀ a z i, appT a a z (.lo i) = true) ∧ (∀ a z y l, appT a a z (.pr y l) = true) ∧ (∀ a z k y p q, appT a a z (.vw k y p q) = true) ∧ (∀ a z p n c, appT a a z (.v (.slice p n c)) = true) ∧ (∀ a b z m, appT a b (some z) (.v (.string m)) = strZ z) ∧
    (∀ j i, okA j (.lo i) = true) ∧ (∀ j z l, okA j (.pr z l) = true) ∧ (∀ j k z a b, okA j (.vw k z a b) = true) ∧ (∀ j a n c, okA j (.v (.slice a n c)) = true) ∧ (∀ j m, okA j (.v (.string m)) = (u8Z j.zero && j.bytes == 1)) ∧ (u8Z [.int .u8 0] = true) ∧
    (∀ z i s, rdA z (.lo i) s = rdS z (.lo i) s) ∧ (∀ z y l s, rdA z (.pr y l) s = rdS z (.pr y l) s) ∧ (∀ z k y a b s, rdA z (.vw k y a b) s = rdS z (.vw k y a b) s) ∧ (∀ z a n c s, rdA z (.v (.slice a n c)) s = rdS z (.v (.slice a n c)) s) ∧ (∀ a s, rdA 1 (.v (.string a)) s = some ((bytesOf a).map fun n => [.int .u8 n])) := by
  refine ⟨?_, ?_, ?_, ?_, ?_, ?_, ?_, ?_, ?_, ?_, ?_, ?_, ?_, ?_, ?_, ?_, ?_, ?_, ?_, ?_, ?_, ?_, ?_⟩ <;> intros <;> first | rfl | (unfold appT; simp; done)
theorem W25 (ty : TypeId → Option TI) : (∀ i id off k n d t s K, idxW ty (some i) (.bp id off) (.v (.int k n)) d t s K = (i.agg = true ∧ i.fs.isEmpty = true ∧ 0 ≤ n ∧ n.toNat < i.size ∧ K (pT t d (.bp id (off + n.toNat))) s)) ∧ (∀ (x : Nat) l, (x :: l).isEmpty = false) ∧ (([] : List Nat).isEmpty = true) ∧ (∀ a b, ByteArray.size ⟨#[a, b]⟩ = 2) ∧ (∀ a b c d, ByteArray.size ⟨#[a, b, c, d]⟩ = 4) ∧ (∀ a b c d e, ByteArray.size ⟨#[a, b, c, d, e]⟩ = 5) ∧ (∀ a b c d e f g h, ByteArray.size ⟨#[a, b, c, d, e, f, g, h]⟩ = 8) := by
  refine ⟨?_, ?_, ?_, ?_, ?_, ?_, ?_⟩ <;> intros <;> rfl
theorem W24 (P : Program) (ty : TypeId → Option TI) : (∀ q b x i o d t s K, opX P ty q (.index b x i) o d t s K = idxS (ty b) (eT t x) (eT t i) d t s K) ∧ (∀ i a k n d t s K, idxS (some i) (.v (.string a)) (.v (.int k n)) d t s K = (strZ i.zero = true ∧ 0 ≤ n ∧ n < (a.size : Int) ∧ K (pT t d (.v (.int .u8 (bt a n)))) s)) ∧ (∀ i a b c, rot i (.index a b c) = true) ∧
    (∀ i a lo hi d t s K, slcW ty (some i) (.v (.string a)) lo hi d t s K = (strZ i.zero = true ∧ slcS a (loN lo) hi d t s K)) ∧ (∀ a l d t s K, slcS a (some l) none d t s K = (0 ≤ l ∧ l ≤ (a.size : Int) ∧ K (pT t d (.v (.string (a.extract l.toNat a.size)))) s)) ∧ (∀ a l k h d t s K, slcS a (some l) (some (.v (.int k h))) d t s K = (0 ≤ l ∧ l ≤ h ∧ h ≤ (a.size : Int) ∧ K (pT t d (.v (.string (a.extract l.toNat h.toNat)))) s)) ∧ (Int.toNat 1 = 1) ∧ (Int.toNat 2 = 2) ∧
    (∀ i j k d t s K, cnvW ty (some i) (some j) (.lo k) d t s K = cnvS ty i j (.lo k) d t s K) ∧ (∀ i j z l d t s K, cnvW ty (some i) (some j) (.pr z l) d t s K = cnvS ty i j (.pr z l) d t s K) ∧ (∀ i j k z a b d t s K, cnvW ty (some i) (some j) (.vw k z a b) d t s K = cnvS ty i j (.vw k z a b) d t s K) ∧ (∀ i j a n c d t s K, cnvW ty (some i) (some j) (.v (.slice a n c)) d t s K = cnvS ty i j (.v (.slice a n c)) d t s K) ∧
    (∀ i j x d t s K, cnvS ty i j x d t s K = (strZ j.zero = true ∧ (∃ e, ty i.el = some e ∧ u8Z e.zero = true) ∧ ∃ ns, (rdS 1 x s).bind bys = some ns ∧ K (pT t d (.v (.string (strOfNums ns)))) s)) ∧ (∀ (α β : Type) (f : α → Option β) (x : α), (some x).bind f = f x) ∧ (bys [] = some []) ∧ (∀ a, (bytesOf a).length = a.size) ∧
    (∀ q a x o d t s K, opX P ty q (.unOp .neg a x) o d t s K = negW (eT t x) d t s K) ∧ (∀ k n d t s K, negW (.v (.int k n)) d t s K = K (pT t d (.v (.int k (wr k (-n))))) s) ∧
    (∀ op a b d t s K, binW op (.v (.int .u8 a)) (.v (.int .u8 b)) d t s K = (kok op .u8 .u8 = true ∧ bok op b ∧ K (pT t d (.v (bval op .u8 a b))) s)) ∧ (kok .lss .u8 .u8 = true) ∧ (kok .leq .u8 .u8 = true) ∧ (kok .gtr .u8 .u8 = true) ∧ (kok .geq .u8 .u8 = true) ∧ (kok .eql .u8 .u8 = true) ∧ (kok .neq .u8 .u8 = true) ∧
    (∀ a b, bval .lss .u8 a b = .bool (decide (a < b))) ∧ (∀ a b, bval .leq .u8 a b = .bool (decide (a ≤ b))) ∧ (∀ a b, bval .gtr .u8 a b = .bool (decide (a > b))) ∧ (∀ a b, bval .geq .u8 a b = .bool (decide (a ≥ b))) ∧ (∀ a b, bval .eql .u8 a b = .bool (a == b)) ∧ (∀ a b, bval .neq .u8 a b = .bool (a != b)) ∧ (∀ n : Int, n ≤ n) := by
  refine ⟨?_, ?_, ?_, ?_, ?_, ?_, ?_, ?_, ?_, ?_, ?_, ?_, ?_, ?_, ?_, ?_, ?_, ?_, ?_, ?_, ?_, ?_, ?_, ?_, ?_, ?_, ?_, ?_, ?_, ?_, ?_, ?_⟩ <;> intros <;> first | rfl | exact Int.le_refl _ | exact bytesOf_length _ | (unfold binW; rfl) | (unfold slcS; simp [hiN]; done)
end Go.Proofs.YtdjdleldocfpaaaGreatDoor.F
end

section
namespace Go.Proofs.YtdjdleldocfpaaaGreatDoor.F
open Go.RowKit Go.Proofs.YtdjdleldocfpaaaGreatDoorW.PrintWords Go.Proofs.YtdjdleldocfpaaaGreatDoorW.PrintLast Go.Proofs.YtdjdleldocfpaaaGreatDoorW.PrintMore
set_option linter.unusedVariables false
set_option linter.unusedSimpArgs false
structure EncOk {α : Type} (d : Kd α) (sz : Nat) (enc : α → List Value) : Prop where
  hz : d.sz = sz
  pos : 0 < sz
  len : ∀ x, (enc x).length = sz
  pl : ∀ x, ∀ u ∈ enc x, plainV u = true
  K : ∀ {w x c}, d.K w x c ↔ c = enc x
  M : ∀ {w b ok x c}, d.M w b ok x c ↔ c = enc x
section
variable {α : Type} {d : Kd α} {sz : Nat} {enc : α → List Value}
theorem EncOk.all (E : EncOk d sz enc) {xs : List α} : ∀ x ∈ xs.map enc, x.length = sz := fun x hx => by
  obtain ⟨y, _, rfl⟩ := List.mem_map.1 hx
  exact E.len y
theorem EncOk.row (E : EncOk d sz enc) (xs : List α) : rowOk sz (xs.map enc) := fun x hx => by
  obtain ⟨y, _, rfl⟩ := List.mem_map.1 hx
  exact ⟨E.len y, E.pl y⟩
theorem EncOk.cell (E : EncOk d sz enc) {xs : List α} {i j : Nat} (hi : i < xs.length) (hj : j < sz) : (xs.map enc).flatten[i * sz + j]? = (enc xs[i])[j]? := by
  rw [flatten_at E.all (by simpa using hi) (z := []) hj]
  simp [List.getD_eq_getElem?_getD, hi]
theorem at_of_C (E : EncOk d sz enc) {w : World} {A : Option Addr} {c : Nat} {xs : List α} (h : d.C w A xs.length xs) (hc : xs.length ≤ c) : RowAt w.heap.size w sz (xs.map enc) (.slice A xs.length c) := by
  obtain ⟨h1, h2, h3⟩ := h
  have hs := E.hz
  refine ⟨A, c, by rw [List.length_map], by rw [List.length_map]; exact hc, by rw [List.length_map]; exact h2, E.pos, E.row xs, fun hne => ?_⟩
  have hp : 0 < xs.length := by
    cases xs with
    | nil => exact absurd rfl hne
    | cons x l => simp
  obtain ⟨ad, e, h3⟩ := h3 hp
  have key : ∀ j u, (xs.map enc).flatten[j]? = some u → w.cell? (ad.add j) = some u := fun j u hu => by
    have hl : j < (xs.map enc).flatten.length := (List.getElem?_eq_some_iff.1 hu).1
    rw [flatten_len E.all, List.length_map] at hl
    have hq : j / sz < xs.length := (Nat.div_lt_iff_lt_mul E.pos).2 hl
    have hr := Nat.mod_lt j E.pos
    have ej : j = j / sz * sz + j % sz := by rw [Nat.mul_comm]; exact (Nat.div_add_mod j sz).symm
    rw [ej, E.cell hq hr] at hu
    obtain ⟨cc, h4, h5, h6⟩ := h3 (j / sz) _ (List.getElem?_eq_getElem hq)
    rw [E.K.1 h5, hs] at h6
    rw [ej]
    exact h6 (j % sz) u hu
  refine ⟨ad, e, ?_, key⟩
  obtain ⟨u, hu⟩ : ∃ u, (xs.map enc).flatten[0]? = some u := by
    refine ⟨_, List.getElem?_eq_getElem (by rw [flatten_len E.all, List.length_map]; exact Nat.mul_pos hp E.pos)⟩
  have := key 0 u hu
  unfold World.cell? at this
  cases hb : w.heap[(ad.add 0).block]? with
  | none => rw [hb] at this; cases this
  | some b => exact (Array.getElem?_eq_some_iff.1 hb).1
theorem C_of_at (E : EncOk d sz enc) {B : Nat} {w : World} {xs : List α} {y : Value} (h : RowAt B w sz (xs.map enc) y) : ∃ A c, y = .slice A xs.length c ∧ d.C w A xs.length xs ∧ xs.length ≤ c := by
  obtain ⟨A, c, h1, h2, h3, _, _, h4⟩ := h
  rw [List.length_map] at h1 h2 h3
  refine ⟨A, c, h1, ⟨rfl, h3, fun hp => ?_⟩, h2⟩
  obtain ⟨ad, e, _, h5⟩ := h4 (fun e => by rw [List.map_eq_nil_iff] at e; rw [e] at hp; simp at hp)
  refine ⟨ad, e, fun j p hj => ⟨enc p, by rw [E.len, E.hz], E.K.2 rfl, fun i u hu => h5 _ u ?_⟩⟩
  obtain ⟨hl, rfl⟩ := List.getElem?_eq_some_iff.1 hj
  have hi : i < sz := by rw [← E.len xs[j]]; exact (List.getElem?_eq_some_iff.1 hu).1
  rw [E.hz, E.cell hl hi]
  exact hu
theorem R_of_rowO (E : EncOk d sz enc) {e B : Nat} {w : World} {v : Value} {xs : List α} {ok : Nat → Prop} (h : w.ownsRow B e sz v (xs.map enc).length (xs.map enc).flatten) (hok : ∀ k, bk v = some k → ok k) : d.R e w B ok v xs := by
  refine ⟨fun k hk => hok k (by rw [← bk_own h]; exact hk), (xs.map enc).flatten, by rw [E.hz]; rwa [List.length_map] at h, by rw [flatten_len E.all, List.length_map, E.hz], fun j p hj => E.M.2 ?_⟩
  obtain ⟨hl, rfl⟩ := List.getElem?_eq_some_iff.1 hj
  apply List.ext_getElem?
  intro i
  rw [E.hz]
  by_cases hi : i < sz
  · rw [List.getElem?_take, if_pos hi, List.getElem?_drop, E.cell hl hi]
  · rw [List.getElem?_take, if_neg hi, List.getElem?_eq_none (by rw [E.len]; omega)]
theorem R_of_row (E : EncOk d sz enc) {e B : Nat} {w : World} {v : Value} {xs : List α} (h : w.ownsRow B e sz v (xs.map enc).length (xs.map enc).flatten) : d.R e w B (fun _ => True) v xs := R_of_rowO E h fun _ _ => trivial
theorem row_of_R (E : EncOk d sz enc) {e B : Nat} {w : World} {ok : Nat → Prop} {v : Value} {xs : List α} (h : d.R e w B ok v xs) : w.ownsRow B e sz v (xs.map enc).length (xs.map enc).flatten := by
  obtain ⟨_, inner, ho, hr⟩ := h
  have hin : inner = (xs.map enc).flatten := by
    apply List.ext_getElem?
    intro j
    by_cases hj : j < xs.length * sz
    · have hq : j / sz < xs.length := (Nat.div_lt_iff_lt_mul E.pos).2 hj
      have hm := Nat.mod_lt j E.pos
      have ej : j = j / sz * sz + j % sz := by rw [Nat.mul_comm]; exact (Nat.div_add_mod j sz).symm
      have h2 := E.M.1 (hr.2 (j / sz) _ (List.getElem?_eq_getElem hq))
      rw [ej, E.cell hq hm, ← h2, E.hz, List.getElem?_take, if_pos hm, List.getElem?_drop]
    · rw [List.getElem?_eq_none (by have := hr.1; rw [E.hz] at this; omega), List.getElem?_eq_none (by rw [flatten_len E.all, List.length_map]; omega)]
  rw [← hin, List.length_map]
  rw [E.hz] at ho
  exact ho
end
end Go.Proofs.YtdjdleldocfpaaaGreatDoor.F
namespace Go.Proofs.YtdjdleldocfpaaaGreatDoor.F
open Go.RowKit Go.Proofs.YtdjdleldocfpaaaGreatDoorW.PrintWords Go.Proofs.YtdjdleldocfpaaaGreatDoorW.PrintLast Go.Proofs.YtdjdleldocfpaaaGreatDoorW.PrintMore
end Go.Proofs.YtdjdleldocfpaaaGreatDoor.F
end

section
namespace Go.Proofs.YtdjdleldocfpaaaGreatDoor.F
open Go.RowKit Go.Proofs.YtdjdleldocfpaaaGreatDoorW.PrintWords Go.Proofs.YtdjdleldocfpaaaGreatDoorW.PrintLast Go.Proofs.YtdjdleldocfpaaaGreatDoorW.PrintMore
set_option linter.unusedVariables false
set_option linter.unusedSimpArgs false
def spec_l01Figure.f (a0 : Int) : Option (Int) := if a0 < 10 then (some ((wrap64 (48 + a0)) % 256)) else (some ((wrap64 ((wrap64 (97 + a0)) - 10)) % 256))
def spec_FormatInt.l0 : Nat → Int → Bool → ByteArray → Option (ByteArray)
  | 0, _, _, _ => none
  | k + 1, x0, x3, x4 => if x0 = 0 then (if x3 = true then (if 1 + x4.size ≤ 9223372036854775807 then (some ((⟨#[45]⟩ : ByteArray) ++ x4)) else (none)) else (some x4)) else (if (Int.tmod x0 10) < 0 then ((spec_l01Figure.f (wrap64 (-(Int.tmod x0 10)))).bind fun t236 => ((some (([t236] : List Int) : List Int)).bind fun y237 => (if (strOfNums y237).size + x4.size ≤ 9223372036854775807 then (spec_FormatInt.l0 k (wrap64 (Int.tdiv x0 10)) x3 ((strOfNums y237) ++ x4)) else (none)))) else ((spec_l01Figure.f (Int.tmod x0 10)).bind fun t240 => ((some (([t240] : List Int) : List Int)).bind fun y241 => (if (strOfNums y241).size + x4.size ≤ 9223372036854775807 then (spec_FormatInt.l0 k (wrap64 (Int.tdiv x0 10)) x3 ((strOfNums y241) ++ x4)) else (none)))))
def spec_FormatInt.f (k : Nat) (a0 : Int) : Option (ByteArray) := if a0 = 0 then (some (⟨#[48]⟩ : ByteArray)) else (spec_FormatInt.l0 k a0 (decide (a0 < 0)) (⟨#[]⟩ : ByteArray))
end Go.Proofs.YtdjdleldocfpaaaGreatDoor.F
end

section
namespace Go.Proofs.YtdjdleldocfpaaaGreatDoor.F
open Go.RowKit Go.Proofs.YtdjdleldocfpaaaGreatDoorW.PrintWords Go.Proofs.YtdjdleldocfpaaaGreatDoorW.PrintLast Go.Proofs.YtdjdleldocfpaaaGreatDoorW.PrintMore
set_option linter.unusedVariables false
set_option linter.unusedSimpArgs false
def spec_NewGarden.f (k : Nat) (a0_0 : Int) (a0_1 : Int) (a0_2 : Int) (a1 : Int) (a2 : Int) : Option (Int × Int × Int × List Int × Int × Int × List Int × Int × Bool) := (spec_MazeOk.f a0_0 a0_1 a0_2).bind fun t708 => (if t708 = true then ((spec_CountGaps.f a0_0 a0_1).bind fun t709 => (if 0 ≤ t709 then (if (t709 : Int).toNat ≤ 35184372088832 then ((some (List.replicate (t709 : Int).toNat 0 : List Int)).bind fun y710 => ((spec_GardenOk.f k a0_0 a0_1 a0_2 y710 a2 a1 ([] : List Int) 0).bind fun t713 => (if t713 = true then (some (a0_0, a0_1, a0_2, y710, a2, a1, ([] : List Int), 0, true)) else (some (0, 0, 0, ([] : List Int), 0, 0, ([] : List Int), 0, false))))) else (none)) else (none))) else (some (0, 0, 0, ([] : List Int), 0, 0, ([] : List Int), 0, false)))
def spec_FullMaze.f (a0_0 : Int) (a0_1 : Int) : Option (Int × Int × Int) := (spec_GridOk.f a0_0 a0_1).bind fun t716 => (if t716 = true then ((spec_CountGaps.f a0_0 a0_1).bind fun t717 => (if 0 ≤ t717 then (some (a0_0, a0_1, wrap64 ((shl .i64 1 t717) - 1))) else (none))) else (some (0, 0, 0)))
def spec_SampleGarden.f (k : Nat)  : Option (Int × Int × Int × List Int × Int × Int × List Int × Int) := (spec_FullMaze.f 3 3).bind fun bt719 => ((spec_NewGarden.f k bt719.1 bt719.2.1 bt719.2.2 0 5).bind fun bt722 => (some (bt722.1, bt722.2.1, bt722.2.2.1, bt722.2.2.2.1, bt722.2.2.2.2.1, bt722.2.2.2.2.2.1, bt722.2.2.2.2.2.2.1, bt722.2.2.2.2.2.2.2.1)))
def spec_l28Copy.f (l0 : List Int) : Option (List Int) := (some (([] : List Int) : List Int)).bind fun y755 => (if y755.length + l0.length < 17592186044416 then (some (y755 ++ l0)) else (none))
def spec_l30Copy.f (a0_0 : Int) (a0_1 : Int) (a0_2 : Int) (l0_3 : List Int) (a0_4 : Int) : Option (Int × Int × Int × List Int × Int) := (spec_l28Copy.f l0_3).bind fun t763 => (some (a0_0, a0_1, a0_2, t763, a0_4))
def spec_l38Copy.f (a0_0 : Int) (a0_1 : Int) (a0_2 : Int) (l0_3 : List Int) (a0_4 : Int) (a0_5 : Int) (l0_6 : List Int) (a0_7 : Int) : Option (Int × Int × Int × List Int × Int × Int × List Int × Int) := (spec_l30Copy.f a0_0 a0_1 a0_2 l0_3 a0_4).bind fun bt768 => ((spec_l28Copy.f l0_6).bind fun t775 => (some (bt768.1, bt768.2.1, bt768.2.2.1, bt768.2.2.2.1, bt768.2.2.2.2, a0_5, t775, a0_7)))
mutual
def spec_GrowHedge.j0 : Nat → Int → Bool → Int → Int → Int → List Int → Int → Option (Int × Int × Int × List Int × Int × Bool)
  | 0, _, _, _, _, _, _, _ => none
  | k + 1, x1, x17, x788000, x788001, x788002, x788003, x788004 => if x17 = true then (some (x788000, x788001, x788002, x788003, x788004, false)) else (spec_GrowHedge.l0 k x1 0 x788000 x788001 x788002 x788003 x788004)
def spec_GrowHedge.l0 : Nat → Int → Int → Int → Int → Int → List Int → Int → Option (Int × Int × Int × List Int × Int × Bool)
  | 0, _, _, _, _, _, _, _ => none
  | k + 1, x1, x7, x788000, x788001, x788002, x788003, x788004 => if x7 < (x788003.length : Int) then (if 0 ≤ x7 then (spec_GrowHedge.l0 k x1 (wrap64 (x7 + 1)) x788000 x788001 x788002 (x788003.set (x7 : Int).toNat (mn 1000 (wrap64 ((rd x788003 x7) + x1)))) x788004) else (none)) else (some (x788000, x788001, x788002, x788003, x788004, true))
end
def spec_GrowHedge.f (k : Nat) (a0_0 : Int) (a0_1 : Int) (a0_2 : Int) (l0_3 : List Int) (a0_4 : Int) (a1 : Int) : Option (Int × Int × Int × List Int × Int × Bool) := (spec_l30Copy.f a0_0 a0_1 a0_2 l0_3 a0_4).bind fun bt780 => ((spec_HedgeOk.f k a0_0 a0_1 a0_2 l0_3 a0_4).bind fun t788 => (if t788 = true then ((spec_l01In.f a1 0 20).bind fun t789 => (spec_GrowHedge.j0 k a1 (!t789) bt780.1 bt780.2.1 bt780.2.2.1 bt780.2.2.2.1 bt780.2.2.2.2)) else (spec_GrowHedge.j0 k a1 true bt780.1 bt780.2.1 bt780.2.2.1 bt780.2.2.2.1 bt780.2.2.2.2)))
def spec_CutHedge.f (k : Nat) (a0_0 : Int) (a0_1 : Int) (a0_2 : Int) (l0_3 : List Int) (a0_4 : Int) (a1 : Int) : Option (Int × Int × Int × List Int × Int × Bool) := (spec_l30Copy.f a0_0 a0_1 a0_2 l0_3 a0_4).bind fun bt794 => ((spec_HedgeOk.f k a0_0 a0_1 a0_2 l0_3 a0_4).bind fun t802 => (if t802 = true then ((spec_l01In.f a1 0 (wrap64 ((l0_3.length : Int) - 1))).bind fun t803 => (if t803 = true then (if 0 ≤ a1 then (if a1 < (bt794.2.2.2.1.length : Int) then (some (bt794.1, bt794.2.1, bt794.2.2.1, (bt794.2.2.2.1.set (a1 : Int).toNat 0), bt794.2.2.2.2, true)) else (none)) else (none)) else (some (bt794.1, bt794.2.1, bt794.2.2.1, bt794.2.2.2.1, bt794.2.2.2.2, false)))) else (some (bt794.1, bt794.2.1, bt794.2.2.1, bt794.2.2.2.1, bt794.2.2.2.2, false))))
mutual
def spec_NextToCut.l0 : Nat → Int → Int → Int → Int → Int → List Int → Int → Option (Int)
  | 0, _, _, _, _, _, _, _ => none
  | k + 1, x3, x4, x806000, x806001, x806002, x806003, x806004 => if x4 < (x806003.length : Int) then ((spec_HedgeOk.f k x806000 x806001 x806002 x806003 x806004).bind fun t806 => (spec_NextToCut.j1 k x3 x4 t806 x806000 x806001 x806002 x806003 x806004)) else (spec_NextToCut.j1 k x3 x4 false x806000 x806001 x806002 x806003 x806004)
def spec_NextToCut.j1 : Nat → Int → Int → Bool → Int → Int → Int → List Int → Int → Option (Int)
  | 0, _, _, _, _, _, _, _, _ => none
  | k + 1, x3, x4, x13, x806000, x806001, x806002, x806003, x806004 => if x13 = true then ((spec_l03Bit.f x806002 x4).bind fun t807 => (if t807 = true then (if x3 < 0 then (spec_NextToCut.l0 k x4 (wrap64 (x4 + 1)) x806000 x806001 x806002 x806003 x806004) else (if 0 ≤ x4 then (if x4 < (x806003.length : Int) then (if 0 ≤ x3 then (if x3 < (x806003.length : Int) then (if (rd x806003 x4) > (rd x806003 x3) then (spec_NextToCut.l0 k x4 (wrap64 (x4 + 1)) x806000 x806001 x806002 x806003 x806004) else (spec_NextToCut.l0 k x3 (wrap64 (x4 + 1)) x806000 x806001 x806002 x806003 x806004)) else (none)) else (none)) else (none)) else (none))) else (spec_NextToCut.l0 k x3 (wrap64 (x4 + 1)) x806000 x806001 x806002 x806003 x806004))) else (some x3)
end
def spec_NextToCut.f (k : Nat) (a0_0 : Int) (a0_1 : Int) (a0_2 : Int) (l0_3 : List Int) (a0_4 : Int) : Option (Int) := spec_NextToCut.l0 k (-1) 0 a0_0 a0_1 a0_2 l0_3 a0_4
mutual
def spec_NextDay.j0 : Nat → Int → Bool → Int → Int → Int → List Int → Int → Int → List Int → Int → Int → Int → Int → List Int → Int → Int → List Int → Int → Option (Int × Int × Int × List Int × Int × Int × List Int × Int × Bool)
  | 0, _, _, _, _, _, _, _, _, _, _, _, _, _, _, _, _, _, _ => none
  | k + 1, x1, x21, x811000, x811001, x811002, x811003, x811004, x811005, x811006, x811007, x825000, x825001, x825002, x825003, x825004, x825005, x825006, x825007 => if x21 = true then (some (x825000, x825001, x825002, x825003, x825004, x825005, x825006, x825007, false)) else ((spec_GrowHedge.f k x811000 x811001 x811002 x811003 x811004 x1).bind fun bt827 => (spec_NextDay.l0 k x811000 x811001 x811002 x811003 x811004 x811005 x811006 x811007 bt827.1 bt827.2.1 bt827.2.2.1 bt827.2.2.2.1 bt827.2.2.2.2.1 x825005 x825006 x825007))
def spec_NextDay.l0 : Nat → Int → Int → Int → List Int → Int → Int → List Int → Int → Int → Int → Int → List Int → Int → Int → List Int → Int → Option (Int × Int × Int × List Int × Int × Int × List Int × Int × Bool)
  | 0, _, _, _, _, _, _, _, _, _, _, _, _, _, _, _, _ => none
  | k + 1, x811000, x811001, x811002, x811003, x811004, x811005, x811006, x811007, x825000, x825001, x825002, x825003, x825004, x825005, x825006, x825007 => (spec_OpenNow.f k x825000 x825001 x825002 x825003 x825004).bind fun bt835 => ((spec_IsConnected.f k bt835.1 bt835.2.1 bt835.2.2).bind fun t838 => (if t838 = true then (some (x825000, x825001, x825002, x825003, x825004, x825005, x825006, wrap64 (x811007 + 1), true)) else ((spec_NextToCut.f k x825000 x825001 x825002 x825003 x825004).bind fun t839 => ((spec_CutHedge.f k x825000 x825001 x825002 x825003 x825004 t839).bind fun bt840 => (spec_NextDay.l0 k x811000 x811001 x811002 x811003 x811004 x811005 x811006 x811007 bt840.1 bt840.2.1 bt840.2.2.1 bt840.2.2.2.1 bt840.2.2.2.2.1 x825005 x825006 x825007)))))
end
def spec_NextDay.f (k : Nat) (a0_0 : Int) (a0_1 : Int) (a0_2 : Int) (l0_3 : List Int) (a0_4 : Int) (a0_5 : Int) (l0_6 : List Int) (a0_7 : Int) (a1 : Int) : Option (Int × Int × Int × List Int × Int × Int × List Int × Int × Bool) := (spec_l38Copy.f a0_0 a0_1 a0_2 l0_3 a0_4 a0_5 l0_6 a0_7).bind fun bt812 => ((spec_GardenOk.f k a0_0 a0_1 a0_2 l0_3 a0_4 a0_5 l0_6 a0_7).bind fun t825 => (if t825 = true then ((spec_l01In.f a1 1 20).bind fun t826 => (if t826 = true then (spec_NextDay.j0 k a1 (a0_7 == 10000) a0_0 a0_1 a0_2 l0_3 a0_4 a0_5 l0_6 a0_7 bt812.1 bt812.2.1 bt812.2.2.1 bt812.2.2.2.1 bt812.2.2.2.2.1 bt812.2.2.2.2.2.1 bt812.2.2.2.2.2.2.1 bt812.2.2.2.2.2.2.2) else (spec_NextDay.j0 k a1 true a0_0 a0_1 a0_2 l0_3 a0_4 a0_5 l0_6 a0_7 bt812.1 bt812.2.1 bt812.2.2.1 bt812.2.2.2.1 bt812.2.2.2.2.1 bt812.2.2.2.2.2.1 bt812.2.2.2.2.2.2.1 bt812.2.2.2.2.2.2.2))) else (spec_NextDay.j0 k a1 true a0_0 a0_1 a0_2 l0_3 a0_4 a0_5 l0_6 a0_7 bt812.1 bt812.2.1 bt812.2.2.1 bt812.2.2.2.1 bt812.2.2.2.2.1 bt812.2.2.2.2.2.1 bt812.2.2.2.2.2.2.1 bt812.2.2.2.2.2.2.2)))
def spec_Enter.f (k : Nat) (a0_0 : Int) (a0_1 : Int) (a0_2 : Int) (l0_3 : List Int) (a0_4 : Int) (a0_5 : Int) (l0_6 : List Int) (a0_7 : Int) : Option (Int × Int × Int × List Int × Int × Int × List Int × Int × Bool) := (spec_l38Copy.f a0_0 a0_1 a0_2 l0_3 a0_4 a0_5 l0_6 a0_7).bind fun bt850 => (if bt850.2.2.2.2.2.2.1.length < 17592186044416 then ((some (bt850.2.2.2.2.2.2.1 ++ [a0_5] : List Int)).bind fun y863 => ((spec_GardenOk.f k a0_0 a0_1 a0_2 l0_3 a0_4 a0_5 l0_6 a0_7).bind fun t866 => (if t866 = true then ((spec_GardenOk.f k bt850.1 bt850.2.1 bt850.2.2.1 bt850.2.2.2.1 bt850.2.2.2.2.1 bt850.2.2.2.2.2.1 y863 bt850.2.2.2.2.2.2.2).bind fun t867 => (if t867 = true then (some (bt850.1, bt850.2.1, bt850.2.2.1, bt850.2.2.2.1, bt850.2.2.2.2.1, bt850.2.2.2.2.2.1, y863, bt850.2.2.2.2.2.2.2, true)) else ((spec_l38Copy.f a0_0 a0_1 a0_2 l0_3 a0_4 a0_5 l0_6 a0_7).bind fun bt868 => (some (bt868.1, bt868.2.1, bt868.2.2.1, bt868.2.2.2.1, bt868.2.2.2.2.1, bt868.2.2.2.2.2.1, bt868.2.2.2.2.2.2.1, bt868.2.2.2.2.2.2.2, false))))) else ((spec_l38Copy.f a0_0 a0_1 a0_2 l0_3 a0_4 a0_5 l0_6 a0_7).bind fun bt880 => (some (bt880.1, bt880.2.1, bt880.2.2.1, bt880.2.2.2.1, bt880.2.2.2.2.1, bt880.2.2.2.2.2.1, bt880.2.2.2.2.2.2.1, bt880.2.2.2.2.2.2.2, false)))))) else (none))
def spec_MoveOne.j0 : Nat → List Int → Int → Int → List Int → Bool → Int → Int → Int → Option (List Int × Bool)
  | 0, _, _, _, _, _, _, _, _ => none
  | k + 1, x1, x2, x3, x10, x25, x893000, x893001, x893002 => if x25 = true then (some (x10, false)) else (if 0 ≤ x2 then (if x2 < (x1.length : Int) then ((spec_Step.f k x893000 x893001 x893002 (rd x1 x2) x3).bind fun t899 => (if t899 < 0 then (some (x10, false)) else ((spec_l07In.f k x1 t899).bind fun t900 => (if t900 = true then (some (x10, false)) else (if x2 < (x10.length : Int) then (some ((x10.set (x2 : Int).toNat t899), true)) else (none)))))) else (none)) else (none))
def spec_MoveOne.f (k : Nat) (a0_0 : Int) (a0_1 : Int) (a0_2 : Int) (l1 : List Int) (a2 : Int) (a3 : Int) : Option (List Int × Bool) := (spec_l28Copy.f l1).bind fun t893 => ((spec_CrowdOk.f k a0_0 a0_1 a0_2 l1).bind fun t896 => (if t896 = true then ((spec_l01In.f a2 0 (wrap64 ((l1.length : Int) - 1))).bind fun t897 => (spec_MoveOne.j0 k l1 a2 a3 t893 (!t897) a0_0 a0_1 a0_2)) else (spec_MoveOne.j0 k l1 a2 a3 t893 true a0_0 a0_1 a0_2)))
def spec_WalkIn.f (k : Nat) (a0_0 : Int) (a0_1 : Int) (a0_2 : Int) (l0_3 : List Int) (a0_4 : Int) (a0_5 : Int) (l0_6 : List Int) (a0_7 : Int) (a1 : Int) (a2 : Int) : Option (Int × Int × Int × List Int × Int × Int × List Int × Int × Bool) := (spec_l38Copy.f a0_0 a0_1 a0_2 l0_3 a0_4 a0_5 l0_6 a0_7).bind fun bt904 => ((spec_GardenOk.f k a0_0 a0_1 a0_2 l0_3 a0_4 a0_5 l0_6 a0_7).bind fun t917 => (if t917 = true then ((spec_OpenNow.f k a0_0 a0_1 a0_2 l0_3 a0_4).bind fun bt918 => ((spec_MoveOne.f k bt918.1 bt918.2.1 bt918.2.2 l0_6 a1 a2).bind fun bt921 => (some (bt904.1, bt904.2.1, bt904.2.2.1, bt904.2.2.2.1, bt904.2.2.2.2.1, bt904.2.2.2.2.2.1, bt921.1, bt904.2.2.2.2.2.2.2, bt921.2)))) else (some (bt904.1, bt904.2.1, bt904.2.2.1, bt904.2.2.2.1, bt904.2.2.2.2.1, bt904.2.2.2.2.2.1, bt904.2.2.2.2.2.2.1, bt904.2.2.2.2.2.2.2, false))))
mutual
def spec_Leave.j0 : Nat → Bool → Int → Int → Int → List Int → Int → Int → List Int → Int → Int → Int → Int → List Int → Int → Int → List Int → Int → Option (Int × Int × Int × List Int × Int × Int × List Int × Int × Bool)
  | 0, _, _, _, _, _, _, _, _, _, _, _, _, _, _, _, _, _ => none
  | k + 1, x18, x926000, x926001, x926002, x926003, x926004, x926005, x926006, x926007, x940000, x940001, x940002, x940003, x940004, x940005, x940006, x940007 => if x18 = true then (some (x940000, x940001, x940002, x940003, x940004, x940005, x940006, x940007, false)) else (spec_Leave.l0 k 0 x926000 x926001 x926002 x926003 x926004 x926005 x926006 x926007 x940000 x940001 x940002 x940003 x940004 x940005 (([] : List Int)) x940007)
def spec_Leave.l0 : Nat → Int → Int → Int → Int → List Int → Int → Int → List Int → Int → Int → Int → Int → List Int → Int → Int → List Int → Int → Option (Int × Int × Int × List Int × Int × Int × List Int × Int × Bool)
  | 0, _, _, _, _, _, _, _, _, _, _, _, _, _, _, _, _, _ => none
  | k + 1, x5, x926000, x926001, x926002, x926003, x926004, x926005, x926006, x926007, x940000, x940001, x940002, x940003, x940004, x940005, x940006, x940007 => if x5 < (x926006.length : Int) then (if 0 ≤ x5 then (if (rd x926006 x5) = x926005 then (spec_Leave.l0 k (wrap64 (x5 + 1)) x926000 x926001 x926002 x926003 x926004 x926005 x926006 x926007 x940000 x940001 x940002 x940003 x940004 x940005 x940006 x940007) else (if x940006.length < 17592186044416 then (spec_Leave.l0 k (wrap64 (x5 + 1)) x926000 x926001 x926002 x926003 x926004 x926005 x926006 x926007 x940000 x940001 x940002 x940003 x940004 x940005 (x940006 ++ [rd x926006 x5]) x940007) else (none))) else (none)) else (some (x940000, x940001, x940002, x940003, x940004, x940005, x940006, x940007, true))
end
def spec_Leave.f (k : Nat) (a0_0 : Int) (a0_1 : Int) (a0_2 : Int) (l0_3 : List Int) (a0_4 : Int) (a0_5 : Int) (l0_6 : List Int) (a0_7 : Int) : Option (Int × Int × Int × List Int × Int × Int × List Int × Int × Bool) := (spec_l38Copy.f a0_0 a0_1 a0_2 l0_3 a0_4 a0_5 l0_6 a0_7).bind fun bt927 => ((spec_GardenOk.f k a0_0 a0_1 a0_2 l0_3 a0_4 a0_5 l0_6 a0_7).bind fun t940 => (if t940 = true then ((spec_l07In.f k l0_6 a0_5).bind fun t941 => (spec_Leave.j0 k (!t941) a0_0 a0_1 a0_2 l0_3 a0_4 a0_5 l0_6 a0_7 bt927.1 bt927.2.1 bt927.2.2.1 bt927.2.2.2.1 bt927.2.2.2.2.1 bt927.2.2.2.2.2.1 bt927.2.2.2.2.2.2.1 bt927.2.2.2.2.2.2.2)) else (spec_Leave.j0 k true a0_0 a0_1 a0_2 l0_3 a0_4 a0_5 l0_6 a0_7 bt927.1 bt927.2.1 bt927.2.2.1 bt927.2.2.2.1 bt927.2.2.2.2.1 bt927.2.2.2.2.2.1 bt927.2.2.2.2.2.2.1 bt927.2.2.2.2.2.2.2)))
end Go.Proofs.YtdjdleldocfpaaaGreatDoor.F
end

section
namespace Go.Proofs.YtdjdleldocfpaaaGreatDoor.F
open Go.RowKit Go.Proofs.YtdjdleldocfpaaaGreatDoorW.PrintWords Go.Proofs.YtdjdleldocfpaaaGreatDoorW.PrintLast Go.Proofs.YtdjdleldocfpaaaGreatDoorW.PrintMore
set_option linter.unusedVariables false
set_option linter.unusedSimpArgs false
def laws_big.f (l0 : List Int) : Option (Bool) := some (decide ((l0.length : Int) > 1048576))
def spec_l01New.l0 : Nat → List Int → Int → Int → Option (List Int × Int × Int)
  | 0, _, _, _ => none
  | k + 1, x0, x3, x4 => if x4 < (x0.length : Int) then (if x4 < 4000 then (if 0 ≤ x4 then (spec_l01New.l0 k x0 (Go.bits .and .i64 (wrap64 ((wrap64 ((wrap64 (x3 * 131)) + (wrap64 (rd x0 x4)))) + 7)) 1073741823) (wrap64 (x4 + 1))) else (none)) else (some (x0, 0, x3))) else (some (x0, 0, x3))
def spec_l01New.f (k : Nat) (l0 : List Int) : Option (List Int × Int × Int) := spec_l01New.l0 k l0 (wrap64 (99041 + (l0.length : Int))) 0
def spec_l01Byte.f (s0_0 : List Int) (s0_1 : Int) (s0_2 : Int) : Option (Int × Int × Int) := if s0_1 < (s0_0.length : Int) then (if 0 ≤ s0_1 then (some (Go.bits .and .i64 (wrap64 ((Go.bits .and .i64 (Go.bits .xor .i64 ((wrap64 ((wrap64 (s0_2 * 6364136223846793005)) + 1442695040888963407)) / 8589934592) ((wrap64 ((wrap64 (s0_2 * 6364136223846793005)) + 1442695040888963407)) / 35184372088832)) 255) + (wrap64 (rd s0_0 s0_1)))) 255, wrap64 (s0_1 + 1), wrap64 ((wrap64 (s0_2 * 6364136223846793005)) + 1442695040888963407))) else (none)) else (some (Go.bits .and .i64 (Go.bits .xor .i64 ((wrap64 ((wrap64 (s0_2 * 6364136223846793005)) + 1442695040888963407)) / 8589934592) ((wrap64 ((wrap64 (s0_2 * 6364136223846793005)) + 1442695040888963407)) / 35184372088832)) 255, s0_1, wrap64 ((wrap64 (s0_2 * 6364136223846793005)) + 1442695040888963407)))
def spec_l01Below.f (s0_0 : List Int) (s0_1 : Int) (s0_2 : Int) (a1 : Int) : Option (Int × Int × Int) := if a1 ≤ 0 then (some (0, s0_1, s0_2)) else (if a1 ≤ 256 then ((spec_l01Byte.f s0_0 s0_1 s0_2).bind fun bt737 => (if a1 = 0 then (none) else (some (Int.tmod bt737.1 a1, bt737.2.1, bt737.2.2)))) else ((spec_l01Byte.f s0_0 s0_1 s0_2).bind fun bt740 => ((spec_l01Byte.f s0_0 bt740.2.1 bt740.2.2).bind fun bt743 => ((spec_l01Byte.f s0_0 bt743.2.1 bt743.2.2).bind fun bt746 => ((spec_l01Byte.f s0_0 bt746.2.1 bt746.2.2).bind fun bt749 => (if a1 = 0 then (none) else (some (Int.tmod (wrap64 ((wrap64 ((wrap64 ((wrap64 (bt740.1 * 16777216)) + (wrap64 (bt743.1 * 65536)))) + (wrap64 (bt746.1 * 256)))) + bt749.1)) a1, bt749.2.1, bt749.2.2))))))))
def spec_l01Once.f (s0_0 : List Int) (s0_1 : Int) (s0_2 : Int) (a1 : Int) : Option (Bool × Int × Int) := (spec_l01Below.f s0_0 s0_1 s0_2 a1).bind fun bt752 => (some ((bt752.1 == 0), bt752.2.1, bt752.2.2))
def spec_l01PickInt.f (s0_0 : List Int) (s0_1 : Int) (s0_2 : Int) (l1 : List Int) : Option (Int × Int × Int) := (spec_l01Below.f s0_0 s0_1 s0_2 (l1.length : Int)).bind fun bt950 => (if 0 ≤ bt950.1 then (if bt950.1 < (l1.length : Int) then (some (rd l1 bt950.1, bt950.2.1, bt950.2.2)) else (none)) else (none))
def spec_l02Grid.f (s0_0 : List Int) (s0_1 : Int) (s0_2 : Int) : Option (Int × Int × Int × Int) := (spec_l01PickInt.f s0_0 s0_1 s0_2 (([1, 2, 3, 3, 4] : List Int))).bind fun bt958 => ((spec_l01PickInt.f s0_0 bt958.2.1 bt958.2.2 (([1, 2, 3, 3, 4] : List Int))).bind fun bt964 => (some (bt958.1, bt964.1, bt964.2.1, bt964.2.2)))
mutual
def spec_l12Maze.l0 : Nat → Int → Int → List Int → Int → Int → Int → Int → Int → Option (Int × Int × Int × Int × Int)
  | 0, _, _, _, _, _, _, _, _ => none
  | k + 1, x4, x5, x1000, x1001, x1002, x976000, x976001, x976002 => if x5 > 0 then (spec_l12Maze.j1 k x4 x5 (decide (x4 > 0)) x1000 x1001 x1002 x976000 x976001 x976002) else (spec_l12Maze.j1 k x4 x5 false x1000 x1001 x1002 x976000 x976001 x976002)
def spec_l12Maze.j1 : Nat → Int → Int → Bool → List Int → Int → Int → Int → Int → Int → Option (Int × Int × Int × Int × Int)
  | 0, _, _, _, _, _, _, _, _, _ => none
  | k + 1, x4, x5, x19, x1000, x1001, x1002, x976000, x976001, x976002 => if x19 = true then ((spec_l01Below.f x1000 x1001 x1002 x4).bind fun bt980 => ((spec_SetGap.f k x976000 x976001 x976002 bt980.1 false).bind fun bt983 => (spec_l12Maze.l0 k x4 (wrap64 (x5 - 1)) x1000 bt980.2.1 bt980.2.2 bt983.1 bt983.2.1 bt983.2.2.1))) else (some (x976000, x976001, x976002, x1001, x1002))
end
def spec_l12Maze.f (k : Nat) (s0_0 : List Int) (s0_1 : Int) (s0_2 : Int) : Option (Int × Int × Int × Int × Int) := (spec_l02Grid.f s0_0 s0_1 s0_2).bind fun bt968 => ((spec_FullMaze.f bt968.1 bt968.2.1).bind fun bt972 => ((spec_CountGaps.f bt972.1 bt972.2.1).bind fun t976 => ((spec_l01Below.f s0_0 bt968.2.2.1 bt968.2.2.2 5).bind fun bt977 => (spec_l12Maze.l0 k t976 bt977.1 s0_0 bt977.2.1 bt977.2.2 bt972.1 bt972.2.1 bt972.2.2))))
mutual
def spec_l38Garden.j0 : Nat → List Int → Int → Int → Int → Int → Int → Option (Int × Int × Int × List Int × Int × Int × List Int × Int × Int × Int)
  | 0, _, _, _, _, _, _ => none
  | k + 1, x1000, x1001, x1002, x994000, x994001, x994002 => (spec_CountCells.f x994000 x994001).bind fun t998 => ((spec_l01Below.f x1000 x1001 x1002 t998).bind fun bt999 => ((spec_l01Below.f x1000 bt999.2.1 bt999.2.2 20).bind fun bt1002 => ((spec_NewGarden.f k x994000 x994001 x994002 bt999.1 (wrap64 (1 + bt1002.1))).bind fun bt1005 => ((spec_l01Below.f x1000 bt1002.2.1 bt1002.2.2 16).bind fun bt1019 => (spec_l38Garden.l0 k bt1019.1 0 x1000 bt1019.2.1 bt1019.2.2 bt1005.1 bt1005.2.1 bt1005.2.2.1 bt1005.2.2.2.1 bt1005.2.2.2.2.1 bt1005.2.2.2.2.2.1 bt1005.2.2.2.2.2.2.1 bt1005.2.2.2.2.2.2.2.1)))))
def spec_l38Garden.l0 : Nat → Int → Int → List Int → Int → Int → Int → Int → Int → List Int → Int → Int → List Int → Int → Option (Int × Int × Int × List Int × Int × Int × List Int × Int × Int × Int)
  | 0, _, _, _, _, _, _, _, _, _, _, _, _, _ => none
  | k + 1, x6, x7, x1000, x1001, x1002, x1019000, x1019001, x1019002, x1019003, x1019004, x1019005, x1019006, x1019007 => if x7 < x6 then ((spec_l01Below.f x1000 x1001 x1002 5).bind fun bt1022 => (if bt1022.1 = 0 then ((spec_l01Below.f x1000 bt1022.2.1 bt1022.2.2 8).bind fun bt1025 => ((spec_NextDay.f k x1019000 x1019001 x1019002 x1019003 x1019004 x1019005 x1019006 x1019007 (wrap64 (1 + bt1025.1))).bind fun bt1028 => (spec_l38Garden.l0 k x6 (wrap64 (x7 + 1)) x1000 bt1025.2.1 bt1025.2.2 bt1028.1 bt1028.2.1 bt1028.2.2.1 bt1028.2.2.2.1 bt1028.2.2.2.2.1 bt1028.2.2.2.2.2.1 bt1028.2.2.2.2.2.2.1 bt1028.2.2.2.2.2.2.2.1))) else (if bt1022.1 = 1 then ((spec_Enter.f k x1019000 x1019001 x1019002 x1019003 x1019004 x1019005 x1019006 x1019007).bind fun bt1041 => (spec_l38Garden.l0 k x6 (wrap64 (x7 + 1)) x1000 bt1022.2.1 bt1022.2.2 bt1041.1 bt1041.2.1 bt1041.2.2.1 bt1041.2.2.2.1 bt1041.2.2.2.2.1 bt1041.2.2.2.2.2.1 bt1041.2.2.2.2.2.2.1 bt1041.2.2.2.2.2.2.2.1)) else (if bt1022.1 = 2 then ((spec_l01Once.f x1000 bt1022.2.1 bt1022.2.2 4).bind fun bt1054 => (if bt1054.1 = true then ((spec_Leave.f k x1019000 x1019001 x1019002 x1019003 x1019004 x1019005 x1019006 x1019007).bind fun bt1057 => (spec_l38Garden.l0 k x6 (wrap64 (x7 + 1)) x1000 bt1054.2.1 bt1054.2.2 bt1057.1 bt1057.2.1 bt1057.2.2.1 bt1057.2.2.2.1 bt1057.2.2.2.2.1 bt1057.2.2.2.2.2.1 bt1057.2.2.2.2.2.2.1 bt1057.2.2.2.2.2.2.2.1)) else (spec_l38Garden.l0 k x6 (wrap64 (x7 + 1)) x1000 bt1054.2.1 bt1054.2.2 x1019000 x1019001 x1019002 x1019003 x1019004 x1019005 x1019006 x1019007))) else ((spec_l01Below.f x1000 bt1022.2.1 bt1022.2.2 4).bind fun bt1070 => ((spec_l01Below.f x1000 bt1070.2.1 bt1070.2.2 4).bind fun bt1073 => ((spec_WalkIn.f k x1019000 x1019001 x1019002 x1019003 x1019004 x1019005 x1019006 x1019007 bt1070.1 bt1073.1).bind fun bt1076 => (spec_l38Garden.l0 k x6 (wrap64 (x7 + 1)) x1000 bt1073.2.1 bt1073.2.2 bt1076.1 bt1076.2.1 bt1076.2.2.1 bt1076.2.2.2.1 bt1076.2.2.2.2.1 bt1076.2.2.2.2.2.1 bt1076.2.2.2.2.2.2.1 bt1076.2.2.2.2.2.2.2.1)))))))) else (some (x1019000, x1019001, x1019002, x1019003, x1019004, x1019005, x1019006, x1019007, x1001, x1002))
end
def spec_l38Garden.f (k : Nat) (s0_0 : List Int) (s0_1 : Int) (s0_2 : Int) : Option (Int × Int × Int × List Int × Int × Int × List Int × Int × Int × Int) := (spec_l12Maze.f k s0_0 s0_1 s0_2).bind fun bt988 => ((spec_IsConnected.f k bt988.1 bt988.2.1 bt988.2.2.1).bind fun t994 => (if t994 = true then (spec_l38Garden.j0 k s0_0 bt988.2.2.2.1 bt988.2.2.2.2 bt988.1 bt988.2.1 bt988.2.2.1) else ((spec_FullMaze.f bt988.1 bt988.2.1).bind fun bt995 => (spec_l38Garden.j0 k s0_0 bt988.2.2.2.1 bt988.2.2.2.2 bt995.1 bt995.2.1 bt995.2.2))))
def spec_l39Garden.f (k : Nat) (s0_0 : List Int) (s0_1 : Int) (s0_2 : Int) : Option (Int × Int × Int × List Int × Int × Int × List Int × Int × Int × Int) := (spec_l01Once.f s0_0 s0_1 s0_2 2).bind fun bt1090 => (if bt1090.1 = true then ((spec_SampleGarden.f k).bind fun bt1093 => (some (bt1093.1, bt1093.2.1, bt1093.2.2.1, bt1093.2.2.2.1, bt1093.2.2.2.2.1, bt1093.2.2.2.2.2.1, bt1093.2.2.2.2.2.2.1, bt1093.2.2.2.2.2.2.2, bt1090.2.1, bt1090.2.2))) else ((spec_l38Garden.f k s0_0 bt1090.2.1 bt1090.2.2).bind fun bt1105 => (some (bt1105.1, bt1105.2.1, bt1105.2.2.1, bt1105.2.2.2.1, bt1105.2.2.2.2.1, bt1105.2.2.2.2.2.1, bt1105.2.2.2.2.2.2.1, bt1105.2.2.2.2.2.2.2.1, bt1105.2.2.2.2.2.2.2.2.1, bt1105.2.2.2.2.2.2.2.2.2))))
def spec_l39Act.j0 : Nat → Int → Bool → List Int → Int → Int → Option (Int × Int × Int × Int × Int)
  | 0, _, _, _, _, _ => none
  | k + 1, x4, x11, x1000, x1001, x1002 => if x11 = true then (some (2, 0, 0, x1001, x1002)) else (if x4 = 3 then (some (4, 0, 0, x1001, x1002)) else (if x4 = 4 then ((spec_l01Below.f x1000 x1001 x1002 4).bind fun bt1126 => (some (5, bt1126.1, 0, bt1126.2.1, bt1126.2.2))) else (if x4 = 5 then (some (6, 0, 0, x1001, x1002)) else ((spec_l01Below.f x1000 x1001 x1002 4).bind fun bt1129 => ((spec_l01Below.f x1000 bt1129.2.1 bt1129.2.2 4).bind fun bt1132 => (some (3, bt1129.1, bt1132.1, bt1132.2.1, bt1132.2.2)))))))
def spec_l39Act.f (k : Nat) (s0_0 : List Int) (s0_1 : Int) (s0_2 : Int) : Option (Int × Int × Int × Int × Int) := (spec_l01Below.f s0_0 s0_1 s0_2 9).bind fun bt1120 => (if bt1120.1 = 0 then ((spec_l01Below.f s0_0 bt1120.2.1 bt1120.2.2 8).bind fun bt1123 => (some (1, wrap64 (1 + bt1123.1), 0, bt1123.2.1, bt1123.2.2))) else (if bt1120.1 = 1 then (spec_l39Act.j0 k bt1120.1 (bt1120.1 == 1) s0_0 bt1120.2.1 bt1120.2.2) else (spec_l39Act.j0 k bt1120.1 (bt1120.1 == 2) s0_0 bt1120.2.1 bt1120.2.2)))
def spec_l39List.l0 : Nat → List (SAct) → Int → Int → List Int → Int → Int → Option ((List (SAct)) × Int × Int)
  | 0, _, _, _, _, _, _ => none
  | k + 1, x3, x4, x5, x1000, x1001, x1002 => if x5 < x4 then ((spec_l39Act.f k x1000 x1001 x1002).bind fun bt1141 => (if x3.length < 5864062014805 then (spec_l39List.l0 k (x3 ++ [(⟨bt1141.1, bt1141.2.1, bt1141.2.2.1⟩ : SAct)]) x4 (wrap64 (x5 + 1)) x1000 bt1141.2.2.2.1 bt1141.2.2.2.2) else (none))) else (some (x3, x1001, x1002))
def spec_l39List.f (k : Nat) (s0_0 : List Int) (s0_1 : Int) (s0_2 : Int) : Option ((List (SAct)) × Int × Int) := (spec_l01Below.f s0_0 s0_1 s0_2 20).bind fun bt1138 => (spec_l39List.l0 k (([] : List (SAct))) bt1138.1 0 s0_0 bt1138.2.1 bt1138.2.2)
def spec_DrawActs.f (k : Nat) (l0 : List Int) : Option (Int × Int × Int × List Int × Int × Int × List Int × Int × (List (SAct))) := (spec_l01New.f k l0).bind fun bt1151 => ((spec_l39Garden.f k bt1151.1 bt1151.2.1 bt1151.2.2).bind fun bt1155 => ((spec_l39List.f k bt1151.1 bt1155.2.2.2.2.2.2.2.2.1 bt1155.2.2.2.2.2.2.2.2.2).bind fun bt1169 => (some (bt1155.1, bt1155.2.1, bt1155.2.2.1, bt1155.2.2.2.1, bt1155.2.2.2.2.1, bt1155.2.2.2.2.2.1, bt1155.2.2.2.2.2.2.1, bt1155.2.2.2.2.2.2.2.1, bt1169.1))))
def laws_sameTexts.l0 : Nat → List ByteArray → List ByteArray → Int → Option (Bool)
  | 0, _, _, _ => none
  | k + 1, x0, x1, x5 => if x5 < (x0.length : Int) then (if 0 ≤ x5 then (if x5 < (x1.length : Int) then (if (rdOf ByteArray.empty x0 x5).toList = (rdOf ByteArray.empty x1 x5).toList then (laws_sameTexts.l0 k x0 x1 (wrap64 (x5 + 1))) else (some false)) else (none)) else (none)) else (some true)
def laws_sameTexts.f (k : Nat) (l0 : List ByteArray) (l1 : List ByteArray) : Option (Bool) := if (l0.length : Int) = (l1.length : Int) then (laws_sameTexts.l0 k l0 l1 0) else (some false)
end Go.Proofs.YtdjdleldocfpaaaGreatDoor.F
end

section
namespace Go.Proofs.YtdjdleldocfpaaaGreatDoor.F
open Go.RowKit Go.Proofs.YtdjdleldocfpaaaGreatDoorW.PrintWords Go.Proofs.YtdjdleldocfpaaaGreatDoorW.PrintLast Go.Proofs.YtdjdleldocfpaaaGreatDoorW.PrintMore
set_option linter.unusedVariables false
set_option linter.unusedSimpArgs false
def eAct (x : SAct) : List Value := [.int .i64 x.f0, .int .i64 x.f1, .int .i64 x.f2]
def eI (x : Int) : List Value := [.int .i64 x]
def eS (x : ByteArray) : List Value := [.string x]
def eU8 (x : Int) : List Value := [.int .u8 x]
def ty : TypeId → Option TI
  | 3 => some ⟨false, 1, 8, [.int .i64 0], [], 0⟩
  | 4 => some ⟨false, 1, 1, [.bool false], [], 0⟩
  | 5 => some ⟨false, 1, 1, [.int .u8 0], [], 0⟩
  | 9 => some ⟨false, 1, 16, [.string ⟨#[]⟩], [], 0⟩
  | 23 => some ⟨true, 2, 16, [.int .i64 0, .int .i64 0], [0, 1], 0⟩
  | 25 => some ⟨true, 3, 24, [.int .i64 0, .int .i64 0, .int .i64 0], [0, 2], 0⟩
  | 26 => some ⟨false, 1, 24, [.slice none 0 0], [], 3⟩
  | 28 => some ⟨true, 5, 56, [.int .i64 0, .int .i64 0, .int .i64 0, .slice none 0 0, .int .i64 0], [0, 3, 4], 0⟩
  | 30 => some ⟨true, 8, 96, [.int .i64 0, .int .i64 0, .int .i64 0, .slice none 0 0, .int .i64 0, .int .i64 0, .slice none 0 0, .int .i64 0], [0, 5, 6, 7], 0⟩
  | 32 => some ⟨false, 1, 24, [.slice none 0 0], [], 9⟩
  | 34 => some ⟨true, 2, 16, [.int .i64 0, .int .i64 0], [0, 1], 0⟩
  | 36 => some ⟨true, 3, 24, [.int .i64 0, .int .i64 0, .int .i64 0], [0, 2], 0⟩
  | 38 => some ⟨true, 5, 56, [.int .i64 0, .int .i64 0, .int .i64 0, .slice none 0 0, .int .i64 0], [0, 3, 4], 0⟩
  | 40 => some ⟨true, 8, 96, [.int .i64 0, .int .i64 0, .int .i64 0, .slice none 0 0, .int .i64 0, .int .i64 0, .slice none 0 0, .int .i64 0], [0, 5, 6, 7], 0⟩
  | 47 => some ⟨false, 1, 24, [.slice none 0 0], [], 5⟩
  | 49 => some ⟨false, 1, 24, [.slice none 0 0], [], 88⟩
  | 77 => some ⟨false, 1, 24, [.slice none 0 0], [], 47⟩
  | 88 => some ⟨true, 3, 24, [.int .i64 0, .int .i64 0, .int .i64 0], [0, 1, 2], 0⟩
  | 108 => some ⟨true, 3, 40, [.slice none 0 0, .int .i64 0, .int .i64 0], [0, 1, 2], 0⟩
  | 112 => some ⟨false, 1, 8, [.int .u64 0], [], 0⟩
  | _ => none
theorem tyOk : TyOk Tryz.prog ty := by
  intro t i h
  unfold ty at h
  split at h <;> first | (cases h; done) | (obtain rfl := Option.some.inj h; exact mkTI (by kernel_rfl) (by kernel_rfl))
theorem hm : Tryz.prog.follows .mixedOrders = true := by kernel_rfl
theorem gR_eAct : (∀ (x : SAct), eAct x = [.int .i64 x.f0, .int .i64 x.f1, .int .i64 x.f2]) ∧ (∀ (l : List SAct) (i : Int), gR [.int .i64 0, .int .i64 0, .int .i64 0] (l.map eAct) i = [.int .i64 (rd_Act l i).f0, .int .i64 (rd_Act l i).f1, .int .i64 (rd_Act l i).f2]) ∧ (∀ (l : List SAct) (i : Int) (a0 : Int) (a1 : Int) (a2 : Int), sR (l.map eAct) i [.int .i64 a0, .int .i64 a1, .int .i64 a2] = (l.set i.toNat (⟨a0, a1, a2⟩ : SAct)).map eAct) ∧ (∀ (l : List SAct) (a0 : Int) (a1 : Int) (a2 : Int), l.map eAct ++ [[.int .i64 a0, .int .i64 a1, .int .i64 a2]] = (l ++ [(⟨a0, a1, a2⟩ : SAct)]).map eAct) ∧ (∀ n : Nat, List.replicate n [.int .i64 0, .int .i64 0, .int .i64 0] = (List.replicate n zAct).map eAct) := by
  refine ⟨fun _ => rfl, fun l i => ?_, fun l i a0 a1 a2 => ?_, fun l a0 a1 a2 => ?_, fun n => ?_⟩
  · unfold gR rd_Act eAct
    rw [List.getD_eq_getElem?_getD, List.getElem?_map, List.getD_eq_getElem?_getD]
    cases l[i.toNat]? <;> rfl
  · unfold sR; rw [List.map_set]; rfl
  · rw [List.map_append]; rfl
  · rw [List.map_replicate]; rfl
theorem L_eAct : (∀ (a0 : Int) (a1 : Int) (a2 : Int), ([[.int .i64 a0, .int .i64 a1, .int .i64 a2]] : List (List Value)) = [(⟨a0, a1, a2⟩ : SAct)].map eAct) ∧ (∀ (l : List SAct) (a0 : Int) (a1 : Int) (a2 : Int), [.int .i64 a0, .int .i64 a1, .int .i64 a2] :: l.map eAct = ((⟨a0, a1, a2⟩ : SAct) :: l).map eAct) ∧ (∀ (k : Nat) (l : List SAct), ((l.map eAct).take k).length = (l.take k).length) ∧ (∀ l m : List SAct, l.map eAct ++ m.map eAct = (l ++ m).map eAct) ∧ (∀ l : List SAct, litOk 3 (l.map eAct) = true) := by
  refine ⟨?_, ?_, ?_, ?_, ?_⟩ <;> intros <;> first | rfl | (rename_i l_; induction l_ with | nil => rfl | cons x l ih => exact ih) | (rw [List.length_take, List.length_map, List.length_take]; done) | exact (List.map_append).symm
theorem gR_eI : (∀ (x : Int), eI x = [.int .i64 x]) ∧ (∀ (l : List Int) (i : Int), gR [.int .i64 0] (l.map eI) i = [.int .i64 (rd l i)]) ∧ (∀ (l : List Int) (i : Int) (a0 : Int), sR (l.map eI) i [.int .i64 a0] = (l.set i.toNat a0).map eI) ∧ (∀ (l : List Int) (a0 : Int), l.map eI ++ [[.int .i64 a0]] = (l ++ [a0]).map eI) ∧ (∀ n : Nat, List.replicate n [.int .i64 0] = (List.replicate n 0).map eI) := by
  refine ⟨fun _ => rfl, fun l i => ?_, fun l i a0 => ?_, fun l a0 => ?_, fun n => ?_⟩
  · unfold gR rd eI
    rw [List.getD_eq_getElem?_getD, List.getElem?_map, List.getD_eq_getElem?_getD]
    cases l[i.toNat]? <;> rfl
  · unfold sR; rw [List.map_set]; rfl
  · rw [List.map_append]; rfl
  · rw [List.map_replicate]; rfl
theorem L_eI : (∀ (a0 : Int), ([[.int .i64 a0]] : List (List Value)) = [a0].map eI) ∧ (∀ (l : List Int) (a0 : Int), [.int .i64 a0] :: l.map eI = (a0 :: l).map eI) ∧ (∀ (k : Nat) (l : List Int), ((l.map eI).take k).length = (l.take k).length) ∧ (∀ l m : List Int, l.map eI ++ m.map eI = (l ++ m).map eI) ∧ (∀ l : List Int, litOk 1 (l.map eI) = true) := by
  refine ⟨?_, ?_, ?_, ?_, ?_⟩ <;> intros <;> first | rfl | (rename_i l_; induction l_ with | nil => rfl | cons x l ih => exact ih) | (rw [List.length_take, List.length_map, List.length_take]; done) | exact (List.map_append).symm
theorem gR_eS : (∀ (x : ByteArray), eS x = [.string x]) ∧ (∀ (l : List ByteArray) (i : Int), gR [.string ⟨#[]⟩] (l.map eS) i = [.string (rdOf ByteArray.empty l i)]) ∧ (∀ (l : List ByteArray) (i : Int) (a0 : ByteArray), sR (l.map eS) i [.string a0] = (l.set i.toNat a0).map eS) ∧ (∀ (l : List ByteArray) (a0 : ByteArray), l.map eS ++ [[.string a0]] = (l ++ [a0]).map eS) ∧ (∀ n : Nat, List.replicate n [.string ⟨#[]⟩] = (List.replicate n ByteArray.empty).map eS) := by
  refine ⟨fun _ => rfl, fun l i => ?_, fun l i a0 => ?_, fun l a0 => ?_, fun n => ?_⟩
  · unfold gR rdOf eS
    rw [List.getD_eq_getElem?_getD, List.getElem?_map, List.getD_eq_getElem?_getD]
    cases l[i.toNat]? <;> rfl
  · unfold sR; rw [List.map_set]; rfl
  · rw [List.map_append]; rfl
  · rw [List.map_replicate]; rfl
theorem L_eS : (∀ (a0 : ByteArray), ([[.string a0]] : List (List Value)) = [a0].map eS) ∧ (∀ (l : List ByteArray) (a0 : ByteArray), [.string a0] :: l.map eS = (a0 :: l).map eS) ∧ (∀ (k : Nat) (l : List ByteArray), ((l.map eS).take k).length = (l.take k).length) ∧ (∀ l m : List ByteArray, l.map eS ++ m.map eS = (l ++ m).map eS) ∧ (∀ l : List ByteArray, litOk 1 (l.map eS) = true) := by
  refine ⟨?_, ?_, ?_, ?_, ?_⟩ <;> intros <;> first | rfl | (rename_i l_; induction l_ with | nil => rfl | cons x l ih => exact ih) | (rw [List.length_take, List.length_map, List.length_take]; done) | exact (List.map_append).symm
theorem gR_eU8 : (∀ (x : Int), eU8 x = [.int .u8 x]) ∧ (∀ (l : List Int) (i : Int), gR [.int .u8 0] (l.map eU8) i = [.int .u8 (rd l i)]) ∧ (∀ (l : List Int) (i : Int) (a0 : Int), sR (l.map eU8) i [.int .u8 a0] = (l.set i.toNat a0).map eU8) ∧ (∀ (l : List Int) (a0 : Int), l.map eU8 ++ [[.int .u8 a0]] = (l ++ [a0]).map eU8) ∧ (∀ n : Nat, List.replicate n [.int .u8 0] = (List.replicate n 0).map eU8) := by
  refine ⟨fun _ => rfl, fun l i => ?_, fun l i a0 => ?_, fun l a0 => ?_, fun n => ?_⟩
  · unfold gR rd eU8
    rw [List.getD_eq_getElem?_getD, List.getElem?_map, List.getD_eq_getElem?_getD]
    cases l[i.toNat]? <;> rfl
  · unfold sR; rw [List.map_set]; rfl
  · rw [List.map_append]; rfl
  · rw [List.map_replicate]; rfl
theorem B_eU8 : (∀ l : List Int, bys (l.map eU8) = some l) ∧ (∀ l : List Int, (l.map fun n => [Value.int .u8 n]) = l.map eU8) := by
  refine ⟨fun l => ?_, fun l => rfl⟩
  induction l with
  | nil => rfl
  | cons x l ih => show (bys (l.map eU8)).map (x :: ·) = _; rw [ih]; rfl
theorem L_eU8 : (∀ (a0 : Int), ([[.int .u8 a0]] : List (List Value)) = [a0].map eU8) ∧ (∀ (l : List Int) (a0 : Int), [.int .u8 a0] :: l.map eU8 = (a0 :: l).map eU8) ∧ (∀ (k : Nat) (l : List Int), ((l.map eU8).take k).length = (l.take k).length) ∧ (∀ l m : List Int, l.map eU8 ++ m.map eU8 = (l ++ m).map eU8) ∧ (∀ l : List Int, litOk 1 (l.map eU8) = true) := by
  refine ⟨?_, ?_, ?_, ?_, ?_⟩ <;> intros <;> first | rfl | (rename_i l_; induction l_ with | nil => rfl | cons x l ih => exact ih) | (rw [List.length_take, List.length_map, List.length_take]; done) | exact (List.map_append).symm
theorem Wt : ty 3 = some ⟨false, 1, 8, [.int .i64 0], [], 0⟩ ∧ ty 4 = some ⟨false, 1, 1, [.bool false], [], 0⟩ ∧ ty 5 = some ⟨false, 1, 1, [.int .u8 0], [], 0⟩ ∧ ty 9 = some ⟨false, 1, 16, [.string ⟨#[]⟩], [], 0⟩ ∧ ty 23 = some ⟨true, 2, 16, [.int .i64 0, .int .i64 0], [0, 1], 0⟩ ∧ ty 25 = some ⟨true, 3, 24, [.int .i64 0, .int .i64 0, .int .i64 0], [0, 2], 0⟩ ∧ ty 26 = some ⟨false, 1, 24, [.slice none 0 0], [], 3⟩ ∧ ty 28 = some ⟨true, 5, 56, [.int .i64 0, .int .i64 0, .int .i64 0, .slice none 0 0, .int .i64 0], [0, 3, 4], 0⟩ ∧ ty 30 = some ⟨true, 8, 96, [.int .i64 0, .int .i64 0, .int .i64 0, .slice none 0 0, .int .i64 0, .int .i64 0, .slice none 0 0, .int .i64 0], [0, 5, 6, 7], 0⟩ ∧ ty 32 = some ⟨false, 1, 24, [.slice none 0 0], [], 9⟩ ∧ ty 34 = some ⟨true, 2, 16, [.int .i64 0, .int .i64 0], [0, 1], 0⟩ ∧ ty 36 = some ⟨true, 3, 24, [.int .i64 0, .int .i64 0, .int .i64 0], [0, 2], 0⟩ ∧ ty 38 = some ⟨true, 5, 56, [.int .i64 0, .int .i64 0, .int .i64 0, .slice none 0 0, .int .i64 0], [0, 3, 4], 0⟩ ∧ ty 40 = some ⟨true, 8, 96, [.int .i64 0, .int .i64 0, .int .i64 0, .slice none 0 0, .int .i64 0, .int .i64 0, .slice none 0 0, .int .i64 0], [0, 5, 6, 7], 0⟩ ∧ ty 47 = some ⟨false, 1, 24, [.slice none 0 0], [], 5⟩ ∧ ty 49 = some ⟨false, 1, 24, [.slice none 0 0], [], 88⟩ ∧ ty 77 = some ⟨false, 1, 24, [.slice none 0 0], [], 47⟩ ∧ ty 88 = some ⟨true, 3, 24, [.int .i64 0, .int .i64 0, .int .i64 0], [0, 1, 2], 0⟩ ∧ ty 108 = some ⟨true, 3, 40, [.slice none 0 0, .int .i64 0, .int .i64 0], [0, 1, 2], 0⟩ ∧ ty 112 = some ⟨false, 1, 8, [.int .u64 0], [], 0⟩ ∧ ty 0 = none ∧ ty 20 = none ∧ ty 50 = none ∧ ty 56 = none ∧ ty 72 = none ∧ ty 81 = none ∧ ty 89 = none ∧ ty 95 = none ∧ ty 101 = none ∧ ty 113 = none ∧ ty 116 = none ∧ ty 150 = none ∧ ty 153 = none := ⟨rfl, rfl, rfl, rfl, rfl, rfl, rfl, rfl, rfl, rfl, rfl, rfl, rfl, rfl, rfl, rfl, rfl, rfl, rfl, rfl, rfl, rfl, rfl, rfl, rfl, rfl, rfl, rfl, rfl, rfl, rfl, rfl, rfl⟩
theorem W : type_of% (And.intro W1 (And.intro W2 (And.intro (W3 Tryz.prog ty) (And.intro (W4 Tryz.prog ty) (And.intro (W5 ty) (And.intro W6 (And.intro W7 (And.intro W8 (And.intro W9 (And.intro W10 (And.intro @W11 (And.intro W12 (And.intro (W13 ty) (And.intro (W14 ty) (And.intro (W15 Tryz.prog ty) (And.intro W16 (And.intro (W17 ty) (And.intro (W18 Tryz.prog ty) (And.intro W19 (And.intro W20 (And.intro W21 (And.intro W22 (And.intro (W23 ty) (And.intro (W25 ty) (And.intro (W24 Tryz.prog ty) (And.intro bAnd (And.intro W0b (And.intro gR_eAct (And.intro L_eAct (And.intro gR_eI (And.intro L_eI (And.intro gR_eS (And.intro L_eS (And.intro gR_eU8 (And.intro B_eU8 (And.intro L_eU8 Wt)))))))))))))))))))))))))))))))))))) := (And.intro W1 (And.intro W2 (And.intro (W3 Tryz.prog ty) (And.intro (W4 Tryz.prog ty) (And.intro (W5 ty) (And.intro W6 (And.intro W7 (And.intro W8 (And.intro W9 (And.intro W10 (And.intro @W11 (And.intro W12 (And.intro (W13 ty) (And.intro (W14 ty) (And.intro (W15 Tryz.prog ty) (And.intro W16 (And.intro (W17 ty) (And.intro (W18 Tryz.prog ty) (And.intro W19 (And.intro W20 (And.intro W21 (And.intro W22 (And.intro (W23 ty) (And.intro (W25 ty) (And.intro (W24 Tryz.prog ty) (And.intro bAnd (And.intro W0b (And.intro gR_eAct (And.intro L_eAct (And.intro gR_eI (And.intro L_eI (And.intro gR_eS (And.intro L_eS (And.intro gR_eU8 (And.intro B_eU8 (And.intro L_eU8 Wt))))))))))))))))))))))))))))))))))))
theorem E_eI : EncOk (Kd.int .i64) 1 eI := ⟨rfl, by decide, fun _ => rfl, fun x u hu => by
  simp only [eI, List.mem_cons, List.not_mem_nil, or_false] at hu
  subst hu; rfl, Iff.rfl, Iff.rfl⟩
theorem E_eS : EncOk Kd.string 1 eS := ⟨rfl, by decide, fun _ => rfl, fun x u hu => by
  simp only [eS, List.mem_cons, List.not_mem_nil, or_false] at hu
  subst hu; rfl, Iff.rfl, Iff.rfl⟩
theorem E_eU8 : EncOk (Kd.int .u8) 1 eU8 := ⟨rfl, by decide, fun _ => rfl, fun x u hu => by
  simp only [eU8, List.mem_cons, List.not_mem_nil, or_false] at hu
  subst hu; rfl, Iff.rfl, Iff.rfl⟩
end Go.Proofs.YtdjdleldocfpaaaGreatDoor.F
end

section
namespace Go.Proofs.YtdjdleldocfpaaaGreatDoor.F
open Go.RowKit Go.Proofs.YtdjdleldocfpaaaGreatDoorW.PrintWords Go.Proofs.YtdjdleldocfpaaaGreatDoorW.PrintLast Go.Proofs.YtdjdleldocfpaaaGreatDoorW.PrintMore
theorem bkb {w0 W w' : World} {g : Nat} {o : Obj} (A : Aside0 (w0.heap[g]? = some o)) (hb : Below W.heap.size W w') (h : w0.heap[g]? = some o → W.heap[g]? = some o) : Aside0 (w'.heap[g]? = some o) := ⟨blk_below (h A.out) hb⟩
theorem nbl {w0 W : World} {g gb : Nat} {o : Obj} (A : Aside0 (w0.heap[g]? = some o)) (hg : gb = W.heap.size) (h : w0.heap[g]? = some o → W.heap[g]? = some o) : Aside0 (g ≠ gb) := ⟨by rw [hg]; exact Nat.ne_of_lt (blk_lt (h A.out))⟩
theorem nbs {a b : Nat} (h : Aside0 (a ≠ b)) : Aside0 (b ≠ a) := ⟨h.out.symm⟩
theorem cl1 {w : World} {g : Nat} {t : TypeId} {c0 : Value} (h : w.heap[g]? = some (.cells #[c0] t (0, 0))) : w.cell? ⟨g, 0, none⟩ = some c0 ∧ w.frozen? ⟨g, 0, none⟩ = false := ⟨(blk_cell h 0).trans rfl, blk_frozen h 0⟩
theorem cl2 {w : World} {g : Nat} {t : TypeId} {c0 c1 : Value} (h : w.heap[g]? = some (.cells #[c0, c1] t (0, 0))) : w.cell? ⟨g, 0, none⟩ = some c0 ∧ w.cell? ⟨g, 1, none⟩ = some c1 ∧ w.frozen? ⟨g, 0, none⟩ = false ∧ w.frozen? ⟨g, 1, none⟩ = false := ⟨(blk_cell h 0).trans rfl, (blk_cell h 1).trans rfl, blk_frozen h 0, blk_frozen h 1⟩
theorem cl3 {w : World} {g : Nat} {t : TypeId} {c0 c1 c2 : Value} (h : w.heap[g]? = some (.cells #[c0, c1, c2] t (0, 0))) : w.cell? ⟨g, 0, none⟩ = some c0 ∧ w.cell? ⟨g, 1, none⟩ = some c1 ∧ w.cell? ⟨g, 2, none⟩ = some c2 ∧ w.frozen? ⟨g, 0, none⟩ = false ∧ w.frozen? ⟨g, 1, none⟩ = false ∧ w.frozen? ⟨g, 2, none⟩ = false := ⟨(blk_cell h 0).trans rfl, (blk_cell h 1).trans rfl, (blk_cell h 2).trans rfl, blk_frozen h 0, blk_frozen h 1, blk_frozen h 2⟩
theorem cl4 {w : World} {g : Nat} {t : TypeId} {c0 c1 c2 c3 : Value} (h : w.heap[g]? = some (.cells #[c0, c1, c2, c3] t (0, 0))) : w.cell? ⟨g, 0, none⟩ = some c0 ∧ w.cell? ⟨g, 1, none⟩ = some c1 ∧ w.cell? ⟨g, 2, none⟩ = some c2 ∧ w.cell? ⟨g, 3, none⟩ = some c3 ∧ w.frozen? ⟨g, 0, none⟩ = false ∧ w.frozen? ⟨g, 1, none⟩ = false ∧ w.frozen? ⟨g, 2, none⟩ = false ∧ w.frozen? ⟨g, 3, none⟩ = false := ⟨(blk_cell h 0).trans rfl, (blk_cell h 1).trans rfl, (blk_cell h 2).trans rfl, (blk_cell h 3).trans rfl, blk_frozen h 0, blk_frozen h 1, blk_frozen h 2, blk_frozen h 3⟩
theorem cl5 {w : World} {g : Nat} {t : TypeId} {c0 c1 c2 c3 c4 : Value} (h : w.heap[g]? = some (.cells #[c0, c1, c2, c3, c4] t (0, 0))) : w.cell? ⟨g, 0, none⟩ = some c0 ∧ w.cell? ⟨g, 1, none⟩ = some c1 ∧ w.cell? ⟨g, 2, none⟩ = some c2 ∧ w.cell? ⟨g, 3, none⟩ = some c3 ∧ w.cell? ⟨g, 4, none⟩ = some c4 ∧ w.frozen? ⟨g, 0, none⟩ = false ∧ w.frozen? ⟨g, 1, none⟩ = false ∧ w.frozen? ⟨g, 2, none⟩ = false ∧ w.frozen? ⟨g, 3, none⟩ = false ∧ w.frozen? ⟨g, 4, none⟩ = false := ⟨(blk_cell h 0).trans rfl, (blk_cell h 1).trans rfl, (blk_cell h 2).trans rfl, (blk_cell h 3).trans rfl, (blk_cell h 4).trans rfl, blk_frozen h 0, blk_frozen h 1, blk_frozen h 2, blk_frozen h 3, blk_frozen h 4⟩
theorem cl6 {w : World} {g : Nat} {t : TypeId} {c0 c1 c2 c3 c4 c5 : Value} (h : w.heap[g]? = some (.cells #[c0, c1, c2, c3, c4, c5] t (0, 0))) : w.cell? ⟨g, 0, none⟩ = some c0 ∧ w.cell? ⟨g, 1, none⟩ = some c1 ∧ w.cell? ⟨g, 2, none⟩ = some c2 ∧ w.cell? ⟨g, 3, none⟩ = some c3 ∧ w.cell? ⟨g, 4, none⟩ = some c4 ∧ w.cell? ⟨g, 5, none⟩ = some c5 ∧ w.frozen? ⟨g, 0, none⟩ = false ∧ w.frozen? ⟨g, 1, none⟩ = false ∧ w.frozen? ⟨g, 2, none⟩ = false ∧ w.frozen? ⟨g, 3, none⟩ = false ∧ w.frozen? ⟨g, 4, none⟩ = false ∧ w.frozen? ⟨g, 5, none⟩ = false := ⟨(blk_cell h 0).trans rfl, (blk_cell h 1).trans rfl, (blk_cell h 2).trans rfl, (blk_cell h 3).trans rfl, (blk_cell h 4).trans rfl, (blk_cell h 5).trans rfl, blk_frozen h 0, blk_frozen h 1, blk_frozen h 2, blk_frozen h 3, blk_frozen h 4, blk_frozen h 5⟩
theorem cl7 {w : World} {g : Nat} {t : TypeId} {c0 c1 c2 c3 c4 c5 c6 : Value} (h : w.heap[g]? = some (.cells #[c0, c1, c2, c3, c4, c5, c6] t (0, 0))) : w.cell? ⟨g, 0, none⟩ = some c0 ∧ w.cell? ⟨g, 1, none⟩ = some c1 ∧ w.cell? ⟨g, 2, none⟩ = some c2 ∧ w.cell? ⟨g, 3, none⟩ = some c3 ∧ w.cell? ⟨g, 4, none⟩ = some c4 ∧ w.cell? ⟨g, 5, none⟩ = some c5 ∧ w.cell? ⟨g, 6, none⟩ = some c6 ∧ w.frozen? ⟨g, 0, none⟩ = false ∧ w.frozen? ⟨g, 1, none⟩ = false ∧ w.frozen? ⟨g, 2, none⟩ = false ∧ w.frozen? ⟨g, 3, none⟩ = false ∧ w.frozen? ⟨g, 4, none⟩ = false ∧ w.frozen? ⟨g, 5, none⟩ = false ∧ w.frozen? ⟨g, 6, none⟩ = false := ⟨(blk_cell h 0).trans rfl, (blk_cell h 1).trans rfl, (blk_cell h 2).trans rfl, (blk_cell h 3).trans rfl, (blk_cell h 4).trans rfl, (blk_cell h 5).trans rfl, (blk_cell h 6).trans rfl, blk_frozen h 0, blk_frozen h 1, blk_frozen h 2, blk_frozen h 3, blk_frozen h 4, blk_frozen h 5, blk_frozen h 6⟩
theorem cl8 {w : World} {g : Nat} {t : TypeId} {c0 c1 c2 c3 c4 c5 c6 c7 : Value} (h : w.heap[g]? = some (.cells #[c0, c1, c2, c3, c4, c5, c6, c7] t (0, 0))) : w.cell? ⟨g, 0, none⟩ = some c0 ∧ w.cell? ⟨g, 1, none⟩ = some c1 ∧ w.cell? ⟨g, 2, none⟩ = some c2 ∧ w.cell? ⟨g, 3, none⟩ = some c3 ∧ w.cell? ⟨g, 4, none⟩ = some c4 ∧ w.cell? ⟨g, 5, none⟩ = some c5 ∧ w.cell? ⟨g, 6, none⟩ = some c6 ∧ w.cell? ⟨g, 7, none⟩ = some c7 ∧ w.frozen? ⟨g, 0, none⟩ = false ∧ w.frozen? ⟨g, 1, none⟩ = false ∧ w.frozen? ⟨g, 2, none⟩ = false ∧ w.frozen? ⟨g, 3, none⟩ = false ∧ w.frozen? ⟨g, 4, none⟩ = false ∧ w.frozen? ⟨g, 5, none⟩ = false ∧ w.frozen? ⟨g, 6, none⟩ = false ∧ w.frozen? ⟨g, 7, none⟩ = false := ⟨(blk_cell h 0).trans rfl, (blk_cell h 1).trans rfl, (blk_cell h 2).trans rfl, (blk_cell h 3).trans rfl, (blk_cell h 4).trans rfl, (blk_cell h 5).trans rfl, (blk_cell h 6).trans rfl, (blk_cell h 7).trans rfl, blk_frozen h 0, blk_frozen h 1, blk_frozen h 2, blk_frozen h 3, blk_frozen h 4, blk_frozen h 5, blk_frozen h 6, blk_frozen h 7⟩
theorem cl9 {w : World} {g : Nat} {t : TypeId} {c0 c1 c2 c3 c4 c5 c6 c7 c8 : Value} (h : w.heap[g]? = some (.cells #[c0, c1, c2, c3, c4, c5, c6, c7, c8] t (0, 0))) : w.cell? ⟨g, 0, none⟩ = some c0 ∧ w.cell? ⟨g, 1, none⟩ = some c1 ∧ w.cell? ⟨g, 2, none⟩ = some c2 ∧ w.cell? ⟨g, 3, none⟩ = some c3 ∧ w.cell? ⟨g, 4, none⟩ = some c4 ∧ w.cell? ⟨g, 5, none⟩ = some c5 ∧ w.cell? ⟨g, 6, none⟩ = some c6 ∧ w.cell? ⟨g, 7, none⟩ = some c7 ∧ w.cell? ⟨g, 8, none⟩ = some c8 ∧ w.frozen? ⟨g, 0, none⟩ = false ∧ w.frozen? ⟨g, 1, none⟩ = false ∧ w.frozen? ⟨g, 2, none⟩ = false ∧ w.frozen? ⟨g, 3, none⟩ = false ∧ w.frozen? ⟨g, 4, none⟩ = false ∧ w.frozen? ⟨g, 5, none⟩ = false ∧ w.frozen? ⟨g, 6, none⟩ = false ∧ w.frozen? ⟨g, 7, none⟩ = false ∧ w.frozen? ⟨g, 8, none⟩ = false := ⟨(blk_cell h 0).trans rfl, (blk_cell h 1).trans rfl, (blk_cell h 2).trans rfl, (blk_cell h 3).trans rfl, (blk_cell h 4).trans rfl, (blk_cell h 5).trans rfl, (blk_cell h 6).trans rfl, (blk_cell h 7).trans rfl, (blk_cell h 8).trans rfl, blk_frozen h 0, blk_frozen h 1, blk_frozen h 2, blk_frozen h 3, blk_frozen h 4, blk_frozen h 5, blk_frozen h 6, blk_frozen h 7, blk_frozen h 8⟩
theorem cl10 {w : World} {g : Nat} {t : TypeId} {c0 c1 c2 c3 c4 c5 c6 c7 c8 c9 : Value} (h : w.heap[g]? = some (.cells #[c0, c1, c2, c3, c4, c5, c6, c7, c8, c9] t (0, 0))) : w.cell? ⟨g, 0, none⟩ = some c0 ∧ w.cell? ⟨g, 1, none⟩ = some c1 ∧ w.cell? ⟨g, 2, none⟩ = some c2 ∧ w.cell? ⟨g, 3, none⟩ = some c3 ∧ w.cell? ⟨g, 4, none⟩ = some c4 ∧ w.cell? ⟨g, 5, none⟩ = some c5 ∧ w.cell? ⟨g, 6, none⟩ = some c6 ∧ w.cell? ⟨g, 7, none⟩ = some c7 ∧ w.cell? ⟨g, 8, none⟩ = some c8 ∧ w.cell? ⟨g, 9, none⟩ = some c9 ∧ w.frozen? ⟨g, 0, none⟩ = false ∧ w.frozen? ⟨g, 1, none⟩ = false ∧ w.frozen? ⟨g, 2, none⟩ = false ∧ w.frozen? ⟨g, 3, none⟩ = false ∧ w.frozen? ⟨g, 4, none⟩ = false ∧ w.frozen? ⟨g, 5, none⟩ = false ∧ w.frozen? ⟨g, 6, none⟩ = false ∧ w.frozen? ⟨g, 7, none⟩ = false ∧ w.frozen? ⟨g, 8, none⟩ = false ∧ w.frozen? ⟨g, 9, none⟩ = false := ⟨(blk_cell h 0).trans rfl, (blk_cell h 1).trans rfl, (blk_cell h 2).trans rfl, (blk_cell h 3).trans rfl, (blk_cell h 4).trans rfl, (blk_cell h 5).trans rfl, (blk_cell h 6).trans rfl, (blk_cell h 7).trans rfl, (blk_cell h 8).trans rfl, (blk_cell h 9).trans rfl, blk_frozen h 0, blk_frozen h 1, blk_frozen h 2, blk_frozen h 3, blk_frozen h 4, blk_frozen h 5, blk_frozen h 6, blk_frozen h 7, blk_frozen h 8, blk_frozen h 9⟩
theorem cl11 {w : World} {g : Nat} {t : TypeId} {c0 c1 c2 c3 c4 c5 c6 c7 c8 c9 c10 : Value} (h : w.heap[g]? = some (.cells #[c0, c1, c2, c3, c4, c5, c6, c7, c8, c9, c10] t (0, 0))) : w.cell? ⟨g, 0, none⟩ = some c0 ∧ w.cell? ⟨g, 1, none⟩ = some c1 ∧ w.cell? ⟨g, 2, none⟩ = some c2 ∧ w.cell? ⟨g, 3, none⟩ = some c3 ∧ w.cell? ⟨g, 4, none⟩ = some c4 ∧ w.cell? ⟨g, 5, none⟩ = some c5 ∧ w.cell? ⟨g, 6, none⟩ = some c6 ∧ w.cell? ⟨g, 7, none⟩ = some c7 ∧ w.cell? ⟨g, 8, none⟩ = some c8 ∧ w.cell? ⟨g, 9, none⟩ = some c9 ∧ w.cell? ⟨g, 10, none⟩ = some c10 ∧ w.frozen? ⟨g, 0, none⟩ = false ∧ w.frozen? ⟨g, 1, none⟩ = false ∧ w.frozen? ⟨g, 2, none⟩ = false ∧ w.frozen? ⟨g, 3, none⟩ = false ∧ w.frozen? ⟨g, 4, none⟩ = false ∧ w.frozen? ⟨g, 5, none⟩ = false ∧ w.frozen? ⟨g, 6, none⟩ = false ∧ w.frozen? ⟨g, 7, none⟩ = false ∧ w.frozen? ⟨g, 8, none⟩ = false ∧ w.frozen? ⟨g, 9, none⟩ = false ∧ w.frozen? ⟨g, 10, none⟩ = false := ⟨(blk_cell h 0).trans rfl, (blk_cell h 1).trans rfl, (blk_cell h 2).trans rfl, (blk_cell h 3).trans rfl, (blk_cell h 4).trans rfl, (blk_cell h 5).trans rfl, (blk_cell h 6).trans rfl, (blk_cell h 7).trans rfl, (blk_cell h 8).trans rfl, (blk_cell h 9).trans rfl, (blk_cell h 10).trans rfl, blk_frozen h 0, blk_frozen h 1, blk_frozen h 2, blk_frozen h 3, blk_frozen h 4, blk_frozen h 5, blk_frozen h 6, blk_frozen h 7, blk_frozen h 8, blk_frozen h 9, blk_frozen h 10⟩
theorem cl12 {w : World} {g : Nat} {t : TypeId} {c0 c1 c2 c3 c4 c5 c6 c7 c8 c9 c10 c11 : Value} (h : w.heap[g]? = some (.cells #[c0, c1, c2, c3, c4, c5, c6, c7, c8, c9, c10, c11] t (0, 0))) : w.cell? ⟨g, 0, none⟩ = some c0 ∧ w.cell? ⟨g, 1, none⟩ = some c1 ∧ w.cell? ⟨g, 2, none⟩ = some c2 ∧ w.cell? ⟨g, 3, none⟩ = some c3 ∧ w.cell? ⟨g, 4, none⟩ = some c4 ∧ w.cell? ⟨g, 5, none⟩ = some c5 ∧ w.cell? ⟨g, 6, none⟩ = some c6 ∧ w.cell? ⟨g, 7, none⟩ = some c7 ∧ w.cell? ⟨g, 8, none⟩ = some c8 ∧ w.cell? ⟨g, 9, none⟩ = some c9 ∧ w.cell? ⟨g, 10, none⟩ = some c10 ∧ w.cell? ⟨g, 11, none⟩ = some c11 ∧ w.frozen? ⟨g, 0, none⟩ = false ∧ w.frozen? ⟨g, 1, none⟩ = false ∧ w.frozen? ⟨g, 2, none⟩ = false ∧ w.frozen? ⟨g, 3, none⟩ = false ∧ w.frozen? ⟨g, 4, none⟩ = false ∧ w.frozen? ⟨g, 5, none⟩ = false ∧ w.frozen? ⟨g, 6, none⟩ = false ∧ w.frozen? ⟨g, 7, none⟩ = false ∧ w.frozen? ⟨g, 8, none⟩ = false ∧ w.frozen? ⟨g, 9, none⟩ = false ∧ w.frozen? ⟨g, 10, none⟩ = false ∧ w.frozen? ⟨g, 11, none⟩ = false := ⟨(blk_cell h 0).trans rfl, (blk_cell h 1).trans rfl, (blk_cell h 2).trans rfl, (blk_cell h 3).trans rfl, (blk_cell h 4).trans rfl, (blk_cell h 5).trans rfl, (blk_cell h 6).trans rfl, (blk_cell h 7).trans rfl, (blk_cell h 8).trans rfl, (blk_cell h 9).trans rfl, (blk_cell h 10).trans rfl, (blk_cell h 11).trans rfl, blk_frozen h 0, blk_frozen h 1, blk_frozen h 2, blk_frozen h 3, blk_frozen h 4, blk_frozen h 5, blk_frozen h 6, blk_frozen h 7, blk_frozen h 8, blk_frozen h 9, blk_frozen h 10, blk_frozen h 11⟩
theorem sTA {α : Type} (l : List α) (i : Nat) (a : α) : l.toArray.setIfInBounds i a = (l.set i a).toArray := List.setIfInBounds_toArray l i a
theorem sZ {α : Type} {x : α} {xs : List α} {a : α} : (x :: xs).set 0 a = a :: xs := List.set_cons_zero
theorem sS {α : Type} {x : α} {xs : List α} {i : Nat} {a : α} : (x :: xs).set (i + 1) a = x :: xs.set i a := List.set_cons_succ
theorem aK {p : Prop} (h : p) : Aside0 p := ⟨h⟩
theorem bDN {B : Nat} {w W : World} (h : Below B w W) (n : Nat) : Below B w (W.drewN n) := pw_below_drewN h n
theorem bD1 {base : Nat} {w W : World} (h : Below base w W) : Below base w W.drew := below_drew1 h
theorem bAl {w W : World} (h : Below w.heap.size w W) (o : Obj) : Below w.heap.size w (W.alloc o) := below_alloc h o
theorem bSt {w W : World} {g j : Nat} {v : Value} (h : Below w.heap.size w W) (hg : w.heap.size ≤ g) : Below w.heap.size w (W.setCell ⟨g, j, none⟩ v) := below_set h hg
theorem bSz {w W : World} (h : Below w.heap.size w W) : w.heap.size ≤ W.heap.size := below_size h
theorem bSp {w W w2 : World} (h : Below w.heap.size w W) (k : Below W.heap.size W w2) : Below w.heap.size w w2 := below_step h k
theorem kC {w : World} {g : Nat} {t : TypeId} {cs : Array Value} (h : w.heap[g]? = some (.cells cs t (0, 0))) (i : Nat) : w.cell? ⟨g, i, none⟩ = cs[i]? := blk_cell h i
theorem kF {w : World} {g : Nat} {t : TypeId} {cs : Array Value} (h : w.heap[g]? = some (.cells cs t (0, 0))) (i : Nat) : w.frozen? ⟨g, i, none⟩ = false := blk_frozen h i
theorem kA {w : World} {g : Nat} {o : Obj} (h : w.heap[g]? = some o) (o' : Obj) : (w.alloc o').heap[g]? = some o := blk_alloc h o'
theorem kD {w : World} {g : Nat} {o : Obj} (h : w.heap[g]? = some o) : w.drew.heap[g]? = some o := blk_drew h
theorem zN {w0 W : World} {g gb : Nat} {o : Obj} (A : Aside0 (w0.heap[g]? = some o)) (hg : gb = W.heap.size) (h : w0.heap[g]? = some o → W.heap[g]? = some o := by intro z_; (with_reducible repeat (first | refine kDN ?_ _ | refine kD ?_ | refine kA ?_ _)); exact z_) : Aside0 (g ≠ gb) := ⟨by rw [hg]; exact Nat.ne_of_lt (blk_lt (h A.out))⟩
theorem zQ {w : World} {g : Nat} {t : TypeId} {cs : Array Value} {v : Value} (h : Aside0 (w.heap[g]? = some (.cells cs t (0, 0)))) (i : Nat) (e : cs[i]? = some v := by rfl) : w.cell? ⟨g, i, none⟩ = some v := (blk_cell h.out i).trans e
theorem zK {A B : Prop} (h : Aside0 A) (f : A → B := by intro z_; (with_reducible repeat (first | refine kDN ?_ _ | refine kD ?_ | refine kA ?_ _)); exact z_) : B := f h.out
theorem zA {A B : Prop} (h : Aside0 A) (f : A → B := by intro z_; (with_reducible repeat (first | apply Kd.R_alloc | apply Kd.R_drewN | apply Kd.R_drew)); exact z_) : B := f h.out
theorem zB {w0 W w' : World} {g : Nat} {o : Obj} (A : Aside0 (w0.heap[g]? = some o)) (hb : Below W.heap.size W w') (h : w0.heap[g]? = some o → W.heap[g]? = some o := by intro z_; (with_reducible repeat (first | refine kDN ?_ _ | refine kD ?_ | refine kA ?_ _)); exact z_) : Aside0 (w'.heap[g]? = some o) := ⟨blk_below (h A.out) hb⟩
theorem zC {A B : Prop} (h : A) (f : A → B := by intro z_; repeat (first | exact z_ | (with_reducible refine Kd.C_alloc ?_ _) | (with_reducible refine Kd.C_drewN ?_ _) | (with_reducible refine Kd.C_drew ?_))) : B := f h
theorem zD {A : Prop} (f : A := by (try simp only [List.map_toArray, List.map_cons, List.map_nil]); first | done | rfl | (simp only [List.length_drop, List.length_take]; rfl)) : A := f
theorem zH0 {A B : Prop} (h : Aside0 A) (f : A → B := by intro z_; repeat (first | (with_reducible first | exact z_ | apply bAl | apply bDN | apply bD1) | exact z_)) : B := f h.out
theorem zH1 {A B C0 : Prop} (h : Aside0 A) (g0 : Aside0 C0) (f : A → C0 → B := by intro z_ y0_; repeat (first | (with_reducible first | exact z_ | apply bAl | apply bDN | apply bD1 | refine bSt ?_ y0_) | exact z_)) : B := f h.out g0.out
theorem zH2 {A B C0 C1 : Prop} (h : Aside0 A) (g0 : Aside0 C0) (g1 : Aside0 C1) (f : A → C0 → C1 → B := by intro z_ y0_ y1_; repeat (first | (with_reducible first | exact z_ | apply bAl | apply bDN | apply bD1 | refine bSt ?_ y0_ | refine bSt ?_ y1_) | exact z_)) : B := f h.out g0.out g1.out

end Go.Proofs.YtdjdleldocfpaaaGreatDoor.F
end

section
namespace Go.Proofs.YtdjdleldocfpaaaGreatDoor.F
open Go.RowKit Go.Proofs.YtdjdleldocfpaaaGreatDoorW.PrintWords Go.Proofs.YtdjdleldocfpaaaGreatDoorW.PrintLast Go.Proofs.YtdjdleldocfpaaaGreatDoorW.PrintMore
set_option linter.unusedVariables false
set_option linter.unusedSimpArgs false
attribute [local go_sem] max2_int min2_int max_two min_two
set_option maxRecDepth 20000
set_option maxHeartbeats 4000000
open Nat renaming reduceAdd → p1, reduceSub → p2, reduceMul → p3, reduceDiv → p4, reduceBNe → p5, reduceBEq → p6, reduceEqDiff → p7, reduceLeDiff → p8, reduceLT → p9
open Int renaming reduceLE → p10, reduceLT → p11, reduceEq → p12
theorem spec_l01In.ctr {a0 : Int} {a1 : Int} {a2 : Int} {r : Bool} (h : spec_l01In.f a0 a1 a2 = some r) : Ctr Tryz.prog 74 [.v (.int .i64 a0), .v (.int .i64 a1), .v (.int .i64 a2)] (.v (.bool r)) := by
  refine Ctr_of tyOk hm Tryz.func74 rfl rfl (by kernel_rfl) (n := 12) (rv := [.tmp 6]) rfl rfl ?_
  simp only [W, List.replicate]
  unfold spec_l01In.f at h
  replace h := ifS h; rcases h with ⟨c1, h⟩ | ⟨c1, h⟩
  · cases h
    try simp only [W, c1, p1, p2, p3, p4, p5, p6, p7, p8, p9, p10, p11, p12]
  · cases h
    try simp only [W, c1, p1, p2, p3, p4, p5, p6, p7, p8, p9, p10, p11, p12]
theorem spec_GridOk.ctr {a0_0 : Int} {a0_1 : Int} {r : Bool} (h : spec_GridOk.f a0_0 a0_1 = some r) : Ctr Tryz.prog 126 [.ag [.v (.int .i64 a0_0), .v (.int .i64 a0_1)]] (.v (.bool r)) := by
  refine Ctr_of tyOk hm Tryz.func126 rfl rfl (by kernel_rfl) (n := 10) (rv := [.tmp 2]) rfl rfl ?_
  simp only [W, List.replicate]
  unfold spec_GridOk.f at h
  replace h := bnd h; obtain ⟨t1, A, h⟩ := h
  try simp only [W, p1, p2, p3, p4, p5, p6, p7, p8, p9, p10, p11, p12]
  refine callR (spec_l01In.ctr A) ?_
  replace h := ifT h; rcases h with ⟨rfl, h⟩ | ⟨rfl, h⟩
  · replace h := bnd h; obtain ⟨t3, A, h⟩ := h
    try simp only [W, p1, p2, p3, p4, p5, p6, p7, p8, p9, p10, p11, p12]
    refine callR (spec_l01In.ctr A) ?_
    cases h
    try simp only [W, p1, p2, p3, p4, p5, p6, p7, p8, p9, p10, p11, p12]
  · cases h
    try simp only [W, p1, p2, p3, p4, p5, p6, p7, p8, p9, p10, p11, p12]
theorem spec_l02East.ctr {a0_0 : Int} {a0_1 : Int} {r : Int} (h : spec_l02East.f a0_0 a0_1 = some r) : Ctr Tryz.prog 162 [.ag [.v (.int .i64 a0_0), .v (.int .i64 a0_1)]] (.v (.int .i64 r)) := by
  refine Ctr_of tyOk hm Tryz.func162 rfl rfl (by kernel_rfl) (n := 8) (rv := [.tmp 2]) rfl rfl ?_
  simp only [W, List.replicate]
  unfold spec_l02East.f at h
  cases h
  try simp only [W, p1, p2, p3, p4, p5, p6, p7, p8, p9, p10, p11, p12]
theorem spec_CountGaps.ctr {a0_0 : Int} {a0_1 : Int} {r : Int} (h : spec_CountGaps.f a0_0 a0_1 = some r) : Ctr Tryz.prog 122 [.ag [.v (.int .i64 a0_0), .v (.int .i64 a0_1)]] (.v (.int .i64 r)) := by
  refine Ctr_of tyOk hm Tryz.func122 rfl rfl (by kernel_rfl) (n := 14) (rv := [.tmp 2]) rfl rfl ?_
  simp only [W, List.replicate]
  unfold spec_CountGaps.f at h
  replace h := bnd h; obtain ⟨t1, A, h⟩ := h
  try simp only [W, p1, p2, p3, p4, p5, p6, p7, p8, p9, p10, p11, p12]
  refine callR (spec_GridOk.ctr A) ?_
  replace h := ifT h; rcases h with ⟨rfl, h⟩ | ⟨rfl, h⟩
  · replace h := bnd h; obtain ⟨t3, A, h⟩ := h
    try simp only [W, p1, p2, p3, p4, p5, p6, p7, p8, p9, p10, p11, p12]
    refine callR (spec_l02East.ctr A) ?_
    cases h
    try simp only [W, p1, p2, p3, p4, p5, p6, p7, p8, p9, p10, p11, p12]
  · cases h
    try simp only [W, p1, p2, p3, p4, p5, p6, p7, p8, p9, p10, p11, p12]
theorem spec_MazeOk.ctr {a0_0 : Int} {a0_1 : Int} {a0_2 : Int} {r : Bool} (h : spec_MazeOk.f a0_0 a0_1 a0_2 = some r) : Ctr Tryz.prog 76 [.ag [.v (.int .i64 a0_0), .v (.int .i64 a0_1), .v (.int .i64 a0_2)]] (.v (.bool r)) := by
  refine Ctr_of tyOk hm Tryz.func76 rfl rfl (by kernel_rfl) (n := 15) (rv := [.tmp 2]) rfl rfl ?_
  simp only [W, List.replicate]
  unfold spec_MazeOk.f at h
  replace h := bnd h; obtain ⟨t1, A, h⟩ := h
  try simp only [W, p1, p2, p3, p4, p5, p6, p7, p8, p9, p10, p11, p12]
  refine callR (spec_GridOk.ctr A) ?_
  replace h := ifT h; rcases h with ⟨rfl, h⟩ | ⟨rfl, h⟩
  · replace h := bnd h; obtain ⟨t3, A, h⟩ := h
    try simp only [W, p1, p2, p3, p4, p5, p6, p7, p8, p9, p10, p11, p12]
    refine callR (spec_CountGaps.ctr A) ?_
    replace h := ifN h; obtain ⟨c4, h⟩ := h
    replace h := bnd h; obtain ⟨t5, A, h⟩ := h
    try simp only [W, c4, p1, p2, p3, p4, p5, p6, p7, p8, p9, p10, p11, p12]
    refine callR (spec_l01In.ctr A) ?_
    cases h
    try simp only [W, c4, p1, p2, p3, p4, p5, p6, p7, p8, p9, p10, p11, p12]
  · cases h
    try simp only [W, p1, p2, p3, p4, p5, p6, p7, p8, p9, p10, p11, p12]
theorem spec_HedgeOk.ctr {k : Nat} {a0_0 : Int} {a0_1 : Int} {a0_2 : Int} {l0_3 : List Int} {a0_4 : Int} {r : Bool} (h : spec_HedgeOk.f k a0_0 a0_1 a0_2 l0_3 a0_4 = some r) : Ctr Tryz.prog 71 [.ag [.v (.int .i64 a0_0), .v (.int .i64 a0_1), .v (.int .i64 a0_2), .pr 1 (l0_3.map eI), .v (.int .i64 a0_4)]] (.v (.bool r)) := by
  refine Ctr_of tyOk hm Tryz.func71 rfl rfl (by kernel_rfl) (n := 35) (rv := [.tmp 2]) rfl rfl ?_
  simp only [W, List.replicate]
  unfold spec_HedgeOk.f at h
  try simp only [W, p1, p2, p3, p4, p5, p6, p7, p8, p9, p10, p11, p12]
  refine loopN (fun x : Int × Int × Int × Int × List Int × Int => [.u, .bp 16 0, .u, .v (.int .i64 x.1), .u, .u, .u, .u, .u, .u, .u, .u, .u, .u, .u, .u, .u, .u, .u, .u, .u, .u, .u, .u, .u, .u, .u, .u, .u, .u, .u, .u, .u, .u, .u, .u]) (fun x => [(16, .box 38 [.v (.int .i64 x.2.1), .v (.int .i64 x.2.2.1), .v (.int .i64 x.2.2.2.1), .pr 1 (List.map eI x.2.2.2.2.1), .v (.int .i64 x.2.2.2.2.2)])]) (fun n x => spec_HedgeOk.l0 n x.1 x.2.1 x.2.2.1 x.2.2.2.1 x.2.2.2.2.1 x.2.2.2.2.2 = some r) (0, a0_0, a0_1, a0_2, l0_3, a0_4) [] h (by simp only [W, p1, p2, p3, p4, p5, p6, p7, p8, p9, p10, p11, p12] <;> trivial) (by simp only [W, p1, p2, p3, p4, p5, p6, p7, p8, p9, p10, p11, p12] <;> trivial) rfl (fun _ h => by cases h) ?_
  intro n1 ⟨x1, x2, x3, x4, x5, x6⟩ _ h
  simp only [spec_HedgeOk.l0] at h
  replace h := ifS h; rcases h with ⟨c7, h⟩ | ⟨c7, h⟩
  · replace h := ifN h; obtain ⟨c8, h⟩ := h
    replace h := bnd h; obtain ⟨t9, A, h⟩ := h
    try simp only [W, c7, c8, p1, p2, p3, p4, p5, p6, p7, p8, p9, p10, p11, p12]
    refine callR (spec_l01In.ctr A) ?_
    replace h := ifT h; rcases h with ⟨rfl, h⟩ | ⟨rfl, h⟩
    · try simp only [W, c7, c8, p1, p2, p3, p4, p5, p6, p7, p8, p9, p10, p11, p12]
      exact nextN ((wrap64 (x1 + 1)), x2, x3, x4, x5, x6) [] n1 (by omega) h (by simp only [W, p1, p2, p3, p4, p5, p6, p7, p8, p9, p10, p11, p12] <;> trivial) (by simp only [W, p1, p2, p3, p4, p5, p6, p7, p8, p9, p10, p11, p12] <;> trivial) rfl
    · cases h
      try simp only [W, c7, c8, p1, p2, p3, p4, p5, p6, p7, p8, p9, p10, p11, p12]
  · replace h := bnd h; obtain ⟨t8, A, h⟩ := h
    try simp only [W, c7, p1, p2, p3, p4, p5, p6, p7, p8, p9, p10, p11, p12]
    refine callR (spec_MazeOk.ctr A) ?_
    replace h := ifT h; rcases h with ⟨rfl, h⟩ | ⟨rfl, h⟩
    · replace h := bnd h; obtain ⟨t10, A, h⟩ := h
      try simp only [W, c7, p1, p2, p3, p4, p5, p6, p7, p8, p9, p10, p11, p12]
      refine callR (spec_l01In.ctr A) ?_
      replace h := ifT h; rcases h with ⟨rfl, h⟩ | ⟨rfl, h⟩
      · replace h := bnd h; obtain ⟨t12, A, h⟩ := h
        try simp only [W, c7, p1, p2, p3, p4, p5, p6, p7, p8, p9, p10, p11, p12]
        refine callR (spec_CountGaps.ctr A) ?_
        cases h
        try simp only [W, c7, p1, p2, p3, p4, p5, p6, p7, p8, p9, p10, p11, p12]
      · cases h
        try simp only [W, c7, p1, p2, p3, p4, p5, p6, p7, p8, p9, p10, p11, p12]
    · cases h
      try simp only [W, c7, p1, p2, p3, p4, p5, p6, p7, p8, p9, p10, p11, p12]
theorem spec_l03Bit.ctr {a0 : Int} {a1 : Int} {r : Bool} (h : spec_l03Bit.f a0 a1 = some r) : Ctr Tryz.prog 130 [.v (.int .i64 a0), .v (.int .i64 a1)] (.v (.bool r)) := by
  refine Ctr_of tyOk hm Tryz.func130 rfl rfl (by kernel_rfl) (n := 8) (rv := [.tmp 4]) rfl rfl ?_
  simp only [W, List.replicate]
  unfold spec_l03Bit.f at h
  replace h := ifN h; obtain ⟨c1, h⟩ := h
  cases h
  try simp only [W, c1, p1, p2, p3, p4, p5, p6, p7, p8, p9, p10, p11, p12]
end Go.Proofs.YtdjdleldocfpaaaGreatDoor.F
end

section
namespace Go.Proofs.YtdjdleldocfpaaaGreatDoor.F
open Go.RowKit Go.Proofs.YtdjdleldocfpaaaGreatDoorW.PrintWords Go.Proofs.YtdjdleldocfpaaaGreatDoorW.PrintLast Go.Proofs.YtdjdleldocfpaaaGreatDoorW.PrintMore
set_option linter.unusedVariables false
set_option linter.unusedSimpArgs false
attribute [local go_sem] max2_int min2_int max_two min_two
set_option maxRecDepth 20000
set_option maxHeartbeats 4000000
open Nat renaming reduceAdd → p1, reduceSub → p2, reduceMul → p3, reduceDiv → p4, reduceBNe → p5, reduceBEq → p6, reduceEqDiff → p7, reduceLeDiff → p8, reduceLT → p9
open Int renaming reduceLE → p10, reduceLT → p11, reduceEq → p12
theorem spec_SetGap.ctr {k : Nat} {a0_0 : Int} {a0_1 : Int} {a0_2 : Int} {a1 : Int} {a2 : Bool} {r1 : Int} {r2 : Int} {r3 : Int} {r4 : Bool} (h : spec_SetGap.f k a0_0 a0_1 a0_2 a1 a2 = some (r1, r2, r3, r4)) : Ctr Tryz.prog 78 [.ag [.v (.int .i64 a0_0), .v (.int .i64 a0_1), .v (.int .i64 a0_2)], .v (.int .i64 a1), .v (.bool a2)] (.tu [.ag [.v (.int .i64 r1), .v (.int .i64 r2), .v (.int .i64 r3)], .v (.bool r4)]) := by
  refine Ctr_of tyOk hm Tryz.func78 rfl rfl (by kernel_rfl) (n := 31) (rv := [.cell 6 36, .tmp 7]) rfl rfl ?_
  simp only [W, List.replicate]
  unfold spec_SetGap.f at h
  replace h := bnd h; obtain ⟨t1, A, h⟩ := h
  try simp only [W, p1, p2, p3, p4, p5, p6, p7, p8, p9, p10, p11, p12]
  refine callR (spec_MazeOk.ctr A) ?_
  replace h := ifT h; rcases h with ⟨rfl, h⟩ | ⟨rfl, h⟩
  · replace h := bnd h; obtain ⟨t3, A, h⟩ := h
    try simp only [W, p1, p2, p3, p4, p5, p6, p7, p8, p9, p10, p11, p12]
    refine callR (spec_CountGaps.ctr A) ?_
    replace h := bnd h; obtain ⟨t4, A, h⟩ := h
    try simp only [W, p1, p2, p3, p4, p5, p6, p7, p8, p9, p10, p11, p12]
    refine callR (spec_l01In.ctr A) ?_
    rcases k with _ | m5; · cases h
    rw [spec_SetGap.j0] at h
    replace h := ifT h; rcases h with ⟨c6, h⟩ | ⟨c6, h⟩
    · cases h
      try simp only [W, c6, p1, p2, p3, p4, p5, p6, p7, p8, p9, p10, p11, p12]
    · replace h := bnd h; obtain ⟨t7, A, h⟩ := h
      try simp only [W, c6, p1, p2, p3, p4, p5, p6, p7, p8, p9, p10, p11, p12]
      refine callR (spec_l03Bit.ctr A) ?_
      replace h := ifT h; rcases h with ⟨c8, h⟩ | ⟨c8, h⟩ <;> try simp only [bEq] at c8
      · replace h := ifN h; obtain ⟨c9, h⟩ := h
        cases h
        try simp only [W, c6, c8, c9, p1, p2, p3, p4, p5, p6, p7, p8, p9, p10, p11, p12]
      · cases h
        try simp only [W, c6, c8, p1, p2, p3, p4, p5, p6, p7, p8, p9, p10, p11, p12]
  · rcases k with _ | m3; · cases h
    rw [spec_SetGap.j0] at h
    rw [if_pos rfl] at h
    cases h
    try simp only [W, p1, p2, p3, p4, p5, p6, p7, p8, p9, p10, p11, p12]
theorem spec_OpenNow.ctr {k : Nat} {a0_0 : Int} {a0_1 : Int} {a0_2 : Int} {l0_3 : List Int} {a0_4 : Int} {r1 : Int} {r2 : Int} {r3 : Int} (h : spec_OpenNow.f k a0_0 a0_1 a0_2 l0_3 a0_4 = some (r1, r2, r3)) : Ctr Tryz.prog 35 [.ag [.v (.int .i64 a0_0), .v (.int .i64 a0_1), .v (.int .i64 a0_2), .pr 1 (l0_3.map eI), .v (.int .i64 a0_4)]] (.ag [.v (.int .i64 r1), .v (.int .i64 r2), .v (.int .i64 r3)]) := by
  refine Ctr_of tyOk hm Tryz.func35 rfl rfl (by kernel_rfl) (n := 32) (rv := [.cell 2 36]) rfl rfl ?_
  simp only [W, List.replicate]
  unfold spec_OpenNow.f at h
  replace h := bnd h; obtain ⟨t1, A, h⟩ := h
  try simp only [W, p1, p2, p3, p4, p5, p6, p7, p8, p9, p10, p11, p12]
  refine callR (spec_HedgeOk.ctr A) ?_
  replace h := ifT h; rcases h with ⟨rfl, h⟩ | ⟨rfl, h⟩
  · try simp only [W, p1, p2, p3, p4, p5, p6, p7, p8, p9, p10, p11, p12]
    refine loopN (fun x : Int × Int × Int × Int × List Int × Int × Int × Int × Int × Int × Int × Int => [.u, .bp 16 0, .bp 32 0, .bp 48 0, .v (.int .i64 x.1), .u, .u, .u, .u, .bp 16 0, .u, .u, .u, .u, .u, .u, .u, .u, .u, .u, .u, .u, .u, .u, .u, .u, .u, .u, .u, .u, .u, .u, .u]) (fun x => [(16, .box 38 [.v (.int .i64 x.2.1), .v (.int .i64 x.2.2.1), .v (.int .i64 x.2.2.2.1), .pr 1 (List.map eI x.2.2.2.2.1), .v (.int .i64 x.2.2.2.2.2.1)]), (32, .box 36 [.v (.int .i64 x.2.2.2.2.2.2.2.2.2.1), .v (.int .i64 x.2.2.2.2.2.2.2.2.2.2.1), .v (.int .i64 x.2.2.2.2.2.2.2.2.2.2.2)]), (48, .box 36 [.v (.int .i64 x.2.2.2.2.2.2.1), .v (.int .i64 x.2.2.2.2.2.2.2.1), .v (.int .i64 x.2.2.2.2.2.2.2.2.1)])]) (fun n x => spec_OpenNow.l0 n x.1 x.2.1 x.2.2.1 x.2.2.2.1 x.2.2.2.2.1 x.2.2.2.2.2.1 x.2.2.2.2.2.2.1 x.2.2.2.2.2.2.2.1 x.2.2.2.2.2.2.2.2.1 = some (r1, r2, r3)) (0, a0_0, a0_1, a0_2, l0_3, a0_4, a0_0, a0_1, a0_2, 0, 0, 0) [] h (by simp only [W, p1, p2, p3, p4, p5, p6, p7, p8, p9, p10, p11, p12] <;> trivial) (by simp only [W, p1, p2, p3, p4, p5, p6, p7, p8, p9, p10, p11, p12] <;> trivial) rfl (fun _ h => by cases h) ?_
    intro n1 ⟨x3, x4, x5, x6, x7, x8, x9, x10, x11, y12, y13, y14⟩ _ h
    simp only [spec_OpenNow.l0] at h
    replace h := ifS h; rcases h with ⟨c15, h⟩ | ⟨c15, h⟩
    · replace h := ifN h; obtain ⟨c16, h⟩ := h
      replace h := ifS h; rcases h with ⟨c17, h⟩ | ⟨c17, h⟩
      · replace h := bnd h; obtain ⟨⟨t18_1, t18_2, t18_3, t18_4⟩, A, h⟩ := h
        dsimp only at h
        try simp only [W, c15, c16, c17, p1, p2, p3, p4, p5, p6, p7, p8, p9, p10, p11, p12]
        refine callR (spec_SetGap.ctr A) ?_
        try simp only [W, c15, c16, c17, p1, p2, p3, p4, p5, p6, p7, p8, p9, p10, p11, p12]
        exact nextN ((wrap64 (x3 + 1)), x4, x5, x6, x7, x8, t18_1, t18_2, t18_3, y12, y13, y14) [] n1 (by omega) h (by simp only [W, p1, p2, p3, p4, p5, p6, p7, p8, p9, p10, p11, p12] <;> trivial) (by simp only [W, p1, p2, p3, p4, p5, p6, p7, p8, p9, p10, p11, p12] <;> trivial) rfl
      · try simp only [W, c15, c16, c17, p1, p2, p3, p4, p5, p6, p7, p8, p9, p10, p11, p12]
        exact nextN ((wrap64 (x3 + 1)), x4, x5, x6, x7, x8, x9, x10, x11, y12, y13, y14) [] n1 (by omega) h (by simp only [W, p1, p2, p3, p4, p5, p6, p7, p8, p9, p10, p11, p12] <;> trivial) (by simp only [W, p1, p2, p3, p4, p5, p6, p7, p8, p9, p10, p11, p12] <;> trivial) rfl
    · cases h
      try simp only [W, c15, p1, p2, p3, p4, p5, p6, p7, p8, p9, p10, p11, p12]
  · cases h
    try simp only [W, p1, p2, p3, p4, p5, p6, p7, p8, p9, p10, p11, p12]
theorem spec_CountCells.ctr {a0_0 : Int} {a0_1 : Int} {r : Int} (h : spec_CountCells.f a0_0 a0_1 = some r) : Ctr Tryz.prog 123 [.ag [.v (.int .i64 a0_0), .v (.int .i64 a0_1)]] (.v (.int .i64 r)) := by
  refine Ctr_of tyOk hm Tryz.func123 rfl rfl (by kernel_rfl) (n := 10) (rv := [.tmp 2]) rfl rfl ?_
  simp only [W, List.replicate]
  unfold spec_CountCells.f at h
  replace h := bnd h; obtain ⟨t1, A, h⟩ := h
  try simp only [W, p1, p2, p3, p4, p5, p6, p7, p8, p9, p10, p11, p12]
  refine callR (spec_GridOk.ctr A) ?_
  replace h := ifT h; rcases h with ⟨rfl, h⟩ | ⟨rfl, h⟩
  · cases h
    try simp only [W, p1, p2, p3, p4, p5, p6, p7, p8, p9, p10, p11, p12]
  · cases h
    try simp only [W, p1, p2, p3, p4, p5, p6, p7, p8, p9, p10, p11, p12]
end Go.Proofs.YtdjdleldocfpaaaGreatDoor.F
end

section
namespace Go.Proofs.YtdjdleldocfpaaaGreatDoor.F
open Go.RowKit Go.Proofs.YtdjdleldocfpaaaGreatDoorW.PrintWords Go.Proofs.YtdjdleldocfpaaaGreatDoorW.PrintLast Go.Proofs.YtdjdleldocfpaaaGreatDoorW.PrintMore
set_option linter.unusedVariables false
set_option linter.unusedSimpArgs false
attribute [local go_sem] max2_int min2_int max_two min_two
set_option maxRecDepth 20000
set_option maxHeartbeats 4000000
open Nat renaming reduceAdd → p1, reduceSub → p2, reduceMul → p3, reduceDiv → p4, reduceBNe → p5, reduceBEq → p6, reduceEqDiff → p7, reduceLeDiff → p8, reduceLT → p9
open Int renaming reduceLE → p10, reduceLT → p11, reduceEq → p12
theorem spec_l04Has.ctr {a0_0 : Int} {a0_1 : Int} {a0_2 : Int} {a1 : Int} {r : Bool} (h : spec_l04Has.f a0_0 a0_1 a0_2 a1 = some r) : Ctr Tryz.prog 72 [.ag [.v (.int .i64 a0_0), .v (.int .i64 a0_1), .v (.int .i64 a0_2)], .v (.int .i64 a1)] (.v (.bool r)) := by
  refine Ctr_of tyOk hm Tryz.func72 rfl rfl (by kernel_rfl) (n := 13) (rv := [.tmp 4]) rfl rfl ?_
  simp only [W, List.replicate]
  unfold spec_l04Has.f at h
  replace h := bnd h; obtain ⟨t1, A, h⟩ := h
  try simp only [W, p1, p2, p3, p4, p5, p6, p7, p8, p9, p10, p11, p12]
  refine callR (spec_MazeOk.ctr A) ?_
  replace h := ifT h; rcases h with ⟨rfl, h⟩ | ⟨rfl, h⟩
  · replace h := bnd h; obtain ⟨t3, A, h⟩ := h
    try simp only [W, p1, p2, p3, p4, p5, p6, p7, p8, p9, p10, p11, p12]
    refine callR (spec_CountCells.ctr A) ?_
    replace h := bnd h; obtain ⟨t4, A, h⟩ := h
    try simp only [W, p1, p2, p3, p4, p5, p6, p7, p8, p9, p10, p11, p12]
    refine callR (spec_l01In.ctr A) ?_
    cases h
    try simp only [W, p1, p2, p3, p4, p5, p6, p7, p8, p9, p10, p11, p12]
  · cases h
    try simp only [W, p1, p2, p3, p4, p5, p6, p7, p8, p9, p10, p11, p12]
theorem spec_l07In.ctr {k : Nat} {l0 : List Int} {a1 : Int} {r : Bool} (h : spec_l07In.f k l0 a1 = some r) : Ctr Tryz.prog 124 [.pr 1 (l0.map eI), .v (.int .i64 a1)] (.v (.bool r)) := by
  refine Ctr_of tyOk hm Tryz.func124 rfl rfl (by kernel_rfl) (n := 16) (rv := [.tmp 4]) rfl rfl ?_
  simp only [W, List.replicate]
  unfold spec_l07In.f at h
  try simp only [W, p1, p2, p3, p4, p5, p6, p7, p8, p9, p10, p11, p12]
  refine loopN (fun x : List Int × Int × Int => [.pr 1 (List.map eI x.1), .v (.int .i64 x.2.1), .u, .u, .u, .v (.int .i64 x.2.2), .u, .u, .u, .u, .u, .u, .u, .u, .u, .u, .u, .u]) (fun x => []) (fun n x => spec_l07In.l0 n x.1 x.2.1 x.2.2 = some r) (l0, a1, 0) [] h (by simp only [W, p1, p2, p3, p4, p5, p6, p7, p8, p9, p10, p11, p12] <;> trivial) (by simp only [W, p1, p2, p3, p4, p5, p6, p7, p8, p9, p10, p11, p12] <;> trivial) rfl (fun _ h => by cases h) ?_
  intro n1 ⟨x1, x2, x3⟩ _ h
  simp only [spec_l07In.l0] at h
  replace h := ifS h; rcases h with ⟨c4, h⟩ | ⟨c4, h⟩
  · replace h := ifN h; obtain ⟨c5, h⟩ := h
    replace h := ifS h; rcases h with ⟨c6, h⟩ | ⟨c6, h⟩
    · cases h
      try simp only [W, c4, c5, eq_true c6, p1, p2, p3, p4, p5, p6, p7, p8, p9, p10, p11, p12]
    · try simp only [W, c4, c5, c6, p1, p2, p3, p4, p5, p6, p7, p8, p9, p10, p11, p12]
      exact nextN (x1, x2, (wrap64 (x3 + 1))) [] n1 (by omega) h (by simp only [W, p1, p2, p3, p4, p5, p6, p7, p8, p9, p10, p11, p12] <;> trivial) (by simp only [W, p1, p2, p3, p4, p5, p6, p7, p8, p9, p10, p11, p12] <;> trivial) rfl
  · cases h
    try simp only [W, c4, p1, p2, p3, p4, p5, p6, p7, p8, p9, p10, p11, p12]
theorem spec_CrowdOk.ctr {k : Nat} {a0_0 : Int} {a0_1 : Int} {a0_2 : Int} {l1 : List Int} {r : Bool} (h : spec_CrowdOk.f k a0_0 a0_1 a0_2 l1 = some r) : Ctr Tryz.prog 73 [.ag [.v (.int .i64 a0_0), .v (.int .i64 a0_1), .v (.int .i64 a0_2)], .pr 1 (l1.map eI)] (.v (.bool r)) := by
  refine Ctr_of tyOk hm Tryz.func73 rfl rfl (by kernel_rfl) (n := 34) (rv := [.tmp 4]) rfl rfl ?_
  simp only [W, List.replicate]
  unfold spec_CrowdOk.f at h
  try simp only [W, p1, p2, p3, p4, p5, p6, p7, p8, p9, p10, p11, p12]
  refine loopN (fun x : List Int × Int × Int × Int × Int => [.u, .pr 1 (List.map eI x.1), .bp 32 0, .u, .u, .v (.int .i64 x.2.1), .u, .u, .u, .u, .u, .u, .u, .u, .u, .u, .u, .u, .u, .u, .u, .u, .u, .u, .u, .u, .u, .u, .u, .u, .u, .u, .u, .u, .u, .u]) (fun x => [(32, .box 36 [.v (.int .i64 x.2.2.1), .v (.int .i64 x.2.2.2.1), .v (.int .i64 x.2.2.2.2)])]) (fun n x => spec_CrowdOk.l0 n x.1 x.2.1 x.2.2.1 x.2.2.2.1 x.2.2.2.2 = some r) (l1, 0, a0_0, a0_1, a0_2) [] h (by simp only [W, p1, p2, p3, p4, p5, p6, p7, p8, p9, p10, p11, p12] <;> trivial) (by simp only [W, p1, p2, p3, p4, p5, p6, p7, p8, p9, p10, p11, p12] <;> trivial) rfl (fun _ h => by cases h) ?_
  intro n1 ⟨x1, x2, x3, x4, x5⟩ _ h
  simp only [spec_CrowdOk.l0] at h
  replace h := ifS h; rcases h with ⟨c6, h⟩ | ⟨c6, h⟩
  · replace h := ifN h; obtain ⟨c7, h⟩ := h
    replace h := bnd h; obtain ⟨t8, A, h⟩ := h
    try simp only [W, c6, c7, p1, p2, p3, p4, p5, p6, p7, p8, p9, p10, p11, p12]
    refine callR (spec_l04Has.ctr A) ?_
    replace h := ifT h; rcases h with ⟨rfl, h⟩ | ⟨rfl, h⟩
    · replace h := ifN h; obtain ⟨c10, h⟩ := h
      replace h := bnd h; obtain ⟨t11, A, h⟩ := h
      try simp only [W, c6, c7, c10, p1, p2, p3, p4, p5, p6, p7, p8, p9, p10, p11, p12]
      first | refine callR (spec_l07In.ctr A) ?_ | refine callRE (spec_l07In.ctr A) (by first | (simp only [List.map_take, List.map_drop, List.map_append]; rfl) | (rw [rd_take (by assumption) (by assumption)]; rfl)) ?_
      replace h := ifT h; rcases h with ⟨rfl, h⟩ | ⟨rfl, h⟩
      · cases h
        try simp only [W, c6, c7, c10, p1, p2, p3, p4, p5, p6, p7, p8, p9, p10, p11, p12]
      · try simp only [W, c6, c7, c10, p1, p2, p3, p4, p5, p6, p7, p8, p9, p10, p11, p12]
        exact nextN (x1, (wrap64 (x2 + 1)), x3, x4, x5) [] n1 (by omega) h (by simp only [W, p1, p2, p3, p4, p5, p6, p7, p8, p9, p10, p11, p12] <;> trivial) (by simp only [W, p1, p2, p3, p4, p5, p6, p7, p8, p9, p10, p11, p12] <;> trivial) rfl
    · cases h
      try simp only [W, c6, c7, p1, p2, p3, p4, p5, p6, p7, p8, p9, p10, p11, p12]
  · replace h := bnd h; obtain ⟨t7, A, h⟩ := h
    try simp only [W, c6, p1, p2, p3, p4, p5, p6, p7, p8, p9, p10, p11, p12]
    refine callR (spec_MazeOk.ctr A) ?_
    replace h := ifT h; rcases h with ⟨rfl, h⟩ | ⟨rfl, h⟩
    · cases h
      try simp only [W, c6, p1, p2, p3, p4, p5, p6, p7, p8, p9, p10, p11, p12]
    · cases h
      try simp only [W, c6, p1, p2, p3, p4, p5, p6, p7, p8, p9, p10, p11, p12]
theorem spec_IsPassage.ctr {a0_0 : Int} {a0_1 : Int} {a0_2 : Int} {a1 : Int} {r : Bool} (h : spec_IsPassage.f a0_0 a0_1 a0_2 a1 = some r) : Ctr Tryz.prog 127 [.ag [.v (.int .i64 a0_0), .v (.int .i64 a0_1), .v (.int .i64 a0_2)], .v (.int .i64 a1)] (.v (.bool r)) := by
  refine Ctr_of tyOk hm Tryz.func127 rfl rfl (by kernel_rfl) (n := 19) (rv := [.tmp 4]) rfl rfl ?_
  simp only [W, List.replicate]
  unfold spec_IsPassage.f at h
  replace h := bnd h; obtain ⟨t1, A, h⟩ := h
  try simp only [W, p1, p2, p3, p4, p5, p6, p7, p8, p9, p10, p11, p12]
  refine callR (spec_MazeOk.ctr A) ?_
  replace h := ifT h; rcases h with ⟨rfl, h⟩ | ⟨rfl, h⟩
  · replace h := bnd h; obtain ⟨t3, A, h⟩ := h
    try simp only [W, p1, p2, p3, p4, p5, p6, p7, p8, p9, p10, p11, p12]
    refine callR (spec_CountGaps.ctr A) ?_
    replace h := bnd h; obtain ⟨t4, A, h⟩ := h
    try simp only [W, p1, p2, p3, p4, p5, p6, p7, p8, p9, p10, p11, p12]
    refine callR (spec_l01In.ctr A) ?_
    replace h := ifT h; rcases h with ⟨rfl, h⟩ | ⟨rfl, h⟩
    · replace h := bnd h; obtain ⟨t6, A, h⟩ := h
      try simp only [W, p1, p2, p3, p4, p5, p6, p7, p8, p9, p10, p11, p12]
      refine callR (spec_l03Bit.ctr A) ?_
      cases h
      try simp only [W, p1, p2, p3, p4, p5, p6, p7, p8, p9, p10, p11, p12]
    · cases h
      try simp only [W, p1, p2, p3, p4, p5, p6, p7, p8, p9, p10, p11, p12]
  · cases h
    try simp only [W, p1, p2, p3, p4, p5, p6, p7, p8, p9, p10, p11, p12]
theorem spec_Neighbor.ctr {k : Nat} {a0_0 : Int} {a0_1 : Int} {a1 : Int} {a2 : Int} {r : Int} (h : spec_Neighbor.f k a0_0 a0_1 a1 a2 = some r) : Ctr Tryz.prog 129 [.ag [.v (.int .i64 a0_0), .v (.int .i64 a0_1)], .v (.int .i64 a1), .v (.int .i64 a2)] (.v (.int .i64 r)) := by
  refine Ctr_of tyOk hm Tryz.func129 rfl rfl (by kernel_rfl) (n := 57) (rv := [.tmp 6]) rfl rfl ?_
  simp only [W, List.replicate]
  unfold spec_Neighbor.f at h
  replace h := bnd h; obtain ⟨t1, A, h⟩ := h
  try simp only [W, p1, p2, p3, p4, p5, p6, p7, p8, p9, p10, p11, p12]
  refine callR (spec_CountCells.ctr A) ?_
  replace h := bnd h; obtain ⟨t2, A, h⟩ := h
  try simp only [W, p1, p2, p3, p4, p5, p6, p7, p8, p9, p10, p11, p12]
  refine callR (spec_l01In.ctr A) ?_
  replace h := ifT h; rcases h with ⟨rfl, h⟩ | ⟨rfl, h⟩
  · replace h := ifM h; obtain ⟨c4, h⟩ := h
    replace h := ifS h; rcases h with ⟨c5, h⟩ | ⟨c5, h⟩
    · rcases k with _ | m6; · cases h
      rw [spec_Neighbor.j0] at h
      replace h := bnd h; obtain ⟨t7, A, h⟩ := h
      try simp only [W, c4, eq_true c5, p1, p2, p3, p4, p5, p6, p7, p8, p9, p10, p11, p12]
      refine callR (spec_l01In.ctr A) ?_
      replace h := ifT h; rcases h with ⟨rfl, h⟩ | ⟨rfl, h⟩
      · replace h := bnd h; obtain ⟨t9, A, h⟩ := h
        try simp only [W, c4, eq_true c5, p1, p2, p3, p4, p5, p6, p7, p8, p9, p10, p11, p12]
        refine callR (spec_l01In.ctr A) ?_
        replace h := ifT h; rcases h with ⟨rfl, h⟩ | ⟨rfl, h⟩
        · cases h
          try simp only [W, c4, eq_true c5, p1, p2, p3, p4, p5, p6, p7, p8, p9, p10, p11, p12]
        · cases h
          try simp only [W, c4, eq_true c5, p1, p2, p3, p4, p5, p6, p7, p8, p9, p10, p11, p12]
      · cases h
        try simp only [W, c4, eq_true c5, p1, p2, p3, p4, p5, p6, p7, p8, p9, p10, p11, p12]
    · replace h := ifS h; rcases h with ⟨c6, h⟩ | ⟨c6, h⟩
      · rcases k with _ | m7; · cases h
        rw [spec_Neighbor.j0] at h
        replace h := bnd h; obtain ⟨t8, A, h⟩ := h
        try simp only [W, c4, c5, eq_true c6, p1, p2, p3, p4, p5, p6, p7, p8, p9, p10, p11, p12]
        refine callR (spec_l01In.ctr A) ?_
        replace h := ifT h; rcases h with ⟨rfl, h⟩ | ⟨rfl, h⟩
        · replace h := bnd h; obtain ⟨t10, A, h⟩ := h
          try simp only [W, c4, c5, eq_true c6, p1, p2, p3, p4, p5, p6, p7, p8, p9, p10, p11, p12]
          refine callR (spec_l01In.ctr A) ?_
          replace h := ifT h; rcases h with ⟨rfl, h⟩ | ⟨rfl, h⟩
          · cases h
            try simp only [W, c4, c5, eq_true c6, p1, p2, p3, p4, p5, p6, p7, p8, p9, p10, p11, p12]
          · cases h
            try simp only [W, c4, c5, eq_true c6, p1, p2, p3, p4, p5, p6, p7, p8, p9, p10, p11, p12]
        · cases h
          try simp only [W, c4, c5, eq_true c6, p1, p2, p3, p4, p5, p6, p7, p8, p9, p10, p11, p12]
      · replace h := ifS h; rcases h with ⟨c7, h⟩ | ⟨c7, h⟩
        · rcases k with _ | m8; · cases h
          rw [spec_Neighbor.j0] at h
          replace h := bnd h; obtain ⟨t9, A, h⟩ := h
          try simp only [W, c4, c5, c6, eq_true c7, p1, p2, p3, p4, p5, p6, p7, p8, p9, p10, p11, p12]
          refine callR (spec_l01In.ctr A) ?_
          replace h := ifT h; rcases h with ⟨rfl, h⟩ | ⟨rfl, h⟩
          · replace h := bnd h; obtain ⟨t11, A, h⟩ := h
            try simp only [W, c4, c5, c6, eq_true c7, p1, p2, p3, p4, p5, p6, p7, p8, p9, p10, p11, p12]
            refine callR (spec_l01In.ctr A) ?_
            replace h := ifT h; rcases h with ⟨rfl, h⟩ | ⟨rfl, h⟩
            · cases h
              try simp only [W, c4, c5, c6, eq_true c7, p1, p2, p3, p4, p5, p6, p7, p8, p9, p10, p11, p12]
            · cases h
              try simp only [W, c4, c5, c6, eq_true c7, p1, p2, p3, p4, p5, p6, p7, p8, p9, p10, p11, p12]
          · cases h
            try simp only [W, c4, c5, c6, eq_true c7, p1, p2, p3, p4, p5, p6, p7, p8, p9, p10, p11, p12]
        · replace h := ifS h; rcases h with ⟨c8, h⟩ | ⟨c8, h⟩
          · rcases k with _ | m9; · cases h
            rw [spec_Neighbor.j0] at h
            replace h := bnd h; obtain ⟨t10, A, h⟩ := h
            try simp only [W, c4, c5, c6, c7, eq_true c8, p1, p2, p3, p4, p5, p6, p7, p8, p9, p10, p11, p12]
            refine callR (spec_l01In.ctr A) ?_
            replace h := ifT h; rcases h with ⟨rfl, h⟩ | ⟨rfl, h⟩
            · replace h := bnd h; obtain ⟨t12, A, h⟩ := h
              try simp only [W, c4, c5, c6, c7, eq_true c8, p1, p2, p3, p4, p5, p6, p7, p8, p9, p10, p11, p12]
              refine callR (spec_l01In.ctr A) ?_
              replace h := ifT h; rcases h with ⟨rfl, h⟩ | ⟨rfl, h⟩
              · cases h
                try simp only [W, c4, c5, c6, c7, eq_true c8, p1, p2, p3, p4, p5, p6, p7, p8, p9, p10, p11, p12]
              · cases h
                try simp only [W, c4, c5, c6, c7, eq_true c8, p1, p2, p3, p4, p5, p6, p7, p8, p9, p10, p11, p12]
            · cases h
              try simp only [W, c4, c5, c6, c7, eq_true c8, p1, p2, p3, p4, p5, p6, p7, p8, p9, p10, p11, p12]
          · cases h
            try simp only [W, c4, c5, c6, c7, c8, p1, p2, p3, p4, p5, p6, p7, p8, p9, p10, p11, p12]
  · cases h
    try simp only [W, p1, p2, p3, p4, p5, p6, p7, p8, p9, p10, p11, p12]
end Go.Proofs.YtdjdleldocfpaaaGreatDoor.F
end

section
namespace Go.Proofs.YtdjdleldocfpaaaGreatDoor.F
open Go.RowKit Go.Proofs.YtdjdleldocfpaaaGreatDoorW.PrintWords Go.Proofs.YtdjdleldocfpaaaGreatDoorW.PrintLast Go.Proofs.YtdjdleldocfpaaaGreatDoorW.PrintMore
set_option linter.unusedVariables false
set_option linter.unusedSimpArgs false
attribute [local go_sem] max2_int min2_int max_two min_two
set_option maxRecDepth 20000
set_option maxHeartbeats 4000000
open Nat renaming reduceAdd → p1, reduceSub → p2, reduceMul → p3, reduceDiv → p4, reduceBNe → p5, reduceBEq → p6, reduceEqDiff → p7, reduceLeDiff → p8, reduceLT → p9
open Int renaming reduceLE → p10, reduceLT → p11, reduceEq → p12
theorem spec_GapAt.ctr {k : Nat} {a0_0 : Int} {a0_1 : Int} {a1 : Int} {a2 : Int} {r : Int} (h : spec_GapAt.f k a0_0 a0_1 a1 a2 = some r) : Ctr Tryz.prog 128 [.ag [.v (.int .i64 a0_0), .v (.int .i64 a0_1)], .v (.int .i64 a1), .v (.int .i64 a2)] (.v (.int .i64 r)) := by
  refine Ctr_of tyOk hm Tryz.func128 rfl rfl (by kernel_rfl) (n := 38) (rv := [.tmp 6]) rfl rfl ?_
  simp only [W, List.replicate]
  unfold spec_GapAt.f at h
  replace h := bnd h; obtain ⟨t1, A, h⟩ := h
  try simp only [W, p1, p2, p3, p4, p5, p6, p7, p8, p9, p10, p11, p12]
  refine callR (spec_Neighbor.ctr A) ?_
  replace h := ifS h; rcases h with ⟨c2, h⟩ | ⟨c2, h⟩
  · cases h
    try simp only [W, c2, p1, p2, p3, p4, p5, p6, p7, p8, p9, p10, p11, p12]
  · replace h := ifS h; rcases h with ⟨c3, h⟩ | ⟨c3, h⟩
    · replace h := ifM h; obtain ⟨c4, h⟩ := h
      cases h
      try simp only [W, c2, eq_true c3, c4, p1, p2, p3, p4, p5, p6, p7, p8, p9, p10, p11, p12]
    · replace h := ifS h; rcases h with ⟨c4, h⟩ | ⟨c4, h⟩
      · replace h := ifM h; obtain ⟨c5, h⟩ := h
        cases h
        try simp only [W, c2, c3, eq_true c4, c5, p1, p2, p3, p4, p5, p6, p7, p8, p9, p10, p11, p12]
      · replace h := bnd h; obtain ⟨t5, A, h⟩ := h
        try simp only [W, c2, c3, c4, p1, p2, p3, p4, p5, p6, p7, p8, p9, p10, p11, p12]
        refine callR (spec_l02East.ctr A) ?_
        cases h
        try simp only [W, c2, c3, c4, p1, p2, p3, p4, p5, p6, p7, p8, p9, p10, p11, p12]
theorem spec_Step.ctr {k : Nat} {a0_0 : Int} {a0_1 : Int} {a0_2 : Int} {a1 : Int} {a2 : Int} {r : Int} (h : spec_Step.f k a0_0 a0_1 a0_2 a1 a2 = some r) : Ctr Tryz.prog 77 [.ag [.v (.int .i64 a0_0), .v (.int .i64 a0_1), .v (.int .i64 a0_2)], .v (.int .i64 a1), .v (.int .i64 a2)] (.v (.int .i64 r)) := by
  refine Ctr_of tyOk hm Tryz.func77 rfl rfl (by kernel_rfl) (n := 22) (rv := [.tmp 6]) rfl rfl ?_
  simp only [W, List.replicate]
  unfold spec_Step.f at h
  replace h := bnd h; obtain ⟨t1, A, h⟩ := h
  try simp only [W, p1, p2, p3, p4, p5, p6, p7, p8, p9, p10, p11, p12]
  refine callR (spec_MazeOk.ctr A) ?_
  replace h := ifT h; rcases h with ⟨rfl, h⟩ | ⟨rfl, h⟩
  · replace h := bnd h; obtain ⟨t3, A, h⟩ := h
    try simp only [W, p1, p2, p3, p4, p5, p6, p7, p8, p9, p10, p11, p12]
    refine callR (spec_GapAt.ctr A) ?_
    replace h := bnd h; obtain ⟨t4, A, h⟩ := h
    try simp only [W, p1, p2, p3, p4, p5, p6, p7, p8, p9, p10, p11, p12]
    refine callR (spec_IsPassage.ctr A) ?_
    replace h := ifT h; rcases h with ⟨rfl, h⟩ | ⟨rfl, h⟩
    · replace h := bnd h; obtain ⟨t6, A, h⟩ := h
      try simp only [W, p1, p2, p3, p4, p5, p6, p7, p8, p9, p10, p11, p12]
      refine callR (spec_Neighbor.ctr A) ?_
      cases h
      try simp only [W, p1, p2, p3, p4, p5, p6, p7, p8, p9, p10, p11, p12]
    · cases h
      try simp only [W, p1, p2, p3, p4, p5, p6, p7, p8, p9, p10, p11, p12]
  · cases h
    try simp only [W, p1, p2, p3, p4, p5, p6, p7, p8, p9, p10, p11, p12]
end Go.Proofs.YtdjdleldocfpaaaGreatDoor.F
end

section
namespace Go.Proofs.YtdjdleldocfpaaaGreatDoor.F
open Go.RowKit Go.Proofs.YtdjdleldocfpaaaGreatDoorW.PrintWords Go.Proofs.YtdjdleldocfpaaaGreatDoorW.PrintLast Go.Proofs.YtdjdleldocfpaaaGreatDoorW.PrintMore
set_option linter.unusedVariables false
set_option linter.unusedSimpArgs false
attribute [local go_sem] max2_int min2_int max_two min_two
set_option maxRecDepth 20000
set_option maxHeartbeats 4000000
open Nat renaming reduceAdd → p1, reduceSub → p2, reduceMul → p3, reduceDiv → p4, reduceBNe → p5, reduceBEq → p6, reduceEqDiff → p7, reduceLeDiff → p8, reduceLT → p9
open Int renaming reduceLE → p10, reduceLT → p11, reduceEq → p12
theorem spec_l04Distances.ctr {k : Nat} {a0_0 : Int} {a0_1 : Int} {a0_2 : Int} {a1 : Int} {r : List Int} (h : spec_l04Distances.f k a0_0 a0_1 a0_2 a1 = some r) : Ctr Tryz.prog 177 [.ag [.v (.int .i64 a0_0), .v (.int .i64 a0_1), .v (.int .i64 a0_2)], .v (.int .i64 a1)] (.ow 3 1 (r.map eI)) := by
  refine Ctr_of tyOk hm Tryz.func177 rfl rfl (by kernel_rfl) (n := 69) (rv := [.tmp 4]) rfl rfl ?_
  simp only [W, List.replicate]
  unfold spec_l04Distances.f at h
  replace h := bnd h; obtain ⟨t1, A, h⟩ := h
  try simp only [W, p1, p2, p3, p4, p5, p6, p7, p8, p9, p10, p11, p12]
  refine callR (spec_CountCells.ctr A) ?_
  replace h := ifN h; obtain ⟨c2, h⟩ := h
  replace h := ifN h; obtain ⟨c3, h⟩ := h
  try simp only [W, c2, c3, p1, p2, p3, p4, p5, p6, p7, p8, p9, p10, p11, p12]
  refine loopN (fun x : Int × List Int × Int × Int × Int × Int => [.u, .v (.int .i64 x.1), .bp 32 0, .u, .u, .lo 224, .v (.int .i64 x.2.2.1), .u, .u, .u, .u, .bp 32 0, .u, .u, .u, .u, .u, .u, .u, .u, .u, .u, .u, .u, .u, .u, .u, .u, .u, .u, .u, .u, .u, .u, .u, .u, .u, .u, .u, .u, .u, .u, .u, .u, .u, .u, .u, .u, .u, .u, .u, .u, .u, .u, .u, .u, .u, .u, .u, .u, .u, .u, .u, .u, .u, .u, .u, .u, .u, .u, .u]) (fun x => [(32, .box 36 [.v (.int .i64 x.2.2.2.1), .v (.int .i64 x.2.2.2.2.1), .v (.int .i64 x.2.2.2.2.2)]), (224, .row 3 1 (List.map eI x.2.1))]) (fun n x => spec_l04Distances.l0 n x.1 x.2.1 x.2.2.1 x.2.2.2.1 x.2.2.2.2.1 x.2.2.2.2.2 = some r) (a1, (List.replicate (t1 : Int).toNat 0), 0, a0_0, a0_1, a0_2) [] h (by simp only [W, p1, p2, p3, p4, p5, p6, p7, p8, p9, p10, p11, p12] <;> trivial) (by simp only [W, p1, p2, p3, p4, p5, p6, p7, p8, p9, p10, p11, p12] <;> trivial) rfl (fun _ h => by cases h) ?_
  intro n1 ⟨x4, x5, x6, x7, x8, x9⟩ _ h
  simp only [spec_l04Distances.l0] at h
  replace h := ifS h; rcases h with ⟨c10, h⟩ | ⟨c10, h⟩
  · replace h := ifN h; obtain ⟨c11, h⟩ := h
    try simp only [W, c10, c11, p1, p2, p3, p4, p5, p6, p7, p8, p9, p10, p11, p12]
    exact nextN (x4, (x5.set (x6 : Int).toNat (-1)), (wrap64 (x6 + 1)), x7, x8, x9) [] n1 (by omega) h (by simp only [W, p1, p2, p3, p4, p5, p6, p7, p8, p9, p10, p11, p12] <;> trivial) (by simp only [W, p1, p2, p3, p4, p5, p6, p7, p8, p9, p10, p11, p12] <;> trivial) rfl
  · replace h := ifN h; obtain ⟨c11, h⟩ := h
    replace h := ifN h; obtain ⟨c12, h⟩ := h
    try simp only [W, c10, c11, c12, p1, p2, p3, p4, p5, p6, p7, p8, p9, p10, p11, p12]
    refine loopN (fun x : List Int × List Int × Int × Int × Int × Int => [.u, .u, .bp 32 0, .u, .u, .lo 224, .u, .lo 448, .v (.int .i64 x.2.2.1), .u, .u, .bp 32 0, .u, .u, .u, .u, .u, .u, .u, .u, .u, .u, .u, .u, .u, .u, .u, .u, .u, .u, .u, .u, .u, .u, .u, .u, .u, .u, .u, .u, .u, .u, .u, .u, .u, .u, .u, .u, .u, .u, .u, .u, .u, .u, .u, .u, .u, .u, .u, .u, .u, .u, .u, .u, .u, .u, .u, .u, .u, .u, .u]) (fun x => [(32, .box 36 [.v (.int .i64 x.2.2.2.1), .v (.int .i64 x.2.2.2.2.1), .v (.int .i64 x.2.2.2.2.2)]), (224, .row 3 1 (List.map eI x.1)), (448, .row 3 1 (List.map eI x.2.1))]) (fun n x => spec_l04Distances.l1 n x.1 x.2.1 x.2.2.1 x.2.2.2.1 x.2.2.2.2.1 x.2.2.2.2.2 = some r) ((x5.set (x4 : Int).toNat 0), (([x4] : List Int)), 0, x7, x8, x9) [] h (by simp only [W, p1, p2, p3, p4, p5, p6, p7, p8, p9, p10, p11, p12] <;> trivial) (by simp only [W, p1, p2, p3, p4, p5, p6, p7, p8, p9, p10, p11, p12] <;> trivial) rfl (fun _ h => by cases h) ?_
    intro n2 ⟨x13, x14, x15, x16, x17, x18⟩ _ h
    simp only [spec_l04Distances.l1] at h
    replace h := ifS h; rcases h with ⟨c19, h⟩ | ⟨c19, h⟩
    · try simp only [W, c19, p1, p2, p3, p4, p5, p6, p7, p8, p9, p10, p11, p12]
      refine loopN (fun x : List Int × List Int × Int × Int × Int × Int × Int => [.u, .u, .bp 32 0, .u, .u, .lo 224, .u, .lo 448, .v (.int .i64 x.2.2.1), .v (.int .i64 x.2.2.2.1), .u, .bp 32 0, .u, .u, .u, .u, .u, .u, .u, .u, .u, .u, .u, .u, .u, .u, .u, .u, .u, .u, .u, .u, .u, .u, .u, .u, .u, .u, .u, .u, .u, .u, .u, .u, .u, .u, .u, .u, .u, .u, .u, .u, .u, .u, .u, .u, .u, .u, .u, .u, .u, .u, .u, .u, .u, .u, .u, .u, .u, .u, .u]) (fun x => [(32, .box 36 [.v (.int .i64 x.2.2.2.2.1), .v (.int .i64 x.2.2.2.2.2.1), .v (.int .i64 x.2.2.2.2.2.2)]), (224, .row 3 1 (List.map eI x.1)), (448, .row 3 1 (List.map eI x.2.1))]) (fun n x => spec_l04Distances.l2 n x.1 x.2.1 x.2.2.1 x.2.2.2.1 x.2.2.2.2.1 x.2.2.2.2.2.1 x.2.2.2.2.2.2 = some r) (x13, x14, x15, 0, x16, x17, x18) [] h (by simp only [W, p1, p2, p3, p4, p5, p6, p7, p8, p9, p10, p11, p12] <;> trivial) (by simp only [W, p1, p2, p3, p4, p5, p6, p7, p8, p9, p10, p11, p12] <;> trivial) rfl (fun _ h => by cases h) ?_
      intro n3 ⟨x20, x21, x22, x23, x24, x25, x26⟩ _ h
      simp only [spec_l04Distances.l2] at h
      replace h := ifS h; rcases h with ⟨c27, h⟩ | ⟨c27, h⟩
      · replace h := ifN h; obtain ⟨c28, h⟩ := h
        replace h := ifN h; obtain ⟨c29, h⟩ := h
        replace h := bnd h; obtain ⟨t30, A, h⟩ := h
        try simp only [W, c27, c28, c29, p1, p2, p3, p4, p5, p6, p7, p8, p9, p10, p11, p12]
        refine callR (spec_Step.ctr A) ?_
        replace h := ifS h; rcases h with ⟨c31, h⟩ | ⟨c31, h⟩
        · replace h := ifN h; obtain ⟨c32, h⟩ := h
          replace h := ifN h; obtain ⟨c33, h⟩ := h
          replace h := ifS h; rcases h with ⟨c34, h⟩ | ⟨c34, h⟩
          · replace h := ifN h; obtain ⟨c35, h⟩ := h
            replace h := ifN h; obtain ⟨c36, h⟩ := h
            replace h := ifN h; obtain ⟨c37, h⟩ := h
            try simp only [W, c27, c28, c29, c31, c32, c33, c34, c35, c36, c37, p1, p2, p3, p4, p5, p6, p7, p8, p9, p10, p11, p12]
            exact nextN ((x20.set (t30 : Int).toNat (wrap64 ((rd x20 (rd x21 x22)) + 1))), (x21 ++ [t30]), x22, (wrap64 (x23 + 1)), x24, x25, x26) [(448, 1104)] n3 (by omega) h (by simp only [W, p1, p2, p3, p4, p5, p6, p7, p8, p9, p10, p11, p12] <;> trivial) (by simp only [W, p1, p2, p3, p4, p5, p6, p7, p8, p9, p10, p11, p12] <;> trivial) rfl
          · try simp only [W, c27, c28, c29, c31, c32, c33, c34, p1, p2, p3, p4, p5, p6, p7, p8, p9, p10, p11, p12]
            exact nextN (x20, x21, x22, (wrap64 (x23 + 1)), x24, x25, x26) [] n3 (by omega) h (by simp only [W, p1, p2, p3, p4, p5, p6, p7, p8, p9, p10, p11, p12] <;> trivial) (by simp only [W, p1, p2, p3, p4, p5, p6, p7, p8, p9, p10, p11, p12] <;> trivial) rfl
        · try simp only [W, c27, c28, c29, c31, p1, p2, p3, p4, p5, p6, p7, p8, p9, p10, p11, p12]
          exact nextN (x20, x21, x22, (wrap64 (x23 + 1)), x24, x25, x26) [] n3 (by omega) h (by simp only [W, p1, p2, p3, p4, p5, p6, p7, p8, p9, p10, p11, p12] <;> trivial) (by simp only [W, p1, p2, p3, p4, p5, p6, p7, p8, p9, p10, p11, p12] <;> trivial) rfl
      · try simp only [W, c27, p1, p2, p3, p4, p5, p6, p7, p8, p9, p10, p11, p12]
        exact nextN (x20, x21, (wrap64 (x22 + 1)), x24, x25, x26) [] n3 (by omega) h (by simp only [W, p1, p2, p3, p4, p5, p6, p7, p8, p9, p10, p11, p12] <;> trivial) (by simp only [W, p1, p2, p3, p4, p5, p6, p7, p8, p9, p10, p11, p12] <;> trivial) rfl
    · cases h
      try simp only [W, c19, p1, p2, p3, p4, p5, p6, p7, p8, p9, p10, p11, p12]
theorem spec_Reached.ctr {k : Nat} {a0_0 : Int} {a0_1 : Int} {a0_2 : Int} {a1 : Int} {r : List Int} (h : spec_Reached.f k a0_0 a0_1 a0_2 a1 = some r) : Ctr Tryz.prog 163 [.ag [.v (.int .i64 a0_0), .v (.int .i64 a0_1), .v (.int .i64 a0_2)], .v (.int .i64 a1)] (.ow 3 1 (r.map eI)) := by
  refine Ctr_of tyOk hm Tryz.func163 rfl rfl (by kernel_rfl) (n := 31) (rv := [.tmp 4]) rfl rfl ?_
  simp only [W, List.replicate]
  unfold spec_Reached.f at h
  rw [Option.bind_some] at h
  replace h := bnd h; obtain ⟨t1, A, h⟩ := h
  try simp only [W, p1, p2, p3, p4, p5, p6, p7, p8, p9, p10, p11, p12]
  refine callR (spec_l04Has.ctr A) ?_
  replace h := ifT h; rcases h with ⟨rfl, h⟩ | ⟨rfl, h⟩
  · replace h := bnd h; obtain ⟨t3, A, h⟩ := h
    try simp only [W, p1, p2, p3, p4, p5, p6, p7, p8, p9, p10, p11, p12]
    refine callR (spec_l04Distances.ctr A) ?_
    try simp only [W, p1, p2, p3, p4, p5, p6, p7, p8, p9, p10, p11, p12]
    refine loopN (fun x : List Int × List Int × Int × Int × Int × Int => [.u, .u, .bp 32 0, .u, .u, .lo 128, .lo 256, .v (.int .i64 x.2.2.1), .u, .u, .u, .u, .u, .u, .u, .u, .u, .u, .u, .u, .u, .u, .u, .u, .u, .u, .u, .u, .u, .u, .u, .u, .u]) (fun x => [(32, .box 36 [.v (.int .i64 x.2.2.2.1), .v (.int .i64 x.2.2.2.2.1), .v (.int .i64 x.2.2.2.2.2)]), (128, .row 3 1 (List.map eI x.1)), (256, .row 3 1 (List.map eI x.2.1))]) (fun n x => spec_Reached.l0 n x.1 x.2.1 x.2.2.1 = some r) ((([] : List Int) : List Int), t3, 0, a0_0, a0_1, a0_2) [] h (by simp only [W, p1, p2, p3, p4, p5, p6, p7, p8, p9, p10, p11, p12] <;> trivial) (by simp only [W, p1, p2, p3, p4, p5, p6, p7, p8, p9, p10, p11, p12] <;> trivial) rfl (fun _ h => by cases h) ?_
    intro n1 ⟨x4, x5, x6, y7, y8, y9⟩ _ h
    simp only [spec_Reached.l0] at h
    replace h := ifS h; rcases h with ⟨c10, h⟩ | ⟨c10, h⟩
    · replace h := ifN h; obtain ⟨c11, h⟩ := h
      replace h := ifS h; rcases h with ⟨c12, h⟩ | ⟨c12, h⟩
      · replace h := ifN h; obtain ⟨c13, h⟩ := h
        try simp only [W, c10, c11, c12, c13, p1, p2, p3, p4, p5, p6, p7, p8, p9, p10, p11, p12]
        exact nextN ((x4 ++ [x6]), x5, (wrap64 (x6 + 1)), y7, y8, y9) [(128, 496)] n1 (by omega) h (by simp only [W, p1, p2, p3, p4, p5, p6, p7, p8, p9, p10, p11, p12] <;> trivial) (by simp only [W, p1, p2, p3, p4, p5, p6, p7, p8, p9, p10, p11, p12] <;> trivial) rfl
      · try simp only [W, c10, c11, c12, p1, p2, p3, p4, p5, p6, p7, p8, p9, p10, p11, p12]
        exact nextN (x4, x5, (wrap64 (x6 + 1)), y7, y8, y9) [] n1 (by omega) h (by simp only [W, p1, p2, p3, p4, p5, p6, p7, p8, p9, p10, p11, p12] <;> trivial) (by simp only [W, p1, p2, p3, p4, p5, p6, p7, p8, p9, p10, p11, p12] <;> trivial) rfl
    · cases h
      try simp only [W, c10, p1, p2, p3, p4, p5, p6, p7, p8, p9, p10, p11, p12]
  · cases h
    try simp only [W, p1, p2, p3, p4, p5, p6, p7, p8, p9, p10, p11, p12]
end Go.Proofs.YtdjdleldocfpaaaGreatDoor.F
end
