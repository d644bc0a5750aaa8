/- Packed by a program of the session (wip/tools/pack.py): what the claim's theorem reaches, of the texts that wip/ and the kit's printer lay. -/
import Derived.Test.YtdjdleldocfpaaaDoorPkFnCrowds3
import Derived.Maps.AppendAt
import Derived.Laws.CopyRow
import Derived.Lib.ItoaNum
import Derived.Lib.AtoiAll
import Derived.Lib.Split
import Derived.Laws.BytesArg
section
namespace Go.Proofs.YtdjdleldocfpaaaDoor.F
open Go.RowKit Go.Proofs.YtdjdleldocfpaaaDoorW.PrintWords Go.Proofs.YtdjdleldocfpaaaDoorW.PrintLast Go.Proofs.YtdjdleldocfpaaaDoorW.PrintMore
set_option linter.unusedVariables false
set_option linter.unusedSimpArgs false
theorem plain_one {v : Value} (h : plainV v = true) : v.oneCell' = true := by cases v <;> first | rfl | (simp [plainV] at h)
theorem plain_cells {v : Value} (h : plainV v = true) : v.cells = #[v] := by cases v <;> first | rfl | (simp [plainV] at h)
theorem frL_gT {j : Nat} : ∀ {t : List AV} (i : Nat), AV.frL j t = true → AV.fr j (gT t i) = true
  | [], i, _ => by simp [gT, AV.fr]
  | c :: cs, 0, h => by simp only [AV.frL, Bool.and_eq_true] at h; exact h.1
  | c :: cs, i + 1, h => by simp only [AV.frL, Bool.and_eq_true] at h; simp only [gT]; exact frL_gT i h.2
theorem fr_eT {j : Nat} {t : List AV} (h : AV.frL j t = true) (x : Operand) : AV.fr j (eT t x) = true := by
  cases x <;> simp only [eT, AV.fr]
  exact frL_gT _ h
theorem fr_cells {j : Nat} {x : AV} (h : AV.fr j x = true) : AV.frL j x.cells = true := by
  cases x <;> simp_all [AV.cells, AV.frL, AV.fr]
theorem frL_vs {j : Nat} : ∀ l : List Value, AV.frL j (vs l) = true
  | [] => rfl
  | x :: l => by simp [vs, AV.frL, AV.fr, frL_vs l]
theorem cells_list {B : Nat} {w : World} {φ : Nat → Value} : ∀ {c : List AV} {l : List Value}, cellsOk c = true → RepL B w φ c l → ∀ u ∈ l, plainV u = true
  | [], l, _, h => by simp only [RepL] at h; subst h; simp
  | x :: c, l, hc, h => by
    simp only [RepL] at h
    obtain ⟨y, ys, rfl, h1, h2⟩ := h
    have key : plainV y = true ∧ cellsOk c = true := by
      cases x with
      | v v => simp only [cellsOk, Bool.and_eq_true] at hc; simp only [Rep] at h1; subst h1; exact hc
      | lo i => simp only [cellsOk] at hc; simp only [Rep] at h1; exact ⟨h1.2, hc⟩
      | bp i o => simp only [cellsOk] at hc; simp only [Rep] at h1; obtain ⟨g, _, rfl⟩ := h1; exact ⟨rfl, hc⟩
      | pr z xs => simp only [cellsOk] at hc; simp only [Rep] at h1; obtain ⟨A, n, rfl, _⟩ := h1; exact ⟨rfl, hc⟩
      | _ => simp [cellsOk] at hc
    intro u hu
    rcases List.mem_cons.1 hu with rfl | hu
    · exact key.1
    · exact cells_list key.2 h2 u hu
theorem cells_ok {B : Nat} {w : World} {φ : Nat → Value} {x : AV} {y : Value} (hc : cellsOk x.cells = true) (h : Rep B w φ x y) : RepL B w φ x.cells y.cells.toList ∧ ∀ u ∈ y.cells.toList, plainV u = true := by
  have one : ∀ x : AV, cellsOk [x] = true → Rep B w φ x y → RepL B w φ [x] y.cells.toList ∧ ∀ u ∈ y.cells.toList, plainV u = true := fun x hc h => by
    have h1 : RepL B w φ [x] [y] := by simp only [RepL]; exact ⟨y, [], rfl, h, rfl⟩
    have h2 := cells_list hc h1
    have h3 : y.cells = #[y] := plain_cells (h2 y (by simp))
    rw [h3]
    exact ⟨h1, h2⟩
  cases x with
  | ag cs =>
    simp only [Rep] at h
    obtain ⟨l, rfl, h2⟩ := h
    simp only [AV.cells] at hc ⊢
    exact ⟨h2, cells_list hc h2⟩
  | _ => exact one _ hc h
theorem unv_eq {B : Nat} {w : World} {φ : Nat → Value} : ∀ {c : List AV} {l : List Value}, plainOk c = true → RepL B w φ c l → l = unv c
  | [], l, _, h => by simp only [RepL] at h; subst h; rfl
  | x :: c, l, hc, h => by
    simp only [RepL] at h
    obtain ⟨y, ys, rfl, h1, h2⟩ := h
    cases x with
    | v v =>
      simp only [plainOk, Bool.and_eq_true] at hc
      simp only [Rep] at h1
      subst h1
      rw [unv_eq hc.2 h2]
      rfl
    | _ => simp [plainOk] at hc
theorem plainOk_cells : ∀ {c : List AV}, plainOk c = true → cellsOk c = true
  | [], _ => rfl
  | x :: c, h => by
    cases x with
    | v v => simp only [plainOk, Bool.and_eq_true] at h; simp only [cellsOk, Bool.and_eq_true]; exact ⟨h.1, plainOk_cells h.2⟩
    | _ => simp [plainOk] at h
theorem RepL_put {B : Nat} {w : World} {φ : Nat → Value} : ∀ {off : Nat} {c cs : List AV} {k l : List Value}, RepL B w φ c k → RepL B w φ cs l → off + c.length ≤ cs.length → RepL B w φ (putA off c cs) (l.take off ++ k ++ l.drop (off + k.length))
  | off, [], cs, k, l, h1, h2, _ => by
    simp only [RepL] at h1; subst h1
    have : putA off [] cs = cs := by cases off <;> cases cs <;> rfl
    rw [this]; simpa using h2
  | off, c :: c', [], k, l, h1, h2, h => by simp at h
  | 0, c :: c', x :: cs, k, l, h1, h2, h => by
    simp only [RepL] at h1 h2
    obtain ⟨y, ys, rfl, h3, h4⟩ := h1
    obtain ⟨z, zs, rfl, h5, h6⟩ := h2
    have := RepL_put (off := 0) h4 h6 (by simp at h ⊢; omega)
    simp only [putA, RepL]
    refine ⟨y, _, ?_, h3, this⟩
    simp [Nat.add_comm]
  | off + 1, c :: c', x :: cs, k, l, h1, h2, h => by
    simp only [RepL] at h2
    obtain ⟨z, zs, rfl, h5, h6⟩ := h2
    have := RepL_put (off := off) h1 h6 (by simp at h ⊢; omega)
    simp only [putA, RepL]
    refine ⟨z, _, ?_, h5, this⟩
    simp [Nat.add_right_comm]
theorem fold_put : ∀ (l : List Value) (off k : Nat) (cs : Array Value), off + k + l.length ≤ cs.size → (l.zipIdx k).foldl (fun cs (p : Value × Nat) => cs.setIfInBounds (off + p.2) p.1) cs = (cs.toList.take (off + k) ++ l ++ cs.toList.drop (off + k + l.length)).toArray
  | [], off, k, cs, h => by simp
  | x :: l, off, k, cs, h => by
    simp only [List.zipIdx_cons, List.foldl_cons]
    rw [fold_put l off (k + 1) _ (by simp at h ⊢; omega)]
    simp only [List.length_cons] at h
    congr 1
    have hlt : off + k < cs.toList.length := by rw [Array.length_toList]; omega
    simp only [Array.toList_setIfInBounds]
    rw [show off + (k + 1) = off + k + 1 by omega, List.take_set, List.take_add_one, List.getElem?_eq_getElem hlt, List.set_append, if_neg (by rw [List.length_take]; omega)]
    rw [List.drop_set_of_lt (by omega), List.length_take, Nat.min_eq_left (by omega), Nat.sub_self]
    simp only [Option.toList_some, List.set_cons_zero, List.append_assoc, List.cons_append, List.nil_append, List.length_cons]
    rw [show off + k + 1 + l.length = off + k + (l.length + 1) by omega]
theorem nthL_eq : ∀ (l : List (Nat × Nat)) (f : Nat), nthL l f = l[f]?
  | [], f => by simp [nthL]
  | x :: l, 0 => rfl
  | x :: l, f + 1 => by simp only [nthL]; rw [nthL_eq l f]; rfl
theorem fill_bld {B : Nat} {w : World} {φ : Nat → Value} {t : List AV} {a : Act} (ev : ∀ x, Rep B w φ (eT t x) (a.eval x)) {pl : List (Nat × Nat)} : ∀ {ps : List (Nat × Operand)} {cs cs' : List AV} {l : List Value}, bldC pl t ps cs = some cs' → RepL B w φ cs l →
    ∃ l', Instr.fill (fun k => (List.toArray pl)[k]?) (List.toArray l) (ps.map fun p => (p.1, a.eval p.2)) = some (List.toArray l') ∧ RepL B w φ cs' l'
  | [], cs, cs', l, h, hl => by
    simp only [bldC, Option.some.injEq] at h
    subst h
    exact ⟨l, rfl, hl⟩
  | (f, x) :: ps, cs, cs', l, h, hl => by
    simp only [bldC] at h
    obtain ⟨c1, h1, h2⟩ := Option.bind_eq_some_iff.1 h
    unfold bldP at h1
    split at h1
    · rename_i o z e
      split at h1
      · rename_i hc
        obtain ⟨e1, e2, e3⟩ := hc
        obtain rfl := Option.some.inj h1
        obtain ⟨k1, _⟩ := cells_ok e3 (ev x)
        have hlen := RepL_len k1
        have hlen2 := RepL_len hl
        have hp := RepL_put (off := o) k1 hl e2
        obtain ⟨l', g1, g2⟩ := fill_bld ev h2 hp
        refine ⟨l', ?_, g2⟩
        rw [nthL_eq] at e
        simp only [List.map_cons, Instr.fill]
        simp only [List.getElem?_toArray, e]
        have hz : (a.eval x).cells.size = z := by rw [← Array.length_toList]; omega
        rw [if_neg (by simp [hz]; omega)]
        have hf := fold_put (a.eval x).cells.toList o 0 (List.toArray l) (by simp; omega)
        have hf' : (a.eval x).cells.zipIdx.foldl (fun cs (x : Value × Nat) => match x with | (c, j) => cs.setIfInBounds (o + j) c) (List.toArray l) = List.toArray (l.take o ++ (a.eval x).cells.toList ++ l.drop (o + (a.eval x).cells.toList.length)) := by
          rw [Nat.add_zero] at hf
          rw [← hf, ← Array.foldl_toList]
          simp
        rw [hf']
        simpa using g1
      · cases h1
    · cases h1
theorem run_places {P : Program} {w : World} : ∀ {l : List Field} {pl : List (Nat × Nat)}, l.map (fun fl => (fl.offset, (P.info? fl.type).map (·.size))) = pl.map (fun p => (p.1, some p.2)) →
    (l.mapM fun f => (do pure (f.offset, ← sizeOf f.type) : Sem (Nat × Nat))).run P w = .ok pl w
  | [], pl, h => by
    have : pl = [] := by simpa using h.symm
    subst this
    simp
  | fl :: l, [], h => by simp at h
  | fl :: l, p :: pl, h => by
    simp only [List.map_cons, List.cons.injEq, Prod.mk.injEq] at h
    obtain ⟨⟨h1, h2⟩, h3⟩ := h
    obtain ⟨i, e1, e2⟩ := Option.map_eq_some_iff.1 h2
    have ih := run_places (w := w) h3
    have hs : (sizeOf fl.type).run P w = .ok p.2 w := by simp [sizeOf, typeInfo, e1, e2]
    simp only [List.mapM_cons, Sem.run_bind, hs, Result.andThen_ok, Sem.run_pure, ih, h1]
section
variable {P : Program} {ty : TypeId → Option TI} {w0 : Bs} {t : List AV} {s : Sto} {φ : Nat → Value} {a : Act} {w : World} {o : Oper} {d : Option Nat} {K : Kt} {Q : Exit → Act → World → Prop}
theorem op_build {t2 : List AV} (T : TyOk P ty) (S : Sim w0 t s φ a w) {b : TypeId} {ps : List (Nat × Operand)} (ho : o.op = .build b ⟨ps⟩) (h : bldW (ty b) t ps d t2 s K) : ∃ y, K (pT t2 d y) s ∧ Ro P w0 φ a w o y := by
  cases ei : ty b with
  | none => rw [ei] at h; exact h.elim
  | some i =>
    rw [ei] at h
    obtain ⟨hg, hne, cs, h1, h2⟩ := h
    have Ti := T b i ei
    obtain ⟨f, f1, _, _, z, f2, f3, _⟩ := Ti.nf
    obtain ⟨l, hu, hpl⟩ := Ti.pl hg hne
    obtain ⟨l', g1, g2⟩ := fill_bld (a := a) (Sim_ev S) h1 (RepL_vs i.zero)
    refine ⟨_, h2, Ro_val (.agg (List.toArray l')) (by simp only [Rep]; exact ⟨_, rfl, g2⟩) fun w1 hb => ?_⟩
    have hmap : (List.toArray ps).map (fun x => match x with | (i, x) => (i, a.eval x)) = List.toArray (ps.map fun p => (p.1, a.eval p.2)) := by simp
    simp only [execOp, ho, hmap, Instr.build]
    simp only [Sem.run_bind, run_underlying hu, Result.andThen_ok]
    have hz : (zeroValue b).run P w1 = .ok z w1 := by simp [zeroValue, typeInfo, f1, f2]
    simp only [hz, Result.andThen_ok, List.mapM_toArray, Sem.run_bind, run_places hpl, map_eq_pure_bind, Sem.run_pure, f3]
    simp only [g1]
    simp
end
end Go.Proofs.YtdjdleldocfpaaaDoor.F
end

section
namespace Go.Proofs.YtdjdleldocfpaaaDoor.F
open Go.RowKit Go.Proofs.YtdjdleldocfpaaaDoorW.PrintWords Go.Proofs.YtdjdleldocfpaaaDoorW.PrintLast Go.Proofs.YtdjdleldocfpaaaDoorW.PrintMore
set_option linter.unusedVariables false
set_option linter.unusedSimpArgs false
theorem RowAt_own {w : World} {B sz : Nat} {e : TypeId} {v : Value} {xs : List (List Value)} (h : w.ownsRow B e sz v xs.length xs.flatten) (hs : rowOk sz xs) (h0 : 0 < sz) : RowAt w.heap.size w sz xs v := by
  rcases h.2 with ⟨rfl, hl⟩ | ⟨g, cap, cur, rfl, h1, h2, h3, h4, h5, h6⟩
  · refine ⟨none, 0, by rw [hl], by omega, by omega, h0, hs, fun hne => absurd (List.eq_nil_of_length_eq_zero hl) hne⟩
  · refine ⟨_, cap, rfl, h3, Nat.le_trans h3 (Nat.le_trans h4 (by decide)), h0, hs, fun hne => ⟨_, rfl, (Array.getElem?_eq_some_iff.1 h2).1, fun j u hu => ?_⟩⟩
    exact h.cells (g := g) rfl j u hu
theorem drop_flat {sz : Nat} : ∀ {xs : List (List Value)} (_ : ∀ x ∈ xs, x.length = sz) (k : Nat), (xs.drop k).flatten = xs.flatten.drop (k * sz)
  | xs, _, 0 => by simp
  | [], _, k + 1 => by simp
  | x :: xs, h, k + 1 => by
    have hx : x.length = sz := h x (by simp)
    rw [List.drop_succ_cons, drop_flat (fun y hy => h y (by simp [hy])) k, List.flatten_cons, List.drop_append, List.drop_of_length_le (l := x) (by rw [hx, Nat.add_mul]; omega), List.nil_append]
    congr 1; rw [hx, Nat.add_mul]; omega
theorem take_flat {sz : Nat} : ∀ {xs : List (List Value)} (_ : ∀ x ∈ xs, x.length = sz) (k : Nat), (xs.take k).flatten = xs.flatten.take (k * sz)
  | xs, _, 0 => by simp
  | [], _, k + 1 => by simp
  | x :: xs, h, k + 1 => by
    have hx : x.length = sz := h x (by simp)
    rw [List.take_succ_cons, List.flatten_cons, take_flat (fun y hy => h y (by simp [hy])) k, List.flatten_cons, List.take_append, List.take_of_length_le (l := x) (by rw [hx, Nat.add_mul]; omega)]
    congr 2; rw [hx, Nat.add_mul]; omega
theorem part_len {xs : List (List Value)} {lo hi : Nat} (h : hi ≤ xs.length) : ((xs.take hi).drop lo).length = hi - lo := by rw [List.length_drop, List.length_take]; omega
theorem RowAt_part {B : Nat} {w : World} {sz : Nat} {xs : List (List Value)} {A : Option Addr} {m c lo hi : Nat} (h : RowAt B w sz xs (.slice A m c)) (h1 : lo ≤ hi) (h2 : hi ≤ m) : RowAt B w sz ((xs.take hi).drop lo) (sliced A lo hi c sz) := by
  obtain ⟨A', c', e, h3, h4, h5, h6, h7⟩ := h
  obtain ⟨rfl, rfl, rfl⟩ : A = A' ∧ m = xs.length ∧ c = c' := by injection e with e1 e2 e3; exact ⟨e1, e2, e3⟩
  have hl := part_len (lo := lo) h2
  have hok : rowOk sz ((xs.take hi).drop lo) := fun x hx => h6 x (List.mem_of_mem_take (List.mem_of_mem_drop hx))
  have hall : ∀ x ∈ xs, x.length = sz := fun x hx => (h6 x hx).1
  refine ⟨if c = lo then A else A.map (·.add (lo * sz)), c - lo, by rw [hl]; rfl, by rw [hl]; omega, by rw [hl]; omega, h5, hok, fun hne => ?_⟩
  have hx : xs ≠ [] := by rintro rfl; simp at hne
  have hlt : lo < hi := by
    apply Classical.byContradiction
    intro hge
    exact hne (List.eq_nil_of_length_eq_zero (by rw [hl]; omega))
  obtain ⟨ad, rfl, h8, h9⟩ := h7 hx
  refine ⟨ad.add (lo * sz), ?_, ?_, fun j u hu => ?_⟩
  · rw [if_neg (by omega)]; rfl
  · have : (ad.add (lo * sz)).block = ad.block := by unfold Addr.add; split <;> rfl
    rw [this]; exact h8
  · rw [addr_add_add]
    refine h9 _ u ?_
    rw [drop_flat (fun x hx => hall x (List.mem_of_mem_take hx)), take_flat hall, List.getElem?_drop, List.getElem?_take] at hu
    split at hu
    · exact hu
    · cases hu
mutual
theorem toP_ok {w0 : Bs} {t : List AV} {s : Sto} {φ : Nat → Value} {a : Act} {w : World} (S : Sim w0 t s φ a w) : ∀ {x : AV} {y : Value}, Rep w0.heap.size w0 φ x y → Rep w.heap.size w (fun _ => undef) (toP s x) y
  | .u, _, _ => by simp [toP, Rep]
  | .v x, y, h => by
    simp only [Rep] at h
    subst h
    unfold toP
    split
    · simp only [Rep]
      exact ⟨none, 0, rfl, by simp, by simp, by decide, fun x hx => by simp at hx, by simp⟩
    · simp [Rep]
  | .ag cs, y, h => by
    simp only [Rep] at h
    obtain ⟨l, h1, h2⟩ := h
    simp only [toP, Rep]
    exact ⟨l, h1, toPL_ok S h2⟩
  | .tu _, _, _ => by simp [toP, Rep]
  | .pr z xs, y, h => by
    simp only [Rep] at h
    simp only [toP, Rep]
    obtain ⟨A, c, h1, h2, h3, h4, h5, h6⟩ := h
    refine ⟨A, c, h1, h2, h3, h4, h5, fun hne => ?_⟩
    obtain ⟨ad, h7, h8, h9⟩ := h6 hne
    refine ⟨ad, h7, Nat.lt_of_lt_of_le h8 S.below.size, fun j u hu => ?_⟩
    have : (ad.add j).block = ad.block := by unfold Addr.add; split <;> rfl
    rw [S.below.cell (by rw [this]; exact h8)]
    exact h9 j u hu
  | .ow _ _ _, _, _ => by simp [toP, Rep]
  | .lo id, y, h => by
    simp only [Rep] at h
    obtain ⟨rfl, _⟩ := h
    unfold toP
    split
    · rename_i e sz xs eb
      obtain ⟨b1, b2, b3⟩ := S.blk id _ eb
      simp only [Rep]
      exact RowAt_own b1 b2 b3
    · simp [Rep]
  | .bp _ _, _, _ => by simp [toP, Rep]
  | .pe _, _, _ => by simp [toP, Rep]
  | .le _ _ _ _, _, _ => by simp [toP, Rep]
  | .vw id z lo hi, y, h => by
    unfold toP tpV
    split
    · rename_i e sz xs eb
      split
      · rename_i ez
        subst ez
        obtain ⟨b1, b2, b3⟩ := S.blk id _ eb
        simp only [Rep] at h ⊢
        obtain ⟨A, m, c, h1, h2, h3, rfl⟩ := h
        have hr := RowAt_own b1 b2 b3
        rw [h1] at hr
        exact RowAt_part hr h2 h3
      · simp [Rep]
    · simp [Rep]
theorem toPL_ok {w0 : Bs} {t : List AV} {s : Sto} {φ : Nat → Value} {a : Act} {w : World} (S : Sim w0 t s φ a w) : ∀ {x : List AV} {y : List Value}, RepL w0.heap.size w0 φ x y → RepL w.heap.size w (fun _ => undef) (toPL s x) y
  | [], y, h => by simpa [toPL, RepL] using h
  | c :: cs, y, h => by
    simp only [RepL] at h
    obtain ⟨z, zs, h1, h2, h3⟩ := h
    simp only [toPL, RepL]
    exact ⟨z, zs, h1, toP_ok S h2, toPL_ok S h3⟩
end
section
variable {P : Program} {ty : TypeId → Option TI} {w0 : Bs} {t : List AV} {s : Sto} {φ : Nat → Value} {a : Act} {w : World} {o : Oper} {d : Option Nat} {K : Kt}
theorem mapE_ok (S : Sim w0 t s φ a w) : ∀ l : List Operand, RepL w0.heap.size w0 φ (mapE t l) (l.map a.eval)
  | [] => by simp [mapE, RepL]
  | x :: l => by
    simp only [mapE, List.map_cons, RepL]
    exact ⟨_, _, rfl, Sim_ev S x, mapE_ok S l⟩
theorem run_call {f : FuncId} {l : List Operand} {ats : Array TypeId} (he : ∀ xs w, (callFunc f xs).run P w = .ok (.enter f xs) w) (ho : o.op = .call ⟨.value (.func f), ⟨l⟩, ats⟩) (w1 : World) :
    (execOp a.eval o).run P w1 = .ok (.enter f (List.toArray (l.map a.eval))) w1 := by
  simp [execOp, ho, resolve, Deferred.ofValue, invoke, Act.eval, he]
mutual
theorem RepR_pln {B : Nat} {w : World} : ∀ {r : AV} {y : Value} {L : List Nat}, pln r = true → RepR B w r y L → y = vlu r ∧ L = []
  | .v x, y, L, _, h => by simpa [RepR, vlu] using h
  | .ag cs, y, L, hp, h => by
    simp only [RepR] at h
    simp only [pln] at hp
    obtain ⟨l, rfl, h⟩ := h
    obtain ⟨rfl, rfl⟩ := RepRL_pln hp h
    exact ⟨by simp [vlu], rfl⟩
  | .tu cs, y, L, hp, h => by
    simp only [RepR] at h
    simp only [pln] at hp
    obtain ⟨l, rfl, h⟩ := h
    obtain ⟨rfl, rfl⟩ := RepRL_pln hp h
    exact ⟨by simp [vlu], rfl⟩
  | .u, _, _, hp, _ => by simp [pln] at hp
  | .pr _ _, _, _, hp, _ => by simp [pln] at hp
  | .ow _ _ _, _, _, hp, _ => by simp [pln] at hp
  | .lo _, _, _, hp, _ => by simp [pln] at hp
  | .bp _ _, _, _, hp, _ => by simp [pln] at hp
  | .pe _, _, _, hp, _ => by simp [pln] at hp
  | .le _ _ _ _, _, _, hp, _ => by simp [pln] at hp
  | .vw _ _ _ _, _, _, hp, _ => by simp [pln] at hp
theorem RepRL_pln {B : Nat} {w : World} : ∀ {r : List AV} {y : List Value} {L : List Nat}, plnL r = true → RepRL B w r y L → y = vluL r ∧ L = []
  | [], y, L, _, h => by simpa [RepRL, vluL] using h
  | c :: cs, y, L, hp, h => by
    simp only [RepRL] at h
    simp only [plnL, Bool.and_eq_true] at hp
    obtain ⟨z, zs, L1, L2, rfl, rfl, h1, h2⟩ := h
    obtain ⟨rfl, rfl⟩ := RepR_pln hp.1 h1
    obtain ⟨rfl, rfl⟩ := RepRL_pln hp.2 h2
    exact ⟨by simp [vluL], rfl⟩
end
theorem rdS_ok (S : Sim w0 t s φ a w) {x : AV} {y : Value} {sz : Nat} {ys : List (List Value)} (h0 : 0 < sz) (hx : Rep w0.heap.size w0 φ x y) (h : rdS sz x s = some ys) : ∃ A c, y = .slice A ys.length c ∧ rowOk sz ys ∧ (ys ≠ [] → ∃ ad, A = some ad ∧ ∀ j u, ys.flatten[j]? = some u → w.cell? (ad.add j) = some u) := by
  cases x with
  | pr z xs =>
    simp only [rdS] at h
    split at h
    · rename_i e
      obtain rfl := Option.some.inj h
      subst e
      simp only [Rep] at hx
      obtain ⟨A, c, h1, h2, h3, h4, h5, h6⟩ := hx
      refine ⟨A, c, h1, h5, fun hne => ?_⟩
      obtain ⟨ad, h7, h8, h9⟩ := h6 hne
      refine ⟨ad, h7, fun j u hu => ?_⟩
      have : (ad.add j).block = ad.block := by unfold Addr.add; split <;> rfl
      rw [S.below.cell (by rw [this]; exact h8)]
      exact h9 j u hu
    · cases h
  | lo id =>
    simp only [rdS] at h
    cases eb : gS s id with
    | none => rw [eb] at h; simp [rdB] at h
    | some bl =>
      cases bl with
      | box tb cs => rw [eb] at h; simp [rdB] at h
      | row e z xs =>
        rw [eb] at h
        simp only [rdB] at h
        split at h
        · rename_i ez
          obtain rfl := Option.some.inj h
          subst ez
          obtain ⟨b1, b2, b3⟩ := S.blk id _ eb
          simp only [Rep] at hx
          rw [hx.1]
          obtain ⟨A, c, h1, h2, h3, h4, h5, h6⟩ := RowAt_own b1 b2 b3
          refine ⟨A, c, h1, h5, fun hne => ?_⟩
          obtain ⟨ad, h7, h8, h9⟩ := h6 hne
          exact ⟨ad, h7, h9⟩
        · cases h
  | vw id z lo hi =>
    simp only [rdS] at h
    split at h
    · rename_i ez0
      obtain ⟨xs, hr, rfl⟩ := Option.map_eq_some_iff.1 h
      cases eb : gS s id with
      | none => rw [eb] at hr; simp [rdB] at hr
      | some bl =>
        cases bl with
        | box tb cs => rw [eb] at hr; simp [rdB] at hr
        | row e z' zs =>
          rw [eb] at hr
          simp only [rdB] at hr
          split at hr
          · rename_i ez
            obtain rfl := Option.some.inj hr
            subst ez
            subst ez0
            obtain ⟨b1, b2, b3⟩ := S.blk id _ eb
            simp only [Rep] at hx
            obtain ⟨A, m, c, v1, v2, v3, rfl⟩ := hx
            have hrow := RowAt_own b1 b2 b3
            rw [v1] at hrow
            obtain ⟨A', c', h1, h2, h3, h4, h5, h6⟩ := RowAt_part hrow v2 v3
            refine ⟨A', c', h1, h5, fun hne => ?_⟩
            obtain ⟨ad, h7, h8, h9⟩ := h6 hne
            exact ⟨ad, h7, h9⟩
          · cases hr
    · cases h
  | v u =>
    simp only [Rep] at hx
    unfold rdS at h
    split at h
    · rename_i e; cases e
    · rename_i e; cases e
    · rename_i e; cases e
    · rename_i e
      injection e with e
      subst e
      obtain rfl := Option.some.inj h
      exact ⟨none, 0, hx, fun x hx => by simp at hx, fun hne => absurd rfl hne⟩
    · cases h
  | _ => simp [rdS] at h
theorem cell_lt {w : World} {ad : Addr} {u : Value} (h : w.cell? ad = some u) : ad.block < w.heap.size := by
  unfold World.cell? at h
  cases hb : w.heap[ad.block]? with
  | none => rw [hb] at h; cases h
  | some b => exact (Array.getElem?_eq_some_iff.1 hb).1
theorem bys_flat : ∀ {xs : List (List Value)} {ns : List Int}, bys xs = some ns → xs.flatten = ns.map (Value.int .u8) ∧ xs.length = ns.length
  | [], ns, h => by simp only [bys, Option.some.injEq] at h; subst h; exact ⟨rfl, rfl⟩
  | x :: xs, ns, h => by
    unfold bys at h
    split at h
    · rename_i e; cases e
    · rename_i n l e
      injection e with e1 e2
      subst e1; subst e2
      obtain ⟨ms, h1, rfl⟩ := Option.map_eq_some_iff.1 h
      obtain ⟨h2, h3⟩ := bys_flat h1
      exact ⟨by simp [h2], by simp [h3]⟩
    · cases h
theorem u8Z_eq {z : List Value} (h : u8Z z = true) : z = [.int .u8 0] := by
  unfold u8Z at h
  split at h
  · rfl
  · cases h
theorem ro_cnvS {t2 : List AV} (T : TyOk P ty) (S : Sim w0 t s φ a w) {b c : TypeId} {i j : TI} (e1 : ty b = some i) (e2 : ty c = some j) {x : Operand} (ho : o.op = .convert b c x) (h : cnvS ty i j (eT t x) d t2 s K) : ∃ y, K (pT t2 d y) s ∧ Ro P w0 φ a w o y := by
  have hx := Sim_ev S x
  obtain ⟨h1, ⟨e, h2, h3⟩, ns, h4, hK⟩ := h
  obtain ⟨ys, h5, h6⟩ := Option.bind_eq_some_iff.1 h4
  obtain ⟨h7, h8⟩ := bys_flat h6
  obtain ⟨A, cp, g1, g2, g3⟩ := rdS_ok S (by decide) hx h5
  have hd := (T _ _ e2).st h1
  have hs := (T _ _ e1).el e h2
  have he : P.underlying i.el = some (.int .u8) := (T _ _ h2).it _ (by rw [u8Z_eq h3]; rfl)
  refine ⟨_, hK, Ro_val (.string (strOfNums ns)) (by simp [Rep]) fun w1 hb => ?_⟩
  simp only [execOp, ho, g1]
  rw [Sem.run_bind, run_convert_bytes_string w1 b c i.el A ys.length cp hs he hd]
  cases A with
  | none =>
    have hys : ys = [] := by
      apply Classical.byContradiction
      intro hne
      obtain ⟨ad, e, _⟩ := g3 hne
      cases e
    subst hys
    obtain rfl : ns = [] := List.eq_nil_of_length_eq_zero h8.symm
    rfl
  | some ad =>
    have hl : (loadCells ad ys.length).run P w1 = .ok (ns.map (Value.int .u8)).toArray w1 := by
      have := run_loadCells_list (P := P) w1 ad (ns.map (Value.int .u8)) (fun m v hm => by
        by_cases hne : ys = []
        · subst hne
          obtain rfl : ns = [] := List.eq_nil_of_length_eq_zero h8.symm
          simp at hm
        · obtain ⟨ad', q1, q2⟩ := g3 hne
          obtain rfl := Option.some.inj q1
          have q3 := q2 m v (by rw [h7]; exact hm)
          exact (hb.cell (cell_lt q3)).trans q3)
      simpa [h8] using this
    rw [run_bytesToString w1 ad ys.length cp ns hl, foldl_push_bytes]
    simp [strOfNums, ByteArray.empty, ByteArray.emptyWithCapacity]
    rfl
theorem ro_cnv {t2 : List AV} (T : TyOk P ty) (S : Sim w0 t s φ a w) {b c : TypeId} {x : Operand} (ho : o.op = .convert b c x) (h : cnvW ty (ty b) (ty c) (eT t x) d t2 s K) : ∃ y, K (pT t2 d y) s ∧ Ro P w0 φ a w o y := by
  have hx := Sim_ev S x
  unfold cnvW at h
  split at h
  · rename_i i j k n e1 e2 e3
    obtain ⟨k', h1, h2⟩ := h
    rw [e3] at hx
    simp only [Rep] at hx
    have hd := (T _ _ e2).it k' h1
    have hs : ∃ ds, P.underlying b = some ds := by
      rcases (T _ _ e1).agg with ⟨_, fs, q, _⟩ | ⟨_, _, _, q, q2, _⟩ | ⟨_, _, _, _, q, _⟩
      · exact ⟨_, q⟩
      · exact ⟨_, q2⟩
      · exact ⟨_, q⟩
    obtain ⟨ds, hs⟩ := hs
    refine ⟨_, h2, Ro_val (.int k' (wr k' n)) (by simp [Rep]) fun w1 hb => ?_⟩
    rw [← wr_eq]
    simp only [execOp, ho, hx]
    cases ds <;> simp [convert, run_underlying hs, run_underlying hd, Conv.intToInt]
  · rename_i e1 e2 _; exact ro_cnvS T S e1 e2 ho h
  · exact h.elim
theorem run_slc {b e : TypeId} {j : TI} (hu : P.underlying b = some (.slice e)) (hj : TIok P ty e j) {x : Operand} {lo hi : Option Operand} {vlo vhi : Option AV} (ho : o.op = .slice b x lo hi none) {A : Option Addr} {len cap : Nat} (hx : a.eval x = .slice A len cap) (hc : len ≤ cap) {l h : Int}
    (el : loN vlo = some l) (eh : hiN len vhi = some h) (rl : ∀ y, lo = some y → ∃ n k, vlo = some (.v (.int k n)) ∧ a.eval y = .int k n) (rh : ∀ y, hi = some y → ∃ n k, vhi = some (.v (.int k n)) ∧ a.eval y = .int k n) (nl : lo = none → vlo = none) (nh : hi = none → vhi = none)
    (h0 : 0 ≤ l) (h1 : l ≤ h) (h2 : h ≤ (len : Int)) (w1 : World) : (execOp a.eval o).run P w1 = .ok (.value (sliced A l.toNat h.toNat cap j.size)) w1 := by
  have hel : P.elem b = e := by simp [Program.elem, hu]
  have hu' : P.underlying b = some (.slice (P.elem b)) := by rw [hel]; exact hu
  have hs := run_size hj w1
  cases lo with
  | none =>
    have := nl rfl
    subst this
    obtain rfl : (0 : Int) = l := by simpa [loN] using el
    cases hi with
    | none =>
      have := nh rfl
      subst this
      obtain rfl : (len : Int) = h := by simpa [hiN] using eh
      have := run_slice_all (P := P) w1 b A len cap hu'
      rw [hel, hs] at this
      simp [execOp, ho, hx, run_sliceAt_slice (P := P) w1 b _ _ _ _ hu', this, Result.andThen]
    | some y =>
      obtain ⟨n, k, rfl, e⟩ := rh y rfl
      obtain rfl : n = h := by simpa [hiN] using eh
      have := run_slice_h (P := P) w1 b A len cap hu' k n (by omega) (by omega)
      rw [hel, hs] at this
      simp [execOp, ho, hx, e, run_sliceAt_slice (P := P) w1 b _ _ _ _ hu', this, Result.andThen]
  | some z =>
    obtain ⟨m, q, rfl, e0⟩ := rl z rfl
    obtain rfl : m = l := by simpa [loN] using el
    cases hi with
    | none =>
      have := nh rfl
      subst this
      obtain rfl : (len : Int) = h := by simpa [hiN] using eh
      have := run_slice_l (P := P) w1 b A len cap hu' q m (by omega) (by omega)
      rw [hel, hs] at this
      simp [execOp, ho, hx, e0, run_sliceAt_slice (P := P) w1 b _ _ _ _ hu', this, Result.andThen]
    | some y =>
      obtain ⟨n, k, rfl, e⟩ := rh y rfl
      obtain rfl : n = h := by simpa [hiN] using eh
      have := run_slice_lh (P := P) w1 b A len cap hu' q k m n (by omega) (by omega) (by omega)
      rw [hel, hs] at this
      simp [execOp, ho, hx, e0, e, run_sliceAt_slice (P := P) w1 b _ _ _ _ hu', this, Result.andThen]
theorem run_slcS {b : TypeId} (hu : P.underlying b = some .string) {x : Operand} {lo hi : Option Operand} {vlo vhi : Option AV} (ho : o.op = .slice b x lo hi none) {m : ByteArray} (hx : a.eval x = .string m) {l h : Int}
    (el : loN vlo = some l) (eh : hiN m.size vhi = some h) (rl : ∀ y, lo = some y → ∃ n k, vlo = some (.v (.int k n)) ∧ a.eval y = .int k n) (rh : ∀ y, hi = some y → ∃ n k, vhi = some (.v (.int k n)) ∧ a.eval y = .int k n) (nl : lo = none → vlo = none) (nh : hi = none → vhi = none)
    (h0 : 0 ≤ l) (h1 : l ≤ h) (h2 : h ≤ (m.size : Int)) (w1 : World) : (execOp a.eval o).run P w1 = .ok (.value (.string (m.extract l.toNat h.toNat))) w1 := by
  obtain ⟨p, rfl⟩ : ∃ p : Nat, l = (p : Int) := ⟨l.toNat, by omega⟩
  obtain ⟨q, rfl⟩ : ∃ q : Nat, h = (q : Int) := ⟨h.toNat, by omega⟩
  have k1 : p ≤ q := by omega
  have k2 : q ≤ m.size := by omega
  have k3 : p ≤ m.size := by omega
  cases lo with
  | none =>
    have := nl rfl
    subst this
    obtain rfl : 0 = p := by have : (0 : Int) = p := by simpa [loN] using el
                             omega
    cases hi with
    | none =>
      have := nh rfl
      subst this
      obtain rfl : m.size = q := by have : (m.size : Int) = q := by simpa [hiN] using eh
                                    omega
      simp [execOp, ho, hx, Instr.sliceAt, Instr.slice, Instr.sliceBounds, Instr.sliceBound, run_underlying hu]
    | some y =>
      obtain ⟨n, k, rfl, e⟩ := rh y rfl
      obtain rfl : n = (q : Int) := by simpa [hiN] using eh
      simp [execOp, ho, hx, e, Instr.sliceAt, Instr.slice, Instr.sliceBounds, Instr.sliceBound, asIntOf, run_underlying hu, k2]
  | some z =>
    obtain ⟨mm, kk, rfl, e0⟩ := rl z rfl
    obtain rfl : mm = (p : Int) := by simpa [loN] using el
    cases hi with
    | none =>
      have := nh rfl
      subst this
      obtain rfl : m.size = q := by have : (m.size : Int) = q := by simpa [hiN] using eh
                                    omega
      simp [execOp, ho, hx, e0, Instr.sliceAt, Instr.slice, Instr.sliceBounds, Instr.sliceBound, asIntOf, run_underlying hu, k1]
    | some y =>
      obtain ⟨n, k, rfl, e⟩ := rh y rfl
      obtain rfl : n = (q : Int) := by simpa [hiN] using eh
      simp [execOp, ho, hx, e0, e, Instr.sliceAt, Instr.slice, Instr.sliceBounds, Instr.sliceBound, asIntOf, run_underlying hu, k1, k2]
theorem opt_int (S : Sim w0 t s φ a w) {lo : Option Operand} (hs : ∀ v, lo.map (eT t) = some v → ∃ n k, v = .v (.int k n)) : (∀ y, lo = some y → ∃ n k, lo.map (eT t) = some (.v (.int k n)) ∧ a.eval y = .int k n) ∧ (lo = none → lo.map (eT t) = none) := by
  refine ⟨fun y hy => ?_, fun hy => by rw [hy]; rfl⟩
  subst hy
  obtain ⟨n, k, e⟩ := hs _ rfl
  have := Sim_ev S y
  rw [e] at this
  simp only [Rep] at this
  exact ⟨n, k, by simp [e], this⟩
theorem loN_int {lo : Option AV} {l : Int} (h : loN lo = some l) : ∀ v, lo = some v → ∃ n k, v = .v (.int k n) := fun v e => by
  subst e
  unfold loN at h
  split at h
  · rename_i e; cases e
  · rename_i e; injection e with e; exact ⟨_, _, e⟩
  · cases h
theorem hiN_int {len : Nat} {lo : Option AV} {l : Int} (h : hiN len lo = some l) : ∀ v, lo = some v → ∃ n k, v = .v (.int k n) := fun v e => by
  subst e
  unfold hiN at h
  split at h
  · rename_i e; cases e
  · rename_i e; injection e with e; exact ⟨_, _, e⟩
  · cases h
theorem ro_slc {t2 : List AV} (T : TyOk P ty) (S : Sim w0 t s φ a w) {b : TypeId} {x : Operand} {lo hi : Option Operand} (ho : o.op = .slice b x lo hi none) (h : slcW ty (ty b) (eT t x) (lo.map (eT t)) (hi.map (eT t)) d t2 s K) : ∃ y, K (pT t2 d y) s ∧ Ro P w0 φ a w o y := by
  have hx := Sim_ev S x
  cases ei : ty b with
  | none => rw [ei] at h; simp [slcW] at h
  | some i =>
    rw [ei] at h
    cases ex : eT t x with
    | pr z xs =>
      rw [ex] at h hx
      simp only [slcW] at h
      obtain ⟨j, ej, h⟩ := h
      have hu := (T b i ei).el j ej
      cases el : loN (lo.map (eT t)) with
      | none => rw [el] at h; simp [slcP] at h
      | some l =>
        rw [el] at h
        simp only [slcP] at h
        obtain ⟨hh, eh, hz, h0, h1, h2, hK⟩ := h
        simp only [Rep] at hx
        obtain ⟨A, c, e1, e2, e3⟩ := id hx
        obtain ⟨r1, r2⟩ := opt_int S (loN_int el)
        obtain ⟨r3, r4⟩ := opt_int S (hiN_int eh)
        refine ⟨_, hK, Ro_val (sliced A l.toNat hh.toNat c j.size) ?_ fun w1 hb => run_slc hu (T _ j ej) ho e1 e2 el eh r1 r3 r2 r4 h0 h1 h2 w1⟩
        simp only [Rep]
        rw [hz]
        rw [e1] at hx
        exact RowAt_part hx (by omega) (by omega)
    | lo id =>
      rw [ex] at h hx
      simp only [slcW] at h
      obtain ⟨j, ej, h⟩ := h
      have hu := (T b i ei).el j ej
      cases eb : gS s id with
      | none => rw [eb] at h; simp [slcR] at h
      | some bl =>
        cases bl with
        | box tb cs => rw [eb] at h; simp [slcR] at h
        | row e sz xs =>
          rw [eb] at h
          cases el : loN (lo.map (eT t)) with
          | none => rw [el] at h; simp [slcR] at h
          | some l =>
            rw [el] at h
            simp only [slcR] at h
            obtain ⟨hh, eh, hz, h0, h1, h2, hK⟩ := h
            simp only [Rep] at hx
            obtain ⟨b1, b2, b3⟩ := S.blk id _ eb
            obtain ⟨A, c, e1, e2, e3, e4⟩ := RowAt_own b1 b2 b3
            obtain ⟨r1, r2⟩ := opt_int S (loN_int el)
            obtain ⟨r3, r4⟩ := opt_int S (hiN_int eh)
            refine ⟨_, hK, Ro_val (sliced A l.toNat hh.toNat c j.size) ?_ fun w1 hb => run_slc hu (T _ j ej) ho (hx.1.trans e1) e2 el eh r1 r3 r2 r4 h0 h1 h2 w1⟩
            simp only [Rep]
            exact ⟨A, _, c, e1, by omega, by omega, by rw [hz]⟩
    | v y =>
      rw [ex] at h hx
      unfold slcW at h
      split at h
      · rename_i e; cases e
      · rename_i e; cases e
      · rename_i m e' e
        obtain rfl := Option.some.inj e'
        injection e with e
        subst e
        simp only [Rep] at hx
        obtain ⟨hz, h⟩ := h
        have hu := (T b _ ei).st hz
        cases el : loN (lo.map (eT t)) with
        | none => rw [el] at h; simp [slcS] at h
        | some l =>
          rw [el] at h
          simp only [slcS] at h
          obtain ⟨hh, eh, h0, h1, h2, hK⟩ := h
          obtain ⟨r1, r2⟩ := opt_int S (loN_int el)
          obtain ⟨r3, r4⟩ := opt_int S (hiN_int eh)
          exact ⟨_, hK, Ro_val _ (by simp [Rep]) fun w1 hb => run_slcS hu ho hx el eh r1 r3 r2 r4 h0 h1 h2 w1⟩
      · exact h.elim
    | _ => rw [ex] at h; simp [slcW] at h
theorem opX_ro (T : TyOk P ty) (S : Sim w0 t s φ a w) {q : Bool} (hr : ro o.op = true) (h : opX P ty q o.op o.type o.dst t s K) : ∃ y, K (pT t o.dst y) s ∧ Ro P w0 φ a w o y := by
  cases ho : o.op with
  | move x => rw [ho] at h; exact ro_move S (.inl ho) h
  | assign x =>
    rw [ho] at h hr
    refine ro_move S (.inr ho) ?_
    cases x with
    | const v =>
      cases v with
      | slice A n c => simp [ro] at hr
      | _ => simpa [opX] using h
    | _ => simpa [opX] using h
  | pick c x y => rw [ho] at h; exact ro_pick S ho h
  | load b x => rw [ho] at h; exact ro_load T S ho h
  | fieldAddr b x f => rw [ho] at h; exact ro_fa T S ho h
  | indexAddr b x i => rw [ho] at h; exact ro_idx T S ho h
  | binOp op b x y c => rw [ho] at h; exact ro_bin T S ho h
  | unOp op b x =>
    rw [ho] at h
    cases op with
    | not => exact ro_not S ho h
    | neg => exact ro_neg S ho h
    | _ => exact h.elim
  | extract x n => rw [ho] at h; exact ro_ext S ho h
  | index b x i => rw [ho] at h; exact ro_idxS T S ho h
  | convert b c x => rw [ho] at h; exact ro_cnv T S ho h
  | build b ps =>
    rw [ho] at h
    obtain ⟨ps⟩ := ps
    exact op_build T S ho h
  | nilCheck x => rw [ho] at h; exact ro_chk S ho h
  | slice b x lo hi mx =>
    cases mx with
    | some m => rw [ho] at hr; simp [ro] at hr
    | none => rw [ho] at h; exact ro_slc T S ho h
  | call c =>
    rw [ho] at h
    obtain ⟨callee, ⟨args⟩, ⟨ats⟩⟩ := c
    simp only [opX] at h
    cases callee with
    | value f => rw [ho] at hr; simp [ro] at hr
    | invoke r m => simp [cW] at h
    | builtin b =>
      rw [ho] at hr
      cases b <;> first | (simp [ro] at hr; done) | skip
      · match args, ats, h, ho with
        | [x], [b], h, ho => exact ro_len T S ho h.1 h.2
        | [], _, h, _ => simp [cW] at h
        | [_], [], h, _ => simp [cW] at h
        | [_], _ :: _ :: _, h, _ => simp [cW] at h
        | _ :: _ :: _, _, h, _ => simp [cW] at h
      · match args, h, ho with
        | [x, y], h, ho => exact ro_mm (mi := false) S ho h
        | [], h, _ => simp [cW] at h
        | [_], h, _ => simp [cW] at h
        | _ :: _ :: _ :: _, h, _ => simp [cW] at h
      · match args, h, ho with
        | [x, y], h, ho => exact ro_mm (mi := true) S ho h
        | [], h, _ => simp [cW] at h
        | [_], h, _ => simp [cW] at h
        | _ :: _ :: _ :: _, h, _ => simp [cW] at h
  | _ => rw [ho] at hr; simp [ro] at hr
end
end Go.Proofs.YtdjdleldocfpaaaDoor.F
end

section
namespace Go.Proofs.YtdjdleldocfpaaaDoor.F
open Go.RowKit Go.Proofs.YtdjdleldocfpaaaDoorW.PrintWords Go.Proofs.YtdjdleldocfpaaaDoorW.PrintLast Go.Proofs.YtdjdleldocfpaaaDoorW.PrintMore
set_option linter.unusedVariables false
set_option linter.unusedSimpArgs false
theorem BlkOk_frD {B : Nat} {w0 : World} {φ ψ : Nat → Value} {w : World} {id : Nat} {D : Nat → Prop} {b : Blk} (hψ : ∀ i, ¬ D i → ψ i = φ i) (hj : ¬ D id) (hf : ∀ j, D j → b.fr j = true) (h : BlkOk B w0 φ w id b) : BlkOk B w0 ψ w id b := by
  cases b with
  | box t cs =>
    obtain ⟨g, c, h1, h2, h3, h4⟩ := h
    exact ⟨g, c, by rw [hψ id hj]; exact h1, h2, h3, RepL_frD hψ (fun j hd => by simpa [Blk.fr] using hf j hd) h4⟩
  | row e sz xs =>
    show _ ∧ _
    rw [hψ id hj]
    exact h
def AIn (A : Nat → Prop) (x : AV) : Prop := ∀ j, ¬ A j → AV.fr j x = true
def LIn (A : Nat → Prop) (l : List AV) : Prop := ∀ j, ¬ A j → AV.frL j l = true
def BIn (A : Nat → Prop) (b : Blk) : Prop := ∀ j, ¬ A j → b.fr j = true
structure Fr (A : Nat → Prop) (s s1 : Sto) : Prop where
  eq : ∀ id, A id → gS s1 id = gS s id
  cl : ∀ id b, A id → gS s id = some b → BIn A b
section
variable {P : Program} {ty : TypeId → Option TI} {w0 : Bs} {t : List AV} {s : Sto} {φ : Nat → Value} {a : Act} {w : World} {o : Oper} {d : Option Nat} {K : Kt} {Q : Exit → Act → World → Prop}
def Nx (w0 : Bs) (K : Kt) (a : Act) (w : World) : Prop := ∃ φ t s, K t s ∧ Sim w0 t s φ a w
theorem wp_val {K' : Act → World → Prop} {v : Value} {w1 : World} (h : (execOp a.eval o).run P w = .ok (.value v) w1) (hn : K' (a.put o.dst v) w1) : o.wp P a w K' Q := by
  unfold Oper.wp; rw [h]; exact hn
theorem wp_skip' {K' : Act → World → Prop} {w1 : World} (h : (execOp a.eval o).run P w = .ok .skip w1) (hn : K' (a.put o.dst undef) w1) : o.wp P a w K' Q := by
  unfold Oper.wp; rw [h]; exact hn
def NxA (w0 : World) (φ : Nat → Value) (a : Act) (w : World) (d : Option Nat) (y : AV) (r : Sto) (a' : Act) (w' : World) : Prop :=
  ∃ v ψ, a' = a.put d v ∧ Below w.heap.size w w' ∧ Rep w0.heap.size w0 ψ y v ∧ (∀ i, gS r i = none → ψ i = φ i) ∧ (∀ i b, gS r i = some b → BlkOk w0.heap.size w0 ψ w' i b ∧ ∀ k, bk (ψ i) = some k → w.heap.size ≤ k) ∧
    ∀ i j b c, gS r i = some b → gS r j = some c → i ≠ j → bk (ψ i) = none ∨ bk (ψ i) ≠ bk (ψ j)
theorem RepL_forget {B : Nat} {w : World} : ∀ {t : List AV} {l : List Value} (d : Nat), RepL B w φ t l → RepL B w φ (sT t d .u) l
  | [], l, d, h => by simpa [sT] using h
  | x :: t, l, 0, h => by
    simp only [RepL] at h
    simp only [sT, RepL]
    obtain ⟨y, ys, rfl, _, h2⟩ := h
    exact ⟨y, ys, rfl, by simp [Rep], h2⟩
  | x :: t, l, d + 1, h => by
    simp only [RepL] at h
    simp only [sT, RepL]
    obtain ⟨y, ys, rfl, h1, h2⟩ := h
    exact ⟨y, ys, rfl, h1, RepL_forget d h2⟩
theorem Sim_forget (S : Sim w0 t s φ a w) (d : Nat) : Sim w0 (sT t d .u) s φ a w := { S with tmp := RepL_forget d S.tmp }
theorem sT_sT : ∀ (t : List AV) (d : Nat) (x y : AV), sT (sT t d x) d y = sT t d y
  | [], d, x, y => rfl
  | z :: t, 0, x, y => rfl
  | z :: t, d + 1, x, y => by simp only [sT, sT_sT t d x y]
theorem pT_pT (t : List AV) (d : Option Nat) (x y : AV) : pT (pT t d x) d y = pT t d y := by cases d <;> simp only [pT, sT_sT]
theorem Sim_forgetO (S : Sim w0 t s φ a w) (d : Option Nat) : Sim w0 (pT t d .u) s φ a w := by
  cases d with
  | none => exact S
  | some d => exact Sim_forget S d
theorem merge2 {w' : World} (S : Sim w0 t s φ a w') {nb : Nat} (hlt : ∀ i b k, gS s i = some b → bk (φ i) = some k → k < nb) (hnb : w0.ws.heap.size ≤ nb) {d : Option Nat} {y : AV} {r s' : Sto} {v : Value} {ψ : Nat → Value} (hy : Rep w0.heap.size w0 ψ y v) (hφ : ∀ i, gS r i = none → ψ i = φ i)
    (hr : ∀ i b, gS r i = some b → BlkOk w0.heap.size w0 ψ w' i b ∧ ∀ k, bk (ψ i) = some k → nb ≤ k) (hap : ∀ i j b c, gS r i = some b → gS r j = some c → i ≠ j → bk (ψ i) = none ∨ bk (ψ i) ≠ bk (ψ j))
    (hf : ∀ i b, gS r i = some b → AV.frL i (pT t d .u) = true ∧ ∀ j c, gS s j = some c → gS r j = none → c.fr i = true) (h15 : ∀ i b, gS r i = some b → i % 16 ≠ 15) (hs : ∀ i, gS s' i = (gS r i).or (gS s i)) : Sim w0 (pT t d y) s' ψ (a.put d v) w' := by
  have S1 := Sim_forgetO S d
  have e1 : ∀ i, ¬ (∃ b, gS r i = some b) → ψ i = φ i := fun i hi => hφ i (by
    cases e : gS r i with
    | none => rfl
    | some b => exact absurd ⟨b, e⟩ hi)
  have cls : ∀ i b, gS s' i = some b → (gS r i = some b) ∨ (gS r i = none ∧ gS s i = some b ∧ ψ i = φ i) := fun i b h => by
    rw [hs] at h
    cases e : gS r i with
    | some b' => rw [e] at h; exact .inl (by simpa using h)
    | none => rw [e] at h; exact .inr ⟨rfl, by simpa using h, hφ i e⟩
  have S2 : Sim w0 (pT t d .u) s' ψ a w' := by
    refine ⟨S.below, S.defs, RepL_frD e1 (fun j hj => (hf j _ hj.choose_spec).1) S1.tmp, fun i b hb' => ?_, fun i j b c h1 h2 hne => ?_, fun i hi => ?_, S.kept, fun i b k hb' hk => ?_, S.wsz⟩
    · rcases cls i b hb' with h | ⟨h1, h2, h3⟩
      · exact (hr i b h).1
      · exact BlkOk_frD e1 (fun hd => by obtain ⟨c, hc⟩ := hd; rw [h1] at hc; cases hc) (fun j hd => (hf j _ hd.choose_spec).2 i b h2 h1) (S.blk i b h2)
    · have cross : ∀ i j b c, gS r i = some b → gS s j = some c ∧ ψ j = φ j → bk (ψ j) = none ∨ bk (ψ i) ≠ bk (ψ j) := fun i j b c hb hc => by
        rw [hc.2]
        cases e : bk (φ j) with
        | none => exact .inl rfl
        | some k =>
          refine .inr fun e' => ?_
          have h5 := hlt j c k hc.1 e
          have h6 := (hr i b hb).2 k e'
          omega
      rcases cls i b h1 with q | q
      · rcases cls j c h2 with r' | r'
        · exact hap i j b c q r' hne
        · rcases cross i j b c q r'.2 with z | z
          · cases e : bk (ψ i) with
            | none => exact .inl rfl
            | some k => exact .inr (by rw [z]; exact fun h => nomatch h)
          · exact .inr z
      · rcases cls j c h2 with r' | r'
        · rcases cross j i c b r' q.2 with z | z
          · exact .inl z
          · exact .inr (Ne.symm z)
        · rw [q.2.2, r'.2.2]
          exact S.apart i j b c q.2.1 r'.2.1 hne
    · refine (hφ i ?_).trans (S.fix i hi)
      cases e : gS r i with
      | none => rfl
      | some b => exact absurd hi (h15 i b e)
    · rcases cls i b hb' with q | q
      · exact .inr (Nat.le_trans hnb ((hr i b q).2 k hk))
      · rw [q.2.2] at hk; exact S.inn i b k q.2.1 hk
  have := Sim_put S2 d hy
  rwa [pT_pT] at this
theorem merge (S : Sim w0 t s φ a w) {d : Option Nat} {y : AV} {r s' : Sto} {a' : Act} {w' : World} (h : NxA w0 φ a w d y r a' w') (hf : ∀ i b, gS r i = some b → AV.frL i (pT t d .u) = true ∧ ∀ j c, gS s j = some c → gS r j = none → c.fr i = true)
    (h15 : ∀ i b, gS r i = some b → i % 16 ≠ 15) (hs : ∀ i, gS s' i = (gS r i).or (gS s i)) : ∃ ψ, Sim w0 (pT t d y) s' ψ a' w' := by
  obtain ⟨v, ψ, rfl, hb, hy, hφ, hr, hap⟩ := h
  exact ⟨ψ, merge2 (Sim_below S hb) (nb := w.heap.size) (fun i b k hb hk => (BlkOk_lt (S.blk i b hb) hk).2) S.wsz hy hφ hr hap hf h15 hs⟩
theorem own15 {i d : Nat} (h1 : 16 * d ≤ i) (h2 : i < 16 * d + 15) : i % 16 ≠ 15 := by omega
structure Fx (P : Program) (o : Oper) (t : List AV) (s : Sto) (y : AV) (r : Sto) : Prop where
  own : ∀ i b, gS r i = some b → ∃ d : Nat, o.dst = some d ∧ 16 * d ≤ i ∧ i < 16 * d + 15
  new : ∀ i b, gS r i = some b → free i (pT t o.dst .u) s = true
  opr : ∀ x ∈ o.op.operands.toList, ∀ i b, gS r i = some b → AV.fr i (eT t x) = true
  run : ∀ (A : Nat → Prop) (s1 : Sto) (t1 : List AV), (∀ x ∈ o.op.operands.toList, eT t1 x = eT t x ∧ AIn A (eT t x)) → Fr A s s1 → (∀ i b, gS r i = some b → ¬ A i) →
    AIn (fun j => A j ∨ ∃ b, gS r j = some b) y ∧ (∀ i b, gS r i = some b → BIn (fun j => A j ∨ ∃ b, gS r j = some b) b) ∧
    ∀ (w0 : Bs) (φ : Nat → Value) (a : Act) (w : World) (Q : Exit → Act → World → Prop), Sim w0 t1 s1 φ a w → o.wp P a w (NxA w0 φ a w o.dst y r) Q
def FX (P : Program) (o : Oper) (t : List AV) (s : Sto) (K : Kt) : Prop := ∃ y r s', Fx P o t s y r ∧ (∀ i, gS s' i = (gS r i).or (gS s i)) ∧ K (pT t o.dst y) s'
theorem FX_ok (S : Sim w0 t s φ a w) (h : FX P o t s K) : o.wp P a w (Nx w0 K) Q := by
  obtain ⟨y, r, s', F, hs, hK⟩ := h
  have no : ∀ j, ¬ (gS r j = none) → ∃ b, gS r j = some b := fun j hj => by
    cases e : gS r j with
    | none => exact absurd e hj
    | some b => exact ⟨b, rfl⟩
  obtain ⟨_, _, h3⟩ := F.run (fun j => gS r j = none) s t (fun x hx => ⟨rfl, fun j hj => by obtain ⟨b, hb⟩ := no j hj; exact F.opr x hx j b hb⟩)
    ⟨fun _ _ => rfl, fun id b hA hb j hj => by obtain ⟨c, hc⟩ := no j hj; exact (free_blk (F.new j c hc)).2 id b hb⟩ (fun i b hb h => by rw [h] at hb; cases hb)
  refine Oper.wp_mono (fun a' w' hn => ?_) (h3 w0 φ a w Q S)
  obtain ⟨ψ, hS⟩ := merge S hn (fun i b hb => ⟨(free_blk (F.new i b hb)).1, fun j c hj _ => (free_blk (F.new i b hb)).2 j c hj⟩) (fun i b hb => by obtain ⟨_, _, q1, q2⟩ := F.own i b hb; exact own15 q1 q2) hs
  exact ⟨ψ, _, _, hK, hS⟩
theorem gS_one {i j : Nat} {b : Blk} : gS [(i, b)] j = if i = j then some b else none := rfl
theorem uS_or (s : Sto) (i : Nat) (b : Blk) : ∀ j, gS (uS s i b) j = (gS [(i, b)] j).or (gS s j) := fun j => by
  rw [gS_uS, gS_one]
  by_cases e : i = j <;> simp [e]
theorem frL_sT {j : Nat} : ∀ {t : List AV} {d : Nat} {y : AV}, AV.frL j t = true → AV.fr j y = true → AV.frL j (sT t d y) = true
  | [], d, y, h, _ => by simpa [sT] using h
  | x :: t, 0, y, h, hy => by simp only [AV.frL, Bool.and_eq_true] at h; simp only [sT, AV.frL, Bool.and_eq_true]; exact ⟨hy, h.2⟩
  | x :: t, d + 1, y, h, hy => by simp only [AV.frL, Bool.and_eq_true] at h; simp only [sT, AV.frL, Bool.and_eq_true]; exact ⟨h.1, frL_sT h.2 hy⟩
theorem free_pT {j : Nat} (h : free j t s = true) (d : Option Nat) : free j (pT t d .u) s = true := by
  cases d with
  | none => exact h
  | some d =>
    simp only [free, Bool.and_eq_true] at h ⊢
    exact ⟨frL_sT h.1 rfl, h.2⟩
theorem fx_boxW {b : TypeId} {c : List AV} (h : boxW b c o.dst t s K) (hin : ∀ j, (∀ x ∈ o.op.operands.toList, AV.fr j (eT t x) = true) → AV.frL j c = true)
    (hrun : ∀ (w0 : Bs) (t1 : List AV) (s1 : Sto) (φ : Nat → Value) (a : Act) (w : World), (∀ x ∈ o.op.operands.toList, eT t1 x = eT t x) → cellsOk c = true → Sim w0 t1 s1 φ a w →
      ∃ l, RepL w0.heap.size w0 φ c l ∧ (execOp a.eval o).run P w = .ok (.value (.pointer (some ⟨w.heap.size, 0, none⟩))) (w.alloc (.cells (List.toArray l) b))) : FX P o t s K := by
  cases ed : o.dst with
  | none => rw [ed] at h; exact h.elim
  | some d =>
    rw [ed] at h
    obtain ⟨h1, h2, h3⟩ := h
    have hop : ∀ x ∈ o.op.operands.toList, AV.fr (16 * d) (eT t x) = true := fun x _ => fr_eT (free_blk h2).1 x
    have hd : ∀ i c', gS [(16 * d, Blk.box b c)] i = some c' → i = 16 * d ∧ c' = .box b c := fun i c' h => by
      rw [gS_one] at h
      split at h
      · rename_i e; exact ⟨e.symm, (Option.some.inj h).symm⟩
      · cases h
    refine ⟨.bp (16 * d) 0, [(16 * d, .box b c)], _, ⟨fun i c' h => ?_, fun i c' h => ?_, fun x hx i c' h => ?_, fun A s1 t1 ha hF hA => ⟨fun j hj => ?_, fun i c' h => ?_, fun w0 φ a w Q S => ?_⟩⟩, uS_or s (16 * d) _, by rw [ed]; exact h3⟩
    · obtain ⟨rfl, _⟩ := hd i c' h; exact ⟨d, ed, Nat.le_refl _, Nat.lt_add_of_pos_right (by decide)⟩
    · obtain ⟨rfl, _⟩ := hd i c' h; exact free_pT h2 _
    · obtain ⟨rfl, _⟩ := hd i c' h; exact hop x hx
    · simp only [AV.fr, bne_iff_ne, ne_eq]
      rintro rfl
      exact hj (.inr ⟨_, by rw [gS_one, if_pos rfl]⟩)
    · obtain ⟨rfl, rfl⟩ := hd i c' h
      intro j hj
      simp only [Blk.fr]
      exact hin j fun x hx => (ha x hx).2 j fun h => hj (.inl h)
    · obtain ⟨l, hl, hr⟩ := hrun w0 t1 s1 φ a w (fun x hx => (ha x hx).1) h1 S
      refine wp_val hr ⟨_, upd φ (16 * d) (.pointer (some ⟨w.heap.size, 0, none⟩)), by rw [ed], (Below.refl _ w).alloc (Nat.le_refl _) _, by simp only [Rep]; exact ⟨_, upd_same _ _ _, rfl⟩, fun i hi => ?_, fun i c' h => ?_, fun i j c1 c2 q1 q2 hne => ?_⟩
      · refine upd_ne _ _ _ i fun e => ?_
        rw [e, gS_one, if_pos rfl] at hi; cases hi
      · obtain ⟨rfl, rfl⟩ := hd i c' h
        refine ⟨⟨w.heap.size, l, upd_same _ _ _, S.below.size, heap_alloc_new w _, RepL_fr (upd_ne φ _ _) (hin _ hop) hl⟩, fun k hk => ?_⟩
        rw [upd_same] at hk
        simp [bk] at hk; omega
      · exact absurd ((hd i c1 q1).1.trans (hd j c2 q2).1.symm) hne
theorem fx_rowW {e : TypeId} {sz : Nat} {xs : List (List Value)} (h : rowW e sz xs o.dst t s K) (hx : rowOk sz xs) (h0 : 0 < sz) (hop : ∀ x ∈ o.op.operands.toList, ∀ j, AV.fr j (eT t x) = true)
    (hrun : ∀ (w0 : Bs) (t1 : List AV) (s1 : Sto) (φ : Nat → Value) (a : Act) (w : World), (∀ x ∈ o.op.operands.toList, eT t1 x = eT t x) → Sim w0 t1 s1 φ a w →
      ∃ y w1, (execOp a.eval o).run P w = .ok (.value y) w1 ∧ Below w.heap.size w w1 ∧ (∀ k, bk y = some k → w.heap.size ≤ k) ∧ w1.ownsRow w0.heap.size e sz y xs.length xs.flatten) : FX P o t s K := by
  cases ed : o.dst with
  | none => rw [ed] at h; exact h.elim
  | some d =>
    rw [ed] at h
    obtain ⟨h2, h3⟩ := h
    have hd : ∀ i c', gS [(16 * d, Blk.row e sz xs)] i = some c' → i = 16 * d ∧ c' = .row e sz xs := fun i c' h => by
      rw [gS_one] at h
      split at h
      · rename_i e; exact ⟨e.symm, (Option.some.inj h).symm⟩
      · cases h
    refine ⟨.lo (16 * d), [(16 * d, .row e sz xs)], _, ⟨fun i c' h => ?_, fun i c' h => ?_, fun x hx i c' h => hop x hx i, fun A s1 t1 ha hF hA => ⟨fun j hj => ?_, fun i c' h => ?_, fun w0 φ a w Q S => ?_⟩⟩, uS_or s (16 * d) _, by rw [ed]; exact h3⟩
    · obtain ⟨rfl, _⟩ := hd i c' h; exact ⟨d, ed, Nat.le_refl _, Nat.lt_add_of_pos_right (by decide)⟩
    · obtain ⟨rfl, _⟩ := hd i c' h; rw [ed]; exact h2
    · simp only [AV.fr, bne_iff_ne, ne_eq]
      rintro rfl
      exact hj (.inr ⟨_, by rw [gS_one, if_pos rfl]⟩)
    · obtain ⟨rfl, rfl⟩ := hd i c' h
      intro j hj
      rfl
    · obtain ⟨y, w1, hr, hb, hy, ho⟩ := hrun w0 t1 s1 φ a w (fun x hx => (ha x hx).1) S
      have hp : plainV y = true := by
        obtain ⟨A, c, rfl⟩ := own_slice ho
        rfl
      refine wp_val hr ⟨_, upd φ (16 * d) y, by rw [ed], hb, by simp only [Rep]; exact ⟨(upd_same _ _ _).symm, hp⟩, fun i hi => ?_, fun i c' h => ?_, fun i j c1 c2 q1 q2 hne => ?_⟩
      · refine upd_ne _ _ _ i fun e => ?_
        rw [e, gS_one, if_pos rfl] at hi; cases hi
      · obtain ⟨rfl, rfl⟩ := hd i c' h
        refine ⟨?_, fun k hk => hy k (by rw [upd_same] at hk; exact hk)⟩
        show _ ∧ _
        rw [upd_same]
        exact ⟨ho, hx, h0⟩
      · exact absurd ((hd i c1 q1).1.trans (hd j c2 q2).1.symm) hne
theorem fx_box {b : TypeId} {x : Operand} (ho : o.op = .box b x) (h : boxW b (eT t x).cells o.dst t s K) : FX P o t s K := by
  have hm : x ∈ o.op.operands.toList := by rw [ho]; simp [Op.operands]
  refine fx_boxW h (fun j hj => fr_cells (hj x hm)) fun w0 t1 s1 φ a w he hc S => ?_
  have hR := Sim_ev S x
  rw [he x hm] at hR
  obtain ⟨h1, h2⟩ := cells_ok hc hR
  exact ⟨_, h1, by simp [execOp, ho, Instr.box, newVar, newRow]⟩
theorem fx_alloc (T : TyOk P ty) {b : TypeId} (ho : o.op = .alloc b) (h : alW b (ty b) o.dst t s K) : FX P o t s K := by
  cases ei : ty b with
  | none => rw [ei] at h; exact h.elim
  | some i =>
    rw [ei] at h
    obtain ⟨f, h1, _, _, z, h2, h3, _⟩ := (T b i ei).nf
    refine fx_boxW h (fun j _ => frL_vs _) fun w0 t1 s1 φ a w he hc S => ⟨_, RepL_vs _, ?_⟩
    simp [execOp, ho, Instr.alloc, zeroValue, typeInfo, h1, h2, newVar, newRow, h3]
theorem fx_nil (T : TyOk P ty) (ho : o.op = .assign (.const (.slice none 0 0))) (h : nilW ty (ty o.type) o.dst t s K) : FX P o t s K := by
  cases ei : ty o.type with
  | none => rw [ei] at h; exact h.elim
  | some i =>
    rw [ei] at h
    obtain ⟨j, ej, h1, h2⟩ := h
    refine fx_rowW h2 (fun x hx => by simp at hx) h1 (fun x hx j => ?_) fun w0 t1 s1 φ a w he S => ⟨.slice none 0 0, w, by simp [execOp, ho, Act.eval], Below.refl _ _, fun k hk => by simp [bk] at hk, World.ownsRow_nil _ _ _ _⟩
    rw [ho] at hx
    simp [Op.operands] at hx
    subst hx; rfl
theorem mkW_inv {I : Option TI} {x y : AV} {d : Option Nat} (h : mkW ty I x y d t s K) : ∃ i n j, I = some i ∧ x = .v (.int .i64 n) ∧ y = .v (.int .i64 n) ∧ ty i.el = some j ∧ 0 ≤ n ∧ n * (j.bytes : Int) ≤ 281474976710656 ∧ 0 < j.bytes ∧ 0 < j.size ∧ rowW i.el j.size (List.replicate n.toNat j.zero) d t s K := by
  unfold mkW at h
  split at h
  · obtain ⟨j, ej, rfl, h⟩ := h
    exact ⟨_, _, j, rfl, rfl, rfl, ej, h⟩
  · exact h.elim
theorem made_rep {z : Array Value} {n : Nat} (hz : 0 < z.size) : (madeCells z (n * z.size)).toList = (List.replicate n z.toList).flatten := by
  have hl : ∀ x ∈ List.replicate n z.toList, x.length = z.size := fun x hx => by rw [(List.mem_replicate.1 hx).2]; simp
  apply List.ext_getElem
  · rw [Array.length_toList, size_madeCells, flatten_len hl, List.length_replicate]
  · intro k h1 h2
    rw [Array.length_toList, size_madeCells] at h1
    have hq : k / z.size < n := (Nat.div_lt_iff_lt_mul hz).2 h1
    have hm := Nat.mod_lt k hz
    have ek : k = k / z.size * z.size + k % z.size := by rw [Nat.mul_comm]; exact (Nat.div_add_mod k z.size).symm
    have h3 : (List.replicate n z.toList).flatten[k]? = z.toList[k % z.size]? := by
      conv => lhs; rw [ek]
      rw [flatten_at hl (z := []) (by simpa using hq) hm]
      simp [List.getD_eq_getElem?_getD, hq]
    have h4 : (madeCells z (n * z.size)).toList[k]? = z.toList[k % z.size]? := by
      simp only [madeCells, Array.toList_map, List.getElem?_map, Array.getElem?_toList]
      simp [h1, hm]
    rw [← h4] at h3
    have h5 := List.getElem?_eq_getElem h2
    rw [h3, List.getElem?_eq_getElem (by rw [Array.length_toList, size_madeCells]; exact h1)] at h5
    exact Option.some.inj h5
theorem fx_make (T : TyOk P ty) {b : TypeId} {x y : Operand} (ho : o.op = .makeSlice b x y) (h : mkW ty (ty b) (eT t x) (eT t y) o.dst t s K) : FX P o t s K := by
  have hmx : x ∈ o.op.operands.toList := by rw [ho]; simp [Op.operands]
  have hmy : y ∈ o.op.operands.toList := by rw [ho]; simp [Op.operands]
  obtain ⟨i, n, j, ei, e1, e2, ej, h0, h1, h2, h3, h4⟩ := mkW_inv h
  obtain ⟨f, f1, f2, f3, z, f4, f5, f6⟩ := (T _ j ej).nf
  obtain ⟨zl, zp⟩ := (T _ j ej).zl
  have hu := (T b i ei).el j ej
  obtain ⟨q, rfl⟩ := Int.eq_ofNat_of_zero_le h0
  have hzs : z.cells.size = j.size := by rw [f5]; simpa using zl
  have hbn : j.bytes * q ≤ 281474976710656 := by rw [Nat.mul_comm]; exact Int.ofNat_le.1 (by rw [Int.natCast_mul]; exact h1)
  have hq : q ≤ 281474976710656 := Nat.le_trans (Nat.le_mul_of_pos_left _ h2) hbn
  refine fx_rowW h4 (fun x hx => ?_) h3 (fun u hu j => ?_) fun w0 t1 s1 φ a w he S => ?_
  · obtain rfl := (List.mem_replicate.1 hx).2
    exact ⟨zl, fun u hu => List.all_eq_true.1 zp u hu⟩
  · rw [ho] at hu
    simp [Op.operands] at hu
    rcases hu with rfl | rfl
    · rw [e1]; rfl
    · rw [e2]; rfl
  · have hx := Sim_ev S x
    have hy := Sim_ev S y
    rw [he x hmx, e1] at hx
    rw [he y hmy, e2] at hy
    simp only [Rep] at hx hy
    have hrun := run_make (P := P) w b i.el f z hu f1 f4 .i64 .i64 (q : Int) (q : Int) (by omega) (Int.le_refl _) (by have h5 := Int.ofNat_le.2 hbn; rw [Int.natCast_mul] at h5; rw [f3]; exact h5) (by omega)
    simp only [Int.toNat_natCast, f2] at hrun
    refine ⟨.slice (some ⟨w.heap.size, 0, none⟩) q q, w.alloc (.cells (madeCells z.cells (q * j.size)) i.el), by simp [execOp, ho, hx, hy, hrun], (Below.refl _ w).alloc (Nat.le_refl _) _, fun k hk => by simp [bk] at hk; omega, ?_⟩
    have := World.ownsRow_lit (base := w0.heap.size) (e := i.el) (size := j.size) w (madeCells z.cells (q * j.size)) q S.below.size (by simp only [maxLen]; omega) (size_madeCells _ _)
    rw [← hzs, made_rep (by rw [hzs]; exact h3), f5] at this
    rw [← hzs, f5]
    simpa using this
end
end Go.Proofs.YtdjdleldocfpaaaDoor.F
end

section
namespace Go.Proofs.YtdjdleldocfpaaaDoor.F
open Go.RowKit Go.Proofs.YtdjdleldocfpaaaDoorW.PrintWords Go.Proofs.YtdjdleldocfpaaaDoorW.PrintLast Go.Proofs.YtdjdleldocfpaaaDoorW.PrintMore
set_option linter.unusedVariables false
set_option linter.unusedSimpArgs false
theorem Sim_upd {w0 : Bs} {t : List AV} {s : Sto} {φ : Nat → Value} {a : Act} {w w1 : World} (S : Sim w0 t s φ a w) {id : Nat} {b b' : Blk} (hg : gS s id = some b) (hb : Below w0.heap.size w0 w1)
    (hk : ∀ i c k, gS s i = some c → i ≠ id → bk (φ i) = some k → w1.heap[k]? = w.heap[k]?) (hn : BlkOk w0.heap.size w0 φ w1 id b') (hkp : ∀ k, k < w0.ws.heap.size → ¬ w0.G k → w1.heap[k]? = w.heap[k]?) (hsz : w.heap.size ≤ w1.heap.size) : Sim w0 t (uS s id b') φ a w1 := by
  refine ⟨hb, S.defs, S.tmp, fun i c h => ?_, fun i j c c' h h' hne => ?_, S.fix, fun k hk hG => (hkp k hk hG).trans (S.kept k hk hG), fun i c k h hk' => ?_, Nat.le_trans S.wsz hsz⟩
  rotate_right
  · rw [gS_uS] at h
    by_cases e : id = i
    · subst e; exact S.inn id b k hg hk'
    · rw [if_neg e] at h; exact S.inn i c k h hk'
  · rw [gS_uS] at h
    by_cases e : id = i
    · subst e
      rw [if_pos rfl] at h
      obtain rfl := Option.some.inj h
      exact hn
    · rw [if_neg e] at h
      exact BlkOk_world (S.blk i c h) fun k hk' => hk i c k h (Ne.symm e) hk'
  · rw [gS_uS] at h h'
    have key : ∀ i c, (if id = i then some b' else gS s i) = some c → ∃ c', gS s i = some c' := fun i c h => by
      by_cases e : id = i
      · subst e; exact ⟨b, hg⟩
      · rw [if_neg e] at h; exact ⟨c, h⟩
    obtain ⟨c1, h1⟩ := key i c h
    obtain ⟨c2, h2⟩ := key j c' h'
    exact S.apart i j c1 c2 h1 h2 hne
theorem inn_ne {w0 : Bs} {t : List AV} {s : Sto} {φ : Nat → Value} {a : Act} {w : World} (S : Sim w0 t s φ a w) {id : Nat} {b : Blk} (hg : gS s id = some b) {k g : Nat} (hk : k < w0.ws.heap.size) (hG : ¬ w0.G k) (e : bk (φ id) = some g) : k ≠ g := fun h => by
  rcases S.inn id b g hg e with q | q
  · exact hG (h ▸ q)
  · omega
theorem below_setRow {B : Nat} {w0 w : World} (h : Below B w0 w) {g : Nat} (hg : B ≤ g) (cs : Array Value) : Below B w0 (w.setRow g cs) :=
  h.trans ⟨rfl, rfl, rfl, by simp [World.setRow], fun k hk => setRow_other w g k cs (by omega)⟩
theorem flatten_set : ∀ {xs : List (List Value)} {sz : Nat} (hs : ∀ x ∈ xs, x.length = sz) {i : Nat} (hi : i < xs.length) {c : List Value} (hc : c.length = sz), (xs.set i c).flatten = xs.flatten.take (i * sz) ++ c ++ xs.flatten.drop (i * sz + sz)
  | [], sz, _, i, hi, c, hc => by simp at hi
  | x :: xs, sz, hs, 0, hi, c, hc => by
    have hx : x.length = sz := hs x (by simp)
    simp only [List.set_cons_zero, List.flatten_cons, Nat.zero_mul, List.take_zero, List.nil_append, Nat.zero_add]
    rw [List.drop_append_of_le_length (by omega), List.drop_of_length_le (by omega), List.nil_append]
  | x :: xs, sz, hs, i + 1, hi, c, hc => by
    have hx : x.length = sz := hs x (by simp)
    simp only [List.set_cons_succ, List.flatten_cons]
    have e1 : x.take ((i + 1) * sz) = x := List.take_of_length_le (by rw [hx, Nat.add_mul]; omega)
    have e2 : x.drop ((i + 1) * sz + sz) = [] := List.drop_of_length_le (by rw [hx, Nat.add_mul]; omega)
    rw [flatten_set (fun y hy => hs y (by simp [hy])) (by simpa using hi) hc, List.take_append, List.drop_append, e1, e2, hx]
    rw [show (i + 1) * sz - sz = i * sz by rw [Nat.add_mul]; omega, show (i + 1) * sz + sz - sz = i * sz + sz by rw [Nat.add_mul]; omega]
    simp
theorem take_put {cur c : List Value} {q len n : Nat} (hc : c.length = len) (h : q + len ≤ n) (hn : n ≤ cur.length) : (cur.take q ++ c ++ cur.drop (q + len)).take n = (cur.take n).take q ++ c ++ (cur.take n).drop (q + len) := by
  have hA : (cur.take q ++ c).length = q + len := by rw [List.length_append, List.length_take, hc]; omega
  rw [List.take_append, List.take_of_length_le (by omega), hA, List.drop_take, List.take_take, Nat.min_eq_left (by omega)]
section
variable {P : Program} {ty : TypeId → Option TI} {w0 : Bs} {t : List AV} {s : Sto} {φ : Nat → Value} {a : Act} {w : World} {o : Oper} {d : Option Nat} {K : Kt} {Q : Exit → Act → World → Prop}
theorem run_storeAt {b : TypeId} {i : TI} (T : TIok P ty b i) {ad x : Operand} (ho : o.op = .store b ad x) {g off : Nat} {tb : TypeId} {cur : Array Value} (ha : a.eval ad = .pointer (some ⟨g, off, none⟩)) (hg : w.heap[g]? = some (.cells cur tb (0, 0)))
    (hs : (a.eval x).cells.size = i.size) (hl : off + i.size ≤ cur.size) (h1 : ∀ u ∈ (a.eval x).cells.toList, plainV u = true) :
    (execOp a.eval o).run P w = .ok .skip (w.setRow g (cur.toList.take off ++ (a.eval x).cells.toList ++ cur.toList.drop (off + (a.eval x).cells.toList.length)).toArray) := by
  have hst := run_storeCells_at P g off tb (a.eval x).cells.toList 0 cur w hg (by rw [Array.length_toList, hs]; omega) (fun v hv => plain_one (h1 v hv))
  simp only [Nat.add_zero] at hst
  simp only [execOp, ho, Instr.storeAt, ha, Instr.sureAddr, storeVar, run_size T]
  simp [run_size T, hs, hst]
theorem op_store (T : TyOk P ty) (S : Sim w0 t s φ a w) {b : TypeId} {ad x : Operand} (ho : o.op = .store b ad x) (hd : o.dst = none) (h : storeW (ty b) (eT t ad) (eT t x) t s K) : o.wp P a w (Nx w0 K) Q := by
  have hx := Sim_ev S x
  have ha := Sim_ev S ad
  cases ei : ty b with
  | none => rw [ei] at h; simp [storeW] at h
  | some i =>
    rw [ei] at h
    have Ti := T b i ei
    cases ea : eT t ad with
    | bp id off =>
      rw [ea] at h ha
      simp only [storeW] at h
      cases eb : gS s id with
      | none => rw [eb] at h; simp [storeB] at h
      | some bl =>
        cases bl with
        | row e sz xs => rw [eb] at h; simp [storeB] at h
        | box tb cs =>
          rw [eb] at h
          simp only [storeB] at h
          obtain ⟨hl, hn, hc, hK⟩ := h
          obtain ⟨h1, h2⟩ := cells_ok hc hx
          obtain ⟨g, c, h3, h4, h5, h6⟩ := S.blk id _ eb
          simp only [Rep] at ha
          obtain ⟨g', h7, h8⟩ := ha
          rw [h3] at h7
          obtain rfl : g = g' := by simpa using h7
          have hlen := RepL_len h6
          have hlen2 := RepL_len h1
          have hrun := run_storeAt (w := w) Ti ho h8 h5 (by rw [← Array.length_toList, ← hlen2, hl]) (by simp; omega) h2
          refine wp_skip' hrun ⟨φ, _, _, hK, ?_⟩
          rw [hd]
          refine Sim_upd S eb (below_setRow S.below h4 _) (fun j e k hj hne hk => ?_) ?_ (fun k hk hG => setRow_other w g k _ (inn_ne S eb hk hG (by rw [h3]; rfl))) (by simp [World.setRow])
          · refine setRow_other w g k _ (fun e' => ?_)
            rcases S.apart j id _ _ hj eb hne with h9 | h9
            · rw [h9] at hk; cases hk
            · rw [hk, h3, e'] at h9; exact h9 rfl
          · refine ⟨g, _, h3, h4, setRow_heap w g _ _ tb _ h5, ?_⟩
            exact RepL_put h1 h6 (by omega)
    | le id z n off =>
      rw [ea] at h ha
      simp only [storeW] at h
      cases eb : gS s id with
      | none => rw [eb] at h; simp [storeE] at h
      | some bl =>
        cases bl with
        | box tb cs => rw [eb] at h; simp [storeE] at h
        | row e sz xs =>
          rw [eb] at h
          simp only [storeE] at h
          obtain ⟨rfl, rfl, hi, hl, hc, hK⟩ := h
          obtain ⟨h1, h2⟩ := cells_ok (plainOk_cells hc) hx
          have hu := unv_eq hc h1
          obtain ⟨b1, b2, b3⟩ := S.blk id _ eb
          have b2' : ∀ x ∈ xs, x.length = z := fun x hx => (b2 x hx).1
          simp only [Rep] at ha
          obtain ⟨g, m, cap, h3, h4, h5, h6⟩ := ha
          rw [h3] at b1
          have b1' := b1
          obtain ⟨hfl, b1⟩ := b1
          rcases b1 with ⟨hh, _⟩ | ⟨g', cap', cur, hh, h7, h8, h9, h10, h11, h12⟩
          · cases hh
          · obtain ⟨rfl, rfl, rfl⟩ : g = g' ∧ m = xs.length ∧ cap = cap' := by injection hh with e1 e2 e3; injection e1 with e1; injection e1 with e1; exact ⟨e1, e2, e3⟩
            have hni : n.toNat < xs.length := by omega
            have hcl : (unv (eT t x).cells).length = z := by rw [← hu, ← RepL_len h1, hl]
            have hcz : (a.eval x).cells.size = z := by rw [← Array.length_toList, hu, hcl]
            have hmul : n.toNat * z + z ≤ xs.length * z := by
              have := Nat.mul_le_mul_right z (show n.toNat + 1 ≤ xs.length by omega)
              rw [Nat.add_mul, Nat.one_mul] at this
              exact this
            have hmul2 : xs.length * z ≤ cap * z := Nat.mul_le_mul_right z h9
            have hrun := run_storeAt (w := w) (off := n.toNat * z + 0) Ti ho h6 h8 (by rw [← Array.length_toList, hu, hcl, hi]) (by rw [hi, h11]; omega) h2
            refine wp_skip' hrun ⟨φ, _, _, hK, ?_⟩
            rw [hd]
            refine Sim_upd S eb (below_setRow S.below h7 _) (fun j e' k hj hne hk => ?_) ?_ (fun k hk hG => setRow_other w g k _ (inn_ne S eb hk hG (by rw [h3]; rfl))) (by simp [World.setRow])
            · refine setRow_other w g k _ (fun e'' => ?_)
              rcases S.apart j id _ _ hj eb hne with h13 | h13
              · rw [h13] at hk; cases hk
              · rw [hk, h3, e''] at h13; exact h13 rfl
            · have hset : (sR xs n (unv (eT t x).cells)).length = xs.length := by unfold sR; rw [List.length_set]
              refine ⟨?_, fun y hy => ?_, b3⟩
              · rw [h3, hset]
                refine ⟨?_, .inr ⟨g, cap, _, rfl, h7, setRow_heap w g _ _ e _ h8, h9, h10, ?_, ?_⟩⟩
                · rw [flatten_len (sz := z), hset]
                  intro y hy
                  rcases List.mem_or_eq_of_mem_set hy with hy | rfl
                  · exact b2' y hy
                  · exact hcl
                · simp only [List.size_toArray, List.length_append, List.length_take, List.length_drop, Array.length_toList]
                  rw [hcz, h11]
                  omega
                · simp only [Nat.add_zero]
                  unfold sR
                  rw [flatten_set b2' hni hcl, ← h12, hu, hcl]
                  exact take_put hcl hmul (Nat.le_trans hmul2 (Nat.le_of_eq (Array.length_toList.trans h11).symm))
              · unfold sR at hy
                rcases List.mem_or_eq_of_mem_set hy with hy | rfl
                · exact b2 y hy
                · exact ⟨hcl, fun u hu' => h2 u (by rw [hu]; exact hu')⟩
    | u => rw [ea] at h; simp [storeW] at h
    | v _ => rw [ea] at h; simp [storeW] at h
    | ag _ => rw [ea] at h; simp [storeW] at h
    | tu _ => rw [ea] at h; simp [storeW] at h
    | pr _ _ => rw [ea] at h; simp [storeW] at h
    | ow _ _ _ => rw [ea] at h; simp [storeW] at h
    | lo _ => rw [ea] at h; simp [storeW] at h
    | vw _ _ _ _ => rw [ea] at h; simp [storeW] at h
    | pe _ => rw [ea] at h; simp [storeW] at h
end
end Go.Proofs.YtdjdleldocfpaaaDoor.F
end

section
namespace Go.Proofs.YtdjdleldocfpaaaDoor.F
open Go.RowKit Go.Proofs.YtdjdleldocfpaaaDoorW.PrintWords Go.Proofs.YtdjdleldocfpaaaDoorW.PrintLast Go.Proofs.YtdjdleldocfpaaaDoorW.PrintMore
set_option linter.unusedVariables false
set_option linter.unusedSimpArgs false
theorem fill_ok (sz : Nat) : ∀ (vs : List Value) (k : Nat) (cs : Array Value), (∀ v ∈ vs, v.cells.size = sz) → (k + vs.length) * sz ≤ cs.size → Instr.fill (fun i => some (i * sz, sz)) cs ((vs.zipIdx k).map fun p => (p.2, p.1)) = some (cs.toList.take (k * sz) ++ (vs.map fun v => v.cells.toList).flatten ++ cs.toList.drop ((k + vs.length) * sz)).toArray
  | [], k, cs, _, h => by simp [Instr.fill]
  | v :: vs, k, cs, hs, h => by
    have hv : v.cells.size = sz := hs v (by simp)
    simp only [List.length_cons] at h
    have hm : (k + 1) * sz ≤ (k + (vs.length + 1)) * sz := Nat.mul_le_mul_right sz (by omega)
    have hm2 : (k + 1) * sz = k * sz + sz := by rw [Nat.add_mul]; omega
    simp only [List.zipIdx_cons, List.map_cons, Instr.fill]
    rw [if_neg (by simp [hv]; omega)]
    have hf := fold_put v.cells.toList (k * sz) 0 cs (by rw [Array.length_toList, hv]; omega)
    have hf' : v.cells.zipIdx.foldl (fun cs (x : Value × Nat) => match x with | (c, j) => cs.setIfInBounds (k * sz + j) c) cs = (cs.toList.take (k * sz) ++ v.cells.toList ++ cs.toList.drop (k * sz + sz)).toArray := by
      rw [Array.length_toList, hv, Nat.add_zero] at hf
      rw [← hf, ← Array.foldl_toList]
      simp
    rw [hf', fill_ok sz vs (k + 1) _ (fun u hu => hs u (by simp [hu])) (by
      simp only [List.size_toArray, List.length_append, List.length_take, List.length_drop, Array.length_toList, hv]
      have : (k + 1 + vs.length) * sz = (k + (vs.length + 1)) * sz := by congr 1; omega
      omega)]
    congr 2
    have hA : (cs.toList.take (k * sz) ++ v.cells.toList).length = (k + 1) * sz := by
      rw [List.length_append, List.length_take, Array.length_toList, Array.length_toList, hv]; omega
    rw [List.take_append_of_le_length (by omega), List.take_of_length_le (by omega)]
    rw [List.drop_append, hA, List.drop_of_length_le (l := cs.toList.take (k * sz) ++ v.cells.toList) (by rw [hA]; exact Nat.mul_le_mul_right sz (by omega)), List.nil_append, List.drop_drop]
    simp only [List.flatten_cons, List.append_assoc]
    have eM : (k + 1 + vs.length) * sz = (k + (vs.length + 1)) * sz := by congr 1; omega
    rw [eM, List.length_cons]
    generalize (k + (vs.length + 1)) * sz = M at hm ⊢
    congr 4
    omega
section
variable {P : Program} {ty : TypeId → Option TI} {w0 : Bs} {t : List AV} {s : Sto} {φ : Nat → Value} {a : Act} {w : World} {o : Oper} {d : Option Nat} {K : Kt} {Q : Exit → Act → World → Prop}
theorem litR_ok (S : Sim w0 t s φ a w) : ∀ {ps : List (Nat × Operand)} {k : Nat} {xs : List (List Value)}, litR t ps k = some xs → ps.length = xs.length ∧ (ps.map fun p => (p.1, a.eval p.2)) = ((ps.map fun p => a.eval p.2).zipIdx k).map (fun p => (p.2, p.1)) ∧ (ps.map fun p => (a.eval p.2).cells.toList) = xs ∧ ∀ x ∈ xs, ∀ u ∈ x, plainV u = true
  | [], k, xs, h => by simp [litR] at h; subst h; simp
  | (i, x) :: ps, k, xs, h => by
    simp only [litR] at h
    split at h
    · rename_i hc
      obtain ⟨rfl, hc⟩ := hc
      obtain ⟨r, hr, rfl⟩ := Option.map_eq_some_iff.1 h
      obtain ⟨h1, h2, h3, h4⟩ := litR_ok S hr
      obtain ⟨h5, h6⟩ := cells_ok (plainOk_cells hc) (Sim_ev S x)
      have h7 := unv_eq hc h5
      refine ⟨by simp [h1], by simp [h2], by simp [h3, h7], fun y hy u hu => ?_⟩
      rcases List.mem_cons.1 hy with rfl | hy
      · exact h6 u (by rw [h7]; exact hu)
      · exact h4 y hy u hu
    · cases h
theorem litOk_ok {sz : Nat} : ∀ {xs : List (List Value)}, litOk sz xs = true → ∀ x ∈ xs, x.length = sz
  | [], _, x, hx => by simp at hx
  | y :: xs, h, x, hx => by
    simp only [litOk, Bool.and_eq_true, beq_iff_eq] at h
    rcases List.mem_cons.1 hx with rfl | hx
    · exact h.1
    · exact litOk_ok h.2 x hx
theorem plainOk_fr : ∀ {c : List AV} (j : Nat), plainOk c = true → AV.frL j c = true
  | [], _, _ => rfl
  | .v x :: c, j, h => by
    simp only [plainOk, Bool.and_eq_true] at h
    simp only [AV.frL, AV.fr, Bool.true_and]
    exact plainOk_fr j h.2
  | .u :: _, _, h | .ag _ :: _, _, h | .tu _ :: _, _, h | .pr _ _ :: _, _, h | .ow _ _ _ :: _, _, h | .lo _ :: _, _, h | .bp _ _ :: _, _, h | .pe _ :: _, _, h | .le _ _ _ _ :: _, _, h | .vw _ _ _ _ :: _, _, h => by simp [plainOk] at h
theorem cells_fr {j : Nat} {x : AV} (h : AV.frL j x.cells = true) : AV.fr j x = true := by
  cases x <;> first | rfl | (simpa [AV.cells, AV.fr] using h) | (simpa [AV.cells, AV.frL] using h)
theorem litR_fr : ∀ {ps : List (Nat × Operand)} {k : Nat} {xs : List (List Value)}, litR t ps k = some xs → ∀ p ∈ ps, ∀ j, AV.fr j (eT t p.2) = true
  | [], _, _, _ => fun p hp => by simp at hp
  | (i, x) :: ps, k, xs, h => by
    simp only [litR] at h
    split at h
    · rename_i hc
      obtain ⟨rfl, hc⟩ := hc
      obtain ⟨r, hr, rfl⟩ := Option.map_eq_some_iff.1 h
      intro p hp j
      rcases List.mem_cons.1 hp with rfl | hp
      · exact cells_fr (plainOk_fr j hc)
      · exact litR_fr hr p hp j
    · cases h
theorem unv_plain : ∀ {c : List AV}, plainOk c = true → ∀ u ∈ unv c, plainV u = true
  | [], _, u, hu => by simp [unv] at hu
  | .v x :: c, h, u, hu => by
    simp only [plainOk, Bool.and_eq_true] at h
    simp only [unv, List.mem_cons] at hu
    rcases hu with rfl | hu
    · exact h.1
    · exact unv_plain h.2 u hu
  | .u :: _, h, _, _ | .ag _ :: _, h, _, _ | .tu _ :: _, h, _, _ | .pr _ _ :: _, h, _, _ | .ow _ _ _ :: _, h, _, _ | .lo _ :: _, h, _, _ | .bp _ _ :: _, h, _, _ | .pe _ :: _, h, _, _ | .le _ _ _ _ :: _, h, _, _ | .vw _ _ _ _ :: _, h, _, _ => by simp [plainOk] at h
theorem litR_plain : ∀ {ps : List (Nat × Operand)} {k : Nat} {xs : List (List Value)}, litR t ps k = some xs → ∀ x ∈ xs, ∀ u ∈ x, plainV u = true
  | [], k, xs, h => by simp [litR] at h; subst h; simp
  | (i, x) :: ps, k, xs, h => by
    simp only [litR] at h
    split at h
    · rename_i hc
      obtain ⟨rfl, hc⟩ := hc
      obtain ⟨r, hr, rfl⟩ := Option.map_eq_some_iff.1 h
      intro y hy u hu
      rcases List.mem_cons.1 hy with rfl | hy
      · exact unv_plain hc u hu
      · exact litR_plain hr y hy u hu
    · cases h
theorem litR_eq {t1 : List AV} : ∀ {ps : List (Nat × Operand)} {k : Nat}, (∀ p ∈ ps, eT t1 p.2 = eT t p.2) → litR t1 ps k = litR t ps k
  | [], _, _ => rfl
  | (i, x) :: ps, k, h => by
    simp only [litR]
    rw [h (i, x) (by simp), litR_eq (k := k + 1) fun p hp => h p (by simp [hp])]
theorem fx_lit (T : TyOk P ty) {b : TypeId} {n : Nat} {ps : List (Nat × Operand)} (ho : o.op = .buildSlice b n ⟨ps⟩) (h : litT ty (ty b) n ps o.dst t s K) : FX P o t s K := by
  cases ei : ty b with
  | none => rw [ei] at h; exact h.elim
  | some i =>
    rw [ei] at h
    obtain ⟨j, ej, h⟩ := h
    cases er : litR t ps 0 with
    | none => rw [er] at h; exact h.elim
    | some xs =>
      rw [er] at h
      obtain ⟨h1, h2, h3, h4, h5⟩ := h
      have h2' := litOk_ok h2
      have hm : ∀ x, x ∈ o.op.operands.toList ↔ ∃ p ∈ ps, p.2 = x := fun x => by rw [ho]; simp [Op.operands]
      have hx : ∀ x ∈ xs, ∀ u ∈ x, plainV u = true := litR_plain er
      refine fx_rowW h5 (fun x hx' => ⟨h2' x hx', hx x hx'⟩) h3 (fun x hx' j => ?_) fun w0 t1 s1 φ a w he S => ?_
      · obtain ⟨p, hp, rfl⟩ := (hm x).1 hx'
        exact litR_fr er p hp j
      · have er1 : litR t1 ps 0 = some xs := by rw [litR_eq fun p hp => he p.2 ((hm _).2 ⟨p, hp, rfl⟩)]; exact er
        obtain ⟨g1, g2, g3, g4⟩ := litR_ok S er1
        obtain ⟨f, f1, f2, f3, z, f4, f5, f6⟩ := (T _ j ej).nf
        have hu := (T b i ei).el j ej
        have hzl : z.cells.size = j.size := by rw [f5]; simpa using (T _ j ej).zl.1
        have hcells : ∀ v ∈ ps.map (fun p => a.eval p.2), v.cells.size = j.size := fun v hv => by
          obtain ⟨p, hp, rfl⟩ := List.mem_map.1 hv
          rw [← Array.length_toList]
          exact h2' _ (by rw [← g3]; exact List.mem_map.2 ⟨p, hp, rfl⟩)
        have hlen : (ps.map fun p => a.eval p.2).length = n := by rw [List.length_map, g1, h1]
        have hflat : ((ps.map fun p => a.eval p.2).map fun v => v.cells.toList).flatten = xs.flatten := by rw [List.map_map]; rw [← g3]; rfl
        have hfl : xs.flatten.length = n * j.size := by rw [flatten_len h2', h1]
        have key : ∀ cs : Array Value, cs.size = n * j.size → Instr.fill (fun i => some (i * j.size, j.size)) cs (ps.map fun p => (p.1, a.eval p.2)) = some (List.toArray xs.flatten) := fun cs hcs => by
          have := fill_ok j.size (ps.map fun p => a.eval p.2) 0 cs hcells (by rw [hlen, Nat.zero_add]; omega)
          rw [g2, this, hflat, hlen, Nat.zero_mul, Nat.zero_add, List.take_zero, List.nil_append, List.drop_of_length_le (by rw [Array.length_toList]; omega), List.append_nil]
        refine ⟨.slice (some ⟨w.heap.size, 0, none⟩) n n, w.alloc (.cells (List.toArray xs.flatten) i.el), ?_, (Below.refl _ w).alloc (Nat.le_refl _) _, fun k hk => by simp [bk] at hk; omega, ?_⟩
        · have hcap : ¬ n * j.size > 2 ^ 24 := by omega
          have hmap : (List.toArray ps).map (fun x => match x with | (i, x) => (i, a.eval x)) = List.toArray (ps.map fun p => (p.1, a.eval p.2)) := by simp
          simp only [execOp, ho, hmap, Instr.buildSlice]
          by_cases h0 : n * j.size = 0
          · have hk := key (Array.map (fun _ => default) (Array.range 0)) (by simp [h0])
            simp only [Sem.run_bind, run_underlying hu, Result.andThen_ok]
            simp [run_size (T _ j ej), h0, hk, newRow]
          · have hk := key ((Array.range (n * j.size)).map (z.cells[· % z.cells.size]!)) (by simp)
            simp only [Sem.run_bind, run_underlying hu, Result.andThen_ok]
            simp [run_size (T _ j ej), h0, hcap, zeroValue, typeInfo, f1, f4, hk, newRow]
        · have := World.ownsRow_lit (base := w0.heap.size) (e := i.el) (size := j.size) w (List.toArray xs.flatten) n S.below.size (by simp only [maxLen]; have := Nat.le_mul_of_pos_right n h3; omega) (by simpa using hfl)
          rw [h1]
          simpa using this
end
end Go.Proofs.YtdjdleldocfpaaaDoor.F
end
