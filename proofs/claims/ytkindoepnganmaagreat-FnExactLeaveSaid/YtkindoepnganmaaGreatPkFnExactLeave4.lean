/- Packed by a program of the session (wip/tools/pack.py): what the claim's theorem reaches, of the texts that wip/ and the kit's printer lay. -/
import Derived.Test.YtkindoepnganmaaGreatPkFnExactLeave3
import Derived.Maps.AppendAt
import Derived.Laws.CopyRow
import Derived.Laws.StructEq
section
namespace Go.Proofs.YtkindoepnganmaaGreat.F
open Go.RowKit Go.Proofs.YtkindoepnganmaaGreatW.PrintWords Go.Proofs.YtkindoepnganmaaGreatW.PrintLast Go.Proofs.YtkindoepnganmaaGreatW.PrintMore
set_option linter.unusedVariables false
set_option linter.unusedSimpArgs false
theorem plain_one {v : Value} (h : plainV v = true) : v.oneCell' = true := by cases v <;> first | rfl | (simp [plainV] at h)
theorem plain_cells {v : Value} (h : plainV v = true) : v.cells = #[v] := by cases v <;> first | rfl | (simp [plainV] at h)
theorem frL_gT {j : Nat} : ∀ {t : List AV} (i : Nat), AV.frL j t = true → AV.fr j (gT t i) = true
  | [], i, _ => by simp [gT, AV.fr]
  | c :: cs, 0, h => by simp only [AV.frL, Bool.and_eq_true] at h; exact h.1
  | c :: cs, i + 1, h => by simp only [AV.frL, Bool.and_eq_true] at h; simp only [gT]; exact frL_gT i h.2
theorem fr_eT {j : Nat} {t : List AV} (h : AV.frL j t = true) (x : Operand) : AV.fr j (eT t x) = true := by
  cases x <;> simp only [eT, AV.fr]
  exact frL_gT _ h
theorem fr_cells {j : Nat} {x : AV} (h : AV.fr j x = true) : AV.frL j x.cells = true := by
  cases x <;> simp_all [AV.cells, AV.frL, AV.fr]
theorem frL_vs {j : Nat} : ∀ l : List Value, AV.frL j (vs l) = true
  | [] => rfl
  | x :: l => by simp [vs, AV.frL, AV.fr, frL_vs l]
theorem cells_list {B : Nat} {w : World} {φ : Nat → Value} : ∀ {c : List AV} {l : List Value}, cellsOk c = true → RepL B w φ c l → ∀ u ∈ l, plainV u = true
  | [], l, _, h => by simp only [RepL] at h; subst h; simp
  | x :: c, l, hc, h => by
    simp only [RepL] at h
    obtain ⟨y, ys, rfl, h1, h2⟩ := h
    have key : plainV y = true ∧ cellsOk c = true := by
      cases x with
      | v v => simp only [cellsOk, Bool.and_eq_true] at hc; simp only [Rep] at h1; subst h1; exact hc
      | lo i => simp only [cellsOk] at hc; simp only [Rep] at h1; exact ⟨h1.2, hc⟩
      | bp i o => simp only [cellsOk] at hc; simp only [Rep] at h1; obtain ⟨g, _, rfl⟩ := h1; exact ⟨rfl, hc⟩
      | pr z xs => simp only [cellsOk] at hc; simp only [Rep] at h1; obtain ⟨A, n, rfl, _⟩ := h1; exact ⟨rfl, hc⟩
      | _ => simp [cellsOk] at hc
    intro u hu
    rcases List.mem_cons.1 hu with rfl | hu
    · exact key.1
    · exact cells_list key.2 h2 u hu
theorem cells_ok {B : Nat} {w : World} {φ : Nat → Value} {x : AV} {y : Value} (hc : cellsOk x.cells = true) (h : Rep B w φ x y) : RepL B w φ x.cells y.cells.toList ∧ ∀ u ∈ y.cells.toList, plainV u = true := by
  have one : ∀ x : AV, cellsOk [x] = true → Rep B w φ x y → RepL B w φ [x] y.cells.toList ∧ ∀ u ∈ y.cells.toList, plainV u = true := fun x hc h => by
    have h1 : RepL B w φ [x] [y] := by simp only [RepL]; exact ⟨y, [], rfl, h, rfl⟩
    have h2 := cells_list hc h1
    have h3 : y.cells = #[y] := plain_cells (h2 y (by simp))
    rw [h3]
    exact ⟨h1, h2⟩
  cases x with
  | ag cs =>
    simp only [Rep] at h
    obtain ⟨l, rfl, h2⟩ := h
    simp only [AV.cells] at hc ⊢
    exact ⟨h2, cells_list hc h2⟩
  | _ => exact one _ hc h
theorem unv_eq {B : Nat} {w : World} {φ : Nat → Value} : ∀ {c : List AV} {l : List Value}, plainOk c = true → RepL B w φ c l → l = unv c
  | [], l, _, h => by simp only [RepL] at h; subst h; rfl
  | x :: c, l, hc, h => by
    simp only [RepL] at h
    obtain ⟨y, ys, rfl, h1, h2⟩ := h
    cases x with
    | v v =>
      simp only [plainOk, Bool.and_eq_true] at hc
      simp only [Rep] at h1
      subst h1
      rw [unv_eq hc.2 h2]
      rfl
    | _ => simp [plainOk] at hc
theorem plainOk_cells : ∀ {c : List AV}, plainOk c = true → cellsOk c = true
  | [], _ => rfl
  | x :: c, h => by
    cases x with
    | v v => simp only [plainOk, Bool.and_eq_true] at h; simp only [cellsOk, Bool.and_eq_true]; exact ⟨h.1, plainOk_cells h.2⟩
    | _ => simp [plainOk] at h
theorem RepL_put {B : Nat} {w : World} {φ : Nat → Value} : ∀ {off : Nat} {c cs : List AV} {k l : List Value}, RepL B w φ c k → RepL B w φ cs l → off + c.length ≤ cs.length → RepL B w φ (putA off c cs) (l.take off ++ k ++ l.drop (off + k.length))
  | off, [], cs, k, l, h1, h2, _ => by
    simp only [RepL] at h1; subst h1
    have : putA off [] cs = cs := by cases off <;> cases cs <;> rfl
    rw [this]; simpa using h2
  | off, c :: c', [], k, l, h1, h2, h => by simp at h
  | 0, c :: c', x :: cs, k, l, h1, h2, h => by
    simp only [RepL] at h1 h2
    obtain ⟨y, ys, rfl, h3, h4⟩ := h1
    obtain ⟨z, zs, rfl, h5, h6⟩ := h2
    have := RepL_put (off := 0) h4 h6 (by simp at h ⊢; omega)
    simp only [putA, RepL]
    refine ⟨y, _, ?_, h3, this⟩
    simp [Nat.add_comm]
  | off + 1, c :: c', x :: cs, k, l, h1, h2, h => by
    simp only [RepL] at h2
    obtain ⟨z, zs, rfl, h5, h6⟩ := h2
    have := RepL_put (off := off) h1 h6 (by simp at h ⊢; omega)
    simp only [putA, RepL]
    refine ⟨z, _, ?_, h5, this⟩
    simp [Nat.add_right_comm]
theorem fold_put : ∀ (l : List Value) (off k : Nat) (cs : Array Value), off + k + l.length ≤ cs.size → (l.zipIdx k).foldl (fun cs (p : Value × Nat) => cs.setIfInBounds (off + p.2) p.1) cs = (cs.toList.take (off + k) ++ l ++ cs.toList.drop (off + k + l.length)).toArray
  | [], off, k, cs, h => by simp
  | x :: l, off, k, cs, h => by
    simp only [List.zipIdx_cons, List.foldl_cons]
    rw [fold_put l off (k + 1) _ (by simp at h ⊢; omega)]
    simp only [List.length_cons] at h
    congr 1
    have hlt : off + k < cs.toList.length := by rw [Array.length_toList]; omega
    simp only [Array.toList_setIfInBounds]
    rw [show off + (k + 1) = off + k + 1 by omega, List.take_set, List.take_add_one, List.getElem?_eq_getElem hlt, List.set_append, if_neg (by rw [List.length_take]; omega)]
    rw [List.drop_set_of_lt (by omega), List.length_take, Nat.min_eq_left (by omega), Nat.sub_self]
    simp only [Option.toList_some, List.set_cons_zero, List.append_assoc, List.cons_append, List.nil_append, List.length_cons]
    rw [show off + k + 1 + l.length = off + k + (l.length + 1) by omega]
theorem nthL_eq : ∀ (l : List (Nat × Nat)) (f : Nat), nthL l f = l[f]?
  | [], f => by simp [nthL]
  | x :: l, 0 => rfl
  | x :: l, f + 1 => by simp only [nthL]; rw [nthL_eq l f]; rfl
theorem fill_bld {B : Nat} {w : World} {φ : Nat → Value} {t : List AV} {a : Act} (ev : ∀ x, Rep B w φ (eT t x) (a.eval x)) {pl : List (Nat × Nat)} : ∀ {ps : List (Nat × Operand)} {cs cs' : List AV} {l : List Value}, bldC pl t ps cs = some cs' → RepL B w φ cs l →
    ∃ l', Instr.fill (fun k => (List.toArray pl)[k]?) (List.toArray l) (ps.map fun p => (p.1, a.eval p.2)) = some (List.toArray l') ∧ RepL B w φ cs' l'
  | [], cs, cs', l, h, hl => by
    simp only [bldC, Option.some.injEq] at h
    subst h
    exact ⟨l, rfl, hl⟩
  | (f, x) :: ps, cs, cs', l, h, hl => by
    simp only [bldC] at h
    obtain ⟨c1, h1, h2⟩ := Option.bind_eq_some_iff.1 h
    unfold bldP at h1
    split at h1
    · rename_i o z e
      split at h1
      · rename_i hc
        obtain ⟨e1, e2, e3⟩ := hc
        obtain rfl := Option.some.inj h1
        obtain ⟨k1, _⟩ := cells_ok e3 (ev x)
        have hlen := RepL_len k1
        have hlen2 := RepL_len hl
        have hp := RepL_put (off := o) k1 hl e2
        obtain ⟨l', g1, g2⟩ := fill_bld ev h2 hp
        refine ⟨l', ?_, g2⟩
        rw [nthL_eq] at e
        simp only [List.map_cons, Instr.fill]
        simp only [List.getElem?_toArray, e]
        have hz : (a.eval x).cells.size = z := by rw [← Array.length_toList]; omega
        rw [if_neg (by simp [hz]; omega)]
        have hf := fold_put (a.eval x).cells.toList o 0 (List.toArray l) (by simp; omega)
        have hf' : (a.eval x).cells.zipIdx.foldl (fun cs (x : Value × Nat) => match x with | (c, j) => cs.setIfInBounds (o + j) c) (List.toArray l) = List.toArray (l.take o ++ (a.eval x).cells.toList ++ l.drop (o + (a.eval x).cells.toList.length)) := by
          rw [Nat.add_zero] at hf
          rw [← hf, ← Array.foldl_toList]
          simp
        rw [hf']
        simpa using g1
      · cases h1
    · cases h1
theorem run_places {P : Program} {w : World} : ∀ {l : List Field} {pl : List (Nat × Nat)}, l.map (fun fl => (fl.offset, (P.info? fl.type).map (·.size))) = pl.map (fun p => (p.1, some p.2)) →
    (l.mapM fun f => (do pure (f.offset, ← sizeOf f.type) : Sem (Nat × Nat))).run P w = .ok pl w
  | [], pl, h => by
    have : pl = [] := by simpa using h.symm
    subst this
    simp
  | fl :: l, [], h => by simp at h
  | fl :: l, p :: pl, h => by
    simp only [List.map_cons, List.cons.injEq, Prod.mk.injEq] at h
    obtain ⟨⟨h1, h2⟩, h3⟩ := h
    obtain ⟨i, e1, e2⟩ := Option.map_eq_some_iff.1 h2
    have ih := run_places (w := w) h3
    have hs : (sizeOf fl.type).run P w = .ok p.2 w := by simp [sizeOf, typeInfo, e1, e2]
    simp only [List.mapM_cons, Sem.run_bind, hs, Result.andThen_ok, Sem.run_pure, ih, h1]
section
variable {P : Program} {ty : TypeId → Option TI} {w0 : World} {t : List AV} {s : Sto} {φ : Nat → Value} {a : Act} {w : World} {o : Oper} {d : Option Nat} {K : Kt} {Q : Exit → Act → World → Prop}
theorem op_build (T : TyOk P ty) (S : Sim w0 t s φ a w) {b : TypeId} {ps : List (Nat × Operand)} (ho : o.op = .build b ⟨ps⟩) (h : bldW (ty b) ps d t s K) : ∃ y, K (pT t d y) s ∧ Ro P w0 φ a w o y := by
  cases ei : ty b with
  | none => rw [ei] at h; exact h.elim
  | some i =>
    rw [ei] at h
    obtain ⟨hg, cs, h1, h2⟩ := h
    have Ti := T b i ei
    obtain ⟨f, f1, _, _, z, f2, f3, _⟩ := Ti.nf
    obtain ⟨l, hu, hpl⟩ := Ti.pl hg
    obtain ⟨l', g1, g2⟩ := fill_bld (a := a) (Sim_ev S) h1 (RepL_vs i.zero)
    refine ⟨_, h2, Ro_val (.agg (List.toArray l')) (by simp only [Rep]; exact ⟨_, rfl, g2⟩) fun w1 hb => ?_⟩
    have hmap : (List.toArray ps).map (fun x => match x with | (i, x) => (i, a.eval x)) = List.toArray (ps.map fun p => (p.1, a.eval p.2)) := by simp
    simp only [execOp, ho, hmap, Instr.build]
    simp only [Sem.run_bind, run_underlying hu, Result.andThen_ok]
    have hz : (zeroValue b).run P w1 = .ok z w1 := by simp [zeroValue, typeInfo, f1, f2]
    simp only [hz, Result.andThen_ok, List.mapM_toArray, Sem.run_bind, run_places hpl, map_eq_pure_bind, Sem.run_pure, f3]
    simp only [g1]
    simp
end
end Go.Proofs.YtkindoepnganmaaGreat.F
end

section
namespace Go.Proofs.YtkindoepnganmaaGreat.F
open Go.RowKit Go.Proofs.YtkindoepnganmaaGreatW.PrintWords Go.Proofs.YtkindoepnganmaaGreatW.PrintLast Go.Proofs.YtkindoepnganmaaGreatW.PrintMore
set_option linter.unusedVariables false
set_option linter.unusedSimpArgs false
theorem RowAt_own {w : World} {B sz : Nat} {e : TypeId} {v : Value} {xs : List (List Value)} (h : w.ownsRow B e sz v xs.length xs.flatten) (hs : rowOk sz xs) (h0 : 0 < sz) : RowAt w.heap.size w sz xs v := by
  rcases h.2 with ⟨rfl, hl⟩ | ⟨g, cap, cur, rfl, h1, h2, h3, h4, h5, h6⟩
  · refine ⟨none, 0, by rw [hl], by omega, by omega, h0, hs, fun hne => absurd (List.eq_nil_of_length_eq_zero hl) hne⟩
  · refine ⟨_, cap, rfl, h3, Nat.le_trans h3 (Nat.le_trans h4 (by decide)), h0, hs, fun hne => ⟨_, rfl, (Array.getElem?_eq_some_iff.1 h2).1, fun j u hu => ?_⟩⟩
    exact h.cells (g := g) rfl j u hu
theorem drop_flat {sz : Nat} : ∀ {xs : List (List Value)} (_ : ∀ x ∈ xs, x.length = sz) (k : Nat), (xs.drop k).flatten = xs.flatten.drop (k * sz)
  | xs, _, 0 => by simp
  | [], _, k + 1 => by simp
  | x :: xs, h, k + 1 => by
    have hx : x.length = sz := h x (by simp)
    rw [List.drop_succ_cons, drop_flat (fun y hy => h y (by simp [hy])) k, List.flatten_cons, List.drop_append, List.drop_of_length_le (l := x) (by rw [hx, Nat.add_mul]; omega), List.nil_append]
    congr 1; rw [hx, Nat.add_mul]; omega
theorem take_flat {sz : Nat} : ∀ {xs : List (List Value)} (_ : ∀ x ∈ xs, x.length = sz) (k : Nat), (xs.take k).flatten = xs.flatten.take (k * sz)
  | xs, _, 0 => by simp
  | [], _, k + 1 => by simp
  | x :: xs, h, k + 1 => by
    have hx : x.length = sz := h x (by simp)
    rw [List.take_succ_cons, List.flatten_cons, take_flat (fun y hy => h y (by simp [hy])) k, List.flatten_cons, List.take_append, List.take_of_length_le (l := x) (by rw [hx, Nat.add_mul]; omega)]
    congr 2; rw [hx, Nat.add_mul]; omega
theorem part_len {xs : List (List Value)} {lo hi : Nat} (h : hi ≤ xs.length) : ((xs.take hi).drop lo).length = hi - lo := by rw [List.length_drop, List.length_take]; omega
theorem RowAt_part {B : Nat} {w : World} {sz : Nat} {xs : List (List Value)} {A : Option Addr} {m c lo hi : Nat} (h : RowAt B w sz xs (.slice A m c)) (h1 : lo ≤ hi) (h2 : hi ≤ m) : RowAt B w sz ((xs.take hi).drop lo) (sliced A lo hi c sz) := by
  obtain ⟨A', c', e, h3, h4, h5, h6, h7⟩ := h
  obtain ⟨rfl, rfl, rfl⟩ : A = A' ∧ m = xs.length ∧ c = c' := by injection e with e1 e2 e3; exact ⟨e1, e2, e3⟩
  have hl := part_len (lo := lo) h2
  have hok : rowOk sz ((xs.take hi).drop lo) := fun x hx => h6 x (List.mem_of_mem_take (List.mem_of_mem_drop hx))
  have hall : ∀ x ∈ xs, x.length = sz := fun x hx => (h6 x hx).1
  refine ⟨if c = lo then A else A.map (·.add (lo * sz)), c - lo, by rw [hl]; rfl, by rw [hl]; omega, by rw [hl]; omega, h5, hok, fun hne => ?_⟩
  have hx : xs ≠ [] := by rintro rfl; simp at hne
  have hlt : lo < hi := by
    apply Classical.byContradiction
    intro hge
    exact hne (List.eq_nil_of_length_eq_zero (by rw [hl]; omega))
  obtain ⟨ad, rfl, h8, h9⟩ := h7 hx
  refine ⟨ad.add (lo * sz), ?_, ?_, fun j u hu => ?_⟩
  · rw [if_neg (by omega)]; rfl
  · have : (ad.add (lo * sz)).block = ad.block := by unfold Addr.add; split <;> rfl
    rw [this]; exact h8
  · rw [addr_add_add]
    refine h9 _ u ?_
    rw [drop_flat (fun x hx => hall x (List.mem_of_mem_take hx)), take_flat hall, List.getElem?_drop, List.getElem?_take] at hu
    split at hu
    · exact hu
    · cases hu
mutual
theorem toP_ok {w0 : World} {t : List AV} {s : Sto} {φ : Nat → Value} {a : Act} {w : World} (S : Sim w0 t s φ a w) : ∀ {x : AV} {y : Value}, Rep w0.heap.size w0 φ x y → Rep w.heap.size w (fun _ => undef) (toP s x) y
  | .u, _, _ => by simp [toP, Rep]
  | .v x, y, h => by
    simp only [Rep] at h
    subst h
    unfold toP
    split
    · simp only [Rep]
      exact ⟨none, 0, rfl, by simp, by simp, by decide, fun x hx => by simp at hx, by simp⟩
    · simp [Rep]
  | .ag cs, y, h => by
    simp only [Rep] at h
    obtain ⟨l, h1, h2⟩ := h
    simp only [toP, Rep]
    exact ⟨l, h1, toPL_ok S h2⟩
  | .tu _, _, _ => by simp [toP, Rep]
  | .pr z xs, y, h => by
    simp only [Rep] at h
    simp only [toP, Rep]
    obtain ⟨A, c, h1, h2, h3, h4, h5, h6⟩ := h
    refine ⟨A, c, h1, h2, h3, h4, h5, fun hne => ?_⟩
    obtain ⟨ad, h7, h8, h9⟩ := h6 hne
    refine ⟨ad, h7, Nat.lt_of_lt_of_le h8 S.below.size, fun j u hu => ?_⟩
    have : (ad.add j).block = ad.block := by unfold Addr.add; split <;> rfl
    rw [S.below.cell (by rw [this]; exact h8)]
    exact h9 j u hu
  | .ow _ _ _, _, _ => by simp [toP, Rep]
  | .lo id, y, h => by
    simp only [Rep] at h
    obtain ⟨rfl, _⟩ := h
    unfold toP
    split
    · rename_i e sz xs eb
      obtain ⟨b1, b2, b3⟩ := S.blk id _ eb
      simp only [Rep]
      exact RowAt_own b1 b2 b3
    · simp [Rep]
  | .bp _ _, _, _ => by simp [toP, Rep]
  | .pe _, _, _ => by simp [toP, Rep]
  | .le _ _ _ _, _, _ => by simp [toP, Rep]
  | .vw id z lo hi, y, h => by
    unfold toP tpV
    split
    · rename_i e sz xs eb
      split
      · rename_i ez
        subst ez
        obtain ⟨b1, b2, b3⟩ := S.blk id _ eb
        simp only [Rep] at h ⊢
        obtain ⟨A, m, c, h1, h2, h3, rfl⟩ := h
        have hr := RowAt_own b1 b2 b3
        rw [h1] at hr
        exact RowAt_part hr h2 h3
      · simp [Rep]
    · simp [Rep]
theorem toPL_ok {w0 : World} {t : List AV} {s : Sto} {φ : Nat → Value} {a : Act} {w : World} (S : Sim w0 t s φ a w) : ∀ {x : List AV} {y : List Value}, RepL w0.heap.size w0 φ x y → RepL w.heap.size w (fun _ => undef) (toPL s x) y
  | [], y, h => by simpa [toPL, RepL] using h
  | c :: cs, y, h => by
    simp only [RepL] at h
    obtain ⟨z, zs, h1, h2, h3⟩ := h
    simp only [toPL, RepL]
    exact ⟨z, zs, h1, toP_ok S h2, toPL_ok S h3⟩
end
section
variable {P : Program} {ty : TypeId → Option TI} {w0 : World} {t : List AV} {s : Sto} {φ : Nat → Value} {a : Act} {w : World} {o : Oper} {d : Option Nat} {K : Kt}
theorem mapE_ok (S : Sim w0 t s φ a w) : ∀ l : List Operand, RepL w0.heap.size w0 φ (mapE t l) (l.map a.eval)
  | [] => by simp [mapE, RepL]
  | x :: l => by
    simp only [mapE, List.map_cons, RepL]
    exact ⟨_, _, rfl, Sim_ev S x, mapE_ok S l⟩
theorem run_call {f : FuncId} {l : List Operand} {ats : Array TypeId} (he : ∀ xs w, (callFunc f xs).run P w = .ok (.enter f xs) w) (ho : o.op = .call ⟨.value (.func f), ⟨l⟩, ats⟩) (w1 : World) :
    (execOp a.eval o).run P w1 = .ok (.enter f (List.toArray (l.map a.eval))) w1 := by
  simp [execOp, ho, resolve, Deferred.ofValue, invoke, Act.eval, he]
mutual
theorem RepR_pln {B : Nat} {w : World} : ∀ {r : AV} {y : Value} {L : List Nat}, pln r = true → RepR B w r y L → y = vlu r ∧ L = []
  | .v x, y, L, _, h => by simpa [RepR, vlu] using h
  | .ag cs, y, L, hp, h => by
    simp only [RepR] at h
    simp only [pln] at hp
    obtain ⟨l, rfl, h⟩ := h
    obtain ⟨rfl, rfl⟩ := RepRL_pln hp h
    exact ⟨by simp [vlu], rfl⟩
  | .tu cs, y, L, hp, h => by
    simp only [RepR] at h
    simp only [pln] at hp
    obtain ⟨l, rfl, h⟩ := h
    obtain ⟨rfl, rfl⟩ := RepRL_pln hp h
    exact ⟨by simp [vlu], rfl⟩
  | .u, _, _, hp, _ => by simp [pln] at hp
  | .pr _ _, _, _, hp, _ => by simp [pln] at hp
  | .ow _ _ _, _, _, hp, _ => by simp [pln] at hp
  | .lo _, _, _, hp, _ => by simp [pln] at hp
  | .bp _ _, _, _, hp, _ => by simp [pln] at hp
  | .pe _, _, _, hp, _ => by simp [pln] at hp
  | .le _ _ _ _, _, _, hp, _ => by simp [pln] at hp
  | .vw _ _ _ _, _, _, hp, _ => by simp [pln] at hp
theorem RepRL_pln {B : Nat} {w : World} : ∀ {r : List AV} {y : List Value} {L : List Nat}, plnL r = true → RepRL B w r y L → y = vluL r ∧ L = []
  | [], y, L, _, h => by simpa [RepRL, vluL] using h
  | c :: cs, y, L, hp, h => by
    simp only [RepRL] at h
    simp only [plnL, Bool.and_eq_true] at hp
    obtain ⟨z, zs, L1, L2, rfl, rfl, h1, h2⟩ := h
    obtain ⟨rfl, rfl⟩ := RepR_pln hp.1 h1
    obtain ⟨rfl, rfl⟩ := RepRL_pln hp.2 h2
    exact ⟨by simp [vluL], rfl⟩
end
mutual
theorem im_pln : ∀ {r : AV} (n : Nat), pln r = true → im n r = (r, [], n)
  | .v x, n, _ => rfl
  | .ag cs, n, hp => by simp only [pln] at hp; simp [im, imL_pln n hp]
  | .tu cs, n, hp => by simp only [pln] at hp; simp [im, imL_pln n hp]
  | .u, _, hp => by simp [pln] at hp
  | .pr _ _, _, hp => by simp [pln] at hp
  | .ow _ _ _, _, hp => by simp [pln] at hp
  | .lo _, _, hp => by simp [pln] at hp
  | .bp _ _, _, hp => by simp [pln] at hp
  | .pe _, _, hp => by simp [pln] at hp
  | .le _ _ _ _, _, hp => by simp [pln] at hp
  | .vw _ _ _ _, _, hp => by simp [pln] at hp
theorem imL_pln : ∀ {r : List AV} (n : Nat), plnL r = true → imL n r = (r, [], n)
  | [], n, _ => rfl
  | c :: cs, n, hp => by
    simp only [plnL, Bool.and_eq_true] at hp
    simp [imL, im_pln n hp.1, imL_pln n hp.2]
end
mutual
theorem Rep_plnE {B : Nat} {w : World} {φ : Nat → Value} : ∀ {r : AV} {y : Value}, pln r = true → Rep B w φ r y → y = vlu r
  | .v x, y, _, h => by simpa [Rep, vlu] using h
  | .ag cs, y, hp, h => by
    simp only [pln] at hp
    simp only [Rep] at h
    obtain ⟨l, rfl, h⟩ := h
    rw [RepL_plnE hp h]; rfl
  | .tu cs, y, hp, h => by
    simp only [pln] at hp
    simp only [Rep] at h
    obtain ⟨l, rfl, h⟩ := h
    rw [RepL_plnE hp h]; rfl
  | .u, _, hp, _ => by simp [pln] at hp
  | .pr _ _, _, hp, _ => by simp [pln] at hp
  | .ow _ _ _, _, hp, _ => by simp [pln] at hp
  | .lo _, _, hp, _ => by simp [pln] at hp
  | .bp _ _, _, hp, _ => by simp [pln] at hp
  | .pe _, _, hp, _ => by simp [pln] at hp
  | .le _ _ _ _, _, hp, _ => by simp [pln] at hp
  | .vw _ _ _ _, _, hp, _ => by simp [pln] at hp
theorem RepL_plnE {B : Nat} {w : World} {φ : Nat → Value} : ∀ {r : List AV} {y : List Value}, plnL r = true → RepL B w φ r y → y = vluL r
  | [], y, _, h => by simpa [RepL, vluL] using h
  | c :: cs, y, hp, h => by
    simp only [plnL, Bool.and_eq_true] at hp
    simp only [RepL] at h
    obtain ⟨z, zs, rfl, h1, h2⟩ := h
    rw [Rep_plnE hp.1 h1, RepL_plnE hp.2 h2]; rfl
end
mutual
theorem Rep_pln {B : Nat} {w : World} {φ : Nat → Value} : ∀ {r : AV}, pln r = true → Rep B w φ r (vlu r)
  | .v x, _ => by simp [Rep, vlu]
  | .ag cs, hp => by simp only [pln] at hp; simp only [Rep, vlu]; exact ⟨_, rfl, RepL_pln hp⟩
  | .tu cs, hp => by simp only [pln] at hp; simp only [Rep, vlu]; exact ⟨_, rfl, RepL_pln hp⟩
  | .u, hp => by simp [pln] at hp
  | .pr _ _, hp => by simp [pln] at hp
  | .ow _ _ _, hp => by simp [pln] at hp
  | .lo _, hp => by simp [pln] at hp
  | .bp _ _, hp => by simp [pln] at hp
  | .pe _, hp => by simp [pln] at hp
  | .le _ _ _ _, hp => by simp [pln] at hp
  | .vw _ _ _ _, hp => by simp [pln] at hp
theorem RepL_pln {B : Nat} {w : World} {φ : Nat → Value} : ∀ {r : List AV}, plnL r = true → RepL B w φ r (vluL r)
  | [], _ => by simp [RepL, vluL]
  | c :: cs, hp => by
    simp only [plnL, Bool.and_eq_true] at hp
    simp only [RepL, vluL]
    exact ⟨_, _, rfl, Rep_pln hp.1, RepL_pln hp.2⟩
end
theorem ro_call (S : Sim w0 t s φ a w) {q : Bool} {f : FuncId} {l : List Operand} {ats : Array TypeId} (ho : o.op = .call ⟨.value (.func f), ⟨l⟩, ats⟩) (h : callW P q f (mapE t l) d t s K) :
    (∃ y, K (pT t d y) s ∧ Ro P w0 φ a w o y) ∨ (q = false ∧ ((∃ res, Ctr P f (toPL s (mapE t l)) res ∧ bindW false res d t s K) ∨ turnW P f (mapE t l) d t s K)) := by
  rcases h with ⟨res, hc, hb⟩ | ⟨h1, h2⟩
  case inr => exact .inr ⟨h1, .inr h2⟩
  have key : pln res = true → (∃ y, K (pT t d y) s ∧ y = res) → ∃ y, K (pT t d y) s ∧ Ro P w0 φ a w o y := by
    rintro hp ⟨y, hK, rfl⟩
    refine ⟨y, hK, vlu y, Rep_pln hp, fun w1 hw => ?_⟩
    have S1 := Sim_below S hw
    have hC := hc.2 w1 (l.map a.eval) (toPL_ok S1 (mapE_ok S1 l))
    unfold Oper.quietAt
    rw [run_call hc.1 ho]
    refine ⟨rfl, hC.mono ?_⟩
    rintro e w2 ⟨z, L, rfl, h1, _, h2⟩
    rw [(RepR_pln hp h1).1]
    exact ⟨rfl, hw.trans (h2.mono hw.size)⟩
  by_cases hp : pln res = true
  · left
    refine key hp ⟨_, ?_, rfl⟩
    cases res with
    | v x => simpa [bindW] using hb
    | ag cs =>
      cases d with
      | none => simp only [bindW] at hb; exact hb.2
      | some d => simp only [bindW, im_pln _ hp, List.nil_append] at hb; exact hb.2.2.2
    | tu cs =>
      cases d with
      | none => simp only [bindW] at hb; exact hb.2
      | some d => simp only [bindW, im_pln _ hp, List.nil_append] at hb; exact hb.2.2.2
    | _ => simp [pln] at hp
  · right
    have hp : pln res = false := by simpa using hp
    have hq : q = false := by
      cases res with
      | v x => simp [pln] at hp
      | _ => cases d <;> simp only [bindW, hp, Bool.not_false, Bool.and_true] at hb <;> exact hb.1
    subst hq
    exact ⟨rfl, .inl ⟨_, hc, hb⟩⟩
theorem run_slc {b e : TypeId} {j : TI} (hu : P.underlying b = some (.slice e)) (hj : TIok P ty e j) {x : Operand} {lo hi : Option Operand} {vlo vhi : Option AV} (ho : o.op = .slice b x lo hi none) {A : Option Addr} {len cap : Nat} (hx : a.eval x = .slice A len cap) (hc : len ≤ cap) {l h : Int}
    (el : loN vlo = some l) (eh : hiN len vhi = some h) (rl : ∀ y, lo = some y → ∃ n k, vlo = some (.v (.int k n)) ∧ a.eval y = .int k n) (rh : ∀ y, hi = some y → ∃ n k, vhi = some (.v (.int k n)) ∧ a.eval y = .int k n) (nl : lo = none → vlo = none) (nh : hi = none → vhi = none)
    (h0 : 0 ≤ l) (h1 : l ≤ h) (h2 : h ≤ (len : Int)) (w1 : World) : (execOp a.eval o).run P w1 = .ok (.value (sliced A l.toNat h.toNat cap j.size)) w1 := by
  have hel : P.elem b = e := by simp [Program.elem, hu]
  have hu' : P.underlying b = some (.slice (P.elem b)) := by rw [hel]; exact hu
  have hs := run_size hj w1
  cases lo with
  | none =>
    have := nl rfl
    subst this
    obtain rfl : (0 : Int) = l := by simpa [loN] using el
    cases hi with
    | none =>
      have := nh rfl
      subst this
      obtain rfl : (len : Int) = h := by simpa [hiN] using eh
      have := run_slice_all (P := P) w1 b A len cap hu'
      rw [hel, hs] at this
      simp [execOp, ho, hx, run_sliceAt_slice (P := P) w1 b _ _ _ _ hu', this, Result.andThen]
    | some y =>
      obtain ⟨n, k, rfl, e⟩ := rh y rfl
      obtain rfl : n = h := by simpa [hiN] using eh
      have := run_slice_h (P := P) w1 b A len cap hu' k n (by omega) (by omega)
      rw [hel, hs] at this
      simp [execOp, ho, hx, e, run_sliceAt_slice (P := P) w1 b _ _ _ _ hu', this, Result.andThen]
  | some z =>
    obtain ⟨m, q, rfl, e0⟩ := rl z rfl
    obtain rfl : m = l := by simpa [loN] using el
    cases hi with
    | none =>
      have := nh rfl
      subst this
      obtain rfl : (len : Int) = h := by simpa [hiN] using eh
      have := run_slice_l (P := P) w1 b A len cap hu' q m (by omega) (by omega)
      rw [hel, hs] at this
      simp [execOp, ho, hx, e0, run_sliceAt_slice (P := P) w1 b _ _ _ _ hu', this, Result.andThen]
    | some y =>
      obtain ⟨n, k, rfl, e⟩ := rh y rfl
      obtain rfl : n = h := by simpa [hiN] using eh
      have := run_slice_lh (P := P) w1 b A len cap hu' q k m n (by omega) (by omega) (by omega)
      rw [hel, hs] at this
      simp [execOp, ho, hx, e0, e, run_sliceAt_slice (P := P) w1 b _ _ _ _ hu', this, Result.andThen]
theorem opt_int (S : Sim w0 t s φ a w) {lo : Option Operand} (hs : ∀ v, lo.map (eT t) = some v → ∃ n k, v = .v (.int k n)) : (∀ y, lo = some y → ∃ n k, lo.map (eT t) = some (.v (.int k n)) ∧ a.eval y = .int k n) ∧ (lo = none → lo.map (eT t) = none) := by
  refine ⟨fun y hy => ?_, fun hy => by rw [hy]; rfl⟩
  subst hy
  obtain ⟨n, k, e⟩ := hs _ rfl
  have := Sim_ev S y
  rw [e] at this
  simp only [Rep] at this
  exact ⟨n, k, by simp [e], this⟩
theorem loN_int {lo : Option AV} {l : Int} (h : loN lo = some l) : ∀ v, lo = some v → ∃ n k, v = .v (.int k n) := fun v e => by
  subst e
  unfold loN at h
  split at h
  · rename_i e; cases e
  · rename_i e; injection e with e; exact ⟨_, _, e⟩
  · cases h
theorem hiN_int {len : Nat} {lo : Option AV} {l : Int} (h : hiN len lo = some l) : ∀ v, lo = some v → ∃ n k, v = .v (.int k n) := fun v e => by
  subst e
  unfold hiN at h
  split at h
  · rename_i e; cases e
  · rename_i e; injection e with e; exact ⟨_, _, e⟩
  · cases h
theorem ro_slc (T : TyOk P ty) (S : Sim w0 t s φ a w) {b : TypeId} {x : Operand} {lo hi : Option Operand} (ho : o.op = .slice b x lo hi none) (h : slcW ty (ty b) (eT t x) (lo.map (eT t)) (hi.map (eT t)) d t s K) : ∃ y, K (pT t d y) s ∧ Ro P w0 φ a w o y := by
  have hx := Sim_ev S x
  cases ei : ty b with
  | none => rw [ei] at h; simp [slcW] at h
  | some i =>
    rw [ei] at h
    cases ex : eT t x with
    | pr z xs =>
      rw [ex] at h hx
      simp only [slcW] at h
      obtain ⟨j, ej, h⟩ := h
      have hu := (T b i ei).el j ej
      cases el : loN (lo.map (eT t)) with
      | none => rw [el] at h; simp [slcP] at h
      | some l =>
        rw [el] at h
        simp only [slcP] at h
        obtain ⟨hh, eh, hz, h0, h1, h2, hK⟩ := h
        simp only [Rep] at hx
        obtain ⟨A, c, e1, e2, e3⟩ := id hx
        obtain ⟨r1, r2⟩ := opt_int S (loN_int el)
        obtain ⟨r3, r4⟩ := opt_int S (hiN_int eh)
        refine ⟨_, hK, Ro_val (sliced A l.toNat hh.toNat c j.size) ?_ fun w1 hb => run_slc hu (T _ j ej) ho e1 e2 el eh r1 r3 r2 r4 h0 h1 h2 w1⟩
        simp only [Rep]
        rw [hz]
        rw [e1] at hx
        exact RowAt_part hx (by omega) (by omega)
    | lo id =>
      rw [ex] at h hx
      simp only [slcW] at h
      obtain ⟨j, ej, h⟩ := h
      have hu := (T b i ei).el j ej
      cases eb : gS s id with
      | none => rw [eb] at h; simp [slcR] at h
      | some bl =>
        cases bl with
        | box tb cs => rw [eb] at h; simp [slcR] at h
        | row e sz xs =>
          rw [eb] at h
          cases el : loN (lo.map (eT t)) with
          | none => rw [el] at h; simp [slcR] at h
          | some l =>
            rw [el] at h
            simp only [slcR] at h
            obtain ⟨hh, eh, hz, h0, h1, h2, hK⟩ := h
            simp only [Rep] at hx
            obtain ⟨b1, b2, b3⟩ := S.blk id _ eb
            obtain ⟨A, c, e1, e2, e3, e4⟩ := RowAt_own b1 b2 b3
            obtain ⟨r1, r2⟩ := opt_int S (loN_int el)
            obtain ⟨r3, r4⟩ := opt_int S (hiN_int eh)
            refine ⟨_, hK, Ro_val (sliced A l.toNat hh.toNat c j.size) ?_ fun w1 hb => run_slc hu (T _ j ej) ho (hx.1.trans e1) e2 el eh r1 r3 r2 r4 h0 h1 h2 w1⟩
            simp only [Rep]
            exact ⟨A, _, c, e1, by omega, by omega, by rw [hz]⟩
    | _ => rw [ex] at h; simp [slcW] at h
theorem opX_ro (T : TyOk P ty) (S : Sim w0 t s φ a w) {q : Bool} (hr : ro o.op = true) (h : opX P ty q o.op o.type o.dst t s K) :
    (∃ y, K (pT t o.dst y) s ∧ Ro P w0 φ a w o y) ∨ (q = false ∧ ∃ f l ats, o.op = .call ⟨.value (.func f), ⟨l⟩, ats⟩ ∧ ((∃ res, Ctr P f (toPL s (mapE t l)) res ∧ bindW false res o.dst t s K) ∨ turnW P f (mapE t l) o.dst t s K)) := by
  cases ho : o.op with
  | move x => rw [ho] at h; exact .inl (ro_move S (.inl ho) h)
  | assign x =>
    rw [ho] at h hr
    left
    refine ro_move S (.inr ho) ?_
    cases x with
    | const v =>
      cases v with
      | slice A n c => simp [ro] at hr
      | _ => simpa [opX] using h
    | _ => simpa [opX] using h
  | pick c x y => rw [ho] at h; exact .inl (ro_pick S ho h)
  | load b x => rw [ho] at h; exact .inl (ro_load T S ho h)
  | fieldAddr b x f => rw [ho] at h; exact .inl (ro_fa T S ho h)
  | indexAddr b x i => rw [ho] at h; exact .inl (ro_idx T S ho h)
  | binOp op b x y c => rw [ho] at h; exact .inl (ro_bin T S ho h)
  | unOp op b x =>
    rw [ho] at h
    cases op with
    | not => exact .inl (ro_not S ho h)
    | _ => exact h.elim
  | extract x n => rw [ho] at hr; simp [ro] at hr
  | build b ps =>
    rw [ho] at h
    obtain ⟨ps⟩ := ps
    exact .inl (op_build T S ho h)
  | nilCheck x => rw [ho] at h; exact .inl (ro_chk S ho h)
  | slice b x lo hi mx =>
    cases mx with
    | some m => rw [ho] at hr; simp [ro] at hr
    | none => rw [ho] at h; exact .inl (ro_slc T S ho h)
  | call c =>
    rw [ho] at h
    obtain ⟨callee, ⟨args⟩, ⟨ats⟩⟩ := c
    simp only [opX] at h
    cases callee with
    | value f =>
      cases f with
      | func f =>
        simp only [cW] at h
        rcases ro_call S ho h with h | ⟨h1, h2⟩
        · exact .inl h
        · exact .inr ⟨h1, f, args, ⟨ats⟩, rfl, h2⟩
      | _ => simp [cW] at h
    | invoke r m => simp [cW] at h
    | builtin b =>
      rw [ho] at hr
      cases b <;> first | (simp [ro] at hr; done) | skip
      · match args, ats, h, ho with
        | [x], [b], h, ho => exact .inl (ro_len T S ho h.1 h.2)
        | [], _, h, _ => simp [cW] at h
        | [_], [], h, _ => simp [cW] at h
        | [_], _ :: _ :: _, h, _ => simp [cW] at h
        | _ :: _ :: _, _, h, _ => simp [cW] at h
      · match args, h, ho with
        | [x, y], h, ho => exact .inl (ro_mm (mi := false) S ho h)
        | [], h, _ => simp [cW] at h
        | [_], h, _ => simp [cW] at h
        | _ :: _ :: _ :: _, h, _ => simp [cW] at h
      · match args, h, ho with
        | [x, y], h, ho => exact .inl (ro_mm (mi := true) S ho h)
        | [], h, _ => simp [cW] at h
        | [_], h, _ => simp [cW] at h
        | _ :: _ :: _ :: _, h, _ => simp [cW] at h
  | _ => rw [ho] at hr; simp [ro] at hr
end
end Go.Proofs.YtkindoepnganmaaGreat.F
end

section
namespace Go.Proofs.YtkindoepnganmaaGreat.F
open Go.RowKit Go.Proofs.YtkindoepnganmaaGreatW.PrintWords Go.Proofs.YtkindoepnganmaaGreatW.PrintLast Go.Proofs.YtkindoepnganmaaGreatW.PrintMore
set_option linter.unusedVariables false
set_option linter.unusedSimpArgs false
section
variable {P : Program} {ty : TypeId → Option TI} {w0 : World} {t : List AV} {s : Sto} {φ : Nat → Value} {a : Act} {w : World} {o : Oper} {d : Option Nat} {K : Kt} {Q : Exit → Act → World → Prop}
def Nx (w0 : World) (K : Kt) (a : Act) (w : World) : Prop := ∃ φ t s, K t s ∧ Sim w0 t s φ a w
theorem wp_val {v : Value} {w1 : World} (h : (execOp a.eval o).run P w = .ok (.value v) w1) (hn : Nx w0 K (a.put o.dst v) w1) : o.wp P a w (Nx w0 K) Q := by
  unfold Oper.wp; rw [h]; exact hn
theorem wp_skip' {w1 : World} (h : (execOp a.eval o).run P w = .ok .skip w1) (hn : Nx w0 K (a.put o.dst undef) w1) : o.wp P a w (Nx w0 K) Q := by
  unfold Oper.wp; rw [h]; exact hn
theorem wp_box (S : Sim w0 t s φ a w) {b : TypeId} {c : List AV} {l : List Value} (h : boxW b c o.dst t s K) (hl : RepL w0.heap.size w0 φ c l) (hf : ∀ j, free j t s = true → AV.frL j c = true)
    (hr : (execOp a.eval o).run P w = .ok (.value (.pointer (some ⟨w.heap.size, 0, none⟩))) (w.alloc (.cells (List.toArray l) b))) : o.wp P a w (Nx w0 K) Q := by
  cases ed : o.dst with
  | none => rw [ed] at h; exact h.elim
  | some d =>
    rw [ed] at h
    obtain ⟨h1, h2, h3⟩ := h
    refine wp_val hr ⟨upd φ (16 * d) (.pointer (some ⟨w.heap.size, 0, none⟩)), _, _, h3, ?_⟩
    have hn : Sim w0 t (uS s (16 * d) (.box b c)) (upd φ (16 * d) (.pointer (some ⟨w.heap.size, 0, none⟩))) a (w.alloc (.cells (List.toArray l) b)) := by
      refine Sim_new S h2 (S.below.alloc S.below.size _) (fun i e k hi hne hk => ?_) ?_
      · have hlt := (BlkOk_lt (S.blk i e hi) hk).2
        exact ⟨Below.heap_alloc w _ k hlt, by simp only [bk, ne_eq, Option.some.injEq]; omega⟩
      · exact ⟨w.heap.size, l, upd_same _ _ _, S.below.size, heap_alloc_new w _, RepL_fr (upd_ne φ _ _) (hf _ h2) hl⟩
    rw [ed]
    exact Sim_put hn (some d) (y := .bp (16 * d) 0) (by simp only [Rep]; exact ⟨_, upd_same _ _ _, rfl⟩)
theorem RepL_forget {B : Nat} {w : World} : ∀ {t : List AV} {l : List Value} (d : Nat), RepL B w φ t l → RepL B w φ (sT t d .u) l
  | [], l, d, h => by simpa [sT] using h
  | x :: t, l, 0, h => by
    simp only [RepL] at h
    simp only [sT, RepL]
    obtain ⟨y, ys, rfl, _, h2⟩ := h
    exact ⟨y, ys, rfl, by simp [Rep], h2⟩
  | x :: t, l, d + 1, h => by
    simp only [RepL] at h
    simp only [sT, RepL]
    obtain ⟨y, ys, rfl, h1, h2⟩ := h
    exact ⟨y, ys, rfl, h1, RepL_forget d h2⟩
theorem Sim_forget (S : Sim w0 t s φ a w) (d : Nat) : Sim w0 (sT t d .u) s φ a w := { S with tmp := RepL_forget d S.tmp }
theorem sT_sT : ∀ (t : List AV) (d : Nat) (x y : AV), sT (sT t d x) d y = sT t d y
  | [], d, x, y => rfl
  | z :: t, 0, x, y => rfl
  | z :: t, d + 1, x, y => by simp only [sT, sT_sT t d x y]
theorem wp_row (S : Sim w0 t s φ a w) {e : TypeId} {sz : Nat} {xs : List (List Value)} {y : Value} {w1 : World} (h : rowW e sz xs o.dst t s K) (hr : (execOp a.eval o).run P w = .ok (.value y) w1)
    (hb : Below w.heap.size w w1) (hy : ∀ k, bk y = some k → w.heap.size ≤ k) (ho : w1.ownsRow w0.heap.size e sz y xs.length xs.flatten) (hx : rowOk sz xs) (h0 : 0 < sz) : o.wp P a w (Nx w0 K) Q := by
  cases ed : o.dst with
  | none => rw [ed] at h; exact h.elim
  | some d =>
    rw [ed] at h
    obtain ⟨h2, h3⟩ := h
    have hp : plainV y = true := by
      obtain ⟨A, c, rfl⟩ := own_slice ho
      rfl
    refine wp_val hr ⟨upd φ (16 * d) y, _, _, h3, ?_⟩
    have hn : Sim w0 (sT t d .u) (uS s (16 * d) (.row e sz xs)) (upd φ (16 * d) y) a w1 := by
      refine Sim_new (Sim_forget S d) h2 (S.below.trans (hb.mono S.below.size)) (fun i c k hi hne hk => ?_) ?_
      · have hlt := (BlkOk_lt (S.blk i c hi) hk).2
        exact ⟨hb.block k hlt, fun e' => by have := hy k e'; omega⟩
      · show _ ∧ _
        rw [upd_same]
        exact ⟨ho, hx, h0⟩
    rw [ed]
    have := Sim_put hn (some d) (y := .lo (16 * d)) (by simp only [Rep]; rw [upd_same]; exact ⟨rfl, hp⟩)
    simp only [pT, sT_sT] at this
    exact this
theorem op_box (S : Sim w0 t s φ a w) {b : TypeId} {x : Operand} (ho : o.op = .box b x) (h : boxW b (eT t x).cells o.dst t s K) : o.wp P a w (Nx w0 K) Q := by
  have hc : cellsOk (eT t x).cells = true := by
    cases ed : o.dst with
    | none => rw [ed] at h; exact h.elim
    | some d => rw [ed] at h; exact h.1
  obtain ⟨h1, h2⟩ := cells_ok hc (Sim_ev S x)
  refine wp_box S h h1 (fun j hj => fr_cells (fr_eT (free_blk hj).1 x)) ?_
  simp [execOp, ho, Instr.box, newVar, newRow]
theorem op_alloc (T : TyOk P ty) (S : Sim w0 t s φ a w) {b : TypeId} (ho : o.op = .alloc b) (h : alW b (ty b) o.dst t s K) : o.wp P a w (Nx w0 K) Q := by
  cases ei : ty b with
  | none => rw [ei] at h; exact h.elim
  | some i =>
    rw [ei] at h
    obtain ⟨f, h1, _, _, z, h2, h3, _⟩ := (T b i ei).nf
    refine wp_box S h (RepL_vs _) (fun j _ => frL_vs _) ?_
    simp [execOp, ho, Instr.alloc, zeroValue, typeInfo, h1, h2, newVar, newRow, h3]
theorem op_nil (T : TyOk P ty) (S : Sim w0 t s φ a w) (ho : o.op = .assign (.const (.slice none 0 0))) (h : nilW ty (ty o.type) o.dst t s K) : o.wp P a w (Nx w0 K) Q := by
  cases ei : ty o.type with
  | none => rw [ei] at h; exact h.elim
  | some i =>
    rw [ei] at h
    obtain ⟨j, ej, h1, h2⟩ := h
    refine wp_row S (y := .slice none 0 0) (w1 := w) h2 (by simp [execOp, ho, Act.eval]) (Below.refl _ _) (fun k hk => by simp [bk] at hk) ?_ (fun x hx => by simp at hx) h1
    exact World.ownsRow_nil _ _ _ _
theorem mkW_inv {I : Option TI} {x y : AV} {d : Option Nat} (h : mkW ty I x y d t s K) : ∃ i n j, I = some i ∧ x = .v (.int .i64 n) ∧ y = .v (.int .i64 n) ∧ ty i.el = some j ∧ 0 ≤ n ∧ n * (j.bytes : Int) ≤ 281474976710656 ∧ 0 < j.bytes ∧ j.size = 1 ∧ j.agg = false ∧ rowW i.el 1 (List.replicate n.toNat j.zero) d t s K := by
  unfold mkW at h
  split at h
  · obtain ⟨j, ej, rfl, h⟩ := h
    exact ⟨_, _, j, rfl, rfl, rfl, ej, h⟩
  · exact h.elim
theorem op_make (T : TyOk P ty) (S : Sim w0 t s φ a w) {b : TypeId} {x y : Operand} (ho : o.op = .makeSlice b x y) (h : mkW ty (ty b) (eT t x) (eT t y) o.dst t s K) : o.wp P a w (Nx w0 K) Q := by
  have hx := Sim_ev S x
  have hy := Sim_ev S y
  obtain ⟨i, n, j, ei, e1, e2, ej, h0, h1, h2, h3, h3', h4⟩ := mkW_inv h
  rw [e1] at hx
  rw [e2] at hy
  simp only [Rep] at hx hy
  obtain ⟨f, f1, f2, f3, z, f4, f5, f6⟩ := (T _ j ej).nf
  have hu := (T b i ei).el j ej
  obtain ⟨q, rfl⟩ := Int.eq_ofNat_of_zero_le h0
  have f7 := f6 h3'
  have hjz : j.zero = [z] := by
    rw [f7] at f5
    have := congrArg Array.toList f5
    simpa using this.symm
  have hpl : plainV z = true := by have := (T _ j ej).zl.2; rw [hjz] at this; simpa using this
  have hbn : j.bytes * q ≤ 281474976710656 := by rw [Nat.mul_comm]; exact Int.ofNat_le.1 (by rw [Int.natCast_mul]; exact h1)
  have hq : q ≤ 281474976710656 := Nat.le_trans (Nat.le_mul_of_pos_left _ h2) hbn
  have hrun := run_make_row' (P := P) b i.el z j.bytes hu (by rw [f1]; simp [f4, f2, f3, h3]) f7 .i64 .i64 q hbn (by omega) w
  rw [hjz] at h4
  refine wp_row S (y := .slice (some ⟨w.heap.size, 0, none⟩) q q) (w1 := w.alloc (.cells (madeCells #[z] q) i.el)) h4 (by simp [execOp, ho, hx, hy, hrun]) ((Below.refl _ w).alloc (Nat.le_refl _) _) (fun k hk => by simp [bk] at hk; omega) ?_ (fun x hx => ?_) (by decide)
  · have := World.ownsRow_lit (base := w0.heap.size) (e := i.el) (size := 1) w (madeCells #[z] q) q S.below.size (by simp only [maxLen]; omega) (by simp [size_madeCells])
    have hl : (madeCells #[z] q).toList = (List.replicate q [z]).flatten := by
      apply List.ext_getElem
      · simp [madeCells]
      · intro k h1 h2
        simp [madeCells, Nat.mod_one]
    rw [hl] at this
    simpa using this
  · obtain rfl := (List.mem_replicate.1 hx).2
    refine ⟨by simp, fun u hu => ?_⟩
    simp at hu; subst hu; exact hpl
end
end Go.Proofs.YtkindoepnganmaaGreat.F
end

section
namespace Go.Proofs.YtkindoepnganmaaGreat.F
open Go.RowKit Go.Proofs.YtkindoepnganmaaGreatW.PrintWords Go.Proofs.YtkindoepnganmaaGreatW.PrintLast Go.Proofs.YtkindoepnganmaaGreatW.PrintMore
set_option linter.unusedVariables false
set_option linter.unusedSimpArgs false
theorem Sim_upd {w0 : World} {t : List AV} {s : Sto} {φ : Nat → Value} {a : Act} {w w1 : World} (S : Sim w0 t s φ a w) {id : Nat} {b b' : Blk} (hg : gS s id = some b) (hb : Below w0.heap.size w0 w1)
    (hk : ∀ i c k, gS s i = some c → i ≠ id → bk (φ i) = some k → w1.heap[k]? = w.heap[k]?) (hn : BlkOk w0.heap.size w0 φ w1 id b') : Sim w0 t (uS s id b') φ a w1 := by
  refine ⟨hb, S.defs, S.tmp, fun i c h => ?_, fun i j c c' h h' hne => ?_⟩
  · rw [gS_uS] at h
    by_cases e : id = i
    · subst e
      rw [if_pos rfl] at h
      obtain rfl := Option.some.inj h
      exact hn
    · rw [if_neg e] at h
      exact BlkOk_world (S.blk i c h) fun k hk' => hk i c k h (Ne.symm e) hk'
  · rw [gS_uS] at h h'
    have key : ∀ i c, (if id = i then some b' else gS s i) = some c → ∃ c', gS s i = some c' := fun i c h => by
      by_cases e : id = i
      · subst e; exact ⟨b, hg⟩
      · rw [if_neg e] at h; exact ⟨c, h⟩
    obtain ⟨c1, h1⟩ := key i c h
    obtain ⟨c2, h2⟩ := key j c' h'
    exact S.apart i j c1 c2 h1 h2 hne
theorem below_setRow {B : Nat} {w0 w : World} (h : Below B w0 w) {g : Nat} (hg : B ≤ g) (cs : Array Value) : Below B w0 (w.setRow g cs) :=
  h.trans ⟨rfl, rfl, rfl, by simp [World.setRow], fun k hk => setRow_other w g k cs (by omega)⟩
theorem flatten_set : ∀ {xs : List (List Value)} {sz : Nat} (hs : ∀ x ∈ xs, x.length = sz) {i : Nat} (hi : i < xs.length) {c : List Value} (hc : c.length = sz), (xs.set i c).flatten = xs.flatten.take (i * sz) ++ c ++ xs.flatten.drop (i * sz + sz)
  | [], sz, _, i, hi, c, hc => by simp at hi
  | x :: xs, sz, hs, 0, hi, c, hc => by
    have hx : x.length = sz := hs x (by simp)
    simp only [List.set_cons_zero, List.flatten_cons, Nat.zero_mul, List.take_zero, List.nil_append, Nat.zero_add]
    rw [List.drop_append_of_le_length (by omega), List.drop_of_length_le (by omega), List.nil_append]
  | x :: xs, sz, hs, i + 1, hi, c, hc => by
    have hx : x.length = sz := hs x (by simp)
    simp only [List.set_cons_succ, List.flatten_cons]
    have e1 : x.take ((i + 1) * sz) = x := List.take_of_length_le (by rw [hx, Nat.add_mul]; omega)
    have e2 : x.drop ((i + 1) * sz + sz) = [] := List.drop_of_length_le (by rw [hx, Nat.add_mul]; omega)
    rw [flatten_set (fun y hy => hs y (by simp [hy])) (by simpa using hi) hc, List.take_append, List.drop_append, e1, e2, hx]
    rw [show (i + 1) * sz - sz = i * sz by rw [Nat.add_mul]; omega, show (i + 1) * sz + sz - sz = i * sz + sz by rw [Nat.add_mul]; omega]
    simp
theorem take_put {cur c : List Value} {q len n : Nat} (hc : c.length = len) (h : q + len ≤ n) (hn : n ≤ cur.length) : (cur.take q ++ c ++ cur.drop (q + len)).take n = (cur.take n).take q ++ c ++ (cur.take n).drop (q + len) := by
  have hA : (cur.take q ++ c).length = q + len := by rw [List.length_append, List.length_take, hc]; omega
  rw [List.take_append, List.take_of_length_le (by omega), hA, List.drop_take, List.take_take, Nat.min_eq_left (by omega)]
section
variable {P : Program} {ty : TypeId → Option TI} {w0 : World} {t : List AV} {s : Sto} {φ : Nat → Value} {a : Act} {w : World} {o : Oper} {d : Option Nat} {K : Kt} {Q : Exit → Act → World → Prop}
theorem run_storeAt {b : TypeId} {i : TI} (T : TIok P ty b i) {ad x : Operand} (ho : o.op = .store b ad x) {g off : Nat} {tb : TypeId} {cur : Array Value} (ha : a.eval ad = .pointer (some ⟨g, off, none⟩)) (hg : w.heap[g]? = some (.cells cur tb (0, 0)))
    (hs : (a.eval x).cells.size = i.size) (hl : off + i.size ≤ cur.size) (h1 : ∀ u ∈ (a.eval x).cells.toList, plainV u = true) :
    (execOp a.eval o).run P w = .ok .skip (w.setRow g (cur.toList.take off ++ (a.eval x).cells.toList ++ cur.toList.drop (off + (a.eval x).cells.toList.length)).toArray) := by
  have hst := run_storeCells_at P g off tb (a.eval x).cells.toList 0 cur w hg (by rw [Array.length_toList, hs]; omega) (fun v hv => plain_one (h1 v hv))
  simp only [Nat.add_zero] at hst
  simp only [execOp, ho, Instr.storeAt, ha, Instr.sureAddr, storeVar, run_size T]
  simp [run_size T, hs, hst]
theorem op_store (T : TyOk P ty) (S : Sim w0 t s φ a w) {b : TypeId} {ad x : Operand} (ho : o.op = .store b ad x) (hd : o.dst = none) (h : storeW (ty b) (eT t ad) (eT t x) t s K) : o.wp P a w (Nx w0 K) Q := by
  have hx := Sim_ev S x
  have ha := Sim_ev S ad
  cases ei : ty b with
  | none => rw [ei] at h; simp [storeW] at h
  | some i =>
    rw [ei] at h
    have Ti := T b i ei
    cases ea : eT t ad with
    | bp id off =>
      rw [ea] at h ha
      simp only [storeW] at h
      cases eb : gS s id with
      | none => rw [eb] at h; simp [storeB] at h
      | some bl =>
        cases bl with
        | row e sz xs => rw [eb] at h; simp [storeB] at h
        | box tb cs =>
          rw [eb] at h
          simp only [storeB] at h
          obtain ⟨hl, hn, hc, hK⟩ := h
          obtain ⟨h1, h2⟩ := cells_ok hc hx
          obtain ⟨g, c, h3, h4, h5, h6⟩ := S.blk id _ eb
          simp only [Rep] at ha
          obtain ⟨g', h7, h8⟩ := ha
          rw [h3] at h7
          obtain rfl : g = g' := by simpa using h7
          have hlen := RepL_len h6
          have hlen2 := RepL_len h1
          have hrun := run_storeAt (w := w) Ti ho h8 h5 (by rw [← Array.length_toList, ← hlen2, hl]) (by simp; omega) h2
          refine wp_skip' hrun ⟨φ, _, _, hK, ?_⟩
          rw [hd]
          refine Sim_upd S eb (below_setRow S.below h4 _) (fun j e k hj hne hk => ?_) ?_
          · refine setRow_other w g k _ (fun e' => ?_)
            rcases S.apart j id _ _ hj eb hne with h9 | h9
            · rw [h9] at hk; cases hk
            · rw [hk, h3, e'] at h9; exact h9 rfl
          · refine ⟨g, _, h3, h4, setRow_heap w g _ _ tb _ h5, ?_⟩
            exact RepL_put h1 h6 (by omega)
    | le id z n off =>
      rw [ea] at h ha
      simp only [storeW] at h
      cases eb : gS s id with
      | none => rw [eb] at h; simp [storeE] at h
      | some bl =>
        cases bl with
        | box tb cs => rw [eb] at h; simp [storeE] at h
        | row e sz xs =>
          rw [eb] at h
          simp only [storeE] at h
          obtain ⟨rfl, rfl, hi, hl, hc, hK⟩ := h
          obtain ⟨h1, h2⟩ := cells_ok (plainOk_cells hc) hx
          have hu := unv_eq hc h1
          obtain ⟨b1, b2, b3⟩ := S.blk id _ eb
          have b2' : ∀ x ∈ xs, x.length = z := fun x hx => (b2 x hx).1
          simp only [Rep] at ha
          obtain ⟨g, m, cap, h3, h4, h5, h6⟩ := ha
          rw [h3] at b1
          have b1' := b1
          obtain ⟨hfl, b1⟩ := b1
          rcases b1 with ⟨hh, _⟩ | ⟨g', cap', cur, hh, h7, h8, h9, h10, h11, h12⟩
          · cases hh
          · obtain ⟨rfl, rfl, rfl⟩ : g = g' ∧ m = xs.length ∧ cap = cap' := by injection hh with e1 e2 e3; injection e1 with e1; injection e1 with e1; exact ⟨e1, e2, e3⟩
            have hni : n.toNat < xs.length := by omega
            have hcl : (unv (eT t x).cells).length = z := by rw [← hu, ← RepL_len h1, hl]
            have hcz : (a.eval x).cells.size = z := by rw [← Array.length_toList, hu, hcl]
            have hmul : n.toNat * z + z ≤ xs.length * z := by
              have := Nat.mul_le_mul_right z (show n.toNat + 1 ≤ xs.length by omega)
              rw [Nat.add_mul, Nat.one_mul] at this
              exact this
            have hmul2 : xs.length * z ≤ cap * z := Nat.mul_le_mul_right z h9
            have hrun := run_storeAt (w := w) (off := n.toNat * z + 0) Ti ho h6 h8 (by rw [← Array.length_toList, hu, hcl, hi]) (by rw [hi, h11]; omega) h2
            refine wp_skip' hrun ⟨φ, _, _, hK, ?_⟩
            rw [hd]
            refine Sim_upd S eb (below_setRow S.below h7 _) (fun j e' k hj hne hk => ?_) ?_
            · refine setRow_other w g k _ (fun e'' => ?_)
              rcases S.apart j id _ _ hj eb hne with h13 | h13
              · rw [h13] at hk; cases hk
              · rw [hk, h3, e''] at h13; exact h13 rfl
            · have hset : (sR xs n (unv (eT t x).cells)).length = xs.length := by unfold sR; rw [List.length_set]
              refine ⟨?_, fun y hy => ?_, b3⟩
              · rw [h3, hset]
                refine ⟨?_, .inr ⟨g, cap, _, rfl, h7, setRow_heap w g _ _ e _ h8, h9, h10, ?_, ?_⟩⟩
                · rw [flatten_len (sz := z), hset]
                  intro y hy
                  rcases List.mem_or_eq_of_mem_set hy with hy | rfl
                  · exact b2' y hy
                  · exact hcl
                · simp only [List.size_toArray, List.length_append, List.length_take, List.length_drop, Array.length_toList]
                  rw [hcz, h11]
                  omega
                · simp only [Nat.add_zero]
                  unfold sR
                  rw [flatten_set b2' hni hcl, ← h12, hu, hcl]
                  exact take_put hcl hmul (Nat.le_trans hmul2 (Nat.le_of_eq (Array.length_toList.trans h11).symm))
              · unfold sR at hy
                rcases List.mem_or_eq_of_mem_set hy with hy | rfl
                · exact b2 y hy
                · exact ⟨hcl, fun u hu' => h2 u (by rw [hu]; exact hu')⟩
    | u => rw [ea] at h; simp [storeW] at h
    | v _ => rw [ea] at h; simp [storeW] at h
    | ag _ => rw [ea] at h; simp [storeW] at h
    | tu _ => rw [ea] at h; simp [storeW] at h
    | pr _ _ => rw [ea] at h; simp [storeW] at h
    | ow _ _ _ => rw [ea] at h; simp [storeW] at h
    | lo _ => rw [ea] at h; simp [storeW] at h
    | vw _ _ _ _ => rw [ea] at h; simp [storeW] at h
    | pe _ => rw [ea] at h; simp [storeW] at h
end
end Go.Proofs.YtkindoepnganmaaGreat.F
end

section
namespace Go.Proofs.YtkindoepnganmaaGreat.F
open Go.RowKit Go.Proofs.YtkindoepnganmaaGreatW.PrintWords Go.Proofs.YtkindoepnganmaaGreatW.PrintLast Go.Proofs.YtkindoepnganmaaGreatW.PrintMore
set_option linter.unusedVariables false
set_option linter.unusedSimpArgs false
theorem fill_ok (sz : Nat) : ∀ (vs : List Value) (k : Nat) (cs : Array Value), (∀ v ∈ vs, v.cells.size = sz) → (k + vs.length) * sz ≤ cs.size → Instr.fill (fun i => some (i * sz, sz)) cs ((vs.zipIdx k).map fun p => (p.2, p.1)) = some (cs.toList.take (k * sz) ++ (vs.map fun v => v.cells.toList).flatten ++ cs.toList.drop ((k + vs.length) * sz)).toArray
  | [], k, cs, _, h => by simp [Instr.fill]
  | v :: vs, k, cs, hs, h => by
    have hv : v.cells.size = sz := hs v (by simp)
    simp only [List.length_cons] at h
    have hm : (k + 1) * sz ≤ (k + (vs.length + 1)) * sz := Nat.mul_le_mul_right sz (by omega)
    have hm2 : (k + 1) * sz = k * sz + sz := by rw [Nat.add_mul]; omega
    simp only [List.zipIdx_cons, List.map_cons, Instr.fill]
    rw [if_neg (by simp [hv]; omega)]
    have hf := fold_put v.cells.toList (k * sz) 0 cs (by rw [Array.length_toList, hv]; omega)
    have hf' : v.cells.zipIdx.foldl (fun cs (x : Value × Nat) => match x with | (c, j) => cs.setIfInBounds (k * sz + j) c) cs = (cs.toList.take (k * sz) ++ v.cells.toList ++ cs.toList.drop (k * sz + sz)).toArray := by
      rw [Array.length_toList, hv, Nat.add_zero] at hf
      rw [← hf, ← Array.foldl_toList]
      simp
    rw [hf', fill_ok sz vs (k + 1) _ (fun u hu => hs u (by simp [hu])) (by
      simp only [List.size_toArray, List.length_append, List.length_take, List.length_drop, Array.length_toList, hv]
      have : (k + 1 + vs.length) * sz = (k + (vs.length + 1)) * sz := by congr 1; omega
      omega)]
    congr 2
    have hA : (cs.toList.take (k * sz) ++ v.cells.toList).length = (k + 1) * sz := by
      rw [List.length_append, List.length_take, Array.length_toList, Array.length_toList, hv]; omega
    rw [List.take_append_of_le_length (by omega), List.take_of_length_le (by omega)]
    rw [List.drop_append, hA, List.drop_of_length_le (l := cs.toList.take (k * sz) ++ v.cells.toList) (by rw [hA]; exact Nat.mul_le_mul_right sz (by omega)), List.nil_append, List.drop_drop]
    simp only [List.flatten_cons, List.append_assoc]
    have eM : (k + 1 + vs.length) * sz = (k + (vs.length + 1)) * sz := by congr 1; omega
    rw [eM, List.length_cons]
    generalize (k + (vs.length + 1)) * sz = M at hm ⊢
    congr 4
    omega
section
variable {P : Program} {ty : TypeId → Option TI} {w0 : World} {t : List AV} {s : Sto} {φ : Nat → Value} {a : Act} {w : World} {o : Oper} {d : Option Nat} {K : Kt} {Q : Exit → Act → World → Prop}
theorem litR_ok (S : Sim w0 t s φ a w) : ∀ {ps : List (Nat × Operand)} {k : Nat} {xs : List (List Value)}, litR t ps k = some xs → ps.length = xs.length ∧ (ps.map fun p => (p.1, a.eval p.2)) = ((ps.map fun p => a.eval p.2).zipIdx k).map (fun p => (p.2, p.1)) ∧ (ps.map fun p => (a.eval p.2).cells.toList) = xs ∧ ∀ x ∈ xs, ∀ u ∈ x, plainV u = true
  | [], k, xs, h => by simp [litR] at h; subst h; simp
  | (i, x) :: ps, k, xs, h => by
    simp only [litR] at h
    split at h
    · rename_i hc
      obtain ⟨rfl, hc⟩ := hc
      obtain ⟨r, hr, rfl⟩ := Option.map_eq_some_iff.1 h
      obtain ⟨h1, h2, h3, h4⟩ := litR_ok S hr
      obtain ⟨h5, h6⟩ := cells_ok (plainOk_cells hc) (Sim_ev S x)
      have h7 := unv_eq hc h5
      refine ⟨by simp [h1], by simp [h2], by simp [h3, h7], fun y hy u hu => ?_⟩
      rcases List.mem_cons.1 hy with rfl | hy
      · exact h6 u (by rw [h7]; exact hu)
      · exact h4 y hy u hu
    · cases h
theorem litOk_ok {sz : Nat} : ∀ {xs : List (List Value)}, litOk sz xs = true → ∀ x ∈ xs, x.length = sz
  | [], _, x, hx => by simp at hx
  | y :: xs, h, x, hx => by
    simp only [litOk, Bool.and_eq_true, beq_iff_eq] at h
    rcases List.mem_cons.1 hx with rfl | hx
    · exact h.1
    · exact litOk_ok h.2 x hx
theorem op_lit (T : TyOk P ty) (S : Sim w0 t s φ a w) {b : TypeId} {n : Nat} {ps : List (Nat × Operand)} (ho : o.op = .buildSlice b n ⟨ps⟩) (h : litT ty (ty b) n ps o.dst t s K) : o.wp P a w (Nx w0 K) Q := by
  cases ei : ty b with
  | none => rw [ei] at h; exact h.elim
  | some i =>
    rw [ei] at h
    obtain ⟨j, ej, h⟩ := h
    cases er : litR t ps 0 with
    | none => rw [er] at h; exact h.elim
    | some xs =>
      rw [er] at h
      obtain ⟨h1, h2, h3, h4, h5⟩ := h
      obtain ⟨g1, g2, g3, g4⟩ := litR_ok S er
      have h2' := litOk_ok h2
      obtain ⟨f, f1, f2, f3, z, f4, f5, f6⟩ := (T _ j ej).nf
      have hu := (T b i ei).el j ej
      have hzl : z.cells.size = j.size := by rw [f5]; simpa using (T _ j ej).zl.1
      have hcells : ∀ v ∈ ps.map (fun p => a.eval p.2), v.cells.size = j.size := fun v hv => by
        obtain ⟨p, hp, rfl⟩ := List.mem_map.1 hv
        rw [← Array.length_toList]
        exact h2' _ (by rw [← g3]; exact List.mem_map.2 ⟨p, hp, rfl⟩)
      have hlen : (ps.map fun p => a.eval p.2).length = n := by rw [List.length_map, g1, h1]
      have hflat : ((ps.map fun p => a.eval p.2).map fun v => v.cells.toList).flatten = xs.flatten := by rw [List.map_map]; rw [← g3]; rfl
      have hfl : xs.flatten.length = n * j.size := by rw [flatten_len h2', h1]
      have key : ∀ cs : Array Value, cs.size = n * j.size → Instr.fill (fun i => some (i * j.size, j.size)) cs (ps.map fun p => (p.1, a.eval p.2)) = some (List.toArray xs.flatten) := fun cs hcs => by
        have := fill_ok j.size (ps.map fun p => a.eval p.2) 0 cs hcells (by rw [hlen, Nat.zero_add]; omega)
        rw [g2, this, hflat, hlen, Nat.zero_mul, Nat.zero_add, List.take_zero, List.nil_append, List.drop_of_length_le (by rw [Array.length_toList]; omega), List.append_nil]
      refine wp_row S (y := .slice (some ⟨w.heap.size, 0, none⟩) n n) (w1 := w.alloc (.cells (List.toArray xs.flatten) i.el)) h5 ?_ ((Below.refl _ w).alloc (Nat.le_refl _) _) (fun k hk => by simp [bk] at hk; omega) ?_ (fun x hx => ⟨h2' x hx, g4 x hx⟩) h3
      · have hcap : ¬ n * j.size > 2 ^ 24 := by omega
        have hmap : (List.toArray ps).map (fun x => match x with | (i, x) => (i, a.eval x)) = List.toArray (ps.map fun p => (p.1, a.eval p.2)) := by simp
        simp only [execOp, ho, hmap, Instr.buildSlice]
        by_cases h0 : n * j.size = 0
        · have hk := key (Array.map (fun _ => default) (Array.range 0)) (by simp [h0])
          simp only [Sem.run_bind, run_underlying hu, Result.andThen_ok]
          simp [run_size (T _ j ej), h0, hk, newRow]
        · have hk := key ((Array.range (n * j.size)).map (z.cells[· % z.cells.size]!)) (by simp)
          simp only [Sem.run_bind, run_underlying hu, Result.andThen_ok]
          simp [run_size (T _ j ej), h0, hcap, zeroValue, typeInfo, f1, f4, hk, newRow]
      · have := World.ownsRow_lit (base := w0.heap.size) (e := i.el) (size := j.size) w (List.toArray xs.flatten) n S.below.size (by simp only [maxLen]; have := Nat.le_mul_of_pos_right n h3; omega) (by simpa using hfl)
        rw [h1]
        simpa using this
end
end Go.Proofs.YtkindoepnganmaaGreat.F
end
