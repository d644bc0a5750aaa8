/- Packed by a program of the session (wip/tools/pack.py): what the claim's theorem reaches, of the texts that wip/ and the kit's printer lay. -/
import Derived.Test.YtkindoepnganmaaGreatPkFnExactLeave4
import Derived.Deep.Onto
import Derived.Laws.StructEq
import Derived.StillTailTactics
import Derived.Deep.LoopGhost
import Derived.Shelf.Abstract
section
namespace Go.Proofs.YtkindoepnganmaaGreat.F
open Go.RowKit Go.Proofs.YtkindoepnganmaaGreatW.PrintWords Go.Proofs.YtkindoepnganmaaGreatW.PrintLast Go.Proofs.YtkindoepnganmaaGreatW.PrintMore
set_option linter.unusedVariables false
set_option linter.unusedSimpArgs false
theorem BlkOk_frD {B : Nat} {w0 : World} {φ ψ : Nat → Value} {w : World} {id : Nat} {D : Nat → Prop} {b : Blk} (hψ : ∀ i, ¬ D i → ψ i = φ i) (hj : ¬ D id) (hf : ∀ j, D j → b.fr j = true) (h : BlkOk B w0 φ w id b) : BlkOk B w0 ψ w id b := by
  cases b with
  | box t cs =>
    obtain ⟨g, c, h1, h2, h3, h4⟩ := h
    exact ⟨g, c, by rw [hψ id hj]; exact h1, h2, h3, RepL_frD hψ (fun j hd => by simpa [Blk.fr] using hf j hd) h4⟩
  | row e sz xs =>
    show _ ∧ _
    rw [hψ id hj]
    exact h
theorem Sim_drop {w0 : World} {t : List AV} {s : Sto} {φ : Nat → Value} {a : Act} {w : World} (S : Sim w0 t s φ a w) (id : Nat) : Sim w0 t (dS s id) φ a w := by
  refine ⟨S.below, S.defs, S.tmp, fun i b h => ?_, fun i j b c h h' => ?_⟩
  · rw [gS_dS] at h
    split at h
    · cases h
    · exact S.blk i b h
  · rw [gS_dS] at h h'
    split at h
    · cases h
    · split at h'
      · cases h'
      · exact S.apart i j b c h h'
theorem bk_own {w : World} {B : Nat} {e : TypeId} {sz n : Nat} {v : Value} {xs : List Value} (h : w.ownsRow B e sz v n xs) : v.ownBlock = bk v := by
  obtain ⟨A, c, rfl⟩ := own_slice h
  cases A <;> rfl
section
variable {P : Program} {ty : TypeId → Option TI} {w0 : World} {t : List AV} {s : Sto} {φ : Nat → Value} {a : Act} {w : World} {o : Oper} {d : Option Nat} {K : Kt} {Q : Exit → Act → World → Prop}
theorem rdS_ok (S : Sim w0 t s φ a w) {x : AV} {y : Value} {sz : Nat} {ys : List (List Value)} (h0 : 0 < sz) (hx : Rep w0.heap.size w0 φ x y) (h : rdS sz x s = some ys) : ∃ A c, y = .slice A ys.length c ∧ rowOk sz ys ∧ (ys ≠ [] → ∃ ad, A = some ad ∧ ∀ j u, ys.flatten[j]? = some u → w.cell? (ad.add j) = some u) := by
  cases x with
  | pr z xs =>
    simp only [rdS] at h
    split at h
    · rename_i e
      obtain rfl := Option.some.inj h
      subst e
      simp only [Rep] at hx
      obtain ⟨A, c, h1, h2, h3, h4, h5, h6⟩ := hx
      refine ⟨A, c, h1, h5, fun hne => ?_⟩
      obtain ⟨ad, h7, h8, h9⟩ := h6 hne
      refine ⟨ad, h7, fun j u hu => ?_⟩
      have : (ad.add j).block = ad.block := by unfold Addr.add; split <;> rfl
      rw [S.below.cell (by rw [this]; exact h8)]
      exact h9 j u hu
    · cases h
  | lo id =>
    simp only [rdS] at h
    cases eb : gS s id with
    | none => rw [eb] at h; simp [rdB] at h
    | some bl =>
      cases bl with
      | box tb cs => rw [eb] at h; simp [rdB] at h
      | row e z xs =>
        rw [eb] at h
        simp only [rdB] at h
        split at h
        · rename_i ez
          obtain rfl := Option.some.inj h
          subst ez
          obtain ⟨b1, b2, b3⟩ := S.blk id _ eb
          simp only [Rep] at hx
          rw [hx.1]
          obtain ⟨A, c, h1, h2, h3, h4, h5, h6⟩ := RowAt_own b1 b2 b3
          refine ⟨A, c, h1, h5, fun hne => ?_⟩
          obtain ⟨ad, h7, h8, h9⟩ := h6 hne
          exact ⟨ad, h7, h9⟩
        · cases h
  | vw id z lo hi =>
    simp only [rdS] at h
    split at h
    · rename_i ez0
      obtain ⟨xs, hr, rfl⟩ := Option.map_eq_some_iff.1 h
      cases eb : gS s id with
      | none => rw [eb] at hr; simp [rdB] at hr
      | some bl =>
        cases bl with
        | box tb cs => rw [eb] at hr; simp [rdB] at hr
        | row e z' zs =>
          rw [eb] at hr
          simp only [rdB] at hr
          split at hr
          · rename_i ez
            obtain rfl := Option.some.inj hr
            subst ez
            subst ez0
            obtain ⟨b1, b2, b3⟩ := S.blk id _ eb
            simp only [Rep] at hx
            obtain ⟨A, m, c, v1, v2, v3, rfl⟩ := hx
            have hrow := RowAt_own b1 b2 b3
            rw [v1] at hrow
            obtain ⟨A', c', h1, h2, h3, h4, h5, h6⟩ := RowAt_part hrow v2 v3
            refine ⟨A', c', h1, h5, fun hne => ?_⟩
            obtain ⟨ad, h7, h8, h9⟩ := h6 hne
            exact ⟨ad, h7, h9⟩
          · cases hr
    · cases h
  | v u =>
    simp only [Rep] at hx
    unfold rdS at h
    split at h
    · rename_i e; cases e
    · rename_i e; cases e
    · rename_i e; cases e
    · rename_i e
      injection e with e
      subst e
      obtain rfl := Option.some.inj h
      exact ⟨none, 0, hx, fun x hx => by simp at hx, fun hne => absurd rfl hne⟩
    · cases h
  | _ => simp [rdS] at h
theorem op_append (T : TyOk P ty) (S : Sim w0 t s φ a w) {b : TypeId} {x y : Operand} (ho : o.op = .call ⟨.builtin .append, ⟨[x, y]⟩, ⟨[b, b]⟩⟩) (h : appW ty (ty b) (eT t x) (eT t y) o.dst t s K) : o.wp P a w (Nx w0 K) Q := by
  have hx := Sim_ev S x
  have hy := Sim_ev S y
  cases ei : ty b with
  | none => rw [ei] at h; simp [appW] at h
  | some i =>
    rw [ei] at h
    cases ex : eT t x with
    | lo id =>
      rw [ex] at h hx
      simp only [appW] at h
      obtain ⟨j, ej, h⟩ := h
      simp only [Rep] at hx
      cases eb : gS s id with
      | none => rw [eb] at h; simp [appR] at h
      | some bl =>
        cases bl with
        | box tb cs => rw [eb] at h; simp [appR] at h
        | row e sz xs =>
          rw [eb] at h
          cases er : rdS j.size (eT t y) s with
          | none => rw [er] at h; simp [appR] at h
          | some ys =>
            rw [er] at h
            cases ed : o.dst with
            | none => rw [ed] at h; simp [appR] at h
            | some d =>
              rw [ed] at h
              simp only [appR] at h
              obtain ⟨rfl, rfl, h2, h3, h4, hK⟩ := h
              obtain ⟨b1, b2, b3⟩ := S.blk id _ eb
              obtain ⟨A, c, g1, g2, g3⟩ := rdS_ok S b3 hy er
              obtain ⟨f, f1, f2, f3, z, f4, f5, f6⟩ := (T _ j ej).nf
              have hu := (T b i ei).el j ej
              have hzl : z.cells.size = j.size := by rw [f5]; simpa using (T _ j ej).zl.1
              have hlen : ys.flatten.length = ys.length * j.size := flatten_len fun x hx => (g2 x hx).1
              have hsm : xs.length + ys.length ≤ 140737488355328 := Nat.le_trans (Nat.le_mul_of_pos_right _ h2) h3
              have hrun : ∃ v' w', (Builtin.append_ #[b, b] o.type #[φ id, .slice A ys.length c]).run P w = .ok v' w' ∧ w'.ownsRow w0.heap.size i.el j.size v' (xs.length + ys.length) (xs.flatten ++ ys.flatten) ∧ w.grownBy w' (φ id).ownBlock ∧ (v'.ownBlock = (φ id).ownBlock ∨ v'.ownBlock = some w.heap.size) := by
                cases A with
                | some ad =>
                  obtain ⟨v', w', q1, q2, q3, _, q4⟩ := run_append_own_at (P := P) w w0.heap.size b o.type i.el f z j.size j.bytes hu f1 f4 f2 f3 hzl b3 (φ id) xs.length xs.flatten b1 ad ys.length c ys.flatten hlen (fun k u hk => by
                    by_cases hne : ys = []
                    · subst hne; simp at hk
                    · obtain ⟨ad', e, q⟩ := g3 hne
                      obtain rfl := Option.some.inj e
                      exact q k u hk) (fun u hu => by
                    obtain ⟨r, hr, hur⟩ := List.mem_flatten.1 hu
                    exact plain_one ((g2 r hr).2 u hur)) (by simp only [maxLen]; omega) h3 S.below.size
                  exact ⟨v', w', q1, q2, q3, q4⟩
                | none =>
                  have hys : ys = [] := by
                    apply Classical.byContradiction
                    intro hne
                    obtain ⟨ad, e, _⟩ := g3 hne
                    cases e
                  subst hys
                  refine ⟨φ id, w, ?_, by simpa using b1, World.grownBy.refl w _, .inl rfl⟩
                  rcases b1.2 with ⟨hv, hn⟩ | ⟨g, cap, cur, hv, _, _, hnc, _⟩
                  · rw [hv]; simp [Builtin.append_, run_underlying hu, sizeOf, typeInfo, f1, Builtin.lenOf, Builtin.firstCells]
                  · rw [hv]; simp [Builtin.append_, run_underlying hu, sizeOf, typeInfo, f1, Builtin.lenOf, Builtin.firstCells, hnc, storeCells]
              obtain ⟨v', w', q1, q2, q3, q4⟩ := hrun
              have S' := Sim_drop S id
              have hbelow : Below w0.heap.size w0 w' := S.below.grown q3 S.below.size (own_base b1)
              have hp : plainV v' = true := by obtain ⟨A, c, rfl⟩ := own_slice q2; rfl
              refine wp_val (v := v') (w1 := w') ?_ ⟨upd φ (16 * d) v', _, _, hK, ?_⟩
              · simp only [execOp, ho, resolve, invoke, builtin, Sem.run_bind, Sem.run_pure, Result.andThen_ok, List.map_toArray, List.map_cons, List.map_nil, hx.1, g1, q1]
              · have hn : Sim w0 t (uS (dS s id) (16 * d) (.row i.el j.size (xs ++ ys))) (upd φ (16 * d) v') a w' := by
                  refine Sim_new S' h4 hbelow (fun m e k hm hne hk => ?_) ?_
                  · rw [gS_dS] at hm
                    split at hm
                    · cases hm
                    · rename_i hmi
                      have hlt := (BlkOk_lt (S.blk m e hm) hk).2
                      have hne2 : (φ id).ownBlock ≠ some k := by
                        rw [bk_own b1]
                        rcases S.apart m id _ _ hm eb (fun e => hmi e.symm) with h9 | h9
                        · rw [h9] at hk; cases hk
                        · rw [hk] at h9; exact fun e => h9 e.symm
                      refine ⟨q3.block k hlt (fun e => hne2 e.symm), ?_⟩
                      rw [← bk_own q2]
                      rcases q4 with q4 | q4
                      · rw [q4]; exact hne2
                      · rw [q4]; simp; omega
                  · show _ ∧ _
                    rw [upd_same]
                    refine ⟨?_, fun r hr => ?_, b3⟩
                    · simpa using q2
                    · rcases List.mem_append.1 hr with hr | hr
                      · exact b2 r hr
                      · exact g2 r hr
                rw [ed]
                exact Sim_put hn (some d) (y := .lo (16 * d)) (by simp only [Rep]; rw [upd_same]; exact ⟨rfl, hp⟩)
    | _ => rw [ex] at h; simp [appW] at h
end
end Go.Proofs.YtkindoepnganmaaGreat.F
end

section
namespace Go.Proofs.YtkindoepnganmaaGreat.F
open Go.RowKit Go.Proofs.YtkindoepnganmaaGreatW.PrintWords Go.Proofs.YtkindoepnganmaaGreatW.PrintLast Go.Proofs.YtkindoepnganmaaGreatW.PrintMore
set_option linter.unusedVariables false
set_option linter.unusedSimpArgs false
structure ImOk (B B1 : Nat) (w0 w' : World) (n n' : Nat) (r : Sto) (L : List Nat) (rep : (Nat → Value) → Prop) (ψ : Nat → Value) : Prop where
  le : n ≤ n'
  dom : ∀ i b, gS r i = some b → n ≤ i ∧ i < n'
  all : ∀ i, n ≤ i → i < n' → (gS r i).isSome = true
  ok : ∀ ψ', (∀ i, n ≤ i → i < n' → ψ' i = ψ i) → rep ψ' ∧ (∀ i b, gS r i = some b → BlkOk B w0 ψ' w' i b ∧ ∀ k, bk (ψ' i) = some k → k ∈ L ∧ B1 ≤ k) ∧
    ∀ i j b c, gS r i = some b → gS r j = some c → i ≠ j → bk (ψ' i) = none ∨ bk (ψ' i) ≠ bk (ψ' j)
mutual
theorem im_ok {B B1 : Nat} (hB : B ≤ B1) {w0 w' : World} : ∀ (x : AV) (n : Nat) {y : Value} {L : List Nat}, RepR B1 w' x y L → L.Nodup → ∃ ψ, ImOk B B1 w0 w' n (im n x).2.2 (im n x).2.1 L (fun ψ => Rep B w0 ψ (im n x).1 y) ψ
  | .v x, n, y, L, h, _ => by
    simp only [RepR] at h
    refine ⟨fun _ => undef, Nat.le_refl _, fun i b hb => by simp [im, gS] at hb, fun i h1 h2 => by simp only [im] at h2; omega, fun ψ' _ => ⟨by simp only [im, Rep]; exact h.1, fun i b hb => by simp [im, gS] at hb, fun i j b c hb => by simp [im, gS] at hb⟩⟩
  | .ag cs, n, y, L, h, hL => by
    simp only [RepR] at h
    obtain ⟨l, rfl, h⟩ := h
    obtain ⟨ψ, I⟩ := imL_ok hB (w0 := w0) cs n h hL
    refine ⟨ψ, I.le, I.dom, I.all, fun ψ' hψ => ?_⟩
    obtain ⟨h1, h2⟩ := I.ok ψ' hψ
    exact ⟨by simp only [im, Rep]; exact ⟨l, rfl, h1⟩, h2⟩
  | .tu cs, n, y, L, h, hL => by
    simp only [RepR] at h
    obtain ⟨l, rfl, h⟩ := h
    obtain ⟨ψ, I⟩ := imL_ok hB (w0 := w0) cs n h hL
    refine ⟨ψ, I.le, I.dom, I.all, fun ψ' hψ => ?_⟩
    obtain ⟨h1, h2⟩ := I.ok ψ' hψ
    exact ⟨by simp only [im, Rep]; exact ⟨l, rfl, h1⟩, h2⟩
  | .ow e sz xs, n, y, L, h, hL => by
    simp only [RepR] at h
    obtain ⟨h1, h2, h3, rfl⟩ := h
    have hp : plainV y = true := by obtain ⟨A, c, rfl⟩ := own_slice h1; rfl
    have hd : ∀ i b, gS [(n, Blk.row e sz xs)] i = some b → i = n ∧ b = .row e sz xs := fun i b hb => by
      simp only [gS] at hb
      split at hb
      · rename_i e'; exact ⟨e'.symm, (Option.some.inj hb).symm⟩
      · cases hb
    refine ⟨fun _ => y, by simp [im], fun i b hb => by obtain ⟨rfl, _⟩ := hd i b hb; simp [im], fun i h4 h5 => ?_, fun ψ' hψ => ?_⟩
    · simp only [im] at h5 ⊢
      obtain rfl : n = i := by omega
      simp [gS]
    · have hn : ψ' n = y := hψ n (Nat.le_refl _) (by simp [im])
      refine ⟨by simp only [im, Rep]; rw [hn]; exact ⟨rfl, hp⟩, fun i b hb => ?_, fun i j b c hb hc hne => ?_⟩
      · obtain ⟨rfl, rfl⟩ := hd i b hb
        refine ⟨?_, fun k hk => ?_⟩
        · show _ ∧ _
          rw [hn]
          exact ⟨h1.mono hB, h2, h3⟩
        · rw [hn] at hk
          exact ⟨by simp [hk], own_base h1 k (by rw [bk_own h1]; exact hk)⟩
      · obtain ⟨rfl, _⟩ := hd i b hb
        obtain ⟨rfl, _⟩ := hd j c hc
        exact absurd rfl hne
  | .u, n, y, L, h, _ => by simp [RepR] at h
  | .pr _ _, n, y, L, h, _ => by simp [RepR] at h
  | .lo _, n, y, L, h, _ => by simp [RepR] at h
  | .bp _ _, n, y, L, h, _ => by simp [RepR] at h
  | .pe _, n, y, L, h, _ => by simp [RepR] at h
  | .le _ _ _ _, n, y, L, h, _ => by simp [RepR] at h
  | .vw _ _ _ _, n, y, L, h, _ => by simp [RepR] at h
theorem imL_ok {B B1 : Nat} (hB : B ≤ B1) {w0 w' : World} : ∀ (cs : List AV) (n : Nat) {l : List Value} {L : List Nat}, RepRL B1 w' cs l L → L.Nodup → ∃ ψ, ImOk B B1 w0 w' n (imL n cs).2.2 (imL n cs).2.1 L (fun ψ => RepL B w0 ψ (imL n cs).1 l) ψ
  | [], n, l, L, h, _ => by
    simp only [RepRL] at h
    obtain ⟨rfl, rfl⟩ := h
    exact ⟨fun _ => undef, Nat.le_refl _, fun i b hb => by simp [imL, gS] at hb, fun i h1 h2 => by simp only [imL] at h2; omega, fun ψ' _ => ⟨by simp [imL, RepL], fun i b hb => by simp [imL, gS] at hb, fun i j b c hb => by simp [imL, gS] at hb⟩⟩
  | c :: cs, n, l, L, h, hL => by
    simp only [RepRL] at h
    obtain ⟨y, ys, L1, L2, rfl, rfl, h1, h2⟩ := h
    obtain ⟨hL1, hL2, hdis⟩ := List.nodup_append.1 hL
    obtain ⟨ψ1, I1⟩ := im_ok hB (w0 := w0) c n h1 hL1
    obtain ⟨ψ2, I2⟩ := imL_ok hB (w0 := w0) cs (im n c).2.2 h2 hL2
    simp only [imL]
    have l1 := I1.le
    have l2 := I2.le
    refine ⟨fun i => if i < (im n c).2.2 then ψ1 i else ψ2 i, Nat.le_trans l1 l2, fun i b hb => ?_, fun i h3 h4 => ?_, fun ψ' hψ => ?_⟩
    · rw [gS_app] at hb
      cases e : gS (im n c).2.1 i with
      | some b' => have := I1.dom i b' e; omega
      | none => rw [e] at hb; have := I2.dom i b (by simpa using hb); omega
    · rw [gS_app]
      by_cases q : i < (im n c).2.2
      · have := I1.all i h3 q
        cases e : gS (im n c).2.1 i with
        | some b' => rfl
        | none => rw [e] at this; cases this
      · have := I2.all i (by omega) h4
        cases e : gS (im n c).2.1 i with
        | some b' => rfl
        | none => simpa using this
    · obtain ⟨a1, a2, a3⟩ := I1.ok ψ' (fun i h3 h4 => by rw [hψ i h3 (by omega)]; exact if_pos h4)
      obtain ⟨c1, c2, c3⟩ := I2.ok ψ' (fun i h3 h4 => by rw [hψ i (by omega) h4]; exact if_neg (by omega))
      have sp : ∀ i b, gS ((im n c).2.1 ++ (imL (im n c).2.2 cs).2.1) i = some b → gS (im n c).2.1 i = some b ∨ gS (imL (im n c).2.2 cs).2.1 i = some b := fun i b hb => by
        rw [gS_app] at hb
        cases e : gS (im n c).2.1 i with
        | some b' => rw [e] at hb; exact .inl (by simpa using hb)
        | none => rw [e] at hb; exact .inr (by simpa using hb)
      refine ⟨by simp only [RepL]; exact ⟨y, ys, rfl, a1, c1⟩, fun i b hb => ?_, fun i j b b' hb hb' hne => ?_⟩
      · rcases sp i b hb with hb | hb
        · obtain ⟨q1, q2⟩ := a2 i b hb
          exact ⟨q1, fun k hk => ⟨List.mem_append_left _ (q2 k hk).1, (q2 k hk).2⟩⟩
        · obtain ⟨q1, q2⟩ := c2 i b hb
          exact ⟨q1, fun k hk => ⟨List.mem_append_right _ (q2 k hk).1, (q2 k hk).2⟩⟩
      · have cross : ∀ i j b b', gS (im n c).2.1 i = some b → gS (imL (im n c).2.2 cs).2.1 j = some b' → bk (ψ' i) = none ∨ bk (ψ' i) ≠ bk (ψ' j) := fun i j b b' hb hb' => by
          cases e : bk (ψ' i) with
          | none => exact .inl rfl
          | some k =>
            refine .inr fun e' => ?_
            exact hdis k (((a2 i b hb).2 k e).1) k (((c2 j b' hb').2 k e'.symm).1) rfl
        rcases sp i b hb with hb | hb
        · rcases sp j b' hb' with hb' | hb'
          · exact a3 i j b b' hb hb' hne
          · exact cross i j b b' hb hb'
        · rcases sp j b' hb' with hb' | hb'
          · rcases cross j i b' b hb' hb with q | q
            · cases e : bk (ψ' i) with
              | none => exact .inl rfl
              | some k => exact .inr (by rw [q]; exact fun h => nomatch h)
            · exact .inr (Ne.symm q)
          · exact c3 i j b b' hb hb' hne
end
section
variable {P : Program} {ty : TypeId → Option TI} {w0 : World} {t : List AV} {s : Sto} {φ : Nat → Value} {a : Act} {w : World} {o : Oper} {d : Option Nat} {K : Kt} {Q : Exit → Act → World → Prop}
theorem bindW_inv {res : AV} {d : Option Nat} (h : bindW false res d t s K) : (∃ x, res = .v x ∧ K (pT t d (.v x)) s) ∨ (d = none ∧ K t s) ∨ ∃ d', d = some d' ∧ ((im (16 * d') res).2.1.all fun p => free p.1 t s) = true ∧ K (sT t d' (im (16 * d') res).1) ((im (16 * d') res).2.1 ++ s) := by
  unfold bindW at h
  split at h
  · exact .inl ⟨_, rfl, h⟩
  · exact .inr (.inr ⟨_, rfl, h.2.1, h.2.2.2⟩)
  · exact .inr (.inl ⟨rfl, h.2⟩)
theorem op_call (S : Sim w0 t s φ a w) {f : FuncId} {l : List Operand} {ats : Array TypeId} {res : AV} (ho : o.op = .call ⟨.value (.func f), ⟨l⟩, ats⟩) (hc : Ctr P f (toPL s (mapE t l)) res) (h : bindW false res o.dst t s K) : o.wp P a w (Nx w0 K) Q := by
  have hC := hc.2 w (l.map a.eval) (toPL_ok S (mapE_ok S l))
  unfold Oper.wp
  rw [run_call hc.1 ho]
  refine hC.mono ?_
  rintro e w2 ⟨y, L, rfl, h1, hL, h2⟩
  have S2 := Sim_below S h2
  show Nx w0 K (a.put o.dst y) w2
  rcases bindW_inv h with ⟨x, rfl, hK⟩ | ⟨hd, hK⟩ | ⟨d, hd, hf, hK⟩
  · simp only [RepR] at h1
    exact ⟨φ, _, _, hK, Sim_put S2 o.dst (by simp only [Rep]; exact h1.1)⟩
  · rw [hd]
    exact ⟨φ, _, _, hK, S2⟩
  · rw [hd]
    obtain ⟨ψ, I⟩ := im_ok S.below.size (w0 := w0) res (16 * d) h1 hL
    refine ⟨fun i => if 16 * d ≤ i ∧ i < (im (16 * d) res).2.2 then ψ i else φ i, _, _, hK, ?_⟩
    generalize hφ : (fun i => if 16 * d ≤ i ∧ i < (im (16 * d) res).2.2 then ψ i else φ i) = φ'
    have e1 : ∀ i, ¬ (16 * d ≤ i ∧ i < (im (16 * d) res).2.2) → φ' i = φ i := fun i hi => by rw [← hφ]; exact if_neg hi
    obtain ⟨a1, a2, a3⟩ := I.ok φ' (fun i h3 h4 => by rw [← hφ]; exact if_pos ⟨h3, h4⟩)
    have hfr : ∀ j, (16 * d ≤ j ∧ j < (im (16 * d) res).2.2) → free j t s = true := fun j hj => by
      obtain ⟨b, hb⟩ := Option.isSome_iff_exists.1 (I.all j hj.1 hj.2)
      exact List.all_eq_true.1 hf _ (gS_mem hb)
    have hS : Sim w0 t ((im (16 * d) res).2.1 ++ s) φ' a w2 := by
      refine ⟨S2.below, S2.defs, RepL_frD e1 (fun j hj => (free_blk (hfr j hj)).1) S2.tmp, fun i b hb => ?_, fun i j b c hb hc' hne => ?_⟩
      · rw [gS_app] at hb
        cases e : gS (im (16 * d) res).2.1 i with
        | some b' =>
          rw [e] at hb
          have : b' = b := by simpa using hb
          subst this
          exact (a2 i b' e).1
        | none =>
          rw [e] at hb
          have hb : gS s i = some b := by simpa using hb
          have hni : ¬ (16 * d ≤ i ∧ i < (im (16 * d) res).2.2) := fun q => by
            have := I.all i q.1 q.2
            rw [e] at this; cases this
          exact BlkOk_frD e1 hni (fun j hj => (free_blk (hfr j hj)).2 i b hb) (S2.blk i b hb)
      · have cls : ∀ i b, gS ((im (16 * d) res).2.1 ++ s) i = some b → (gS (im (16 * d) res).2.1 i = some b) ∨ (gS s i = some b ∧ φ' i = φ i) := fun i b hb => by
          rw [gS_app] at hb
          cases e : gS (im (16 * d) res).2.1 i with
          | some b' => rw [e] at hb; exact .inl (by simpa using hb)
          | none =>
            rw [e] at hb
            refine .inr ⟨by simpa using hb, e1 i fun q => ?_⟩
            have := I.all i q.1 q.2
            rw [e] at this; cases this
        have cross : ∀ i j b c, gS (im (16 * d) res).2.1 i = some b → gS s j = some c ∧ φ' j = φ j → bk (φ' j) = none ∨ bk (φ' i) ≠ bk (φ' j) := fun i j b c hb hc => by
          rw [hc.2]
          cases e : bk (φ j) with
          | none => exact .inl rfl
          | some k =>
            refine .inr fun e' => ?_
            have h5 := (BlkOk_lt (S.blk j c hc.1) e).2
            have h6 := ((a2 i b hb).2 k e').2
            omega
        rcases cls i b hb with q | q
        · rcases cls j c hc' with r | r
          · exact a3 i j b c q r hne
          · rcases cross i j b c q r with z | z
            · cases e : bk (φ' i) with
              | none => exact .inl rfl
              | some k => exact .inr (by rw [z]; exact fun h => nomatch h)
            · exact .inr z
        · rcases cls j c hc' with r | r
          · rcases cross j i c b r q with z | z
            · exact .inl z
            · exact .inr (Ne.symm z)
          · rw [q.2, r.2]
            exact S.apart i j b c q.1 r.1 hne
    exact Sim_put hS (some d) a1
theorem op_turn (S : Sim w0 t s φ a w) {f : FuncId} {l : List Operand} {ats : Array TypeId} (ho : o.op = .call ⟨.value (.func f), ⟨l⟩, ats⟩) (h : turnW P f (mapE t l) o.dst t s K) : o.wp P a w (Nx w0 K) Q := by
  cases l with
  | nil => simp [mapE, turnW] at h
  | cons x l =>
    have hx := Sim_ev S x
    simp only [mapE] at h
    cases ex : eT t x with
    | lo id =>
      rw [ex] at h hx
      simp only [turnW] at h
      simp only [Rep] at hx
      cases eb : gS s id with
      | none => rw [eb] at h; simp [turnR] at h
      | some bl =>
        cases bl with
        | box tb cs => rw [eb] at h; simp [turnR] at h
        | row e sz xs =>
          rw [eb] at h
          cases ed : o.dst with
          | none => rw [ed] at h; simp [turnR] at h
          | some d =>
            rw [ed] at h
            simp only [turnR] at h
            obtain ⟨hp, ys, ⟨c1, c2, c3⟩, h4, hK⟩ := h
            obtain ⟨b1, b2, b3⟩ := S.blk id _ eb
            have hrest : l.map a.eval = vluL (mapE t l) := RepL_plnE hp (mapE_ok S l)
            have hC := c3 w w0.heap.size (φ id) S.below.size b1
            unfold Oper.wp
            rw [run_call c1 ho]
            simp only [List.map_cons, hx.1, hrest]
            refine hC.mono ?_
            rintro ee w' ⟨v', rfl, q2, q3, q4⟩
            show Nx w0 K (a.put o.dst v') w'
            have S' := Sim_drop S id
            have hbelow : Below w0.heap.size w0 w' := S.below.grown q3 S.below.size (fun k hk => own_base b1 k (by rw [bk_own b1]; exact hk))
            have hpv : plainV v' = true := by obtain ⟨A, c, rfl⟩ := own_slice q2; rfl
            refine ⟨upd φ (16 * d) v', _, _, hK, ?_⟩
            have hn : Sim w0 t (uS (dS s id) (16 * d) (.row e sz ys)) (upd φ (16 * d) v') a w' := by
              refine Sim_new S' h4 hbelow (fun m e' k hm hne hk => ?_) ?_
              · rw [gS_dS] at hm
                split at hm
                · cases hm
                · rename_i hmi
                  have hlt := (BlkOk_lt (S.blk m e' hm) hk).2
                  have hne2 : bk (φ id) ≠ some k := by
                    rcases S.apart m id _ _ hm eb (fun e => hmi e.symm) with h9 | h9
                    · rw [h9] at hk; cases hk
                    · rw [hk] at h9; exact fun e => h9 e.symm
                  refine ⟨q3.block k hlt (fun e => hne2 e.symm), fun e => ?_⟩
                  rcases q4 k e with q | q
                  · exact hne2 q
                  · omega
              · show _ ∧ _
                rw [upd_same]
                exact ⟨q2, c2, b3⟩
            rw [ed]
            exact Sim_put hn (some d) (y := .lo (16 * d)) (by simp only [Rep]; rw [upd_same]; exact ⟨rfl, hpv⟩)
    | _ => rw [ex] at h; simp [turnW] at h
theorem opX_ok (T : TyOk P ty) (S : Sim w0 t s φ a w) {q : Bool} (h : opX P ty q o.op o.type o.dst t s K) : o.wp P a w (Nx w0 K) Q := by
  by_cases hr : ro o.op = true
  · rcases opX_ro T S hr h with ⟨y, hK, v, hy, hv⟩ | ⟨rfl, f, l, ats, ho, ⟨res, hc, hb⟩ | hb⟩
    · refine Oper.wp_of_quiet (C := Below w.heap.size w) (K := fun a' => a' = a.put o.dst v) (Below.refl _ _) (fun a' w' hw' ha' => ?_) ⟨v, fun w1 hw1 => hv w1 hw1, rfl⟩
      subst ha'
      exact ⟨φ, _, _, hK, Sim_put (Sim_below S hw') o.dst hy⟩
    · exact op_call S ho hc hb
    · exact op_turn S ho hb
  · have hr : ro o.op = false := by simpa using hr
    cases ho : o.op with
    | assign x =>
      rw [ho] at h hr
      cases x with
      | const v =>
        cases v with
        | slice A n c =>
          obtain ⟨⟨rfl, rfl, rfl⟩, _, h⟩ := h
          exact op_nil T S ho h
        | _ => simp [ro] at hr
      | _ => simp [ro] at hr
    | slice b x lo hi mx => rw [ho] at hr; cases mx <;> first | (simp [ro] at hr; done) | (rw [ho] at h; simp [opX] at h; done)
    | alloc b => rw [ho] at h; exact op_alloc T S ho h.2
    | box b x => rw [ho] at h; exact op_box S ho h.2
    | store b ad x => rw [ho] at h; exact op_store T S ho h.2.1 h.2.2
    | makeSlice b x y => rw [ho] at h; exact op_make T S ho h.2
    | buildSlice b n ps => rw [ho] at h; obtain ⟨ps⟩ := ps; exact op_lit T S ho h.2
    | extract x n =>
      rw [ho] at h
      obtain ⟨y, hK, v, hy, hv⟩ := ro_ext (P := P) S ho h
      refine Oper.wp_of_quiet (C := Below w.heap.size w) (K := fun a' => a' = a.put o.dst v) (Below.refl _ _) (fun a' w' hw' ha' => ?_) ⟨v, fun w1 hw1 => hv w1 hw1, rfl⟩
      subst ha'
      exact ⟨φ, _, _, hK, Sim_put (Sim_below S hw') o.dst hy⟩
    | call c =>
      rw [ho] at h hr
      obtain ⟨callee, ⟨args⟩, ⟨ats⟩⟩ := c
      simp only [opX] at h
      cases callee with
      | value f => simp [ro] at hr
      | invoke r m => simp [cW] at h
      | builtin b =>
        cases b <;> first | (simp [ro] at hr; done) | (simp [cW] at h; done) | skip
        match args, ats, h, ho with
        | [x, y], [t1, t2], h, ho =>
          simp only [cW] at h
          obtain ⟨_, rfl, h⟩ := h
          exact op_append T S ho h
        | [], _, h, _ => simp [cW] at h
        | [_], _, h, _ => simp [cW] at h
        | [_, _], [], h, _ => simp [cW] at h
        | [_, _], [_], h, _ => simp [cW] at h
        | [_, _], _ :: _ :: _ :: _, h, _ => simp [cW] at h
        | _ :: _ :: _ :: _, _, h, _ => simp [cW] at h
    | _ => rw [ho] at h hr; first | (simp [ro] at hr; done) | (simp [opX] at h; done)
end
end Go.Proofs.YtkindoepnganmaaGreat.F
end

section
namespace Go.Proofs.YtkindoepnganmaaGreat.F
open Go.RowKit Go.Proofs.YtkindoepnganmaaGreatW.PrintWords Go.Proofs.YtkindoepnganmaaGreatW.PrintLast Go.Proofs.YtkindoepnganmaaGreatW.PrintMore
set_option linter.unusedVariables false
set_option linter.unusedSimpArgs false
def cF (l : Array Bool) : Nat := l.toList.count false
theorem cF_set {l : Array Bool} {i : Nat} (h : i < l.size) (h2 : l[i] = false) : cF (l.setIfInBounds i true) + 1 = cF l := by
  unfold cF
  rw [Array.toList_setIfInBounds, List.count_set (by simpa using h)]
  have h3 : l.toList[i]'(by simpa using h) = false := by simpa using h2
  simp only [h3, beq_self_eq_true, if_true]
  have : 0 < List.count false l.toList := by
    rw [List.count_pos_iff, ← h3]
    exact List.getElem_mem _
  rw [if_neg (by decide)]
  omega
theorem getD_lt {l : Array Bool} {i : Nat} {b : Bool} (h : i < l.size) : l.getD i b = l[i] := by simp [h]
theorem getD_ge {l : Array Bool} {i : Nat} {b : Bool} (h : ¬ i < l.size) : l.getD i b = b := by simp [h]
theorem rot_ro {i : Option TI} {op : Op} (h : rot i op = true) : ro op = true := by
  unfold rot at h
  split at h
  · rfl
  · cases h
  · exact h
def drN (ty : TypeId → Option TI) (l : List Oper) : Nat := (l.takeWhile fun o => rot (ty o.type) o.op).length
def rch (ops : Array Oper) (i : Nat) : Nat → Nat → Bool
  | 0, _ => false
  | f + 1, d => match ops[d]? with
    | some o => (o.after.any fun e => Region.binds .any e && e.on == i) || o.after.any fun e => Region.binds .any e && (decide (i < e.on) && rch ops i f e.on)
    | none => false
theorem rch_reach {ops : Array Oper} {i : Nat} : ∀ {f d : Nat}, rch ops i f d = true → Region.reachB .any ops i f d = true
  | 0, _, h => by simp [rch] at h
  | f + 1, d, h => by
    unfold rch at h
    unfold Region.reachB
    cases e : ops[d]? with
    | none => rw [e] at h; cases h
    | some o =>
      rw [e] at h
      simp only [Bool.or_eq_true] at h
      simp only
      rw [Array.any_eq_true']
      rcases h with h | h <;> rw [Array.any_eq_true'] at h <;> obtain ⟨x, h1, h2⟩ := h <;> refine ⟨x, h1, ?_⟩ <;> simp only [Bool.and_eq_true, Bool.or_eq_true] at h2 ⊢
      · exact ⟨h2.1, .inl h2.2⟩
      · exact ⟨h2.1, .inr (rch_reach h2.2.2)⟩
def backOk : List Oper → Nat → Bool
  | [], _ => true
  | o :: l, j => (o.after.all fun e => !Region.binds .any e || decide (e.on < j)) && backOk l (j + 1)
def tailOk (n : Nat) (l : List Oper) : Bool := (List.range l.length).all fun d => decide (d < n) || (List.range n).all fun i => rch l.toArray i l.length d
def pureT (o : Oper) : Bool := o.guard.isNone && match o.op with | .extract _ _ => true | .move _ => true | _ => false
def pureN (ops : Array Oper) (k : Nat) : Bool := match ops[k]? with | some o => pureT o | none => false
def tlB (ops : Array Oper) : Nat → Nat → Array Bool → Bool
  | 0, _, listed => (Region.ready .any ops listed).isEmpty
  | g + 1, k, listed => (decide (Region.ready .any ops listed = [k]) || ((Region.ready .any ops listed).contains k && pureN ops k && Region.free .any ops listed k)) && tlB ops g (k + 1) (listed.setIfInBounds k true)
def gdOk (n : Nat) (l : List Oper) : Bool := l.all fun o => match o.guard with | some (i, _) => decide (i < n) | none => true
def drOk (ty : TypeId → Option TI) (l : List Oper) : Bool :=
  Region.lexB .any (l.take (drN ty l)).toArray && gdOk (drN ty l) (l.take (drN ty l)) && backOk l 0 && tailOk (drN ty l) l && Region.noSelect l.toArray &&
    tlB l.toArray (l.length - drN ty l) (drN ty l) (Array.replicate (drN ty l) true ++ Array.replicate (l.length - drN ty l) false)
theorem backOk_at : ∀ {l : List Oper} {k j : Nat} {o : Oper}, backOk l k = true → l[j]? = some o → ∀ e ∈ o.after, Region.binds .any e = true → e.on < k + j
  | [], k, j, o, _, h => by simp at h
  | x :: l, k, 0, o, hb, h => by
    intro e he hbe
    simp only [backOk, Bool.and_eq_true] at hb
    obtain rfl : x = o := by simpa using h
    have := Array.all_eq_true'.1 hb.1 e he
    simp only [hbe, Bool.not_true, Bool.false_or, decide_eq_true_eq] at this
    omega
  | x :: l, k, j + 1, o, hb, h => by
    intro e he hbe
    simp only [backOk, Bool.and_eq_true] at hb
    have := backOk_at hb.2 (by simpa using h) e he hbe
    omega
theorem tailOk_at {n : Nat} {l : List Oper} {j i : Nat} (h : tailOk n l = true) (hj : j < l.length) (hn : n ≤ j) (hi : i < n) : Region.reachB .any l.toArray i l.length j = true := by
  have h1 := List.all_eq_true.1 h j (List.mem_range.2 hj)
  simp only [Bool.or_eq_true, decide_eq_true_eq] at h1
  rcases h1 with h1 | h1
  · omega
  · exact rch_reach (List.all_eq_true.1 h1 i (List.mem_range.2 hi))
section
variable {P : Program} {C : World → Prop} {Q : Exit → Act → World → Prop} {Qh : Act → Prop}
theorem yielded_take {l : List Oper} {n j : Nat} (h : j < n) (tm : Array Value) : yielded (l.take n).toArray tm j = yielded l.toArray tm j := by
  unfold yielded
  simp [List.getElem?_take, h]
theorem qOp_take {l : List Oper} {n i : Nat} (hi : i < n) (hg : gdOk n (l.take n) = true) {K : Act → Prop} {a : Act} : qOp P (l.take n).toArray C i K a = qOp P l.toArray C i K a := by
  unfold qOp
  have e : (l.take n).toArray[i]? = l.toArray[i]? := by simp [List.getElem?_take, hi]
  rw [e]
  cases ho : l.toArray[i]? with
  | none => rfl
  | some o =>
    simp only
    have hw : Region.wanted o (yielded (l.take n).toArray a.tmps) = Region.wanted o (yielded l.toArray a.tmps) := by
      unfold Region.wanted
      cases eg : o.guard with
      | none => rfl
      | some p =>
        obtain ⟨j, b⟩ := p
        have hmem : o ∈ l.take n := by
          rw [← e] at ho
          have : (l.take n)[i]? = some o := by simpa using ho
          exact List.mem_of_getElem? this
        have := List.all_eq_true.1 hg o hmem
        rw [eg] at this
        simp only [decide_eq_true_eq] at this
        simp only [yielded_take this]
    rw [hw]
theorem split_any {l : List Oper} {n : Nat} (hn : n ≤ l.length) (hg : gdOk n (l.take n) = true) (hb : backOk l 0 = true) (ht : tailOk n l = true)
    (hQ : ∀ a w, C w → Qh a → wpAny P .any l.toArray Q (l.length - n) (Array.replicate n true ++ Array.replicate (l.length - n) false) a w) : ∀ (f : Nat) (listed : Array Bool) (a : Act) (w : World), C w → listed.size = n → cF listed = f → ListedClosed .any l.toArray (listed ++ Array.replicate (l.length - n) false) →
    wpAnyQ P .any (l.take n).toArray C Qh f listed a → wpAny P .any l.toArray Q (f + (l.length - n)) (listed ++ Array.replicate (l.length - n) false) a w
  | 0, listed, a, w, hC, hsz, hc, hcl, h => by
    have hall : listed = Array.replicate n true := by
      apply Array.ext
      · simp [hsz]
      · intro i h1 h2
        simp only [Array.getElem_replicate]
        cases e : listed[i] with
        | true => rfl
        | false =>
          exfalso
          have : 0 < cF listed := by
            unfold cF
            rw [List.count_pos_iff]
            rw [← e]
            simp
          omega
    rw [hall]
    simpa using hQ a w hC h.2
  | f + 1, listed, a, w, hC, hsz, hc, hcl, h => by
    have hun : ∃ i, i < n ∧ listed.getD i true = false := by
      have : 0 < cF listed := by omega
      unfold cF at this
      rw [List.count_pos_iff] at this
      obtain ⟨i, hi, e⟩ := List.getElem_of_mem this
      have hi' : i < listed.size := by simpa using hi
      exact ⟨i, by omega, by rw [getD_lt hi']; simpa using e⟩
    have gL : ∀ i b, i < n → (listed ++ Array.replicate (l.length - n) false).getD i b = listed.getD i b := fun i b hi => by
      rw [getD_lt (by simp; omega), getD_lt (by omega), Array.getElem_append_left (by omega)]
    have gR' : ∀ i, ¬ i < n → (listed ++ Array.replicate (l.length - n) false).getD i false = false := fun i hi => by
      by_cases h1 : i < (listed ++ Array.replicate (l.length - n) false).size
      · rw [getD_lt h1, Array.getElem_append_right (by omega)]; simp
      · exact getD_ge h1
    have hready : ∀ i, i ∈ Region.ready .any l.toArray (listed ++ Array.replicate (l.length - n) false) → i < n ∧ i ∈ Region.ready .any (l.take n).toArray listed := fun i hi => by
      obtain ⟨h1, o, ho, h2⟩ := mem_ready.1 hi
      have ho' : l[i]? = some o := by simpa using ho
      have hin : i < n := by
        apply Classical.byContradiction
        intro hin
        obtain ⟨j, hj, hj2⟩ := hun
        have hil : i < l.length := by
          have := (Array.getElem?_eq_some_iff.1 ho).1
          simpa using this
        exact Region.reach_not_ready hcl (tailOk_at ht hil (by omega) hj) (by rw [gL j true hj]; exact hj2) hi
      refine ⟨hin, mem_ready.2 ⟨by rw [← gL i true hin]; exact h1, o, by simp [List.getElem?_take, hin, ho'], fun e he hbe => ?_⟩⟩
      have hlt := backOk_at hb ho' e he hbe
      rw [← gL e.on false (by omega)]
      exact h2 e he hbe
    rw [show f + 1 + (l.length - n) = (f + (l.length - n)) + 1 by omega]
    refine ⟨fun h0 => ?_, fun i hi => ?_⟩
    · exfalso
      obtain ⟨j, hj⟩ := hun
      have hex : ∃ i, (i < n ∧ listed.getD i true = false) ∧ ∀ m, m < i → ¬ (m < n ∧ listed.getD m true = false) := by
        obtain ⟨i, h1, h2⟩ := exists_least (p := fun i => i < n ∧ listed.getD i true = false) ⟨j, hj⟩
        exact ⟨i, h1, fun m hm hp => by have := h2 m hp; omega⟩
      obtain ⟨i, ⟨hi1, hi2⟩, hi3⟩ := hex
      have hlen : i < l.length := by omega
      have : i ∈ Region.ready .any l.toArray (listed ++ Array.replicate (l.length - n) false) := by
        refine mem_ready.2 ⟨by rw [gL i true hi1]; exact hi2, l[i], by simp [hlen], fun e he hbe => ?_⟩
        have hlt := backOk_at hb (List.getElem?_eq_getElem hlen) e he hbe
        have hlt' : e.on < i := by omega
        have h5 := hi3 e.on hlt'
        rw [gL e.on false (by omega), getD_lt (by omega)]
        cases e6 : listed[e.on]'(by omega) with
        | true => rfl
        | false => exact absurd ⟨by omega, by rw [getD_lt (by omega)]; exact e6⟩ h5
      rw [h0] at this
      cases this
    · obtain ⟨hin, hr⟩ := hready i hi
      have hq := h.2 i hr
      rw [qOp_take hin hg] at hq
      refine wpOp_of_qOp hC (fun a' w' hC' hK => ?_) hq
      have hiu : listed[i]'(by omega) = false := by
        have := (mem_ready.1 hr).1
        rwa [getD_lt (by omega)] at this
      have e7 : (listed ++ Array.replicate (l.length - n) false).setIfInBounds i true = listed.setIfInBounds i true ++ Array.replicate (l.length - n) false := by
        rw [Array.setIfInBounds_append_left (by omega)]
      have hcl' := hcl.set hi
      rw [e7] at hcl' ⊢
      exact split_any hn hg hb ht hQ f (listed.setIfInBounds i true) a' w' hC' (by simp [hsz]) (by have := cF_set (by omega) hiu; omega) hcl' hK
theorem wp_drawn {ty : TypeId → Option TI} {id : Nat} {l : List Oper} {a : Act} {w : World} (hm : P.follows .mixedOrders = true) (hd : drOk ty l = true) (hC : C { w with drawn := w.drawn + 1 })
    (h : wpQuiet P (l.take (drN ty l)).toArray C Qh (l.take (drN ty l)) a) (hQ : ∀ a w, C w → Qh a → wpAny P .any l.toArray Q (l.length - drN ty l) (Array.replicate (drN ty l) true ++ Array.replicate (l.length - drN ty l) false) a w) : (Code.region id l.toArray true).wp P Q a w := by
  simp only [drOk, Bool.and_eq_true] at hd
  obtain ⟨⟨⟨⟨⟨h1, h2⟩, h3⟩, h4⟩, _⟩, h5⟩ := hd
  simp only [Region.lexB, Bool.and_eq_true] at h1
  have hn : drN ty l ≤ l.length := (List.takeWhile_sublist _).length_le
  have hl : (l.take (drN ty l)).length = drN ty l := by rw [List.length_take]; omega
  have hq := wpAnyQ_lex (md := .any) (P := P) (C := C) h1.1 (l.take (drN ty l)) 0 (Array.replicate (l.take (drN ty l)).toArray.size false) a (by simp) (by simpa using h1.2) h
  refine wp_region_any hm ?_
  have e : Array.replicate (drN ty l) false ++ Array.replicate (l.length - drN ty l) false = Array.replicate l.toArray.size false := by
    apply Array.ext'
    simp only [Array.toList_append, Array.toList_replicate, List.size_toArray, List.replicate_append_replicate]
    congr 1; omega
  have hcl : ListedClosed .any l.toArray (Array.replicate (drN ty l) false ++ Array.replicate (l.length - drN ty l) false) := by
    rw [e]
    intro j oj hj hl
    have : j < l.toArray.size := (Array.getElem?_eq_some_iff.1 hj).1
    rw [getD_lt (by simpa using this)] at hl
    simp at hl
  have := split_any hn h2 h3 h4 hQ (drN ty l) (Array.replicate (drN ty l) false) a _ hC (by simp) (by simp [cF]) hcl (by rw [hl] at hq; simpa [hl] using hq)
  rw [e] at this
  rw [show drN ty l + (l.length - drN ty l) = l.toArray.size by simp; omega] at this
  exact this
end
end Go.Proofs.YtkindoepnganmaaGreat.F
end

section
namespace Go.Proofs.YtkindoepnganmaaGreat.F
open Go.RowKit Go.Proofs.YtkindoepnganmaaGreatW.PrintWords Go.Proofs.YtkindoepnganmaaGreatW.PrintLast Go.Proofs.YtkindoepnganmaaGreatW.PrintMore
set_option linter.unusedVariables false
set_option linter.unusedSimpArgs false
section
variable {P : Program} {ty : TypeId → Option TI} {w0 : World} {Q : Exit → Act → World → Prop}
theorem gG_gds : ∀ (l : List Oper) (i : Nat), gG (gds l) i = (l[i]?).bind (·.dst)
  | [], i => by simp [gds, gG]
  | o :: l, 0 => by simp [gds, gG]
  | o :: l, i + 1 => by
    have := gG_gds l i
    simpa [gds, gG] using this
def bOf : Value → Option Bool
  | .bool b => some b
  | _ => none
theorem guard_yields {t : List AV} {s : Sto} {φ : Nat → Value} {a : Act} {w : World} (S : Sim w0 t s φ a w) {l : List Oper} {i : Nat} {v : Value} (h : gV t (gG (gds l) i) = .v v) : yielded l.toArray a.tmps i = bOf v := by
  rw [gG_gds] at h
  unfold yielded
  simp only [List.getElem?_toArray]
  cases e : (l[i]?).bind (·.dst) with
  | none => rw [e] at h; simp [gV] at h
  | some d =>
    rw [e] at h
    simp only [gV] at h
    have h1 := RepL_get d S.tmp
    rw [h] at h1
    simp only [Rep] at h1
    rw [List.getD_eq_getElem?_getD, Array.getElem?_toList] at h1
    cases e2 : a.tmps[d]? with
    | none =>
      rw [e2] at h1
      simp only [Option.getD_none] at h1
      subst h1
      simp only [Option.bind_some, e2]
      rfl
    | some u =>
      rw [e2] at h1
      simp only [Option.getD_some] at h1
      subst h1
      simp only [Option.bind_some, e2]
      cases u <;> rfl
theorem guardW_inv {c : AV} {b : Bool} {X Y : Prop} (h : guardW c b X Y) : ∃ v, c = .v v ∧ ((v = .bool b ∧ X) ∨ (bOf v ≠ some b ∧ Y)) := by
  unfold guardW at h
  split at h
  · exact ⟨_, rfl, .inr ⟨by simp [bOf], h⟩⟩
  · exact ⟨_, rfl, .inl ⟨rfl, h⟩⟩
  · exact ⟨_, rfl, .inl ⟨rfl, h⟩⟩
  · exact ⟨_, rfl, .inr ⟨by simp [bOf], h⟩⟩
  · exact ⟨_, rfl, .inr ⟨by simp [bOf], h⟩⟩
  · exact h.elim
theorem opsW_ok (T : TyOk P ty) {l0 : List Oper} {K : Kt} (hK : ∀ φ t s a w, K t s → Sim w0 t s φ a w → Q .normal a w) : ∀ (l : List Oper) {t : List AV} {s : Sto} {φ : Nat → Value} {a : Act} {w : World},
    opsW P ty (gds l0) false l t s K → Sim w0 t s φ a w → wpList P l0.toArray Q l a w
  | [], t, s, φ, a, w, h, S => hK φ t s a w h S
  | ⟨d, op, o, p, af, none⟩ :: l, t, s, φ, a, w, h, S => by
    simp only [opsW, Bool.false_and] at h
    unfold wpList
    rw [if_pos (by simp [Region.wanted])]
    left
    refine Oper.wp_mono (fun a' w' hn => ?_) (opX_ok (o := ⟨d, op, o, p, af, none⟩) T S h)
    obtain ⟨φ', t', s', h', S'⟩ := hn
    exact opsW_ok T hK l h' S'
  | ⟨d, op, o, p, af, some (i, b)⟩ :: l, t, s, φ, a, w, h, S => by
    simp only [opsW, Bool.false_and] at h
    obtain ⟨v, hv, hz⟩ := guardW_inv h
    clear h
    have hy := guard_yields S hv
    unfold wpList
    rcases hz with ⟨rfl, h⟩ | ⟨hne, h⟩
    · rw [if_pos (by simp [Region.wanted, hy, bOf])]
      left
      refine Oper.wp_mono (fun a' w' hn => ?_) (opX_ok (o := ⟨d, op, o, p, af, some (i, b)⟩) T S h)
      obtain ⟨φ', t', s', h', S'⟩ := hn
      exact opsW_ok T hK l h' S'
    · rw [if_neg (by simp [Region.wanted, hy, hne])]
      exact opsW_ok T hK l h (Sim_put S d (y := .v undef) (by simp [Rep]))
theorem opsQ_ok (T : TyOk P ty) {l0 tl : List Oper} {n : Nat} {K : Kt} (hg : gdOk n (l0.take n) = true) : ∀ (l : List Oper), (∀ o ∈ l, o ∈ l0.take n) → (∀ o ∈ l, rot (ty o.type) o.op = true) → ∀ {t : List AV} {s : Sto} {φ : Nat → Value} {a : Act} {w : World},
    opsW P ty (gds l0) true (l ++ tl) t s K → Sim w0 t s φ a w → wpQuiet P (l0.take n).toArray (Below w.heap.size w) (fun a' => ∃ t s, opsW P ty (gds l0) true tl t s K ∧ Sim w0 t s φ a' w) l a
  | [], _, _, t, s, φ, a, w, h, S => ⟨t, s, h, S⟩
  | ⟨d, op, o, p, af, none⟩ :: l, hl, hr, t, s, φ, a, w, h, S => by
    have hrt : rot (ty o) op = true := hr ⟨d, op, o, p, af, none⟩ (by simp)
    have hro := rot_ro hrt
    simp only [List.cons_append, opsW, hrt, Bool.and_self] at h
    unfold wpQuiet
    rw [if_pos (by simp [Region.wanted])]
    rcases opX_ro (o := ⟨d, op, o, p, af, none⟩) T S hro h with ⟨y, h1, v, h2, h3⟩ | ⟨h1, _⟩
    · exact ⟨v, h3, opsQ_ok T hg l (fun o ho => hl o (by simp [ho])) (fun o ho => hr o (by simp [ho])) h1 (Sim_put S d h2)⟩
    · cases h1
  | ⟨d, op, o, p, af, some (i, b)⟩ :: l, hl, hr, t, s, φ, a, w, h, S => by
    have hrt : rot (ty o) op = true := hr ⟨d, op, o, p, af, some (i, b)⟩ (by simp)
    have hro := rot_ro hrt
    simp only [List.cons_append, opsW, hrt, Bool.and_self] at h
    obtain ⟨v, hv, hz⟩ := guardW_inv h
    clear h
    have hlt : i < n := by
      have := List.all_eq_true.1 hg _ (hl ⟨d, op, o, p, af, some (i, b)⟩ (by simp))
      simpa using this
    have hy : yielded (l0.take n).toArray a.tmps i = bOf v := by rw [yielded_take hlt]; exact guard_yields S hv
    unfold wpQuiet
    rcases hz with ⟨rfl, h⟩ | ⟨hne, h⟩
    · rw [if_pos (by simp [Region.wanted, hy, bOf])]
      rcases opX_ro (o := ⟨d, op, o, p, af, some (i, b)⟩) T S hro h with ⟨y, h1, u, h2, h3⟩ | ⟨h1, _⟩
      · exact ⟨u, h3, opsQ_ok T hg l (fun o ho => hl o (by simp [ho])) (fun o ho => hr o (by simp [ho])) h1 (Sim_put S d h2)⟩
      · cases h1
    · rw [if_neg (by simp [Region.wanted, hy, hne])]
      exact opsQ_ok T hg l (fun o ho => hl o (by simp [ho])) (fun o ho => hr o (by simp [ho])) h (Sim_put S d (y := .v undef) (by simp [Rep]))
theorem opsW_tail {g : Gd} {K : Kt} : ∀ {l : List Oper} {t : List AV} {s : Sto}, (∀ o, l.head? = some o → rot (ty o.type) o.op = false) → opsW P ty g true l t s K → opsW P ty g false l t s K
  | [], t, s, _, h => h
  | ⟨d, op, o, p, af, gd⟩ :: l, t, s, h0, h => by
    have hro : rot (ty o) op = false := h0 _ rfl
    cases gd with
    | none => simp only [opsW, hro, Bool.and_false] at h ⊢; exact h
    | some q => obtain ⟨i, b⟩ := q; simp only [opsW, hro, Bool.and_false] at h ⊢; exact h
theorem drop_head {l : List Oper} : ∀ o, (l.drop (drN ty l)).head? = some o → rot (ty o.type) o.op = false := by
  intro o h
  induction l with
  | nil => simp [drN] at h
  | cons x l ih =>
    unfold drN at h ih
    rw [List.takeWhile_cons] at h
    split at h
    · rename_i hx
      simp only [List.length_cons, List.drop_succ_cons] at h
      exact ih h
    · rename_i hx
      simp at h
      subst h
      simpa using hx
theorem tail_ok (T : TyOk P ty) {l0 : List Oper} (hns : Region.noSelect l0.toArray = true) (hp : ∀ c a w, ¬ Q (.panic c) a w) {K : Kt} (hK : ∀ φ t s a w, K t s → Sim w0 t s φ a w → Q .normal a w) : ∀ (l : List Oper) (k : Nat) (listed : Array Bool) {t : List AV} {s : Sto} {φ : Nat → Value} {a : Act} {w : World},
    (∀ j, l[j]? = l0.toArray[k + j]?) → tlB l0.toArray l.length k listed = true → opsW P ty (gds l0) false l t s K → Sim w0 t s φ a w → wpAny P .any l0.toArray Q l.length listed a w
  | [], k, listed, t, s, φ, a, w, hl, hB, h, S => ⟨by simpa [tlB] using hB, hK φ t s a w h S⟩
  | o :: l, k, listed, t, s, φ, a, w, hl, hB, h, S => by
    have h0 : l0.toArray[k]? = some o := by simpa using (hl 0).symm
    have hl' : ∀ j, l[j]? = l0.toArray[k + 1 + j]? := fun j => by have := hl (j + 1); simpa [Nat.add_assoc, Nat.add_comm 1 j] using this
    simp only [List.length_cons, tlB, Bool.and_eq_true, Bool.or_eq_true, decide_eq_true_eq] at hB
    obtain ⟨hB, hB'⟩ := hB
    rcases hB with hB | hB
    · refine ⟨fun h1 => (by rw [hB] at h1; cases h1), fun i hi => ?_⟩
      rw [hB] at hi
      have hik : i = k := by simpa using hi
      subst hik
      unfold wpOp
      simp only [h0]
      obtain ⟨d, op, ot, p, af, gd⟩ := o
      cases gd with
      | none =>
        simp only [opsW, Bool.false_and] at h
        rw [if_pos (by simp [Region.wanted])]
        left
        refine Oper.wp_mono (fun a' w' hn => ?_) (opX_ok (o := ⟨d, op, ot, p, af, none⟩) T S h)
        obtain ⟨φ', t', s', h', S'⟩ := hn
        exact tail_ok T hns hp hK l _ _ hl' hB' h' S'
      | some g =>
        obtain ⟨i', b⟩ := g
        simp only [opsW, Bool.false_and] at h
        obtain ⟨v, hv, hz⟩ := guardW_inv h
        clear h
        have hy := guard_yields S hv
        rcases hz with ⟨rfl, h⟩ | ⟨hne, h⟩
        · rw [if_pos (by simp [Region.wanted, hy, bOf])]
          left
          refine Oper.wp_mono (fun a' w' hn => ?_) (opX_ok (o := ⟨d, op, ot, p, af, some (i', b)⟩) T S h)
          obtain ⟨φ', t', s', h', S'⟩ := hn
          exact tail_ok T hns hp hK l _ _ hl' hB' h' S'
        · rw [if_neg (by simp [Region.wanted, hy, hne])]
          exact tail_ok T hns hp hK l _ _ hl' hB' h (Sim_put S d (y := .v undef) (by simp [Rep]))
    · obtain ⟨⟨hr, hpu⟩, hf⟩ := hB
      have hpu : pureT o = true := by unfold pureN at hpu; rw [h0] at hpu; exact hpu
      obtain ⟨d, op, ot, p, af, gd⟩ := o
      unfold pureT at hpu
      simp only [Bool.and_eq_true, Option.isNone_iff_eq_none] at hpu
      obtain ⟨rfl, hpu⟩ := hpu
      simp only [opsW, Bool.false_and] at h
      have key : ∃ y v, opsW P ty (gds l0) false l (pT t d y) s K ∧ Rep w0.heap.size w0 φ y v ∧ ∀ w1, (execOp a.eval (⟨d, op, ot, p, af, none⟩ : Oper)).run P w1 = .ok (.value v) w1 := by
        cases op with
        | move x =>
          simp only [opX] at h
          exact ⟨_, _, h, Sim_ev S x, fun w1 => by simp [execOp]⟩
        | extract x n =>
          simp only [opX] at h
          have hx := Sim_ev S x
          unfold extW at h
          split at h
          · rename_i cs _ _ _ _ _ e1
            rw [e1] at hx
            simp only [Rep] at hx
            obtain ⟨z, e2, h2⟩ := hx
            obtain ⟨y, v, h3, h4, h5⟩ := exW_get h h2
            exact ⟨y, v, h5, h4, fun w1 => by simp [execOp, e2, Instr.extract, h3]⟩
          · exact h.elim
        | _ => simp at hpu
      obtain ⟨y, v, h1, h2, h3⟩ := key
      exact wpAny_first (oi := ⟨d, op, ot, p, af, none⟩) h0 (Region.noSelect_spec hns) (fun c a w hh => absurd hh (hp c _ w)) l.length listed a w (Region.free_spec h0 hf) (by simpa using hr) (.inl ⟨by simp [Region.wanted], h3⟩)
        (tail_ok T hns hp hK l _ _ hl' hB' h1 (Sim_put S d h2))
theorem region_ok (T : TyOk P ty) (hm : P.follows .mixedOrders = true) {id : Nat} {l : List Oper} {dr : Bool} (hd : dr = true → drOk ty l = true) {K : Kt} (hK : ∀ φ t s a w, K t s → Sim w0 t s φ a w → Q .normal a w) {t : List AV} {s : Sto} {φ : Nat → Value} {a : Act} {w : World}
    (h : opsW P ty (gds l) dr l t s K) (S : Sim w0 t s φ a w) : (Code.region id l.toArray dr).wp P Q a w := by
  cases dr with
  | false => exact wp_region_lit (opsW_ok T hK l h S)
  | true =>
    have hd := hd rfl
    have hg : gdOk (drN ty l) (l.take (drN ty l)) = true := by
      have := hd
      simp only [drOk, Bool.and_eq_true] at this
      exact this.1.1.1.1.2
    have hns : Region.noSelect l.toArray = true := by
      have := hd
      simp only [drOk, Bool.and_eq_true] at this
      exact this.1.2
    have htl : tlB l.toArray (l.length - drN ty l) (drN ty l) (Array.replicate (drN ty l) true ++ Array.replicate (l.length - drN ty l) false) = true := by
      have := hd
      simp only [drOk, Bool.and_eq_true] at this
      exact this.2
    have hro : ∀ o ∈ l.take (drN ty l), rot (ty o.type) o.op = true := fun o ho => by
      have : l.take (drN ty l) = l.takeWhile fun o => rot (ty o.type) o.op := by
        have e := List.takeWhile_prefix (l := l) (fun o => rot (ty o.type) o.op)
        exact (List.prefix_iff_eq_take.1 e).symm
      rw [this] at ho
      exact List.all_eq_true.1 (List.all_takeWhile (l := l)) o ho
    have hq := opsQ_ok (tl := l.drop (drN ty l)) T hg (l.take (drN ty l)) (fun o ho => ho) hro (by rw [List.take_append_drop]; exact h) S
    refine wp_mono (Q := fun e a w => e = .normal ∧ Q .normal a w) ?_ (fun e a w hh => by rw [hh.1]; exact hh.2)
    refine wp_drawn (C := Below w.heap.size w) hm hd ⟨rfl, rfl, rfl, Nat.le_refl _, fun _ _ => rfl⟩ hq (fun a' w' hC hh => ?_)
    obtain ⟨t', s', h', S'⟩ := hh
    have := tail_ok (Q := fun e a w => e = .normal ∧ Q .normal a w) T hns (fun c a w hh => nomatch hh.1) (fun φ t s a w h1 h2 => ⟨rfl, hK φ t s a w h1 h2⟩) (l.drop (drN ty l)) (drN ty l) _ (fun j => by simp) (by rw [List.length_drop]; exact htl) (opsW_tail drop_head h') (Sim_below S' hC)
    rwa [List.length_drop] at this
mutual
theorem Rep_ren {B : Nat} {w : World} {φ : Nat → Value} {ρ : List (Nat × Nat)} : ∀ {x : AV} {y : Value}, Rep B w φ (AV.ren ρ x) y → Rep B w (fun i => φ (rn ρ i)) x y
  | .u, _, _ => by simp [Rep]
  | .v _, _, h => by simpa [AV.ren, Rep] using h
  | .pr _ _, _, h => by simpa [AV.ren, Rep] using h
  | .pe _, _, h => by simpa [AV.ren, Rep] using h
  | .ow _ _ _, _, h => by simp [AV.ren, Rep] at h
  | .lo _, _, h => by simpa [AV.ren, Rep] using h
  | .bp _ _, _, h => by simpa [AV.ren, Rep] using h
  | .le _ _ _ _, _, h => by simpa [AV.ren, Rep] using h
  | .vw _ _ _ _, _, h => by simpa [AV.ren, Rep] using h
  | .ag cs, y, h => by
    simp only [AV.ren, Rep] at h ⊢
    obtain ⟨l, h1, h2⟩ := h
    exact ⟨l, h1, RepL_ren h2⟩
  | .tu cs, y, h => by
    simp only [AV.ren, Rep] at h ⊢
    obtain ⟨l, h1, h2⟩ := h
    exact ⟨l, h1, RepL_ren h2⟩
theorem RepL_ren {B : Nat} {w : World} {φ : Nat → Value} {ρ : List (Nat × Nat)} : ∀ {x : List AV} {y : List Value}, RepL B w φ (AV.renL ρ x) y → RepL B w (fun i => φ (rn ρ i)) x y
  | [], y, h => by simpa [AV.renL, RepL] using h
  | c :: cs, y, h => by
    simp only [AV.renL, RepL] at h ⊢
    obtain ⟨z, zs, h1, h2, h3⟩ := h
    exact ⟨z, zs, h1, Rep_ren h2, RepL_ren h3⟩
end
theorem EntT_ok {B : Nat} {w : World} {φ : Nat → Value} {ρ : List (Nat × Nat)} : ∀ {t T : List AV} {l : List Value}, EntT ρ t T → RepL B w φ t l → RepL B w (fun i => φ (rn ρ i)) T l
  | [], [], l, _, h => by simpa [RepL] using h
  | [], _ :: _, l, h, _ => by simp [EntT] at h
  | _ :: _, [], l, h, _ => by simp [EntT] at h
  | x :: t, y :: T, l, h, hl => by
    simp only [RepL] at hl ⊢
    obtain ⟨z, zs, rfl, h1, h2⟩ := hl
    cases y with
    | u => simp only [EntT] at h; exact ⟨z, zs, rfl, by simp [Rep], EntT_ok h h2⟩
    | _ => simp only [EntT] at h; exact ⟨z, zs, rfl, Rep_ren (by rw [← h.1]; exact h1), EntT_ok h.2 h2⟩
theorem EntS_at {ρ : List (Nat × Nat)} {s : Sto} : ∀ {S : Sto} {i : Nat} {b : Blk}, EntS ρ s S → gS S i = some b → gS s (rn ρ i) = some (b.ren ρ)
  | [], i, b, _, h => by simp [gS] at h
  | (j, c) :: S, i, b, h, hi => by
    simp only [EntS] at h
    simp only [gS] at hi
    split at hi
    · rename_i e
      subst e
      obtain rfl := Option.some.inj hi
      exact h.1
    · exact EntS_at h.2 hi
theorem inj_at {ρ : List (Nat × Nat)} {S : Sto} (h : inj ρ S = true) {i j : Nat} {b c : Blk} (hi : gS S i = some b) (hj : gS S j = some c) (hne : i ≠ j) : rn ρ i ≠ rn ρ j := by
  unfold inj at h
  replace h := of_decide_eq_true h
  induction S with
  | nil => simp [gS] at hi
  | cons p S ih =>
    obtain ⟨k, d⟩ := p
    simp only [List.map_cons, List.nodup_cons] at h
    simp only [gS] at hi hj
    by_cases e1 : k = i
    · subst e1
      rw [if_neg hne] at hj
      intro e
      exact h.1 (by rw [e]; exact List.mem_map.2 ⟨(j, c), gS_mem hj, rfl⟩)
    · rw [if_neg e1] at hi
      by_cases e2 : k = j
      · subst e2
        intro e
        exact h.1 (by rw [← e]; exact List.mem_map.2 ⟨(i, b), gS_mem hi, rfl⟩)
      · rw [if_neg e2] at hj
        exact ih hi hj h.2
theorem Ent_ok {t T : List AV} {s S' : Sto} {φ : Nat → Value} {a : Act} {w : World} (h : Ent t s T S') (S : Sim w0 t s φ a w) : ∃ φ', Sim w0 T S' φ' a w := by
  obtain ⟨ρ, h1, h2, h3⟩ := h
  refine ⟨fun i => φ (rn ρ i), S.below, S.defs, EntT_ok h1 S.tmp, fun i b hb => ?_, fun i j b c hb hc hne => ?_⟩
  · have := S.blk _ _ (EntS_at h2 hb)
    cases b with
    | box tb cs =>
      obtain ⟨g, c, g1, g2, g3, g4⟩ := this
      exact ⟨g, c, g1, g2, g3, RepL_ren g4⟩
    | row e sz xs => exact this
  · exact S.apart _ _ _ _ (EntS_at h2 hb) (EntS_at h2 hc) (inj_at h3 hb hc hne)
def okC (ty : TypeId → Option TI) : Code → Bool
  | .skip => true
  | .region _ ⟨l⟩ dr => !dr || drOk ty l
  | .seq a b => okC ty a && okC ty b
  | .cond _ a b => okC ty a && okC ty b
  | .block _ b => okC ty b
  | .loop b => okC ty b
  | .exit _ => true
  | .ret => true
  | _ => false
def Qx (w0 : World) (Q : Qt) : Exit → Act → World → Prop := fun e a w => ∃ φ t s, Q e t s ∧ Sim w0 t s φ a w
theorem EW_ok (T : TyOk P ty) (hm : P.follows .mixedOrders = true) : ∀ (c : Code), okC ty c = true → ∀ {Q : Qt} {t : List AV} {s : Sto} {φ : Nat → Value} {a : Act} {w : World}, EW P ty c Q t s → Sim w0 t s φ a w → c.wp P (Qx w0 Q) a w
  | .skip, _, Q, t, s, φ, a, w, h, S => wp_skip ⟨φ, t, s, h, S⟩
  | .exit id, _, Q, t, s, φ, a, w, h, S => wp_exit ⟨φ, t, s, h, S⟩
  | .ret, _, Q, t, s, φ, a, w, h, S => wp_ret ⟨φ, t, s, h, S⟩
  | .region id ⟨l⟩ dr, hc, Q, t, s, φ, a, w, h, S => by
    simp only [okC, Bool.or_eq_true, Bool.not_eq_true'] at hc
    exact region_ok T hm (fun e => by rcases hc with hc | hc; rw [e] at hc; cases hc; exact hc) (K := kN Q) (fun φ t s a w hk S => ⟨φ, t, s, hk, S⟩) h S
  | .seq x y, hc, Q, t, s, φ, a, w, h, S => by
    simp only [okC, Bool.and_eq_true] at hc
    refine wp_seq (wp_mono (EW_ok T hm x hc.1 h S) fun e a w hq => ?_)
    obtain ⟨φ', t', s', hq, S'⟩ := hq
    cases e with
    | normal => exact EW_ok T hm y hc.2 hq S'
    | _ => exact ⟨φ', t', s', hq, S'⟩
  | .cond c x y, hc, Q, t, s, φ, a, w, h, S => by
    simp only [okC, Bool.and_eq_true] at hc
    have hx := Sim_ev S c
    simp only [EW] at h
    unfold cdW at h
    split at h
    · rename_i e
      rw [e] at hx
      simp only [Rep] at hx
      exact wp_cond_true hx (EW_ok T hm x hc.1 h S)
    · rename_i e
      rw [e] at hx
      simp only [Rep] at hx
      exact wp_cond_false hx (EW_ok T hm y hc.2 h S)
    · exact h.elim
  | .block id b, hc, Q, t, s, φ, a, w, h, S => by
    simp only [okC] at hc
    refine wp_block (wp_mono (EW_ok T hm b hc h S) fun e a w hq => ?_)
    obtain ⟨φ', t', s', hq, S'⟩ := hq
    cases e with
    | exit j =>
      simp only [kB] at hq
      simp only [Exit.inBlock]
      split
      · rename_i e; rw [if_pos e] at hq; exact ⟨φ', t', s', hq, S'⟩
      · rename_i e; rw [if_neg e] at hq; exact ⟨φ', t', s', hq, S'⟩
    | _ => exact ⟨φ', t', s', hq, S'⟩
  | .loop b, hc, Q, t, s, φ, a, w, h, S => by
    simp only [okC] at hc
    obtain ⟨ι, TT, SS, F, ⟨n0, x0, hF, hE⟩, hr⟩ := h
    obtain ⟨φ0, S0⟩ := Ent_ok hE S
    refine wp_loop_ghost (fun n a w => ∃ x φ, F n x ∧ Sim w0 (TT x) (SS x) φ a w) n0 ⟨x0, φ0, hF, S0⟩ fun n a' w' hI => ?_
    obtain ⟨x, φ', hF', S'⟩ := hI
    refine wp_mono (EW_ok T hm b hc (hr n x hF') S') fun e a w hq => ?_
    obtain ⟨φ2, t2, s2, hq, S2⟩ := hq
    cases e with
    | normal =>
      obtain ⟨m, y, hlt, hFm, hEm⟩ := hq
      obtain ⟨φ3, S3⟩ := Ent_ok hEm S2
      exact ⟨m, hlt, y, φ3, hFm, S3⟩
    | _ => exact ⟨φ2, t2, s2, hq, S2⟩
  | .rangeFunc .., hc, _, _, _, _, _, _, _, _ => by simp [okC] at hc
  | .scope _, hc, _, _, _, _, _, _, _, _ => by simp [okC] at hc
  | .label _, hc, _, _, _, _, _, _, _, _ => by simp [okC] at hc
  | .goto _, hc, _, _, _, _, _, _, _, _ => by simp [okC] at hc
  | .refuse _, hc, _, _, _, _, _, _, _, _ => by simp [okC] at hc
end
end Go.Proofs.YtkindoepnganmaaGreat.F
end

section
namespace Go.Proofs.YtkindoepnganmaaGreat.F
open Go.RowKit Go.Proofs.YtkindoepnganmaaGreatW.PrintWords Go.Proofs.YtkindoepnganmaaGreatW.PrintLast Go.Proofs.YtkindoepnganmaaGreatW.PrintMore
set_option linter.unusedVariables false
set_option linter.unusedSimpArgs false
mutual
def FitR (s : Sto) : AV → AV → Prop
  | .v x, .v y => x = y
  | .lo id, .ow e sz xs => gS s id = some (.row e sz xs)
  | .v x, .ow e sz xs => x = .slice none 0 0 ∧ xs = [] ∧ 0 < sz
  | .ag cs, .ag ds => FitRL s cs ds
  | .tu cs, .tu ds => FitRL s cs ds
  | _, _ => False
def FitRL (s : Sto) : List AV → List AV → Prop
  | [], [] => True
  | c :: cs, d :: ds => FitR s c d ∧ FitRL s cs ds
  | _, _ => False
end
mutual
def AV.ids : AV → List Nat
  | .lo i => [i]
  | .ag cs => AV.idsL cs
  | .tu cs => AV.idsL cs
  | _ => []
def AV.idsL : List AV → List Nat
  | [] => []
  | c :: cs => AV.ids c ++ AV.idsL cs
end
mutual
theorem FitR_ok {w0 : World} {t : List AV} {s : Sto} {φ : Nat → Value} {a : Act} {w : World} (S : Sim w0 t s φ a w) : ∀ (x : AV) {r : AV} {y : Value}, FitR s x r → (AV.ids x).Nodup → Rep w0.heap.size w0 φ x y → ∃ L, RepR w0.heap.size w r y L ∧ L.Nodup ∧ ∀ k ∈ L, ∃ id ∈ AV.ids x, (∃ b, gS s id = some b) ∧ bk (φ id) = some k
  | .v x, r, y, h, _, hr => by
    simp only [Rep] at hr
    subst hr
    cases r with
    | v z => simp only [FitR] at h; subst h; exact ⟨[], by simp [RepR], by simp, by simp⟩
    | ow e sz xs =>
      simp only [FitR] at h
      obtain ⟨rfl, rfl, h0⟩ := h
      refine ⟨[], ?_, by simp, by simp⟩
      simp only [RepR]
      exact ⟨World.ownsRow_nil _ _ _ _, fun x hx => by simp at hx, h0, by first | rfl | trivial⟩
    | _ => simp [FitR] at h
  | .lo id, r, y, h, _, hr => by
    simp only [Rep] at hr
    obtain ⟨rfl, _⟩ := hr
    cases r with
    | ow e sz xs =>
      simp only [FitR] at h
      obtain ⟨b1, b2, b3⟩ := S.blk id _ h
      refine ⟨(bk (φ id)).toList, by simp only [RepR]; exact ⟨b1, b2, b3, trivial⟩, by cases bk (φ id) <;> simp, fun k hk => ⟨id, by simp [AV.ids], ⟨_, h⟩, ?_⟩⟩
      cases e : bk (φ id) with
      | none => rw [e] at hk; simp at hk
      | some q => rw [e] at hk; simp at hk; rw [hk]
    | _ => simp [FitR] at h
  | .ag cs, r, y, h, hn, hr => by
    simp only [Rep] at hr
    obtain ⟨l, rfl, hr⟩ := hr
    cases r with
    | ag ds =>
      simp only [FitR] at h
      simp only [AV.ids] at hn ⊢
      obtain ⟨L, h1, h2, h3⟩ := FitRL_ok S cs h hn hr
      exact ⟨L, by simp only [RepR]; exact ⟨l, rfl, h1⟩, h2, h3⟩
    | _ => simp [FitR] at h
  | .tu cs, r, y, h, hn, hr => by
    simp only [Rep] at hr
    obtain ⟨l, rfl, hr⟩ := hr
    cases r with
    | tu ds =>
      simp only [FitR] at h
      simp only [AV.ids] at hn ⊢
      obtain ⟨L, h1, h2, h3⟩ := FitRL_ok S cs h hn hr
      exact ⟨L, by simp only [RepR]; exact ⟨l, rfl, h1⟩, h2, h3⟩
    | _ => simp [FitR] at h
  | .u, r, y, h, _, _ => by cases r <;> simp [FitR] at h
  | .pr _ _, r, y, h, _, _ => by cases r <;> simp [FitR] at h
  | .ow _ _ _, r, y, h, _, _ => by cases r <;> simp [FitR] at h
  | .bp _ _, r, y, h, _, _ => by cases r <;> simp [FitR] at h
  | .pe _, r, y, h, _, _ => by cases r <;> simp [FitR] at h
  | .le _ _ _ _, r, y, h, _, _ => by cases r <;> simp [FitR] at h
theorem FitRL_ok {w0 : World} {t : List AV} {s : Sto} {φ : Nat → Value} {a : Act} {w : World} (S : Sim w0 t s φ a w) : ∀ (cs : List AV) {ds : List AV} {l : List Value}, FitRL s cs ds → (AV.idsL cs).Nodup → RepL w0.heap.size w0 φ cs l → ∃ L, RepRL w0.heap.size w ds l L ∧ L.Nodup ∧ ∀ k ∈ L, ∃ id ∈ AV.idsL cs, (∃ b, gS s id = some b) ∧ bk (φ id) = some k
  | [], ds, l, h, _, hr => by
    cases ds with
    | nil => simp only [RepL] at hr; subst hr; exact ⟨[], by simp [RepRL], by simp, by simp⟩
    | cons d ds => simp [FitRL] at h
  | c :: cs, ds, l, h, hn, hr => by
    cases ds with
    | nil => simp [FitRL] at h
    | cons d ds =>
      simp only [FitRL] at h
      simp only [AV.idsL] at hn ⊢
      simp only [RepL] at hr
      obtain ⟨y, ys, rfl, hr1, hr2⟩ := hr
      obtain ⟨hn1, hn2, hdis⟩ := List.nodup_append.1 hn
      obtain ⟨L1, a1, a2, a3⟩ := FitR_ok S c h.1 hn1 hr1
      obtain ⟨L2, b1, b2, b3⟩ := FitRL_ok S cs h.2 hn2 hr2
      refine ⟨L1 ++ L2, by simp only [RepRL]; exact ⟨y, ys, L1, L2, rfl, rfl, a1, b1⟩, List.nodup_append.2 ⟨a2, b2, fun k hk k' hk' e => ?_⟩, fun k hk => ?_⟩
      · subst e
        obtain ⟨i, hi, ⟨bi, ei⟩, hbi⟩ := a3 k hk
        obtain ⟨j, hj, ⟨bj, ej⟩, hbj⟩ := b3 k hk'
        have hne : i ≠ j := hdis i hi j hj
        rcases S.apart i j bi bj ei ej hne with h9 | h9
        · rw [h9] at hbi; cases hbi
        · exact h9 (by rw [hbi, hbj])
      · rcases List.mem_append.1 hk with hk | hk
        · obtain ⟨i, hi, h9⟩ := a3 k hk
          exact ⟨i, List.mem_append_left _ hi, h9⟩
        · obtain ⟨i, hi, h9⟩ := b3 k hk
          exact ⟨i, List.mem_append_right _ hi, h9⟩
end
section
variable {P : Program} (ty : TypeId → Option TI)
def cellB (i : TI) (off : Nat) : Option Blk → Option AV
  | some (.box _ cs) => if off + i.size ≤ cs.length then some (cutA i.agg i.size (dp off cs)) else none
  | _ => none
def cellV : Option TI → AV → Sto → Option AV
  | some i, .bp id off, s => cellB i off (gS s id)
  | _, _, _ => none
def resL (t : List AV) (s : Sto) : List ResultVar → Option (List AV)
  | [] => some []
  | .tmp i :: l => (resL t s l).map (gT t i :: ·)
  | .cell i b :: l => (cellV (ty b) (gT t i) s).bind fun x => (resL t s l).map (x :: ·)
def FitO (s : Sto) : List AV → AV → Prop
  | [x], r => FitR s x r
  | [], .tu rs => FitRL s [] rs
  | x :: y :: l, .tu rs => FitRL s (x :: y :: l) rs
  | _, _ => False
def nodB (l : List Nat) : Bool := decide l.Nodup
def QR (rv : List ResultVar) (res : AV) : Qt
  | .ret, t, s => ∃ xs, resL ty t s rv = some xs ∧ nodB (AV.idsL xs) = true ∧ FitO s xs res
  | .normal, t, s => ∃ xs, resL ty t s rv = some xs ∧ nodB (AV.idsL xs) = true ∧ FitO s xs res
  | _, _, _ => False
variable {ty}
def resOne (tm : Array Value) : ResultVar → Sem Value
  | .tmp i => pure (tm.getD i undef)
  | .cell x b => do loadVar b (← asAddr (tm.getD x undef))
theorem resL_ok (T : TyOk P ty) {w0 : World} {t : List AV} {s : Sto} {φ : Nat → Value} {a : Act} {w : World} (S : Sim w0 t s φ a w) : ∀ {rv : List ResultVar} {xs : List AV}, resL ty t s rv = some xs →
    ∃ vs, (rv.mapM (resOne a.tmps)).run P w = .ok vs w ∧ RepL w0.heap.size w0 φ xs vs
  | [], xs, h => by simp only [resL] at h; obtain rfl := Option.some.inj h; exact ⟨[], by simp, by simp [RepL]⟩
  | .tmp i :: l, xs, h => by
    simp only [resL] at h
    obtain ⟨ys, h1, rfl⟩ := Option.map_eq_some_iff.1 h
    obtain ⟨vs, h2, h3⟩ := resL_ok T S h1
    have h4 := RepL_get i S.tmp
    refine ⟨a.tmps.getD i undef :: vs, by rw [List.mapM_cons]; simp only [Sem.run_bind, resOne, Sem.run_pure, Result.andThen_ok, h2], ?_⟩
    simp only [RepL]
    exact ⟨_, vs, rfl, by simpa [Array.getD_eq_getD_getElem?, List.getD_eq_getElem?_getD] using h4, h3⟩
  | .cell x b :: l, xs, h => by
    simp only [resL] at h
    obtain ⟨y, h0, h⟩ := Option.bind_eq_some_iff.1 h
    obtain ⟨ys, h1, rfl⟩ := Option.map_eq_some_iff.1 h
    obtain ⟨vs, h2, h3⟩ := resL_ok T S h1
    have h4 := RepL_get x S.tmp
    have h4 : Rep w0.heap.size w0 φ (gT t x) (a.tmps.getD x undef) := by simpa [Array.getD_eq_getD_getElem?, List.getD_eq_getElem?_getD] using h4
    cases ei : ty b with
    | none => rw [ei] at h0; simp [cellV] at h0
    | some i =>
      rw [ei] at h0
      cases ex : gT t x with
      | bp id off =>
        rw [ex] at h0 h4
        simp only [cellV] at h0
        cases eb : gS s id with
        | none => rw [eb] at h0; simp [cellB] at h0
        | some bl =>
          cases bl with
          | row e sz xs => rw [eb] at h0; simp [cellB] at h0
          | box tb cs =>
            rw [eb] at h0
            simp only [cellB] at h0
            split at h0
            · rename_i hn
              obtain rfl := Option.some.inj h0
              obtain ⟨g, c, g1, g2, g3, g4⟩ := S.blk id _ eb
              simp only [Rep] at h4
              obtain ⟨g', g5, g6⟩ := h4
              rw [g1] at g5
              obtain rfl : g = g' := by simpa using g5
              have hlen := RepL_len g4
              have Ti := T b i ei
              have hr := run_loadVar Ti (w := w) (ad := ⟨g, off, none⟩) (cs := (c.drop off).take i.size) (by rw [List.length_take, List.length_drop, ← hlen]; omega) (fun j u hu => by
                rw [addr_at]
                rw [cell_of_row w g (off + j) (List.toArray c) tb (0, 0) g3]
                rw [List.getElem?_take] at hu
                split at hu
                · rw [List.getElem?_drop] at hu; simpa using hu
                · cases hu)
              refine ⟨cutV i.agg ((c.drop off).take i.size) :: vs, by rw [List.mapM_cons]; simp only [Sem.run_bind, resOne, g6, asAddr, Sem.run_pure, Result.andThen_ok, hr, h2], ?_⟩
              simp only [RepL]
              refine ⟨_, vs, rfl, Rep_cut (size_one Ti) (RepL_drop off g4) ?_, h3⟩
              have hd : (dp off cs).length = cs.length - off := by rw [RepL_len (RepL_drop off g4), List.length_drop, hlen]
              omega
            · cases h0
      | _ => rw [ex] at h0; simp [cellV] at h0
theorem RepL_app {B : Nat} {w : World} {φ : Nat → Value} : ∀ {x y : List AV} {k l : List Value}, RepL B w φ x k → RepL B w φ y l → RepL B w φ (x ++ y) (k ++ l)
  | [], y, k, l, h1, h2 => by simp only [RepL] at h1; subst h1; exact h2
  | c :: cs, y, k, l, h1, h2 => by
    simp only [RepL] at h1
    obtain ⟨z, zs, rfl, h3, h4⟩ := h1
    simp only [List.cons_append, RepL]
    exact ⟨z, _, rfl, h3, RepL_app h4 h2⟩
theorem RepL_u {B : Nat} {w : World} {φ : Nat → Value} : ∀ (n : Nat) (v : Value), RepL B w φ (List.replicate n .u) (List.replicate n v)
  | 0, v => by simp [RepL]
  | n + 1, v => by simp only [List.replicate_succ, RepL]; exact ⟨v, _, rfl, by simp [Rep], RepL_u n v⟩
theorem Ctr_of (T : TyOk P ty) (hm : P.follows .mixedOrders = true) {f : FuncId} {fn : Func} {c : Code} (hf : P.funcs[f]? = some fn) (hname : (fn.name == "runtime.NumGoroutine") = false) (hb : fn.body = some c) (hc : okC ty c = true)
    {args : List AV} {res : AV} {n : Nat} {rv : List ResultVar} (hn : fn.ntmps = args.length + n) (hrv : fn.results = List.toArray rv) (h : EW P ty c (QR ty rv res) (args ++ List.replicate n .u) []) : Ctr P f args res := by
  refine ⟨enters_of hf hname hb, fun w ys hys => calls_of_wp hf hb ?_⟩
  have hlen := RepL_len hys
  have S : Sim w (args ++ List.replicate n .u) [] (fun _ => undef) { tmps := ys.toArray ++ Array.replicate (fn.ntmps - ys.toArray.size) undef, defers := [] } w := by
    refine ⟨Below.refl _ _, rfl, ?_, fun id b hb => by simp [gS] at hb, fun i j b c hb => by simp [gS] at hb⟩
    have : fn.ntmps - ys.toArray.size = n := by simp only [List.size_toArray]; omega
    rw [this]
    simpa using RepL_app hys (RepL_u n undef)
  refine wp_mono (EW_ok T hm c hc h S) fun e a w' hq => ?_
  obtain ⟨φ, t, s, hq, S'⟩ := hq
  have key : (∃ xs, resL ty t s rv = some xs ∧ nodB (AV.idsL xs) = true ∧ FitO s xs res) → ∃ v, (results fn a.tmps).run P w' = .ok v w' ∧ ∃ y L, Ending.returned v = .returned y ∧ RepR w.heap.size w' res y L ∧ L.Nodup ∧ Below w.heap.size w w' := by
    rintro ⟨xs, h1, h2, h3⟩
    obtain ⟨vs, h4, h5⟩ := resL_ok T S' h1
    have h2 := of_decide_eq_true h2
    have hrun : (results fn a.tmps).run P w' = .ok (if h : vs.length = 1 then vs[0] else .tuple (List.toArray vs)) w' := by
      have e : results fn a.tmps = (do let vs ← fn.results.mapM (resOne a.tmps); pure (if h : vs.size = 1 then vs[0] else .tuple vs)) := by
        unfold results
        congr 1
      rw [e, hrv, List.mapM_toArray]
      simp only [Sem.run_bind, map_eq_pure_bind, h4, Result.andThen_ok, Sem.run_pure]
      simp
    have hl5 := RepL_len h5
    refine ⟨_, hrun, ?_⟩
    match xs, h3 with
    | [x], h3 =>
      simp only [List.length_cons, List.length_nil] at hl5
      simp only [RepL] at h5
      obtain ⟨y, zs, rfl, h6, rfl⟩ := h5
      simp only [AV.idsL, List.append_nil] at h2
      obtain ⟨L, h7, h8, _⟩ := FitR_ok S' x h3 h2 h6
      exact ⟨y, L, rfl, h7, h8, S'.below⟩
    | [], h3 =>
      cases res with
      | tu rs =>
        obtain ⟨L, h7, h8, _⟩ := FitRL_ok S' [] h3 h2 h5
        rw [dif_neg (by rw [← hl5]; simp)]
        exact ⟨_, L, rfl, by simp only [RepR]; exact ⟨vs, rfl, h7⟩, h8, S'.below⟩
      | _ => simp [FitO] at h3
    | x :: y :: l, h3 =>
      cases res with
      | tu rs =>
        obtain ⟨L, h7, h8, _⟩ := FitRL_ok S' (x :: y :: l) h3 h2 h5
        rw [dif_neg (by rw [← hl5]; simp)]
        exact ⟨_, L, rfl, by simp only [RepR]; exact ⟨vs, rfl, h7⟩, h8, S'.below⟩
      | _ => simp [FitO] at h3
  cases e with
  | ret => exact ⟨S'.defs, key hq⟩
  | normal => exact ⟨S'.defs, key hq⟩
  | _ => exact hq.elim
end
end Go.Proofs.YtkindoepnganmaaGreat.F
end

section
namespace Go.Proofs.YtkindoepnganmaaGreat.F
open Go.RowKit Go.Proofs.YtkindoepnganmaaGreatW.PrintWords Go.Proofs.YtkindoepnganmaaGreatW.PrintLast Go.Proofs.YtkindoepnganmaaGreatW.PrintMore
set_option linter.unusedVariables false
set_option linter.unusedSimpArgs false
theorem W1 : (∀ x t, gT (x :: t) 0 = x) ∧ (∀ x t n, gT (x :: t) (n + 1) = gT t n) ∧ (∀ x t y, sT (x :: t) 0 y = y :: t) ∧ (∀ x t n y, sT (x :: t) (n + 1) y = x :: sT t n y) ∧
    (∀ t d y, pT t (some d) y = sT t d y) ∧ (∀ t y, pT t none y = t) ∧ (∀ t i, eT t (.tmp i) = gT t i) ∧ (∀ t x, eT t (.const x) = .v x) ∧
    (∀ i b s j, gS ((i, b) :: s) j = if i = j then some b else gS s j) ∧ (∀ j b, uS [] j b = [(j, b)]) ∧ (∀ i c s j b, uS ((i, c) :: s) j b = if i = j then (j, b) :: s else (i, c) :: uS s j b) ∧
    (∀ j, dS [] j = []) ∧ (∀ i c s j, dS ((i, c) :: s) j = if i = j then dS s j else (i, c) :: dS s j) ∧
    (∀ cs, AV.cells (.ag cs) = cs) ∧ (∀ x, AV.cells (.v x) = [.v x]) ∧ (∀ i, AV.cells (.lo i) = [.lo i]) ∧ (∀ i o, AV.cells (.bp i o) = [.bp i o]) ∧ (∀ z l, AV.cells (.pr z l) = [.pr z l]) ∧
    (∀ n x l, tk (n + 1) (x :: l) = x :: tk n l) ∧ (∀ l, tk 0 l = []) ∧ (∀ n x l, dp (n + 1) (x :: l) = dp n l) ∧ (∀ l, dp 0 l = l) ∧ (∀ x l, hd1 (x :: l) = x) ∧
    (∀ n cs, cutA true n cs = .ag (tk n cs)) ∧ (∀ n cs, cutA false n cs = hd1 cs) ∧ (∀ n l, putA n [] l = l) ∧ (∀ y ys x l, putA 0 (y :: ys) (x :: l) = y :: putA 0 ys l) ∧ (∀ n y ys x l, putA (n + 1) (y :: ys) (x :: l) = x :: putA n (y :: ys) l) ∧
    (vs [] = []) ∧ (∀ x l, vs (x :: l) = .v x :: vs l) ∧ (unv [] = []) ∧ (∀ x l, unv (.v x :: l) = x :: unv l) := by
  refine ⟨?_, ?_, ?_, ?_, ?_, ?_, ?_, ?_, ?_, ?_, ?_, ?_, ?_, ?_, ?_, ?_, ?_, ?_, ?_, ?_, ?_, ?_, ?_, ?_, ?_, ?_, ?_, ?_, ?_, ?_, ?_, ?_⟩ <;> intros <;> try rfl
  · rename_i n l; cases n <;> cases l <;> rfl
theorem W2 : (∀ s, toPL s [] = []) ∧ (∀ s c cs, toPL s (c :: cs) = toP s c :: toPL s cs) ∧ (∀ s cs, toP s (.ag cs) = .ag (toPL s cs)) ∧ (∀ s k n, toP s (.v (.int k n)) = .v (.int k n)) ∧ (∀ s b, toP s (.v (.bool b)) = .v (.bool b)) ∧
    (∀ s b, toP s (.v (.string b)) = .v (.string b)) ∧ (∀ s, toP s (.v (.slice none 0 0)) = .pr 1 []) ∧ (∀ s z x, toP s (.pr z x) = .pr z x) ∧
    (∀ s, toRL s [] = []) ∧ (∀ s c cs, toRL s (c :: cs) = toR s c :: toRL s cs) ∧ (∀ s cs, toR s (.ag cs) = .ag (toRL s cs)) ∧ (∀ s cs, toR s (.tu cs) = .tu (toRL s cs)) ∧ (∀ s x, toR s (.v x) = .v x) ∧
    (∀ n e z x, im n (.ow e z x) = (.lo n, [(n, .row e z x)], n + 1)) ∧ (∀ n x, im n (.v x) = (.v x, [], n)) ∧ (∀ n cs, im n (.ag cs) = (.ag (imL n cs).1, (imL n cs).2)) ∧ (∀ n cs, im n (.tu cs) = (.tu (imL n cs).1, (imL n cs).2)) ∧
    (∀ n, imL n [] = ([], [], n)) ∧ (∀ n c cs, imL n (c :: cs) = ((im n c).1 :: (imL (im n c).2.2 cs).1, (im n c).2.1 ++ (imL (im n c).2.2 cs).2.1, (imL (im n c).2.2 cs).2.2)) := by
  refine ⟨?_, ?_, ?_, ?_, ?_, ?_, ?_, ?_, ?_, ?_, ?_, ?_, ?_, ?_, ?_, ?_, ?_, ?_, ?_⟩ <;> intros <;> rfl
section
variable (P : Program) (ty : TypeId → Option TI)
theorem W3 : (∀ Q t s, EW P ty .skip Q t s = Q .normal t s) ∧ (∀ i l dr Q t s, EW P ty (.region i ⟨l⟩ dr) Q t s = opsW P ty (gds l) dr l t s (kN Q)) ∧ (∀ a b Q t s, EW P ty (.seq a b) Q t s = EW P ty a (kS P ty b Q) t s) ∧
    (∀ c x y Q t s, EW P ty (.cond c x y) Q t s = cdK P ty (eT t c) x y Q t s) ∧ (∀ i b Q t s, EW P ty (.block i b) Q t s = EW P ty b (kB i Q) t s) ∧ (∀ i Q t s, EW P ty (.exit i) Q t s = Q (.exit i) t s) ∧ (∀ Q t s, EW P ty .ret Q t s = Q .ret t s) ∧
    (∀ b Q t s, EW P ty (.loop b) Q t s = loopK P ty b Q t s) ∧
    (∀ Q t s, kN Q t s = Q .normal t s) ∧ (∀ b Q t s, kS P ty b Q .normal t s = EW P ty b Q t s) ∧ (∀ b Q i t s, kS P ty b Q (.exit i) t s = Q (.exit i) t s) ∧ (∀ b Q t s, kS P ty b Q .ret t s = Q .ret t s) ∧
    (∀ j i Q t s, kB j Q (.exit i) t s = if i = j then Q .normal t s else Q (.exit i) t s) ∧ (∀ j Q t s, kB j Q .normal t s = Q .normal t s) ∧ (∀ j Q t s, kB j Q .ret t s = Q .ret t s) ∧
    (∀ x y Q t s, cdK P ty (.v (.bool true)) x y Q t s = EW P ty x Q t s) ∧ (∀ x y Q t s, cdK P ty (.v (.bool false)) x y Q t s = EW P ty y Q t s) ∧
    (∀ g q t s K, opsW P ty g q [] t s K = K t s) ∧ (∀ g q d op o p a r t s K, opsW P ty g q (⟨d, op, o, p, a, none⟩ :: r) t s K = opX P ty (q && rot (ty o) op) op o d t s (kO P ty g (q && rot (ty o) op) r K)) ∧
    (∀ g q d op o p a i b r t s K, opsW P ty g q (⟨d, op, o, p, a, some (i, b)⟩ :: r) t s K = gdK P ty (gV t (gG g i)) b (q && rot (ty o) op) op o d g r t s K) ∧ (∀ g q r K t s, kO P ty g q r K t s = opsW P ty g q r t s K) ∧
    (∀ b q op o d g r t s K, gdK P ty (.v undef) b q op o d g r t s K = opsW P ty g q r (pT t d (.v undef)) s K) ∧ (∀ t d, gV t (some d) = gT t d) ∧ (∀ x l, gG (x :: l) 0 = x) ∧ (∀ x l n, gG (x :: l) (n + 1) = gG l n) ∧ (gds [] = []) ∧ (∀ o l, gds (o :: l) = o.dst :: gds l) ∧
    (∀ q op o d g r t s K, gdK P ty (.v (.bool true)) true q op o d g r t s K = opX P ty q op o d t s (kO P ty g q r K)) ∧ (∀ q op o d g r t s K, gdK P ty (.v (.bool false)) false q op o d g r t s K = opX P ty q op o d t s (kO P ty g q r K)) ∧
    (∀ q op o d g r t s K, gdK P ty (.v (.bool true)) false q op o d g r t s K = opsW P ty g q r (pT t d (.v undef)) s K) ∧ (∀ q op o d g r t s K, gdK P ty (.v (.bool false)) true q op o d g r t s K = opsW P ty g q r (pT t d (.v undef)) s K) := by
  refine ⟨?_, ?_, ?_, ?_, ?_, ?_, ?_, ?_, ?_, ?_, ?_, ?_, ?_, ?_, ?_, ?_, ?_, ?_, ?_, ?_, ?_, ?_, ?_, ?_, ?_, ?_, ?_, ?_, ?_, ?_, ?_⟩ <;> intros <;> rfl
theorem W4 : (∀ q x o d t s K, opX P ty q (.move x) o d t s K = K (pT t d (eT t x)) s) ∧ (∀ q o d t s K, opX P ty q (.assign (.const (.slice none 0 0))) o d t s K = (q = false ∧ nilW ty (ty o) d t s K)) ∧ (∀ q i o d t s K, opX P ty q (.assign (.tmp i)) o d t s K = K (pT t d (gT t i)) s) ∧
    (∀ q k n o d t s K, opX P ty q (.assign (.const (.int k n))) o d t s K = K (pT t d (.v (.int k n))) s) ∧ (∀ q b o d t s K, opX P ty q (.assign (.const (.bool b))) o d t s K = K (pT t d (.v (.bool b))) s) ∧ (∀ q b o d t s K, opX P ty q (.assign (.const (.string b))) o d t s K = K (pT t d (.v (.string b))) s) ∧
    (∀ q c a b o d t s K, opX P ty q (.pick c a b) o d t s K = pickW (eT t c) (eT t a) (eT t b) d t s K) ∧ (∀ q b o d t s K, opX P ty q (.alloc b) o d t s K = (q = false ∧ alW b (ty b) d t s K)) ∧ (∀ q b x o d t s K, opX P ty q (.box b x) o d t s K = (q = false ∧ boxW b (eT t x).cells d t s K)) ∧
    (∀ q b x o d t s K, opX P ty q (.load b x) o d t s K = loadW ty (ty b) (eT t x) d t s K) ∧ (∀ q b a x o t s K, opX P ty q (.store b a x) o none t s K = (q = false ∧ storeW (ty b) (eT t a) (eT t x) t s K)) ∧ (∀ q b x f o d t s K, opX P ty q (.fieldAddr b x f) o d t s K = faW (((ty b).map (·.fs)).bind (nthN · f)) (eT t x) d t s K) ∧
    (∀ q b x i o d t s K, opX P ty q (.indexAddr b x i) o d t s K = idxW ty (ty b) (eT t x) (eT t i) d t s K) ∧ (∀ q op a x y b o d t s K, opX P ty q (.binOp op a x y b) o d t s K = binX (ty a) op (eT t x) (eT t y) d t s K) ∧ (∀ q a x o d t s K, opX P ty q (.unOp .not a x) o d t s K = notW (eT t x) d t s K) ∧
    (∀ q x n o d t s K, opX P ty q (.extract x n) o d t s K = extW (eT t x) n d t s K) ∧ (∀ q x o d t s K, opX P ty q (.nilCheck x) o d t s K = chkW (eT t x) d t s K) ∧ (∀ q b x y o d t s K, opX P ty q (.makeSlice b x y) o d t s K = (q = false ∧ mkW ty (ty b) (eT t x) (eT t y) d t s K)) ∧
    (∀ q b ps o d t s K, opX P ty q (.build b ⟨ps⟩) o d t s K = bldW (ty b) ps d t s K) ∧ (∀ q b n ps o d t s K, opX P ty q (.buildSlice b n ⟨ps⟩) o d t s K = (q = false ∧ litT ty (ty b) n ps d t s K)) ∧ (∀ q f l a o d t s K, opX P ty q (.call ⟨.value (.func f), ⟨l⟩, a⟩) o d t s K = callW P q f (mapE t l) d t s K) ∧ (∀ q x b o d t s K, opX P ty q (.call ⟨.builtin .len, ⟨[x]⟩, ⟨[b]⟩⟩) o d t s K = (((ty b).bind fun i => ty i.el).isSome = true ∧ lenW (eT t x) d t s K)) ∧
    (∀ q x y t1 o d t s K, opX P ty q (.call ⟨.builtin .append, ⟨[x, y]⟩, ⟨[t1, t1]⟩⟩) o d t s K = (q = false ∧ appW ty (ty t1) (eT t x) (eT t y) d t s K)) ∧ (∀ q x y a o d t s K, opX P ty q (.call ⟨.builtin .min, ⟨[x, y]⟩, a⟩) o d t s K = mmW true (eT t x) (eT t y) d t s K) ∧ (∀ q x y a o d t s K, opX P ty q (.call ⟨.builtin .max, ⟨[x, y]⟩, a⟩) o d t s K = mmW false (eT t x) (eT t y) d t s K) ∧
    (∀ t, mapE t [] = []) ∧ (∀ t x l, mapE t (x :: l) = eT t x :: mapE t l) := by
  refine ⟨?_, ?_, ?_, ?_, ?_, ?_, ?_, ?_, ?_, ?_, ?_, ?_, ?_, ?_, ?_, ?_, ?_, ?_, ?_, ?_, ?_, ?_, ?_, ?_, ?_, ?_, ?_⟩ <;> intros <;> (first | rfl | (unfold opX cW; simp) | (unfold opX; simp))
theorem W5 : (∀ a b d t s K, pickW (.v (.bool true)) a b d t s K = K (pT t d a) s) ∧ (∀ a b d t s K, pickW (.v (.bool false)) a b d t s K = K (pT t d b) s) ∧ (∀ b i d t s K, alW b (some i) d t s K = boxW b (vs i.zero) d t s K) ∧
    (∀ i id off d t s K, loadW ty (some i) (.bp id off) d t s K = loadB (gS s id) i off d t s K) ∧ (∀ i cs d t s K, loadW ty (some i) (.pe cs) d t s K = (i.size ≤ cs.length ∧ K (pT t d (cutA i.agg i.size (vs cs))) s)) ∧ (∀ i id z n off d t s K, loadW ty (some i) (.le id z n off) d t s K = loadE ty (gS s id) i z n off d t s K) ∧
    (∀ b cs i off d t s K, loadB (some (.box b cs)) i off d t s K = (off + i.size ≤ cs.length ∧ K (pT t d (cutA i.agg i.size (dp off cs))) s)) ∧
    (∀ i id off x t s K, storeW (some i) (.bp id off) x t s K = storeB (gS s id) id i off x.cells t s K) ∧ (∀ i id z n off x t s K, storeW (some i) (.le id z n off) x t s K = storeE (gS s id) id i z n off x.cells t s K) ∧
    (∀ b cs id i off c t s K, storeB (some (.box b cs)) id i off c t s K = (c.length = i.size ∧ off + i.size ≤ cs.length ∧ cellsOk c = true ∧ K t (uS s id (.box b (putA off c cs))))) ∧
    (∀ e z xs id i z' n off c t s K, storeE (some (.row e z xs)) id i z' n off c t s K = (z' = z ∧ off = 0 ∧ i.size = z ∧ c.length = z ∧ plainOk c = true ∧ K t (uS s id (.row e z (sR xs n (unv c)))))) ∧
    (∀ o id off d t s K, faW (some o) (.bp id off) d t s K = K (pT t d (.bp id (off + o))) s) ∧ (∀ o cs d t s K, faW (some o) (.pe cs) d t s K = K (pT t d (.pe (cs.drop o))) s) ∧ (∀ o id z i off d t s K, faW (some o) (.le id z i off) d t s K = K (pT t d (.le id z i (off + o))) s) ∧
    (∀ ti z xs k n d t s K, idxW ty (some ti) (.pr z xs) (.v (.int k n)) d t s K = ∃ q, (ty ti.el).map (·.zero) = some q ∧ q.length = z ∧ 0 ≤ n ∧ n < (xs.length : Int) ∧ K (pT t d (.pe (gR q xs n))) s) ∧ (∀ ti id k n d t s K, idxW ty (some ti) (.lo id) (.v (.int k n)) d t s K = idxE ty ti.el (gS s id) id n d t s K) ∧
    (∀ el e z xs id n d t s K, idxE ty el (some (.row e z xs)) id n d t s K = ((∃ j, ty el = some j ∧ j.size = z) ∧ 0 ≤ n ∧ n < (xs.length : Int) ∧ K (pT t d (.le id z n 0)) s)) ∧
    (∀ z xs d t s K, lenW (.pr z xs) d t s K = K (pT t d (.v (.int .i64 (xs.length : Int)))) s) ∧ (∀ id d t s K, lenW (.lo id) d t s K = lenB (gS s id) d t s K) ∧ (∀ e z xs d t s K, lenB (some (.row e z xs)) d t s K = K (pT t d (.v (.int .i64 (xs.length : Int)))) s) ∧
    (∀ op a b d t s K, binW op (.v (.int .i64 a)) (.v (.int .i64 b)) d t s K = (kok op .i64 .i64 = true ∧ bok op b ∧ K (pT t d (.v (bval op .i64 a b))) s)) ∧ (∀ b d t s K, notW (.v (.bool b)) d t s K = K (pT t d (.v (.bool (!b)))) s) ∧
    (∀ cs n d t s K, extW (.tu cs) n d t s K = exW cs n d t s K) ∧ (∀ x l d t s K, exW (x :: l) 0 d t s K = K (pT t d x) s) ∧ (∀ x l n d t s K, exW (x :: l) (n + 1) d t s K = exW l n d t s K) ∧
    (∀ b c d t s K, boxW b c (some d) t s K = (cellsOk c = true ∧ free (16 * d) t s = true ∧ K (sT t d (.bp (16 * d) 0)) (uS s (16 * d) (.box b c)))) ∧ (∀ e z xs d t s K, rowW e z xs (some d) t s K = (free (16 * d) (sT t d .u) s = true ∧ K (sT t d (.lo (16 * d))) (uS s (16 * d) (.row e z xs)))) := by
  refine ⟨?_, ?_, ?_, ?_, ?_, ?_, ?_, ?_, ?_, ?_, ?_, ?_, ?_, ?_, ?_, ?_, ?_, ?_, ?_, ?_, ?_, ?_, ?_, ?_, ?_, ?_, ?_⟩ <;> intros <;> (first | rfl | (unfold binW; rfl) | (unfold idxW; simp only))
theorem W7 : (∀ i x, rot i (.move x) = true) ∧ (∀ i a b c, rot i (.pick a b c) = true) ∧ (∀ i a b, rot i (.load a b) = true) ∧ (∀ i a b c, rot i (.fieldAddr a b c) = true) ∧ (∀ i a b c, rot i (.indexAddr a b c) = true) ∧ (∀ i a b c d e, rot i (.binOp a b c d e) = true) ∧ (∀ i a b c, rot i (.unOp a b c) = true) ∧
    (∀ i a b, rot i (.extract a b) = false) ∧ (∀ i a, rot i (.nilCheck a) = true) ∧ (∀ i a b c, rot i (.assign (.const (.slice a b c))) = false) ∧ (∀ j i, rot j (.assign (.tmp i)) = true) ∧ (∀ j k n, rot j (.assign (.const (.int k n))) = true) ∧ (∀ j b, rot j (.assign (.const (.bool b))) = true) ∧ (∀ j b, rot j (.assign (.const (.string b))) = true) ∧
    (∀ i f a b, rot (some i) (.call ⟨.value f, a, b⟩) = i.zero.all nsl) ∧ (∀ f a b, rot none (.call ⟨.value f, a, b⟩) = false) ∧ (∀ k n, nsl (.int k n) = true) ∧ (∀ b, nsl (.bool b) = true) ∧ (∀ b, nsl (.string b) = true) ∧ (∀ a b c, nsl (.slice a b c) = false) ∧ (∀ i a b, rot i (.call ⟨.builtin .len, a, b⟩) = true) ∧ (∀ i a b, rot i (.call ⟨.builtin .min, a, b⟩) = true) ∧ (∀ i a b, rot i (.call ⟨.builtin .max, a, b⟩) = true) ∧ (∀ i a b, rot i (.call ⟨.builtin .append, a, b⟩) = false) ∧
    (∀ i a b, rot i (.box a b) = false) ∧ (∀ i a, rot i (.alloc a) = false) ∧ (∀ i a b, rot i (.build a b) = true) ∧ (∀ i a b c, rot i (.store a b c) = false) ∧ (∀ i a b c, rot i (.makeSlice a b c) = false) ∧ (∀ i a b c, rot i (.buildSlice a b c) = false) ∧ (∀ b : Bool, (true && b) = b) ∧ (∀ b : Bool, (false && b) = false) := by
  refine ⟨?_, ?_, ?_, ?_, ?_, ?_, ?_, ?_, ?_, ?_, ?_, ?_, ?_, ?_, ?_, ?_, ?_, ?_, ?_, ?_, ?_, ?_, ?_, ?_, ?_, ?_, ?_, ?_, ?_, ?_, ?_, ?_⟩ <;> intros <;> first | rfl | (rename_i i _ _ _; cases i <;> rfl) | (rename_i i _ _; cases i <;> rfl) | (rename_i i _; cases i <;> rfl) | (rename_i i _ _ _ _ _; cases i <;> rfl) | (rename_i b; cases b <;> rfl)
theorem W6 : (kok .add .i64 .i64 = true) ∧ (kok .sub .i64 .i64 = true) ∧ (kok .mul .i64 .i64 = true) ∧ (kok .quo .i64 .i64 = true) ∧ (kok .rem .i64 .i64 = true) ∧ (kok .and .i64 .i64 = true) ∧ (kok .or .i64 .i64 = true) ∧ (kok .xor .i64 .i64 = true) ∧ (kok .andNot .i64 .i64 = true) ∧
    (kok .shl .i64 .i64 = true) ∧ (kok .shr .i64 .i64 = true) ∧ (kok .lss .i64 .i64 = true) ∧ (kok .leq .i64 .i64 = true) ∧ (kok .gtr .i64 .i64 = true) ∧ (kok .geq .i64 .i64 = true) ∧ (kok .eql .i64 .i64 = true) ∧ (kok .neq .i64 .i64 = true) ∧
    (∀ b, bok .add b = True) ∧ (∀ b, bok .sub b = True) ∧ (∀ b, bok .mul b = True) ∧ (∀ b, bok .and b = True) ∧ (∀ b, bok .or b = True) ∧ (∀ b, bok .xor b = True) ∧ (∀ b, bok .andNot b = True) ∧ (∀ b, bok .lss b = True) ∧ (∀ b, bok .leq b = True) ∧ (∀ b, bok .gtr b = True) ∧ (∀ b, bok .geq b = True) ∧ (∀ b, bok .eql b = True) ∧ (∀ b, bok .neq b = True) ∧
    (∀ b, bok .quo b = (b ≠ 0)) ∧ (∀ b, bok .rem b = (b ≠ 0)) ∧ (∀ b, bok .shl b = (0 ≤ b)) ∧ (∀ b, bok .shr b = (0 ≤ b)) ∧
    (∀ a b, bval .add .i64 a b = .int .i64 (wrap64 (a + b))) ∧ (∀ a b, bval .sub .i64 a b = .int .i64 (wrap64 (a - b))) ∧ (∀ a b, bval .mul .i64 a b = .int .i64 (wrap64 (a * b))) ∧ (∀ a b, bval .quo .i64 a b = .int .i64 (wrap64 (Int.tdiv a b))) ∧ (∀ a b, bval .rem .i64 a b = .int .i64 (Int.tmod a b)) ∧
    (∀ a b, bval .shl .i64 a b = .int .i64 (shl .i64 a b)) ∧ (∀ a b, bval .shr .i64 a b = .int .i64 (shr .i64 a b)) ∧ (∀ a b, bval .and .i64 a b = .int .i64 (Go.bits .and .i64 a b)) ∧ (∀ a b, bval .or .i64 a b = .int .i64 (Go.bits .or .i64 a b)) ∧ (∀ a b, bval .xor .i64 a b = .int .i64 (Go.bits .xor .i64 a b)) ∧ (∀ a b, bval .andNot .i64 a b = .int .i64 (Go.bits .andNot .i64 a b)) ∧
    (∀ a b, bval .lss .i64 a b = .bool (decide (a < b))) ∧ (∀ a b, bval .leq .i64 a b = .bool (decide (a ≤ b))) ∧ (∀ a b, bval .gtr .i64 a b = .bool (decide (a > b))) ∧ (∀ a b, bval .geq .i64 a b = .bool (decide (a ≥ b))) ∧ (∀ a b, bval .eql .i64 a b = .bool (a == b)) ∧ (∀ a b, bval .neq .i64 a b = .bool (a != b)) := by
  refine ⟨rfl, rfl, rfl, rfl, rfl, rfl, rfl, rfl, rfl, rfl, rfl, rfl, rfl, rfl, rfl, rfl, rfl, ?_⟩
  refine ⟨?_, ?_, ?_, ?_, ?_, ?_, ?_, ?_, ?_, ?_, ?_, ?_, ?_, ?_, ?_, ?_, ?_, ?_, ?_, ?_, ?_, ?_, ?_, ?_, ?_, ?_, ?_, ?_, ?_, ?_, ?_, ?_, ?_, ?_⟩ <;> intros <;> rfl
end
end Go.Proofs.YtkindoepnganmaaGreat.F
end

section
namespace Go.Proofs.YtkindoepnganmaaGreat.F
open Go.RowKit Go.Proofs.YtkindoepnganmaaGreatW.PrintWords Go.Proofs.YtkindoepnganmaaGreatW.PrintLast Go.Proofs.YtkindoepnganmaaGreatW.PrintMore
set_option linter.unusedVariables false
set_option linter.unusedSimpArgs false
def fsOk (P : Program) (fs : Array Field) : List Nat → Nat → Bool
  | [], _ => true
  | o :: l, k => (match fs[k]? with
    | some fl => fl.offset == o && (match P.info? fl.type with | some fi => fi.size != 0 | none => false)
    | none => false) && fsOk P fs l (k + 1)
def blB (P : Program) (t : TypeId) : List Value → Bool
  | [.bool false] => match P.underlying t with | some .bool => true | _ => false
  | _ => true
def plB (P : Program) (t : TypeId) (i : TI) : Bool := !i.agg || match P.underlying t with
  | some (.struct ⟨l⟩) => (l.map fun fl => (fl.offset, (P.info? fl.type).map (·.size))) == ((plc i.size i.fs).map fun p => (p.1, some p.2))
  | _ => false
def okT (P : Program) (ty : TypeId → Option TI) (t : TypeId) (i : TI) : Bool :=
  (match P.info? t with
  | some f => f.size == i.size && f.bytes == i.bytes && (i.agg || (match f.zero with | some (.agg _) => false | some (.tuple _) => false | some _ => true | none => false))
  | none => false) && i.zero.length == i.size && i.zero.all plainV &&
  (match P.underlying t with
  | some (.struct fs) => i.agg && fsOk P fs i.fs 0 && (ty i.el).isNone
  | some (.array _ _) => false
  | some (.slice e) => !i.agg && i.size == 1 && i.fs.isEmpty && ((ty i.el).isNone || i.el == e)
  | some _ => !i.agg && i.size == 1 && i.fs.isEmpty && (ty i.el).isNone
  | none => false) && blB P t i.zero && plB P t i
theorem fsOk_at {P : Program} {fs : Array Field} : ∀ {l : List Nat} {k f o : Nat}, fsOk P fs l k = true → nthN l f = some o → ∃ fl, fs[k + f]? = some fl ∧ fl.offset = o ∧ ∃ fi, P.info? fl.type = some fi ∧ fi.size ≠ 0
  | [], k, f, o, _, h => by simp [nthN] at h
  | x :: l, k, 0, o, h, hf => by
    simp only [fsOk, Bool.and_eq_true] at h
    simp only [nthN, Option.some.injEq] at hf
    subst hf
    have h1 := h.1
    split at h1
    · rename_i fl e
      simp only [Bool.and_eq_true, beq_iff_eq] at h1
      obtain ⟨h1, h2⟩ := h1
      split at h2
      · rename_i fi e2
        exact ⟨fl, e, h1, fi, e2, by simpa using h2⟩
      · cases h2
    · cases h1
  | x :: l, k, f + 1, o, h, hf => by
    simp only [fsOk, Bool.and_eq_true] at h
    have := fsOk_at h.2 (f := f) (by simpa [nthN] using hf)
    rwa [show k + 1 + f = k + (f + 1) by omega] at this
theorem mkTI {P : Program} {ty : TypeId → Option TI} {t : TypeId} {i : TI} (h : okT P ty t i = true) (hz : ((P.info? t).bind (·.zero)).map (·.cells) = some (List.toArray i.zero)) : TIok P ty t i := by
  unfold okT at h
  simp only [Bool.and_eq_true, beq_iff_eq] at h
  obtain ⟨⟨⟨⟨⟨h1, h2⟩, h3⟩, h4⟩, hbl⟩, hpl⟩ := h
  have hnf : ∃ f, P.info? t = some f ∧ f.size = i.size ∧ f.bytes = i.bytes ∧ ∃ z, f.zero = some z ∧ z.cells = List.toArray i.zero ∧ (i.agg = false → z.cells = #[z]) := by
    split at h1
    · rename_i f e
      simp only [Bool.and_eq_true, beq_iff_eq, Bool.or_eq_true] at h1
      rw [e] at hz
      simp only [Option.bind_some] at hz
      obtain ⟨z, e2, e3⟩ := Option.map_eq_some_iff.1 hz
      refine ⟨f, e, h1.1.1, h1.1.2, z, e2, e3, fun ha => ?_⟩
      rcases h1.2 with h5 | h5
      · rw [ha] at h5; cases h5
      · rw [e2] at h5
        cases z <;> first | rfl | (simp at h5)
    · cases h1
  refine ⟨hnf, ⟨h2, h3⟩, ?_, fun j hj => ?_, fun hz => ?_, fun hg => ?_⟩
  · split at h4
    · rename_i fs e
      simp only [Bool.and_eq_true] at h4
      refine .inl ⟨h4.1.1, fs, e, fun f o hf => ?_⟩
      have := fsOk_at h4.1.2 hf
      rwa [Nat.zero_add] at this
    · cases h4
    · rename_i e
      simp only [Bool.and_eq_true, Bool.not_eq_true', beq_iff_eq, List.isEmpty_iff] at h4
      exact .inr ⟨h4.1.1.1, h4.1.1.2, h4.1.2, _, e, ⟨fun x e' => TypeDesc.noConfusion e', fun x y e' => TypeDesc.noConfusion e'⟩⟩
    · rename_i d h5 h6 h7 e
      simp only [Bool.and_eq_true, Bool.not_eq_true', beq_iff_eq, List.isEmpty_iff] at h4
      exact .inr ⟨h4.1.1.1, h4.1.1.2, h4.1.2, d, e, fun x e' => h5 x (by rw [e']), fun x y e' => h6 x y (by rw [e'])⟩
    · cases h4
  · split at h4
    · simp only [Bool.and_eq_true, Option.isNone_iff_eq_none] at h4; rw [h4.2] at hj; cases hj
    · cases h4
    · rename_i e' e
      simp only [Bool.and_eq_true, Bool.or_eq_true, Option.isNone_iff_eq_none, beq_iff_eq] at h4
      rcases h4.2 with h5 | h5
      · rw [h5] at hj; cases hj
      · rw [e, h5]
    · simp only [Bool.and_eq_true, Option.isNone_iff_eq_none] at h4; rw [h4.2] at hj; cases hj
    · cases h4
  · rw [hz] at hbl
    unfold blB at hbl
    split at hbl
    · split at hbl
      · assumption
      · cases hbl
    · rename_i hne; exact absurd rfl hne
  · unfold plB at hpl
    rw [hg] at hpl
    simp only [Bool.not_true, Bool.false_or] at hpl
    split at hpl
    · rename_i l e
      exact ⟨l, e, by simpa using hpl⟩
    · cases hpl
theorem bnd {α β : Type} {x : Option α} {f : α → Option β} {r : β} (h : x.bind f = some r) : ∃ t, x = some t ∧ f t = some r := Option.bind_eq_some_iff.1 h
section
variable {P : Program} {ty : TypeId → Option TI}
theorem loopR {ι : Type} (T : ι → List AV) (S : ι → Sto) (F : Nat → ι → Prop) {n : Nat} (x : ι) {b : Code} {Q : Qt} {t : List AV} {s : Sto} (ρ : List (Nat × Nat)) (h : F n x) (h1 : EntT ρ t (T x)) (h2 : EntS ρ s (S x)) (h3 : inj ρ (S x) = true)
    (hr : ∀ n x, F n x → EW P ty b (kL T S F n Q) (T x) (S x)) : loopK P ty b Q t s := ⟨ι, T, S, F, ⟨n, x, h, ρ, h1, h2, h3⟩, hr⟩
theorem callR {q : Bool} {f : FuncId} {args : List AV} {d : Option Nat} {t : List AV} {s : Sto} {K : Kt} {res : AV} (h : Ctr P f (toPL s args) res) (hb : bindW q res d t s K) : callW P q f args d t s K := .inl ⟨res, h, hb⟩
theorem callT {f : FuncId} {id : Nat} {rest : List AV} {d : Option Nat} {t : List AV} {s : Sto} {K : Kt} {e : TypeId} {sz : Nat} {xs ys : List (List Value)} (hg : gS s id = some (.row e sz xs)) (hp : plnL rest = true) (h : CtrT P f e sz xs rest ys)
    (hb : ∃ d', d = some d' ∧ free (16 * d') t (dS s id) = true ∧ K (sT t d' (.lo (16 * d'))) (uS (dS s id) (16 * d') (.row e sz ys))) : callW P false f (.lo id :: rest) d t s K := by
  obtain ⟨d', rfl, h1, h2⟩ := hb
  refine .inr ⟨rfl, ?_⟩
  simp only [turnW, hg, turnR]
  exact ⟨hp, ys, h, h1, h2⟩
end
theorem W8 : (∀ ρ, EntT ρ [] [] = True) ∧ (∀ ρ x t T, EntT ρ (x :: t) (.u :: T) = EntT ρ t T) ∧ (∀ ρ x t y T, EntT ρ (x :: t) (.v y :: T) = (x = .v y ∧ EntT ρ t T)) ∧ (∀ ρ x t i T, EntT ρ (x :: t) (.lo i :: T) = (x = .lo (rn ρ i) ∧ EntT ρ t T)) ∧ (∀ ρ x t i o T, EntT ρ (x :: t) (.bp i o :: T) = (x = .bp (rn ρ i) o ∧ EntT ρ t T)) ∧
    (∀ ρ x t z l T, EntT ρ (x :: t) (.pr z l :: T) = (x = .pr z l ∧ EntT ρ t T)) ∧ (∀ ρ x t l T, EntT ρ (x :: t) (.ag l :: T) = (x = .ag (AV.renL ρ l) ∧ EntT ρ t T)) ∧
    (∀ ρ s, EntS ρ s [] = True) ∧ (∀ ρ s i t c S, EntS ρ s ((i, .box t c) :: S) = (gS s (rn ρ i) = some (.box t (AV.renL ρ c)) ∧ EntS ρ s S)) ∧ (∀ ρ s i e z l S, EntS ρ s ((i, .row e z l) :: S) = (gS s (rn ρ i) = some (.row e z l) ∧ EntS ρ s S)) ∧
    (∀ ρ, AV.renL ρ [] = []) ∧ (∀ ρ c cs, AV.renL ρ (c :: cs) = AV.ren ρ c :: AV.renL ρ cs) ∧ (∀ ρ x, AV.ren ρ (.v x) = .v x) ∧ (∀ ρ z l, AV.ren ρ (.pr z l) = .pr z l) ∧ (∀ ρ i, AV.ren ρ (.lo i) = .lo (rn ρ i)) ∧ (∀ ρ i o, AV.ren ρ (.bp i o) = .bp (rn ρ i) o) ∧ (∀ ρ l, AV.ren ρ (.ag l) = .ag (AV.renL ρ l)) := by
  refine ⟨?_, ?_, ?_, ?_, ?_, ?_, ?_, ?_, ?_, ?_, ?_, ?_, ?_, ?_, ?_, ?_, ?_⟩ <;> intros <;> rfl
theorem W9 : (∀ ty t s, resL ty t s [] = some []) ∧ (∀ ty t s i l, resL ty t s (.tmp i :: l) = (resL ty t s l).map (gT t i :: ·)) ∧ (∀ ty t s i b l, resL ty t s (.cell i b :: l) = (cellV (ty b) (gT t i) s).bind fun x => (resL ty t s l).map (x :: ·)) ∧ (∀ i id off s, cellV (some i) (.bp id off) s = cellB i off (gS s id)) ∧
    (∀ i off t cs, cellB i off (some (.box t cs)) = if off + i.size ≤ cs.length then some (cutA i.agg i.size (dp off cs)) else none) ∧ (∀ s x r, FitO s [x] r = FitR s x r) ∧ (∀ s rs, FitO s [] (.tu rs) = FitRL s [] rs) ∧ (∀ s x y l rs, FitO s (x :: y :: l) (.tu rs) = FitRL s (x :: y :: l) rs) ∧
    (∀ s x y, FitR s (.v x) (.v y) = (x = y)) ∧ (∀ s i e z l, FitR s (.lo i) (.ow e z l) = (gS s i = some (.row e z l))) ∧ (∀ s x e z l, FitR s (.v x) (.ow e z l) = (x = .slice none 0 0 ∧ l = [] ∧ 0 < z)) ∧ (∀ s l r, FitR s (.ag l) (.ag r) = FitRL s l r) ∧ (∀ s l r, FitR s (.tu l) (.tu r) = FitRL s l r) ∧
    (∀ s, FitRL s [] [] = True) ∧ (∀ s c cs d ds, FitRL s (c :: cs) (d :: ds) = (FitR s c d ∧ FitRL s cs ds)) ∧ (AV.idsL [] = []) ∧ (∀ c cs, AV.idsL (c :: cs) = AV.ids c ++ AV.idsL cs) ∧ (∀ x, AV.ids (.v x) = []) ∧ (∀ i, AV.ids (.lo i) = [i]) ∧ (∀ l, AV.ids (.ag l) = AV.idsL l) ∧ (∀ l, AV.ids (.tu l) = AV.idsL l) := by
  refine ⟨?_, ?_, ?_, ?_, ?_, ?_, ?_, ?_, ?_, ?_, ?_, ?_, ?_, ?_, ?_, ?_, ?_, ?_, ?_, ?_, ?_⟩ <;> intros <;> rfl
theorem W10 : (∀ ty rv res t s, QR ty rv res .ret t s = ∃ xs, resL ty t s rv = some xs ∧ nodB (AV.idsL xs) = true ∧ FitO s xs res) ∧ (∀ ty rv res t s, QR ty rv res .normal t s = ∃ xs, resL ty t s rv = some xs ∧ nodB (AV.idsL xs) = true ∧ FitO s xs res) ∧
    (nodB [] = true) ∧ (∀ i, nodB [i] = true) := by
  refine ⟨?_, ?_, ?_, ?_⟩ <;> intros <;> first | rfl | simp [nodB]
theorem W11 : (∀ {ι : Type} (T : ι → List AV) S F n Q i t s, kL T S F n Q (.exit i) t s = Q (.exit i) t s) ∧ (∀ {ι : Type} (T : ι → List AV) S F n Q t s, kL T S F n Q .ret t s = Q .ret t s) ∧ (∀ q x d t s K, bindW q (.v x) d t s K = K (pT t d (.v x)) s) := by
  refine ⟨?_, ?_, ?_⟩ <;> intros <;> rfl
theorem W12 : (∀ j, AV.frL j [] = true) ∧ (∀ j c cs, AV.frL j (c :: cs) = (AV.fr j c && AV.frL j cs)) ∧ (∀ j, AV.fr j .u = true) ∧ (∀ j x, AV.fr j (.v x) = true) ∧ (∀ j z x, AV.fr j (.pr z x) = true) ∧ (∀ j x, AV.fr j (.pe x) = true) ∧ (∀ j i, AV.fr j (.lo i) = (i != j)) ∧ (∀ j i o, AV.fr j (.bp i o) = (i != j)) ∧ (∀ j i z n o, AV.fr j (.le i z n o) = (i != j)) ∧ (∀ j l, AV.fr j (.ag l) = AV.frL j l) ∧ (∀ j l, AV.fr j (.tu l) = AV.frL j l) ∧
    (∀ j t s, free j t s = (AV.frL j t && s.all fun p => p.2.fr j)) ∧ (∀ j t c, Blk.fr j (.box t c) = AV.frL j c) ∧ (∀ j e z l, Blk.fr j (.row e z l) = true) ∧
    (cellsOk [] = true) ∧ (∀ x l, cellsOk (.v x :: l) = (plainV x && cellsOk l)) ∧ (∀ i l, cellsOk (.lo i :: l) = cellsOk l) ∧ (∀ i o l, cellsOk (.bp i o :: l) = cellsOk l) ∧ (∀ z x l, cellsOk (.pr z x :: l) = cellsOk l) ∧ (plainOk [] = true) ∧ (∀ x l, plainOk (.v x :: l) = (plainV x && plainOk l)) ∧
    (∀ k n, plainV (.int k n) = true) ∧ (∀ b, plainV (.bool b) = true) ∧ (∀ b, plainV (.string b) = true) ∧ (∀ a n c, plainV (.slice a n c) = true) := by
  refine ⟨?_, ?_, ?_, ?_, ?_, ?_, ?_, ?_, ?_, ?_, ?_, ?_, ?_, ?_, ?_, ?_, ?_, ?_, ?_, ?_, ?_, ?_, ?_, ?_, ?_⟩ <;> intros <;> rfl
theorem bAnd : (∀ b : Bool, (b && true) = b) ∧ (∀ b : Bool, (true && b) = b) ∧ (∀ b : Bool, (false && b) = false) ∧ (∀ b : Bool, (b && false) = false) := by
  refine ⟨?_, ?_, ?_, ?_⟩ <;> intro b <;> cases b <;> rfl
end Go.Proofs.YtkindoepnganmaaGreat.F
end

section
namespace Go.Proofs.YtkindoepnganmaaGreat.F
open Go.RowKit Go.Proofs.YtkindoepnganmaaGreatW.PrintWords Go.Proofs.YtkindoepnganmaaGreatW.PrintLast Go.Proofs.YtkindoepnganmaaGreatW.PrintMore
set_option linter.unusedVariables false
set_option linter.unusedSimpArgs false
theorem ifN {α : Type} {c : Prop} [Decidable c] {a : Option α} {r : α} (h : (if c then a else none) = some r) : c ∧ a = some r := by
  by_cases x : c
  · rw [if_pos x] at h; exact ⟨x, h⟩
  · rw [if_neg x] at h; cases h
theorem ifM {α : Type} {c : Prop} [Decidable c] {a : Option α} {r : α} (h : (if c then none else a) = some r) : ¬c ∧ a = some r := by
  by_cases x : c
  · rw [if_pos x] at h; cases h
  · rw [if_neg x] at h; exact ⟨x, h⟩
theorem ifS {α : Type} {c : Prop} [Decidable c] {a b : Option α} {r : α} (h : (if c then a else b) = some r) : (c ∧ a = some r) ∨ (¬c ∧ b = some r) := by
  by_cases x : c
  · rw [if_pos x] at h; exact .inl ⟨x, h⟩
  · rw [if_neg x] at h; exact .inr ⟨x, h⟩
theorem ifT {α : Type} {c : Bool} {a b : Option α} {r : α} (h : (if c = true then a else b) = some r) : (c = true ∧ a = some r) ∨ (c = false ∧ b = some r) := by
  cases c
  · exact .inr ⟨rfl, h⟩
  · exact .inl ⟨rfl, h⟩
section
variable {P : Program} {ty : TypeId → Option TI}
theorem loopN {ι : Type} (T : ι → List AV) (S : ι → Sto) (F : Nat → ι → Prop) {n : Nat} {b : Code} {Q : Qt} {t : List AV} {s : Sto} (x : ι) (ρ : List (Nat × Nat)) (h : F n x) (h1 : EntT ρ t (T x)) (h2 : EntS ρ s (S x)) (h3 : inj ρ (S x) = true)
    (hz : ∀ x, F 0 x → False) (hr : ∀ m x, m + 1 ≤ n → F (m + 1) x → EW P ty b (kL T S (fun m x => m ≤ n ∧ F m x) (m + 1) Q) (T x) (S x)) : loopK P ty b Q t s :=
  loopR T S (fun m x => m ≤ n ∧ F m x) x ρ ⟨Nat.le_refl _, h⟩ h1 h2 h3 fun m x h => by
    cases m with
    | zero => exact absurd h.2 (hz x)
    | succ m => exact hr m x h.1 h.2
theorem nextN {ι : Type} {T : ι → List AV} {S : ι → Sto} {F : Nat → ι → Prop} {n N : Nat} {Q : Qt} {t : List AV} {s : Sto} (x : ι) (ρ : List (Nat × Nat)) (m : Nat) (hm : m < n ∧ m ≤ N) (h : F m x) (h1 : EntT ρ t (T x)) (h2 : EntS ρ s (S x)) (h3 : inj ρ (S x) = true) : kL T S (fun m x => m ≤ N ∧ F m x) n Q .normal t s := ⟨m, x, hm.1, ⟨hm.2, h⟩, ρ, h1, h2, h3⟩
theorem rn_cons (a b : Nat) (ρ : List (Nat × Nat)) (j : Nat) : rn ((a, b) :: ρ) j = if a = j then b else rn ρ j := by
  unfold rn
  rw [List.find?_cons]
  by_cases e : a = j
  · subst e; simp
  · have : (a == j) = false := by simpa using e
    simp only [this, if_neg e]
variable (ty)
theorem W13 : (∀ i n ps d t s K, litT ty (some i) n ps d t s K = ∃ j, ty i.el = some j ∧ litW (litR t ps 0) n i.el j.size d t s K) ∧ (∀ t k, litR t [] k = some []) ∧ (∀ t i x l k, litR t ((i, x) :: l) k = if i = k ∧ plainOk (eT t x).cells = true then (litR t l (k + 1)).map fun r => unv (eT t x).cells :: r else none) ∧
    (∀ z, litOk z [] = true) ∧ (∀ z x l, litOk z (x :: l) = (x.length == z && litOk z l)) ∧ (∀ xs n e z d t s K, litW (some xs) n e z d t s K = (xs.length = n ∧ litOk z xs = true ∧ 0 < z ∧ n * z ≤ 1000 ∧ rowW e z xs d t s K)) ∧
    (∀ i id y d t s K, appW ty (some i) (.lo id) y d t s K = ∃ j, ty i.el = some j ∧ appR id (gS s id) (rdS j.size y s) j i.el d t s K) ∧
    (∀ z y xs s, rdS z (.pr y xs) s = if y = z then some xs else none) ∧ (∀ z i s, rdS z (.lo i) s = rdB z (gS s i)) ∧ (∀ z s, rdS z (.v (.slice none 0 0)) s = some []) ∧ (∀ z e y xs, rdB z (some (.row e y xs)) = if y = z then some xs else none) ∧
    (∀ i d t s K, nilW ty (some i) d t s K = ∃ j, ty i.el = some j ∧ 0 < j.size ∧ rowW i.el j.size [] d t s K) ∧
    (∀ e z xs i y n off d t s K, loadE ty (some (.row e z xs)) i y n off d t s K = ∃ q, (ty e).map (·.zero) = some q ∧ y = z ∧ q.length = z ∧ off + i.size ≤ z ∧ K (pT t d (cutA i.agg i.size (dp off (vs (gR q xs n))))) s) ∧
    (∀ a b d t s K, mmW true (.v (.int .i64 a)) (.v (.int .i64 b)) d t s K = K (pT t d (.v (.int .i64 (mn a b)))) s) ∧ (∀ a b d t s K, mmW false (.v (.int .i64 a)) (.v (.int .i64 b)) d t s K = K (pT t d (.v (.int .i64 (mx a b)))) s) ∧
    (∀ i o d t s K, chkW (.bp i o) d t s K = K (pT t d (.bp i o)) s) ∧ (∀ c d t s K, chkW (.pe c) d t s K = K (pT t d (.pe c)) s) ∧ (∀ i z n o d t s K, chkW (.le i z n o) d t s K = K (pT t d (.le i z n o)) s) ∧
    (∀ q l d t s K, bindW q (.ag l) (some d) t s K = ((q && !plnL l) = false ∧ ((im (16 * d) (.ag l)).2.1.all fun p => free p.1 t s) = true ∧ (im (16 * d) (.ag l)).2.2 ≤ 16 * d + 16 ∧ K (sT t d (im (16 * d) (.ag l)).1) ((im (16 * d) (.ag l)).2.1 ++ s))) ∧
    (∀ q l d t s K, bindW q (.tu l) (some d) t s K = ((q && !plnL l) = false ∧ ((im (16 * d) (.tu l)).2.1.all fun p => free p.1 t s) = true ∧ (im (16 * d) (.tu l)).2.2 ≤ 16 * d + 16 ∧ K (sT t d (im (16 * d) (.tu l)).1) ((im (16 * d) (.tu l)).2.1 ++ s))) ∧
    (∀ x l, nthN (x :: l) 0 = some x) ∧ (∀ x l n, nthN (x :: l) (n + 1) = nthN l n) ∧
    (∀ o op k a k' b d t s K, binX o op (.v (.int k a)) (.v (.int k' b)) d t s K = binW op (.v (.int k a)) (.v (.int k' b)) d t s K) ∧ (∀ i a b d t s K, binX (some i) .eql (.v (.bool a)) (.v (.bool b)) d t s K = (i.zero = [.bool false] ∧ K (pT t d (.v (.bool (a == b)))) s)) ∧ (∀ i a b d t s K, binX (some i) .neq (.v (.bool a)) (.v (.bool b)) d t s K = (i.zero = [.bool false] ∧ K (pT t d (.v (.bool (a != b)))) s)) ∧ (∀ j, rn [] j = j) ∧ (∀ a b ρ j, rn ((a, b) :: ρ) j = if a = j then b else rn ρ j) ∧
    (∀ i ps d t s K, bldW (some i) ps d t s K = (i.agg = true ∧ ∃ cs, bldC (plc i.size i.fs) t ps (vs i.zero) = some cs ∧ K (pT t d (.ag cs)) s)) ∧ (∀ z, plc z [] = []) ∧ (∀ z o, plc z [o] = [(o, z - o)]) ∧ (∀ z o o2 l, plc z (o :: o2 :: l) = (o, o2 - o) :: plc z (o2 :: l)) ∧ (∀ x l, nthL (x :: l) 0 = some x) ∧ (∀ x l n, nthL (x :: l) (n + 1) = nthL l n) ∧ (∀ pl t cs, bldC pl t [] cs = some cs) ∧ (∀ pl t f x l cs, bldC pl t ((f, x) :: l) cs = (bldP (nthL pl f) (eT t x).cells cs).bind (bldC pl t l)) ∧ (∀ o z c cs, bldP (some (o, z)) c cs = if c.length = z ∧ o + c.length ≤ cs.length ∧ cellsOk c = true then some (putA o c cs) else none) ∧
    (plnL [] = true) ∧ (∀ c l, plnL (c :: l) = (pln c && plnL l)) ∧ (∀ x, pln (.v x) = true) ∧ (∀ l, pln (.ag l) = plnL l) ∧ (∀ l, pln (.tu l) = plnL l) ∧ (∀ e z l, pln (.ow e z l) = false) ∧
    (∀ q e z l d t s K, bindW q (.ow e z l) (some d) t s K = ((q && !false) = false ∧ ((im (16 * d) (.ow e z l)).2.1.all fun p => free p.1 t s) = true ∧ (im (16 * d) (.ow e z l)).2.2 ≤ 16 * d + 16 ∧ K (sT t d (im (16 * d) (.ow e z l)).1) ((im (16 * d) (.ow e z l)).2.1 ++ s))) := by
  refine ⟨?_, ?_, ?_, ?_, ?_, ?_, ?_, ?_, ?_, ?_, ?_, ?_, ?_, ?_, ?_, ?_, ?_, ?_, ?_, ?_, ?_, ?_, ?_, ?_, ?_, ?_, ?_, ?_, ?_, ?_, ?_, ?_, ?_, ?_, ?_, ?_, ?_, ?_, ?_, ?_, ?_, ?_, ?_⟩ <;> intros <;> first | rfl | (unfold binX; split <;> simp_all; done) | exact rn_cons _ _ _ _
theorem mkN {n : Int} {b : Nat} (h0 : 0 ≤ n) (hb : 0 < b) : (n * (b : Int) ≤ 281474976710656) = (n.toNat ≤ 281474976710656 / b) := by
  obtain ⟨m, rfl⟩ : ∃ m : Nat, n = m := ⟨n.toNat, by omega⟩
  rw [Int.toNat_natCast, Nat.le_div_iff_mul_le hb]
  exact propext (by omega)
theorem W14 : (∀ i n d t s K, mkW ty (some i) (.v (.int .i64 n)) (.v (.int .i64 n)) d t s K = ∃ j, ty i.el = some j ∧ 0 ≤ n ∧ n.toNat ≤ 281474976710656 / j.bytes ∧ 0 < j.bytes ∧ j.size = 1 ∧ j.agg = false ∧ rowW i.el 1 (List.replicate n.toNat j.zero) d t s K) ∧
    (∀ id e z xs ys j e' d t s K, appR id (some (.row e z xs)) (some ys) j e' (some d) t s K = (e = e' ∧ z = j.size ∧ 0 < j.bytes ∧ xs.length + ys.length ≤ 140737488355328 / j.bytes ∧ free (16 * d) t (dS s id) = true ∧ K (sT t d (.lo (16 * d))) (uS (dS s id) (16 * d) (.row e z (xs ++ ys))))) := by
  refine ⟨fun i n d t s K => ?_, fun id e z xs ys j e' d t s K => ?_⟩
  · show (∃ j, ty i.el = some j ∧ n = n ∧ 0 ≤ n ∧ n * (j.bytes : Int) ≤ 281474976710656 ∧ 0 < j.bytes ∧ j.size = 1 ∧ j.agg = false ∧ rowW i.el 1 (List.replicate n.toNat j.zero) d t s K) = _
    refine propext ⟨?_, ?_⟩
    · rintro ⟨j, h1, _, h2, h3, h4, h5⟩
      exact ⟨j, h1, h2, (mkN h2 h4) ▸ h3, h4, h5⟩
    · rintro ⟨j, h1, h2, h3, h4, h5⟩
      exact ⟨j, h1, rfl, h2, (mkN h2 h4) ▸ h3, h4, h5⟩
  · show (e = e' ∧ z = j.size ∧ 0 < j.bytes ∧ (xs.length + ys.length) * j.bytes ≤ 140737488355328 ∧ _) = _
    refine propext ⟨?_, ?_⟩
    · rintro ⟨h1, h2, h3, h4, h5⟩
      exact ⟨h1, h2, h3, (Nat.le_div_iff_mul_le h3).2 h4, h5⟩
    · rintro ⟨h1, h2, h3, h4, h5⟩
      exact ⟨h1, h2, h3, (Nat.le_div_iff_mul_le h3).1 h4, h5⟩
end
theorem W0 : (∀ (α : Type) (_ : Decidable True) (a b : α), (if True then a else b) = a) ∧ (∀ (α : Type) (_ : Decidable False) (a b : α), (if False then a else b) = b) ∧ (∀ (α β : Type) (f : α → β) (l : List α), (l.map f).length = l.length) ∧ (∀ (α β : Type) (x : α) (f : α → Option β), (some x).bind f = f x) ∧ (∀ (α β : Type) (x : α) (f : α → β), (some x).map f = some (f x)) ∧ (∀ (α : Type) (x : α), (some x).isSome = true) ∧
    (∀ p : Prop, (True ∧ p) = p) ∧ (∀ p : Prop, (p ∧ True) = p) ∧ (∀ p : Prop, (False ∧ p) = False) ∧ (∀ (α : Type) (x : α), (x = x) = True) ∧ (∀ (α : Type) (x : α) (l : List α), (x :: l).length = l.length + 1) ∧ (∀ α : Type, ([] : List α).length = 0) ∧ (∀ (α : Type) (p : α → Bool), ([] : List α).all p = true) ∧ (∀ (α : Type) (p : α → Bool) (x : α) (l : List α), (x :: l).all p = (p x && l.all p)) ∧
    (∀ h : Decidable True, @decide True h = true) ∧ (∀ h : Decidable False, @decide False h = false) ∧ (∀ (α : Type) (a : α) (p : α → Prop), (∃ x, some a = some x ∧ p x) = p a) ∧ (∀ (α : Type) (a : α) (p : α → Prop), (∃ x, some x = some a ∧ p x) = p a) ∧ (∀ a b : Nat, (a + 1 ≤ b) = (a < b)) ∧
    (∀ (α : Type) (l : List α), [] ++ l = l) ∧ (∀ (α : Type) (x : α) (l m : List α), (x :: l) ++ m = x :: (l ++ m)) ∧ (∀ (α : Type) (l : List α), l.drop 0 = l) ∧ (∀ (α : Type) (n : Nat) (x : α) (l : List α), (x :: l).drop (n + 1) = l.drop n) ∧ ((!true) = false) ∧ ((!false) = true) ∧ (∀ a b : Int, (a == b) = decide (a = b)) ∧ (∀ a b : Int, (a != b) = !decide (a = b)) ∧ ((¬True) = False) ∧ ((¬False) = True) ∧ (∀ (α : Type) (a b : α), (a ≠ b) = ¬(a = b)) ∧
    (∀ (α : Type) (l m : List α), (l ++ m).length = l.length + m.length) ∧ (∀ (α : Type) (l : List α) (i : Nat) (x : α), (l.set i x).length = l.length) ∧ (∀ (α : Type) (n : Nat) (x : α), (List.replicate n x).length = n) ∧ (∀ (α β : Type) (f : α → β) (l m : List α), l.map f ++ m.map f = (l ++ m).map f) ∧ (∀ (α β : Type) (f : α → β), [].map f = []) ∧ (∀ (α β : Type) (f : α → β) (x : α) (l : List α), (x :: l).map f = f x :: l.map f) := by
  refine ⟨?_, ?_, ?_, ?_, ?_, ?_, ?_, ?_, ?_, ?_, ?_, ?_, ?_, ?_, ?_, ?_, ?_, ?_, ?_, ?_, ?_, ?_, ?_, ?_, ?_, ?_, ?_, ?_, ?_, ?_, ?_, ?_, ?_, ?_, ?_, ?_⟩ <;> intros <;> first | rfl | simp | (exact propext Iff.rfl)
end Go.Proofs.YtkindoepnganmaaGreat.F
end

section
namespace Go.Proofs.YtkindoepnganmaaGreat.F
open Go.RowKit Go.Proofs.YtkindoepnganmaaGreatW.PrintWords Go.Proofs.YtkindoepnganmaaGreatW.PrintLast Go.Proofs.YtkindoepnganmaaGreatW.PrintMore
set_option linter.unusedVariables false
set_option linter.unusedSimpArgs false
theorem W15 (P : Program) (ty : TypeId → Option TI) : (∀ s id z lo hi, toP s (.vw id z lo hi) = tpV z lo hi (gS s id)) ∧ (∀ z lo hi e y xs, tpV z lo hi (some (.row e y xs)) = if z = y then .pr y ((xs.take hi).drop lo) else .u) ∧ (∀ s f a b, toP s (.v (.func f a b)) = .v (.func f a b)) ∧
    (∀ id z lo hi d t s K, lenW (.vw id z lo hi) d t s K = lenV (gS s id) lo hi d t s K) ∧ (∀ e z xs lo hi d t s K, lenV (some (.row e z xs)) lo hi d t s K = K (pT t d (.v (.int .i64 (((xs.take hi).drop lo).length : Int)))) s) ∧
    (∀ i id z lo hi k n d t s K, idxW ty (some i) (.vw id z lo hi) (.v (.int k n)) d t s K = idxV ty i.el (gS s id) id z lo hi n d t s K) ∧
    (∀ el e z xs id y lo hi n d t s K, idxV ty el (some (.row e z xs)) id y lo hi n d t s K = ((∃ j, ty el = some j ∧ j.size = z) ∧ y = z ∧ 0 ≤ n ∧ n < (((xs.take hi).drop lo).length : Int) ∧ K (pT t d (.le id z (n + (lo : Int)) 0)) s)) ∧
    (∀ z id y lo hi s, rdS z (.vw id y lo hi) s = if y = z then (rdB z (gS s id)).map fun xs => (xs.take hi).drop lo else none) ∧
    (∀ q b x lo hi o d t s K, opX P ty q (.slice b x lo hi none) o d t s K = slcW ty (ty b) (eT t x) (lo.map (eT t)) (hi.map (eT t)) d t s K) ∧
    (∀ i z xs lo hi d t s K, slcW ty (some i) (.pr z xs) lo hi d t s K = ∃ j, ty i.el = some j ∧ slcP z xs j (loN lo) hi d t s K) ∧
    (∀ i id lo hi d t s K, slcW ty (some i) (.lo id) lo hi d t s K = ∃ j, ty i.el = some j ∧ slcR id (gS s id) j (loN lo) hi d t s K) ∧
    (∀ z xs j l hi d t s K, slcP z xs j (some l) hi d t s K = ∃ h, hiN xs.length hi = some h ∧ j.size = z ∧ 0 ≤ l ∧ l ≤ h ∧ h ≤ (xs.length : Int) ∧ K (pT t d (.pr z ((xs.take h.toNat).drop l.toNat))) s) ∧
    (∀ id e z xs j l hi d t s K, slcR id (some (.row e z xs)) j (some l) hi d t s K = ∃ h, hiN xs.length hi = some h ∧ j.size = z ∧ 0 ≤ l ∧ l ≤ h ∧ h ≤ (xs.length : Int) ∧ K (pT t d (.vw id z l.toNat h.toNat)) s) ∧
    (loN none = some 0) ∧ (∀ k n, loN (some (.v (.int k n))) = some n) ∧ (∀ n, hiN n none = some (n : Int)) ∧ (∀ n k h, hiN n (some (.v (.int k h))) = some h) ∧
    (∀ i a b c d, rot i (.slice a b c d none) = true) ∧ (∀ (α β : Type) (f : α → β), (none : Option α).map f = none) ∧ (∀ (α : Type) (l : List α), l.drop (Int.toNat 0) = l) ∧ (∀ (α : Type) (l : List α), l.take ((l.length : Int)).toNat = l) ∧ (∀ i j, nodB [i, j] = (i != j)) ∧ (∀ i j k, nodB [i, j, k] = (i != j && (i != k && j != k))) ∧
    (∀ (α β : Type) (f : α → β) (l : List α) (n : Nat), (l.map f).take n = (l.take n).map f) ∧ (∀ (α β : Type) (f : α → β) (l : List α) (n : Nat), (l.map f).drop n = (l.drop n).map f) ∧ (∀ n : Int, n ≤ n) ∧ (∀ n : Int, n + ((0 : Nat) : Int) = n) ∧ (∀ t f, eT t (.func f) = .v (.func (.func f) #[] #[])) := by
  refine ⟨?_, ?_, ?_, ?_, ?_, ?_, ?_, ?_, ?_, ?_, ?_, ?_, ?_, ?_, ?_, ?_, ?_, ?_, ?_, ?_, ?_, ?_, ?_, ?_, ?_, ?_, ?_, ?_⟩ <;> intros <;> first | rfl | (rename_i i _ _ _ _; cases i <;> rfl) | (rw [Int.toNat_natCast]; exact List.take_length) | (rename_i i j; by_cases h : i = j <;> simp [nodB, h]; done) | (rename_i i j k; by_cases h : i = j <;> by_cases h2 : i = k <;> by_cases h3 : j = k <;> simp [nodB, h, h2, h3]; done) | exact List.map_take.symm | exact List.map_drop.symm | exact Int.le_refl _ | exact Int.add_zero _ | exact Nat.cast_ofNat | simp
end Go.Proofs.YtkindoepnganmaaGreat.F
end

section
namespace Go.Proofs.YtkindoepnganmaaGreat.F
open Go.RowKit Go.Proofs.YtkindoepnganmaaGreatW.PrintWords Go.Proofs.YtkindoepnganmaaGreatW.PrintLast Go.Proofs.YtkindoepnganmaaGreatW.PrintMore
set_option linter.unusedVariables false
set_option linter.unusedSimpArgs false
structure EncOk {α : Type} (d : Kd α) (sz : Nat) (enc : α → List Value) : Prop where
  hz : d.sz = sz
  pos : 0 < sz
  len : ∀ x, (enc x).length = sz
  pl : ∀ x, ∀ u ∈ enc x, plainV u = true
  K : ∀ {w x c}, d.K w x c ↔ c = enc x
  M : ∀ {w b ok x c}, d.M w b ok x c ↔ c = enc x
section
variable {α : Type} {d : Kd α} {sz : Nat} {enc : α → List Value}
theorem EncOk.all (E : EncOk d sz enc) {xs : List α} : ∀ x ∈ xs.map enc, x.length = sz := fun x hx => by
  obtain ⟨y, _, rfl⟩ := List.mem_map.1 hx
  exact E.len y
theorem EncOk.row (E : EncOk d sz enc) (xs : List α) : rowOk sz (xs.map enc) := fun x hx => by
  obtain ⟨y, _, rfl⟩ := List.mem_map.1 hx
  exact ⟨E.len y, E.pl y⟩
theorem EncOk.cell (E : EncOk d sz enc) {xs : List α} {i j : Nat} (hi : i < xs.length) (hj : j < sz) : (xs.map enc).flatten[i * sz + j]? = (enc xs[i])[j]? := by
  rw [flatten_at E.all (by simpa using hi) (z := []) hj]
  simp [List.getD_eq_getElem?_getD, hi]
theorem at_of_C (E : EncOk d sz enc) {w : World} {A : Option Addr} {c : Nat} {xs : List α} (h : d.C w A xs.length xs) (hc : xs.length ≤ c) : RowAt w.heap.size w sz (xs.map enc) (.slice A xs.length c) := by
  obtain ⟨h1, h2, h3⟩ := h
  have hs := E.hz
  refine ⟨A, c, by rw [List.length_map], by rw [List.length_map]; exact hc, by rw [List.length_map]; exact h2, E.pos, E.row xs, fun hne => ?_⟩
  have hp : 0 < xs.length := by
    cases xs with
    | nil => exact absurd rfl hne
    | cons x l => simp
  obtain ⟨ad, e, h3⟩ := h3 hp
  have key : ∀ j u, (xs.map enc).flatten[j]? = some u → w.cell? (ad.add j) = some u := fun j u hu => by
    have hl : j < (xs.map enc).flatten.length := (List.getElem?_eq_some_iff.1 hu).1
    rw [flatten_len E.all, List.length_map] at hl
    have hq : j / sz < xs.length := (Nat.div_lt_iff_lt_mul E.pos).2 hl
    have hr := Nat.mod_lt j E.pos
    have ej : j = j / sz * sz + j % sz := by rw [Nat.mul_comm]; exact (Nat.div_add_mod j sz).symm
    rw [ej, E.cell hq hr] at hu
    obtain ⟨cc, h4, h5, h6⟩ := h3 (j / sz) _ (List.getElem?_eq_getElem hq)
    rw [E.K.1 h5, hs] at h6
    rw [ej]
    exact h6 (j % sz) u hu
  refine ⟨ad, e, ?_, key⟩
  obtain ⟨u, hu⟩ : ∃ u, (xs.map enc).flatten[0]? = some u := by
    refine ⟨_, List.getElem?_eq_getElem (by rw [flatten_len E.all, List.length_map]; exact Nat.mul_pos hp E.pos)⟩
  have := key 0 u hu
  unfold World.cell? at this
  cases hb : w.heap[(ad.add 0).block]? with
  | none => rw [hb] at this; cases this
  | some b => exact (Array.getElem?_eq_some_iff.1 hb).1
theorem C_of_at (E : EncOk d sz enc) {B : Nat} {w : World} {xs : List α} {y : Value} (h : RowAt B w sz (xs.map enc) y) : ∃ A c, y = .slice A xs.length c ∧ d.C w A xs.length xs ∧ xs.length ≤ c := by
  obtain ⟨A, c, h1, h2, h3, _, _, h4⟩ := h
  rw [List.length_map] at h1 h2 h3
  refine ⟨A, c, h1, ⟨rfl, h3, fun hp => ?_⟩, h2⟩
  obtain ⟨ad, e, _, h5⟩ := h4 (fun e => by rw [List.map_eq_nil_iff] at e; rw [e] at hp; simp at hp)
  refine ⟨ad, e, fun j p hj => ⟨enc p, by rw [E.len, E.hz], E.K.2 rfl, fun i u hu => h5 _ u ?_⟩⟩
  obtain ⟨hl, rfl⟩ := List.getElem?_eq_some_iff.1 hj
  have hi : i < sz := by rw [← E.len xs[j]]; exact (List.getElem?_eq_some_iff.1 hu).1
  rw [E.hz, E.cell hl hi]
  exact hu
theorem R_of_rowO (E : EncOk d sz enc) {e B : Nat} {w : World} {v : Value} {xs : List α} {ok : Nat → Prop} (h : w.ownsRow B e sz v (xs.map enc).length (xs.map enc).flatten) (hok : ∀ k, bk v = some k → ok k) : d.R e w B ok v xs := by
  refine ⟨fun k hk => hok k (by rw [← bk_own h]; exact hk), (xs.map enc).flatten, by rw [E.hz]; rwa [List.length_map] at h, by rw [flatten_len E.all, List.length_map, E.hz], fun j p hj => E.M.2 ?_⟩
  obtain ⟨hl, rfl⟩ := List.getElem?_eq_some_iff.1 hj
  apply List.ext_getElem?
  intro i
  rw [E.hz]
  by_cases hi : i < sz
  · rw [List.getElem?_take, if_pos hi, List.getElem?_drop, E.cell hl hi]
  · rw [List.getElem?_take, if_neg hi, List.getElem?_eq_none (by rw [E.len]; omega)]
theorem R_of_row (E : EncOk d sz enc) {e B : Nat} {w : World} {v : Value} {xs : List α} (h : w.ownsRow B e sz v (xs.map enc).length (xs.map enc).flatten) : d.R e w B (fun _ => True) v xs := R_of_rowO E h fun _ _ => trivial
theorem row_of_R (E : EncOk d sz enc) {e B : Nat} {w : World} {ok : Nat → Prop} {v : Value} {xs : List α} (h : d.R e w B ok v xs) : w.ownsRow B e sz v (xs.map enc).length (xs.map enc).flatten := by
  obtain ⟨_, inner, ho, hr⟩ := h
  have hin : inner = (xs.map enc).flatten := by
    apply List.ext_getElem?
    intro j
    by_cases hj : j < xs.length * sz
    · have hq : j / sz < xs.length := (Nat.div_lt_iff_lt_mul E.pos).2 hj
      have hm := Nat.mod_lt j E.pos
      have ej : j = j / sz * sz + j % sz := by rw [Nat.mul_comm]; exact (Nat.div_add_mod j sz).symm
      have h2 := E.M.1 (hr.2 (j / sz) _ (List.getElem?_eq_getElem hq))
      rw [ej, E.cell hq hm, ← h2, E.hz, List.getElem?_take, if_pos hm, List.getElem?_drop]
    · rw [List.getElem?_eq_none (by have := hr.1; rw [E.hz] at this; omega), List.getElem?_eq_none (by rw [flatten_len E.all, List.length_map]; omega)]
  rw [← hin, List.length_map]
  rw [E.hz] at ho
  exact ho
end
end Go.Proofs.YtkindoepnganmaaGreat.F
namespace Go.Proofs.YtkindoepnganmaaGreat.F
open Go.RowKit Go.Proofs.YtkindoepnganmaaGreatW.PrintWords Go.Proofs.YtkindoepnganmaaGreatW.PrintLast Go.Proofs.YtkindoepnganmaaGreatW.PrintMore
theorem nd_own {B1 B2 e1 e2 z1 z2 n1 n2 : Nat} {w : World} {v1 v2 : Value} {xs ys : List Value} (h1 : w.ownsRow B1 e1 z1 v1 n1 xs) (h2 : w.ownsRow B2 e2 z2 v2 n2 ys) (hne : ∀ k, v1.ownBlock = some k → some k ≠ v2.ownBlock) : ((bk v1).toList ++ (bk v2).toList).Nodup := by
  rw [bk_own h1, bk_own h2] at hne
  cases a : bk v1 with
  | none => cases bk v2 <;> simp
  | some k =>
    cases b : bk v2 with
    | none => simp
    | some j =>
      have := hne k a
      rw [b] at this
      simp at this ⊢
      exact this
end Go.Proofs.YtkindoepnganmaaGreat.F
end

section
namespace Go.Proofs.YtkindoepnganmaaGreat.F
open Go.RowKit Go.Proofs.YtkindoepnganmaaGreatW.PrintWords Go.Proofs.YtkindoepnganmaaGreatW.PrintLast Go.Proofs.YtkindoepnganmaaGreatW.PrintMore
set_option linter.unusedVariables false
set_option linter.unusedSimpArgs false
def laws_szIntS.f (l0 : List Int) (a1 : Int) : Option (Int) := if (wrap64 (a1 - (l0.length : Int))) < 0 then (some (-1)) else (some (wrap64 (a1 - (l0.length : Int))))
def laws_szHedge.f (a0_0 : Int) (a0_1 : Int) (a0_2 : Int) (l0_3 : List Int) (a0_4 : Int) (a1 : Int) : Option (Int) := (laws_szIntS.f l0_3 a1).bind fun t102 => (if t102 < 0 then (some (-1)) else (some t102))
def laws_szGarden.f (a0_0 : Int) (a0_1 : Int) (a0_2 : Int) (l0_3 : List Int) (a0_4 : Int) (a0_5 : Int) (l0_6 : List Int) (a0_7 : Int) (a1 : Int) : Option (Int) := (laws_szHedge.f a0_0 a0_1 a0_2 l0_3 a0_4 a1).bind fun t104 => (if t104 < 0 then (some (-1)) else ((laws_szIntS.f l0_6 t104).bind fun t105 => (if t105 < 0 then (some (-1)) else (some t105))))
def laws_toIntS.l0 : Nat → List Int → List Int → Int → Option (List Int)
  | 0, _, _, _ => none
  | k + 1, x0, x3, x4 => if x4 < (x0.length : Int) then (if 0 ≤ x4 then (if x4 < (x3.length : Int) then (laws_toIntS.l0 k x0 (x3.set (x4 : Int).toNat (rd x0 x4)) (wrap64 (x4 + 1))) else (none)) else (none)) else (some x3)
def laws_toIntS.f (k : Nat) (l0 : List Int) : Option (List Int) := if 0 ≤ (l0.length : Int) then (if ((l0.length : Int) : Int).toNat ≤ 35184372088832 then (laws_toIntS.l0 k l0 (List.replicate ((l0.length : Int) : Int).toNat 0) 0) else (none)) else (none)
def laws_toGrid.f (a0_0 : Int) (a0_1 : Int) : Option (Int × Int) := some (a0_0, a0_1)
def laws_toMaze.f (a0_0 : Int) (a0_1 : Int) (a0_2 : Int) : Option (Int × Int × Int) := (laws_toGrid.f a0_0 a0_1).bind fun bt297 => (some (bt297.1, bt297.2, a0_2))
def laws_toHedge.f (k : Nat) (a0_0 : Int) (a0_1 : Int) (a0_2 : Int) (l0_3 : List Int) (a0_4 : Int) : Option (Int × Int × Int × List Int × Int) := (laws_toMaze.f a0_0 a0_1 a0_2).bind fun bt302 => ((laws_toIntS.f k l0_3).bind fun t305 => (some (bt302.1, bt302.2.1, bt302.2.2, t305, a0_4)))
def laws_toGarden.f (k : Nat) (a0_0 : Int) (a0_1 : Int) (a0_2 : Int) (l0_3 : List Int) (a0_4 : Int) (a0_5 : Int) (l0_6 : List Int) (a0_7 : Int) : Option (Int × Int × Int × List Int × Int × Int × List Int × Int) := (laws_toHedge.f k a0_0 a0_1 a0_2 l0_3 a0_4).bind fun bt311 => ((laws_toIntS.f k l0_6).bind fun t318 => (some (bt311.1, bt311.2.1, bt311.2.2.1, bt311.2.2.2.1, bt311.2.2.2.2, a0_5, t318, a0_7)))
def laws_eqIntS.l0 : Nat → List Int → List Int → Int → Option (Bool)
  | 0, _, _, _ => none
  | k + 1, x0, x1, x5 => if x5 < (x0.length : Int) then (if 0 ≤ x5 then (if x5 < (x1.length : Int) then (if (rd x0 x5) = (rd x1 x5) then (laws_eqIntS.l0 k x0 x1 (wrap64 (x5 + 1))) else (some false)) else (none)) else (none)) else (some true)
def laws_eqIntS.f (k : Nat) (l0 : List Int) (l1 : List Int) : Option (Bool) := if (l0.length : Int) = (l1.length : Int) then (laws_eqIntS.l0 k l0 l1 0) else (some false)
def laws_eqGrid.f (a0_0 : Int) (a0_1 : Int) (a1_0 : Int) (a1_1 : Int) : Option (Bool) := if a0_0 = a1_0 then (if a0_1 = a1_1 then (some true) else (some false)) else (some false)
def laws_eqMaze.f (a0_0 : Int) (a0_1 : Int) (a0_2 : Int) (a1_0 : Int) (a1_1 : Int) (a1_2 : Int) : Option (Bool) := (laws_eqGrid.f a0_0 a0_1 a1_0 a1_1).bind fun t611 => (if t611 = true then (if a0_2 = a1_2 then (some true) else (some false)) else (some false))
def laws_eqHedge.f (k : Nat) (a0_0 : Int) (a0_1 : Int) (a0_2 : Int) (l0_3 : List Int) (a0_4 : Int) (a1_0 : Int) (a1_1 : Int) (a1_2 : Int) (l1_3 : List Int) (a1_4 : Int) : Option (Bool) := (laws_eqMaze.f a0_0 a0_1 a0_2 a1_0 a1_1 a1_2).bind fun t614 => (if t614 = true then ((laws_eqIntS.f k l0_3 l1_3).bind fun t615 => (if t615 = true then (if a0_4 = a1_4 then (some true) else (some false)) else (some false))) else (some false))
def laws_eqGarden.f (k : Nat) (a0_0 : Int) (a0_1 : Int) (a0_2 : Int) (l0_3 : List Int) (a0_4 : Int) (a0_5 : Int) (l0_6 : List Int) (a0_7 : Int) (a1_0 : Int) (a1_1 : Int) (a1_2 : Int) (l1_3 : List Int) (a1_4 : Int) (a1_5 : Int) (l1_6 : List Int) (a1_7 : Int) : Option (Bool) := (laws_eqHedge.f k a0_0 a0_1 a0_2 l0_3 a0_4 a1_0 a1_1 a1_2 l1_3 a1_4).bind fun t618 => (if t618 = true then (if a0_5 = a1_5 then ((laws_eqIntS.f k l0_6 l1_6).bind fun t619 => (if t619 = true then (if a0_7 = a1_7 then (some true) else (some false)) else (some false))) else (some false)) else (some false))
def laws_markIntS.l0 : Nat → List Int → Int → Int → Option (Int × List Int)
  | 0, _, _, _ => none
  | k + 1, x0, x1, x5 => if x5 < (x0.length : Int) then (if 0 ≤ x5 then (laws_markIntS.l0 k (x0.set (x5 : Int).toNat x1) (wrap64 (x1 + 1)) (wrap64 (x5 + 1))) else (none)) else (some (x1, x0))
def laws_markIntS.f (k : Nat) (l0 : List Int) (a1 : Int) : Option (Int × List Int) := laws_markIntS.l0 k l0 a1 0
def laws_markHedge.f (k : Nat) (a0_0 : Int) (a0_1 : Int) (a0_2 : Int) (l0_3 : List Int) (a0_4 : Int) (a1 : Int) : Option (Int × List Int) := (laws_markIntS.f k l0_3 a1).bind fun bt622 => (some (bt622.1, bt622.2))
def laws_markGarden.f (k : Nat) (a0_0 : Int) (a0_1 : Int) (a0_2 : Int) (l0_3 : List Int) (a0_4 : Int) (a0_5 : Int) (l0_6 : List Int) (a0_7 : Int) (a1 : Int) : Option (Int × List Int × List Int) := (laws_markHedge.f k a0_0 a0_1 a0_2 l0_3 a0_4 a1).bind fun bt625 => ((laws_markIntS.f k l0_6 bt625.1).bind fun bt627 => (some (bt627.1, bt625.2, bt627.2)))
def laws_heldIntS.l0 : Nat → List Int → Int → Int → Option (Int)
  | 0, _, _, _ => none
  | k + 1, x0, x1, x5 => if x5 < (x0.length : Int) then (if 0 ≤ x5 then (if (rd x0 x5) = x1 then (laws_heldIntS.l0 k x0 (wrap64 (x1 + 1)) (wrap64 (x5 + 1))) else (some (-1))) else (none)) else (some x1)
def laws_heldIntS.f (k : Nat) (l0 : List Int) (a1 : Int) : Option (Int) := laws_heldIntS.l0 k l0 a1 0
def laws_heldHedge.f (k : Nat) (a0_0 : Int) (a0_1 : Int) (a0_2 : Int) (l0_3 : List Int) (a0_4 : Int) (a1 : Int) : Option (Int) := (laws_heldIntS.f k l0_3 a1).bind fun t631 => (if t631 < 0 then (some (-1)) else (some t631))
def laws_heldGarden.f (k : Nat) (a0_0 : Int) (a0_1 : Int) (a0_2 : Int) (l0_3 : List Int) (a0_4 : Int) (a0_5 : Int) (l0_6 : List Int) (a0_7 : Int) (a1 : Int) : Option (Int) := (laws_heldHedge.f k a0_0 a0_1 a0_2 l0_3 a0_4 a1).bind fun t633 => (if t633 < 0 then (some (-1)) else ((laws_heldIntS.f k l0_6 t633).bind fun t634 => (if t634 < 0 then (some (-1)) else (some t634))))
end Go.Proofs.YtkindoepnganmaaGreat.F
end

section
namespace Go.Proofs.YtkindoepnganmaaGreat.F
open Go.RowKit Go.Proofs.YtkindoepnganmaaGreatW.PrintWords Go.Proofs.YtkindoepnganmaaGreatW.PrintLast Go.Proofs.YtkindoepnganmaaGreatW.PrintMore
set_option linter.unusedVariables false
set_option linter.unusedSimpArgs false
def eAct (x : SAct) : List Value := [.int .i64 x.f0, .int .i64 x.f1, .int .i64 x.f2]
def eI (x : Int) : List Value := [.int .i64 x]
def eU8 (x : Int) : List Value := [.int .u8 x]
def elaAct (x : SlaAct) : List Value := [.int .i64 x.f0, .int .i64 x.f1, .int .i64 x.f2]
def ty : TypeId → Option TI
  | 3 => some ⟨false, 1, 8, [.int .i64 0], [], 0⟩
  | 4 => some ⟨false, 1, 1, [.bool false], [], 0⟩
  | 5 => some ⟨false, 1, 1, [.int .u8 0], [], 0⟩
  | 23 => some ⟨true, 2, 16, [.int .i64 0, .int .i64 0], [0, 1], 0⟩
  | 25 => some ⟨true, 3, 24, [.int .i64 0, .int .i64 0, .int .i64 0], [0, 2], 0⟩
  | 26 => some ⟨false, 1, 24, [.slice none 0 0], [], 3⟩
  | 28 => some ⟨true, 5, 56, [.int .i64 0, .int .i64 0, .int .i64 0, .slice none 0 0, .int .i64 0], [0, 3, 4], 0⟩
  | 30 => some ⟨true, 8, 96, [.int .i64 0, .int .i64 0, .int .i64 0, .slice none 0 0, .int .i64 0, .int .i64 0, .slice none 0 0, .int .i64 0], [0, 5, 6, 7], 0⟩
  | 32 => some ⟨true, 2, 16, [.int .i64 0, .int .i64 0], [0, 1], 0⟩
  | 34 => some ⟨true, 3, 24, [.int .i64 0, .int .i64 0, .int .i64 0], [0, 2], 0⟩
  | 36 => some ⟨true, 5, 56, [.int .i64 0, .int .i64 0, .int .i64 0, .slice none 0 0, .int .i64 0], [0, 3, 4], 0⟩
  | 38 => some ⟨true, 8, 96, [.int .i64 0, .int .i64 0, .int .i64 0, .slice none 0 0, .int .i64 0, .int .i64 0, .slice none 0 0, .int .i64 0], [0, 5, 6, 7], 0⟩
  | 50 => some ⟨true, 3, 24, [.int .i64 0, .int .i64 0, .int .i64 0], [0, 1, 2], 0⟩
  | 53 => some ⟨true, 3, 24, [.int .i64 0, .int .i64 0, .int .i64 0], [0, 1, 2], 0⟩
  | 56 => some ⟨false, 1, 24, [.slice none 0 0], [], 50⟩
  | 60 => some ⟨false, 1, 24, [.slice none 0 0], [], 53⟩
  | 70 => some ⟨false, 1, 24, [.slice none 0 0], [], 5⟩
  | 127 => some ⟨true, 3, 40, [.slice none 0 0, .int .i64 0, .int .i64 0], [0, 1, 2], 0⟩
  | 141 => some ⟨false, 1, 8, [.int .u64 0], [], 0⟩
  | _ => none
theorem tyOk : TyOk Tryz.prog ty := by
  intro t i h
  unfold ty at h
  split at h <;> first | (cases h; done) | (obtain rfl := Option.some.inj h; exact mkTI (by kernel_rfl) (by kernel_rfl))
theorem hm : Tryz.prog.follows .mixedOrders = true := by kernel_rfl
theorem gR_eAct : (∀ (x : SAct), eAct x = [.int .i64 x.f0, .int .i64 x.f1, .int .i64 x.f2]) ∧ (∀ (l : List SAct) (i : Int), gR [.int .i64 0, .int .i64 0, .int .i64 0] (l.map eAct) i = [.int .i64 (rd_Act l i).f0, .int .i64 (rd_Act l i).f1, .int .i64 (rd_Act l i).f2]) ∧ (∀ (l : List SAct) (i : Int) (a0 : Int) (a1 : Int) (a2 : Int), sR (l.map eAct) i [.int .i64 a0, .int .i64 a1, .int .i64 a2] = (l.set i.toNat (⟨a0, a1, a2⟩ : SAct)).map eAct) ∧ (∀ (l : List SAct) (a0 : Int) (a1 : Int) (a2 : Int), l.map eAct ++ [[.int .i64 a0, .int .i64 a1, .int .i64 a2]] = (l ++ [(⟨a0, a1, a2⟩ : SAct)]).map eAct) ∧ (∀ n : Nat, List.replicate n [.int .i64 0, .int .i64 0, .int .i64 0] = (List.replicate n zAct).map eAct) := by
  refine ⟨fun _ => rfl, fun l i => ?_, fun l i a0 a1 a2 => ?_, fun l a0 a1 a2 => ?_, fun n => ?_⟩
  · unfold gR rd_Act eAct
    rw [List.getD_eq_getElem?_getD, List.getElem?_map, List.getD_eq_getElem?_getD]
    cases l[i.toNat]? <;> rfl
  · unfold sR; rw [List.map_set]; rfl
  · rw [List.map_append]; rfl
  · rw [List.map_replicate]; rfl
theorem gR_eI : (∀ (x : Int), eI x = [.int .i64 x]) ∧ (∀ (l : List Int) (i : Int), gR [.int .i64 0] (l.map eI) i = [.int .i64 (rd l i)]) ∧ (∀ (l : List Int) (i : Int) (a0 : Int), sR (l.map eI) i [.int .i64 a0] = (l.set i.toNat a0).map eI) ∧ (∀ (l : List Int) (a0 : Int), l.map eI ++ [[.int .i64 a0]] = (l ++ [a0]).map eI) ∧ (∀ n : Nat, List.replicate n [.int .i64 0] = (List.replicate n 0).map eI) := by
  refine ⟨fun _ => rfl, fun l i => ?_, fun l i a0 => ?_, fun l a0 => ?_, fun n => ?_⟩
  · unfold gR rd eI
    rw [List.getD_eq_getElem?_getD, List.getElem?_map, List.getD_eq_getElem?_getD]
    cases l[i.toNat]? <;> rfl
  · unfold sR; rw [List.map_set]; rfl
  · rw [List.map_append]; rfl
  · rw [List.map_replicate]; rfl
theorem gR_eU8 : (∀ (x : Int), eU8 x = [.int .u8 x]) ∧ (∀ (l : List Int) (i : Int), gR [.int .u8 0] (l.map eU8) i = [.int .u8 (rd l i)]) ∧ (∀ (l : List Int) (i : Int) (a0 : Int), sR (l.map eU8) i [.int .u8 a0] = (l.set i.toNat a0).map eU8) ∧ (∀ (l : List Int) (a0 : Int), l.map eU8 ++ [[.int .u8 a0]] = (l ++ [a0]).map eU8) ∧ (∀ n : Nat, List.replicate n [.int .u8 0] = (List.replicate n 0).map eU8) := by
  refine ⟨fun _ => rfl, fun l i => ?_, fun l i a0 => ?_, fun l a0 => ?_, fun n => ?_⟩
  · unfold gR rd eU8
    rw [List.getD_eq_getElem?_getD, List.getElem?_map, List.getD_eq_getElem?_getD]
    cases l[i.toNat]? <;> rfl
  · unfold sR; rw [List.map_set]; rfl
  · rw [List.map_append]; rfl
  · rw [List.map_replicate]; rfl
theorem gR_elaAct : (∀ (x : SlaAct), elaAct x = [.int .i64 x.f0, .int .i64 x.f1, .int .i64 x.f2]) ∧ (∀ (l : List SlaAct) (i : Int), gR [.int .i64 0, .int .i64 0, .int .i64 0] (l.map elaAct) i = [.int .i64 (rd_laAct l i).f0, .int .i64 (rd_laAct l i).f1, .int .i64 (rd_laAct l i).f2]) ∧ (∀ (l : List SlaAct) (i : Int) (a0 : Int) (a1 : Int) (a2 : Int), sR (l.map elaAct) i [.int .i64 a0, .int .i64 a1, .int .i64 a2] = (l.set i.toNat (⟨a0, a1, a2⟩ : SlaAct)).map elaAct) ∧ (∀ (l : List SlaAct) (a0 : Int) (a1 : Int) (a2 : Int), l.map elaAct ++ [[.int .i64 a0, .int .i64 a1, .int .i64 a2]] = (l ++ [(⟨a0, a1, a2⟩ : SlaAct)]).map elaAct) ∧ (∀ n : Nat, List.replicate n [.int .i64 0, .int .i64 0, .int .i64 0] = (List.replicate n zlaAct).map elaAct) := by
  refine ⟨fun _ => rfl, fun l i => ?_, fun l i a0 a1 a2 => ?_, fun l a0 a1 a2 => ?_, fun n => ?_⟩
  · unfold gR rd_laAct elaAct
    rw [List.getD_eq_getElem?_getD, List.getElem?_map, List.getD_eq_getElem?_getD]
    cases l[i.toNat]? <;> rfl
  · unfold sR; rw [List.map_set]; rfl
  · rw [List.map_append]; rfl
  · rw [List.map_replicate]; rfl
theorem Wt : ty 3 = some ⟨false, 1, 8, [.int .i64 0], [], 0⟩ ∧ ty 4 = some ⟨false, 1, 1, [.bool false], [], 0⟩ ∧ ty 5 = some ⟨false, 1, 1, [.int .u8 0], [], 0⟩ ∧ ty 23 = some ⟨true, 2, 16, [.int .i64 0, .int .i64 0], [0, 1], 0⟩ ∧ ty 25 = some ⟨true, 3, 24, [.int .i64 0, .int .i64 0, .int .i64 0], [0, 2], 0⟩ ∧ ty 26 = some ⟨false, 1, 24, [.slice none 0 0], [], 3⟩ ∧ ty 28 = some ⟨true, 5, 56, [.int .i64 0, .int .i64 0, .int .i64 0, .slice none 0 0, .int .i64 0], [0, 3, 4], 0⟩ ∧ ty 30 = some ⟨true, 8, 96, [.int .i64 0, .int .i64 0, .int .i64 0, .slice none 0 0, .int .i64 0, .int .i64 0, .slice none 0 0, .int .i64 0], [0, 5, 6, 7], 0⟩ ∧ ty 32 = some ⟨true, 2, 16, [.int .i64 0, .int .i64 0], [0, 1], 0⟩ ∧ ty 34 = some ⟨true, 3, 24, [.int .i64 0, .int .i64 0, .int .i64 0], [0, 2], 0⟩ ∧ ty 36 = some ⟨true, 5, 56, [.int .i64 0, .int .i64 0, .int .i64 0, .slice none 0 0, .int .i64 0], [0, 3, 4], 0⟩ ∧ ty 38 = some ⟨true, 8, 96, [.int .i64 0, .int .i64 0, .int .i64 0, .slice none 0 0, .int .i64 0, .int .i64 0, .slice none 0 0, .int .i64 0], [0, 5, 6, 7], 0⟩ ∧ ty 50 = some ⟨true, 3, 24, [.int .i64 0, .int .i64 0, .int .i64 0], [0, 1, 2], 0⟩ ∧ ty 53 = some ⟨true, 3, 24, [.int .i64 0, .int .i64 0, .int .i64 0], [0, 1, 2], 0⟩ ∧ ty 56 = some ⟨false, 1, 24, [.slice none 0 0], [], 50⟩ ∧ ty 60 = some ⟨false, 1, 24, [.slice none 0 0], [], 53⟩ ∧ ty 70 = some ⟨false, 1, 24, [.slice none 0 0], [], 5⟩ ∧ ty 127 = some ⟨true, 3, 40, [.slice none 0 0, .int .i64 0, .int .i64 0], [0, 1, 2], 0⟩ ∧ ty 141 = some ⟨false, 1, 8, [.int .u64 0], [], 0⟩ ∧ ty 0 = none ∧ ty 20 = none ∧ ty 39 = none ∧ ty 51 = none ∧ ty 58 = none ∧ ty 79 = none ∧ ty 89 = none ∧ ty 92 = none ∧ ty 102 = none ∧ ty 115 = none ∧ ty 122 = none ∧ ty 142 = none := ⟨rfl, rfl, rfl, rfl, rfl, rfl, rfl, rfl, rfl, rfl, rfl, rfl, rfl, rfl, rfl, rfl, rfl, rfl, rfl, rfl, rfl, rfl, rfl, rfl, rfl, rfl, rfl, rfl, rfl, rfl, rfl⟩
theorem W : type_of% (And.intro W1 (And.intro W2 (And.intro (W3 Tryz.prog ty) (And.intro (W4 Tryz.prog ty) (And.intro (W5 ty) (And.intro W6 (And.intro W7 (And.intro W8 (And.intro W9 (And.intro W10 (And.intro @W11 (And.intro W12 (And.intro (W13 ty) (And.intro (W14 ty) (And.intro (W15 Tryz.prog ty) (And.intro bAnd (And.intro W0 (And.intro gR_eAct (And.intro gR_eI (And.intro gR_eU8 (And.intro gR_elaAct Wt))))))))))))))))))))) := (And.intro W1 (And.intro W2 (And.intro (W3 Tryz.prog ty) (And.intro (W4 Tryz.prog ty) (And.intro (W5 ty) (And.intro W6 (And.intro W7 (And.intro W8 (And.intro W9 (And.intro W10 (And.intro @W11 (And.intro W12 (And.intro (W13 ty) (And.intro (W14 ty) (And.intro (W15 Tryz.prog ty) (And.intro bAnd (And.intro W0 (And.intro gR_eAct (And.intro gR_eI (And.intro gR_eU8 (And.intro gR_elaAct Wt)))))))))))))))))))))
theorem E_eI : EncOk (Kd.int .i64) 1 eI := ⟨rfl, by decide, fun _ => rfl, fun x u hu => by
  simp only [eI, List.mem_cons, List.not_mem_nil, or_false] at hu
  subst hu; rfl, Iff.rfl, Iff.rfl⟩
end Go.Proofs.YtkindoepnganmaaGreat.F
end

section
namespace Go.Proofs.YtkindoepnganmaaGreat.F
open Go.RowKit Go.Proofs.YtkindoepnganmaaGreatW.PrintWords Go.Proofs.YtkindoepnganmaaGreatW.PrintLast Go.Proofs.YtkindoepnganmaaGreatW.PrintMore
theorem bkb {w0 W w' : World} {g : Nat} {o : Obj} (A : Aside0 (w0.heap[g]? = some o)) (hb : Below W.heap.size W w') (h : w0.heap[g]? = some o → W.heap[g]? = some o) : Aside0 (w'.heap[g]? = some o) := ⟨blk_below (h A.out) hb⟩
theorem nbl {w0 W : World} {g gb : Nat} {o : Obj} (A : Aside0 (w0.heap[g]? = some o)) (hg : gb = W.heap.size) (h : w0.heap[g]? = some o → W.heap[g]? = some o) : Aside0 (g ≠ gb) := ⟨by rw [hg]; exact Nat.ne_of_lt (blk_lt (h A.out))⟩
theorem nbs {a b : Nat} (h : Aside0 (a ≠ b)) : Aside0 (b ≠ a) := ⟨h.out.symm⟩
theorem cl1 {w : World} {g : Nat} {t : TypeId} {c0 : Value} (h : w.heap[g]? = some (.cells #[c0] t (0, 0))) : w.cell? ⟨g, 0, none⟩ = some c0 ∧ w.frozen? ⟨g, 0, none⟩ = false := ⟨(blk_cell h 0).trans rfl, blk_frozen h 0⟩
theorem cl2 {w : World} {g : Nat} {t : TypeId} {c0 c1 : Value} (h : w.heap[g]? = some (.cells #[c0, c1] t (0, 0))) : w.cell? ⟨g, 0, none⟩ = some c0 ∧ w.cell? ⟨g, 1, none⟩ = some c1 ∧ w.frozen? ⟨g, 0, none⟩ = false ∧ w.frozen? ⟨g, 1, none⟩ = false := ⟨(blk_cell h 0).trans rfl, (blk_cell h 1).trans rfl, blk_frozen h 0, blk_frozen h 1⟩
theorem cl3 {w : World} {g : Nat} {t : TypeId} {c0 c1 c2 : Value} (h : w.heap[g]? = some (.cells #[c0, c1, c2] t (0, 0))) : w.cell? ⟨g, 0, none⟩ = some c0 ∧ w.cell? ⟨g, 1, none⟩ = some c1 ∧ w.cell? ⟨g, 2, none⟩ = some c2 ∧ w.frozen? ⟨g, 0, none⟩ = false ∧ w.frozen? ⟨g, 1, none⟩ = false ∧ w.frozen? ⟨g, 2, none⟩ = false := ⟨(blk_cell h 0).trans rfl, (blk_cell h 1).trans rfl, (blk_cell h 2).trans rfl, blk_frozen h 0, blk_frozen h 1, blk_frozen h 2⟩
theorem cl4 {w : World} {g : Nat} {t : TypeId} {c0 c1 c2 c3 : Value} (h : w.heap[g]? = some (.cells #[c0, c1, c2, c3] t (0, 0))) : w.cell? ⟨g, 0, none⟩ = some c0 ∧ w.cell? ⟨g, 1, none⟩ = some c1 ∧ w.cell? ⟨g, 2, none⟩ = some c2 ∧ w.cell? ⟨g, 3, none⟩ = some c3 ∧ w.frozen? ⟨g, 0, none⟩ = false ∧ w.frozen? ⟨g, 1, none⟩ = false ∧ w.frozen? ⟨g, 2, none⟩ = false ∧ w.frozen? ⟨g, 3, none⟩ = false := ⟨(blk_cell h 0).trans rfl, (blk_cell h 1).trans rfl, (blk_cell h 2).trans rfl, (blk_cell h 3).trans rfl, blk_frozen h 0, blk_frozen h 1, blk_frozen h 2, blk_frozen h 3⟩
theorem cl5 {w : World} {g : Nat} {t : TypeId} {c0 c1 c2 c3 c4 : Value} (h : w.heap[g]? = some (.cells #[c0, c1, c2, c3, c4] t (0, 0))) : w.cell? ⟨g, 0, none⟩ = some c0 ∧ w.cell? ⟨g, 1, none⟩ = some c1 ∧ w.cell? ⟨g, 2, none⟩ = some c2 ∧ w.cell? ⟨g, 3, none⟩ = some c3 ∧ w.cell? ⟨g, 4, none⟩ = some c4 ∧ w.frozen? ⟨g, 0, none⟩ = false ∧ w.frozen? ⟨g, 1, none⟩ = false ∧ w.frozen? ⟨g, 2, none⟩ = false ∧ w.frozen? ⟨g, 3, none⟩ = false ∧ w.frozen? ⟨g, 4, none⟩ = false := ⟨(blk_cell h 0).trans rfl, (blk_cell h 1).trans rfl, (blk_cell h 2).trans rfl, (blk_cell h 3).trans rfl, (blk_cell h 4).trans rfl, blk_frozen h 0, blk_frozen h 1, blk_frozen h 2, blk_frozen h 3, blk_frozen h 4⟩
theorem cl6 {w : World} {g : Nat} {t : TypeId} {c0 c1 c2 c3 c4 c5 : Value} (h : w.heap[g]? = some (.cells #[c0, c1, c2, c3, c4, c5] t (0, 0))) : w.cell? ⟨g, 0, none⟩ = some c0 ∧ w.cell? ⟨g, 1, none⟩ = some c1 ∧ w.cell? ⟨g, 2, none⟩ = some c2 ∧ w.cell? ⟨g, 3, none⟩ = some c3 ∧ w.cell? ⟨g, 4, none⟩ = some c4 ∧ w.cell? ⟨g, 5, none⟩ = some c5 ∧ w.frozen? ⟨g, 0, none⟩ = false ∧ w.frozen? ⟨g, 1, none⟩ = false ∧ w.frozen? ⟨g, 2, none⟩ = false ∧ w.frozen? ⟨g, 3, none⟩ = false ∧ w.frozen? ⟨g, 4, none⟩ = false ∧ w.frozen? ⟨g, 5, none⟩ = false := ⟨(blk_cell h 0).trans rfl, (blk_cell h 1).trans rfl, (blk_cell h 2).trans rfl, (blk_cell h 3).trans rfl, (blk_cell h 4).trans rfl, (blk_cell h 5).trans rfl, blk_frozen h 0, blk_frozen h 1, blk_frozen h 2, blk_frozen h 3, blk_frozen h 4, blk_frozen h 5⟩
theorem cl7 {w : World} {g : Nat} {t : TypeId} {c0 c1 c2 c3 c4 c5 c6 : Value} (h : w.heap[g]? = some (.cells #[c0, c1, c2, c3, c4, c5, c6] t (0, 0))) : w.cell? ⟨g, 0, none⟩ = some c0 ∧ w.cell? ⟨g, 1, none⟩ = some c1 ∧ w.cell? ⟨g, 2, none⟩ = some c2 ∧ w.cell? ⟨g, 3, none⟩ = some c3 ∧ w.cell? ⟨g, 4, none⟩ = some c4 ∧ w.cell? ⟨g, 5, none⟩ = some c5 ∧ w.cell? ⟨g, 6, none⟩ = some c6 ∧ w.frozen? ⟨g, 0, none⟩ = false ∧ w.frozen? ⟨g, 1, none⟩ = false ∧ w.frozen? ⟨g, 2, none⟩ = false ∧ w.frozen? ⟨g, 3, none⟩ = false ∧ w.frozen? ⟨g, 4, none⟩ = false ∧ w.frozen? ⟨g, 5, none⟩ = false ∧ w.frozen? ⟨g, 6, none⟩ = false := ⟨(blk_cell h 0).trans rfl, (blk_cell h 1).trans rfl, (blk_cell h 2).trans rfl, (blk_cell h 3).trans rfl, (blk_cell h 4).trans rfl, (blk_cell h 5).trans rfl, (blk_cell h 6).trans rfl, blk_frozen h 0, blk_frozen h 1, blk_frozen h 2, blk_frozen h 3, blk_frozen h 4, blk_frozen h 5, blk_frozen h 6⟩
theorem cl8 {w : World} {g : Nat} {t : TypeId} {c0 c1 c2 c3 c4 c5 c6 c7 : Value} (h : w.heap[g]? = some (.cells #[c0, c1, c2, c3, c4, c5, c6, c7] t (0, 0))) : w.cell? ⟨g, 0, none⟩ = some c0 ∧ w.cell? ⟨g, 1, none⟩ = some c1 ∧ w.cell? ⟨g, 2, none⟩ = some c2 ∧ w.cell? ⟨g, 3, none⟩ = some c3 ∧ w.cell? ⟨g, 4, none⟩ = some c4 ∧ w.cell? ⟨g, 5, none⟩ = some c5 ∧ w.cell? ⟨g, 6, none⟩ = some c6 ∧ w.cell? ⟨g, 7, none⟩ = some c7 ∧ w.frozen? ⟨g, 0, none⟩ = false ∧ w.frozen? ⟨g, 1, none⟩ = false ∧ w.frozen? ⟨g, 2, none⟩ = false ∧ w.frozen? ⟨g, 3, none⟩ = false ∧ w.frozen? ⟨g, 4, none⟩ = false ∧ w.frozen? ⟨g, 5, none⟩ = false ∧ w.frozen? ⟨g, 6, none⟩ = false ∧ w.frozen? ⟨g, 7, none⟩ = false := ⟨(blk_cell h 0).trans rfl, (blk_cell h 1).trans rfl, (blk_cell h 2).trans rfl, (blk_cell h 3).trans rfl, (blk_cell h 4).trans rfl, (blk_cell h 5).trans rfl, (blk_cell h 6).trans rfl, (blk_cell h 7).trans rfl, blk_frozen h 0, blk_frozen h 1, blk_frozen h 2, blk_frozen h 3, blk_frozen h 4, blk_frozen h 5, blk_frozen h 6, blk_frozen h 7⟩
theorem cl9 {w : World} {g : Nat} {t : TypeId} {c0 c1 c2 c3 c4 c5 c6 c7 c8 : Value} (h : w.heap[g]? = some (.cells #[c0, c1, c2, c3, c4, c5, c6, c7, c8] t (0, 0))) : w.cell? ⟨g, 0, none⟩ = some c0 ∧ w.cell? ⟨g, 1, none⟩ = some c1 ∧ w.cell? ⟨g, 2, none⟩ = some c2 ∧ w.cell? ⟨g, 3, none⟩ = some c3 ∧ w.cell? ⟨g, 4, none⟩ = some c4 ∧ w.cell? ⟨g, 5, none⟩ = some c5 ∧ w.cell? ⟨g, 6, none⟩ = some c6 ∧ w.cell? ⟨g, 7, none⟩ = some c7 ∧ w.cell? ⟨g, 8, none⟩ = some c8 ∧ w.frozen? ⟨g, 0, none⟩ = false ∧ w.frozen? ⟨g, 1, none⟩ = false ∧ w.frozen? ⟨g, 2, none⟩ = false ∧ w.frozen? ⟨g, 3, none⟩ = false ∧ w.frozen? ⟨g, 4, none⟩ = false ∧ w.frozen? ⟨g, 5, none⟩ = false ∧ w.frozen? ⟨g, 6, none⟩ = false ∧ w.frozen? ⟨g, 7, none⟩ = false ∧ w.frozen? ⟨g, 8, none⟩ = false := ⟨(blk_cell h 0).trans rfl, (blk_cell h 1).trans rfl, (blk_cell h 2).trans rfl, (blk_cell h 3).trans rfl, (blk_cell h 4).trans rfl, (blk_cell h 5).trans rfl, (blk_cell h 6).trans rfl, (blk_cell h 7).trans rfl, (blk_cell h 8).trans rfl, blk_frozen h 0, blk_frozen h 1, blk_frozen h 2, blk_frozen h 3, blk_frozen h 4, blk_frozen h 5, blk_frozen h 6, blk_frozen h 7, blk_frozen h 8⟩
theorem cl10 {w : World} {g : Nat} {t : TypeId} {c0 c1 c2 c3 c4 c5 c6 c7 c8 c9 : Value} (h : w.heap[g]? = some (.cells #[c0, c1, c2, c3, c4, c5, c6, c7, c8, c9] t (0, 0))) : w.cell? ⟨g, 0, none⟩ = some c0 ∧ w.cell? ⟨g, 1, none⟩ = some c1 ∧ w.cell? ⟨g, 2, none⟩ = some c2 ∧ w.cell? ⟨g, 3, none⟩ = some c3 ∧ w.cell? ⟨g, 4, none⟩ = some c4 ∧ w.cell? ⟨g, 5, none⟩ = some c5 ∧ w.cell? ⟨g, 6, none⟩ = some c6 ∧ w.cell? ⟨g, 7, none⟩ = some c7 ∧ w.cell? ⟨g, 8, none⟩ = some c8 ∧ w.cell? ⟨g, 9, none⟩ = some c9 ∧ w.frozen? ⟨g, 0, none⟩ = false ∧ w.frozen? ⟨g, 1, none⟩ = false ∧ w.frozen? ⟨g, 2, none⟩ = false ∧ w.frozen? ⟨g, 3, none⟩ = false ∧ w.frozen? ⟨g, 4, none⟩ = false ∧ w.frozen? ⟨g, 5, none⟩ = false ∧ w.frozen? ⟨g, 6, none⟩ = false ∧ w.frozen? ⟨g, 7, none⟩ = false ∧ w.frozen? ⟨g, 8, none⟩ = false ∧ w.frozen? ⟨g, 9, none⟩ = false := ⟨(blk_cell h 0).trans rfl, (blk_cell h 1).trans rfl, (blk_cell h 2).trans rfl, (blk_cell h 3).trans rfl, (blk_cell h 4).trans rfl, (blk_cell h 5).trans rfl, (blk_cell h 6).trans rfl, (blk_cell h 7).trans rfl, (blk_cell h 8).trans rfl, (blk_cell h 9).trans rfl, blk_frozen h 0, blk_frozen h 1, blk_frozen h 2, blk_frozen h 3, blk_frozen h 4, blk_frozen h 5, blk_frozen h 6, blk_frozen h 7, blk_frozen h 8, blk_frozen h 9⟩
theorem cl11 {w : World} {g : Nat} {t : TypeId} {c0 c1 c2 c3 c4 c5 c6 c7 c8 c9 c10 : Value} (h : w.heap[g]? = some (.cells #[c0, c1, c2, c3, c4, c5, c6, c7, c8, c9, c10] t (0, 0))) : w.cell? ⟨g, 0, none⟩ = some c0 ∧ w.cell? ⟨g, 1, none⟩ = some c1 ∧ w.cell? ⟨g, 2, none⟩ = some c2 ∧ w.cell? ⟨g, 3, none⟩ = some c3 ∧ w.cell? ⟨g, 4, none⟩ = some c4 ∧ w.cell? ⟨g, 5, none⟩ = some c5 ∧ w.cell? ⟨g, 6, none⟩ = some c6 ∧ w.cell? ⟨g, 7, none⟩ = some c7 ∧ w.cell? ⟨g, 8, none⟩ = some c8 ∧ w.cell? ⟨g, 9, none⟩ = some c9 ∧ w.cell? ⟨g, 10, none⟩ = some c10 ∧ w.frozen? ⟨g, 0, none⟩ = false ∧ w.frozen? ⟨g, 1, none⟩ = false ∧ w.frozen? ⟨g, 2, none⟩ = false ∧ w.frozen? ⟨g, 3, none⟩ = false ∧ w.frozen? ⟨g, 4, none⟩ = false ∧ w.frozen? ⟨g, 5, none⟩ = false ∧ w.frozen? ⟨g, 6, none⟩ = false ∧ w.frozen? ⟨g, 7, none⟩ = false ∧ w.frozen? ⟨g, 8, none⟩ = false ∧ w.frozen? ⟨g, 9, none⟩ = false ∧ w.frozen? ⟨g, 10, none⟩ = false := ⟨(blk_cell h 0).trans rfl, (blk_cell h 1).trans rfl, (blk_cell h 2).trans rfl, (blk_cell h 3).trans rfl, (blk_cell h 4).trans rfl, (blk_cell h 5).trans rfl, (blk_cell h 6).trans rfl, (blk_cell h 7).trans rfl, (blk_cell h 8).trans rfl, (blk_cell h 9).trans rfl, (blk_cell h 10).trans rfl, blk_frozen h 0, blk_frozen h 1, blk_frozen h 2, blk_frozen h 3, blk_frozen h 4, blk_frozen h 5, blk_frozen h 6, blk_frozen h 7, blk_frozen h 8, blk_frozen h 9, blk_frozen h 10⟩
theorem cl12 {w : World} {g : Nat} {t : TypeId} {c0 c1 c2 c3 c4 c5 c6 c7 c8 c9 c10 c11 : Value} (h : w.heap[g]? = some (.cells #[c0, c1, c2, c3, c4, c5, c6, c7, c8, c9, c10, c11] t (0, 0))) : w.cell? ⟨g, 0, none⟩ = some c0 ∧ w.cell? ⟨g, 1, none⟩ = some c1 ∧ w.cell? ⟨g, 2, none⟩ = some c2 ∧ w.cell? ⟨g, 3, none⟩ = some c3 ∧ w.cell? ⟨g, 4, none⟩ = some c4 ∧ w.cell? ⟨g, 5, none⟩ = some c5 ∧ w.cell? ⟨g, 6, none⟩ = some c6 ∧ w.cell? ⟨g, 7, none⟩ = some c7 ∧ w.cell? ⟨g, 8, none⟩ = some c8 ∧ w.cell? ⟨g, 9, none⟩ = some c9 ∧ w.cell? ⟨g, 10, none⟩ = some c10 ∧ w.cell? ⟨g, 11, none⟩ = some c11 ∧ w.frozen? ⟨g, 0, none⟩ = false ∧ w.frozen? ⟨g, 1, none⟩ = false ∧ w.frozen? ⟨g, 2, none⟩ = false ∧ w.frozen? ⟨g, 3, none⟩ = false ∧ w.frozen? ⟨g, 4, none⟩ = false ∧ w.frozen? ⟨g, 5, none⟩ = false ∧ w.frozen? ⟨g, 6, none⟩ = false ∧ w.frozen? ⟨g, 7, none⟩ = false ∧ w.frozen? ⟨g, 8, none⟩ = false ∧ w.frozen? ⟨g, 9, none⟩ = false ∧ w.frozen? ⟨g, 10, none⟩ = false ∧ w.frozen? ⟨g, 11, none⟩ = false := ⟨(blk_cell h 0).trans rfl, (blk_cell h 1).trans rfl, (blk_cell h 2).trans rfl, (blk_cell h 3).trans rfl, (blk_cell h 4).trans rfl, (blk_cell h 5).trans rfl, (blk_cell h 6).trans rfl, (blk_cell h 7).trans rfl, (blk_cell h 8).trans rfl, (blk_cell h 9).trans rfl, (blk_cell h 10).trans rfl, (blk_cell h 11).trans rfl, blk_frozen h 0, blk_frozen h 1, blk_frozen h 2, blk_frozen h 3, blk_frozen h 4, blk_frozen h 5, blk_frozen h 6, blk_frozen h 7, blk_frozen h 8, blk_frozen h 9, blk_frozen h 10, blk_frozen h 11⟩
theorem sTA {α : Type} (l : List α) (i : Nat) (a : α) : l.toArray.setIfInBounds i a = (l.set i a).toArray := List.setIfInBounds_toArray l i a
theorem sZ {α : Type} {x : α} {xs : List α} {a : α} : (x :: xs).set 0 a = a :: xs := List.set_cons_zero
theorem sS {α : Type} {x : α} {xs : List α} {i : Nat} {a : α} : (x :: xs).set (i + 1) a = x :: xs.set i a := List.set_cons_succ
theorem aK {p : Prop} (h : p) : Aside0 p := ⟨h⟩
theorem bDN {B : Nat} {w W : World} (h : Below B w W) (n : Nat) : Below B w (W.drewN n) := pw_below_drewN h n
theorem bD1 {base : Nat} {w W : World} (h : Below base w W) : Below base w W.drew := below_drew1 h
theorem bAl {w W : World} (h : Below w.heap.size w W) (o : Obj) : Below w.heap.size w (W.alloc o) := below_alloc h o
theorem bSt {w W : World} {g j : Nat} {v : Value} (h : Below w.heap.size w W) (hg : w.heap.size ≤ g) : Below w.heap.size w (W.setCell ⟨g, j, none⟩ v) := below_set h hg
theorem bSz {w W : World} (h : Below w.heap.size w W) : w.heap.size ≤ W.heap.size := below_size h
theorem bSp {w W w2 : World} (h : Below w.heap.size w W) (k : Below W.heap.size W w2) : Below w.heap.size w w2 := below_step h k
theorem kC {w : World} {g : Nat} {t : TypeId} {cs : Array Value} (h : w.heap[g]? = some (.cells cs t (0, 0))) (i : Nat) : w.cell? ⟨g, i, none⟩ = cs[i]? := blk_cell h i
theorem kF {w : World} {g : Nat} {t : TypeId} {cs : Array Value} (h : w.heap[g]? = some (.cells cs t (0, 0))) (i : Nat) : w.frozen? ⟨g, i, none⟩ = false := blk_frozen h i
theorem kA {w : World} {g : Nat} {o : Obj} (h : w.heap[g]? = some o) (o' : Obj) : (w.alloc o').heap[g]? = some o := blk_alloc h o'
theorem kDN {w : World} {g : Nat} {o : Obj} (h : w.heap[g]? = some o) (n : Nat) : (w.drewN n).heap[g]? = some o := blk_drewN h n
theorem kD {w : World} {g : Nat} {o : Obj} (h : w.heap[g]? = some o) : w.drew.heap[g]? = some o := blk_drew h
theorem zN {w0 W : World} {g gb : Nat} {o : Obj} (A : Aside0 (w0.heap[g]? = some o)) (hg : gb = W.heap.size) (h : w0.heap[g]? = some o → W.heap[g]? = some o := by intro z_; (with_reducible repeat (first | refine kDN ?_ _ | refine kD ?_ | refine kA ?_ _)); exact z_) : Aside0 (g ≠ gb) := ⟨by rw [hg]; exact Nat.ne_of_lt (blk_lt (h A.out))⟩
theorem zQ {w : World} {g : Nat} {t : TypeId} {cs : Array Value} {v : Value} (h : Aside0 (w.heap[g]? = some (.cells cs t (0, 0)))) (i : Nat) (e : cs[i]? = some v := by rfl) : w.cell? ⟨g, i, none⟩ = some v := (blk_cell h.out i).trans e
theorem zK {A B : Prop} (h : Aside0 A) (f : A → B := by intro z_; (with_reducible repeat (first | refine kDN ?_ _ | refine kD ?_ | refine kA ?_ _)); exact z_) : B := f h.out
theorem zA {A B : Prop} (h : Aside0 A) (f : A → B := by intro z_; (with_reducible repeat (first | apply Kd.R_alloc | apply Kd.R_drewN | apply Kd.R_drew)); exact z_) : B := f h.out
theorem zB {w0 W w' : World} {g : Nat} {o : Obj} (A : Aside0 (w0.heap[g]? = some o)) (hb : Below W.heap.size W w') (h : w0.heap[g]? = some o → W.heap[g]? = some o := by intro z_; (with_reducible repeat (first | refine kDN ?_ _ | refine kD ?_ | refine kA ?_ _)); exact z_) : Aside0 (w'.heap[g]? = some o) := ⟨blk_below (h A.out) hb⟩
theorem zC {A B : Prop} (h : A) (f : A → B := by intro z_; repeat (first | exact z_ | (with_reducible refine Kd.C_alloc ?_ _) | (with_reducible refine Kd.C_drewN ?_ _) | (with_reducible refine Kd.C_drew ?_))) : B := f h
theorem zD {A : Prop} (f : A := by (try simp only [List.map_toArray, List.map_cons, List.map_nil]); first | done | rfl | (simp only [List.length_drop, List.length_take]; rfl)) : A := f
theorem zH0 {A B : Prop} (h : Aside0 A) (f : A → B := by intro z_; repeat (first | (with_reducible first | exact z_ | apply bAl | apply bDN | apply bD1) | exact z_)) : B := f h.out
theorem zH1 {A B C0 : Prop} (h : Aside0 A) (g0 : Aside0 C0) (f : A → C0 → B := by intro z_ y0_; repeat (first | (with_reducible first | exact z_ | apply bAl | apply bDN | apply bD1 | refine bSt ?_ y0_) | exact z_)) : B := f h.out g0.out
theorem zH2 {A B C0 C1 : Prop} (h : Aside0 A) (g0 : Aside0 C0) (g1 : Aside0 C1) (f : A → C0 → C1 → B := by intro z_ y0_ y1_; repeat (first | (with_reducible first | exact z_ | apply bAl | apply bDN | apply bD1 | refine bSt ?_ y0_ | refine bSt ?_ y1_) | exact z_)) : B := f h.out g0.out g1.out
theorem zH3 {A B C0 C1 C2 : Prop} (h : Aside0 A) (g0 : Aside0 C0) (g1 : Aside0 C1) (g2 : Aside0 C2) (f : A → C0 → C1 → C2 → B := by intro z_ y0_ y1_ y2_; repeat (first | (with_reducible first | exact z_ | apply bAl | apply bDN | apply bD1 | refine bSt ?_ y0_ | refine bSt ?_ y1_ | refine bSt ?_ y2_) | exact z_)) : B := f h.out g0.out g1.out g2.out
theorem zH4 {A B C0 C1 C2 C3 : Prop} (h : Aside0 A) (g0 : Aside0 C0) (g1 : Aside0 C1) (g2 : Aside0 C2) (g3 : Aside0 C3) (f : A → C0 → C1 → C2 → C3 → B := by intro z_ y0_ y1_ y2_ y3_; repeat (first | (with_reducible first | exact z_ | apply bAl | apply bDN | apply bD1 | refine bSt ?_ y0_ | refine bSt ?_ y1_ | refine bSt ?_ y2_ | refine bSt ?_ y3_) | exact z_)) : B := f h.out g0.out g1.out g2.out g3.out
theorem zH5 {A B C0 C1 C2 C3 C4 : Prop} (h : Aside0 A) (g0 : Aside0 C0) (g1 : Aside0 C1) (g2 : Aside0 C2) (g3 : Aside0 C3) (g4 : Aside0 C4) (f : A → C0 → C1 → C2 → C3 → C4 → B := by intro z_ y0_ y1_ y2_ y3_ y4_; repeat (first | (with_reducible first | exact z_ | apply bAl | apply bDN | apply bD1 | refine bSt ?_ y0_ | refine bSt ?_ y1_ | refine bSt ?_ y2_ | refine bSt ?_ y3_ | refine bSt ?_ y4_) | exact z_)) : B := f h.out g0.out g1.out g2.out g3.out g4.out
theorem zR8 {α : Type} {d : Kd α} {e t : TypeId} {w : World} {base g : Nat} {ok : Nat → Prop} {v : Value} {xs : List α} {cs : Array Value} {v0 v1 v2 v3 v4 v5 v6 v7 : Value} (h : d.R e w base ok v xs) (hb : w.heap[g]? = some (.cells cs t (0, 0))) (ht : ∀ q, q ∈ e :: d.E → q ≠ t) : d.R e ((((((((w.setCell ⟨g, 0, none⟩ v0).setCell ⟨g, 1, none⟩ v1).setCell ⟨g, 2, none⟩ v2).setCell ⟨g, 3, none⟩ v3).setCell ⟨g, 4, none⟩ v4).setCell ⟨g, 5, none⟩ v5).setCell ⟨g, 6, none⟩ v6).setCell ⟨g, 7, none⟩ v7) base ok v xs := Kd.R_mono (Kd.R_far (p := ⟨g, 7, none⟩) (Kd.R_far (p := ⟨g, 6, none⟩) (Kd.R_far (p := ⟨g, 5, none⟩) (Kd.R_far (p := ⟨g, 4, none⟩) (Kd.R_far (p := ⟨g, 3, none⟩) (Kd.R_far (p := ⟨g, 2, none⟩) (Kd.R_far (p := ⟨g, 1, none⟩) (Kd.R_far (p := ⟨g, 0, none⟩) (Kd.R_types h hb ht) (fun _ hk => hk.2) v0) (fun _ hk => hk.2) v1) (fun _ hk => hk.2) v2) (fun _ hk => hk.2) v3) (fun _ hk => hk.2) v4) (fun _ hk => hk.2) v5) (fun _ hk => hk.2) v6) (fun _ hk => hk.2) v7) (fun _ h_ => h_.1)
theorem zF8 {A B C : Prop} (h : Aside0 A) (y : Aside0 B) (f : A → B → C := by intro z_ y_; (with_reducible repeat (first | apply Kd.R_alloc | apply Kd.R_drewN | apply Kd.R_drew)); exact zR8 z_ y_ (by decide)) : C := f h.out y.out
theorem zG8 {B : Prop} {w0 W w' : World} {g : Nat} {o : Obj} (A : Aside0 (w0.heap[g]? = some o)) (N : Aside0 B) (hb : Below W.heap.size W w') (h : B → w0.heap[g]? = some o → W.heap[g]? = some o := by intro y_ z_; (with_reducible repeat (first | refine kDN ?_ _ | refine kD ?_ | refine kA ?_ _)); refine blk_far ?_ y_ _; (with_reducible repeat (first | refine kDN ?_ _ | refine kD ?_ | refine kA ?_ _)); refine blk_far ?_ y_ _; (with_reducible repeat (first | refine kDN ?_ _ | refine kD ?_ | refine kA ?_ _)); refine blk_far ?_ y_ _; (with_reducible repeat (first | refine kDN ?_ _ | refine kD ?_ | refine kA ?_ _)); refine blk_far ?_ y_ _; (with_reducible repeat (first | refine kDN ?_ _ | refine kD ?_ | refine kA ?_ _)); refine blk_far ?_ y_ _; (with_reducible repeat (first | refine kDN ?_ _ | refine kD ?_ | refine kA ?_ _)); refine blk_far ?_ y_ _; (with_reducible repeat (first | refine kDN ?_ _ | refine kD ?_ | refine kA ?_ _)); refine blk_far ?_ y_ _; (with_reducible repeat (first | refine kDN ?_ _ | refine kD ?_ | refine kA ?_ _)); refine blk_far ?_ y_ _; (with_reducible repeat (first | refine kDN ?_ _ | refine kD ?_ | refine kA ?_ _)); exact z_) : Aside0 (w'.heap[g]? = some o) := ⟨blk_below (h N.out A.out) hb⟩
theorem zT5 {α : Type} {d : Kd α} {e t : TypeId} {w : World} {base g : Nat} {ok : Nat → Prop} {v : Value} {xs : List α} {cs : Array Value} (h : Aside0 (d.R e w base ok v xs)) (hb : Aside0 (w.heap[g]? = some (.cells cs t (0, 0)))) (v0 v1 v2 v3 v4 : Value) (ht : ∀ q, q ∈ e :: d.E → q ≠ t := by decide) : d.R e (((((w.setCell ⟨g, 0, none⟩ v0).setCell ⟨g, 1, none⟩ v1).setCell ⟨g, 2, none⟩ v2).setCell ⟨g, 3, none⟩ v3).setCell ⟨g, 4, none⟩ v4) base (fun k => ok k ∧ k ≠ g) v xs := (Kd.R_far (p := ⟨g, 4, none⟩) (Kd.R_far (p := ⟨g, 3, none⟩) (Kd.R_far (p := ⟨g, 2, none⟩) (Kd.R_far (p := ⟨g, 1, none⟩) (Kd.R_far (p := ⟨g, 0, none⟩) (Kd.R_types h.out hb.out ht) (fun _ hk => hk.2) v0) (fun _ hk => hk.2) v1) (fun _ hk => hk.2) v2) (fun _ hk => hk.2) v3) (fun _ hk => hk.2) v4)
theorem zT8 {α : Type} {d : Kd α} {e t : TypeId} {w : World} {base g : Nat} {ok : Nat → Prop} {v : Value} {xs : List α} {cs : Array Value} (h : Aside0 (d.R e w base ok v xs)) (hb : Aside0 (w.heap[g]? = some (.cells cs t (0, 0)))) (v0 v1 v2 v3 v4 v5 v6 v7 : Value) (ht : ∀ q, q ∈ e :: d.E → q ≠ t := by decide) : d.R e ((((((((w.setCell ⟨g, 0, none⟩ v0).setCell ⟨g, 1, none⟩ v1).setCell ⟨g, 2, none⟩ v2).setCell ⟨g, 3, none⟩ v3).setCell ⟨g, 4, none⟩ v4).setCell ⟨g, 5, none⟩ v5).setCell ⟨g, 6, none⟩ v6).setCell ⟨g, 7, none⟩ v7) base (fun k => ok k ∧ k ≠ g) v xs := (Kd.R_far (p := ⟨g, 7, none⟩) (Kd.R_far (p := ⟨g, 6, none⟩) (Kd.R_far (p := ⟨g, 5, none⟩) (Kd.R_far (p := ⟨g, 4, none⟩) (Kd.R_far (p := ⟨g, 3, none⟩) (Kd.R_far (p := ⟨g, 2, none⟩) (Kd.R_far (p := ⟨g, 1, none⟩) (Kd.R_far (p := ⟨g, 0, none⟩) (Kd.R_types h.out hb.out ht) (fun _ hk => hk.2) v0) (fun _ hk => hk.2) v1) (fun _ hk => hk.2) v2) (fun _ hk => hk.2) v3) (fun _ hk => hk.2) v4) (fun _ hk => hk.2) v5) (fun _ hk => hk.2) v6) (fun _ hk => hk.2) v7)

end Go.Proofs.YtkindoepnganmaaGreat.F
end

section
namespace Go.Proofs.YtkindoepnganmaaGreat.F
open Go.RowKit Go.Proofs.YtkindoepnganmaaGreatW.PrintWords Go.Proofs.YtkindoepnganmaaGreatW.PrintLast Go.Proofs.YtkindoepnganmaaGreatW.PrintMore
set_option linter.unusedVariables false
set_option linter.unusedSimpArgs false
attribute [local go_sem] max2_int min2_int max_two min_two
set_option maxRecDepth 20000 in set_option maxHeartbeats 4000000 in open Nat renaming reduceAdd → p1, reduceSub → p2, reduceMul → p3, reduceDiv → p4, reduceBNe → p5, reduceBEq → p6, reduceEqDiff → p7, reduceLeDiff → p8, reduceLT → p9 in open Int renaming reduceLE → p10, reduceLT → p11, reduceEq → p12 in
theorem spec_l01In.ctr {a0 : Int} {a1 : Int} {a2 : Int} {r : Bool} (h : spec_l01In.f a0 a1 a2 = some r) : Ctr Tryz.prog 73 [.v (.int .i64 a0), .v (.int .i64 a1), .v (.int .i64 a2)] (.v (.bool r)) := by
  refine Ctr_of tyOk hm Tryz.func73 rfl rfl (by kernel_rfl) (n := 12) (rv := [.tmp 6]) rfl rfl ?_
  simp only [W, List.replicate]
  unfold spec_l01In.f at h
  replace h := ifS h; rcases h with ⟨c1, h⟩ | ⟨c1, h⟩
  · cases h
    try simp only [W, c1, p1, p2, p3, p4, p5, p6, p7, p8, p9, p10, p11, p12]
  · cases h
    try simp only [W, c1, p1, p2, p3, p4, p5, p6, p7, p8, p9, p10, p11, p12]
set_option maxRecDepth 20000 in set_option maxHeartbeats 4000000 in open Nat renaming reduceAdd → p1, reduceSub → p2, reduceMul → p3, reduceDiv → p4, reduceBNe → p5, reduceBEq → p6, reduceEqDiff → p7, reduceLeDiff → p8, reduceLT → p9 in open Int renaming reduceLE → p10, reduceLT → p11, reduceEq → p12 in
theorem spec_GridOk.ctr {a0_0 : Int} {a0_1 : Int} {r : Bool} (h : spec_GridOk.f a0_0 a0_1 = some r) : Ctr Tryz.prog 155 [.ag [.v (.int .i64 a0_0), .v (.int .i64 a0_1)]] (.v (.bool r)) := by
  refine Ctr_of tyOk hm Tryz.func155 rfl rfl (by kernel_rfl) (n := 10) (rv := [.tmp 2]) rfl rfl ?_
  simp only [W, List.replicate]
  unfold spec_GridOk.f at h
  replace h := bnd h; obtain ⟨t1, A, h⟩ := h
  try simp only [W, p1, p2, p3, p4, p5, p6, p7, p8, p9, p10, p11, p12]
  refine callR (spec_l01In.ctr A) ?_
  replace h := ifT h; rcases h with ⟨rfl, h⟩ | ⟨rfl, h⟩
  · replace h := bnd h; obtain ⟨t3, A, h⟩ := h
    try simp only [W, p1, p2, p3, p4, p5, p6, p7, p8, p9, p10, p11, p12]
    refine callR (spec_l01In.ctr A) ?_
    cases h
    try simp only [W, p1, p2, p3, p4, p5, p6, p7, p8, p9, p10, p11, p12]
  · cases h
    try simp only [W, p1, p2, p3, p4, p5, p6, p7, p8, p9, p10, p11, p12]
set_option maxRecDepth 20000 in set_option maxHeartbeats 4000000 in open Nat renaming reduceAdd → p1, reduceSub → p2, reduceMul → p3, reduceDiv → p4, reduceBNe → p5, reduceBEq → p6, reduceEqDiff → p7, reduceLeDiff → p8, reduceLT → p9 in open Int renaming reduceLE → p10, reduceLT → p11, reduceEq → p12 in
theorem spec_l02East.ctr {a0_0 : Int} {a0_1 : Int} {r : Int} (h : spec_l02East.f a0_0 a0_1 = some r) : Ctr Tryz.prog 162 [.ag [.v (.int .i64 a0_0), .v (.int .i64 a0_1)]] (.v (.int .i64 r)) := by
  refine Ctr_of tyOk hm Tryz.func162 rfl rfl (by kernel_rfl) (n := 8) (rv := [.tmp 2]) rfl rfl ?_
  simp only [W, List.replicate]
  unfold spec_l02East.f at h
  cases h
  try simp only [W, p1, p2, p3, p4, p5, p6, p7, p8, p9, p10, p11, p12]
set_option maxRecDepth 20000 in set_option maxHeartbeats 4000000 in open Nat renaming reduceAdd → p1, reduceSub → p2, reduceMul → p3, reduceDiv → p4, reduceBNe → p5, reduceBEq → p6, reduceEqDiff → p7, reduceLeDiff → p8, reduceLT → p9 in open Int renaming reduceLE → p10, reduceLT → p11, reduceEq → p12 in
theorem spec_CountGaps.ctr {a0_0 : Int} {a0_1 : Int} {r : Int} (h : spec_CountGaps.f a0_0 a0_1 = some r) : Ctr Tryz.prog 145 [.ag [.v (.int .i64 a0_0), .v (.int .i64 a0_1)]] (.v (.int .i64 r)) := by
  refine Ctr_of tyOk hm Tryz.func145 rfl rfl (by kernel_rfl) (n := 14) (rv := [.tmp 2]) rfl rfl ?_
  simp only [W, List.replicate]
  unfold spec_CountGaps.f at h
  replace h := bnd h; obtain ⟨t1, A, h⟩ := h
  try simp only [W, p1, p2, p3, p4, p5, p6, p7, p8, p9, p10, p11, p12]
  refine callR (spec_GridOk.ctr A) ?_
  replace h := ifT h; rcases h with ⟨rfl, h⟩ | ⟨rfl, h⟩
  · replace h := bnd h; obtain ⟨t3, A, h⟩ := h
    try simp only [W, p1, p2, p3, p4, p5, p6, p7, p8, p9, p10, p11, p12]
    refine callR (spec_l02East.ctr A) ?_
    cases h
    try simp only [W, p1, p2, p3, p4, p5, p6, p7, p8, p9, p10, p11, p12]
  · cases h
    try simp only [W, p1, p2, p3, p4, p5, p6, p7, p8, p9, p10, p11, p12]
set_option maxRecDepth 20000 in set_option maxHeartbeats 4000000 in open Nat renaming reduceAdd → p1, reduceSub → p2, reduceMul → p3, reduceDiv → p4, reduceBNe → p5, reduceBEq → p6, reduceEqDiff → p7, reduceLeDiff → p8, reduceLT → p9 in open Int renaming reduceLE → p10, reduceLT → p11, reduceEq → p12 in
theorem spec_MazeOk.ctr {a0_0 : Int} {a0_1 : Int} {a0_2 : Int} {r : Bool} (h : spec_MazeOk.f a0_0 a0_1 a0_2 = some r) : Ctr Tryz.prog 144 [.ag [.v (.int .i64 a0_0), .v (.int .i64 a0_1), .v (.int .i64 a0_2)]] (.v (.bool r)) := by
  refine Ctr_of tyOk hm Tryz.func144 rfl rfl (by kernel_rfl) (n := 15) (rv := [.tmp 2]) rfl rfl ?_
  simp only [W, List.replicate]
  unfold spec_MazeOk.f at h
  replace h := bnd h; obtain ⟨t1, A, h⟩ := h
  try simp only [W, p1, p2, p3, p4, p5, p6, p7, p8, p9, p10, p11, p12]
  refine callR (spec_GridOk.ctr A) ?_
  replace h := ifT h; rcases h with ⟨rfl, h⟩ | ⟨rfl, h⟩
  · replace h := bnd h; obtain ⟨t3, A, h⟩ := h
    try simp only [W, p1, p2, p3, p4, p5, p6, p7, p8, p9, p10, p11, p12]
    refine callR (spec_CountGaps.ctr A) ?_
    replace h := ifN h; obtain ⟨c4, h⟩ := h
    replace h := bnd h; obtain ⟨t5, A, h⟩ := h
    try simp only [W, c4, p1, p2, p3, p4, p5, p6, p7, p8, p9, p10, p11, p12]
    refine callR (spec_l01In.ctr A) ?_
    cases h
    try simp only [W, c4, p1, p2, p3, p4, p5, p6, p7, p8, p9, p10, p11, p12]
  · cases h
    try simp only [W, p1, p2, p3, p4, p5, p6, p7, p8, p9, p10, p11, p12]
set_option maxRecDepth 20000 in set_option maxHeartbeats 4000000 in open Nat renaming reduceAdd → p1, reduceSub → p2, reduceMul → p3, reduceDiv → p4, reduceBNe → p5, reduceBEq → p6, reduceEqDiff → p7, reduceLeDiff → p8, reduceLT → p9 in open Int renaming reduceLE → p10, reduceLT → p11, reduceEq → p12 in
theorem spec_HedgeOk.ctr {k : Nat} {a0_0 : Int} {a0_1 : Int} {a0_2 : Int} {l0_3 : List Int} {a0_4 : Int} {r : Bool} (h : spec_HedgeOk.f k a0_0 a0_1 a0_2 l0_3 a0_4 = some r) : Ctr Tryz.prog 105 [.ag [.v (.int .i64 a0_0), .v (.int .i64 a0_1), .v (.int .i64 a0_2), .pr 1 (l0_3.map eI), .v (.int .i64 a0_4)]] (.v (.bool r)) := by
  refine Ctr_of tyOk hm Tryz.func105 rfl rfl (by kernel_rfl) (n := 35) (rv := [.tmp 2]) rfl rfl ?_
  simp only [W, List.replicate]
  unfold spec_HedgeOk.f at h
  try simp only [W, p1, p2, p3, p4, p5, p6, p7, p8, p9, p10, p11, p12]
  refine loopN (fun x : Int × Int × Int × Int × List Int × Int => [.u, .bp 16 0, .u, .v (.int .i64 x.1), .u, .u, .u, .u, .u, .u, .u, .u, .u, .u, .u, .u, .u, .u, .u, .u, .u, .u, .u, .u, .u, .u, .u, .u, .u, .u, .u, .u, .u, .u, .u, .u]) (fun x => [(16, .box 36 [.v (.int .i64 x.2.1), .v (.int .i64 x.2.2.1), .v (.int .i64 x.2.2.2.1), .pr 1 (List.map eI x.2.2.2.2.1), .v (.int .i64 x.2.2.2.2.2)])]) (fun n x => spec_HedgeOk.l0 n x.1 x.2.1 x.2.2.1 x.2.2.2.1 x.2.2.2.2.1 x.2.2.2.2.2 = some r) (0, a0_0, a0_1, a0_2, l0_3, a0_4) [] h (by simp only [W, p1, p2, p3, p4, p5, p6, p7, p8, p9, p10, p11, p12] <;> trivial) (by simp only [W, p1, p2, p3, p4, p5, p6, p7, p8, p9, p10, p11, p12] <;> trivial) rfl (fun _ h => by cases h) ?_
  intro n1 ⟨x1, x2, x3, x4, x5, x6⟩ _ h
  simp only [spec_HedgeOk.l0] at h
  replace h := ifS h; rcases h with ⟨c7, h⟩ | ⟨c7, h⟩
  · replace h := ifN h; obtain ⟨c8, h⟩ := h
    replace h := bnd h; obtain ⟨t9, A, h⟩ := h
    try simp only [W, c7, c8, p1, p2, p3, p4, p5, p6, p7, p8, p9, p10, p11, p12]
    refine callR (spec_l01In.ctr A) ?_
    replace h := ifT h; rcases h with ⟨rfl, h⟩ | ⟨rfl, h⟩
    · try simp only [W, c7, c8, p1, p2, p3, p4, p5, p6, p7, p8, p9, p10, p11, p12]
      exact nextN ((wrap64 (x1 + 1)), x2, x3, x4, x5, x6) [] n1 (by omega) h (by simp only [W, p1, p2, p3, p4, p5, p6, p7, p8, p9, p10, p11, p12] <;> trivial) (by simp only [W, p1, p2, p3, p4, p5, p6, p7, p8, p9, p10, p11, p12] <;> trivial) rfl
    · cases h
      try simp only [W, c7, c8, p1, p2, p3, p4, p5, p6, p7, p8, p9, p10, p11, p12]
  · replace h := bnd h; obtain ⟨t11, A, h⟩ := h
    try simp only [W, c7, p1, p2, p3, p4, p5, p6, p7, p8, p9, p10, p11, p12]
    refine callR (spec_MazeOk.ctr A) ?_
    replace h := ifT h; rcases h with ⟨rfl, h⟩ | ⟨rfl, h⟩
    · replace h := bnd h; obtain ⟨t13, A, h⟩ := h
      try simp only [W, c7, p1, p2, p3, p4, p5, p6, p7, p8, p9, p10, p11, p12]
      refine callR (spec_l01In.ctr A) ?_
      replace h := ifT h; rcases h with ⟨rfl, h⟩ | ⟨rfl, h⟩
      · replace h := bnd h; obtain ⟨t15, A, h⟩ := h
        try simp only [W, c7, p1, p2, p3, p4, p5, p6, p7, p8, p9, p10, p11, p12]
        refine callR (spec_CountGaps.ctr A) ?_
        cases h
        try simp only [W, c7, p1, p2, p3, p4, p5, p6, p7, p8, p9, p10, p11, p12]
      · cases h
        try simp only [W, c7, p1, p2, p3, p4, p5, p6, p7, p8, p9, p10, p11, p12]
    · cases h
      try simp only [W, c7, p1, p2, p3, p4, p5, p6, p7, p8, p9, p10, p11, p12]
set_option maxRecDepth 20000 in set_option maxHeartbeats 4000000 in open Nat renaming reduceAdd → p1, reduceSub → p2, reduceMul → p3, reduceDiv → p4, reduceBNe → p5, reduceBEq → p6, reduceEqDiff → p7, reduceLeDiff → p8, reduceLT → p9 in open Int renaming reduceLE → p10, reduceLT → p11, reduceEq → p12 in
theorem spec_l03Bit.ctr {a0 : Int} {a1 : Int} {r : Bool} (h : spec_l03Bit.f a0 a1 = some r) : Ctr Tryz.prog 120 [.v (.int .i64 a0), .v (.int .i64 a1)] (.v (.bool r)) := by
  refine Ctr_of tyOk hm Tryz.func120 rfl rfl (by kernel_rfl) (n := 8) (rv := [.tmp 4]) rfl rfl ?_
  simp only [W, List.replicate]
  unfold spec_l03Bit.f at h
  replace h := ifN h; obtain ⟨c1, h⟩ := h
  cases h
  try simp only [W, c1, p1, p2, p3, p4, p5, p6, p7, p8, p9, p10, p11, p12]
end Go.Proofs.YtkindoepnganmaaGreat.F
end

section
namespace Go.Proofs.YtkindoepnganmaaGreat.F
open Go.RowKit Go.Proofs.YtkindoepnganmaaGreatW.PrintWords Go.Proofs.YtkindoepnganmaaGreatW.PrintLast Go.Proofs.YtkindoepnganmaaGreatW.PrintMore
set_option linter.unusedVariables false
set_option linter.unusedSimpArgs false
attribute [local go_sem] max2_int min2_int max_two min_two
set_option maxRecDepth 20000 in set_option maxHeartbeats 4000000 in open Nat renaming reduceAdd → p1, reduceSub → p2, reduceMul → p3, reduceDiv → p4, reduceBNe → p5, reduceBEq → p6, reduceEqDiff → p7, reduceLeDiff → p8, reduceLT → p9 in open Int renaming reduceLE → p10, reduceLT → p11, reduceEq → p12 in
theorem spec_SetGap.ctr {k : Nat} {a0_0 : Int} {a0_1 : Int} {a0_2 : Int} {a1 : Int} {a2 : Bool} {r1 : Int} {r2 : Int} {r3 : Int} {r4 : Bool} (h : spec_SetGap.f k a0_0 a0_1 a0_2 a1 a2 = some (r1, r2, r3, r4)) : Ctr Tryz.prog 106 [.ag [.v (.int .i64 a0_0), .v (.int .i64 a0_1), .v (.int .i64 a0_2)], .v (.int .i64 a1), .v (.bool a2)] (.tu [.ag [.v (.int .i64 r1), .v (.int .i64 r2), .v (.int .i64 r3)], .v (.bool r4)]) := by
  refine Ctr_of tyOk hm Tryz.func106 rfl rfl (by kernel_rfl) (n := 31) (rv := [.cell 6 34, .tmp 7]) rfl rfl ?_
  simp only [W, List.replicate]
  unfold spec_SetGap.f at h
  replace h := bnd h; obtain ⟨t1, A, h⟩ := h
  try simp only [W, p1, p2, p3, p4, p5, p6, p7, p8, p9, p10, p11, p12]
  refine callR (spec_MazeOk.ctr A) ?_
  replace h := ifT h; rcases h with ⟨rfl, h⟩ | ⟨rfl, h⟩
  · replace h := bnd h; obtain ⟨t3, A, h⟩ := h
    try simp only [W, p1, p2, p3, p4, p5, p6, p7, p8, p9, p10, p11, p12]
    refine callR (spec_CountGaps.ctr A) ?_
    replace h := bnd h; obtain ⟨t4, A, h⟩ := h
    try simp only [W, p1, p2, p3, p4, p5, p6, p7, p8, p9, p10, p11, p12]
    refine callR (spec_l01In.ctr A) ?_
    rcases k with _ | m5; · cases h
    rw [spec_SetGap.j0] at h
    replace h := ifT h; rcases h with ⟨c6, h⟩ | ⟨c6, h⟩
    · cases h
      try simp only [W, c6, p1, p2, p3, p4, p5, p6, p7, p8, p9, p10, p11, p12]
    · replace h := bnd h; obtain ⟨t7, A, h⟩ := h
      try simp only [W, c6, p1, p2, p3, p4, p5, p6, p7, p8, p9, p10, p11, p12]
      refine callR (spec_l03Bit.ctr A) ?_
      replace h := ifT h; rcases h with ⟨c8, h⟩ | ⟨c8, h⟩
      · replace h := ifN h; obtain ⟨c9, h⟩ := h
        cases h
        try simp only [W, c6, c8, c9, p1, p2, p3, p4, p5, p6, p7, p8, p9, p10, p11, p12]
      · cases h
        try simp only [W, c6, c8, p1, p2, p3, p4, p5, p6, p7, p8, p9, p10, p11, p12]
  · rcases k with _ | m10; · cases h
    rw [spec_SetGap.j0] at h
    rw [if_pos rfl] at h
    cases h
    try simp only [W, p1, p2, p3, p4, p5, p6, p7, p8, p9, p10, p11, p12]
set_option maxRecDepth 20000 in set_option maxHeartbeats 4000000 in open Nat renaming reduceAdd → p1, reduceSub → p2, reduceMul → p3, reduceDiv → p4, reduceBNe → p5, reduceBEq → p6, reduceEqDiff → p7, reduceLeDiff → p8, reduceLT → p9 in open Int renaming reduceLE → p10, reduceLT → p11, reduceEq → p12 in
theorem spec_OpenNow.ctr {k : Nat} {a0_0 : Int} {a0_1 : Int} {a0_2 : Int} {l0_3 : List Int} {a0_4 : Int} {r1 : Int} {r2 : Int} {r3 : Int} (h : spec_OpenNow.f k a0_0 a0_1 a0_2 l0_3 a0_4 = some (r1, r2, r3)) : Ctr Tryz.prog 57 [.ag [.v (.int .i64 a0_0), .v (.int .i64 a0_1), .v (.int .i64 a0_2), .pr 1 (l0_3.map eI), .v (.int .i64 a0_4)]] (.ag [.v (.int .i64 r1), .v (.int .i64 r2), .v (.int .i64 r3)]) := by
  refine Ctr_of tyOk hm Tryz.func57 rfl rfl (by kernel_rfl) (n := 32) (rv := [.cell 2 34]) rfl rfl ?_
  simp only [W, List.replicate]
  unfold spec_OpenNow.f at h
  replace h := bnd h; obtain ⟨t1, A, h⟩ := h
  try simp only [W, p1, p2, p3, p4, p5, p6, p7, p8, p9, p10, p11, p12]
  refine callR (spec_HedgeOk.ctr A) ?_
  replace h := ifT h; rcases h with ⟨rfl, h⟩ | ⟨rfl, h⟩
  · try simp only [W, p1, p2, p3, p4, p5, p6, p7, p8, p9, p10, p11, p12]
    refine loopN (fun x : Int × Int × Int × Int × List Int × Int × Int × Int × Int × Int × Int × Int => [.u, .bp 16 0, .bp 32 0, .bp 48 0, .v (.int .i64 x.1), .u, .u, .u, .u, .bp 16 0, .u, .u, .u, .u, .u, .u, .u, .u, .u, .u, .u, .u, .u, .u, .u, .u, .u, .u, .u, .u, .u, .u, .u]) (fun x => [(16, .box 36 [.v (.int .i64 x.2.1), .v (.int .i64 x.2.2.1), .v (.int .i64 x.2.2.2.1), .pr 1 (List.map eI x.2.2.2.2.1), .v (.int .i64 x.2.2.2.2.2.1)]), (32, .box 34 [.v (.int .i64 x.2.2.2.2.2.2.2.2.2.1), .v (.int .i64 x.2.2.2.2.2.2.2.2.2.2.1), .v (.int .i64 x.2.2.2.2.2.2.2.2.2.2.2)]), (48, .box 34 [.v (.int .i64 x.2.2.2.2.2.2.1), .v (.int .i64 x.2.2.2.2.2.2.2.1), .v (.int .i64 x.2.2.2.2.2.2.2.2.1)])]) (fun n x => spec_OpenNow.l0 n x.1 x.2.1 x.2.2.1 x.2.2.2.1 x.2.2.2.2.1 x.2.2.2.2.2.1 x.2.2.2.2.2.2.1 x.2.2.2.2.2.2.2.1 x.2.2.2.2.2.2.2.2.1 = some (r1, r2, r3)) (0, a0_0, a0_1, a0_2, l0_3, a0_4, a0_0, a0_1, a0_2, 0, 0, 0) [] h (by simp only [W, p1, p2, p3, p4, p5, p6, p7, p8, p9, p10, p11, p12] <;> trivial) (by simp only [W, p1, p2, p3, p4, p5, p6, p7, p8, p9, p10, p11, p12] <;> trivial) rfl (fun _ h => by cases h) ?_
    intro n1 ⟨x3, x4, x5, x6, x7, x8, x9, x10, x11, y12, y13, y14⟩ _ h
    simp only [spec_OpenNow.l0] at h
    replace h := ifS h; rcases h with ⟨c15, h⟩ | ⟨c15, h⟩
    · replace h := ifN h; obtain ⟨c16, h⟩ := h
      replace h := ifS h; rcases h with ⟨c17, h⟩ | ⟨c17, h⟩
      · replace h := bnd h; obtain ⟨⟨t18_1, t18_2, t18_3, t18_4⟩, A, h⟩ := h
        dsimp only at h
        try simp only [W, c15, c16, c17, p1, p2, p3, p4, p5, p6, p7, p8, p9, p10, p11, p12]
        refine callR (spec_SetGap.ctr A) ?_
        try simp only [W, c15, c16, c17, p1, p2, p3, p4, p5, p6, p7, p8, p9, p10, p11, p12]
        exact nextN ((wrap64 (x3 + 1)), x4, x5, x6, x7, x8, t18_1, t18_2, t18_3, y12, y13, y14) [] n1 (by omega) h (by simp only [W, p1, p2, p3, p4, p5, p6, p7, p8, p9, p10, p11, p12] <;> trivial) (by simp only [W, p1, p2, p3, p4, p5, p6, p7, p8, p9, p10, p11, p12] <;> trivial) rfl
      · try simp only [W, c15, c16, c17, p1, p2, p3, p4, p5, p6, p7, p8, p9, p10, p11, p12]
        exact nextN ((wrap64 (x3 + 1)), x4, x5, x6, x7, x8, x9, x10, x11, y12, y13, y14) [] n1 (by omega) h (by simp only [W, p1, p2, p3, p4, p5, p6, p7, p8, p9, p10, p11, p12] <;> trivial) (by simp only [W, p1, p2, p3, p4, p5, p6, p7, p8, p9, p10, p11, p12] <;> trivial) rfl
    · cases h
      try simp only [W, c15, p1, p2, p3, p4, p5, p6, p7, p8, p9, p10, p11, p12]
  · cases h
    try simp only [W, p1, p2, p3, p4, p5, p6, p7, p8, p9, p10, p11, p12]
set_option maxRecDepth 20000 in set_option maxHeartbeats 4000000 in open Nat renaming reduceAdd → p1, reduceSub → p2, reduceMul → p3, reduceDiv → p4, reduceBNe → p5, reduceBEq → p6, reduceEqDiff → p7, reduceLeDiff → p8, reduceLT → p9 in open Int renaming reduceLE → p10, reduceLT → p11, reduceEq → p12 in
theorem spec_CountCells.ctr {a0_0 : Int} {a0_1 : Int} {r : Int} (h : spec_CountCells.f a0_0 a0_1 = some r) : Ctr Tryz.prog 129 [.ag [.v (.int .i64 a0_0), .v (.int .i64 a0_1)]] (.v (.int .i64 r)) := by
  refine Ctr_of tyOk hm Tryz.func129 rfl rfl (by kernel_rfl) (n := 10) (rv := [.tmp 2]) rfl rfl ?_
  simp only [W, List.replicate]
  unfold spec_CountCells.f at h
  replace h := bnd h; obtain ⟨t1, A, h⟩ := h
  try simp only [W, p1, p2, p3, p4, p5, p6, p7, p8, p9, p10, p11, p12]
  refine callR (spec_GridOk.ctr A) ?_
  replace h := ifT h; rcases h with ⟨rfl, h⟩ | ⟨rfl, h⟩
  · cases h
    try simp only [W, p1, p2, p3, p4, p5, p6, p7, p8, p9, p10, p11, p12]
  · cases h
    try simp only [W, p1, p2, p3, p4, p5, p6, p7, p8, p9, p10, p11, p12]
end Go.Proofs.YtkindoepnganmaaGreat.F
end

section
namespace Go.Proofs.YtkindoepnganmaaGreat.F
open Go.RowKit Go.Proofs.YtkindoepnganmaaGreatW.PrintWords Go.Proofs.YtkindoepnganmaaGreatW.PrintLast Go.Proofs.YtkindoepnganmaaGreatW.PrintMore
set_option linter.unusedVariables false
set_option linter.unusedSimpArgs false
attribute [local go_sem] max2_int min2_int max_two min_two
set_option maxRecDepth 20000 in set_option maxHeartbeats 4000000 in open Nat renaming reduceAdd → p1, reduceSub → p2, reduceMul → p3, reduceDiv → p4, reduceBNe → p5, reduceBEq → p6, reduceEqDiff → p7, reduceLeDiff → p8, reduceLT → p9 in open Int renaming reduceLE → p10, reduceLT → p11, reduceEq → p12 in
theorem spec_l04Has.ctr {a0_0 : Int} {a0_1 : Int} {a0_2 : Int} {a1 : Int} {r : Bool} (h : spec_l04Has.f a0_0 a0_1 a0_2 a1 = some r) : Ctr Tryz.prog 107 [.ag [.v (.int .i64 a0_0), .v (.int .i64 a0_1), .v (.int .i64 a0_2)], .v (.int .i64 a1)] (.v (.bool r)) := by
  refine Ctr_of tyOk hm Tryz.func107 rfl rfl (by kernel_rfl) (n := 13) (rv := [.tmp 4]) rfl rfl ?_
  simp only [W, List.replicate]
  unfold spec_l04Has.f at h
  replace h := bnd h; obtain ⟨t1, A, h⟩ := h
  try simp only [W, p1, p2, p3, p4, p5, p6, p7, p8, p9, p10, p11, p12]
  refine callR (spec_MazeOk.ctr A) ?_
  replace h := ifT h; rcases h with ⟨rfl, h⟩ | ⟨rfl, h⟩
  · replace h := bnd h; obtain ⟨t3, A, h⟩ := h
    try simp only [W, p1, p2, p3, p4, p5, p6, p7, p8, p9, p10, p11, p12]
    refine callR (spec_CountCells.ctr A) ?_
    replace h := bnd h; obtain ⟨t4, A, h⟩ := h
    try simp only [W, p1, p2, p3, p4, p5, p6, p7, p8, p9, p10, p11, p12]
    refine callR (spec_l01In.ctr A) ?_
    cases h
    try simp only [W, p1, p2, p3, p4, p5, p6, p7, p8, p9, p10, p11, p12]
  · cases h
    try simp only [W, p1, p2, p3, p4, p5, p6, p7, p8, p9, p10, p11, p12]
set_option maxRecDepth 20000 in set_option maxHeartbeats 4000000 in open Nat renaming reduceAdd → p1, reduceSub → p2, reduceMul → p3, reduceDiv → p4, reduceBNe → p5, reduceBEq → p6, reduceEqDiff → p7, reduceLeDiff → p8, reduceLT → p9 in open Int renaming reduceLE → p10, reduceLT → p11, reduceEq → p12 in
theorem spec_IsPassage.ctr {a0_0 : Int} {a0_1 : Int} {a0_2 : Int} {a1 : Int} {r : Bool} (h : spec_IsPassage.f a0_0 a0_1 a0_2 a1 = some r) : Ctr Tryz.prog 148 [.ag [.v (.int .i64 a0_0), .v (.int .i64 a0_1), .v (.int .i64 a0_2)], .v (.int .i64 a1)] (.v (.bool r)) := by
  refine Ctr_of tyOk hm Tryz.func148 rfl rfl (by kernel_rfl) (n := 19) (rv := [.tmp 4]) rfl rfl ?_
  simp only [W, List.replicate]
  unfold spec_IsPassage.f at h
  replace h := bnd h; obtain ⟨t1, A, h⟩ := h
  try simp only [W, p1, p2, p3, p4, p5, p6, p7, p8, p9, p10, p11, p12]
  refine callR (spec_MazeOk.ctr A) ?_
  replace h := ifT h; rcases h with ⟨rfl, h⟩ | ⟨rfl, h⟩
  · replace h := bnd h; obtain ⟨t3, A, h⟩ := h
    try simp only [W, p1, p2, p3, p4, p5, p6, p7, p8, p9, p10, p11, p12]
    refine callR (spec_CountGaps.ctr A) ?_
    replace h := bnd h; obtain ⟨t4, A, h⟩ := h
    try simp only [W, p1, p2, p3, p4, p5, p6, p7, p8, p9, p10, p11, p12]
    refine callR (spec_l01In.ctr A) ?_
    replace h := ifT h; rcases h with ⟨rfl, h⟩ | ⟨rfl, h⟩
    · replace h := bnd h; obtain ⟨t6, A, h⟩ := h
      try simp only [W, p1, p2, p3, p4, p5, p6, p7, p8, p9, p10, p11, p12]
      refine callR (spec_l03Bit.ctr A) ?_
      cases h
      try simp only [W, p1, p2, p3, p4, p5, p6, p7, p8, p9, p10, p11, p12]
    · cases h
      try simp only [W, p1, p2, p3, p4, p5, p6, p7, p8, p9, p10, p11, p12]
  · cases h
    try simp only [W, p1, p2, p3, p4, p5, p6, p7, p8, p9, p10, p11, p12]
set_option maxRecDepth 20000 in set_option maxHeartbeats 4000000 in open Nat renaming reduceAdd → p1, reduceSub → p2, reduceMul → p3, reduceDiv → p4, reduceBNe → p5, reduceBEq → p6, reduceEqDiff → p7, reduceLeDiff → p8, reduceLT → p9 in open Int renaming reduceLE → p10, reduceLT → p11, reduceEq → p12 in
theorem spec_Neighbor.ctr {k : Nat} {a0_0 : Int} {a0_1 : Int} {a1 : Int} {a2 : Int} {r : Int} (h : spec_Neighbor.f k a0_0 a0_1 a1 a2 = some r) : Ctr Tryz.prog 150 [.ag [.v (.int .i64 a0_0), .v (.int .i64 a0_1)], .v (.int .i64 a1), .v (.int .i64 a2)] (.v (.int .i64 r)) := by
  refine Ctr_of tyOk hm Tryz.func150 rfl rfl (by kernel_rfl) (n := 57) (rv := [.tmp 6]) rfl rfl ?_
  simp only [W, List.replicate]
  unfold spec_Neighbor.f at h
  replace h := bnd h; obtain ⟨t1, A, h⟩ := h
  try simp only [W, p1, p2, p3, p4, p5, p6, p7, p8, p9, p10, p11, p12]
  refine callR (spec_CountCells.ctr A) ?_
  replace h := bnd h; obtain ⟨t2, A, h⟩ := h
  try simp only [W, p1, p2, p3, p4, p5, p6, p7, p8, p9, p10, p11, p12]
  refine callR (spec_l01In.ctr A) ?_
  replace h := ifT h; rcases h with ⟨rfl, h⟩ | ⟨rfl, h⟩
  · replace h := ifM h; obtain ⟨c4, h⟩ := h
    replace h := ifS h; rcases h with ⟨c5, h⟩ | ⟨c5, h⟩
    · rcases k with _ | m6; · cases h
      rw [spec_Neighbor.j0] at h
      replace h := bnd h; obtain ⟨t7, A, h⟩ := h
      try simp only [W, c4, eq_true c5, p1, p2, p3, p4, p5, p6, p7, p8, p9, p10, p11, p12]
      refine callR (spec_l01In.ctr A) ?_
      replace h := ifT h; rcases h with ⟨rfl, h⟩ | ⟨rfl, h⟩
      · replace h := bnd h; obtain ⟨t9, A, h⟩ := h
        try simp only [W, c4, eq_true c5, p1, p2, p3, p4, p5, p6, p7, p8, p9, p10, p11, p12]
        refine callR (spec_l01In.ctr A) ?_
        replace h := ifT h; rcases h with ⟨rfl, h⟩ | ⟨rfl, h⟩
        · cases h
          try simp only [W, c4, eq_true c5, p1, p2, p3, p4, p5, p6, p7, p8, p9, p10, p11, p12]
        · cases h
          try simp only [W, c4, eq_true c5, p1, p2, p3, p4, p5, p6, p7, p8, p9, p10, p11, p12]
      · cases h
        try simp only [W, c4, eq_true c5, p1, p2, p3, p4, p5, p6, p7, p8, p9, p10, p11, p12]
    · replace h := ifS h; rcases h with ⟨c11, h⟩ | ⟨c11, h⟩
      · rcases k with _ | m12; · cases h
        rw [spec_Neighbor.j0] at h
        replace h := bnd h; obtain ⟨t13, A, h⟩ := h
        try simp only [W, c4, c5, eq_true c11, p1, p2, p3, p4, p5, p6, p7, p8, p9, p10, p11, p12]
        refine callR (spec_l01In.ctr A) ?_
        replace h := ifT h; rcases h with ⟨rfl, h⟩ | ⟨rfl, h⟩
        · replace h := bnd h; obtain ⟨t15, A, h⟩ := h
          try simp only [W, c4, c5, eq_true c11, p1, p2, p3, p4, p5, p6, p7, p8, p9, p10, p11, p12]
          refine callR (spec_l01In.ctr A) ?_
          replace h := ifT h; rcases h with ⟨rfl, h⟩ | ⟨rfl, h⟩
          · cases h
            try simp only [W, c4, c5, eq_true c11, p1, p2, p3, p4, p5, p6, p7, p8, p9, p10, p11, p12]
          · cases h
            try simp only [W, c4, c5, eq_true c11, p1, p2, p3, p4, p5, p6, p7, p8, p9, p10, p11, p12]
        · cases h
          try simp only [W, c4, c5, eq_true c11, p1, p2, p3, p4, p5, p6, p7, p8, p9, p10, p11, p12]
      · replace h := ifS h; rcases h with ⟨c17, h⟩ | ⟨c17, h⟩
        · rcases k with _ | m18; · cases h
          rw [spec_Neighbor.j0] at h
          replace h := bnd h; obtain ⟨t19, A, h⟩ := h
          try simp only [W, c4, c5, c11, eq_true c17, p1, p2, p3, p4, p5, p6, p7, p8, p9, p10, p11, p12]
          refine callR (spec_l01In.ctr A) ?_
          replace h := ifT h; rcases h with ⟨rfl, h⟩ | ⟨rfl, h⟩
          · replace h := bnd h; obtain ⟨t21, A, h⟩ := h
            try simp only [W, c4, c5, c11, eq_true c17, p1, p2, p3, p4, p5, p6, p7, p8, p9, p10, p11, p12]
            refine callR (spec_l01In.ctr A) ?_
            replace h := ifT h; rcases h with ⟨rfl, h⟩ | ⟨rfl, h⟩
            · cases h
              try simp only [W, c4, c5, c11, eq_true c17, p1, p2, p3, p4, p5, p6, p7, p8, p9, p10, p11, p12]
            · cases h
              try simp only [W, c4, c5, c11, eq_true c17, p1, p2, p3, p4, p5, p6, p7, p8, p9, p10, p11, p12]
          · cases h
            try simp only [W, c4, c5, c11, eq_true c17, p1, p2, p3, p4, p5, p6, p7, p8, p9, p10, p11, p12]
        · replace h := ifS h; rcases h with ⟨c23, h⟩ | ⟨c23, h⟩
          · rcases k with _ | m24; · cases h
            rw [spec_Neighbor.j0] at h
            replace h := bnd h; obtain ⟨t25, A, h⟩ := h
            try simp only [W, c4, c5, c11, c17, eq_true c23, p1, p2, p3, p4, p5, p6, p7, p8, p9, p10, p11, p12]
            refine callR (spec_l01In.ctr A) ?_
            replace h := ifT h; rcases h with ⟨rfl, h⟩ | ⟨rfl, h⟩
            · replace h := bnd h; obtain ⟨t27, A, h⟩ := h
              try simp only [W, c4, c5, c11, c17, eq_true c23, p1, p2, p3, p4, p5, p6, p7, p8, p9, p10, p11, p12]
              refine callR (spec_l01In.ctr A) ?_
              replace h := ifT h; rcases h with ⟨rfl, h⟩ | ⟨rfl, h⟩
              · cases h
                try simp only [W, c4, c5, c11, c17, eq_true c23, p1, p2, p3, p4, p5, p6, p7, p8, p9, p10, p11, p12]
              · cases h
                try simp only [W, c4, c5, c11, c17, eq_true c23, p1, p2, p3, p4, p5, p6, p7, p8, p9, p10, p11, p12]
            · cases h
              try simp only [W, c4, c5, c11, c17, eq_true c23, p1, p2, p3, p4, p5, p6, p7, p8, p9, p10, p11, p12]
          · cases h
            try simp only [W, c4, c5, c11, c17, c23, p1, p2, p3, p4, p5, p6, p7, p8, p9, p10, p11, p12]
  · cases h
    try simp only [W, p1, p2, p3, p4, p5, p6, p7, p8, p9, p10, p11, p12]
set_option maxRecDepth 20000 in set_option maxHeartbeats 4000000 in open Nat renaming reduceAdd → p1, reduceSub → p2, reduceMul → p3, reduceDiv → p4, reduceBNe → p5, reduceBEq → p6, reduceEqDiff → p7, reduceLeDiff → p8, reduceLT → p9 in open Int renaming reduceLE → p10, reduceLT → p11, reduceEq → p12 in
theorem spec_GapAt.ctr {k : Nat} {a0_0 : Int} {a0_1 : Int} {a1 : Int} {a2 : Int} {r : Int} (h : spec_GapAt.f k a0_0 a0_1 a1 a2 = some r) : Ctr Tryz.prog 149 [.ag [.v (.int .i64 a0_0), .v (.int .i64 a0_1)], .v (.int .i64 a1), .v (.int .i64 a2)] (.v (.int .i64 r)) := by
  refine Ctr_of tyOk hm Tryz.func149 rfl rfl (by kernel_rfl) (n := 38) (rv := [.tmp 6]) rfl rfl ?_
  simp only [W, List.replicate]
  unfold spec_GapAt.f at h
  replace h := bnd h; obtain ⟨t1, A, h⟩ := h
  try simp only [W, p1, p2, p3, p4, p5, p6, p7, p8, p9, p10, p11, p12]
  refine callR (spec_Neighbor.ctr A) ?_
  replace h := ifS h; rcases h with ⟨c2, h⟩ | ⟨c2, h⟩
  · cases h
    try simp only [W, c2, p1, p2, p3, p4, p5, p6, p7, p8, p9, p10, p11, p12]
  · replace h := ifS h; rcases h with ⟨c3, h⟩ | ⟨c3, h⟩
    · replace h := ifM h; obtain ⟨c4, h⟩ := h
      cases h
      try simp only [W, c2, eq_true c3, c4, p1, p2, p3, p4, p5, p6, p7, p8, p9, p10, p11, p12]
    · replace h := ifS h; rcases h with ⟨c5, h⟩ | ⟨c5, h⟩
      · replace h := ifM h; obtain ⟨c6, h⟩ := h
        cases h
        try simp only [W, c2, c3, eq_true c5, c6, p1, p2, p3, p4, p5, p6, p7, p8, p9, p10, p11, p12]
      · replace h := bnd h; obtain ⟨t7, A, h⟩ := h
        try simp only [W, c2, c3, c5, p1, p2, p3, p4, p5, p6, p7, p8, p9, p10, p11, p12]
        refine callR (spec_l02East.ctr A) ?_
        cases h
        try simp only [W, c2, c3, c5, p1, p2, p3, p4, p5, p6, p7, p8, p9, p10, p11, p12]
set_option maxRecDepth 20000 in set_option maxHeartbeats 4000000 in open Nat renaming reduceAdd → p1, reduceSub → p2, reduceMul → p3, reduceDiv → p4, reduceBNe → p5, reduceBEq → p6, reduceEqDiff → p7, reduceLeDiff → p8, reduceLT → p9 in open Int renaming reduceLE → p10, reduceLT → p11, reduceEq → p12 in
theorem spec_Step.ctr {k : Nat} {a0_0 : Int} {a0_1 : Int} {a0_2 : Int} {a1 : Int} {a2 : Int} {r : Int} (h : spec_Step.f k a0_0 a0_1 a0_2 a1 a2 = some r) : Ctr Tryz.prog 116 [.ag [.v (.int .i64 a0_0), .v (.int .i64 a0_1), .v (.int .i64 a0_2)], .v (.int .i64 a1), .v (.int .i64 a2)] (.v (.int .i64 r)) := by
  refine Ctr_of tyOk hm Tryz.func116 rfl rfl (by kernel_rfl) (n := 22) (rv := [.tmp 6]) rfl rfl ?_
  simp only [W, List.replicate]
  unfold spec_Step.f at h
  replace h := bnd h; obtain ⟨t1, A, h⟩ := h
  try simp only [W, p1, p2, p3, p4, p5, p6, p7, p8, p9, p10, p11, p12]
  refine callR (spec_MazeOk.ctr A) ?_
  replace h := ifT h; rcases h with ⟨rfl, h⟩ | ⟨rfl, h⟩
  · replace h := bnd h; obtain ⟨t3, A, h⟩ := h
    try simp only [W, p1, p2, p3, p4, p5, p6, p7, p8, p9, p10, p11, p12]
    refine callR (spec_GapAt.ctr A) ?_
    replace h := bnd h; obtain ⟨t4, A, h⟩ := h
    try simp only [W, p1, p2, p3, p4, p5, p6, p7, p8, p9, p10, p11, p12]
    refine callR (spec_IsPassage.ctr A) ?_
    replace h := ifT h; rcases h with ⟨rfl, h⟩ | ⟨rfl, h⟩
    · replace h := bnd h; obtain ⟨t6, A, h⟩ := h
      try simp only [W, p1, p2, p3, p4, p5, p6, p7, p8, p9, p10, p11, p12]
      refine callR (spec_Neighbor.ctr A) ?_
      cases h
      try simp only [W, p1, p2, p3, p4, p5, p6, p7, p8, p9, p10, p11, p12]
    · cases h
      try simp only [W, p1, p2, p3, p4, p5, p6, p7, p8, p9, p10, p11, p12]
  · cases h
    try simp only [W, p1, p2, p3, p4, p5, p6, p7, p8, p9, p10, p11, p12]
end Go.Proofs.YtkindoepnganmaaGreat.F
end
