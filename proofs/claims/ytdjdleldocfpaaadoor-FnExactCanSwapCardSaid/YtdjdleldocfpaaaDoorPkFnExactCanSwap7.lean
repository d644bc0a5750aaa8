/- Packed by a program of the session (wip/tools/pack.py): what the claim's theorem reaches, of the texts that wip/ and the kit's printer lay. -/
import Derived.Test.YtdjdleldocfpaaaDoorPkFnExactCanSwap6
import Derived.Deep.Onto
import Derived.StillTailTactics
import Derived.Deep.LoopGhost
import Derived.Shelf.Abstract
section
namespace Go.Proofs.YtdjdleldocfpaaaDoor.F
open Go.RowKit Go.Proofs.YtdjdleldocfpaaaDoorW.PrintWords Go.Proofs.YtdjdleldocfpaaaDoorW.PrintLast Go.Proofs.YtdjdleldocfpaaaDoorW.PrintMore
set_option linter.unusedVariables false
set_option linter.unusedSimpArgs false
theorem Sim_drop {w0 : Bs} {t : List AV} {s : Sto} {φ : Nat → Value} {a : Act} {w : World} (S : Sim w0 t s φ a w) (id : Nat) : Sim w0 t (dS s id) φ a w := by
  refine ⟨S.below, S.defs, S.tmp, fun i b h => ?_, fun i j b c h h' => ?_, S.fix, S.kept, fun i b k h hk => ?_, S.wsz⟩
  rotate_right
  · rw [gS_dS] at h
    split at h
    · cases h
    · exact S.inn i b k h hk
  · rw [gS_dS] at h
    split at h
    · cases h
    · exact S.blk i b h
  · rw [gS_dS] at h h'
    split at h
    · cases h
    · split at h'
      · cases h'
      · exact S.apart i j b c h h'
theorem bk_own {w : World} {B : Nat} {e : TypeId} {sz n : Nat} {v : Value} {xs : List Value} (h : w.ownsRow B e sz v n xs) : v.ownBlock = bk v := by
  obtain ⟨A, c, rfl⟩ := own_slice h
  cases A <;> rfl
section
variable {P : Program} {ty : TypeId → Option TI} {w0 : Bs} {t : List AV} {s : Sto} {φ : Nat → Value} {a : Act} {w : World} {o : Oper} {d : Option Nat} {K : Kt} {Q : Exit → Act → World → Prop}
theorem own_app_str {base : Nat} {tt u tp e : TypeId} {i : TypeInfo} (ht : P.underlying tt = some (.slice e)) (hu : P.underlying u = some .string) (hi : P.info? e = some i) (hz : i.zero = some (.int .u8 0)) (hsize : i.size = 1) (hby : i.bytes = 1)
    {v : Value} {n : Nat} {xs : List Value} (hown : w.ownsRow base e 1 v n xs) (m : ByteArray) (hb : n + m.size ≤ 140737488355328) (hbase : base ≤ w.heap.size) :
    ∃ v' w', (Builtin.append_ #[tt, u] tp #[v, .string m]).run P w = .ok v' w' ∧ w'.ownsRow base e 1 v' (n + m.size) (xs ++ Lib.strCells m) ∧ w.grownBy w' v.ownBlock ∧ (v'.ownBlock = v.ownBlock ∨ v'.ownBlock = some w.heap.size) := by
  obtain ⟨v', w', h1, h2, h3, h4⟩ := Lib.run_append_own_string (P := P) w base tt u tp e i ht hu hi hz hsize hby v n xs hown m (by simp only [maxLen]; omega) hb hbase
  refine ⟨v', w', h1, h2, h3, ?_⟩
  have hxl : xs.length = n := by simpa using hown.1
  rcases hown.2 with ⟨rfl, rfl⟩ | ⟨g, cap, cur, rfl, hbg, hg, hnc, hcm, hcs, htake⟩
  · by_cases hm : m.size = 0
    · rw [h4.2 ⟨rfl, hm⟩]; exact .inl rfl
    · have hr := run_append_nil_string (P := P) w tt u tp e i (.int .u8 0) ht hu hi hz m (by omega) (by omega) (by rw [hby]; omega)
      rw [hr] at h1
      injection h1 with h1 _
      rw [← h1]; exact .inr rfl
  · by_cases hroom : n + m.size ≤ cap
    · have hcs' : cur.size = cap := by simpa using hcs
      have hr := Lib.run_append_room_string (P := P) w tt u tp e i ht hu hi hsize g n cap cur hg m hroom (by omega)
      rw [hr] at h1
      injection h1 with h1 _
      rw [← h1]; exact .inl rfl
    · have hr := Lib.run_append_grow_string (P := P) w tt u tp e i (.int .u8 0) ht hu hi hz ⟨g, 0, none⟩ n cap xs (by rw [hsize]; simpa using hxl) (hown.cells (g := g) rfl) m (by omega) (by omega) (by rw [hby]; exact growslice_fits (by omega) (by omega))
      rw [hr] at h1
      injection h1 with h1 _
      rw [← h1]; exact .inr rfl
theorem strCells_flat (m : ByteArray) : Lib.strCells m = ((bytesOf m).map fun n => [Value.int .u8 n]).flatten := by
  unfold Lib.strCells bytesOf
  induction m.data.toList with
  | nil => rfl
  | cons x l ih => simp only [List.map_cons, List.flatten_cons, List.singleton_append]; rw [← ih]
theorem appT_inv {b c : Nat} {z : Option (List Value)} {y : AV} (h : appT b c z y = true) : (∃ m z', y = .v (.string m) ∧ z = some z' ∧ strZ z' = true) ∨ ((∀ m, y ≠ .v (.string m)) ∧ b = c) := by
  unfold appT at h
  split at h
  · exact .inl ⟨_, _, rfl, rfl, h⟩
  · cases h
  · rename_i h1 h2
    exact .inr ⟨fun m e => by cases z with
      | none => exact h2 m rfl e
      | some z => exact h1 z m rfl e, by simpa using h⟩
theorem op_append (T : TyOk P ty) (S : Sim w0 t s φ a w) {b : TypeId} {x y : Operand} {u2 : TypeId} (ho : o.op = .call ⟨.builtin .append, ⟨[x, y]⟩, ⟨[b, u2]⟩⟩) (hb2 : appT b u2 ((ty u2).map (·.zero)) (eT t y) = true) (h : appW ty (ty b) (eT t x) (eT t y) o.dst t s K) : o.wp P a w (Nx w0 K) Q := by
  have hx := Sim_ev S x
  have hy := Sim_ev S y
  cases ei : ty b with
  | none => rw [ei] at h; simp [appW] at h
  | some i =>
    rw [ei] at h
    cases ex : eT t x with
    | lo id =>
      rw [ex] at h hx
      simp only [appW] at h
      obtain ⟨j, ej, hoA, h⟩ := h
      simp only [Rep] at hx
      cases eb : gS s id with
      | none => rw [eb] at h; simp [appR] at h
      | some bl =>
        cases bl with
        | box tb cs => rw [eb] at h; simp [appR] at h
        | row e sz xs =>
          rw [eb] at h
          cases er : rdA j.size (eT t y) s with
          | none => rw [er] at h; simp [appR] at h
          | some ys =>
            rw [er] at h
            cases ed : o.dst with
            | none => rw [ed] at h; simp [appR] at h
            | some d =>
              rw [ed] at h
              simp only [appR] at h
              obtain ⟨rfl, rfl, h2, h3, h4, hK⟩ := h
              obtain ⟨b1, b2, b3⟩ := S.blk id _ eb
              obtain ⟨f, f1, f2, f3, z, f4, f5, f6⟩ := (T _ j ej).nf
              have hu := (T b i ei).el j ej
              have hzl : z.cells.size = j.size := by rw [f5]; simpa using (T _ j ej).zl.1
              have hsm : xs.length + ys.length ≤ 140737488355328 := Nat.le_trans (Nat.le_mul_of_pos_right _ h2) h3
              have hrun : rowOk j.size ys ∧ ∃ v' w', (Builtin.append_ #[b, u2] o.type #[φ id, a.eval y]).run P w = .ok v' w' ∧ w'.ownsRow w0.heap.size i.el j.size v' (xs.length + ys.length) (xs.flatten ++ ys.flatten) ∧ w.grownBy w' (φ id).ownBlock ∧ (v'.ownBlock = (φ id).ownBlock ∨ v'.ownBlock = some w.heap.size) := by
                rcases appT_inv hb2 with ⟨m, z', e1, e2, e3⟩ | ⟨e1, rfl⟩
                · rw [e1] at er hoA hy
                  simp only [Rep] at hy
                  simp only [rdA] at er
                  split at er
                  · rename_i hj1
                    obtain rfl := Option.some.inj er
                    simp only [okA, Bool.and_eq_true, beq_iff_eq] at hoA
                    obtain ⟨h5, h6⟩ := hoA
                    obtain ⟨i2, e4, e5⟩ := Option.map_eq_some_iff.1 e2
                    have hu2 := (T _ _ e4).st (by rw [e5]; exact e3)
                    have hz8 := u8Z_eq h5
                    have hint : P.underlying i.el = some (.int .u8) := (T _ j ej).it _ (by rw [hz8]; rfl)
                    have hag : j.agg = false := by
                      rcases (T _ j ej).agg with ⟨_, fs, q, _⟩ | ⟨q, _⟩ | ⟨_, _, _, _, q, _⟩
                      · rw [hint] at q; cases q
                      · exact q
                      · rw [hint] at q; cases q
                    have hzz : z = .int .u8 0 := by
                      have q1 := f6 hag
                      rw [f5, hz8] at q1
                      have q2 : [Value.int .u8 0] = [z] := by simpa using q1
                      injection q2 with q2 _
                      exact q2.symm
                    rw [hj1] at b1 ⊢
                    have hl : ((bytesOf m).map fun n => [Value.int .u8 n]).length = m.size := by rw [List.length_map, bytesOf_length]
                    rw [hl] at hsm ⊢
                    refine ⟨fun r hr => ?_, ?_⟩
                    · obtain ⟨n, _, rfl⟩ := List.mem_map.1 hr
                      exact ⟨rfl, fun u hu => by simp only [List.mem_singleton] at hu; subst hu; rfl⟩
                    · rw [hy, ← strCells_flat]
                      exact own_app_str hu hu2 f1 (by rw [f4, hzz]) (by rw [f2, hj1]) (by rw [f3, h6]) b1 m hsm S.below.size
                  · cases er
                have er : rdS j.size (eT t y) s = some ys := by
                  unfold rdA at er
                  split at er
                  · rename_i m e; exact absurd e (e1 m)
                  · exact er
                obtain ⟨A, c, g1, g2, g3⟩ := rdS_ok S b3 hy er
                have hlen : ys.flatten.length = ys.length * j.size := flatten_len fun x hx => (g2 x hx).1
                refine ⟨g2, ?_⟩
                rw [g1]
                cases A with
                | some ad =>
                  obtain ⟨v', w', q1, q2, q3, _, q4⟩ := run_append_own_at (P := P) w w0.heap.size b o.type i.el f z j.size j.bytes hu f1 f4 f2 f3 hzl b3 (φ id) xs.length xs.flatten b1 ad ys.length c ys.flatten hlen (fun k u hk => by
                    by_cases hne : ys = []
                    · subst hne; simp at hk
                    · obtain ⟨ad', e, q⟩ := g3 hne
                      obtain rfl := Option.some.inj e
                      exact q k u hk) (fun u hu => by
                    obtain ⟨r, hr, hur⟩ := List.mem_flatten.1 hu
                    exact plain_one ((g2 r hr).2 u hur)) (by simp only [maxLen]; omega) h3 S.below.size
                  exact ⟨v', w', q1, q2, q3, q4⟩
                | none =>
                  have hys : ys = [] := by
                    apply Classical.byContradiction
                    intro hne
                    obtain ⟨ad, e, _⟩ := g3 hne
                    cases e
                  subst hys
                  refine ⟨φ id, w, ?_, by simpa using b1, World.grownBy.refl w _, .inl rfl⟩
                  rcases b1.2 with ⟨hv, hn⟩ | ⟨g, cap, cur, hv, _, _, hnc, _⟩
                  · rw [hv]; simp [Builtin.append_, run_underlying hu, sizeOf, typeInfo, f1, Builtin.lenOf, Builtin.firstCells]
                  · rw [hv]; simp [Builtin.append_, run_underlying hu, sizeOf, typeInfo, f1, Builtin.lenOf, Builtin.firstCells, hnc, storeCells]
              obtain ⟨g2, hrun⟩ := hrun
              obtain ⟨v', w', q1, q2, q3, q4⟩ := hrun
              have S' := Sim_drop S id
              have hbelow : Below w0.heap.size w0 w' := S.below.grown q3 S.below.size (own_base b1)
              have hp : plainV v' = true := by obtain ⟨A, c, rfl⟩ := own_slice q2; rfl
              refine wp_val (v := v') (w1 := w') ?_ ⟨upd φ (16 * d) v', _, _, hK, ?_⟩
              · simp only [execOp, ho, resolve, invoke, builtin, Sem.run_bind, Sem.run_pure, Result.andThen_ok, List.map_toArray, List.map_cons, List.map_nil, hx.1, q1]
              · have hn : Sim w0 t (uS (dS s id) (16 * d) (.row i.el j.size (xs ++ ys))) (upd φ (16 * d) v') a w' := by
                  have hkp : ∀ k, k < w0.ws.heap.size → ¬ w0.G k → w'.heap[k]? = w.heap[k]? := fun k hk hG => q3.block k (Nat.lt_of_lt_of_le hk S.wsz) (fun e => by rw [bk_own b1] at e; exact inn_ne S eb hk hG e.symm rfl)
                  have hyn : ∀ k, bk v' = some k → w0.G k ∨ w0.ws.heap.size ≤ k := fun k hk => by
                    rw [← bk_own q2] at hk
                    rcases q4 with q4 | q4
                    · rw [q4, bk_own b1] at hk; exact S.inn id _ k eb hk
                    · rw [q4] at hk; right; have := S.wsz; simp at hk; omega
                  refine Sim_new S' h4 hbelow (fun m e k hm hne hk => ?_) ?_ (by omega) hkp hyn q3.size
                  · rw [gS_dS] at hm
                    split at hm
                    · cases hm
                    · rename_i hmi
                      have hlt := (BlkOk_lt (S.blk m e hm) hk).2
                      have hne2 : (φ id).ownBlock ≠ some k := by
                        rw [bk_own b1]
                        rcases S.apart m id _ _ hm eb (fun e => hmi e.symm) with h9 | h9
                        · rw [h9] at hk; cases hk
                        · rw [hk] at h9; exact fun e => h9 e.symm
                      refine ⟨q3.block k hlt (fun e => hne2 e.symm), ?_⟩
                      rw [← bk_own q2]
                      rcases q4 with q4 | q4
                      · rw [q4]; exact hne2
                      · rw [q4]; simp; omega
                  · show _ ∧ _
                    rw [upd_same]
                    refine ⟨?_, fun r hr => ?_, b3⟩
                    · simpa using q2
                    · rcases List.mem_append.1 hr with hr | hr
                      · exact b2 r hr
                      · exact g2 r hr
                rw [ed]
                exact Sim_put hn (some d) (y := .lo (16 * d)) (by simp only [Rep]; rw [upd_same]; exact ⟨rfl, hp⟩)
    | _ => rw [ex] at h; simp [appW] at h
end
end Go.Proofs.YtdjdleldocfpaaaDoor.F
end

section
namespace Go.Proofs.YtdjdleldocfpaaaDoor.F
open Go.RowKit Go.Proofs.YtdjdleldocfpaaaDoorW.PrintWords Go.Proofs.YtdjdleldocfpaaaDoorW.PrintLast Go.Proofs.YtdjdleldocfpaaaDoorW.PrintMore
set_option linter.unusedVariables false
set_option linter.unusedSimpArgs false
structure ImOk (B B1 : Nat) (w0 w' : World) (n n' : Nat) (r : Sto) (L : List Nat) (rep : (Nat → Value) → Prop) (ψ : Nat → Value) : Prop where
  le : n ≤ n'
  dom : ∀ i b, gS r i = some b → n ≤ i ∧ i < n'
  all : ∀ i, n ≤ i → i < n' → (gS r i).isSome = true
  ok : ∀ ψ', (∀ i, n ≤ i → i < n' → ψ' i = ψ i) → rep ψ' ∧ (∀ i b, gS r i = some b → BlkOk B w0 ψ' w' i b ∧ ∀ k, bk (ψ' i) = some k → k ∈ L ∧ B1 ≤ k) ∧
    ∀ i j b c, gS r i = some b → gS r j = some c → i ≠ j → bk (ψ' i) = none ∨ bk (ψ' i) ≠ bk (ψ' j)
mutual
theorem im_ok {B B1 : Nat} (hB : B ≤ B1) {w0 w' : World} : ∀ (x : AV) (n : Nat) {y : Value} {L : List Nat}, RepR B1 w' x y L → L.Nodup → ∃ ψ, ImOk B B1 w0 w' n (im n x).2.2 (im n x).2.1 L (fun ψ => Rep B w0 ψ (im n x).1 y) ψ
  | .v x, n, y, L, h, _ => by
    simp only [RepR] at h
    refine ⟨fun _ => undef, Nat.le_refl _, fun i b hb => by simp [im, gS] at hb, fun i h1 h2 => by simp only [im] at h2; omega, fun ψ' _ => ⟨by simp only [im, Rep]; exact h.1, fun i b hb => by simp [im, gS] at hb, fun i j b c hb => by simp [im, gS] at hb⟩⟩
  | .ag cs, n, y, L, h, hL => by
    simp only [RepR] at h
    obtain ⟨l, rfl, h⟩ := h
    obtain ⟨ψ, I⟩ := imL_ok hB (w0 := w0) cs n h hL
    refine ⟨ψ, I.le, I.dom, I.all, fun ψ' hψ => ?_⟩
    obtain ⟨h1, h2⟩ := I.ok ψ' hψ
    exact ⟨by simp only [im, Rep]; exact ⟨l, rfl, h1⟩, h2⟩
  | .tu cs, n, y, L, h, hL => by
    simp only [RepR] at h
    obtain ⟨l, rfl, h⟩ := h
    obtain ⟨ψ, I⟩ := imL_ok hB (w0 := w0) cs n h hL
    refine ⟨ψ, I.le, I.dom, I.all, fun ψ' hψ => ?_⟩
    obtain ⟨h1, h2⟩ := I.ok ψ' hψ
    exact ⟨by simp only [im, Rep]; exact ⟨l, rfl, h1⟩, h2⟩
  | .ow e sz xs, n, y, L, h, hL => by
    simp only [RepR] at h
    obtain ⟨h1, h2, h3, rfl⟩ := h
    have hp : plainV y = true := by obtain ⟨A, c, rfl⟩ := own_slice h1; rfl
    have hd : ∀ i b, gS [(n, Blk.row e sz xs)] i = some b → i = n ∧ b = .row e sz xs := fun i b hb => by
      simp only [gS] at hb
      split at hb
      · rename_i e'; exact ⟨e'.symm, (Option.some.inj hb).symm⟩
      · cases hb
    refine ⟨fun _ => y, by simp [im], fun i b hb => by obtain ⟨rfl, _⟩ := hd i b hb; simp [im], fun i h4 h5 => ?_, fun ψ' hψ => ?_⟩
    · simp only [im] at h5 ⊢
      obtain rfl : n = i := by omega
      simp [gS]
    · have hn : ψ' n = y := hψ n (Nat.le_refl _) (by simp [im])
      refine ⟨by simp only [im, Rep]; rw [hn]; exact ⟨rfl, hp⟩, fun i b hb => ?_, fun i j b c hb hc hne => ?_⟩
      · obtain ⟨rfl, rfl⟩ := hd i b hb
        refine ⟨?_, fun k hk => ?_⟩
        · show _ ∧ _
          rw [hn]
          exact ⟨h1.mono hB, h2, h3⟩
        · rw [hn] at hk
          exact ⟨by simp [hk], own_base h1 k (by rw [bk_own h1]; exact hk)⟩
      · obtain ⟨rfl, _⟩ := hd i b hb
        obtain ⟨rfl, _⟩ := hd j c hc
        exact absurd rfl hne
  | .u, n, y, L, h, _ => by simp [RepR] at h
  | .pr _ _, n, y, L, h, _ => by simp [RepR] at h
  | .lo _, n, y, L, h, _ => by simp [RepR] at h
  | .bp _ _, n, y, L, h, _ => by simp [RepR] at h
  | .pe _, n, y, L, h, _ => by simp [RepR] at h
  | .le _ _ _ _, n, y, L, h, _ => by simp [RepR] at h
  | .vw _ _ _ _, n, y, L, h, _ => by simp [RepR] at h
theorem imL_ok {B B1 : Nat} (hB : B ≤ B1) {w0 w' : World} : ∀ (cs : List AV) (n : Nat) {l : List Value} {L : List Nat}, RepRL B1 w' cs l L → L.Nodup → ∃ ψ, ImOk B B1 w0 w' n (imL n cs).2.2 (imL n cs).2.1 L (fun ψ => RepL B w0 ψ (imL n cs).1 l) ψ
  | [], n, l, L, h, _ => by
    simp only [RepRL] at h
    obtain ⟨rfl, rfl⟩ := h
    exact ⟨fun _ => undef, Nat.le_refl _, fun i b hb => by simp [imL, gS] at hb, fun i h1 h2 => by simp only [imL] at h2; omega, fun ψ' _ => ⟨by simp [imL, RepL], fun i b hb => by simp [imL, gS] at hb, fun i j b c hb => by simp [imL, gS] at hb⟩⟩
  | c :: cs, n, l, L, h, hL => by
    simp only [RepRL] at h
    obtain ⟨y, ys, L1, L2, rfl, rfl, h1, h2⟩ := h
    obtain ⟨hL1, hL2, hdis⟩ := List.nodup_append.1 hL
    obtain ⟨ψ1, I1⟩ := im_ok hB (w0 := w0) c n h1 hL1
    obtain ⟨ψ2, I2⟩ := imL_ok hB (w0 := w0) cs (im n c).2.2 h2 hL2
    simp only [imL]
    have l1 := I1.le
    have l2 := I2.le
    refine ⟨fun i => if i < (im n c).2.2 then ψ1 i else ψ2 i, Nat.le_trans l1 l2, fun i b hb => ?_, fun i h3 h4 => ?_, fun ψ' hψ => ?_⟩
    · rw [gS_app] at hb
      cases e : gS (im n c).2.1 i with
      | some b' => have := I1.dom i b' e; omega
      | none => rw [e] at hb; have := I2.dom i b (by simpa using hb); omega
    · rw [gS_app]
      by_cases q : i < (im n c).2.2
      · have := I1.all i h3 q
        cases e : gS (im n c).2.1 i with
        | some b' => rfl
        | none => rw [e] at this; cases this
      · have := I2.all i (by omega) h4
        cases e : gS (im n c).2.1 i with
        | some b' => rfl
        | none => simpa using this
    · obtain ⟨a1, a2, a3⟩ := I1.ok ψ' (fun i h3 h4 => by rw [hψ i h3 (by omega)]; exact if_pos h4)
      obtain ⟨c1, c2, c3⟩ := I2.ok ψ' (fun i h3 h4 => by rw [hψ i (by omega) h4]; exact if_neg (by omega))
      have sp : ∀ i b, gS ((im n c).2.1 ++ (imL (im n c).2.2 cs).2.1) i = some b → gS (im n c).2.1 i = some b ∨ gS (imL (im n c).2.2 cs).2.1 i = some b := fun i b hb => by
        rw [gS_app] at hb
        cases e : gS (im n c).2.1 i with
        | some b' => rw [e] at hb; exact .inl (by simpa using hb)
        | none => rw [e] at hb; exact .inr (by simpa using hb)
      refine ⟨by simp only [RepL]; exact ⟨y, ys, rfl, a1, c1⟩, fun i b hb => ?_, fun i j b b' hb hb' hne => ?_⟩
      · rcases sp i b hb with hb | hb
        · obtain ⟨q1, q2⟩ := a2 i b hb
          exact ⟨q1, fun k hk => ⟨List.mem_append_left _ (q2 k hk).1, (q2 k hk).2⟩⟩
        · obtain ⟨q1, q2⟩ := c2 i b hb
          exact ⟨q1, fun k hk => ⟨List.mem_append_right _ (q2 k hk).1, (q2 k hk).2⟩⟩
      · have cross : ∀ i j b b', gS (im n c).2.1 i = some b → gS (imL (im n c).2.2 cs).2.1 j = some b' → bk (ψ' i) = none ∨ bk (ψ' i) ≠ bk (ψ' j) := fun i j b b' hb hb' => by
          cases e : bk (ψ' i) with
          | none => exact .inl rfl
          | some k =>
            refine .inr fun e' => ?_
            exact hdis k (((a2 i b hb).2 k e).1) k (((c2 j b' hb').2 k e'.symm).1) rfl
        rcases sp i b hb with hb | hb
        · rcases sp j b' hb' with hb' | hb'
          · exact a3 i j b b' hb hb' hne
          · exact cross i j b b' hb hb'
        · rcases sp j b' hb' with hb' | hb'
          · rcases cross j i b' b hb' hb with q | q
            · cases e : bk (ψ' i) with
              | none => exact .inl rfl
              | some k => exact .inr (by rw [q]; exact fun h => nomatch h)
            · exact .inr (Ne.symm q)
          · exact c3 i j b b' hb hb' hne
end
mutual
theorem im_st : ∀ (x : AV) (n : Nat), n ≤ (im n x).2.2 ∧ (∀ i b, gS (im n x).2.1 i = some b → (n ≤ i ∧ i < (im n x).2.2) ∧ ∀ j, b.fr j = true) ∧ (∀ i, n ≤ i → i < (im n x).2.2 → ∃ b, gS (im n x).2.1 i = some b) ∧ (okR x = true → ∀ j, ¬ (n ≤ j ∧ j < (im n x).2.2) → AV.fr j (im n x).1 = true)
  | .ow e sz xs, n => by
    simp only [im]
    refine ⟨by omega, fun i b h => ?_, fun i h1 h2 => ?_, fun _ j hj => ?_⟩
    · rw [gS_one] at h
      split at h
      · rename_i e'; obtain rfl := Option.some.inj h; exact ⟨⟨by omega, by omega⟩, fun _ => rfl⟩
      · cases h
    · exact ⟨_, by rw [gS_one, if_pos (by omega)]⟩
    · simp only [AV.fr, bne_iff_ne, ne_eq]; omega
  | .ag cs, n => by
    obtain ⟨h1, h2, h3, h4⟩ := imL_st cs n
    simp only [im]
    exact ⟨h1, h2, h3, fun h j hj => by simp only [AV.fr]; exact h4 (by simpa [okR] using h) j hj⟩
  | .tu cs, n => by
    obtain ⟨h1, h2, h3, h4⟩ := imL_st cs n
    simp only [im]
    exact ⟨h1, h2, h3, fun h j hj => by simp only [AV.fr]; exact h4 (by simpa [okR] using h) j hj⟩
  | .v x, n => ⟨Nat.le_refl _, fun i b h => by simp [im, gS] at h, fun i h1 h2 => by simp only [im] at h2; omega, fun _ j _ => rfl⟩
  | .u, n => ⟨Nat.le_refl _, fun i b h => by simp [im, gS] at h, fun i h1 h2 => by simp only [im] at h2; omega, fun h => by simp [okR] at h⟩
  | .pr _ _, n => ⟨Nat.le_refl _, fun i b h => by simp [im, gS] at h, fun i h1 h2 => by simp only [im] at h2; omega, fun h => by simp [okR] at h⟩
  | .lo _, n => ⟨Nat.le_refl _, fun i b h => by simp [im, gS] at h, fun i h1 h2 => by simp only [im] at h2; omega, fun h => by simp [okR] at h⟩
  | .bp _ _, n => ⟨Nat.le_refl _, fun i b h => by simp [im, gS] at h, fun i h1 h2 => by simp only [im] at h2; omega, fun h => by simp [okR] at h⟩
  | .pe _, n => ⟨Nat.le_refl _, fun i b h => by simp [im, gS] at h, fun i h1 h2 => by simp only [im] at h2; omega, fun h => by simp [okR] at h⟩
  | .le _ _ _ _, n => ⟨Nat.le_refl _, fun i b h => by simp [im, gS] at h, fun i h1 h2 => by simp only [im] at h2; omega, fun h => by simp [okR] at h⟩
  | .vw _ _ _ _, n => ⟨Nat.le_refl _, fun i b h => by simp [im, gS] at h, fun i h1 h2 => by simp only [im] at h2; omega, fun h => by simp [okR] at h⟩
theorem imL_st : ∀ (cs : List AV) (n : Nat), n ≤ (imL n cs).2.2 ∧ (∀ i b, gS (imL n cs).2.1 i = some b → (n ≤ i ∧ i < (imL n cs).2.2) ∧ ∀ j, b.fr j = true) ∧ (∀ i, n ≤ i → i < (imL n cs).2.2 → ∃ b, gS (imL n cs).2.1 i = some b) ∧ (okRL cs = true → ∀ j, ¬ (n ≤ j ∧ j < (imL n cs).2.2) → AV.frL j (imL n cs).1 = true)
  | [], n => ⟨Nat.le_refl _, fun i b h => by simp [imL, gS] at h, fun i h1 h2 => by simp only [imL] at h2; omega, fun _ j _ => rfl⟩
  | c :: cs, n => by
    obtain ⟨h1, h2, h3, h4⟩ := im_st c n
    obtain ⟨k1, k2, k3, k4⟩ := imL_st cs (im n c).2.2
    simp only [imL]
    refine ⟨Nat.le_trans h1 k1, fun i b h => ?_, fun i q1 q2 => ?_, fun h j hj => ?_⟩
    · rw [gS_app] at h
      cases e : gS (im n c).2.1 i with
      | some b' =>
        rw [e] at h
        obtain rfl : b' = b := by simpa using h
        obtain ⟨q, q'⟩ := h2 i _ e
        exact ⟨⟨q.1, by omega⟩, q'⟩
      | none =>
        rw [e] at h
        obtain ⟨q, q'⟩ := k2 i b (by simpa using h)
        exact ⟨⟨by omega, q.2⟩, q'⟩
    · rw [gS_app]
      by_cases q : i < (im n c).2.2
      · obtain ⟨b, hb⟩ := h3 i q1 q
        exact ⟨b, by rw [hb]; rfl⟩
      · cases e : gS (im n c).2.1 i with
        | some b => exact ⟨b, rfl⟩
        | none => simpa using k3 i (by omega) q2
    · simp only [okRL, Bool.and_eq_true] at h
      simp only [AV.frL, Bool.and_eq_true]
      exact ⟨h4 h.1 j (by omega), k4 h.2 j (by omega)⟩
end
mutual
theorem toP_fr {A : Nat → Prop} {s s1 : Sto} (hF : Fr A s s1) : ∀ {x : AV}, AIn A x → toP s1 x = toP s x
  | .lo id, h => by
    have : A id := Classical.byContradiction fun hn => by have := h id hn; simp [AV.fr] at this
    simp only [toP, hF.eq id this]
  | .vw id _ _ _, h => by
    have : A id := Classical.byContradiction fun hn => by have := h id hn; simp [AV.fr] at this
    simp only [toP, hF.eq id this]
  | .ag cs, h => by simp only [toP]; rw [toPL_fr hF (x := cs) fun j hj => by simpa [AV.fr] using h j hj]
  | .v x, _ => by cases x <;> first | rfl | (rename_i a n c; cases a <;> cases n <;> cases c <;> rfl)
  | .u, _ | .pr _ _, _ | .tu _, _ | .ow _ _ _, _ | .bp _ _, _ | .pe _, _ | .le _ _ _ _, _ => rfl
theorem toPL_fr {A : Nat → Prop} {s s1 : Sto} (hF : Fr A s s1) : ∀ {x : List AV}, LIn A x → toPL s1 x = toPL s x
  | [], _ => rfl
  | c :: cs, h => by
    simp only [toPL]
    rw [toP_fr hF (x := c) fun j hj => by have := h j hj; simp only [AV.frL, Bool.and_eq_true] at this; exact this.1, toPL_fr hF (x := cs) fun j hj => by have := h j hj; simp only [AV.frL, Bool.and_eq_true] at this; exact this.2]
end
theorem mapE_eq {t t1 : List AV} : ∀ {l : List Operand}, (∀ x ∈ l, eT t1 x = eT t x) → mapE t1 l = mapE t l
  | [], _ => rfl
  | x :: l, h => by simp only [mapE]; rw [h x (by simp), mapE_eq fun y hy => h y (by simp [hy])]
theorem mapE_in {A : Nat → Prop} {t : List AV} : ∀ {l : List Operand}, (∀ x ∈ l, AIn A (eT t x)) → LIn A (mapE t l)
  | [], _ => fun _ _ => rfl
  | x :: l, h => fun j hj => by simp only [mapE, AV.frL, Bool.and_eq_true]; exact ⟨h x (by simp) j hj, mapE_in (fun y hy => h y (by simp [hy])) j hj⟩
section
variable {P : Program} {ty : TypeId → Option TI} {w0 : Bs} {t : List AV} {s : Sto} {φ : Nat → Value} {a : Act} {w : World} {o : Oper} {d : Option Nat} {K : Kt} {Q : Exit → Act → World → Prop}
theorem bindW_inv {q : Bool} {res : AV} {d : Option Nat} (h : bindW q res d t s K) : (∃ x, res = .v x ∧ K (pT t d (.v x)) s) ∨ (d = none ∧ K t s) ∨ ∃ d', d = some d' ∧ ((im (16 * d') res).2.1.all fun p => free p.1 t s) = true ∧ (im (16 * d') res).2.2 ≤ 16 * d' + 15 ∧ (q = true → okR res = true) ∧ K (sT t d' (im (16 * d') res).1) ((im (16 * d') res).2.1 ++ s) := by
  unfold bindW at h
  split at h
  · exact .inl ⟨_, rfl, h⟩
  · exact .inr (.inr ⟨_, rfl, h.2.1, h.2.2.1, fun hq => by have := h.1; subst hq; simpa using this, h.2.2.2⟩)
  · exact .inr (.inl ⟨rfl, h.2⟩)
theorem op_callA (S : Sim w0 t s φ a w) {f : FuncId} {l : List Operand} {ats : Array TypeId} {res : AV} (ho : o.op = .call ⟨.value (.func f), ⟨l⟩, ats⟩) (hc : Ctr P f (toPL s (mapE t l)) res) :
    (∀ x, res = .v x → o.wp P a w (NxA w0 φ a w o.dst (.v x) []) Q) ∧ (o.dst = none → o.wp P a w (NxA w0 φ a w none .u []) Q) ∧ ∀ d, o.dst = some d → o.wp P a w (NxA w0 φ a w (some d) (im (16 * d) res).1 (im (16 * d) res).2.1) Q := by
  have hC := hc.2 w (l.map a.eval) (Gl_below S.below w0.gl) (toPL_ok S (mapE_ok S l))
  have key : ∀ K' : Act → World → Prop, (∀ y L w2, RepR w.heap.size w2 res y L → L.Nodup → Below w.heap.size w w2 → K' (a.put o.dst y) w2) → o.wp P a w K' Q := fun K' hK => by
    unfold Oper.wp
    rw [run_call hc.1 ho]
    refine hC.mono ?_
    rintro e w2 ⟨y, L, rfl, h1, hL, h2⟩
    exact hK y L w2 h1 hL h2
  refine ⟨fun x hx => key _ fun y L w2 h1 hL h2 => ?_, fun hd => key _ fun y L w2 h1 hL h2 => ?_, fun d hd => key _ fun y L w2 h1 hL h2 => ?_⟩
  · subst hx
    simp only [RepR] at h1
    exact ⟨y, φ, rfl, h2, by simp only [Rep]; exact h1.1, fun _ _ => rfl, fun i b hb => by simp [gS] at hb, fun i j b c hb => by simp [gS] at hb⟩
  · rw [hd]
    exact ⟨y, φ, rfl, h2, by simp only [Rep], fun _ _ => rfl, fun i b hb => by simp [gS] at hb, fun i j b c hb => by simp [gS] at hb⟩
  · rw [hd]
    obtain ⟨ψ, I⟩ := im_ok S.below.size (w0 := w0) res (16 * d) h1 hL
    obtain ⟨a1, a2, a3⟩ := I.ok (fun i => if 16 * d ≤ i ∧ i < (im (16 * d) res).2.2 then ψ i else φ i) (fun i h3 h4 => if_pos ⟨h3, h4⟩)
    refine ⟨y, _, rfl, h2, a1, fun i hi => if_neg fun q => ?_, fun i b hb => ⟨(a2 i b hb).1, fun k hk => ((a2 i b hb).2 k hk).2⟩, a3⟩
    exact absurd (I.all i q.1 q.2) (by rw [hi]; exact Bool.false_ne_true)
theorem op_call (S : Sim w0 t s φ a w) {q : Bool} {f : FuncId} {l : List Operand} {ats : Array TypeId} {res : AV} (ho : o.op = .call ⟨.value (.func f), ⟨l⟩, ats⟩) (hc : Ctr P f (toPL s (mapE t l)) res) (h : bindW q res o.dst t s K) : o.wp P a w (Nx w0 K) Q := by
  obtain ⟨c1, c2, c3⟩ := op_callA (Q := Q) S ho hc
  rcases bindW_inv h with ⟨x, rfl, hK⟩ | ⟨hd, hK⟩ | ⟨d, hd, hf, hle, _, hK⟩
  · refine Oper.wp_mono (fun a' w' hn => ?_) (c1 x rfl)
    obtain ⟨ψ, hS⟩ := merge (s' := s) S hn (fun i b hb => by simp [gS] at hb) (fun i b hb => by simp [gS] at hb) (fun i => by simp [gS])
    exact ⟨ψ, _, _, hK, hS⟩
  · refine Oper.wp_mono (fun a' w' hn => ?_) (c2 hd)
    obtain ⟨ψ, hS⟩ := merge (s' := s) S hn (fun i b hb => by simp [gS] at hb) (fun i b hb => by simp [gS] at hb) (fun i => by simp [gS])
    exact ⟨ψ, _, _, hK, hS⟩
  · have h15 : ∀ i b, gS (im (16 * d) res).2.1 i = some b → i % 16 ≠ 15 := fun i b hb => by obtain ⟨⟨q1, q2⟩, _⟩ := (im_st res (16 * d)).2.1 i b hb; exact own15 q1 (by omega)
    refine Oper.wp_mono (fun a' w' hn => ?_) (c3 d hd)
    have hf' : ∀ i b, gS (im (16 * d) res).2.1 i = some b → AV.frL i (pT t (some d) .u) = true ∧ ∀ j c, gS s j = some c → gS (im (16 * d) res).2.1 j = none → c.fr i = true := fun i b hb => by
      have hfr := free_blk (free_pT (List.all_eq_true.1 hf _ (gS_mem hb)) (some d))
      exact ⟨hfr.1, fun j c hj _ => hfr.2 j c hj⟩
    obtain ⟨ψ, hS⟩ := merge (s' := (im (16 * d) res).2.1 ++ s) S hn hf' h15 (fun i => gS_app)
    exact ⟨ψ, _, _, hK, hS⟩
theorem op_turn (S : Sim w0 t s φ a w) {f : FuncId} {l : List Operand} {ats : Array TypeId} (ho : o.op = .call ⟨.value (.func f), ⟨l⟩, ats⟩) (h : turnW P f (mapE t l) o.dst t s K) : o.wp P a w (Nx w0 K) Q := by
  cases l with
  | nil => simp [mapE, turnW] at h
  | cons x l =>
    have hx := Sim_ev S x
    simp only [mapE] at h
    cases ex : eT t x with
    | lo id =>
      rw [ex] at h hx
      simp only [turnW] at h
      simp only [Rep] at hx
      cases eb : gS s id with
      | none => rw [eb] at h; simp [turnR] at h
      | some bl =>
        cases bl with
        | box tb cs => rw [eb] at h; simp [turnR] at h
        | row e sz xs =>
          rw [eb] at h
          cases ed : o.dst with
          | none => rw [ed] at h; simp [turnR] at h
          | some d =>
            rw [ed] at h
            simp only [turnR] at h
            obtain ⟨hp, ⟨ys, ⟨c1, c2, c3⟩, h4, hK⟩ | ⟨ys, ⟨c1, c2, c3⟩, hK⟩⟩ := h
            rotate_left
            · obtain ⟨b1, b2, b3⟩ := S.blk id _ eb
              have hrest : l.map a.eval = vluL (mapE t l) := RepL_plnE hp (mapE_ok S l)
              have hC := c3 w w0.heap.size (φ id) S.below.size b1
              unfold Oper.wp
              rw [run_call c1 ho]
              simp only [List.map_cons, hx.1, hrest]
              refine hC.mono ?_
              rintro ee w' ⟨rfl, q2, q3⟩
              show Nx w0 K (a.put o.dst _) w'
              have hbelow : Below w0.heap.size w0 w' := S.below.grown q3 S.below.size (fun k hk => own_base b1 k (by rw [bk_own b1]; exact hk))
              have hn : Sim w0 t (uS s id (.row e sz ys)) φ a w' := by
                refine Sim_upd S eb hbelow (fun m e' k hm hne hk => ?_) ⟨q2, c2, b3⟩ (fun k hk hG => q3.block k (Nat.lt_of_lt_of_le hk S.wsz) fun e => inn_ne S eb hk hG e.symm rfl) q3.size
                have hlt := (BlkOk_lt (S.blk m e' hm) hk).2
                refine q3.block k hlt (fun e => ?_)
                rcases S.apart m id _ _ hm eb hne with h9 | h9
                · rw [h9] at hk; cases hk
                · rw [hk] at h9; exact h9 e
              rw [ed]
              exact ⟨φ, _, _, hK, Sim_put hn (some d) (y := .v (.tuple #[])) (by simp only [Rep])⟩
            obtain ⟨b1, b2, b3⟩ := S.blk id _ eb
            have hrest : l.map a.eval = vluL (mapE t l) := RepL_plnE hp (mapE_ok S l)
            have hC := c3 w w0.heap.size (φ id) S.below.size b1
            unfold Oper.wp
            rw [run_call c1 ho]
            simp only [List.map_cons, hx.1, hrest]
            refine hC.mono ?_
            rintro ee w' ⟨v', rfl, q2, q3, q4⟩
            show Nx w0 K (a.put o.dst v') w'
            have S' := Sim_drop S id
            have hbelow : Below w0.heap.size w0 w' := S.below.grown q3 S.below.size (fun k hk => own_base b1 k (by rw [bk_own b1]; exact hk))
            have hpv : plainV v' = true := by obtain ⟨A, c, rfl⟩ := own_slice q2; rfl
            refine ⟨upd φ (16 * d) v', _, _, hK, ?_⟩
            have hn : Sim w0 t (uS (dS s id) (16 * d) (.row e sz ys)) (upd φ (16 * d) v') a w' := by
              have hkp : ∀ k, k < w0.ws.heap.size → ¬ w0.G k → w'.heap[k]? = w.heap[k]? := fun k hk hG => q3.block k (Nat.lt_of_lt_of_le hk S.wsz) fun e => inn_ne S eb hk hG e.symm rfl
              have hyn : ∀ k, bk v' = some k → w0.G k ∨ w0.ws.heap.size ≤ k := fun k hk => by
                rcases q4 k hk with q | q
                · exact S.inn id _ k eb q
                · exact .inr (Nat.le_trans S.wsz q)
              refine Sim_new S' h4 hbelow (fun m e' k hm hne hk => ?_) ?_ (by omega) hkp hyn q3.size
              · rw [gS_dS] at hm
                split at hm
                · cases hm
                · rename_i hmi
                  have hlt := (BlkOk_lt (S.blk m e' hm) hk).2
                  have hne2 : bk (φ id) ≠ some k := by
                    rcases S.apart m id _ _ hm eb (fun e => hmi e.symm) with h9 | h9
                    · rw [h9] at hk; cases hk
                    · rw [hk] at h9; exact fun e => h9 e.symm
                  refine ⟨q3.block k hlt (fun e => hne2 e.symm), fun e => ?_⟩
                  rcases q4 k e with q | q
                  · exact hne2 q
                  · omega
              · show _ ∧ _
                rw [upd_same]
                exact ⟨q2, c2, b3⟩
            rw [ed]
            exact Sim_put hn (some d) (y := .lo (16 * d)) (by simp only [Rep]; rw [upd_same]; exact ⟨rfl, hpv⟩)
    | _ => rw [ex] at h; simp [turnW] at h
theorem subS_at : ∀ {S : Sto} {s : Sto} {i : Nat} {b : Blk}, subS s S → gS S i = some b → gS s i = some b
  | [], _, _, _, _, h => by simp [gS] at h
  | (j, c) :: S, s, i, b, hs, h => by
    simp only [subS] at hs
    simp only [gS] at h
    split at h
    · rename_i e; subst e; obtain rfl := Option.some.inj h; exact hs.1
    · exact subS_at hs.2 h
theorem gS_key : ∀ {S S' : Sto}, S'.map (·.1) = S.map (·.1) → ∀ {i : Nat}, (gS S' i).isSome = (gS S i).isSome
  | [], [], _, _ => rfl
  | [], _ :: _, h, _ => by simp at h
  | _ :: _, [], h, _ => by simp at h
  | (i, b) :: S, (j, c) :: S', h, k => by
    simp only [List.map_cons, List.cons.injEq] at h
    obtain ⟨rfl, h⟩ := h
    simp only [gS]
    split
    · rfl
    · exact gS_key h
theorem uSL_at : ∀ (S : Sto) (s : Sto), (S.map (·.1)).Nodup → ∀ i, gS (uSL s S) i = (gS S i).or (gS s i)
  | [], _, _, _ => by simp [uSL, gS]
  | (j, c) :: S, s, hn, i => by
    simp only [List.map_cons, List.nodup_cons] at hn
    simp only [uSL]
    rw [uSL_at S _ hn.2, gS_uS]
    simp only [gS]
    by_cases e : j = i
    · subst e
      have : gS S j = none := by
        cases e : gS S j with
        | none => rfl
        | some b => exact absurd (List.mem_map.2 ⟨_, gS_mem e, rfl⟩) hn.1
      simp [this]
    · simp [e]
theorem op_mark (S : Sim w0 t s φ a w) {f : FuncId} {l : List Operand} {ats : Array TypeId} {R R' : Sto} {res : AV} (ho : o.op = .call ⟨.value (.func f), ⟨l⟩, ats⟩) {q : Bool} (hc : CtrB P f (mapE t l) R res R') (hR : subS s R) (h : bindW q res o.dst t (uSL s R') K) : o.wp P a w (Nx w0 K) Q := by
  obtain ⟨c1, c2, c0, _, c3⟩ := hc
  have hC := c3 w0 w φ (l.map a.eval) w0.gl S.below (mapE_ok S l) (fun i b hb => S.blk i b (subS_at hR hb)) (fun i j b c hb hc hne => S.apart i j b c (subS_at hR hb) (subS_at hR hc) hne)
  unfold Oper.wp
  rw [run_call c1 ho]
  refine hC.mono ?_
  rintro e w' ⟨y, L, rfl, hres, hL, hb, hsz, hB, hk⟩
  show Nx w0 K (a.put o.dst y) w'
  have at' : ∀ i, gS (uSL s R') i = (gS R' i).or (gS s i) := uSL_at R' s c0
  have key : ∀ i c, gS (uSL s R') i = some c → ∃ c', gS s i = some c' := fun i c h => by
    rw [at'] at h
    cases e : gS R' i with
    | some b =>
      have := gS_key c2 (i := i)
      rw [e] at this
      cases e2 : gS R i with
      | none => rw [e2] at this; cases this
      | some b' => exact ⟨b', subS_at hR e2⟩
    | none => rw [e] at h; exact ⟨c, by simpa using h⟩
  have hS : Sim w0 t (uSL s R') φ a w' := by
    refine ⟨hb, S.defs, S.tmp, fun i c h => ?_, fun i j c c' h h' hne => ?_, S.fix, fun k hk1 hG => ?_, fun i c k h hk' => ?_, Nat.le_trans S.wsz hsz⟩
    · rw [at'] at h
      cases e : gS R' i with
      | some b =>
        rw [e] at h
        obtain rfl : b = c := by simpa using h
        exact hB i _ e
      | none =>
        rw [e] at h
        have h : gS s i = some c := by simpa using h
        refine BlkOk_world (S.blk i c h) fun k hk' => hk k (BlkOk_lt (S.blk i c h) hk').2 fun j b hj hj' => ?_
        have hne : i ≠ j := fun e' => by
          have := gS_key c2 (i := i)
          rw [e, e', hj] at this; cases this
        rcases S.apart i j c b h (subS_at hR hj) hne with q | q
        · rw [q] at hk'; cases hk'
        · exact q (hk'.trans hj'.symm)
    · obtain ⟨d1, h1⟩ := key i c h
      obtain ⟨d2, h2⟩ := key j c' h'
      exact S.apart i j d1 d2 h1 h2 hne
    · exact (hk k (Nat.lt_of_lt_of_le hk1 S.wsz) fun i b hi e => inn_ne S (subS_at hR hi) hk1 hG e rfl).trans (S.kept k hk1 hG)
    · obtain ⟨d1, h1⟩ := key i c h
      exact S.inn i d1 k h1 hk'
  have hlt : ∀ i b k, gS (uSL s R') i = some b → bk (φ i) = some k → k < w.heap.size := fun i b k h hk' => by
    obtain ⟨d1, h1⟩ := key i b h
    exact (BlkOk_lt (S.blk i d1 h1) hk').2
  rcases bindW_inv h with ⟨x, rfl, hK⟩ | ⟨hd, hK⟩ | ⟨d, hd, hf, hle, _, hK⟩
  · simp only [RepR] at hres
    exact ⟨φ, _, _, hK, Sim_put hS o.dst (y := .v x) (by simp only [Rep]; exact hres.1)⟩
  · rw [hd]
    exact ⟨φ, _, _, hK, hS⟩
  · rw [hd]
    obtain ⟨ψ, I⟩ := im_ok S.below.size (w0 := w0) res (16 * d) hres hL
    obtain ⟨a1, a2, a3⟩ := I.ok (fun i => if 16 * d ≤ i ∧ i < (im (16 * d) res).2.2 then ψ i else φ i) (fun i h3 h4 => if_pos ⟨h3, h4⟩)
    have hf' : ∀ i b, gS (im (16 * d) res).2.1 i = some b → AV.frL i (pT t (some d) .u) = true ∧ ∀ j c, gS (uSL s R') j = some c → gS (im (16 * d) res).2.1 j = none → c.fr i = true := fun i b hb => by
      have hfr := free_blk (free_pT (List.all_eq_true.1 hf _ (gS_mem hb)) (some d))
      exact ⟨hfr.1, fun j c hj _ => hfr.2 j c hj⟩
    have := merge2 hS hlt S.wsz (d := some d) a1 (fun i hi => if_neg fun q => absurd (I.all i q.1 q.2) (by rw [hi]; exact Bool.false_ne_true)) (fun i b hb => ⟨(a2 i b hb).1, fun k hk => ((a2 i b hb).2 k hk).2⟩) a3 hf' (fun i b hb => by obtain ⟨⟨q1, q2⟩, _⟩ := (im_st res (16 * d)).2.1 i b hb; exact own15 q1 (by omega)) (s' := (im (16 * d) res).2.1 ++ uSL s R') (fun i => gS_app)
    exact ⟨_, _, _, hK, this⟩
theorem op_view (S : Sim w0 t s φ a w) {f : FuncId} {l : List Operand} {ats : Array TypeId} {res : AV} (ho : o.op = .call ⟨.value (.func f), ⟨l⟩, ats⟩) (hc : CtrV P f (mapE t l) res) (hK : K (pT t o.dst res) s) : o.wp P a w (Nx w0 K) Q := by
  obtain ⟨c1, c2⟩ := hc
  unfold Oper.wp
  rw [run_call c1 ho]
  refine (c2 w0 w φ (l.map a.eval) w0.gl S.below (mapE_ok S l)).mono ?_
  rintro e w' ⟨y, rfl, hy, hb⟩
  show Nx w0 K (a.put o.dst y) w'
  exact ⟨φ, _, _, hK, Sim_put (Sim_below S hb) o.dst hy⟩
theorem noL_fr : ∀ {cs : List AV} (j : Nat), noL cs = true → AV.frL j cs = true
  | [], _, _ => rfl
  | .v _ :: l, j, h => by simp only [noL] at h; simp only [AV.frL, AV.fr, Bool.true_and]; exact noL_fr j h
  | .pr _ _ :: l, j, h => by simp only [noL] at h; simp only [AV.frL, AV.fr, Bool.true_and]; exact noL_fr j h
  | .u :: _, _, h | .ag _ :: _, _, h | .tu _ :: _, _, h | .ow _ _ _ :: _, _, h | .lo _ :: _, _, h | .bp _ _ :: _, _, h | .pe _ :: _, _, h | .le _ _ _ _ :: _, _, h | .vw _ _ _ _ :: _, _, h => by simp [noL] at h
theorem op_newvar (S : Sim w0 t s φ a w) {f : FuncId} {l : List Operand} {ats : Array TypeId} {tb : TypeId} {cs : List AV} {d : Nat} (ho : o.op = .call ⟨.value (.func f), ⟨l⟩, ats⟩) (hc : CtrN P f (mapE t l) tb cs) (hd : o.dst = some d) (hno : noL cs = true) (hf : free (16 * d) t s = true)
    (hK : K (sT t d (.bp (16 * d) 0)) (uS s (16 * d) (.box tb cs))) : o.wp P a w (Nx w0 K) Q := by
  obtain ⟨c1, c3⟩ := hc
  have hC := c3 w0 w φ (l.map a.eval) w0.gl S.below (mapE_ok S l)
  unfold Oper.wp
  rw [run_call c1 ho]
  refine hC.mono ?_
  rintro e w' ⟨g, c, rfl, hg, hcell, hR, hb⟩
  show Nx w0 K (a.put o.dst _) w'
  rw [hd]
  have hn : NxA w0 φ a w (some d) (.bp (16 * d) 0) [(16 * d, .box tb cs)] (a.put (some d) (.pointer (some ⟨g, 0, none⟩))) w' := by
    have hdd : ∀ i c', gS [(16 * d, Blk.box tb cs)] i = some c' → i = 16 * d ∧ c' = .box tb cs := fun i c' h => by
      rw [gS_one] at h
      split at h
      · rename_i e; exact ⟨e.symm, (Option.some.inj h).symm⟩
      · cases h
    refine ⟨_, upd φ (16 * d) (.pointer (some ⟨g, 0, none⟩)), rfl, hb, by simp only [Rep]; exact ⟨_, upd_same _ _ _, rfl⟩, fun i hi => ?_, fun i c' h => ?_, fun i j c1 c2 q1 q2 hne => absurd ((hdd i c1 q1).1.trans (hdd j c2 q2).1.symm) hne⟩
    · refine upd_ne _ _ _ i fun e => ?_
      rw [e, gS_one, if_pos rfl] at hi; cases hi
    · obtain ⟨rfl, rfl⟩ := hdd i c' h
      refine ⟨⟨g, c, upd_same _ _ _, Nat.le_trans S.below.size hg, hcell, RepL_fr (upd_ne φ _ _) (noL_fr _ hno) hR⟩, fun k hk => ?_⟩
      rw [upd_same] at hk
      simp [bk] at hk; omega
  have hff := free_blk (free_pT hf (some d))
  obtain ⟨ψ, hS⟩ := merge (s' := uS s (16 * d) (.box tb cs)) S hn (fun i b hb => by
    rw [gS_one] at hb
    split at hb
    · rename_i e; subst e; exact ⟨hff.1, fun j c hj _ => hff.2 j c hj⟩
    · cases hb) (fun i b hb => by
    rw [gS_one] at hb
    split at hb
    · rename_i e; subst e; omega
    · cases hb) (uS_or s (16 * d) _)
  exact ⟨ψ, _, _, hK, hS⟩
theorem opX_ok (T : TyOk P ty) (S : Sim w0 t s φ a w) {q : Bool} (h : opX P ty q o.op o.type o.dst t s K) : o.wp P a w (Nx w0 K) Q := by
  by_cases hr : ro o.op = true
  · obtain ⟨y, hK, v, hy, hv⟩ := opX_ro T S hr h
    refine Oper.wp_of_quiet (C := Below w.heap.size w) (K := fun a' => a' = a.put o.dst v) (Below.refl _ _) (fun a' w' hw' ha' => ?_) ⟨v, fun w1 hw1 => hv w1 hw1, rfl⟩
    subst ha'
    exact ⟨φ, _, _, hK, Sim_put (Sim_below S hw') o.dst hy⟩
  · have hr : ro o.op = false := by simpa using hr
    cases ho : o.op with
    | assign x =>
      rw [ho] at h hr
      cases x with
      | const v =>
        cases v with
        | slice A n c =>
          obtain ⟨⟨rfl, rfl, rfl⟩, h⟩ := h
          exact FX_ok S (fx_nil T ho h)
        | _ => simp [ro] at hr
      | _ => simp [ro] at hr
    | slice b x lo hi mx => rw [ho] at hr; cases mx <;> first | (simp [ro] at hr; done) | (rw [ho] at h; simp [opX] at h; done)
    | alloc b => rw [ho] at h; exact FX_ok S (fx_alloc T ho h)
    | box b x => rw [ho] at h; exact FX_ok S (fx_box ho h)
    | store b ad x => rw [ho] at h; exact op_store T S ho h.2.1 h.2.2
    | makeSlice b x y => rw [ho] at h; exact FX_ok S (fx_make T ho h)
    | buildSlice b n ps => rw [ho] at h; obtain ⟨ps⟩ := ps; exact FX_ok S (fx_lit T ho h)
    | call c =>
      rw [ho] at h hr
      obtain ⟨callee, ⟨args⟩, ⟨ats⟩⟩ := c
      simp only [opX] at h
      cases callee with
      | value f =>
        cases f with
        | func f =>
          simp only [cW] at h
          rcases h with ⟨res, hc, hb⟩ | ⟨_, h | ⟨tb, cs, d', h1, h2, h3, h4, h5⟩ | ⟨res, h1, h2⟩⟩ | ⟨R, res, R', h1, _, h2, h3⟩
          · exact op_call S ho hc hb
          · exact op_turn S ho h
          · exact op_newvar S ho h1 h2 h3 h4 h5
          · exact op_view S ho h1 h2
          · exact op_mark S ho h1 h2 h3
        | _ => simp [cW] at h
      | invoke r m => simp [cW] at h
      | builtin b =>
        cases b <;> first | (simp [ro] at hr; done) | (simp [cW] at h; done) | skip
        match args, ats, h, ho with
        | [x, y], [t1, t2], h, ho =>
          simp only [cW] at h
          obtain ⟨_, hb2, h⟩ := h
          exact op_append T S ho hb2 h
        | [], _, h, _ => simp [cW] at h
        | [_], _, h, _ => simp [cW] at h
        | [_, _], [], h, _ => simp [cW] at h
        | [_, _], [_], h, _ => simp [cW] at h
        | [_, _], _ :: _ :: _ :: _, h, _ => simp [cW] at h
        | _ :: _ :: _ :: _, _, h, _ => simp [cW] at h
    | _ => rw [ho] at h hr; first | (simp [ro] at hr; done) | (simp [opX] at h; done)
end
end Go.Proofs.YtdjdleldocfpaaaDoor.F
end

section
namespace Go.Proofs.YtdjdleldocfpaaaDoor.F
open Go.RowKit Go.Proofs.YtdjdleldocfpaaaDoorW.PrintWords Go.Proofs.YtdjdleldocfpaaaDoorW.PrintLast Go.Proofs.YtdjdleldocfpaaaDoorW.PrintMore
set_option linter.unusedVariables false
set_option linter.unusedSimpArgs false
theorem in_lo {A : Nat → Prop} {i : Nat} (h : AIn A (.lo i)) : A i := Classical.byContradiction fun hn => by have := h i hn; simp [AV.fr] at this
theorem in_bp {A : Nat → Prop} {i o : Nat} (h : AIn A (.bp i o)) : A i := Classical.byContradiction fun hn => by have := h i hn; simp [AV.fr] at this
theorem in_le {A : Nat → Prop} {i z o : Nat} {n : Int} (h : AIn A (.le i z n o)) : A i := Classical.byContradiction fun hn => by have := h i hn; simp [AV.fr] at this
theorem in_vw {A : Nat → Prop} {i z a b : Nat} (h : AIn A (.vw i z a b)) : A i := Classical.byContradiction fun hn => by have := h i hn; simp [AV.fr] at this
theorem frL_dp {j : Nat} : ∀ {n : Nat} {l : List AV}, AV.frL j l = true → AV.frL j (dp n l) = true
  | 0, l, h => by cases l <;> exact h
  | n + 1, [], h => h
  | n + 1, x :: l, h => by simp only [AV.frL, Bool.and_eq_true] at h; simp only [dp]; exact frL_dp h.2
theorem frL_tk {j : Nat} : ∀ {n : Nat} {l : List AV}, AV.frL j l = true → AV.frL j (tk n l) = true
  | 0, l, h => by cases l <;> rfl
  | n + 1, [], h => rfl
  | n + 1, x :: l, h => by simp only [AV.frL, Bool.and_eq_true] at h; simp only [tk, AV.frL, Bool.and_eq_true]; exact ⟨h.1, frL_tk h.2⟩
theorem fr_cut {j : Nat} {g : Bool} {n : Nat} {l : List AV} (h : AV.frL j l = true) : AV.fr j (cutA g n l) = true := by
  cases g with
  | true => simp only [cutA, AV.fr]; exact frL_tk h
  | false =>
    cases l with
    | nil => rfl
    | cons x l => simp only [AV.frL, Bool.and_eq_true] at h; exact h.1
theorem frL_putA {j : Nat} : ∀ {n : Nat} {c cs : List AV}, AV.frL j c = true → AV.frL j cs = true → AV.frL j (putA n c cs) = true
  | n, [], cs, _, h => by cases n <;> cases cs <;> exact h
  | 0, y :: ys, [], _, _ => rfl
  | n + 1, y :: ys, [], _, _ => rfl
  | 0, y :: ys, x :: l, hc, h => by
    simp only [AV.frL, Bool.and_eq_true] at h hc
    simp only [putA, AV.frL, Bool.and_eq_true]
    exact ⟨hc.1, frL_putA hc.2 h.2⟩
  | n + 1, y :: ys, x :: l, hc, h => by
    simp only [AV.frL, Bool.and_eq_true] at h
    simp only [putA, AV.frL, Bool.and_eq_true]
    exact ⟨h.1, frL_putA hc h.2⟩
section
variable {P : Program} {ty : TypeId → Option TI} {w0 : Bs} {t : List AV} {s : Sto} {φ : Nat → Value} {a : Act} {w : World} {o : Oper} {d : Option Nat} {K : Kt} {Q : Exit → Act → World → Prop}
theorem q_load {I : Option TI} {x : AV} (h : loadW ty I x d t s K) : ∃ y, K (pT t d y) s ∧ ∀ A s1, AIn A x → Fr A s s1 → AIn A y ∧ loadW ty I x (some 0) [.u] s1 (fun u _ => u = [y]) := by
  unfold loadW at h
  split at h
  · rename_i i id off
    cases e : gS s id with
    | none => rw [e] at h; exact h.elim
    | some b =>
      cases b with
      | row e' sz xs => rw [e] at h; exact h.elim
      | box tb cs =>
        rw [e] at h
        refine ⟨_, h.2, fun A s1 hx hF => ⟨fun j hj => fr_cut (frL_dp (by have := hF.cl id _ (in_bp hx) e j hj; simpa [Blk.fr] using this)), ?_⟩⟩
        simp only [loadW]
        rw [hF.eq id (in_bp hx), e]
        exact ⟨h.1, rfl⟩
  · rename_i i cs
    exact ⟨_, h.2, fun A s1 hx hF => ⟨fun j hj => fr_cut (frL_vs _), h.1, rfl⟩⟩
  · rename_i i id z n off
    cases e : gS s id with
    | none => rw [e] at h; exact h.elim
    | some b =>
      cases b with
      | box tb cs => rw [e] at h; exact h.elim
      | row e' sz xs =>
        rw [e] at h
        obtain ⟨q, h1, h2, h3, h4, h5⟩ := h
        refine ⟨_, h5, fun A s1 hx hF => ⟨fun j hj => fr_cut (frL_dp (frL_vs _)), ?_⟩⟩
        simp only [loadW]
        rw [hF.eq id (in_le hx), e]
        exact ⟨q, h1, h2, h3, h4, rfl⟩
  · exact h.elim
theorem q_fa {I : Option Nat} {x : AV} (h : faW I x d t s K) : ∃ y, K (pT t d y) s ∧ ∀ A s1, AIn A x → AIn A y ∧ faW I x (some 0) [.u] s1 (fun u _ => u = [y]) := by
  unfold faW at h
  split at h
  · exact ⟨_, h, fun A s1 hx => ⟨fun j hj => hx j hj, rfl⟩⟩
  · exact ⟨_, h, fun A s1 hx => ⟨fun j hj => rfl, rfl⟩⟩
  · exact ⟨_, h, fun A s1 hx => ⟨fun j hj => hx j hj, rfl⟩⟩
  · exact h.elim
theorem q_idx {I : Option TI} {x iv : AV} (h : idxW ty I x iv d t s K) : ∃ y, K (pT t d y) s ∧ ∀ A s1, AIn A x → Fr A s s1 → AIn A y ∧ idxW ty I x iv (some 0) [.u] s1 (fun u _ => u = [y]) := by
  unfold idxW at h
  split at h
  · obtain ⟨z, h1, h2, h3, h4, h5⟩ := h
    exact ⟨_, h5, fun A s1 hx hF => ⟨fun j hj => rfl, z, h1, h2, h3, h4, rfl⟩⟩
  · rename_i ti id k n
    cases e : gS s id with
    | none => rw [e] at h; exact h.elim
    | some b =>
      cases b with
      | box tb cs => rw [e] at h; exact h.elim
      | row e' sz xs =>
        rw [e] at h
        obtain ⟨h1, h2, h3, h4⟩ := h
        refine ⟨_, h4, fun A s1 hx hF => ⟨fun j hj => hx j hj, ?_⟩⟩
        simp only [idxW]
        rw [hF.eq id (in_lo hx), e]
        exact ⟨h1, h2, h3, rfl⟩
  · rename_i ti id z lo hi k n
    cases e : gS s id with
    | none => rw [e] at h; exact h.elim
    | some b =>
      cases b with
      | box tb cs => rw [e] at h; exact h.elim
      | row e' sz xs =>
        rw [e] at h
        obtain ⟨h1, h2, h3, h4, h5⟩ := h
        refine ⟨_, h5, fun A s1 hx hF => ⟨fun j hj => hx j hj, ?_⟩⟩
        simp only [idxW]
        rw [hF.eq id (in_vw hx), e]
        exact ⟨h1, h2, h3, h4, rfl⟩
  · obtain ⟨h1, h2, h3, h4, h5⟩ := h
    exact ⟨_, h5, fun A s1 hx hF => ⟨fun j hj => hx j hj, h1, h2, h3, h4, rfl⟩⟩
  · exact h.elim
theorem q_len {x : AV} (h : lenW x d t s K) : ∃ y, K (pT t d y) s ∧ ∀ A s1, AIn A x → Fr A s s1 → AIn A y ∧ lenW x (some 0) [.u] s1 (fun u _ => u = [y]) := by
  unfold lenW at h
  split at h
  · exact ⟨_, h, fun A s1 hx hF => ⟨fun j hj => rfl, rfl⟩⟩
  · rename_i id
    cases e : gS s id with
    | none => rw [e] at h; exact h.elim
    | some b =>
      cases b with
      | box tb cs => rw [e] at h; exact h.elim
      | row e' sz xs =>
        rw [e] at h
        refine ⟨_, h, fun A s1 hx hF => ⟨fun j hj => rfl, ?_⟩⟩
        simp only [lenW]
        rw [hF.eq id (in_lo hx), e]
        rfl
  · rename_i id z lo hi
    cases e : gS s id with
    | none => rw [e] at h; exact h.elim
    | some b =>
      cases b with
      | box tb cs => rw [e] at h; exact h.elim
      | row e' sz xs =>
        rw [e] at h
        refine ⟨_, h, fun A s1 hx hF => ⟨fun j hj => rfl, ?_⟩⟩
        simp only [lenW]
        rw [hF.eq id (in_vw hx), e]
        rfl
  · exact ⟨_, h, fun A s1 hx hF => ⟨fun j hj => rfl, rfl⟩⟩
  · exact ⟨_, h, fun A s1 hx hF => ⟨fun j hj => rfl, rfl⟩⟩
  · exact h.elim
theorem q_bin {b : TypeId} {I : Option TI} {op : BinOp} {x y : AV} (h : binX P b I op x y d t s K) : ∃ v, K (pT t d v) s ∧ ∀ (A : Nat → Prop) s1, AIn A v ∧ binX P b I op x y (some 0) [.u] s1 (fun u _ => u = [v]) := by
  unfold binX at h
  split at h
  · exact ⟨_, h.2, fun A s1 => ⟨fun j hj => rfl, h.1, rfl⟩⟩
  · exact ⟨_, h.2, fun A s1 => ⟨fun j hj => rfl, h.1, rfl⟩⟩
  · obtain ⟨p1, p2, r, h1, h2⟩ := h
    exact ⟨_, h2, fun A s1 => ⟨fun j hj => rfl, p1, p2, r, h1, rfl⟩⟩
  · obtain ⟨p1, p2, r, h1, h2⟩ := h
    exact ⟨_, h2, fun A s1 => ⟨fun j hj => rfl, p1, p2, r, h1, rfl⟩⟩
  · rcases binW_inv h with ⟨k, m, k', n, rfl, rfl, h1, h2, h3⟩ | ⟨m, n, rfl, rfl, h1, h3⟩
    · refine ⟨_, h3, fun A s1 => ⟨fun j hj => rfl, ?_⟩⟩
      have : binX P b I op (.v (.int k m)) (.v (.int k' n)) (some 0) [.u] s1 (fun u _ => u = [.v (bval op k m n)]) = binW op (.v (.int k m)) (.v (.int k' n)) (some 0) [.u] s1 (fun u _ => u = [.v (bval op k m n)]) := by unfold binX; split <;> simp_all
      rw [this]
      unfold binW
      exact ⟨h1, h2, rfl⟩
    · refine ⟨_, h3, fun A s1 => ⟨fun j hj => rfl, ?_⟩⟩
      have : binX P b I op (.v (.string m)) (.v (.string n)) (some 0) [.u] s1 (fun u _ => u = [.v (sval op m n)]) = binW op (.v (.string m)) (.v (.string n)) (some 0) [.u] s1 (fun u _ => u = [.v (sval op m n)]) := by unfold binX; split <;> simp_all
      rw [this]
      unfold binW
      exact ⟨h1, rfl⟩
theorem q_pick {c x y : AV} (h : pickW c x y d t s K) : ∃ v, K (pT t d v) s ∧ ∀ A s1, AIn A x → AIn A y → AIn A v ∧ pickW c x y (some 0) [.u] s1 (fun u _ => u = [v]) := by
  unfold pickW at h
  split at h
  · exact ⟨_, h, fun A s1 hx hy => ⟨hx, rfl⟩⟩
  · exact ⟨_, h, fun A s1 hx hy => ⟨hy, rfl⟩⟩
  · exact h.elim
theorem q_not {x : AV} (h : notW x d t s K) : ∃ v, K (pT t d v) s ∧ ∀ (A : Nat → Prop) s1, AIn A v ∧ notW x (some 0) [.u] s1 (fun u _ => u = [v]) := by
  obtain ⟨b, rfl, h⟩ := notW_inv h
  exact ⟨_, h, fun A s1 => ⟨fun j hj => rfl, rfl⟩⟩
theorem q_exW : ∀ {cs : List AV} {n : Nat}, exW cs n d t s K → ∃ v, K (pT t d v) s ∧ ∀ A s1, LIn A cs → AIn A v ∧ exW cs n (some 0) [.u] s1 (fun u _ => u = [v])
  | [], n, h => by cases n <;> exact h.elim
  | x :: l, 0, h => ⟨_, h, fun A s1 hx => ⟨fun j hj => by have := hx j hj; simp only [AV.frL, Bool.and_eq_true] at this; exact this.1, rfl⟩⟩
  | x :: l, n + 1, h => by
    obtain ⟨v, h1, h2⟩ := q_exW (cs := l) (n := n) h
    exact ⟨v, h1, fun A s1 hx => h2 A s1 fun j hj => by have := hx j hj; simp only [AV.frL, Bool.and_eq_true] at this; exact this.2⟩
theorem q_ext {x : AV} {n : Nat} (h : extW x n d t s K) : ∃ v, K (pT t d v) s ∧ ∀ A s1, AIn A x → AIn A v ∧ extW x n (some 0) [.u] s1 (fun u _ => u = [v]) := by
  unfold extW at h
  split at h
  · obtain ⟨v, h1, h2⟩ := q_exW h
    exact ⟨v, h1, fun A s1 hx => h2 A s1 fun j hj => by simpa [AV.fr] using hx j hj⟩
  · exact h.elim
theorem rdS_frame {sz : Nat} {x : AV} {A : Nat → Prop} {s s1 : Sto} {ys : List (List Value)} (hx : AIn A x) (hF : Fr A s s1) (h : rdS sz x s = some ys) : rdS sz x s1 = some ys := by
  cases x with
  | lo id => simp only [rdS] at h ⊢; rw [hF.eq id (in_lo hx)]; exact h
  | vw id z lo hi => simp only [rdS] at h ⊢; rw [hF.eq id (in_vw hx)]; exact h
  | v u =>
    unfold rdS at h ⊢
    split at h <;> first | (rename_i e; cases e; done) | (rename_i e; injection e with e; subst e; exact h) | cases h
  | _ => exact h
theorem q_cnv {I J : Option TI} {x : AV} (h : cnvW ty I J x d t s K) : ∃ v, K (pT t d v) s ∧ ∀ (A : Nat → Prop) s1, AIn A x → Fr A s s1 → AIn A v ∧ cnvW ty I J x (some 0) [.u] s1 (fun u _ => u = [v]) := by
  unfold cnvW at h
  split at h
  · obtain ⟨k', h1, h2⟩ := h
    exact ⟨_, h2, fun A s1 _ _ => ⟨fun j hj => rfl, k', h1, rfl⟩⟩
  · rename_i i j _ _ _ _ _ hne
    obtain ⟨h1, h2, ns, h3, h4⟩ := h
    obtain ⟨ys, h5, h6⟩ := Option.bind_eq_some_iff.1 h3
    refine ⟨_, h4, fun A s1 hx hF => ⟨fun j hj => rfl, ?_⟩⟩
    unfold cnvW
    split
    · rename_i e1 e2; exact absurd rfl (hne _ _)
    · rename_i e1 e2 e3
      obtain rfl := Option.some.inj e1
      obtain rfl := Option.some.inj e2
      exact ⟨h1, h2, ns, by rw [rdS_frame hx hF h5]; exact h6, rfl⟩
    · rename_i h7 _; exact absurd rfl (h7 _ _ rfl)
  · exact h.elim
theorem q_neg {x : AV} (h : negW x d t s K) : ∃ v, K (pT t d v) s ∧ ∀ (A : Nat → Prop) s1, AIn A v ∧ negW x (some 0) [.u] s1 (fun u _ => u = [v]) := by
  unfold negW at h
  split at h
  · exact ⟨_, h, fun A s1 => ⟨fun j hj => rfl, rfl⟩⟩
  · exact h.elim
theorem q_idxS {I : Option TI} {x y : AV} (h : idxS I x y d t s K) : ∃ v, K (pT t d v) s ∧ ∀ (A : Nat → Prop) s1, AIn A v ∧ idxS I x y (some 0) [.u] s1 (fun u _ => u = [v]) := by
  unfold idxS at h
  split at h
  · obtain ⟨h1, h2, h3, h4⟩ := h
    exact ⟨_, h4, fun A s1 => ⟨fun j hj => rfl, h1, h2, h3, rfl⟩⟩
  · exact h.elim
theorem q_chk {x : AV} (h : chkW x d t s K) : ∃ v, K (pT t d v) s ∧ ∀ A s1, AIn A x → AIn A v ∧ chkW x (some 0) [.u] s1 (fun u _ => u = [v]) := by
  unfold chkW at h
  split at h
  · exact ⟨_, h, fun A s1 hx => ⟨hx, rfl⟩⟩
  · exact ⟨_, h, fun A s1 hx => ⟨hx, rfl⟩⟩
  · exact ⟨_, h, fun A s1 hx => ⟨hx, rfl⟩⟩
  · exact h.elim
theorem q_mm {b : Bool} {x y : AV} (h : mmW b x y d t s K) : ∃ v, K (pT t d v) s ∧ ∀ (A : Nat → Prop) s1, AIn A v ∧ mmW b x y (some 0) [.u] s1 (fun u _ => u = [v]) := by
  unfold mmW at h
  split at h
  · exact ⟨_, h, fun A s1 => ⟨fun j hj => rfl, rfl⟩⟩
  · exact ⟨_, h, fun A s1 => ⟨fun j hj => rfl, rfl⟩⟩
  · exact h.elim
theorem q_slc {I : Option TI} {x : AV} {lo hi : Option AV} (h : slcW ty I x lo hi d t s K) : ∃ y, K (pT t d y) s ∧ ∀ A s1, AIn A x → Fr A s s1 → AIn A y ∧ slcW ty I x lo hi (some 0) [.u] s1 (fun u _ => u = [y]) := by
  unfold slcW at h
  split at h
  · obtain ⟨j, ej, h⟩ := h
    cases el : loN lo with
    | none => rw [el] at h; simp [slcP] at h
    | some l =>
      rw [el] at h
      obtain ⟨q, h1, h2, h3, h4, h5, h6⟩ := h
      refine ⟨_, h6, fun A s1 hx hF => ⟨fun j hj => rfl, ?_⟩⟩
      exact ⟨j, ej, by rw [el]; exact ⟨q, h1, h2, h3, h4, h5, rfl⟩⟩
  · rename_i i id
    obtain ⟨j, ej, h⟩ := h
    cases e : gS s id with
    | none => rw [e] at h; simp [slcR] at h
    | some b =>
      cases b with
      | box tb cs => rw [e] at h; simp [slcR] at h
      | row e' sz xs =>
        rw [e] at h
        cases el : loN lo with
        | none => rw [el] at h; simp [slcR] at h
        | some l =>
          rw [el] at h
          obtain ⟨q, h1, h2, h3, h4, h5, h6⟩ := h
          refine ⟨_, h6, fun A s1 hx hF => ⟨fun j hj => hx j hj, ?_⟩⟩
          exact ⟨j, ej, by rw [hF.eq id (in_lo hx), e, el]; exact ⟨q, h1, h2, h3, h4, h5, rfl⟩⟩
  · obtain ⟨h1, h⟩ := h
    cases el : loN lo with
    | none => rw [el] at h; simp [slcS] at h
    | some l =>
      rw [el] at h
      obtain ⟨q, h2, h3, h4, h5, h6⟩ := h
      refine ⟨_, h6, fun A s1 hx hF => ⟨fun j hj => rfl, h1, ?_⟩⟩
      rw [el]; exact ⟨q, h2, h3, h4, h5, rfl⟩
  · exact h.elim
theorem bldC_eq {t1 : List AV} {pl : List (Nat × Nat)} : ∀ {ps : List (Nat × Operand)} {cs : List AV}, (∀ p ∈ ps, eT t1 p.2 = eT t p.2) → bldC pl t1 ps cs = bldC pl t ps cs
  | [], _, _ => rfl
  | (f, x) :: l, cs, h => by
    simp only [bldC]
    rw [h (f, x) (by simp)]
    congr 1
    funext cs'
    exact bldC_eq fun p hp => h p (by simp [hp])
theorem bldC_in {pl : List (Nat × Nat)} {j : Nat} : ∀ {ps : List (Nat × Operand)} {cs cs' : List AV}, (∀ p ∈ ps, AV.fr j (eT t p.2) = true) → AV.frL j cs = true → bldC pl t ps cs = some cs' → AV.frL j cs' = true
  | [], cs, cs', _, hc, h => by simp only [bldC, Option.some.injEq] at h; subst h; exact hc
  | (f, x) :: l, cs, cs', hp, hc, h => by
    simp only [bldC] at h
    obtain ⟨c1, h1, h2⟩ := Option.bind_eq_some_iff.1 h
    unfold bldP at h1
    split at h1
    · split at h1
      · obtain rfl := Option.some.inj h1
        exact bldC_in (fun p hp' => hp p (by simp [hp'])) (frL_putA (fr_cells (hp (f, x) (by simp))) hc) h2
      · cases h1
    · cases h1
theorem fx_of_ro (h : ∃ y, K (pT t o.dst y) s ∧ ∀ A s1 t1, (∀ x ∈ o.op.operands.toList, eT t1 x = eT t x ∧ AIn A (eT t x)) → Fr A s s1 → AIn A y ∧ ∀ w0 φ a w, Sim w0 t1 s1 φ a w → Ro P w0 φ a w o y) : FX P o t s K := by
  obtain ⟨y, hK, hr⟩ := h
  refine ⟨y, [], s, ⟨fun i b hb => by simp [gS] at hb, fun i b hb => by simp [gS] at hb, fun x hx i b hb => by simp [gS] at hb, fun A s1 t1 ha hF hA => ⟨fun j hj => (hr A s1 t1 ha hF).1 j fun h => hj (.inl h), fun i b hb => by simp [gS] at hb, fun w0 φ a w Q S => ?_⟩⟩, fun i => by simp [gS], hK⟩
  obtain ⟨v, hy, hv⟩ := (hr A s1 t1 ha hF).2 w0 φ a w S
  refine Oper.wp_of_quiet (C := Below w.heap.size w) (K := fun a' => a' = a.put o.dst v) (Below.refl _ _) (fun a' w' hw' ha' => ?_) ⟨v, fun w1 hw1 => hv w1 hw1, rfl⟩
  subst ha'
  exact ⟨v, φ, rfl, hw', hy, fun _ _ => rfl, fun i b hb => by simp [gS] at hb, fun i j b c hb => by simp [gS] at hb⟩
theorem fin {y : AV} {s1 : Sto} (h : ∃ y', (fun (u : List AV) (_ : Sto) => u = [y]) (pT [.u] (some 0) y') s1 ∧ Ro P w0 φ a w o y') : Ro P w0 φ a w o y := by
  obtain ⟨y', e, h⟩ := h
  obtain rfl : y' = y := by simpa [pT, sT] using e
  exact h
theorem fx_ro (T : TyOk P ty) {q : Bool} (hr : ro o.op = true) (h : opX P ty q o.op o.type o.dst t s K) : FX P o t s K := by
  apply fx_of_ro
  cases ho : o.op with
  | move x => rw [ho] at h; exact ⟨_, h, fun A s1 t1 ha hF => ⟨(ha x (by simp [Op.operands])).2, fun w0 φ a w S => fin (s1 := s1) (ro_move (K := fun u _ => u = [eT t x]) (t2 := [.u]) (d := some 0) S (.inl ho) (congrArg (· :: []) (ha x (by simp [Op.operands])).1))⟩⟩
  | assign x =>
    rw [ho] at h hr
    have h' : K (pT t o.dst (eT t x)) s := by
      cases x with
      | const v =>
        cases v with
        | slice A n c => simp [ro] at hr
        | _ => simpa [opX] using h
      | _ => simpa [opX] using h
    exact ⟨_, h', fun A s1 t1 ha hF => ⟨(ha x (by simp [Op.operands])).2, fun w0 φ a w S => fin (s1 := s1) (ro_move (K := fun u _ => u = [eT t x]) (t2 := [.u]) (d := some 0) S (.inr ho) (congrArg (· :: []) (ha x (by simp [Op.operands])).1))⟩⟩
  | pick c x y =>
    rw [ho] at h
    obtain ⟨v, h1, h2⟩ := q_pick h
    refine ⟨v, h1, fun A s1 t1 ha hF => ?_⟩
    have a1 := ha c (by simp [Op.operands]); have a2 := ha x (by simp [Op.operands]); have a3 := ha y (by simp [Op.operands])
    obtain ⟨q1, q2⟩ := h2 A s1 a2.2 a3.2
    rw [← a1.1, ← a2.1, ← a3.1] at q2
    exact ⟨q1, fun w0 φ a w S => fin (s1 := s1) (ro_pick S ho q2)⟩
  | load b x =>
    rw [ho] at h
    obtain ⟨v, h1, h2⟩ := q_load h
    refine ⟨v, h1, fun A s1 t1 ha hF => ?_⟩
    have a1 := ha x (by simp [Op.operands])
    obtain ⟨q1, q2⟩ := h2 A s1 a1.2 hF
    rw [← a1.1] at q2
    exact ⟨q1, fun w0 φ a w S => fin (s1 := s1) (ro_load T S ho q2)⟩
  | fieldAddr b x f =>
    rw [ho] at h
    obtain ⟨v, h1, h2⟩ := q_fa h
    refine ⟨v, h1, fun A s1 t1 ha hF => ?_⟩
    have a1 := ha x (by simp [Op.operands])
    obtain ⟨q1, q2⟩ := h2 A s1 a1.2
    rw [← a1.1] at q2
    exact ⟨q1, fun w0 φ a w S => fin (s1 := s1) (ro_fa T S ho q2)⟩
  | indexAddr b x i =>
    rw [ho] at h
    obtain ⟨v, h1, h2⟩ := q_idx h
    refine ⟨v, h1, fun A s1 t1 ha hF => ?_⟩
    have a1 := ha x (by simp [Op.operands]); have a2 := ha i (by simp [Op.operands])
    obtain ⟨q1, q2⟩ := h2 A s1 a1.2 hF
    rw [← a1.1, ← a2.1] at q2
    exact ⟨q1, fun w0 φ a w S => fin (s1 := s1) (ro_idx T S ho q2)⟩
  | binOp op b x y c =>
    rw [ho] at h
    obtain ⟨v, h1, h2⟩ := q_bin h
    refine ⟨v, h1, fun A s1 t1 ha hF => ?_⟩
    have a1 := ha x (by simp [Op.operands]); have a2 := ha y (by simp [Op.operands])
    obtain ⟨q1, q2⟩ := h2 A s1
    rw [← a1.1, ← a2.1] at q2
    exact ⟨q1, fun w0 φ a w S => fin (s1 := s1) (ro_bin T S ho q2)⟩
  | unOp op b x =>
    rw [ho] at h
    cases op with
    | not =>
      obtain ⟨v, h1, h2⟩ := q_not h
      refine ⟨v, h1, fun A s1 t1 ha hF => ?_⟩
      have a1 := ha x (by simp [Op.operands])
      obtain ⟨q1, q2⟩ := h2 A s1
      rw [← a1.1] at q2
      exact ⟨q1, fun w0 φ a w S => fin (s1 := s1) (ro_not S ho q2)⟩
    | neg =>
      obtain ⟨v, h1, h2⟩ := q_neg h
      refine ⟨v, h1, fun A s1 t1 ha hF => ?_⟩
      have a1 := ha x (by simp [Op.operands])
      obtain ⟨q1, q2⟩ := h2 A s1
      rw [← a1.1] at q2
      exact ⟨q1, fun w0 φ a w S => fin (s1 := s1) (ro_neg S ho q2)⟩
    | _ => exact h.elim
  | extract x n =>
    rw [ho] at h
    obtain ⟨v, h1, h2⟩ := q_ext h
    refine ⟨v, h1, fun A s1 t1 ha hF => ?_⟩
    have a1 := ha x (by simp [Op.operands])
    obtain ⟨q1, q2⟩ := h2 A s1 a1.2
    rw [← a1.1] at q2
    exact ⟨q1, fun w0 φ a w S => fin (s1 := s1) (ro_ext S ho q2)⟩
  | index b x i =>
    rw [ho] at h
    obtain ⟨v, h1, h2⟩ := q_idxS h
    refine ⟨v, h1, fun A s1 t1 ha hF => ?_⟩
    have a1 := ha x (by simp [Op.operands]); have a2 := ha i (by simp [Op.operands])
    obtain ⟨q1, q2⟩ := h2 A s1
    rw [← a1.1, ← a2.1] at q2
    exact ⟨q1, fun w0 φ a w S => fin (s1 := s1) (ro_idxS T S ho q2)⟩
  | convert b c x =>
    rw [ho] at h
    obtain ⟨v, h1, h2⟩ := q_cnv h
    refine ⟨v, h1, fun A s1 t1 ha hF => ?_⟩
    have a1 := ha x (by simp [Op.operands])
    obtain ⟨q1, q2⟩ := h2 A s1 a1.2 hF
    rw [← a1.1] at q2
    exact ⟨q1, fun w0 φ a w S => fin (s1 := s1) (ro_cnv T S ho q2)⟩
  | build b ps =>
    rw [ho] at h
    obtain ⟨ps⟩ := ps
    have hm : ∀ p ∈ ps, p.2 ∈ (Op.build b ⟨ps⟩).operands.toList := fun p hp => by simp only [Op.operands, List.mem_map]; exact ⟨p, hp, rfl⟩
    cases ei : ty b with
    | none => simp only [opX, ei] at h; exact h.elim
    | some i =>
      simp only [opX, ei] at h
      obtain ⟨g1, g0, cs, g2, g3⟩ := h
      refine ⟨_, g3, fun A s1 t1 ha hF => ⟨fun j hj => by simp only [AV.fr]; exact bldC_in (fun p hp => (ha p.2 (hm p hp)).2 j hj) (frL_vs _) g2, fun w0 φ a w S => fin (s1 := s1) (op_build (K := fun u _ => u = [.ag cs]) (t2 := [.u]) (d := some 0) T S ho ?_)⟩⟩
      rw [ei]
      exact ⟨g1, g0, cs, by rw [bldC_eq fun p hp => (ha p.2 (hm p hp)).1]; exact g2, rfl⟩
  | nilCheck x =>
    rw [ho] at h
    obtain ⟨v, h1, h2⟩ := q_chk h
    refine ⟨v, h1, fun A s1 t1 ha hF => ?_⟩
    have a1 := ha x (by simp [Op.operands])
    obtain ⟨q1, q2⟩ := h2 A s1 a1.2
    rw [← a1.1] at q2
    exact ⟨q1, fun w0 φ a w S => fin (s1 := s1) (ro_chk S ho q2)⟩
  | slice b x lo hi mx =>
    cases mx with
    | some m => rw [ho] at hr; simp [ro] at hr
    | none =>
      rw [ho] at h
      obtain ⟨v, h1, h2⟩ := q_slc h
      refine ⟨v, h1, fun A s1 t1 ha hF => ?_⟩
      have a1 := ha x (by simp [Op.operands])
      obtain ⟨q1, q2⟩ := h2 A s1 a1.2 hF
      have e1 : lo.map (eT t1) = lo.map (eT t) := by
        cases lo with
        | none => rfl
        | some y => exact congrArg some (ha y (by simp [Op.operands])).1
      have e2 : hi.map (eT t1) = hi.map (eT t) := by
        cases hi with
        | none => rfl
        | some y => exact congrArg some (ha y (by simp [Op.operands])).1
      rw [← a1.1, ← e1, ← e2] at q2
      exact ⟨q1, fun w0 φ a w S => fin (s1 := s1) (ro_slc T S ho q2)⟩
  | call c =>
    rw [ho] at h
    obtain ⟨callee, ⟨args⟩, ⟨ats⟩⟩ := c
    simp only [opX] at h
    cases callee with
    | value f => rw [ho] at hr; simp [ro] at hr
    | invoke r m => simp [cW] at h
    | builtin b =>
      rw [ho] at hr
      have mm : ∀ (mi : Bool) (x y : Operand), o.op = .call ⟨.builtin (if mi = true then .min else .max), ⟨[x, y]⟩, ⟨ats⟩⟩ → mmW mi (eT t x) (eT t y) o.dst t s K → ∃ y, K (pT t o.dst y) s ∧ ∀ A s1 t1, (∀ x ∈ o.op.operands.toList, eT t1 x = eT t x ∧ AIn A (eT t x)) → Fr A s s1 → AIn A y ∧ ∀ w0 φ a w, Sim w0 t1 s1 φ a w → Ro P w0 φ a w o y := fun mi x y ho h => by
        obtain ⟨v, h1, h2⟩ := q_mm h
        refine ⟨v, h1, fun A s1 t1 ha hF => ?_⟩
        have a1 := ha x (by rw [ho]; simp [Op.operands, Call.operands]); have a2 := ha y (by rw [ho]; simp [Op.operands, Call.operands])
        obtain ⟨q1, q2⟩ := h2 A s1
        rw [← a1.1, ← a2.1] at q2
        refine ⟨q1, fun w0 φ a w S => fin (s1 := s1) ?_⟩
        exact ro_mm S ho q2
      cases b <;> first | (simp [ro] at hr; done) | skip
      · match args, ats, h, ho with
        | [x], [b], h, ho =>
          obtain ⟨v, h1, h2⟩ := q_len h.2
          refine ⟨v, h1, fun A s1 t1 ha hF => ?_⟩
          have a1 := ha x (by simp [Op.operands, Call.operands])
          obtain ⟨q1, q2⟩ := h2 A s1 a1.2 hF
          rw [← a1.1] at q2
          exact ⟨q1, fun w0 φ a w S => fin (s1 := s1) (ro_len T S ho (by rw [a1.1]; exact h.1) q2)⟩
        | [], _, h, _ => simp [cW] at h
        | [_], [], h, _ => simp [cW] at h
        | [_], _ :: _ :: _, h, _ => simp [cW] at h
        | _ :: _ :: _, _, h, _ => simp [cW] at h
      · match args, h, ho with
        | [x, y], h, ho => have := mm false x y ho h; rw [ho] at this; exact this
        | [], h, _ => simp [cW] at h
        | [_], h, _ => simp [cW] at h
        | _ :: _ :: _ :: _, h, _ => simp [cW] at h
      · match args, h, ho with
        | [x, y], h, ho => have := mm true x y ho h; rw [ho] at this; exact this
        | [], h, _ => simp [cW] at h
        | [_], h, _ => simp [cW] at h
        | _ :: _ :: _ :: _, h, _ => simp [cW] at h
  | _ => rw [ho] at hr; simp [ro] at hr
theorem fx_any (T : TyOk P ty) (hr : rot (ty o.type) o.op = true) (h : opX P ty true o.op o.type o.dst t s K) (hC : isC o.op = false) : FX P o t s K := by
  by_cases h0 : ro o.op = true
  · exact fx_ro T h0 h
  · have h0 : ro o.op = false := by simpa using h0
    cases ho : o.op with
    | assign x =>
      rw [ho] at h h0
      cases x with
      | const v =>
        cases v with
        | slice A n c =>
          obtain ⟨⟨rfl, rfl, rfl⟩, h⟩ := h
          exact fx_nil T ho h
        | _ => simp [ro] at h0
      | _ => simp [ro] at h0
    | alloc b => rw [ho] at h; exact fx_alloc T ho h
    | box b x => rw [ho] at h; exact fx_box ho h
    | makeSlice b x y => rw [ho] at h; exact fx_make T ho h
    | buildSlice b n ps => rw [ho] at h; obtain ⟨ps⟩ := ps; exact fx_lit T ho h
    | slice b x lo hi mx => rw [ho] at h0 hr; cases mx <;> first | (simp [ro] at h0; done) | (simp [rot] at hr; done)
    | call c =>
      rw [ho] at h h0 hr
      obtain ⟨callee, ⟨args⟩, ⟨ats⟩⟩ := c
      simp only [opX] at h
      cases callee with
      | value f => rw [ho] at hC; simp [isC] at hC
      | invoke r m => simp [cW] at h
      | builtin b => cases b <;> first | (simp [ro] at h0; done) | (simp [rot] at hr; done)
    | _ => rw [ho] at h0 hr; first | (simp [ro] at h0; done) | (simp [rot] at hr; done)
theorem bno {b : Bool} {p : Prop} (h1 : b = false) (h2 : b = true) : p := absurd (h1.symm.trans h2) Bool.false_ne_true
def NxW (w0 : Bs) (φ : Nat → Value) (a : Act) (w : World) (d : Option Nat) (y : AV) (r : Sto) (a' : Act) (w' : World) : Prop :=
  ∃ v ψ, a' = a.put d v ∧ Below w0.heap.size w0 w' ∧ w.heap.size ≤ w'.heap.size ∧ (∀ k, k < w.heap.size → (∀ i b, gS r i = some b → i % 16 = 15 → bk (φ i) ≠ some k) → w'.heap[k]? = w.heap[k]?) ∧ Rep w0.heap.size w0 ψ y v ∧ (∀ i, gS r i = none ∨ i % 16 = 15 → ψ i = φ i) ∧
    (∀ i b, gS r i = some b → BlkOk w0.heap.size w0 ψ w' i b ∧ (i % 16 ≠ 15 → ∀ k, bk (ψ i) = some k → w.heap.size ≤ k)) ∧ ∀ i j b c, gS r i = some b → gS r j = some c → i % 16 ≠ 15 → j % 16 ≠ 15 → i ≠ j → bk (ψ i) = none ∨ bk (ψ i) ≠ bk (ψ j)
theorem NxW_of {d : Option Nat} {y : AV} {r : Sto} {a' : Act} {w' : World} (S : Sim w0 t s φ a w) (h15 : ∀ i b, gS r i = some b → i % 16 ≠ 15) (h : NxA w0 φ a w d y r a' w') : NxW w0 φ a w d y r a' w' := by
  obtain ⟨v, ψ, h1, h2, h3, h4, h5, h6⟩ := h
  refine ⟨v, ψ, h1, S.below.trans (h2.mono S.below.size), h2.size, fun k hk _ => h2.block k hk, h3, fun i hi => ?_, fun i b hb => ⟨(h5 i b hb).1, fun _ => (h5 i b hb).2⟩, fun i j b c hb hc _ _ hne => h6 i j b c hb hc hne⟩
  rcases hi with hi | hi
  · exact h4 i hi
  · refine h4 i ?_
    cases e : gS r i with
    | none => rfl
    | some b => exact absurd hi (h15 i b e)
theorem mergeW (S : Sim w0 t s φ a w) {d : Option Nat} {y : AV} {r s' : Sto} {a' : Act} {w' : World} (h : NxW w0 φ a w d y r a' w') (hf : ∀ i b, gS r i = some b → i % 16 ≠ 15 → AV.frL i (pT t d .u) = true ∧ ∀ j c, gS s j = some c → gS r j = none ∨ j % 16 = 15 → c.fr i = true)
    (hin : ∀ i b, gS r i = some b → i % 16 = 15 → (∃ c, gS s i = some c) ∧ ∀ j, b.fr j = true) (hs : ∀ i, gS s' i = (gS r i).or (gS s i)) : ∃ ψ, Sim w0 (pT t d y) s' ψ a' w' := by
  obtain ⟨v, ψ, rfl, hb, hsz, hk, hy, hφ, hr, hap⟩ := h
  have e1 : ∀ i, gS ((r.filter fun p => p.1 % 16 == 15) ++ s) i = if i % 16 = 15 then (gS r i).or (gS s i) else gS s i := fun i => by
    rw [gS_app]
    have : gS (r.filter fun p => p.1 % 16 == 15) i = if (i % 16 == 15) = true then gS r i else none := by
      clear hs hin hf hk hr hφ hap
      induction r with
      | nil => simp [gS]
      | cons p r ih =>
        obtain ⟨j, b⟩ := p
        simp only [List.filter_cons]
        by_cases hj : (j % 16 == 15) = true
        · simp only [hj, if_true, gS]
          by_cases e : j = i
          · subst e; simp [hj]
          · simp only [if_neg e]; exact ih
        · simp only [hj, Bool.false_eq_true, if_false, gS]
          by_cases e : j = i
          · subst e; rw [ih]; simp [hj]
          · simp only [if_neg e]; exact ih
    rw [this]
    by_cases h : i % 16 = 15 <;> simp [h]
  have key : ∀ i c, gS ((r.filter fun p => p.1 % 16 == 15) ++ s) i = some c → ∃ c', gS s i = some c' := fun i c h => by
    rw [e1] at h
    split at h
    · rename_i h15
      cases e : gS r i with
      | some b => exact (hin i b e h15).1
      | none => rw [e] at h; exact ⟨c, by simpa using h⟩
    · exact ⟨c, h⟩
  have S1 : Sim w0 t ((r.filter fun p => p.1 % 16 == 15) ++ s) φ a w' := by
    refine ⟨hb, S.defs, S.tmp, fun i c h => ?_, fun i j c c' h h' hne => ?_, S.fix, fun k hk1 hG => ?_, fun i c k h hk' => ?_, Nat.le_trans S.wsz hsz⟩
    · have old : ∀ c, gS s i = some c → (∀ b, gS r i = some b → i % 16 = 15 → False) → BlkOk w0.heap.size w0 φ w' i c := fun c h hno => by
        refine BlkOk_world (S.blk i c h) fun k hk' => hk k (BlkOk_lt (S.blk i c h) hk').2 fun j b hj hj15 hj' => ?_
        have hne : i ≠ j := fun e' => by subst e'; exact hno b hj hj15
        obtain ⟨⟨c0, hc0⟩, _⟩ := hin j b hj hj15
        rcases S.apart i j c c0 h hc0 hne with q | q
        · rw [q] at hk'; cases hk'
        · exact q (hk'.trans hj'.symm)
      rw [e1] at h
      split at h
      · rename_i h15
        cases e : gS r i with
        | some b =>
          rw [e] at h
          obtain rfl : b = c := by simpa using h
          have h9 := (hr i b e).1
          have hfr := (hin i b e h15).2
          have hi := hφ i (.inr h15)
          cases b with
          | box tb cs =>
            obtain ⟨g, cc, g1, g2, g3, g4⟩ := h9
            exact ⟨g, cc, by rw [← hi]; exact g1, g2, g3, RepL_frD (D := fun _ => True) (fun j hj => absurd trivial hj) (fun j _ => by simpa [Blk.fr] using hfr j) g4⟩
          | row e' sz xs =>
            obtain ⟨g1, g2⟩ := h9
            rw [hi] at g1
            exact ⟨g1, g2⟩
        | none =>
          rw [e] at h
          exact old c (by simpa using h) fun b hb _ => by rw [e] at hb; cases hb
      · rename_i h15
        exact old c h fun b _ hb15 => h15 hb15
    · obtain ⟨d1, h1⟩ := key i c h
      obtain ⟨d2, h2⟩ := key j c' h'
      exact S.apart i j d1 d2 h1 h2 hne
    · refine (hk k (Nat.lt_of_lt_of_le hk1 S.wsz) fun i b hi h15 e => ?_).trans (S.kept k hk1 hG)
      obtain ⟨⟨c, hc⟩, _⟩ := hin i b hi h15
      exact inn_ne S hc hk1 hG e rfl
    · obtain ⟨d1, h1⟩ := key i c h
      exact S.inn i d1 k h1 hk'
  have hlt : ∀ i b k, gS ((r.filter fun p => p.1 % 16 == 15) ++ s) i = some b → bk (φ i) = some k → k < w.heap.size := fun i b k h hk' => by
    obtain ⟨d1, h1⟩ := key i b h
    exact (BlkOk_lt (S.blk i d1 h1) hk').2
  have e2 : ∀ i, gS (r.filter fun p => p.1 % 16 != 15) i = if i % 16 = 15 then none else gS r i := fun i => by
    clear hs hin hf hk hr hφ hap e1 key S1 hlt
    induction r with
    | nil => simp [gS]
    | cons p r ih =>
      obtain ⟨j, b⟩ := p
      simp only [List.filter_cons]
      by_cases hj : j % 16 = 15
      · simp only [hj, bne_self_eq_false, Bool.false_eq_true, if_false]
        rw [ih]
        by_cases e : j = i
        · subst e; simp [hj]
        · simp [gS, e]
      · have : (j % 16 != 15) = true := by simpa using hj
        simp only [this, if_true, gS]
        by_cases e : j = i
        · subst e; simp [hj]
        · simp only [if_neg e]; exact ih
  have fr2 : ∀ i b, gS (r.filter fun p => p.1 % 16 != 15) i = some b → gS r i = some b ∧ i % 16 ≠ 15 := fun i b h => by
    rw [e2] at h
    split at h
    · cases h
    · rename_i h15; exact ⟨h, h15⟩
  refine ⟨ψ, merge2 S1 hlt S.wsz (r := r.filter fun p => p.1 % 16 != 15) hy (fun i hi => ?_) (fun i b hb' => ?_) (fun i j b c hb' hc hne => ?_) (fun i b hb' => ?_) (fun i b hb' => (fr2 i b hb').2) (fun i => ?_)⟩
  · refine hφ i ?_
    rw [e2] at hi
    split at hi
    · rename_i h; exact .inr h
    · exact .inl hi
  · obtain ⟨h1, h2⟩ := fr2 i b hb'
    exact ⟨(hr i b h1).1, (hr i b h1).2 h2⟩
  · obtain ⟨h1, h2⟩ := fr2 i b hb'
    obtain ⟨h3, h4⟩ := fr2 j c hc
    exact hap i j b c h1 h3 h2 h4 hne
  · obtain ⟨h1, h2⟩ := fr2 i b hb'
    obtain ⟨h3, h4⟩ := hf i b h1 h2
    refine ⟨h3, fun j c hj hj2 => ?_⟩
    rw [e1] at hj
    split at hj
    · rename_i h15
      cases e : gS r j with
      | some b' =>
        rw [e] at hj
        obtain rfl : b' = c := by simpa using hj
        exact (hin j _ e h15).2 i
      | none => rw [e] at hj; exact h4 j c (by simpa using hj) (.inl e)
    · rename_i h15
      rw [e2, if_neg h15] at hj2
      exact h4 j c hj (.inl hj2)
  · rw [hs, e1, e2]
    by_cases h15 : i % 16 = 15
    · simp [h15]
    · simp [h15]
structure Ew (P : Program) (o : Oper) (t : List AV) (s : Sto) (y : AV) (r : Sto) : Prop where
  own : ∀ i b, gS r i = some b → (i % 16 ≠ 15 ∧ ∃ d : Nat, o.dst = some d ∧ 16 * d ≤ i ∧ i < 16 * d + 15) ∨ (i % 16 = 15 ∧ isC o.op = true ∧ ∃ c, gS s i = some c ∧ ∀ j, c.fr j = true)
  new : ∀ i b, gS r i = some b → i % 16 ≠ 15 → AV.frL i (pT t o.dst .u) = true ∧ ∀ j c, gS s j = some c → c.fr i = true
  opr : ∀ x ∈ o.op.operands.toList, ∀ i b, gS r i = some b → i % 16 ≠ 15 → AV.fr i (eT t x) = true
  cal : isC o.op = true → AIn (fun j => j % 16 ≠ 15 ∧ ∃ b, gS r j = some b) y ∧ ∀ i b, gS r i = some b → ∀ j, b.fr j = true
  pur : pureOp o.op = true → (∀ i, gS r i = none) ∧ ∀ A : Nat → Prop, (∀ x ∈ o.op.operands.toList, AIn A (eT t x)) → AIn A y
  prun : pureOp o.op = true → ∀ (s1 : Sto) (t1 : List AV), (∀ x ∈ o.op.operands.toList, eT t1 x = eT t x) → ∀ (w0 : Bs) (φ : Nat → Value) (a : Act) (w : World) (Q : Exit → Act → World → Prop), Sim w0 t1 s1 φ a w → o.wp P a w (NxW w0 φ a w o.dst y r) Q
  run : ∀ (A : Nat → Prop) (s1 : Sto) (t1 : List AV), (∀ x ∈ o.op.operands.toList, eT t1 x = eT t x ∧ AIn A (eT t x)) → Fr A s s1 → (∀ i b, gS r i = some b → i % 16 ≠ 15 → ¬ A i) → (isC o.op = true → ∀ i, i % 16 = 15 → gS s1 i = gS s i) →
    AIn (fun j => A j ∨ (j % 16 ≠ 15 ∧ ∃ b, gS r j = some b)) y ∧ (∀ i b, gS r i = some b → BIn (fun j => A j ∨ (j % 16 ≠ 15 ∧ ∃ b, gS r j = some b)) b) ∧
    ∀ (w0 : Bs) (φ : Nat → Value) (a : Act) (w : World) (Q : Exit → Act → World → Prop), Sim w0 t1 s1 φ a w → o.wp P a w (NxW w0 φ a w o.dst y r) Q
def EX (P : Program) (o : Oper) (t : List AV) (s : Sto) (K : Kt) : Prop := ∃ y r s', Ew P o t s y r ∧ (∀ i, gS s' i = (gS r i).or (gS s i)) ∧ K (pT t o.dst y) s'
theorem ex_of_fx (hc : isC o.op = false) (hp : pureOp o.op = false) (h : FX P o t s K) : EX P o t s K := by
  obtain ⟨y, r, s', F, hs, hK⟩ := h
  have h15 : ∀ i b, gS r i = some b → i % 16 ≠ 15 := fun i b hb => by obtain ⟨_, _, q1, q2⟩ := F.own i b hb; exact own15 q1 q2
  refine ⟨y, r, s', ⟨fun i b hb => .inl ⟨h15 i b hb, F.own i b hb⟩, fun i b hb _ => free_blk (F.new i b hb), fun x hx i b hb _ => F.opr x hx i b hb, fun h => bno hc h, fun h => bno hp h, fun h => bno hp h, fun A s1 t1 ha hF hA _ => ?_⟩, hs, hK⟩
  obtain ⟨h1, h2, h3⟩ := F.run A s1 t1 ha hF fun i b hb => hA i b hb (h15 i b hb)
  have up : ∀ j, (A j ∨ ∃ b, gS r j = some b) → A j ∨ (j % 16 ≠ 15 ∧ ∃ b, gS r j = some b) := fun j h => h.imp_right fun ⟨b, hb⟩ => ⟨h15 j b hb, b, hb⟩
  exact ⟨fun j hj => h1 j fun h => hj (up j h), fun i b hb j hj => h2 i b hb j fun h => hj (up j h), fun w0 φ a w Q S => Oper.wp_mono (fun a' w' hn => NxW_of S h15 hn) (h3 w0 φ a w Q S)⟩
theorem ex_pure (hp : pureOp o.op = true) {y : AV} (hK : K (pT t o.dst y) s) (hin : ∀ A : Nat → Prop, (∀ x ∈ o.op.operands.toList, AIn A (eT t x)) → AIn A y) (hr : ∀ (s1 : Sto) (t1 : List AV), (∀ x ∈ o.op.operands.toList, eT t1 x = eT t x) → ∀ (w0 : Bs) (φ : Nat → Value) (a : Act) (w : World), Sim w0 t1 s1 φ a w → Ro P w0 φ a w o y) : EX P o t s K := by
  have hc : isC o.op = false := by
    cases ho : o.op <;> rw [ho] at hp <;> first | rfl | (simp [pureOp] at hp)
  have hrun : ∀ (s1 : Sto) (t1 : List AV), (∀ x ∈ o.op.operands.toList, eT t1 x = eT t x) → ∀ (w0 : Bs) (φ : Nat → Value) (a : Act) (w : World) (Q : Exit → Act → World → Prop), Sim w0 t1 s1 φ a w → o.wp P a w (NxW w0 φ a w o.dst y []) Q := fun s1 t1 ha w0 φ a w Q S => by
    obtain ⟨v, hy, hv⟩ := hr s1 t1 ha w0 φ a w S
    refine Oper.wp_of_quiet (C := Below w.heap.size w) (K := fun a' => a' = a.put o.dst v) (Below.refl _ _) (fun a' w' hw' ha' => ?_) ⟨v, fun w1 hw1 => hv w1 hw1, rfl⟩
    subst ha'
    exact NxW_of S (fun i b hb => by simp [gS] at hb) ⟨v, φ, rfl, hw', hy, fun _ _ => rfl, fun i b hb => by simp [gS] at hb, fun i j b c hb => by simp [gS] at hb⟩
  refine ⟨y, [], s, ⟨fun i b hb => by simp [gS] at hb, fun i b hb => by simp [gS] at hb, fun x hx i b hb => by simp [gS] at hb, fun h => bno hc h, fun _ => ⟨fun i => rfl, hin⟩, fun _ => hrun, fun A s1 t1 ha hF hA _ => ⟨fun j hj => hin A (fun x hx => (ha x hx).2) j fun h => hj (.inl h), fun i b hb => by simp [gS] at hb, fun w0 φ a w Q S => hrun s1 t1 (fun x hx => (ha x hx).1) w0 φ a w Q S⟩⟩, fun i => by simp [gS], hK⟩
theorem isC_call {f : FuncId} {l : List Operand} {ats : Array TypeId} (ho : o.op = .call ⟨.value (.func f), ⟨l⟩, ats⟩) : isC o.op = true ∧ pureOp o.op = false := by rw [ho]; exact ⟨rfl, rfl⟩
theorem ex_call {f : FuncId} {l : List Operand} {ats : Array TypeId} {res : AV} (ho : o.op = .call ⟨.value (.func f), ⟨l⟩, ats⟩) (hc : Ctr P f (toPL s (mapE t l)) res) (h : bindW true res o.dst t s K) : EX P o t s K := by
  obtain ⟨hC, hP⟩ := isC_call ho
  have hl : ∀ x ∈ l, x ∈ o.op.operands.toList := fun x hx => by rw [ho]; simp [Op.operands, Call.operands, hx]
  have tr : ∀ (A : Nat → Prop) (s1 : Sto) (t1 : List AV), (∀ x ∈ o.op.operands.toList, eT t1 x = eT t x ∧ AIn A (eT t x)) → Fr A s s1 → toPL s1 (mapE t1 l) = toPL s (mapE t l) := fun A s1 t1 ha hF => by
    rw [mapE_eq fun x hx => (ha x (hl x hx)).1, toPL_fr hF (mapE_in fun x hx => (ha x (hl x hx)).2)]
  rcases bindW_inv h with ⟨x, rfl, hK⟩ | ⟨hd, hK⟩ | ⟨d, hd, hf, hlt, hok, hK⟩
  · refine ⟨.v x, [], s, ⟨fun i b hb => by simp [gS] at hb, fun i b hb => by simp [gS] at hb, fun x hx i b hb => by simp [gS] at hb, fun _ => ⟨fun _ _ => rfl, fun i b hb => by simp [gS] at hb⟩, fun h => bno hP h, fun h => bno hP h, fun A s1 t1 ha hF hA _ => ⟨fun _ _ => rfl, fun i b hb => by simp [gS] at hb, fun w0 φ a w Q S => ?_⟩⟩, fun i => by simp [gS], hK⟩
    exact Oper.wp_mono (fun a' w' hn => NxW_of S (fun i b hb => by simp [gS] at hb) hn) ((op_callA S ho (by rw [tr A s1 t1 ha hF]; exact hc)).1 x rfl)
  · refine ⟨.u, [], s, ⟨fun i b hb => by simp [gS] at hb, fun i b hb => by simp [gS] at hb, fun x hx i b hb => by simp [gS] at hb, fun _ => ⟨fun _ _ => rfl, fun i b hb => by simp [gS] at hb⟩, fun h => bno hP h, fun h => bno hP h, fun A s1 t1 ha hF hA _ => ⟨fun _ _ => rfl, fun i b hb => by simp [gS] at hb, fun w0 φ a w Q S => ?_⟩⟩, fun i => by simp [gS], by rw [hd]; exact hK⟩
    rw [hd]
    exact Oper.wp_mono (fun a' w' hn => NxW_of S (fun i b hb => by simp [gS] at hb) hn) ((op_callA S ho (by rw [tr A s1 t1 ha hF]; exact hc)).2.1 hd)
  · obtain ⟨m1, m2, m3, m4⟩ := im_st res (16 * d)
    have hfr : ∀ i b, gS (im (16 * d) res).2.1 i = some b → free i t s = true := fun i b hb => List.all_eq_true.1 hf _ (gS_mem hb)
    have h15 : ∀ i b, gS (im (16 * d) res).2.1 i = some b → i % 16 ≠ 15 := fun i b hb => by have := (m2 i b hb).1; exact own15 this.1 (by omega)
    have cal : AIn (fun j => j % 16 ≠ 15 ∧ ∃ b, gS (im (16 * d) res).2.1 j = some b) (im (16 * d) res).1 := fun j hj => m4 (hok rfl) j fun q => hj (by obtain ⟨b, hb⟩ := m3 j q.1 q.2; exact ⟨h15 j b hb, b, hb⟩)
    refine ⟨(im (16 * d) res).1, (im (16 * d) res).2.1, _, ⟨fun i b hb => .inl ⟨h15 i b hb, d, hd, (m2 i b hb).1.1, by have := (m2 i b hb).1.2; omega⟩, fun i b hb _ => free_blk (free_pT (hfr i b hb) _), fun x hx i b hb _ => fr_eT (free_blk (hfr i b hb)).1 x, fun _ => ⟨cal, fun i b hb => (m2 i b hb).2⟩, fun h => bno hP h, fun h => bno hP h, fun A s1 t1 ha hF hA _ => ⟨fun j hj => cal j fun h => hj (.inr h), fun i b hb j _ => (m2 i b hb).2 j, fun w0 φ a w Q S => ?_⟩⟩, fun i => gS_app, by rw [hd]; exact hK⟩
    rw [hd]
    exact Oper.wp_mono (fun a' w' hn => NxW_of S h15 hn) ((op_callA S ho (by rw [tr A s1 t1 ha hF]; exact hc)).2.2 d hd)
theorem noB_fr {b : Blk} (h : noB b = true) (j : Nat) : b.fr j = true := by
  cases b with
  | box tb cs => exact noL_fr j h
  | row e sz xs => rfl
theorem op_markA (S : Sim w0 t s φ a w) {f : FuncId} {l : List Operand} {ats : Array TypeId} {args : List AV} {R R' : Sto} {res : AV} (ho : o.op = .call ⟨.value (.func f), ⟨l⟩, ats⟩) (hargs : mapE t l = args) (hc : CtrB P f args R res R') (h15 : (R.all fun p => p.1 % 16 == 15 && noB p.2) = true) (hR : subS s R) :
    (∀ x, res = .v x → o.wp P a w (NxW w0 φ a w o.dst (.v x) R') Q) ∧ (o.dst = none → o.wp P a w (NxW w0 φ a w none .u R') Q) ∧ ∀ d, o.dst = some d → (im (16 * d) res).2.2 ≤ 16 * d + 15 → o.wp P a w (NxW w0 φ a w (some d) (im (16 * d) res).1 ((im (16 * d) res).2.1 ++ R')) Q := by
  subst hargs
  obtain ⟨c1, c2, c0, cn, c3⟩ := hc
  have hC := c3 w0 w φ (l.map a.eval) w0.gl S.below (mapE_ok S l) (fun i b hb => S.blk i b (subS_at hR hb)) (fun i j b c hb hc hne => S.apart i j b c (subS_at hR hb) (subS_at hR hc) hne)
  have r15 : ∀ i b, gS R' i = some b → i % 16 = 15 := fun i b hb => by
    have := gS_key c2 (i := i)
    rw [hb] at this
    obtain ⟨c, hc⟩ := Option.isSome_iff_exists.1 this.symm
    have := List.all_eq_true.1 h15 _ (gS_mem hc)
    simp only [Bool.and_eq_true, beq_iff_eq] at this
    exact this.1
  have rk : ∀ {w' : World}, (∀ k, k < w.heap.size → (∀ i b, gS R i = some b → bk (φ i) ≠ some k) → w'.heap[k]? = w.heap[k]?) → ∀ (r : Sto), (∀ i b, gS R' i = some b → ∃ c, gS r i = some c) → ∀ k, k < w.heap.size → (∀ i b, gS r i = some b → i % 16 = 15 → bk (φ i) ≠ some k) → w'.heap[k]? = w.heap[k]? := fun hk r hr k hk1 hk2 => hk k hk1 fun i b hb => by
    have := gS_key c2 (i := i)
    rw [hb] at this
    obtain ⟨c, hc⟩ := Option.isSome_iff_exists.1 this
    obtain ⟨c', hc'⟩ := hr i c hc
    exact hk2 i c' hc' (r15 i c hc)
  have key : ∀ K' : Act → World → Prop, (∀ y L w2, RepR w.heap.size w2 res y L → L.Nodup → Below w0.heap.size w0 w2 → w.heap.size ≤ w2.heap.size → (∀ i b, gS R' i = some b → BlkOk w0.heap.size w0 φ w2 i b) → (∀ k, k < w.heap.size → (∀ i b, gS R i = some b → bk (φ i) ≠ some k) → w2.heap[k]? = w.heap[k]?) → K' (a.put o.dst y) w2) → o.wp P a w K' Q := fun K' hK => by
    unfold Oper.wp
    rw [run_call c1 ho]
    refine hC.mono ?_
    rintro e w2 ⟨y, L, rfl, h1, hL, h2, h3, h4, h5⟩
    exact hK y L w2 h1 hL h2 h3 h4 h5
  refine ⟨fun x hx => key _ fun y L w2 h1 hL h2 h3 h4 h5 => ?_, fun hd => key _ fun y L w2 h1 hL h2 h3 h4 h5 => ?_, fun d hd hle => key _ fun y L w2 h1 hL h2 h3 h4 h5 => ?_⟩
  · subst hx
    simp only [RepR] at h1
    exact ⟨y, φ, rfl, h2, h3, rk h5 R' (fun i b hb => ⟨b, hb⟩), by simp only [Rep]; exact h1.1, fun _ _ => rfl, fun i b hb => ⟨h4 i b hb, fun h => absurd (r15 i b hb) h⟩, fun i j b c hb _ h => absurd (r15 i b hb) h⟩
  · rw [hd]
    exact ⟨y, φ, rfl, h2, h3, rk h5 R' (fun i b hb => ⟨b, hb⟩), by simp only [Rep], fun _ _ => rfl, fun i b hb => ⟨h4 i b hb, fun h => absurd (r15 i b hb) h⟩, fun i j b c hb _ h => absurd (r15 i b hb) h⟩
  · rw [hd]
    obtain ⟨ψ, I⟩ := im_ok S.below.size (w0 := w0) res (16 * d) h1 hL
    obtain ⟨a1, a2, a3⟩ := I.ok (fun i => if 16 * d ≤ i ∧ i < (im (16 * d) res).2.2 then ψ i else φ i) (fun i h3 h4 => if_pos ⟨h3, h4⟩)
    have m2 := (im_st res (16 * d)).2.1
    have i15 : ∀ i b, gS (im (16 * d) res).2.1 i = some b → i % 16 ≠ 15 := fun i b hb => by have := (m2 i b hb).1; exact own15 this.1 (by omega)
    have cls : ∀ i b, gS ((im (16 * d) res).2.1 ++ R') i = some b → (gS (im (16 * d) res).2.1 i = some b ∧ i % 16 ≠ 15) ∨ (gS R' i = some b ∧ i % 16 = 15) := fun i b hb => by
      rw [gS_app] at hb
      cases e : gS (im (16 * d) res).2.1 i with
      | some b' => rw [e] at hb; obtain rfl : b' = b := by simpa using hb
                   exact .inl ⟨rfl, i15 i _ e⟩
      | none => rw [e] at hb; have hb : gS R' i = some b := by simpa using hb
                exact .inr ⟨hb, r15 i b hb⟩
    have hφ : ∀ i, (gS ((im (16 * d) res).2.1 ++ R') i = none ∨ i % 16 = 15) → (if 16 * d ≤ i ∧ i < (im (16 * d) res).2.2 then ψ i else φ i) = φ i := fun i hi => if_neg fun q => by
      have hs := I.all i q.1 q.2
      obtain ⟨b, hb⟩ := Option.isSome_iff_exists.1 hs
      rcases hi with hi | hi
      · rw [gS_app, hb] at hi; cases hi
      · exact i15 i b hb hi
    refine ⟨y, _, rfl, h2, h3, rk h5 _ (fun i b hb => ?_), a1, hφ, fun i b hb => ?_, fun i j b c hb hc hi hj hne => ?_⟩
    · rw [gS_app]
      cases e : gS (im (16 * d) res).2.1 i with
      | some b' => exact ⟨b', rfl⟩
      | none => exact ⟨b, by simpa using hb⟩
    · rcases cls i b hb with ⟨q, q2⟩ | ⟨q, q2⟩
      · exact ⟨(a2 i b q).1, fun _ k hk => ((a2 i b q).2 k hk).2⟩
      · refine ⟨?_, fun h => absurd q2 h⟩
        have hi := hφ i (.inr q2)
        have h9 := h4 i b q
        have hnb := List.all_eq_true.1 cn _ (gS_mem q)
        cases b with
        | box tb cs =>
          obtain ⟨g, cc, g1, g2, g3, g4⟩ := h9
          exact ⟨g, cc, hi.trans g1, g2, g3, RepL_frD (D := fun _ => True) (fun j hj => absurd trivial hj) (fun j _ => noL_fr j (by simpa [noB] using hnb)) g4⟩
        | row e' sz xs =>
          obtain ⟨g1, g2⟩ := h9
          refine ⟨?_, g2⟩
          show w2.ownsRow _ _ _ (if _ then _ else _) _ _
          rw [hi]; exact g1
    · rcases cls i b hb with ⟨q, _⟩ | ⟨_, q2⟩
      · rcases cls j c hc with ⟨q', _⟩ | ⟨_, q2⟩
        · exact a3 i j b c q q' hne
        · exact absurd q2 hj
      · exact absurd q2 hi
theorem ex_mark {f : FuncId} {l : List Operand} {ats : Array TypeId} {R R' : Sto} {res : AV} (ho : o.op = .call ⟨.value (.func f), ⟨l⟩, ats⟩) (hc : CtrB P f (mapE t l) R res R') (h15 : (R.all fun p => p.1 % 16 == 15 && noB p.2) = true) (hR : subS s R) (h : bindW true res o.dst t (uSL s R') K) : EX P o t s K := by
  obtain ⟨hC, hP⟩ := isC_call ho
  have hl : ∀ x ∈ l, x ∈ o.op.operands.toList := fun x hx => by rw [ho]; simp [Op.operands, Call.operands, hx]
  have c2 := hc.2.1
  have c0 := hc.2.2.1
  have cn := hc.2.2.2.1
  have at' : ∀ i, gS (uSL s R') i = (gS R' i).or (gS s i) := uSL_at R' s c0
  have r15 : ∀ i b, gS R' i = some b → i % 16 = 15 ∧ (∃ c, gS s i = some c ∧ ∀ j, c.fr j = true) ∧ noB b = true := fun i b hb => by
    have := gS_key c2 (i := i)
    rw [hb] at this
    obtain ⟨c, hc⟩ := Option.isSome_iff_exists.1 this.symm
    have := List.all_eq_true.1 h15 _ (gS_mem hc)
    simp only [Bool.and_eq_true, beq_iff_eq] at this
    exact ⟨this.1, ⟨c, subS_at hR hc, noB_fr this.2⟩, List.all_eq_true.1 cn _ (gS_mem hb)⟩
  have subs : ∀ (s1 : Sto) (R : Sto), (R.all fun p => p.1 % 16 == 15 && noB p.2) = true → (∀ i, i % 16 = 15 → gS s1 i = gS s i) → subS s R → subS s1 R := fun s1 R h15 he => by
    induction R with
    | nil => exact fun _ => trivial
    | cons p R ih =>
      obtain ⟨i, b⟩ := p
      simp only [List.all_cons, Bool.and_eq_true, beq_iff_eq] at h15
      rintro ⟨h1, h2⟩
      exact ⟨by rw [he i h15.1.1]; exact h1, ih h15.2 h2⟩
  have ag : ∀ (A : Nat → Prop) (t1 : List AV), (∀ x ∈ o.op.operands.toList, eT t1 x = eT t x ∧ AIn A (eT t x)) → mapE t1 l = mapE t l := fun A t1 ha => mapE_eq fun x hx => (ha x (hl x hx)).1
  rcases bindW_inv h with ⟨x, rfl, hK⟩ | ⟨hd, hK⟩ | ⟨d, hd, hf, hlt, hok, hK⟩
  · refine ⟨.v x, R', _, ⟨fun i b hb => .inr ⟨(r15 i b hb).1, hC, (r15 i b hb).2.1⟩, fun i b hb h => absurd (r15 i b hb).1 h, fun x hx i b hb h => absurd (r15 i b hb).1 h, fun _ => ⟨fun _ _ => rfl, fun i b hb => noB_fr (r15 i b hb).2.2⟩, fun h => bno hP h, fun h => bno hP h, fun A s1 t1 ha hF hA hres => ⟨fun _ _ => rfl, fun i b hb j _ => noB_fr (r15 i b hb).2.2 j, fun w0 φ a w Q S => ?_⟩⟩, at', hK⟩
    exact (op_markA S ho (ag A t1 ha) hc h15 (subs s1 R h15 (hres hC) hR)).1 x rfl
  · refine ⟨.u, R', _, ⟨fun i b hb => .inr ⟨(r15 i b hb).1, hC, (r15 i b hb).2.1⟩, fun i b hb h => absurd (r15 i b hb).1 h, fun x hx i b hb h => absurd (r15 i b hb).1 h, fun _ => ⟨fun _ _ => rfl, fun i b hb => noB_fr (r15 i b hb).2.2⟩, fun h => bno hP h, fun h => bno hP h, fun A s1 t1 ha hF hA hres => ⟨fun _ _ => rfl, fun i b hb j _ => noB_fr (r15 i b hb).2.2 j, fun w0 φ a w Q S => ?_⟩⟩, at', by rw [hd]; exact hK⟩
    rw [hd]
    exact (op_markA S ho (ag A t1 ha) hc h15 (subs s1 R h15 (hres hC) hR)).2.1 hd
  · obtain ⟨m1, m2, m3, m4⟩ := im_st res (16 * d)
    have i15 : ∀ i b, gS (im (16 * d) res).2.1 i = some b → i % 16 ≠ 15 := fun i b hb => by have := (m2 i b hb).1; exact own15 this.1 (by omega)
    have cls : ∀ i b, gS ((im (16 * d) res).2.1 ++ R') i = some b → (gS (im (16 * d) res).2.1 i = some b ∧ i % 16 ≠ 15) ∨ (gS R' i = some b ∧ i % 16 = 15) := fun i b hb => by
      rw [gS_app] at hb
      cases e : gS (im (16 * d) res).2.1 i with
      | some b' => rw [e] at hb; obtain rfl : b' = b := by simpa using hb
                   exact .inl ⟨rfl, i15 i _ e⟩
      | none => rw [e] at hb; have hb : gS R' i = some b := by simpa using hb
                exact .inr ⟨hb, (r15 i b hb).1⟩
    have hfr : ∀ i b, gS (im (16 * d) res).2.1 i = some b → free i t (uSL s R') = true := fun i b hb => List.all_eq_true.1 hf _ (gS_mem hb)
    have new : ∀ i b, gS (im (16 * d) res).2.1 i = some b → AV.frL i (pT t o.dst .u) = true ∧ ∀ j c, gS s j = some c → c.fr i = true := fun i b hb => by
      have h1 := free_blk (free_pT (hfr i b hb) o.dst)
      refine ⟨h1.1, fun j c hj => ?_⟩
      cases e : gS R' j with
      | none => exact h1.2 j c (by rw [at', e]; simpa using hj)
      | some b' =>
        have := gS_key c2 (i := j)
        rw [e] at this
        obtain ⟨c0', hc0⟩ := Option.isSome_iff_exists.1 this.symm
        have h2 := subS_at hR hc0
        rw [hj] at h2
        obtain rfl := Option.some.inj h2
        have h3 := List.all_eq_true.1 h15 _ (gS_mem hc0)
        simp only [Bool.and_eq_true] at h3
        exact noB_fr h3.2 i
    have cal : AIn (fun j => j % 16 ≠ 15 ∧ ∃ b, gS ((im (16 * d) res).2.1 ++ R') j = some b) (im (16 * d) res).1 := fun j hj => m4 (hok rfl) j fun q => hj (by obtain ⟨b, hb⟩ := m3 j q.1 q.2; exact ⟨i15 j b hb, b, by rw [gS_app, hb]; rfl⟩)
    have bfr : ∀ i b, gS ((im (16 * d) res).2.1 ++ R') i = some b → ∀ j, b.fr j = true := fun i b hb => by
      rcases cls i b hb with ⟨q, _⟩ | ⟨q, _⟩
      · exact (m2 i b q).2
      · exact noB_fr (r15 i b q).2.2
    refine ⟨(im (16 * d) res).1, (im (16 * d) res).2.1 ++ R', _, ⟨fun i b hb => ?_, fun i b hb h => ?_, fun x hx i b hb h => ?_, fun _ => ⟨cal, bfr⟩, fun h => bno hP h, fun h => bno hP h, fun A s1 t1 ha hF hA hres => ⟨fun j hj => cal j fun h => hj (.inr h), fun i b hb j _ => bfr i b hb j, fun w0 φ a w Q S => ?_⟩⟩, fun i => ?_, by rw [hd]; exact hK⟩
    · rcases cls i b hb with ⟨q, q2⟩ | ⟨q, q2⟩
      · exact .inl ⟨q2, d, hd, (m2 i b q).1.1, by have := (m2 i b q).1.2; omega⟩
      · exact .inr ⟨q2, hC, (r15 i b q).2.1⟩
    · rcases cls i b hb with ⟨q, _⟩ | ⟨_, q2⟩
      · exact new i b q
      · exact absurd q2 h
    · rcases cls i b hb with ⟨q, _⟩ | ⟨_, q2⟩
      · exact fr_eT (free_blk (hfr i b q)).1 x
      · exact absurd q2 h
    · rw [hd]
      exact (op_markA S ho (ag A t1 ha) hc h15 (subs s1 R h15 (hres hC) hR)).2.2 d hd hlt
    · rw [gS_app, gS_app, at']
      cases gS (im (16 * d) res).2.1 i <;> simp
theorem ex_any (T : TyOk P ty) (hr : rot (ty o.type) o.op = true) (h : opX P ty true o.op o.type o.dst t s K) : EX P o t s K := by
  by_cases hp : pureOp o.op = true
  · cases ho : o.op with
    | move x =>
      rw [ho] at h
      have hm : x ∈ o.op.operands.toList := by rw [ho]; simp [Op.operands]
      exact ex_pure hp h (fun A ha => ha x hm) fun s1 t1 ha w0 φ a w S => fin (s1 := s1) (ro_move (K := fun u _ => u = [eT t x]) (t2 := [.u]) (d := some 0) S (.inl ho) (congrArg (· :: []) (ha x hm)))
    | extract x n =>
      rw [ho] at h
      have hm : x ∈ o.op.operands.toList := by rw [ho]; simp [Op.operands]
      obtain ⟨v, h1, h2⟩ := q_ext h
      refine ex_pure hp h1 (fun A ha => (h2 A [] (ha x hm)).1) fun s1 t1 ha w0 φ a w S => ?_
      have q2 := (h2 (fun _ => True) s1 (fun j hj => absurd trivial hj)).2
      rw [← ha x hm] at q2
      exact fin (s1 := s1) (ro_ext S ho q2)
    | _ => rw [ho] at hp; simp [pureOp] at hp
  · have hp : pureOp o.op = false := by simpa using hp
    by_cases hC : isC o.op = true
    · cases ho : o.op with
      | call c =>
        rw [ho] at h hC
        obtain ⟨callee, ⟨args⟩, ⟨ats⟩⟩ := c
        simp only [opX] at h
        cases callee with
        | value f =>
          cases f with
          | func f =>
            simp only [cW] at h
            rcases h with ⟨res, hc, hb⟩ | ⟨h, _⟩ | ⟨R, res, R', h1, h2, h3, h4⟩
            · exact ex_call ho hc hb
            · cases h
            · rcases h2 with h2 | h2
              · cases h2
              · exact ex_mark ho h1 h2 h3 h4
          | _ => simp [cW] at h
        | _ => simp [isC] at hC
      | _ => rw [ho] at hC; simp [isC] at hC
    · exact ex_of_fx (by simpa using hC) hp (fx_any T hr h (by simpa using hC))
end
end Go.Proofs.YtdjdleldocfpaaaDoor.F
end

section
namespace Go.Proofs.YtdjdleldocfpaaaDoor.F
open Go.RowKit Go.Proofs.YtdjdleldocfpaaaDoorW.PrintWords Go.Proofs.YtdjdleldocfpaaaDoorW.PrintLast Go.Proofs.YtdjdleldocfpaaaDoorW.PrintMore
set_option linter.unusedVariables false
set_option linter.unusedSimpArgs false
theorem getD_lt {l : Array Bool} {i : Nat} {b : Bool} (h : i < l.size) : l.getD i b = l[i] := by simp [h]
theorem getD_ge {l : Array Bool} {i : Nat} {b : Bool} (h : ¬ i < l.size) : l.getD i b = b := by simp [h]
def drN (ty : TypeId → Option TI) (l : List Oper) : Nat := (l.takeWhile fun o => rot (ty o.type) o.op).length
def rch (ops : Array Oper) (i : Nat) : Nat → Nat → Bool
  | 0, _ => false
  | f + 1, d => match ops[d]? with
    | some o => (o.after.any fun e => Region.binds .any e && e.on == i) || o.after.any fun e => Region.binds .any e && (decide (i < e.on) && rch ops i f e.on)
    | none => false
def backOk : List Oper → Nat → Bool
  | [], _ => true
  | o :: l, j => (o.after.all fun e => !Region.binds .any e || decide (e.on < j)) && backOk l (j + 1)
def pureT (o : Oper) : Bool := o.guard.isNone && match o.op with | .extract _ _ => true | .move _ => true | _ => false
def pureN (ops : Array Oper) (k : Nat) : Bool := match ops[k]? with | some o => pureT o | none => false
def tlB (ops : Array Oper) : Nat → Nat → Array Bool → Bool
  | 0, _, listed => (Region.ready .any ops listed).isEmpty
  | g + 1, k, listed => (decide (Region.ready .any ops listed = [k]) || ((Region.ready .any ops listed).contains k && pureN ops k && Region.free .any ops listed k)) && tlB ops g (k + 1) (listed.setIfInBounds k true)
def apartAll (ops : Array Oper) (i : Nat) (oi : Oper) : Bool := (List.range ops.size).all fun j => j == i || match ops[j]? with
  | some oj => oj.after.any (fun e => Region.binds .any e && e.on == i) || oi.after.any (fun e => Region.binds .any e && e.on == j) || oi.apart ops oj
  | none => true
def fstB (ops : Array Oper) (i : Nat) : Bool := match ops[i]? with | some o => pureT o && apartAll ops i o | none => false
def opOk (l : List Oper) (n i : Nat) : Bool := match l[i]? with
  | some o => ((List.range n).all fun j => j == i || (o.dst.isNone || (l[j]?).bind (·.dst) != o.dst)) &&
      (o.op.operands.toList.all fun x => match x with
        | .tmp z => (List.range n).all fun j => (l[j]?).bind (·.dst) != some z || rch l.toArray j l.length i
        | _ => true) &&
      match o.guard with
        | some (g, _) => rch l.toArray g l.length i
        | none => true
  | none => true
def tailOk (n : Nat) (l : List Oper) : Bool := (List.range l.length).all fun d => decide (d < n) || (List.range n).all fun i => fstB l.toArray i || rch l.toArray i l.length d
def asg : Op → Bool
  | .assign _ => true
  | _ => false
def drA (ty : TypeId → Option TI) (l : List Oper) : Nat := (l.takeWhile fun o => rot (ty o.type) o.op && !asg o.op).length
def isCk (l : List Oper) (k : Nat) : Bool := match l[k]? with | some o => isC o.op | none => false
def callsOrd (l : List Oper) (n : Nat) : Bool := (List.range n).all fun j => !isCk l j || (List.range j).all fun i => !isCk l i || rch l.toArray i l.length j
def nctOk (l : List Oper) : Bool := l.all fun o => isC o.op || (if pureOp o.op = true then (match o.dst with | some d => !((nct l).contains d) || (opT o.op).all (nct l).contains | none => true) else (opT o.op).all (nct l).contains)
def drOkN (l : List Oper) (n : Nat) : Bool :=
  ((List.range n).all fun i => opOk l n i) && backOk l 0 && tailOk n l && Region.noSelect l.toArray && callsOrd l n && nctOk l &&
    tlB l.toArray (l.length - n) n (Array.replicate n true ++ Array.replicate (l.length - n) false)
def drOk (ty : TypeId → Option TI) (l : List Oper) : Bool := drOkN l (drN ty l) || drOkN l (drA ty l)
inductive Anc (ops : Array Oper) : Nat → Nat → Prop
  | edge {i : Nat} {o : Oper} {e : Edge} (h : ops[i]? = some o) (he : e ∈ o.after) (hb : Region.binds .any e = true) : Anc ops i e.on
  | step {i j : Nat} {o : Oper} {e : Edge} (h : ops[i]? = some o) (he : e ∈ o.after) (hb : Region.binds .any e = true) (r : Anc ops e.on j) : Anc ops i j
theorem Anc.trans {ops : Array Oper} {i j k : Nat} (h : Anc ops i j) (h2 : Anc ops j k) : Anc ops i k := by
  induction h with
  | edge h he hb => exact .step h he hb h2
  | step h he hb _ ih => exact .step h he hb (ih h2)
theorem rch_anc {ops : Array Oper} {i : Nat} : ∀ {f d : Nat}, rch ops i f d = true → Anc ops d i
  | 0, _, h => by simp [rch] at h
  | f + 1, d, h => by
    unfold rch at h
    cases e : ops[d]? with
    | none => rw [e] at h; cases h
    | some o =>
      rw [e] at h
      simp only [Bool.or_eq_true] at h
      rcases h with h | h <;> rw [Array.any_eq_true'] at h <;> obtain ⟨x, h1, h2⟩ := h <;> simp only [Bool.and_eq_true, beq_iff_eq] at h2
      · rw [← h2.2]; exact .edge e h1 h2.1
      · exact .step e h1 h2.1 (rch_anc h2.2.2)
theorem backOk_at : ∀ {l : List Oper} {k j : Nat} {o : Oper}, backOk l k = true → l[j]? = some o → ∀ e ∈ o.after, Region.binds .any e = true → e.on < k + j
  | [], k, j, o, _, h => by simp at h
  | x :: l, k, 0, o, hb, h => by
    intro e he hbe
    simp only [backOk, Bool.and_eq_true] at hb
    obtain rfl : x = o := by simpa using h
    have := Array.all_eq_true'.1 hb.1 e he
    simp only [hbe, Bool.not_true, Bool.false_or, decide_eq_true_eq] at this
    omega
  | x :: l, k, j + 1, o, hb, h => by
    intro e he hbe
    simp only [backOk, Bool.and_eq_true] at hb
    have := backOk_at hb.2 (by simpa using h) e he hbe
    omega
theorem Anc.lt {l : List Oper} (hb : backOk l 0 = true) {i j : Nat} (h : Anc l.toArray i j) : j < i := by
  induction h with
  | edge h he hb' => have := backOk_at hb (by simpa using h) _ he hb'; omega
  | step h he hb' _ ih => have := backOk_at hb (by simpa using h) _ he hb'; omega
theorem Anc.listed {ops : Array Oper} {listed : Array Bool} (hc : ListedClosed .any ops listed) {i j : Nat} (h : Anc ops i j) : listed.getD i false = true → listed.getD j false = true := by
  induction h with
  | edge h he hb => exact fun hi => hc _ _ h hi _ he hb
  | step h he hb _ ih => exact fun hi => ih (hc _ _ h hi _ he hb)
theorem Anc.ready {ops : Array Oper} {listed : Array Bool} (hc : ListedClosed .any ops listed) {i j : Nat} (h : Anc ops i j) (hr : i ∈ Region.ready .any ops listed) : listed.getD j false = true := by
  obtain ⟨_, o, ho, h2⟩ := mem_ready.1 hr
  cases h with
  | edge h he hb => rw [ho] at h; cases h; exact h2 _ he hb
  | step h he hb r => rw [ho] at h; cases h; exact r.listed hc (h2 _ he hb)
end Go.Proofs.YtdjdleldocfpaaaDoor.F
end

section
namespace Go.Proofs.YtdjdleldocfpaaaDoor.F
open Go.RowKit Go.Proofs.YtdjdleldocfpaaaDoorW.PrintWords Go.Proofs.YtdjdleldocfpaaaDoorW.PrintLast Go.Proofs.YtdjdleldocfpaaaDoorW.PrintMore
set_option linter.unusedVariables false
set_option linter.unusedSimpArgs false
section
variable {P : Program} {ty : TypeId → Option TI} {w0 : Bs} {Q : Exit → Act → World → Prop}
theorem gG_gds : ∀ (l : List Oper) (i : Nat), gG (gds l) i = (l[i]?).bind (·.dst)
  | [], i => by simp [gds, gG]
  | o :: l, 0 => by simp [gds, gG]
  | o :: l, i + 1 => by
    have := gG_gds l i
    simpa [gds, gG] using this
def bOf : Value → Option Bool
  | .bool b => some b
  | _ => none
theorem guard_yields {t : List AV} {s : Sto} {φ : Nat → Value} {a : Act} {w : World} (S : Sim w0 t s φ a w) {l : List Oper} {i : Nat} {v : Value} (h : gV t (gG (gds l) i) = .v v) : yielded l.toArray a.tmps i = bOf v := by
  rw [gG_gds] at h
  unfold yielded
  simp only [List.getElem?_toArray]
  cases e : (l[i]?).bind (·.dst) with
  | none => rw [e] at h; simp [gV] at h
  | some d =>
    rw [e] at h
    simp only [gV] at h
    have h1 := RepL_get d S.tmp
    rw [h] at h1
    simp only [Rep] at h1
    rw [List.getD_eq_getElem?_getD, Array.getElem?_toList] at h1
    cases e2 : a.tmps[d]? with
    | none =>
      rw [e2] at h1
      simp only [Option.getD_none] at h1
      subst h1
      simp only [Option.bind_some, e2]
      rfl
    | some u =>
      rw [e2] at h1
      simp only [Option.getD_some] at h1
      subst h1
      simp only [Option.bind_some, e2]
      cases u <;> rfl
theorem guardW_inv {c : AV} {b : Bool} {X Y : Prop} (h : guardW c b X Y) : ∃ v, c = .v v ∧ ((v = .bool b ∧ X) ∨ (bOf v ≠ some b ∧ Y)) := by
  unfold guardW at h
  split at h
  · exact ⟨_, rfl, .inr ⟨by simp [bOf], h⟩⟩
  · exact ⟨_, rfl, .inl ⟨rfl, h⟩⟩
  · exact ⟨_, rfl, .inl ⟨rfl, h⟩⟩
  · exact ⟨_, rfl, .inr ⟨by simp [bOf], h⟩⟩
  · exact ⟨_, rfl, .inr ⟨by simp [bOf], h⟩⟩
  · exact h.elim
theorem opsW_ok (T : TyOk P ty) {l0 : List Oper} {K : Kt} (hK : ∀ φ t s a w, K t s → Sim w0 t s φ a w → Q .normal a w) : ∀ (l : List Oper) {t : List AV} {s : Sto} {φ : Nat → Value} {a : Act} {w : World},
    opsW P ty (gds l0) false l t s K → Sim w0 t s φ a w → wpList P l0.toArray Q l a w
  | [], t, s, φ, a, w, h, S => hK φ t s a w h S
  | ⟨d, op, o, p, af, none⟩ :: l, t, s, φ, a, w, h, S => by
    simp only [opsW, Bool.false_and] at h
    unfold wpList
    rw [if_pos (by simp [Region.wanted])]
    left
    refine Oper.wp_mono (fun a' w' hn => ?_) (opX_ok (o := ⟨d, op, o, p, af, none⟩) T S h)
    obtain ⟨φ', t', s', h', S'⟩ := hn
    exact opsW_ok T hK l h' S'
  | ⟨d, op, o, p, af, some (i, b)⟩ :: l, t, s, φ, a, w, h, S => by
    simp only [opsW, Bool.false_and] at h
    obtain ⟨v, hv, hz⟩ := guardW_inv h
    clear h
    have hy := guard_yields S hv
    unfold wpList
    rcases hz with ⟨rfl, h⟩ | ⟨hne, h⟩
    · rw [if_pos (by simp [Region.wanted, hy, bOf])]
      left
      refine Oper.wp_mono (fun a' w' hn => ?_) (opX_ok (o := ⟨d, op, o, p, af, some (i, b)⟩) T S h)
      obtain ⟨φ', t', s', h', S'⟩ := hn
      exact opsW_ok T hK l h' S'
    · rw [if_neg (by simp [Region.wanted, hy, hne])]
      exact opsW_ok T hK l h (Sim_put S d (y := .v undef) (by simp [Rep]))
theorem Sim_weak {t1 : List AV} {s1 : Sto} {φ : Nat → Value} {a : Act} {w : World} {t : List AV} {s : Sto} (S : Sim w0 t s φ a w) (hl : t1.length = t.length) (ht : ∀ x, gT t1 x = .u ∨ gT t1 x = gT t x) (hs : ∀ i b, gS s1 i = some b → gS s i = some b) : Sim w0 t1 s1 φ a w := by
  refine ⟨S.below, S.defs, ?_, fun i b h => S.blk i b (hs i b h), fun i j b c h h' => S.apart i j b c (hs i b h) (hs j c h'), S.fix, S.kept, fun i b k h => S.inn i b k (hs i b h), S.wsz⟩
  have key : ∀ (t t1 : List AV) (l : List Value), t1.length = t.length → (∀ x, gT t1 x = .u ∨ gT t1 x = gT t x) → RepL w0.heap.size w0 φ t l → RepL w0.heap.size w0 φ t1 l := by
    intro t
    induction t with
    | nil => intro t1 l hl _ h; obtain rfl : t1 = [] := List.length_eq_zero_iff.1 hl; exact h
    | cons x t ih =>
      intro t1 l hl ht h
      cases t1 with
      | nil => simp at hl
      | cons y t1 =>
        simp only [RepL] at h ⊢
        obtain ⟨v, vs, rfl, h1, h2⟩ := h
        refine ⟨v, vs, rfl, ?_, ih t1 vs (by simpa using hl) (fun x => ht (x + 1)) h2⟩
        rcases ht 0 with e | e
        · simp only [gT] at e; rw [e]; simp only [Rep]
        · simp only [gT] at e; rw [e]; exact h1
  exact key t t1 _ hl ht S.tmp
structure Ef (P : Program) (l0 : List Oper) (o : Oper) (t : List AV) (s : Sto) (y : AV) (r : Sto) : Prop where
  own : ∀ i b, gS r i = some b → (i % 16 ≠ 15 ∧ ∃ d : Nat, o.dst = some d ∧ 16 * d ≤ i ∧ i < 16 * d + 15) ∨ (i % 16 = 15 ∧ isC o.op = true ∧ ∃ c, gS s i = some c ∧ ∀ j, c.fr j = true)
  new : ∀ i b, gS r i = some b → i % 16 ≠ 15 → AV.frL i (pT t o.dst .u) = true ∧ ∀ j c, gS s j = some c → c.fr i = true
  opr : ∀ x ∈ o.op.operands.toList, ∀ i b, gS r i = some b → i % 16 ≠ 15 → AV.fr i (eT t x) = true
  cal : isC o.op = true → AIn (fun j => j % 16 ≠ 15 ∧ ∃ b, gS r j = some b) y ∧ ∀ i b, gS r i = some b → ∀ j, b.fr j = true
  pur : pureOp o.op = true → (∀ i, gS r i = none) ∧ ∀ A : Nat → Prop, (∀ x ∈ o.op.operands.toList, AIn A (eT t x)) → AIn A y
  prun : pureOp o.op = true → ∀ (s1 : Sto) (t1 : List AV), (∀ x ∈ o.op.operands.toList, eT t1 x = eT t x) → ∀ (w0 : Bs) (φ : Nat → Value) (a : Act) (w : World) (Q : Exit → Act → World → Prop) (i : Nat), l0.toArray[i]? = some o → (∀ g b, o.guard = some (g, b) → gV t1 (gG (gds l0) g) = gV t (gG (gds l0) g)) → Sim w0 t1 s1 φ a w →
    wpOp P l0.toArray Q i (NxW w0 φ a w o.dst y r) a w ∧ (pureT o = true → ∃ v, Yields P l0.toArray o v a)
  run : ∀ (A : Nat → Prop) (s1 : Sto) (t1 : List AV), (∀ x ∈ o.op.operands.toList, eT t1 x = eT t x ∧ AIn A (eT t x)) → Fr A s s1 → (∀ i b, gS r i = some b → i % 16 ≠ 15 → ¬ A i) → (isC o.op = true → ∀ i, i % 16 = 15 → gS s1 i = gS s i) →
    AIn (fun j => A j ∨ (j % 16 ≠ 15 ∧ ∃ b, gS r j = some b)) y ∧ (∀ i b, gS r i = some b → BIn (fun j => A j ∨ (j % 16 ≠ 15 ∧ ∃ b, gS r j = some b)) b) ∧
    ∀ (w0 : Bs) (φ : Nat → Value) (a : Act) (w : World) (Q : Exit → Act → World → Prop) (i : Nat), l0.toArray[i]? = some o → (∀ g b, o.guard = some (g, b) → gV t1 (gG (gds l0) g) = gV t (gG (gds l0) g)) → Sim w0 t1 s1 φ a w →
      wpOp P l0.toArray Q i (NxW w0 φ a w o.dst y r) a w ∧ (pureT o = true → ∃ v, Yields P l0.toArray o v a)
theorem Yields_of {l0 : List Oper} {o : Oper} {a : Act} {v : Value} (hg : o.guard = none) (h : ∀ w, (execOp a.eval o).run P w = .ok (.value v) w) : Yields P l0.toArray o v a := .inl ⟨by simp [Region.wanted, hg], h⟩
theorem pure_run {o : Oper} {φ : Nat → Value} {a : Act} {w : World} {t : List AV} {s : Sto} (hp : pureT o = true) {K' : Act → World → Prop} (h : o.wp P a w K' (fun _ _ _ => False)) : ∃ v, ∀ w1, (execOp a.eval o).run P w1 = .ok (.value v) w1 := by
  obtain ⟨d, op, ot, p, af, gd⟩ := o
  unfold pureT at hp
  simp only [Bool.and_eq_true] at hp
  obtain ⟨_, hp⟩ := hp
  cases op with
  | move x => exact ⟨a.eval x, fun w1 => by simp [execOp]⟩
  | extract x n =>
    unfold Oper.wp at h
    cases e : a.eval x with
    | tuple cs =>
      cases e2 : cs[n]? with
      | some v => exact ⟨v, fun w1 => by simp [execOp, e, Instr.extract, e2]⟩
      | none => simp [execOp, e, Instr.extract, e2, Oper.upon] at h
    | _ => simp [execOp, e, Instr.extract, Oper.upon] at h
  | _ => simp at hp
theorem Ef_of (T : TyOk P ty) {l0 : List Oper} {o : Oper} {t : List AV} {s : Sto} {K : Kt} (hr : rot (ty o.type) o.op = true) {rest : List Oper} (h : opsW P ty (gds l0) true (o :: rest) t s K) :
    ∃ y r s', Ef P l0 o t s y r ∧ (∀ i, gS s' i = (gS r i).or (gS s i)) ∧ opsW P ty (gds l0) true rest (pT t o.dst y) s' K := by
  have wanted : ∀ {K1 : Kt}, (∀ (a : Act) (t1 : List AV) (s1 : Sto) (φ : Nat → Value) (w0 : Bs) (w : World), (∀ g b, o.guard = some (g, b) → gV t1 (gG (gds l0) g) = gV t (gG (gds l0) g)) → Sim w0 t1 s1 φ a w → Region.wanted o (yielded l0.toArray a.tmps) = true) → opX P ty true o.op o.type o.dst t s K1 →
      ∃ y r s', Ef P l0 o t s y r ∧ (∀ i, gS s' i = (gS r i).or (gS s i)) ∧ K1 (pT t o.dst y) s' := fun hw hx => by
    obtain ⟨y, r, s', F, hs, hK⟩ := ex_any T hr hx
    have fin : ∀ {s1 : Sto} {t1 : List AV}, (∀ (w0 : Bs) (φ : Nat → Value) (a : Act) (w : World) (Q : Exit → Act → World → Prop), Sim w0 t1 s1 φ a w → o.wp P a w (NxW w0 φ a w o.dst y r) Q) → ∀ (w0 : Bs) (φ : Nat → Value) (a : Act) (w : World) (Q : Exit → Act → World → Prop) (i : Nat), l0.toArray[i]? = some o → (∀ g b, o.guard = some (g, b) → gV t1 (gG (gds l0) g) = gV t (gG (gds l0) g)) → Sim w0 t1 s1 φ a w →
        wpOp P l0.toArray Q i (NxW w0 φ a w o.dst y r) a w ∧ (pureT o = true → ∃ v, Yields P l0.toArray o v a) := fun {s1 t1} h3 w0 φ a w Q i hi hg S => by
      refine ⟨?_, fun hp => ?_⟩
      · unfold wpOp
        simp only [hi]
        rw [if_pos (hw a t1 s1 φ w0 w hg S)]
        exact .inl (h3 w0 φ a w Q S)
      · obtain ⟨v, hv⟩ := pure_run (t := t) (s := s) (φ := φ) hp (h3 w0 φ a w (fun _ _ _ => False) S)
        have hgn : o.guard = none := by unfold pureT at hp; simp only [Bool.and_eq_true, Option.isNone_iff_eq_none] at hp; exact hp.1
        exact ⟨v, Yields_of hgn hv⟩
    exact ⟨y, r, s', ⟨F.own, F.new, F.opr, F.cal, F.pur, fun hp s1 t1 ha => fin (F.prun hp s1 t1 ha), fun A s1 t1 ha hF hA hres => ⟨(F.run A s1 t1 ha hF hA hres).1, (F.run A s1 t1 ha hF hA hres).2.1, fin (F.run A s1 t1 ha hF hA hres).2.2⟩⟩, hs, hK⟩
  obtain ⟨d, op, ot, p, af, gd⟩ := o
  cases gd with
  | none =>
    simp only [opsW] at h
    rw [show rot (ty ot) op = true from hr] at h
    exact wanted (fun a t1 s1 φ w0 w hg S => by simp [Region.wanted]) h
  | some g =>
    obtain ⟨i', b⟩ := g
    simp only [opsW] at h
    rw [show rot (ty ot) op = true from hr] at h
    obtain ⟨v, hv, hz⟩ := guardW_inv h
    have hy : ∀ (a : Act) (t1 : List AV) (s1 : Sto) (φ : Nat → Value) (w0 : Bs) (w : World), (∀ g b', (some (i', b) : Option (Nat × Bool)) = some (g, b') → gV t1 (gG (gds l0) g) = gV t (gG (gds l0) g)) → Sim w0 t1 s1 φ a w → yielded l0.toArray a.tmps i' = bOf v := fun a t1 s1 φ w0 w hg S =>
      guard_yields S ((hg i' b rfl).trans hv)
    rcases hz with ⟨rfl, hx⟩ | ⟨hne, hx⟩
    · exact wanted (fun a t1 s1 φ w0 w hg S => by simp [Region.wanted, hy a t1 s1 φ w0 w hg S, bOf]) hx
    · have fin : ∀ {s1 : Sto} {t1 : List AV} (w0 : Bs) (φ : Nat → Value) (a : Act) (w : World) (Q : Exit → Act → World → Prop) (i : Nat), l0.toArray[i]? = some (⟨d, op, ot, p, af, some (i', b)⟩ : Oper) → (∀ g b', (some (i', b) : Option (Nat × Bool)) = some (g, b') → gV t1 (gG (gds l0) g) = gV t (gG (gds l0) g)) → Sim w0 t1 s1 φ a w →
          wpOp P l0.toArray Q i (NxW w0 φ a w d (.v undef) []) a w ∧ (pureT (⟨d, op, ot, p, af, some (i', b)⟩ : Oper) = true → ∃ v, Yields P l0.toArray (⟨d, op, ot, p, af, some (i', b)⟩ : Oper) v a) := fun {s1 t1} w0 φ a w Q i hi hg S => by
        refine ⟨?_, fun hp => ?_⟩
        · unfold wpOp
          simp only [hi]
          rw [if_neg (by simp [Region.wanted, hy a t1 s1 φ w0 w hg S, hne])]
          exact ⟨undef, φ, rfl, S.below, Nat.le_refl _, fun _ _ _ => rfl, by simp only [Rep], fun _ _ => rfl, fun i b hb => by simp [gS] at hb, fun i j b c hb => by simp [gS] at hb⟩
        · simp [pureT] at hp
      refine ⟨.v undef, [], s, ⟨fun i b hb => by simp [gS] at hb, fun i b hb => by simp [gS] at hb, fun x hx i b hb => by simp [gS] at hb, fun _ => ⟨fun _ _ => rfl, fun i b hb => by simp [gS] at hb⟩, fun _ => ⟨fun _ => rfl, fun _ _ _ _ => rfl⟩, fun _ s1 t1 ha => fin, fun A s1 t1 ha hF hA _ => ⟨fun j hj => rfl, fun i b hb => by simp [gS] at hb, fin⟩⟩, fun i => by simp [gS], hx⟩
structure Trc (P : Program) (l0 : List Oper) (n : Nat) (U : Nat → List AV) (V : Nat → Sto) (Y : Nat → AV) (R : Nat → Sto) : Prop where
  at' : ∀ i, i < n → ∀ o, l0[i]? = some o → Ef P l0 o (U i) (V i) (Y i) (R i) ∧ U (i + 1) = pT (U i) o.dst (Y i) ∧ ∀ k, gS (V (i + 1)) k = (gS (R i) k).or (gS (V i) k)
theorem trace (T : TyOk P ty) {l0 : List Oper} {K : Kt} {n : Nat} (hn : n ≤ l0.length) (hr : ∀ i, i < n → ∀ o, l0[i]? = some o → rot (ty o.type) o.op = true) {t : List AV} {s : Sto} (h : opsW P ty (gds l0) true l0 t s K) :
    ∃ U V Y R, U 0 = t ∧ V 0 = s ∧ Trc P l0 n U V Y R ∧ opsW P ty (gds l0) true (l0.drop n) (U n) (V n) K := by
  induction n with
  | zero => exact ⟨fun _ => t, fun _ => s, fun _ => .u, fun _ => [], rfl, rfl, ⟨fun i hi => absurd hi (Nat.not_lt_zero _)⟩, h⟩
  | succ n ih =>
    obtain ⟨U, V, Y, R, hU, hV, ⟨ht⟩, hk⟩ := ih (by omega) (fun i hi => hr i (by omega))
    have hlt : n < l0.length := by omega
    have ho : l0[n]? = some l0[n] := List.getElem?_eq_getElem hlt
    rw [List.drop_eq_getElem_cons hlt] at hk
    obtain ⟨y, r, s', hE, hs, hK⟩ := Ef_of T (hr n (by omega) _ ho) hk
    refine ⟨fun i => if i = n + 1 then pT (U n) l0[n].dst y else U i, fun i => if i = n + 1 then s' else V i, fun i => if i = n then y else Y i, fun i => if i = n then r else R i, by simp [hU], by simp [hV], ⟨fun i hi o hio => ?_⟩, by simpa using hK⟩
    by_cases e : i = n
    · subst e
      rw [ho] at hio
      obtain rfl := Option.some.inj hio
      simp only [if_neg (show ¬ i = i + 1 by omega), if_true]
      exact ⟨hE, trivial, hs⟩
    · obtain ⟨q1, q2, q3⟩ := ht i (by omega) o hio
      simp only [if_neg e, if_neg (show ¬ i = n + 1 by omega), if_neg (show ¬ i + 1 = n + 1 by omega)]
      exact ⟨q1, q2, q3⟩
theorem gT_sT : ∀ (t : List AV) (d : Nat) (y : AV) (x : Nat), gT (sT t d y) x = if d = x then (if d < t.length then y else .u) else gT t x
  | [], d, y, x => by by_cases e : d = x <;> simp [sT, gT, e]
  | z :: t, 0, y, 0 => by simp [sT, gT]
  | z :: t, 0, y, x + 1 => by simp [sT, gT]
  | z :: t, d + 1, y, 0 => by simp [sT, gT]
  | z :: t, d + 1, y, x + 1 => by simp only [sT, gT, gT_sT t d y x, List.length_cons, Nat.add_lt_add_iff_right, Nat.add_right_cancel_iff]
theorem gT_pT (t : List AV) (d : Option Nat) (y : AV) (x : Nat) : gT (pT t d y) x = if d = some x then (if x < t.length then y else .u) else gT t x := by
  cases d with
  | none => simp [pT]
  | some d =>
    simp only [pT, gT_sT, Option.some.injEq]
    by_cases e : d = x
    · subst e; rfl
    · simp [e]
theorem len_sT : ∀ (t : List AV) (d : Nat) (y : AV), (sT t d y).length = t.length
  | [], _, _ => rfl
  | z :: t, 0, y => rfl
  | z :: t, d + 1, y => by simp only [sT, List.length_cons, len_sT t d y]
theorem len_pT (t : List AV) (d : Option Nat) (y : AV) : (pT t d y).length = t.length := by
  cases d with
  | none => rfl
  | some d => exact len_sT t d y
theorem gT_ge : ∀ {t : List AV} {x : Nat}, t.length ≤ x → gT t x = .u
  | [], _, _ => rfl
  | z :: t, 0, h => by simp at h
  | z :: t, x + 1, h => by simp only [gT]; exact gT_ge (by simpa using h)
theorem gT_at : ∀ {t : List AV} {x : Nat} (h : x < t.length), gT t x = t[x]
  | [], x, h => by simp at h
  | z :: t, 0, h => rfl
  | z :: t, x + 1, h => by simp only [gT, List.getElem_cons_succ]; exact gT_at (by simpa using h)
theorem frL_of {j : Nat} : ∀ {t : List AV}, (∀ x, AV.fr j (gT t x) = true) → AV.frL j t = true
  | [], _ => rfl
  | z :: t, h => by simp only [AV.frL, Bool.and_eq_true]; exact ⟨h 0, frL_of fun x => h (x + 1)⟩
theorem gS_filter (p : Nat → Bool) : ∀ (s : Sto) (i : Nat), gS (s.filter fun q => p q.1) i = if p i = true then gS s i else none
  | [], i => by simp [gS]
  | (j, b) :: s, i => by
    simp only [List.filter_cons]
    by_cases hj : p j = true
    · simp only [hj, if_true, gS]
      by_cases e : j = i
      · subst e; simp [hj]
      · simp only [if_neg e]; exact gS_filter p s i
    · simp only [hj, Bool.false_eq_true, if_false, gS]
      by_cases e : j = i
      · subst e; rw [gS_filter p s j]; simp [hj]
      · simp only [if_neg e]; exact gS_filter p s i
theorem least_of {p : Nat → Prop} (h : ∃ i, p i) : ∃ i, p i ∧ ∀ j, j < i → ¬ p j := by
  obtain ⟨i, h1, h2⟩ := exists_least (p := p) h
  exact ⟨i, h1, fun j hj hp => by have := h2 j hp; omega⟩
structure Hd (P : Program) (ty : TypeId → Option TI) (l0 : List Oper) (n : Nat) (U : Nat → List AV) (V : Nat → Sto) (Y : Nat → AV) (R : Nat → Sto) : Prop where
  nl : n ≤ l0.length
  back : backOk l0 0 = true
  op : ∀ i, i < n → opOk l0 n i = true
  tl : tailOk n l0 = true
  ns : Region.noSelect l0.toArray = true
  co : callsOrd l0 n = true
  cl : nctOk l0 = true
  dc : dchk l0 (U 0) (V 0) = true
  tr : Trc P l0 n U V Y R
mutual
theorem rf_fr1 {j : Nat} (hj : j % 16 = 15) : ∀ (x : AV), AV.rf x = true → AV.fr j x = true
  | .ag cs, hr => by simp only [AV.rf] at hr; simp only [AV.fr]; exact rf_fr2 hj cs hr
  | .tu cs, hr => by simp only [AV.rf] at hr; simp only [AV.fr]; exact rf_fr2 hj cs hr
  | .lo i, hr => by simp only [AV.rf, bne_iff_ne, ne_eq] at hr; simp only [AV.fr, bne_iff_ne, ne_eq]; rintro rfl; exact hr hj
  | .bp i o, hr => by simp only [AV.rf, bne_iff_ne, ne_eq] at hr; simp only [AV.fr, bne_iff_ne, ne_eq]; rintro rfl; exact hr hj
  | .le i z m o, hr => by simp only [AV.rf, bne_iff_ne, ne_eq] at hr; simp only [AV.fr, bne_iff_ne, ne_eq]; rintro rfl; exact hr hj
  | .vw i z m o, hr => by simp only [AV.rf, bne_iff_ne, ne_eq] at hr; simp only [AV.fr, bne_iff_ne, ne_eq]; rintro rfl; exact hr hj
  | .u, _ | .v _, _ | .pr _ _, _ | .ow _ _ _, _ | .pe _, _ => rfl
theorem rf_fr2 {j : Nat} (hj : j % 16 = 15) : ∀ (x : List AV), AV.rfL x = true → AV.frL j x = true
  | [], _ => rfl
  | c :: cs, hr => by
    simp only [AV.rfL, Bool.and_eq_true] at hr
    simp only [AV.frL, Bool.and_eq_true]
    exact ⟨rf_fr1 hj c hr.1, rf_fr2 hj cs hr.2⟩
end
theorem rf_fr : (∀ {x : AV} {j : Nat}, AV.rf x = true → j % 16 = 15 → AV.fr j x = true) ∧ (∀ {x : List AV} {j : Nat}, AV.rfL x = true → j % 16 = 15 → AV.frL j x = true) :=
  ⟨fun {x _} h hj => rf_fr1 hj x h, fun {x _} h hj => rf_fr2 hj x h⟩
theorem Brf_fr {b : Blk} {j : Nat} (h : b.rf = true) (hj : j % 16 = 15) : b.fr j = true := by
  cases b with
  | box tb cs => exact rf_fr.2 h hj
  | row e sz xs => rfl
theorem opT_mem {op : Op} {z : Nat} (h : Operand.tmp z ∈ op.operands.toList) : z ∈ opT op := by
  unfold opT
  exact List.mem_flatten.2 ⟨oT (.tmp z), List.mem_map.2 ⟨_, h, rfl⟩, by simp [oT]⟩
section
variable {l0 : List Oper} {n : Nat} {U : Nat → List AV} {V : Nat → Sto} {Y : Nat → AV} {R : Nat → Sto}
def dsO (l0 : List Oper) (k : Nat) : Option Nat := (l0[k]?).bind (·.dst)
theorem Hd.dis (H : Hd P ty l0 n U V Y R) {i j d : Nat} (hi : i < n) (hj : j < n) (h1 : dsO l0 i = some d) (h2 : dsO l0 j = some d) : i = j := by
  have := H.op i hi
  unfold opOk at this
  have hl : i < l0.length := Nat.lt_of_lt_of_le hi H.nl
  simp only [List.getElem?_eq_getElem hl, Bool.and_eq_true, List.all_eq_true, List.mem_range, Bool.or_eq_true, beq_iff_eq, bne_iff_ne] at this
  have h := this.1.1 j hj
  unfold dsO at h1 h2
  simp only [List.getElem?_eq_getElem hl, Option.bind_some] at h1
  rw [h1, h2] at h
  rcases h with h | h | h
  · exact h.symm
  · cases h
  · exact absurd rfl h
theorem Hd.opr (H : Hd P ty l0 n U V Y R) {i : Nat} (hi : i < n) {o : Oper} (ho : l0[i]? = some o) {z : Nat} (hx : Operand.tmp z ∈ o.op.operands.toList) {j : Nat} (hj : j < n) (hd : dsO l0 j = some z) : Anc l0.toArray i j := by
  have := H.op i hi
  unfold opOk at this
  simp only [ho, Bool.and_eq_true, List.all_eq_true, List.mem_range, Bool.or_eq_true, beq_iff_eq, bne_iff_ne] at this
  have h := this.1.2 _ hx
  simp only [List.all_eq_true, List.mem_range, Bool.or_eq_true, bne_iff_ne] at h
  rcases h j hj with h | h
  · exact absurd hd h
  · exact rch_anc h
theorem Hd.gd (H : Hd P ty l0 n U V Y R) {i : Nat} (hi : i < n) {o : Oper} (ho : l0[i]? = some o) {g : Nat} {b : Bool} (hg : o.guard = some (g, b)) : Anc l0.toArray i g := by
  have := H.op i hi
  unfold opOk at this
  simp only [ho, Bool.and_eq_true, hg] at this
  exact rch_anc this.2
def Dk (R : Nat → Sto) (k id : Nat) : Prop := id % 16 ≠ 15 ∧ ∃ b, gS (R k) id = some b
theorem noD {R : Nat → Sto} {k id : Nat} (hx : id % 16 ≠ 15) (h : ¬ Dk R k id) : gS (R k) id = none := by
  cases e : gS (R k) id with
  | none => rfl
  | some b => exact absurd ⟨hx, b, e⟩ h
theorem gS_no {r : Sto} {id : Nat} (h : ¬ ∃ b, gS r id = some b) : gS r id = none := by
  cases e : gS r id with
  | none => rfl
  | some b => exact absurd ⟨b, e⟩ h
theorem Hd.ef (H : Hd P ty l0 n U V Y R) {i : Nat} (hi : i < n) : ∃ o, l0[i]? = some o ∧ Ef P l0 o (U i) (V i) (Y i) (R i) ∧ U (i + 1) = pT (U i) (dsO l0 i) (Y i) ∧ ∀ k, gS (V (i + 1)) k = (gS (R i) k).or (gS (V i) k) := by
  have hl : i < l0.length := Nat.lt_of_lt_of_le hi H.nl
  have ho := List.getElem?_eq_getElem hl
  obtain ⟨q1, q2, q3⟩ := H.tr.at' i hi _ ho
  exact ⟨_, ho, q1, by unfold dsO; rw [ho]; exact q2, q3⟩
theorem Hd.disD (H : Hd P ty l0 n U V Y R) {i j id : Nat} (hi : i < n) (hj : j < n) (h1 : Dk R i id) (h2 : Dk R j id) : i = j := by
  obtain ⟨o, ho, e, _, _⟩ := H.ef hi
  obtain ⟨o', ho', e', _, _⟩ := H.ef hj
  obtain ⟨h15, b, hb⟩ := h1
  obtain ⟨_, c, hc⟩ := h2
  rcases e.own id b hb with ⟨_, d, q1, q2, q3⟩ | ⟨q, _⟩
  rotate_left
  · exact absurd q h15
  rcases e'.own id c hc with ⟨_, d', q1', q2', q3'⟩ | ⟨q, _⟩
  rotate_left
  · exact absurd q h15
  have e1 : id / 16 = d := Nat.div_eq_of_lt_le (by omega) (by omega)
  have e2 : id / 16 = d' := Nat.div_eq_of_lt_le (by omega) (by omega)
  obtain rfl : d = d' := e1.symm.trans e2
  exact H.dis hi hj (by unfold dsO; rw [ho]; exact q1) (by unfold dsO; rw [ho']; exact q1')
theorem Hd.lenU (H : Hd P ty l0 n U V Y R) : ∀ i, i ≤ n → (U i).length = (U 0).length
  | 0, _ => rfl
  | i + 1, hi => by
    obtain ⟨o, ho, _, h, _⟩ := H.ef (show i < n by omega)
    rw [h, len_pT]; exact H.lenU i (by omega)
theorem Hd.keepU (H : Hd P ty l0 n U V Y R) {i x : Nat} : ∀ j, i ≤ j → j ≤ n → (∀ k, i ≤ k → k < j → dsO l0 k ≠ some x) → gT (U j) x = gT (U i) x
  | 0, h, _, _ => by obtain rfl : i = 0 := by omega
                     rfl
  | j + 1, h, hj, hx => by
    by_cases e : i = j + 1
    · subst e; rfl
    · obtain ⟨o, ho, _, h1, _⟩ := H.ef (show j < n by omega)
      rw [h1, gT_pT, if_neg (hx j (by omega) (by omega))]
      exact H.keepU j (by omega) (by omega) fun k h1 h2 => hx k h1 (by omega)
theorem Hd.keepV (H : Hd P ty l0 n U V Y R) {i x : Nat} : ∀ j, i ≤ j → j ≤ n → (∀ k, i ≤ k → k < j → gS (R k) x = none) → gS (V j) x = gS (V i) x
  | 0, h, _, _ => by obtain rfl : i = 0 := by omega
                     rfl
  | j + 1, h, hj, hx => by
    by_cases e : i = j + 1
    · subst e; rfl
    · obtain ⟨o, ho, _, _, h1⟩ := H.ef (show j < n by omega)
      rw [h1, hx j (by omega) (by omega), Option.none_or]
      exact H.keepV j (by omega) (by omega) fun k h1 h2 => hx k h1 (by omega)
theorem Hd.valU (H : Hd P ty l0 n U V Y R) {k x : Nat} (hk : k < n) (hd : dsO l0 k = some x) {j : Nat} (h1 : k < j) (h2 : j ≤ n) : gT (U j) x = if x < (U 0).length then Y k else .u := by
  rw [H.keepU (i := k + 1) j h1 h2 fun i q1 q2 e => by have := H.dis (show i < n by omega) hk e hd; omega]
  obtain ⟨o, ho, _, h, _⟩ := H.ef hk
  rw [h, gT_pT, if_pos hd, H.lenU k (by omega)]
theorem Hd.blkV (H : Hd P ty l0 n U V Y R) {k id : Nat} (hk : k < n) (hd : Dk R k id) {j : Nat} (h1 : k < j) (h2 : j ≤ n) : gS (V j) id = gS (R k) id := by
  rw [H.keepV (i := k + 1) j h1 h2 fun i q1 q2 => noD hd.1 fun e => by have := H.disD (show i < n by omega) hk e hd; omega]
  obtain ⟨o, ho, _, _, h⟩ := H.ef hk
  obtain ⟨_, b, hb⟩ := hd
  rw [h, hb]; rfl
def Al (l0 : List Oper) (n : Nat) (R : Nat → Sto) (i id : Nat) : Prop := ∀ k, k < n → Dk R k id → Anc l0.toArray i k
theorem Al_no {i id : Nat} (h : ¬ Al l0 n R i id) : ∃ k, k < n ∧ Dk R k id ∧ ¬ Anc l0.toArray i k := by
  simp only [Al, Classical.not_forall] at h
  obtain ⟨k, h1, h2, h3⟩ := h
  exact ⟨k, h1, h2, h3⟩
theorem Hd.oldT (H : Hd P ty l0 n U V Y R) {x : Nat} (hx : ∀ k, k < n → dsO l0 k ≠ some x) {k id : Nat} (hk : k < n) (hd : Dk R k id) : AV.fr id (gT (U 0) x) = true := by
  obtain ⟨o, ho, e, _, _⟩ := H.ef hk
  obtain ⟨h15, b, hb⟩ := hd
  have h1 := frL_gT x (e.new id b hb h15).1
  have hne : o.dst ≠ some x := by have := hx k hk; unfold dsO at this; rw [ho] at this; exact this
  rw [gT_pT, if_neg hne, H.keepU k (Nat.zero_le _) (by omega) fun j _ hj => hx j (by omega)] at h1
  exact h1
theorem Hd.oldS (H : Hd P ty l0 n U V Y R) {j : Nat} {b : Blk} (hb : gS (V 0) j = some b) (hj : ∀ k, k < n → gS (R k) j = none) {k id : Nat} (hk : k < n) (hd : Dk R k id) : b.fr id = true := by
  obtain ⟨o, ho, e, _, _⟩ := H.ef hk
  obtain ⟨h15, c, hc⟩ := hd
  exact (e.new id c hc h15).2 j b (by rw [H.keepV k (Nat.zero_le _) (by omega) fun i _ hi => hj i (by omega)]; exact hb)
theorem Hd.resFr (H : Hd P ty l0 n U V Y R) {j : Nat} (h15 : j % 16 = 15) {q : Nat} (hq : q ≤ n) {c : Blk} (hc : gS (V q) j = some c) {k id : Nat} (hk : k < n) (hd : Dk R k id) : c.fr id = true := by
  by_cases hw : ∃ m, m < n ∧ ∃ b, gS (R m) j = some b
  · obtain ⟨m, ⟨hm, b, hb⟩, hl⟩ := least_of hw
    have h0 : ∀ c, gS (V 0) j = some c → ∀ i, c.fr i = true := fun c hc i => by
      obtain ⟨o, ho, e, _, _⟩ := H.ef hm
      rcases e.own j b hb with ⟨q, _⟩ | ⟨_, _, c', q1, q2⟩
      · exact absurd h15 q
      · rw [H.keepV m (Nat.zero_le _) (by omega) fun i _ hi => gS_no fun hb' => hl i hi ⟨by omega, hb'⟩, hc] at q1
        obtain rfl := Option.some.inj q1
        exact q2 i
    have all : ∀ q, q ≤ n → ∀ c, gS (V q) j = some c → ∀ i, c.fr i = true := by
      intro q
      induction q with
      | zero => exact fun _ => h0
      | succ q ih =>
        intro hq c hc i
        obtain ⟨o, ho, e, _, hV⟩ := H.ef (show q < n by omega)
        rw [hV] at hc
        cases e2 : gS (R q) j with
        | none => rw [e2] at hc; exact ih (by omega) c (by simpa using hc) i
        | some b' =>
          rw [e2] at hc
          obtain rfl : b' = c := by simpa using hc
          rcases e.own j _ e2 with ⟨q', _⟩ | ⟨_, q1, _⟩
          · exact absurd h15 q'
          · exact (e.cal q1).2 j _ e2 i
    exact all q hq c hc id
  · have hno : ∀ m, m < n → gS (R m) j = none := fun m hm => gS_no fun hb => hw ⟨m, hm, hb⟩
    rw [H.keepV q (Nat.zero_le _) hq fun i _ hi => hno i (by omega)] at hc
    exact H.oldS hc hno hk hd
structure In (l0 : List Oper) (n : Nat) (Y : Nat → AV) (R : Nat → Sto) (k : Nat) : Prop where
  y : AIn (fun j => Al l0 n R k j ∨ Dk R k j) (Y k)
  r : ∀ i b, gS (R k) i = some b → BIn (fun j => Al l0 n R k j ∨ Dk R k j) b
theorem Hd.up (H : Hd P ty l0 n U V Y R) {i k : Nat} (hk : k < n) (ha : Anc l0.toArray i k) {j : Nat} (h : Al l0 n R k j ∨ Dk R k j) : Al l0 n R i j := by
  intro m hm hd
  rcases h with h | h
  · exact ha.trans (h m hm hd)
  · rw [H.disD hm hk hd h]; exact ha
theorem Hd.anc (H : Hd P ty l0 n U V Y R) {i k : Nat} (h : Anc l0.toArray i k) : k < i := h.lt H.back
theorem Hd.opnd (H : Hd P ty l0 n U V Y R) {i : Nat} (hi : i < n) (hI : ∀ k, k < i → In l0 n Y R k) {o : Oper} (ho : l0[i]? = some o) : ∀ x ∈ o.op.operands.toList, AIn (Al l0 n R i) (eT (U i) x) := by
  intro x hx
  cases x with
  | tmp z =>
    simp only [eT]
    by_cases hz : ∃ k, k < n ∧ dsO l0 k = some z
    · obtain ⟨k, hk, hd⟩ := hz
      have ha := H.opr hi ho hx hk hd
      rw [H.valU hk hd (H.anc ha) (by omega)]
      split
      · intro j hj
        exact (hI k (H.anc ha)).y j fun h => hj (H.up hk ha h)
      · intro j _; rfl
    · have hz' : ∀ k, k < n → dsO l0 k ≠ some z := fun k hk e => hz ⟨k, hk, e⟩
      rw [H.keepU i (Nat.zero_le _) (by omega) fun k _ hk => hz' k (by omega)]
      intro j hj
      obtain ⟨k, hk, hd, _⟩ := Al_no hj
      exact H.oldT hz' hk hd
  | const v => intro j _; rfl
  | global g => intro j _; rfl
  | func f => intro j _; rfl
theorem Hd.clos (H : Hd P ty l0 n U V Y R) {i : Nat} (hi : i < n) (hI : ∀ k, k < i → In l0 n Y R k) : ∀ id b, Al l0 n R i id → gS (V i) id = some b → BIn (Al l0 n R i) b := by
  intro id b hA hb j hj
  by_cases h15 : id % 16 = 15
  · obtain ⟨k, hk, hdk, _⟩ := Al_no hj
    exact H.resFr h15 (by omega) hb hk hdk
  by_cases hd : ∃ k, k < n ∧ Dk R k id
  · obtain ⟨k, hk, hd⟩ := hd
    have ha := hA k hk hd
    rw [H.blkV hk hd (H.anc ha) (by omega)] at hb
    exact (hI k (H.anc ha)).r id b hb j fun h => hj (H.up hk ha h)
  · have hd' : ∀ k, k < n → ¬ Dk R k id := fun k hk e => hd ⟨k, hk, e⟩
    rw [H.keepV i (Nat.zero_le _) (by omega) fun k _ hk => noD h15 (hd' k (by omega))] at hb
    obtain ⟨k, hk, hdk, _⟩ := Al_no hj
    exact H.oldS hb (fun k hk => noD h15 (hd' k hk)) hk hdk
theorem Hd.irr (H : Hd P ty l0 n U V Y R) {i : Nat} (h : Anc l0.toArray i i) : False := absurd (H.anc h) (Nat.lt_irrefl _)
theorem Hd.inn (H : Hd P ty l0 n U V Y R) : ∀ m, m ≤ n → ∀ i, i < m → In l0 n Y R i
  | 0, _, i, hi => absurd hi (Nat.not_lt_zero _)
  | m + 1, hm, i, hi => by
    by_cases e : i = m
    · subst e
      have hI := H.inn i (by omega)
      obtain ⟨o, ho, e, _, _⟩ := H.ef (show i < n by omega)
      obtain ⟨h1, h2, _⟩ := e.run (Al l0 n R i) (V i) (U i) (fun x hx => ⟨rfl, H.opnd (by omega) hI ho x hx⟩) ⟨fun _ _ => rfl, H.clos (by omega) hI⟩ (fun j b hb h15 hA => H.irr (hA i (by omega) ⟨h15, b, hb⟩)) (fun _ _ _ => rfl)
      exact ⟨h1, h2⟩
    · exact H.inn m (by omega) i (by omega)
def hid (l0 : List Oper) (n : Nat) (m : Nat → Bool) (x : Nat) : Bool := (List.range n).any fun k => !m k && dsO l0 k == some x
def TM (l0 : List Oper) (n : Nat) (U : Nat → List AV) (m : Nat → Bool) : List AV := (List.range (U n).length).map fun x => if hid l0 n m x = true then .u else gT (U n) x
def okS (n : Nat) (R : Nat → Sto) (m : Nat → Bool) (id : Nat) : Bool := (List.range n).all fun k => m k || (gS (R k) id).isNone
def lc (l0 : List Oper) (m : Nat → Bool) : Nat → Nat
  | 0 => 0
  | k + 1 => if (m k && isCk l0 k) = true then k + 1 else lc l0 m k
def SM (l0 : List Oper) (n : Nat) (V : Nat → Sto) (R : Nat → Sto) (m : Nat → Bool) : Sto := ((V (lc l0 m n)).filter fun p => p.1 % 16 == 15) ++ (V n).filter fun p => p.1 % 16 != 15 && okS n R m p.1
theorem lc_le (l0 : List Oper) (m : Nat → Bool) : ∀ n, lc l0 m n ≤ n
  | 0 => Nat.le_refl _
  | n + 1 => by
    simp only [lc]
    split
    · exact Nat.le_refl _
    · exact Nat.le_succ_of_le (lc_le l0 m n)
theorem lc_gt {l0 : List Oper} {m : Nat → Bool} : ∀ {n k : Nat}, k < n → m k = true → isCk l0 k = true → k < lc l0 m n
  | n + 1, k, hk, h1, h2 => by
    simp only [lc]
    split
    · omega
    · rename_i h
      by_cases e : k = n
      · subst e; simp [h1, h2] at h
      · exact lc_gt (by omega) h1 h2
theorem lc_at {l0 : List Oper} {m : Nat → Bool} : ∀ {n : Nat}, lc l0 m n = 0 ∨ ∃ c, lc l0 m n = c + 1 ∧ c < n ∧ m c = true ∧ isCk l0 c = true
  | 0 => .inl rfl
  | n + 1 => by
    simp only [lc]
    split
    · rename_i h
      simp only [Bool.and_eq_true] at h
      exact .inr ⟨n, rfl, by omega, h.1, h.2⟩
    · rcases lc_at (l0 := l0) (m := m) (n := n) with h | ⟨c, h1, h2, h3⟩
      · exact .inl h
      · exact .inr ⟨c, h1, by omega, h3⟩
theorem hid_t {m : Nat → Bool} {x k : Nat} (hk : k < n) (hm : m k = false) (hd : dsO l0 k = some x) : hid l0 n m x = true := List.any_eq_true.2 ⟨k, List.mem_range.2 hk, by simp [hm, hd]⟩
theorem hid_f {m : Nat → Bool} {x : Nat} (h : ∀ k, k < n → dsO l0 k = some x → m k = true) : hid l0 n m x = false := by
  cases e : hid l0 n m x with
  | false => rfl
  | true =>
    obtain ⟨k, hk, h2⟩ := List.any_eq_true.1 e
    simp only [Bool.and_eq_true, Bool.not_eq_true', beq_iff_eq] at h2
    rw [h k (List.mem_range.1 hk) h2.2] at h2
    cases h2.1
theorem gT_TM (m : Nat → Bool) (x : Nat) : gT (TM l0 n U m) x = if hid l0 n m x = true then .u else gT (U n) x := by
  by_cases h : x < (U n).length
  · rw [gT_at (by simpa [TM] using h)]
    simp [TM]
  · rw [gT_ge (by simpa [TM] using h), gT_ge (t := U n) (by omega)]
    split <;> rfl
theorem gS_SM (m : Nat → Bool) (id : Nat) : gS (SM l0 n V R m) id = if id % 16 = 15 then gS (V (lc l0 m n)) id else if okS n R m id = true then gS (V n) id else none := by
  unfold SM
  rw [gS_app, gS_filter (fun j => j % 16 == 15), gS_filter (fun j => j % 16 != 15 && okS n R m j)]
  by_cases h : id % 16 = 15
  · simp [h]
  · have : (id % 16 == 15) = false := by simpa using h
    simp only [this, Bool.false_eq_true, if_false, Option.none_or, if_neg h]
    have h2 : (id % 16 != 15) = true := by simpa using h
    simp [h2]
theorem okS_iff {m : Nat → Bool} {id : Nat} (h15 : id % 16 ≠ 15) : okS n R m id = true ↔ ∀ k, k < n → Dk R k id → m k = true := by
  simp only [okS, List.all_eq_true, List.mem_range, Bool.or_eq_true, Option.isNone_iff_eq_none]
  refine ⟨fun h k hk hd => ?_, fun h k hk => ?_⟩
  · rcases h k hk with q | q
    · exact q
    · obtain ⟨_, b, hb⟩ := hd; rw [q] at hb; cases hb
  · by_cases hd : Dk R k id
    · exact .inl (h k hk hd)
    · exact .inr (noD h15 hd)
theorem Hd.ord (H : Hd P ty l0 n U V Y R) {i j : Nat} (hij : i < j) (hj : j < n) (h1 : isCk l0 i = true) (h2 : isCk l0 j = true) : Anc l0.toArray j i := by
  have := List.all_eq_true.1 H.co j (List.mem_range.2 hj)
  simp only [h2, Bool.not_true, Bool.false_or, List.all_eq_true, List.mem_range, Bool.or_eq_true, Bool.not_eq_true'] at this
  rcases this i hij with h | h
  · rw [h1] at h; cases h
  · exact rch_anc h
theorem isCk_at {l0 : List Oper} {i : Nat} {o : Oper} (ho : l0[i]? = some o) : isCk l0 i = isC o.op := by unfold isCk; rw [ho]
theorem Hd.noRes (H : Hd P ty l0 n U V Y R) {k x : Nat} (hk : k < n) (h15 : x % 16 = 15) (hC : isCk l0 k = false) : gS (R k) x = none := by
  obtain ⟨o, ho, e, _, _⟩ := H.ef hk
  cases h : gS (R k) x with
  | none => rfl
  | some b =>
    rcases e.own x b h with ⟨q, _⟩ | ⟨_, q, _⟩
    · exact absurd h15 q
    · rw [isCk_at ho, q] at hC; cases hC
def cf (l0 : List Oper) (s : Sto) : Prop := hasC l0 = true ∧ rsv s = true
theorem Hd.resConst (H : Hd P ty l0 n U V Y R) (h : ¬ cf l0 (V 0)) {x : Nat} (h15 : x % 16 = 15) : ∀ q, q ≤ n → gS (V q) x = gS (V 0) x
  | 0, _ => rfl
  | q + 1, hq => by
    have ih := H.resConst h h15 q (by omega)
    obtain ⟨o, ho, e, _, hV⟩ := H.ef (show q < n by omega)
    rw [hV, ← ih]
    cases e2 : gS (R q) x with
    | none => rfl
    | some b =>
      exfalso
      rcases e.own x b e2 with ⟨q', _⟩ | ⟨_, q1, c, q2, _⟩
      · exact absurd h15 q'
      · refine h ⟨?_, ?_⟩
        · exact List.any_eq_true.2 ⟨o, List.mem_of_getElem? ho, q1⟩
        · rw [ih] at q2
          exact List.any_eq_true.2 ⟨_, gS_mem q2, by simpa using h15⟩
theorem Hd.clo (H : Hd P ty l0 n U V Y R) {o : Oper} (ho : o ∈ l0) (hC : isC o.op = false) : (pureOp o.op = false → ∀ z, Operand.tmp z ∈ o.op.operands.toList → z ∈ nct l0) ∧ (pureOp o.op = true → ∀ d, o.dst = some d → d ∈ nct l0 → ∀ z, Operand.tmp z ∈ o.op.operands.toList → z ∈ nct l0) := by
  have := List.all_eq_true.1 H.cl o ho
  simp only [hC, Bool.false_or] at this
  refine ⟨fun hp z hz => ?_, fun hp d hd hdn z hz => ?_⟩
  · rw [if_neg (by rw [hp]; exact Bool.false_ne_true)] at this
    have := List.all_eq_true.1 this z (opT_mem hz)
    simpa using this
  · rw [if_pos hp, hd] at this
    simp only [Bool.or_eq_true, Bool.not_eq_true', List.contains_eq_mem, decide_eq_false_iff_not] at this
    rcases this with q | q
    · exact absurd hdn q
    · have := List.all_eq_true.1 q z (opT_mem hz)
      simpa using this
theorem Hd.clm (H : Hd P ty l0 n U V Y R) (hcf : cf l0 (V 0)) : ∀ k, k ≤ n → (∀ z, z ∈ nct l0 → ∀ j, j % 16 = 15 → AV.fr j (gT (U k) z) = true) ∧ ∀ id c, gS (V k) id = some c → ∀ j, j % 16 = 15 → c.fr j = true
  | 0, _ => by
    have := H.dc
    unfold dchk at this
    rw [hcf.1, hcf.2] at this
    simp only [Bool.not_true, Bool.false_or, rchk, Bool.and_eq_true, List.all_eq_true] at this
    exact ⟨fun z hz j hj => rf_fr.1 (this.1 z hz) hj, fun id c hc j hj => Brf_fr (this.2 _ (gS_mem hc)) hj⟩
  | k + 1, hk => by
    obtain ⟨c1, c2⟩ := H.clm hcf k (by omega)
    obtain ⟨o, ho, e, hU, hV⟩ := H.ef (show k < n by omega)
    have hmem := List.mem_of_getElem? ho
    have hd0 : dsO l0 k = o.dst := by unfold dsO; rw [ho]; rfl
    have opn : (∀ z, Operand.tmp z ∈ o.op.operands.toList → z ∈ nct l0) → ∀ x ∈ o.op.operands.toList, ∀ j, j % 16 = 15 → AV.fr j (eT (U k) x) = true := fun hz x hx j hj => by
      cases x with
      | tmp z => simp only [eT]; exact c1 z (hz z hx) j hj
      | const v => rfl
      | global g => rfl
      | func f => rfl
    have main : (∀ d, o.dst = some d → d ∈ nct l0 → ∀ j, j % 16 = 15 → AV.fr j (Y k) = true) ∧ ∀ id c, gS (R k) id = some c → ∀ j, j % 16 = 15 → c.fr j = true := by
      by_cases hC : isC o.op = true
      · obtain ⟨q1, q2⟩ := e.cal hC
        exact ⟨fun _ _ _ j hj => q1 j fun h => h.1 hj, fun id c hc j _ => q2 id c hc j⟩
      · have hC : isC o.op = false := by simpa using hC
        by_cases hp : pureOp o.op = true
        · obtain ⟨q1, q2⟩ := e.pur hp
          refine ⟨fun d hd hdn j hj => q2 (fun i => i % 16 ≠ 15) (fun x hx i hi => opn ((H.clo hmem hC).2 hp d hd hdn) x hx i (by simpa using hi)) j (by simpa using hj), fun id c hc => by rw [q1 id] at hc; cases hc⟩
        · have hp : pureOp o.op = false := by simpa using hp
          have ho2 := opn ((H.clo hmem hC).1 hp)
          obtain ⟨q1, q2, _⟩ := e.run (fun i => i % 16 ≠ 15 ∧ ¬ ∃ b, gS (R k) i = some b) (V k) (U k) (fun x hx => ⟨rfl, fun i hi => by
            by_cases h15 : i % 16 = 15
            · exact ho2 x hx i h15
            · have : ∃ b, gS (R k) i = some b := Classical.byContradiction fun hb => hi ⟨h15, hb⟩
              obtain ⟨b, hb⟩ := this
              exact e.opr x hx i b hb h15⟩) ⟨fun _ _ => rfl, fun id b _ hb i hi => by
            by_cases h15 : i % 16 = 15
            · exact c2 id b hb i h15
            · have : ∃ b, gS (R k) i = some b := Classical.byContradiction fun hb => hi ⟨h15, hb⟩
              obtain ⟨b', hb'⟩ := this
              exact (e.new i b' hb' h15).2 id b hb⟩ (fun i b hb h15 hA => hA.2 ⟨b, hb⟩) (fun h => bno hC h)
          have no : ∀ j, j % 16 = 15 → ¬ ((j % 16 ≠ 15 ∧ ¬ ∃ b, gS (R k) j = some b) ∨ (j % 16 ≠ 15 ∧ ∃ b, gS (R k) j = some b)) := fun j hj h => by rcases h with h | h <;> exact h.1 hj
          exact ⟨fun _ _ _ j hj => q1 j (no j hj), fun id c hc j hj => q2 id c hc j (no j hj)⟩
    refine ⟨fun z hz j hj => ?_, fun id c hc j hj => ?_⟩
    · rw [hU, gT_pT]
      split
      · rename_i hdz
        split
        · exact main.1 z (hd0 ▸ hdz) hz j hj
        · rfl
      · exact c1 z hz j hj
    · rw [hV] at hc
      cases e2 : gS (R k) id with
      | none => rw [e2] at hc; exact c2 id c (by simpa using hc) j hj
      | some b =>
        rw [e2] at hc
        obtain rfl : b = c := by simpa using hc
        exact main.2 id _ e2 j hj
theorem Hd.resAt (H : Hd P ty l0 n U V Y R) {m : Nat → Bool} {i : Nat} (hi : i < n) (hCi : isCk l0 i = true) (hmi : m i = false) (hdn : ∀ k j, Anc l0.toArray k j → m k = true → m j = true) (hanc : ∀ j, Anc l0.toArray i j → m j = true) {x : Nat} (h15 : x % 16 = 15) : gS (V (lc l0 m n)) x = gS (V i) x := by
  have hle : lc l0 m n ≤ i := by
    rcases lc_at (l0 := l0) (m := m) (n := n) with h | ⟨c, h1, h2, h3, h4⟩
    · omega
    · have : c < i := by
        apply Classical.byContradiction
        intro hc
        by_cases e : c = i
        · subst e; rw [hmi] at h3; cases h3
        · have := hdn c i (H.ord (show i < c by omega) h2 hCi h4) h3
          rw [hmi] at this; cases this
      omega
  exact (H.keepV i hle (by omega) fun k hk1 hk2 => by
    by_cases hC : isCk l0 k = true
    · have := lc_gt (n := n) (by omega) (hanc k (H.ord hk2 hi hC hCi)) hC
      omega
    · exact H.noRes (by omega) h15 (by simpa using hC)).symm
theorem lc_same {l0 : List Oper} {m m' : Nat → Bool} {i : Nat} (hm' : ∀ j, m' j = (decide (j = i) || m j)) (hC : isCk l0 i = false) : ∀ n, lc l0 m' n = lc l0 m n
  | 0 => rfl
  | n + 1 => by
    simp only [lc]
    have : (m' n && isCk l0 n) = (m n && isCk l0 n) := by
      rw [hm']
      by_cases e : n = i
      · subst e; simp [hC]
      · simp [e]
    rw [this, lc_same hm' hC n]
theorem Hd.lcNext (H : Hd P ty l0 n U V Y R) {m m' : Nat → Bool} {i : Nat} (hi : i < n) (hCi : isCk l0 i = true) (hmi : m i = false) (hdn : ∀ k j, Anc l0.toArray k j → m k = true → m j = true) (hm' : ∀ j, m' j = (decide (j = i) || m j)) : lc l0 m' n = i + 1 := by
  have h1 : i < lc l0 m' n := lc_gt hi (by rw [hm']; simp) hCi
  rcases lc_at (l0 := l0) (m := m') (n := n) with h | ⟨c, h2, h3, h4, h5⟩
  · omega
  · by_cases e : c = i
    · subst e; exact h2
    · have hci : i < c := by omega
      rw [hm'] at h4
      simp only [e, decide_false, Bool.false_or] at h4
      have := hdn c i (H.ord hci h3 hCi h5) h4
      rw [hmi] at this; cases this
theorem Hd.step (H : Hd P ty l0 n U V Y R) {m : Nat → Bool} {i : Nat} (hi : i < n) {o : Oper} (ho : l0[i]? = some o) (hmi : m i = false) (hdn : ∀ k j, Anc l0.toArray k j → m k = true → m j = true) (hanc : ∀ j, Anc l0.toArray i j → m j = true) {w0 : Bs} {φ : Nat → Value} {a : Act} {w : World}
    (S : Sim w0 (TM l0 n U m) (SM l0 n V R m) φ a w) {m' : Nat → Bool} (hm' : ∀ j, m' j = (decide (j = i) || m j)) :
    (∀ Q, wpOp P l0.toArray Q i (fun a' w' => ∃ ψ, Sim w0 (TM l0 n U m') (SM l0 n V R m') ψ a' w') a w) ∧ (pureT o = true → ∃ v, Yields P l0.toArray o v a) := by
  have hI := H.inn n (Nat.le_refl _)
  obtain ⟨o', ho', e, hU, hV⟩ := H.ef hi
  obtain rfl : o' = o := Option.some.inj (ho'.symm.trans ho)
  have hd0 : dsO l0 i = o'.dst := by unfold dsO; rw [ho]; rfl
  have hmem := List.mem_of_getElem? ho
  have hCk := isCk_at ho
  have opx : ∀ x ∈ o'.op.operands.toList, eT (TM l0 n U m) x = eT (U i) x := fun x hx => by
    cases x with
    | tmp z =>
      simp only [eT]
      by_cases hz : ∃ k, k < n ∧ dsO l0 k = some z
      · obtain ⟨k, hk, hd⟩ := hz
        have ha := H.opr hi ho hx hk hd
        rw [gT_TM, hid_f fun k' hk' hd' => by rw [H.dis hk' hk hd' hd]; exact hanc k ha]
        rw [if_neg (by decide), H.valU hk hd hk (Nat.le_refl _), H.valU hk hd (H.anc ha) (by omega)]
      · have hz' : ∀ k, k < n → dsO l0 k ≠ some z := fun k hk e => hz ⟨k, hk, e⟩
        rw [gT_TM, hid_f fun k' hk' hd' => absurd hd' (hz' k' hk')]
        rw [if_neg (by decide), H.keepU (i := i) n (by omega) (Nat.le_refl _) fun k _ hk => hz' k hk]
    | const v => rfl
    | global g => rfl
    | func f => rfl
  have hg : ∀ g b, o'.guard = some (g, b) → gV (TM l0 n U m) (gG (gds l0) g) = gV (U i) (gG (gds l0) g) := fun g b hg => by
    have ha := H.gd hi ho hg
    have hgi := H.anc ha
    have hgn : g < n := by omega
    rw [gG_gds]
    cases ed : (l0[g]?).bind (·.dst) with
    | none => rfl
    | some z =>
      simp only [gV]
      have hd : dsO l0 g = some z := ed
      rw [gT_TM, hid_f fun k' hk' hd' => by rw [H.dis hk' hgn hd' hd]; exact hanc g ha]
      rw [if_neg (by decide), H.valU hgn hd hgn (Nat.le_refl _), H.valU hgn hd hgi (by omega)]
  have hio : l0.toArray[i]? = some o' := by simpa using ho
  have hopn := H.opnd hi (fun k hk => hI k (by omega)) ho
  have hclo := H.clos hi fun k hk => hI k (by omega)
  have hAeq : ∀ id, Al l0 n R i id → id % 16 ≠ 15 → gS (SM l0 n V R m) id = gS (V i) id := fun id hA h15 => by
    rw [gS_SM, if_neg h15, if_pos ((okS_iff h15).2 fun k hk hd => hanc k (hA k hk hd))]
    exact H.keepV (i := i) n (by omega) (Nat.le_refl _) fun k h1 h2 => noD h15 fun hd => by have := H.anc (hA k h2 hd); omega
  have hz : ∀ Q, wpOp P l0.toArray Q i (NxW w0 φ a w o'.dst (Y i) (R i)) a w ∧ (pureT o' = true → ∃ v, Yields P l0.toArray o' v a) := fun Q => by
    by_cases hp : pureOp o'.op = true
    · exact e.prun hp _ _ opx w0 φ a w Q i hio hg S
    · have hp : pureOp o'.op = false := by simpa using hp
      by_cases hC : isC o'.op = true
      · have hres : ∀ id, id % 16 = 15 → gS (SM l0 n V R m) id = gS (V i) id := fun id h15 => by
          rw [gS_SM, if_pos h15]
          exact H.resAt hi (by rw [hCk]; exact hC) hmi hdn hanc h15
        exact (e.run (Al l0 n R i) (SM l0 n V R m) (TM l0 n U m) (fun x hx => ⟨opx x hx, hopn x hx⟩) ⟨fun id hA => by
          by_cases h15 : id % 16 = 15
          · exact hres id h15
          · exact hAeq id hA h15, hclo⟩ (fun j b hb h15 hA => H.irr (hA i hi ⟨h15, b, hb⟩)) (fun _ => hres)).2.2 w0 φ a w Q i hio hg S
      · have hC : isC o'.op = false := by simpa using hC
        by_cases hcf : cf l0 (V 0)
        · obtain ⟨c1, c2⟩ := H.clm hcf i (by omega)
          have rz : ∀ x ∈ o'.op.operands.toList, ∀ j, j % 16 = 15 → AV.fr j (eT (U i) x) = true := fun x hx j hj => by
            cases x with
            | tmp z => simp only [eT]; exact c1 z ((H.clo hmem hC).1 hp z hx) j hj
            | const v => rfl
            | global g => rfl
            | func f => rfl
          exact (e.run (fun id => Al l0 n R i id ∧ id % 16 ≠ 15) (SM l0 n V R m) (TM l0 n U m) (fun x hx => ⟨opx x hx, fun j hj => by
            by_cases h15 : j % 16 = 15
            · exact rz x hx j h15
            · exact hopn x hx j fun h => hj ⟨h, h15⟩⟩) ⟨fun id hA => hAeq id hA.1 hA.2, fun id b hA hb j hj => by
            by_cases h15 : j % 16 = 15
            · exact c2 id b hb j h15
            · exact hclo id b hA.1 hb j fun h => hj ⟨h, h15⟩⟩ (fun j b hb h15 hA => H.irr (hA.1 i hi ⟨h15, b, hb⟩)) (fun h => bno hC h)).2.2 w0 φ a w Q i hio hg S
        · exact (e.run (Al l0 n R i) (SM l0 n V R m) (TM l0 n U m) (fun x hx => ⟨opx x hx, hopn x hx⟩) ⟨fun id hA => by
            by_cases h15 : id % 16 = 15
            · rw [gS_SM, if_pos h15, H.resConst hcf h15 _ (lc_le _ _ _), H.resConst hcf h15 i (by omega)]
            · exact hAeq id hA h15, hclo⟩ (fun j b hb h15 hA => H.irr (hA i hi ⟨h15, b, hb⟩)) (fun h => bno hC h)).2.2 w0 φ a w Q i hio hg S
  refine ⟨fun Q => wpOp_mono (fun a' w' hn => ?_) (hz Q).1, (hz fun _ _ _ => False).2⟩
  have fresh : ∀ id, Dk R i id → ∀ k, k < n → m k = true → ¬ (Al l0 n R k id ∨ Dk R k id) := fun id hd k hk hmk h => by
    rcases h with h | h
    · have := hdn k i (h i hi hd) hmk
      rw [hmi] at this; cases this
    · rw [H.disD hk hi h hd, hmi] at hmk; cases hmk
  have hf : ∀ id b, gS (R i) id = some b → id % 16 ≠ 15 → AV.frL id (pT (TM l0 n U m) o'.dst .u) = true ∧ ∀ j c, gS (SM l0 n V R m) j = some c → gS (R i) j = none ∨ j % 16 = 15 → c.fr id = true := fun id b hb hid15 => by
    have hD : Dk R i id := ⟨hid15, b, hb⟩
    refine ⟨frL_of fun x => ?_, fun j c hj _ => ?_⟩
    · rw [gT_pT]
      split
      · split <;> rfl
      · rename_i hx
        rw [gT_TM]
        by_cases h : hid l0 n m x = true
        · rw [if_pos h]; rfl
        · rw [if_neg h]
          by_cases hz : ∃ k, k < n ∧ dsO l0 k = some x
          · obtain ⟨k, hk, hd⟩ := hz
            rw [H.valU hk hd hk (Nat.le_refl _)]
            split
            · have hmk : m k = true := by
                cases e : m k with
                | true => rfl
                | false => exact absurd (hid_t hk e hd) h
              exact (hI k hk).y id (fresh id hD k hk hmk)
            · rfl
          · have hz' : ∀ k, k < n → dsO l0 k ≠ some x := fun k hk e => hz ⟨k, hk, e⟩
            rw [H.keepU n (Nat.zero_le _) (Nat.le_refl _) fun k _ hk => hz' k hk]
            exact H.oldT hz' hi hD
    · rw [gS_SM] at hj
      split at hj
      · rename_i h15
        exact H.resFr h15 (lc_le _ _ _) hj hi hD
      · rename_i h15
        split at hj
        · rename_i hok
          by_cases hd : ∃ k, k < n ∧ Dk R k j
          · obtain ⟨k, hk, hd⟩ := hd
            rw [H.blkV hk hd hk (Nat.le_refl _)] at hj
            exact (hI k hk).r j c hj id (fresh id hD k hk ((okS_iff h15).1 hok k hk hd))
          · have hd' : ∀ k, k < n → gS (R k) j = none := fun k hk => noD h15 fun e => hd ⟨k, hk, e⟩
            rw [H.keepV n (Nat.zero_le _) (Nat.le_refl _) fun k _ hk => hd' k hk] at hj
            exact H.oldS hj hd' hi hD
        · cases hj
  have hin : ∀ id b, gS (R i) id = some b → id % 16 = 15 → (∃ c, gS (SM l0 n V R m) id = some c) ∧ ∀ j, b.fr j = true := fun id b hb h15 => by
    rcases e.own id b hb with ⟨q, _⟩ | ⟨_, hC, c, hc, _⟩
    · exact absurd h15 q
    · refine ⟨⟨c, ?_⟩, (e.cal hC).2 id b hb⟩
      rw [gS_SM, if_pos h15, H.resAt hi (by rw [hCk]; exact hC) hmi hdn hanc h15]
      exact hc
  have hs : ∀ id, gS (SM l0 n V R m') id = (gS (R i) id).or (gS (SM l0 n V R m) id) := fun id => by
    rw [gS_SM, gS_SM]
    by_cases h15 : id % 16 = 15
    · rw [if_pos h15, if_pos h15]
      by_cases hC : isCk l0 i = true
      · rw [H.lcNext hi hC hmi hdn hm', hV, H.resAt hi hC hmi hdn hanc h15]
      · have hC : isCk l0 i = false := by simpa using hC
        rw [lc_same hm' hC, H.noRes hi h15 hC, Option.none_or]
    · rw [if_neg h15, if_neg h15]
      by_cases hd : Dk R i id
      · rw [if_pos ((okS_iff h15).2 fun k hk h => by rw [H.disD hk hi h hd, hm']; simp), H.blkV hi hd hi (Nat.le_refl _)]
        obtain ⟨_, b, hb⟩ := hd
        rw [hb]; rfl
      · rw [noD h15 hd, Option.none_or]
        have : okS n R m' id = okS n R m id := by
          rw [Bool.eq_iff_iff, okS_iff h15, okS_iff h15]
          refine ⟨fun h k hk q => ?_, fun h k hk q => by rw [hm', h k hk q]; simp⟩
          have := h k hk q
          rw [hm'] at this
          simp only [Bool.or_eq_true, decide_eq_true_eq] at this
          rcases this with e | e
          · subst e; exact absurd q hd
          · exact e
        rw [this]
  obtain ⟨ψ, S'⟩ := mergeW (s' := SM l0 n V R m') S hn hf hin hs
  refine ⟨ψ, Sim_weak S' ?_ (fun x => ?_) fun _ _ h => h⟩
  · rw [len_pT]; simp [TM]
  · rw [gT_TM]
    by_cases h : hid l0 n m' x = true
    · rw [if_pos h]; exact .inl rfl
    · rw [if_neg h]
      right
      rw [gT_pT]
      by_cases hx : o'.dst = some x
      · rw [if_pos hx, H.valU hi (hd0.trans hx) hi (Nat.le_refl _)]
        have : (TM l0 n U m).length = (U 0).length := by simp only [TM, List.length_map, List.length_range]; exact H.lenU n (Nat.le_refl _)
        rw [this]
      · rw [if_neg hx, gT_TM, if_neg]
        intro h'
        refine h (List.any_eq_true.2 ?_)
        obtain ⟨k, hk, h9⟩ := List.any_eq_true.1 h'
        refine ⟨k, hk, ?_⟩
        simp only [Bool.and_eq_true, Bool.not_eq_true', beq_iff_eq] at h9 ⊢
        refine ⟨?_, h9.2⟩
        rw [hm', h9.1, Bool.or_false]
        refine decide_eq_false fun e => ?_
        rw [e] at h9
        exact hx (hd0 ▸ h9.2)
end
theorem tail_ok (T : TyOk P ty) {l0 : List Oper} (hns : Region.noSelect l0.toArray = true) (hp : ∀ c a w, ¬ Q (.panic c) a w) {K : Kt} (hK : ∀ φ t s a w, K t s → Sim w0 t s φ a w → Q .normal a w) : ∀ (l : List Oper) (k : Nat) (listed : Array Bool) {q : Bool} {t : List AV} {s : Sto} {φ : Nat → Value} {a : Act} {w : World},
    (∀ j, l[j]? = l0.toArray[k + j]?) → tlB l0.toArray l.length k listed = true → opsW P ty (gds l0) q l t s K → Sim w0 t s φ a w → wpAny P .any l0.toArray Q l.length listed a w
  | [], k, listed, q, t, s, φ, a, w, hl, hB, h, S => ⟨by simpa [tlB] using hB, hK φ t s a w h S⟩
  | o :: l, k, listed, q, t, s, φ, a, w, hl, hB, h, S => by
    have h0 : l0.toArray[k]? = some o := by simpa using (hl 0).symm
    have hl' : ∀ j, l[j]? = l0.toArray[k + 1 + j]? := fun j => by have := hl (j + 1); simpa [Nat.add_assoc, Nat.add_comm 1 j] using this
    simp only [List.length_cons, tlB, Bool.and_eq_true, Bool.or_eq_true, decide_eq_true_eq] at hB
    obtain ⟨hB, hB'⟩ := hB
    rcases hB with hB | hB
    · refine ⟨fun h1 => (by rw [hB] at h1; cases h1), fun i hi => ?_⟩
      rw [hB] at hi
      have hik : i = k := by simpa using hi
      subst hik
      unfold wpOp
      simp only [h0]
      obtain ⟨d, op, ot, p, af, gd⟩ := o
      cases gd with
      | none =>
        simp only [opsW] at h
        rw [if_pos (by simp [Region.wanted])]
        left
        refine Oper.wp_mono (fun a' w' hn => ?_) (opX_ok (o := ⟨d, op, ot, p, af, none⟩) T S h)
        obtain ⟨φ', t', s', h', S'⟩ := hn
        exact tail_ok T hns hp hK l _ _ hl' hB' h' S'
      | some g =>
        obtain ⟨i', b⟩ := g
        simp only [opsW] at h
        obtain ⟨v, hv, hz⟩ := guardW_inv h
        clear h
        have hy := guard_yields S hv
        rcases hz with ⟨rfl, h⟩ | ⟨hne, h⟩
        · rw [if_pos (by simp [Region.wanted, hy, bOf])]
          left
          refine Oper.wp_mono (fun a' w' hn => ?_) (opX_ok (o := ⟨d, op, ot, p, af, some (i', b)⟩) T S h)
          obtain ⟨φ', t', s', h', S'⟩ := hn
          exact tail_ok T hns hp hK l _ _ hl' hB' h' S'
        · rw [if_neg (by simp [Region.wanted, hy, hne])]
          exact tail_ok T hns hp hK l _ _ hl' hB' h (Sim_put S d (y := .v undef) (by simp [Rep]))
    · obtain ⟨⟨hr, hpu⟩, hf⟩ := hB
      have hpu : pureT o = true := by unfold pureN at hpu; rw [h0] at hpu; exact hpu
      obtain ⟨d, op, ot, p, af, gd⟩ := o
      unfold pureT at hpu
      simp only [Bool.and_eq_true, Option.isNone_iff_eq_none] at hpu
      obtain ⟨rfl, hpu⟩ := hpu
      simp only [opsW] at h
      have key : ∃ y v, opsW P ty (gds l0) (q && rot (ty ot) op) l (pT t d y) s K ∧ Rep w0.heap.size w0 φ y v ∧ ∀ w1, (execOp a.eval (⟨d, op, ot, p, af, none⟩ : Oper)).run P w1 = .ok (.value v) w1 := by
        cases op with
        | move x =>
          simp only [opX] at h
          exact ⟨_, _, h, Sim_ev S x, fun w1 => by simp [execOp]⟩
        | extract x n =>
          simp only [opX] at h
          have hx := Sim_ev S x
          unfold extW at h
          split at h
          · rename_i cs _ _ _ _ _ e1
            rw [e1] at hx
            simp only [Rep] at hx
            obtain ⟨z, e2, h2⟩ := hx
            obtain ⟨y, v, h3, h4, h5⟩ := exW_get h h2
            exact ⟨y, v, h5, h4, fun w1 => by simp [execOp, e2, Instr.extract, h3]⟩
          · exact h.elim
        | _ => simp at hpu
      obtain ⟨y, v, h1, h2, h3⟩ := key
      exact wpAny_first (oi := ⟨d, op, ot, p, af, none⟩) h0 (Region.noSelect_spec hns) (fun c a w hh => absurd hh (hp c _ w)) l.length listed a w (Region.free_spec h0 hf) (by simpa using hr) (.inl ⟨by simp [Region.wanted], h3⟩)
        (tail_ok T hns hp hK l _ _ hl' hB' h1 (Sim_put S d h2))
def lefT (n : Nat) (listed : Array Bool) : Nat := ((List.range n).filter fun i => !listed.getD i false).length
theorem lefT_set {n i : Nat} {listed : Array Bool} (hi : i < n) (hs : n ≤ listed.size) (h : listed.getD i false = false) : lefT n (listed.setIfInBounds i true) + 1 = lefT n listed := by
  unfold lefT
  have key : ∀ m, m ≤ n → ((List.range m).filter fun j => !(listed.setIfInBounds i true).getD j false).length + (if i < m then 1 else 0) = ((List.range m).filter fun j => !listed.getD j false).length := by
    intro m
    induction m with
    | zero => intro _; simp
    | succ m ih =>
      intro hm
      have := ih (by omega)
      simp only [List.range_succ, List.filter_append, List.length_append]
      by_cases e : i = m
      · subst e
        have e1 : (if i < i then 1 else 0) = 0 := if_neg (Nat.lt_irrefl i)
        have e2 : (if i < i + 1 then 1 else 0) = 1 := if_pos (Nat.lt_succ_self i)
        rw [e1] at this
        rw [e2]
        have h1 : (listed.setIfInBounds i true).getD i false = true := by
          have : i < listed.size := by omega
          simp [this]
        simp only [List.filter_cons, List.filter_nil, h1, h, Bool.not_true, Bool.not_false, if_true, if_false, Bool.false_eq_true, List.length_cons, List.length_nil]
        omega
      · have h1 : (listed.setIfInBounds i true).getD m false = listed.getD m false := getD_set_ne false e
        have e2 : (if i < m + 1 then 1 else 0) = (if i < m then 1 else 0) := by
          by_cases e3 : i < m
          · rw [if_pos e3, if_pos (by omega)]
          · rw [if_neg e3, if_neg (by omega)]
        simp only [List.filter_cons, List.filter_nil, h1]
        rw [e2]
        omega
  have := key n (Nat.le_refl _)
  rw [if_pos hi] at this
  exact this
theorem lefT_zero {n : Nat} {listed : Array Bool} (h : lefT n listed = 0) {i : Nat} (hi : i < n) : listed.getD i false = true := by
  unfold lefT at h
  cases e : listed.getD i false with
  | true => rfl
  | false =>
    have : i ∈ (List.range n).filter fun j => !listed.getD j false := List.mem_filter.2 ⟨List.mem_range.2 hi, by simp [e]⟩
    rw [List.length_eq_zero_iff.1 h] at this
    cases this
theorem lefT_pos {n k : Nat} {listed : Array Bool} (h : lefT n listed = k + 1) : ∃ i, i < n ∧ listed.getD i false = false := by
  unfold lefT at h
  cases e : (List.range n).filter fun j => !listed.getD j false with
  | nil => rw [e] at h; simp at h
  | cons x l =>
    have : x ∈ (List.range n).filter fun j => !listed.getD j false := by rw [e]; simp
    obtain ⟨h1, h2⟩ := List.mem_filter.1 this
    exact ⟨x, List.mem_range.1 h1, by simpa using h2⟩
theorem getD_tf {listed : Array Bool} {i : Nat} (h : i < listed.size) : listed.getD i true = listed.getD i false := by simp [h]
theorem head_any {l0 : List Oper} {n : Nat} {U : Nat → List AV} {V : Nat → Sto} {Y : Nat → AV} {R : Nat → Sto} (H : Hd P ty l0 n U V Y R) (hp : ∀ c a w, ¬ Q (.panic c) a w)
    (hQ : ∀ φ a w, Sim w0 (U n) (V n) φ a w → wpAny P .any l0.toArray Q (l0.length - n) (Array.replicate n true ++ Array.replicate (l0.length - n) false) a w) :
    ∀ (f : Nat) (listed : Array Bool) (φ : Nat → Value) (a : Act) (w : World), listed.size = l0.length → (∀ j, n ≤ j → listed.getD j false = false) → lefT n listed = f → ListedClosed .any l0.toArray listed →
      Sim w0 (TM l0 n U (fun j => listed.getD j false)) (SM l0 n V R (fun j => listed.getD j false)) φ a w → wpAny P .any l0.toArray Q (f + (l0.length - n)) listed a w
  | 0, listed, φ, a, w, hsz, htl, hc, hcl, S => by
    have hall : listed = Array.replicate n true ++ Array.replicate (l0.length - n) false := by
      apply Array.ext
      · have := H.nl; simp [hsz]; omega
      · intro i h1 h2
        have hg : listed[i] = listed.getD i false := by simp [h1]
        rw [hg]
        by_cases hi : i < n
        · rw [lefT_zero hc hi, Array.getElem_append_left (by simpa using hi)]; simp
        · rw [htl i (by omega), Array.getElem_append_right (by simpa using hi)]; simp
    rw [hall]
    simp only [Nat.zero_add]
    refine hQ φ a w (Sim_weak S ?_ (fun x => .inr ?_) fun id b hb => ?_)
    · simp [TM]
    · rw [gT_TM, hid_f fun k hk _ => lefT_zero hc hk, if_neg (by decide)]
    · rw [gS_SM]
      by_cases h15 : id % 16 = 15
      · rw [if_pos h15]
        rw [← hb]
        exact (H.keepV n (lc_le _ _ _) (Nat.le_refl _) fun k hk1 hk2 => by
          by_cases hC : isCk l0 k = true
          · have := lc_gt (m := fun j => listed.getD j false) hk2 (lefT_zero hc hk2) hC
            omega
          · exact H.noRes hk2 h15 (by simpa using hC)).symm
      · rw [if_neg h15, if_pos ((okS_iff h15).2 fun k hk _ => lefT_zero hc hk)]; exact hb
  | f + 1, listed, φ, a, w, hsz, htl, hc, hcl, S => by
    have hnl := H.nl
    have rdy : ∀ i, i < l0.length → listed.getD i false = false → (∀ e ∈ (l0[i]?.map (·.after)).getD #[], Region.binds .any e = true → listed.getD e.on false = true) → i ∈ Region.ready .any l0.toArray listed := fun i hi h1 h2 => by
      refine mem_ready.2 ⟨by rw [getD_tf (by omega)]; exact h1, l0[i], by simp [hi], fun e he hb => h2 e ?_ hb⟩
      rw [List.getElem?_eq_getElem hi]; exact he
    have run1 : ∀ i, i ∈ Region.ready .any l0.toArray listed → i < n → ∃ o, l0[i]? = some o ∧ listed.getD i false = false ∧ (∀ Q', wpOp P l0.toArray Q' i (fun a' w' => ∃ ψ, Sim w0 (TM l0 n U (fun j => (listed.setIfInBounds i true).getD j false)) (SM l0 n V R (fun j => (listed.setIfInBounds i true).getD j false)) ψ a' w') a w) ∧ (pureT o = true → ∃ v, Yields P l0.toArray o v a) := fun i hr hi => by
      have hil : i < l0.length := by omega
      have hun : listed.getD i false = false := by rw [← getD_tf (by omega)]; exact (mem_ready.1 hr).1
      obtain ⟨h1, h2⟩ := H.step (m := fun j => listed.getD j false) (m' := fun j => (listed.setIfInBounds i true).getD j false) hi (List.getElem?_eq_getElem hil) hun (fun k j ha hk => ha.listed hcl hk) (fun j ha => ha.ready hcl hr) S (fun j => by
        by_cases e : j = i
        · subst e; simp [show j < listed.size by omega]
        · simp only [decide_eq_false e, Bool.false_or]; exact getD_set_ne false (Ne.symm e))
      exact ⟨_, List.getElem?_eq_getElem hil, hun, h1, h2⟩
    have nxt : ∀ i, i ∈ Region.ready .any l0.toArray listed → i < n → ∀ φ a w, Sim w0 (TM l0 n U (fun j => (listed.setIfInBounds i true).getD j false)) (SM l0 n V R (fun j => (listed.setIfInBounds i true).getD j false)) φ a w → wpAny P .any l0.toArray Q (f + (l0.length - n)) (listed.setIfInBounds i true) a w := fun i hr hi φ a w S' => by
      have hun : listed.getD i false = false := by rw [← getD_tf (by omega)]; exact (mem_ready.1 hr).1
      refine head_any H hp hQ f _ φ a w (by simp [hsz]) (fun j hj => ?_) (by have := lefT_set hi (by omega) hun; omega) (hcl.set hr) S'
      rw [getD_set_ne false (by omega)]; exact htl j hj
    rw [show f + 1 + (l0.length - n) = (f + (l0.length - n)) + 1 by omega]
    by_cases hF : ∃ i, i ∈ Region.ready .any l0.toArray listed ∧ i < n ∧ fstB l0.toArray i = true
    · obtain ⟨i, hr, hi, hf⟩ := hF
      obtain ⟨o, ho, hun, h1, h2⟩ := run1 i hr hi
      have ho' : l0.toArray[i]? = some o := by simpa using ho
      unfold fstB at hf
      rw [ho'] at hf
      simp only [Bool.and_eq_true] at hf
      obtain ⟨v, hv⟩ := h2 hf.1
      refine wpAny_first ho' (Region.noSelect_spec H.ns) (fun c a w hh => absurd hh (hp c _ w)) _ listed a w (fun j oj hj hne hjun hno => ?_) hr hv ?_
      · have := List.all_eq_true.1 hf.2 j (List.mem_range.2 (Array.getElem?_eq_some_iff.1 hj).1)
        simp only [hj, Bool.or_eq_true, beq_iff_eq, hne, false_or] at this
        rcases this with (q | q) | q
        · obtain ⟨e, he, hb⟩ := Array.any_eq_true'.1 q
          simp only [Bool.and_eq_true, beq_iff_eq] at hb
          exact absurd hb.2 (hno e he hb.1)
        · obtain ⟨e, he, hb⟩ := Array.any_eq_true'.1 q
          simp only [Bool.and_eq_true, beq_iff_eq] at hb
          obtain ⟨_, o2, ho2, h3⟩ := mem_ready.1 hr
          obtain rfl : o2 = o := Option.some.inj (ho2.symm.trans ho')
          have h4 := h3 e he hb.1
          rw [hb.2] at h4
          have hjl : j < listed.size := by have := (Array.getElem?_eq_some_iff.1 hj).1; simp at this; omega
          rw [getD_tf hjl, h4] at hjun
          cases hjun
        · exact q
      · have h5 := h1 (fun _ _ _ => False)
        have h6 : ∃ ψ, Sim w0 (TM l0 n U (fun j => (listed.setIfInBounds i true).getD j false)) (SM l0 n V R (fun j => (listed.setIfInBounds i true).getD j false)) ψ (a.put o.dst v) w := by
          unfold wpOp at h5
          simp only [ho'] at h5
          rcases hv with ⟨q1, q2⟩ | ⟨q1, q2⟩
          · rw [if_pos q1] at h5
            rcases h5 with h5 | h5
            · unfold Oper.wp at h5
              rw [q2 w] at h5
              exact h5
            · exact absurd h5.2 (fun hl => by have := hl; simp [LetsOut] at this)
          · rw [if_neg (by rw [q1]; exact Bool.false_ne_true)] at h5
            rw [q2]; exact h5
        obtain ⟨ψ, h6⟩ := h6
        exact nxt i hr hi ψ _ w h6
    · have least : ∃ k, k < n ∧ listed.getD k false = false ∧ ∀ j, j < k → listed.getD j false = true := by
        obtain ⟨k, hk, hk2⟩ := least_of (lefT_pos hc)
        refine ⟨k, hk.1, hk.2, fun j hj => ?_⟩
        cases e : listed.getD j false with
        | true => rfl
        | false => exact absurd ⟨by omega, e⟩ (hk2 j hj)
      obtain ⟨k, hk, hku, hkl⟩ := least
      have hkr : k ∈ Region.ready .any l0.toArray listed := rdy k (by omega) hku fun e he hb => by
        rw [List.getElem?_eq_getElem (show k < l0.length by omega)] at he
        have := backOk_at H.back (List.getElem?_eq_getElem (show k < l0.length by omega)) e he hb
        exact hkl _ (by omega)
      refine ⟨fun h0 => (by rw [h0] at hkr; cases hkr), fun i hi => ?_⟩
      have hin : i < n := by
        apply Classical.byContradiction
        intro hin
        have hil : i < l0.length := by
          obtain ⟨_, o, ho, _⟩ := mem_ready.1 hi
          simpa using (Array.getElem?_eq_some_iff.1 ho).1
        have := List.all_eq_true.1 H.tl i (List.mem_range.2 hil)
        simp only [Bool.or_eq_true, decide_eq_true_eq, List.all_eq_true, List.mem_range] at this
        rcases this with h | h
        · omega
        · rcases h k hk with h | h
          · exact hF ⟨k, hkr, hk, h⟩
          · have := (rch_anc h).ready hcl hi
            rw [hku] at this; cases this
      obtain ⟨o, ho, hun, h1, _⟩ := run1 i hi hin
      exact wpOp_mono (fun a' w' hS => by obtain ⟨ψ, hS⟩ := hS; exact nxt i hi hin ψ a' w' hS) (h1 Q)
theorem region_ok (T : TyOk P ty) (hm : P.follows .mixedOrders = true) {id : Nat} {l : List Oper} {dr : Bool} (hd : dr = true → drOk ty l = true) {K : Kt} (hK : ∀ φ t s a w, K t s → Sim w0 t s φ a w → Q .normal a w) {t : List AV} {s : Sto} {φ : Nat → Value} {a : Act} {w : World}
    (hdc : dr = true → dchk l t s = true) (h : opsW P ty (gds l) dr l t s K) (S : Sim w0 t s φ a w) : (Code.region id l.toArray dr).wp P Q a w := by
  cases dr with
  | false => exact wp_region_lit (opsW_ok T hK l h S)
  | true =>
    have hro' : ∀ p : Oper → Bool, (∀ o, p o = true → rot (ty o.type) o.op = true) → (l.takeWhile p).length ≤ l.length ∧ ∀ i, i < (l.takeWhile p).length → ∀ o, l[i]? = some o → rot (ty o.type) o.op = true := fun p hp => ⟨(List.takeWhile_sublist _).length_le, fun i hi o ho => by
      have e : l.take (l.takeWhile p).length = l.takeWhile p := (List.prefix_iff_eq_take.1 (List.takeWhile_prefix (l := l) p)).symm
      have hm' : o ∈ l.take (l.takeWhile p).length := List.mem_of_getElem? (i := i) (by rw [List.getElem?_take, if_pos hi]; exact ho)
      rw [e] at hm'
      exact hp o (List.all_eq_true.1 (List.all_takeWhile (l := l)) o hm')⟩
    have hn : ∃ n, drOkN l n = true ∧ n ≤ l.length ∧ ∀ i, i < n → ∀ o, l[i]? = some o → rot (ty o.type) o.op = true := by
      have hd := hd rfl
      simp only [drOk, Bool.or_eq_true] at hd
      rcases hd with hd | hd
      · exact ⟨_, hd, hro' _ fun o ho => ho⟩
      · exact ⟨_, hd, hro' _ fun o ho => by simp only [Bool.and_eq_true] at ho; exact ho.1⟩
    obtain ⟨n, hd, hnl, hro⟩ := hn
    simp only [drOkN, Bool.and_eq_true] at hd
    obtain ⟨⟨⟨⟨⟨⟨h1, h2⟩, h3⟩, h4⟩, h6⟩, h7⟩, h5⟩ := hd
    obtain ⟨U, V, Y, R, hU, hV, hT, hk⟩ := trace T hnl hro h
    have H : Hd P ty l n U V Y R := ⟨hnl, h2, fun i hi => List.all_eq_true.1 h1 i (List.mem_range.2 hi), h3, h4, h6, h7, by rw [hU, hV]; exact hdc rfl, hT⟩
    refine wp_mono (Q := fun e a w => e = .normal ∧ Q .normal a w) ?_ (fun e a w hh => by rw [hh.1]; exact hh.2)
    refine wp_region_any hm ?_
    have S0 : Sim w0 t s φ a { w with drawn := w.drawn + 1 } := Sim_below S ⟨rfl, rfl, rfl, Nat.le_refl _, fun _ _ => rfl⟩
    have e0 : lefT n (Array.replicate l.toArray.size false) = n := by
      unfold lefT
      rw [List.filter_eq_self.2 (fun i hi => by
        have : i < l.length := by have := List.mem_range.1 hi; omega
        simp [this])]
      simp
    have hcl : ListedClosed .any l.toArray (Array.replicate l.toArray.size false) := by
      intro j oj hj hl
      have : j < l.toArray.size := (Array.getElem?_eq_some_iff.1 hj).1
      rw [getD_lt (by simpa using this)] at hl
      simp at hl
    have f0 : ∀ j, (Array.replicate l.toArray.size false).getD j false = false := fun j => by
      by_cases hj : j < (Array.replicate l.toArray.size false).size
      · rw [getD_lt hj]; simp
      · exact getD_ge hj
    have := head_any (w0 := w0) (Q := fun e a w => e = .normal ∧ Q .normal a w) H (fun c a w hh => nomatch hh.1) (fun φ a' w' S' => by
      have := tail_ok (Q := fun e a w => e = .normal ∧ Q .normal a w) T h4 (fun c a w hh => nomatch hh.1) (fun φ t s a w h1 h2 => ⟨rfl, hK φ t s a w h1 h2⟩) (l.drop n) n _ (fun j => by simp) (by rw [List.length_drop]; exact h5) hk S'
      rwa [List.length_drop] at this) n (Array.replicate l.toArray.size false) φ a _ (by simp) (fun j _ => f0 j) e0 hcl (by
      refine Sim_weak S0 ?_ (fun x => ?_) fun id b hb => ?_
      · rw [← hU, ← H.lenU n (Nat.le_refl _)]; simp [TM]
      · rw [gT_TM]
        by_cases hx : hid l n (fun j => (Array.replicate l.toArray.size false).getD j false) x = true
        · rw [if_pos hx]; exact .inl rfl
        · rw [if_neg hx, ← hU]
          exact .inr (H.keepU _ (Nat.zero_le _) (Nat.le_refl _) fun k _ hk hd => hx (hid_t hk (f0 k) hd))
      · have hl0 : lc l (fun j => (Array.replicate l.toArray.size false).getD j false) n = 0 := by
          rcases lc_at (l0 := l) (m := fun j => (Array.replicate l.toArray.size false).getD j false) (n := n) with h | ⟨c, _, _, h3, _⟩
          · exact h
          · rw [f0 c] at h3; cases h3
        rw [gS_SM, hl0] at hb
        split at hb
        · rw [hV] at hb; exact hb
        · rename_i h15
          split at hb
          · rename_i hok
            rw [H.keepV _ (Nat.zero_le _) (Nat.le_refl _) (fun k _ hk => noD h15 fun hd => absurd ((okS_iff h15).1 hok k hk hd) (by rw [f0]; exact Bool.false_ne_true)), hV] at hb
            exact hb
          · cases hb)
    rwa [show n + (l.length - n) = l.toArray.size by simp; omega] at this
mutual
theorem Rep_ren {B : Nat} {w : World} {φ : Nat → Value} {ρ : List (Nat × Nat)} : ∀ {x : AV} {y : Value}, Rep B w φ (AV.ren ρ x) y → Rep B w (fun i => φ (rn ρ i)) x y
  | .u, _, _ => by simp [Rep]
  | .v _, _, h => by simpa [AV.ren, Rep] using h
  | .pr _ _, _, h => by simpa [AV.ren, Rep] using h
  | .pe _, _, h => by simpa [AV.ren, Rep] using h
  | .ow _ _ _, _, h => by simp [AV.ren, Rep] at h
  | .lo _, _, h => by simpa [AV.ren, Rep] using h
  | .bp _ _, _, h => by simpa [AV.ren, Rep] using h
  | .le _ _ _ _, _, h => by simpa [AV.ren, Rep] using h
  | .vw _ _ _ _, _, h => by simpa [AV.ren, Rep] using h
  | .ag cs, y, h => by
    simp only [AV.ren, Rep] at h ⊢
    obtain ⟨l, h1, h2⟩ := h
    exact ⟨l, h1, RepL_ren h2⟩
  | .tu cs, y, h => by
    simp only [AV.ren, Rep] at h ⊢
    obtain ⟨l, h1, h2⟩ := h
    exact ⟨l, h1, RepL_ren h2⟩
theorem RepL_ren {B : Nat} {w : World} {φ : Nat → Value} {ρ : List (Nat × Nat)} : ∀ {x : List AV} {y : List Value}, RepL B w φ (AV.renL ρ x) y → RepL B w (fun i => φ (rn ρ i)) x y
  | [], y, h => by simpa [AV.renL, RepL] using h
  | c :: cs, y, h => by
    simp only [AV.renL, RepL] at h ⊢
    obtain ⟨z, zs, h1, h2, h3⟩ := h
    exact ⟨z, zs, h1, Rep_ren h2, RepL_ren h3⟩
end
theorem EntT_ok {B : Nat} {w : World} {φ : Nat → Value} {ρ : List (Nat × Nat)} : ∀ {t T : List AV} {l : List Value}, EntT ρ t T → RepL B w φ t l → RepL B w (fun i => φ (rn ρ i)) T l
  | [], [], l, _, h => by simpa [RepL] using h
  | [], _ :: _, l, h, _ => by simp [EntT] at h
  | _ :: _, [], l, h, _ => by simp [EntT] at h
  | x :: t, y :: T, l, h, hl => by
    simp only [RepL] at hl ⊢
    obtain ⟨z, zs, rfl, h1, h2⟩ := hl
    cases y with
    | u => simp only [EntT] at h; exact ⟨z, zs, rfl, by simp [Rep], EntT_ok h h2⟩
    | _ => simp only [EntT] at h; exact ⟨z, zs, rfl, Rep_ren (by rw [← h.1]; exact h1), EntT_ok h.2 h2⟩
theorem EntS_at {ρ : List (Nat × Nat)} {s : Sto} : ∀ {S : Sto} {i : Nat} {b : Blk}, EntS ρ s S → gS S i = some b → gS s (rn ρ i) = some (b.ren ρ)
  | [], i, b, _, h => by simp [gS] at h
  | (j, c) :: S, i, b, h, hi => by
    simp only [EntS] at h
    simp only [gS] at hi
    split at hi
    · rename_i e
      subst e
      obtain rfl := Option.some.inj hi
      exact h.1
    · exact EntS_at h.2 hi
theorem inj_at {ρ : List (Nat × Nat)} {S : Sto} (h : inj ρ S = true) {i j : Nat} {b c : Blk} (hi : gS S i = some b) (hj : gS S j = some c) (hne : i ≠ j) : rn ρ i ≠ rn ρ j := by
  unfold inj at h
  simp only [Bool.and_eq_true] at h
  replace h := of_decide_eq_true h.1
  induction S with
  | nil => simp [gS] at hi
  | cons p S ih =>
    obtain ⟨k, d⟩ := p
    simp only [List.map_cons, List.nodup_cons] at h
    simp only [gS] at hi hj
    by_cases e1 : k = i
    · subst e1
      rw [if_neg hne] at hj
      intro e
      exact h.1 (by rw [e]; exact List.mem_map.2 ⟨(j, c), gS_mem hj, rfl⟩)
    · rw [if_neg e1] at hi
      by_cases e2 : k = j
      · subst e2
        intro e
        exact h.1 (by rw [← e]; exact List.mem_map.2 ⟨(i, b), gS_mem hi, rfl⟩)
      · rw [if_neg e2] at hj
        exact ih hi hj h.2
theorem Ent_ok {t T : List AV} {s S' : Sto} {φ : Nat → Value} {a : Act} {w : World} (h : Ent t s T S') (S : Sim w0 t s φ a w) : ∃ φ', Sim w0 T S' φ' a w := by
  obtain ⟨ρ, h1, h2, h3⟩ := h
  have h4 : ∀ i, i % 16 = 15 → rn ρ i = i := fun i hi => by
    unfold inj at h3
    simp only [Bool.and_eq_true, List.all_eq_true] at h3
    unfold rn
    cases e : ρ.find? fun p => p.1 == i with
    | none => rfl
    | some p =>
      have h5 := h3.2 p (List.mem_of_find?_eq_some e)
      have h6 := List.find?_some e
      simp only [beq_iff_eq] at h6
      rw [h6] at h5
      simp [hi] at h5
  refine ⟨fun i => φ (rn ρ i), S.below, S.defs, EntT_ok h1 S.tmp, fun i b hb => ?_, fun i j b c hb hc hne => ?_, fun i hi => by rw [h4 i hi]; exact S.fix i hi, S.kept, fun i b k hb hk => S.inn _ _ k (EntS_at h2 hb) hk, S.wsz⟩
  · have := S.blk _ _ (EntS_at h2 hb)
    cases b with
    | box tb cs =>
      obtain ⟨g, c, g1, g2, g3, g4⟩ := this
      exact ⟨g, c, g1, g2, g3, RepL_ren g4⟩
    | row e sz xs => exact this
  · exact S.apart _ _ _ _ (EntS_at h2 hb) (EntS_at h2 hc) (inj_at h3 hb hc hne)
def okC (ty : TypeId → Option TI) : Code → Bool
  | .skip => true
  | .region _ ⟨l⟩ dr => !dr || drOk ty l
  | .seq a b => okC ty a && okC ty b
  | .cond _ a b => okC ty a && okC ty b
  | .block _ b => okC ty b
  | .loop b => okC ty b
  | .exit _ => true
  | .ret => true
  | _ => false
def Qx (w0 : Bs) (Q : Qt) : Exit → Act → World → Prop := fun e a w => ∃ φ t s, Q e t s ∧ Sim w0 t s φ a w
theorem EW_ok (T : TyOk P ty) (hm : P.follows .mixedOrders = true) : ∀ (c : Code), okC ty c = true → ∀ {Q : Qt} {t : List AV} {s : Sto} {φ : Nat → Value} {a : Act} {w : World}, EW P ty c Q t s → Sim w0 t s φ a w → c.wp P (Qx w0 Q) a w
  | .skip, _, Q, t, s, φ, a, w, h, S => wp_skip ⟨φ, t, s, h, S⟩
  | .exit id, _, Q, t, s, φ, a, w, h, S => wp_exit ⟨φ, t, s, h, S⟩
  | .ret, _, Q, t, s, φ, a, w, h, S => wp_ret ⟨φ, t, s, h, S⟩
  | .region id ⟨l⟩ dr, hc, Q, t, s, φ, a, w, h, S => by
    simp only [okC, Bool.or_eq_true, Bool.not_eq_true'] at hc
    exact region_ok T hm (fun e => by rcases hc with hc | hc; rw [e] at hc; cases hc; exact hc) (K := kN Q) (fun φ t s a w hk S => ⟨φ, t, s, hk, S⟩) h.1 h.2 S
  | .seq x y, hc, Q, t, s, φ, a, w, h, S => by
    simp only [okC, Bool.and_eq_true] at hc
    refine wp_seq (wp_mono (EW_ok T hm x hc.1 h S) fun e a w hq => ?_)
    obtain ⟨φ', t', s', hq, S'⟩ := hq
    cases e with
    | normal => exact EW_ok T hm y hc.2 hq S'
    | _ => exact ⟨φ', t', s', hq, S'⟩
  | .cond c x y, hc, Q, t, s, φ, a, w, h, S => by
    simp only [okC, Bool.and_eq_true] at hc
    have hx := Sim_ev S c
    simp only [EW] at h
    unfold cdW at h
    split at h
    · rename_i e
      rw [e] at hx
      simp only [Rep] at hx
      exact wp_cond_true hx (EW_ok T hm x hc.1 h S)
    · rename_i e
      rw [e] at hx
      simp only [Rep] at hx
      exact wp_cond_false hx (EW_ok T hm y hc.2 h S)
    · exact h.elim
  | .block id b, hc, Q, t, s, φ, a, w, h, S => by
    simp only [okC] at hc
    refine wp_block (wp_mono (EW_ok T hm b hc h S) fun e a w hq => ?_)
    obtain ⟨φ', t', s', hq, S'⟩ := hq
    cases e with
    | exit j =>
      simp only [kB] at hq
      simp only [Exit.inBlock]
      split
      · rename_i e; rw [if_pos e] at hq; exact ⟨φ', t', s', hq, S'⟩
      · rename_i e; rw [if_neg e] at hq; exact ⟨φ', t', s', hq, S'⟩
    | _ => exact ⟨φ', t', s', hq, S'⟩
  | .loop b, hc, Q, t, s, φ, a, w, h, S => by
    simp only [okC] at hc
    obtain ⟨ι, TT, SS, F, ⟨n0, x0, hF, hE⟩, hr⟩ := h
    obtain ⟨φ0, S0⟩ := Ent_ok hE S
    refine wp_loop_ghost (fun n a w => ∃ x φ, F n x ∧ Sim w0 (TT x) (SS x) φ a w) n0 ⟨x0, φ0, hF, S0⟩ fun n a' w' hI => ?_
    obtain ⟨x, φ', hF', S'⟩ := hI
    refine wp_mono (EW_ok T hm b hc (hr n x hF') S') fun e a w hq => ?_
    obtain ⟨φ2, t2, s2, hq, S2⟩ := hq
    cases e with
    | normal =>
      obtain ⟨m, y, hlt, hFm, hEm⟩ := hq
      obtain ⟨φ3, S3⟩ := Ent_ok hEm S2
      exact ⟨m, hlt, y, φ3, hFm, S3⟩
    | _ => exact ⟨φ2, t2, s2, hq, S2⟩
  | .rangeFunc .., hc, _, _, _, _, _, _, _, _ => by simp [okC] at hc
  | .scope _, hc, _, _, _, _, _, _, _, _ => by simp [okC] at hc
  | .label _, hc, _, _, _, _, _, _, _, _ => by simp [okC] at hc
  | .goto _, hc, _, _, _, _, _, _, _, _ => by simp [okC] at hc
  | .refuse _, hc, _, _, _, _, _, _, _, _ => by simp [okC] at hc
end
end Go.Proofs.YtdjdleldocfpaaaDoor.F
end

section
namespace Go.Proofs.YtdjdleldocfpaaaDoor.F
open Go.RowKit Go.Proofs.YtdjdleldocfpaaaDoorW.PrintWords Go.Proofs.YtdjdleldocfpaaaDoorW.PrintLast Go.Proofs.YtdjdleldocfpaaaDoorW.PrintMore
set_option linter.unusedVariables false
set_option linter.unusedSimpArgs false
mutual
def FitR (s : Sto) : AV → AV → Prop
  | .v x, .v y => x = y
  | .lo id, .ow e sz xs => gS s id = some (.row e sz xs)
  | .v x, .ow e sz xs => x = .slice none 0 0 ∧ xs = [] ∧ 0 < sz
  | .ag cs, .ag ds => FitRL s cs ds
  | .tu cs, .tu ds => FitRL s cs ds
  | _, _ => False
def FitRL (s : Sto) : List AV → List AV → Prop
  | [], [] => True
  | c :: cs, d :: ds => FitR s c d ∧ FitRL s cs ds
  | _, _ => False
end
mutual
def AV.ids : AV → List Nat
  | .lo i => [i]
  | .ag cs => AV.idsL cs
  | .tu cs => AV.idsL cs
  | _ => []
def AV.idsL : List AV → List Nat
  | [] => []
  | c :: cs => AV.ids c ++ AV.idsL cs
end
mutual
theorem FitR_ok {w0 : Bs} {t : List AV} {s : Sto} {φ : Nat → Value} {a : Act} {w : World} (S : Sim w0 t s φ a w) : ∀ (x : AV) {r : AV} {y : Value}, FitR s x r → (AV.ids x).Nodup → Rep w0.heap.size w0 φ x y → ∃ L, RepR w0.heap.size w r y L ∧ L.Nodup ∧ ∀ k ∈ L, ∃ id ∈ AV.ids x, (∃ b, gS s id = some b) ∧ bk (φ id) = some k
  | .v x, r, y, h, _, hr => by
    simp only [Rep] at hr
    subst hr
    cases r with
    | v z => simp only [FitR] at h; subst h; exact ⟨[], by simp [RepR], by simp, by simp⟩
    | ow e sz xs =>
      simp only [FitR] at h
      obtain ⟨rfl, rfl, h0⟩ := h
      refine ⟨[], ?_, by simp, by simp⟩
      simp only [RepR]
      exact ⟨World.ownsRow_nil _ _ _ _, fun x hx => by simp at hx, h0, by first | rfl | trivial⟩
    | _ => simp [FitR] at h
  | .lo id, r, y, h, _, hr => by
    simp only [Rep] at hr
    obtain ⟨rfl, _⟩ := hr
    cases r with
    | ow e sz xs =>
      simp only [FitR] at h
      obtain ⟨b1, b2, b3⟩ := S.blk id _ h
      refine ⟨(bk (φ id)).toList, by simp only [RepR]; exact ⟨b1, b2, b3, trivial⟩, by cases bk (φ id) <;> simp, fun k hk => ⟨id, by simp [AV.ids], ⟨_, h⟩, ?_⟩⟩
      cases e : bk (φ id) with
      | none => rw [e] at hk; simp at hk
      | some q => rw [e] at hk; simp at hk; rw [hk]
    | _ => simp [FitR] at h
  | .ag cs, r, y, h, hn, hr => by
    simp only [Rep] at hr
    obtain ⟨l, rfl, hr⟩ := hr
    cases r with
    | ag ds =>
      simp only [FitR] at h
      simp only [AV.ids] at hn ⊢
      obtain ⟨L, h1, h2, h3⟩ := FitRL_ok S cs h hn hr
      exact ⟨L, by simp only [RepR]; exact ⟨l, rfl, h1⟩, h2, h3⟩
    | _ => simp [FitR] at h
  | .tu cs, r, y, h, hn, hr => by
    simp only [Rep] at hr
    obtain ⟨l, rfl, hr⟩ := hr
    cases r with
    | tu ds =>
      simp only [FitR] at h
      simp only [AV.ids] at hn ⊢
      obtain ⟨L, h1, h2, h3⟩ := FitRL_ok S cs h hn hr
      exact ⟨L, by simp only [RepR]; exact ⟨l, rfl, h1⟩, h2, h3⟩
    | _ => simp [FitR] at h
  | .u, r, y, h, _, _ => by cases r <;> simp [FitR] at h
  | .pr _ _, r, y, h, _, _ => by cases r <;> simp [FitR] at h
  | .ow _ _ _, r, y, h, _, _ => by cases r <;> simp [FitR] at h
  | .bp _ _, r, y, h, _, _ => by cases r <;> simp [FitR] at h
  | .pe _, r, y, h, _, _ => by cases r <;> simp [FitR] at h
  | .le _ _ _ _, r, y, h, _, _ => by cases r <;> simp [FitR] at h
theorem FitRL_ok {w0 : Bs} {t : List AV} {s : Sto} {φ : Nat → Value} {a : Act} {w : World} (S : Sim w0 t s φ a w) : ∀ (cs : List AV) {ds : List AV} {l : List Value}, FitRL s cs ds → (AV.idsL cs).Nodup → RepL w0.heap.size w0 φ cs l → ∃ L, RepRL w0.heap.size w ds l L ∧ L.Nodup ∧ ∀ k ∈ L, ∃ id ∈ AV.idsL cs, (∃ b, gS s id = some b) ∧ bk (φ id) = some k
  | [], ds, l, h, _, hr => by
    cases ds with
    | nil => simp only [RepL] at hr; subst hr; exact ⟨[], by simp [RepRL], by simp, by simp⟩
    | cons d ds => simp [FitRL] at h
  | c :: cs, ds, l, h, hn, hr => by
    cases ds with
    | nil => simp [FitRL] at h
    | cons d ds =>
      simp only [FitRL] at h
      simp only [AV.idsL] at hn ⊢
      simp only [RepL] at hr
      obtain ⟨y, ys, rfl, hr1, hr2⟩ := hr
      obtain ⟨hn1, hn2, hdis⟩ := List.nodup_append.1 hn
      obtain ⟨L1, a1, a2, a3⟩ := FitR_ok S c h.1 hn1 hr1
      obtain ⟨L2, b1, b2, b3⟩ := FitRL_ok S cs h.2 hn2 hr2
      refine ⟨L1 ++ L2, by simp only [RepRL]; exact ⟨y, ys, L1, L2, rfl, rfl, a1, b1⟩, List.nodup_append.2 ⟨a2, b2, fun k hk k' hk' e => ?_⟩, fun k hk => ?_⟩
      · subst e
        obtain ⟨i, hi, ⟨bi, ei⟩, hbi⟩ := a3 k hk
        obtain ⟨j, hj, ⟨bj, ej⟩, hbj⟩ := b3 k hk'
        have hne : i ≠ j := hdis i hi j hj
        rcases S.apart i j bi bj ei ej hne with h9 | h9
        · rw [h9] at hbi; cases hbi
        · exact h9 (by rw [hbi, hbj])
      · rcases List.mem_append.1 hk with hk | hk
        · obtain ⟨i, hi, h9⟩ := a3 k hk
          exact ⟨i, List.mem_append_left _ hi, h9⟩
        · obtain ⟨i, hi, h9⟩ := b3 k hk
          exact ⟨i, List.mem_append_right _ hi, h9⟩
end
section
variable {P : Program} (ty : TypeId → Option TI)
def cellB (i : TI) (off : Nat) : Option Blk → Option AV
  | some (.box _ cs) => if off + i.size ≤ cs.length then some (cutA i.agg i.size (dp off cs)) else none
  | _ => none
def cellV : Option TI → AV → Sto → Option AV
  | some i, .bp id off, s => cellB i off (gS s id)
  | _, _, _ => none
def resL (t : List AV) (s : Sto) : List ResultVar → Option (List AV)
  | [] => some []
  | .tmp i :: l => (resL t s l).map (gT t i :: ·)
  | .cell i b :: l => (cellV (ty b) (gT t i) s).bind fun x => (resL t s l).map (x :: ·)
def FitO (s : Sto) : List AV → AV → Prop
  | [x], r => FitR s x r
  | [], .tu rs => FitRL s [] rs
  | x :: y :: l, .tu rs => FitRL s (x :: y :: l) rs
  | _, _ => False
def nodB (l : List Nat) : Bool := decide l.Nodup
def QR (rv : List ResultVar) (res : AV) : Qt
  | .ret, t, s => ∃ xs, resL ty t s rv = some xs ∧ nodB (AV.idsL xs) = true ∧ FitO s xs res
  | .normal, t, s => ∃ xs, resL ty t s rv = some xs ∧ nodB (AV.idsL xs) = true ∧ FitO s xs res
  | _, _, _ => False
variable {ty}
def resOne (tm : Array Value) : ResultVar → Sem Value
  | .tmp i => pure (tm.getD i undef)
  | .cell x b => do loadVar b (← asAddr (tm.getD x undef))
theorem resL_ok (T : TyOk P ty) {w0 : Bs} {t : List AV} {s : Sto} {φ : Nat → Value} {a : Act} {w : World} (S : Sim w0 t s φ a w) : ∀ {rv : List ResultVar} {xs : List AV}, resL ty t s rv = some xs →
    ∃ vs, (rv.mapM (resOne a.tmps)).run P w = .ok vs w ∧ RepL w0.heap.size w0 φ xs vs
  | [], xs, h => by simp only [resL] at h; obtain rfl := Option.some.inj h; exact ⟨[], by simp, by simp [RepL]⟩
  | .tmp i :: l, xs, h => by
    simp only [resL] at h
    obtain ⟨ys, h1, rfl⟩ := Option.map_eq_some_iff.1 h
    obtain ⟨vs, h2, h3⟩ := resL_ok T S h1
    have h4 := RepL_get i S.tmp
    refine ⟨a.tmps.getD i undef :: vs, by rw [List.mapM_cons]; simp only [Sem.run_bind, resOne, Sem.run_pure, Result.andThen_ok, h2], ?_⟩
    simp only [RepL]
    exact ⟨_, vs, rfl, by simpa [Array.getD_eq_getD_getElem?, List.getD_eq_getElem?_getD] using h4, h3⟩
  | .cell x b :: l, xs, h => by
    simp only [resL] at h
    obtain ⟨y, h0, h⟩ := Option.bind_eq_some_iff.1 h
    obtain ⟨ys, h1, rfl⟩ := Option.map_eq_some_iff.1 h
    obtain ⟨vs, h2, h3⟩ := resL_ok T S h1
    have h4 := RepL_get x S.tmp
    have h4 : Rep w0.heap.size w0 φ (gT t x) (a.tmps.getD x undef) := by simpa [Array.getD_eq_getD_getElem?, List.getD_eq_getElem?_getD] using h4
    cases ei : ty b with
    | none => rw [ei] at h0; simp [cellV] at h0
    | some i =>
      rw [ei] at h0
      cases ex : gT t x with
      | bp id off =>
        rw [ex] at h0 h4
        simp only [cellV] at h0
        cases eb : gS s id with
        | none => rw [eb] at h0; simp [cellB] at h0
        | some bl =>
          cases bl with
          | row e sz xs => rw [eb] at h0; simp [cellB] at h0
          | box tb cs =>
            rw [eb] at h0
            simp only [cellB] at h0
            split at h0
            · rename_i hn
              obtain rfl := Option.some.inj h0
              obtain ⟨g, c, g1, g2, g3, g4⟩ := S.blk id _ eb
              simp only [Rep] at h4
              obtain ⟨g', g5, g6⟩ := h4
              rw [g1] at g5
              obtain rfl : g = g' := by simpa using g5
              have hlen := RepL_len g4
              have Ti := T b i ei
              have hr := run_loadVar Ti (w := w) (ad := ⟨g, off, none⟩) (cs := (c.drop off).take i.size) (by rw [List.length_take, List.length_drop, ← hlen]; omega) (fun j u hu => by
                rw [addr_at]
                rw [cell_of_row w g (off + j) (List.toArray c) tb (0, 0) g3]
                rw [List.getElem?_take] at hu
                split at hu
                · rw [List.getElem?_drop] at hu; simpa using hu
                · cases hu)
              refine ⟨cutV i.agg ((c.drop off).take i.size) :: vs, by rw [List.mapM_cons]; simp only [Sem.run_bind, resOne, g6, asAddr, Sem.run_pure, Result.andThen_ok, hr, h2], ?_⟩
              simp only [RepL]
              refine ⟨_, vs, rfl, Rep_cut (size_one Ti) (RepL_drop off g4) ?_, h3⟩
              have hd : (dp off cs).length = cs.length - off := by rw [RepL_len (RepL_drop off g4), List.length_drop, hlen]
              omega
            · cases h0
      | _ => rw [ex] at h0; simp [cellV] at h0
theorem RepL_app {B : Nat} {w : World} {φ : Nat → Value} : ∀ {x y : List AV} {k l : List Value}, RepL B w φ x k → RepL B w φ y l → RepL B w φ (x ++ y) (k ++ l)
  | [], y, k, l, h1, h2 => by simp only [RepL] at h1; subst h1; exact h2
  | c :: cs, y, k, l, h1, h2 => by
    simp only [RepL] at h1
    obtain ⟨z, zs, rfl, h3, h4⟩ := h1
    simp only [List.cons_append, RepL]
    exact ⟨z, _, rfl, h3, RepL_app h4 h2⟩
theorem RepL_u {B : Nat} {w : World} {φ : Nat → Value} : ∀ (n : Nat) (v : Value), RepL B w φ (List.replicate n .u) (List.replicate n v)
  | 0, v => by simp [RepL]
  | n + 1, v => by simp only [List.replicate_succ, RepL]; exact ⟨v, _, rfl, by simp [Rep], RepL_u n v⟩
theorem Ctr_of (T : TyOk P ty) (hm : P.follows .mixedOrders = true) {f : FuncId} {fn : Func} {c : Code} (hf : P.funcs[f]? = some fn) (hname : (fn.name == "runtime.NumGoroutine") = false) (hb : fn.body = some c) (hc : okC ty c = true)
    {args : List AV} {res : AV} {n : Nat} {rv : List ResultVar} (hn : fn.ntmps = args.length + n) (hrv : fn.results = List.toArray rv) (h : EW P ty c (QR ty rv res) (args ++ List.replicate n .u) []) : Ctr P f args res := by
  refine ⟨enters_of hf hname hb, fun w ys hgl hys => calls_of_wp hf hb ?_⟩
  have hlen := RepL_len hys
  have S : Sim { toWorld := w, ws := w, φ0 := fun _ => undef, G := fun _ => False, gl := hgl } (args ++ List.replicate n .u) [] (fun _ => undef) { tmps := ys.toArray ++ Array.replicate (fn.ntmps - ys.toArray.size) undef, defers := [] } w := by
    refine ⟨Below.refl _ _, rfl, ?_, fun id b hb => by simp [gS] at hb, fun i j b c hb => by simp [gS] at hb, fun _ _ => rfl, fun _ _ _ => rfl, fun i b k hb => by simp [gS] at hb, Nat.le_refl _⟩
    have : fn.ntmps - ys.toArray.size = n := by simp only [List.size_toArray]; omega
    rw [this]
    simpa using RepL_app hys (RepL_u n undef)
  refine wp_mono (EW_ok T hm c hc h S) fun e a w' hq => ?_
  obtain ⟨φ, t, s, hq, S'⟩ := hq
  have key : (∃ xs, resL ty t s rv = some xs ∧ nodB (AV.idsL xs) = true ∧ FitO s xs res) → ∃ v, (results fn a.tmps).run P w' = .ok v w' ∧ ∃ y L, Ending.returned v = .returned y ∧ RepR w.heap.size w' res y L ∧ L.Nodup ∧ Below w.heap.size w w' := by
    rintro ⟨xs, h1, h2, h3⟩
    obtain ⟨vs, h4, h5⟩ := resL_ok T S' h1
    have h2 := of_decide_eq_true h2
    have hrun : (results fn a.tmps).run P w' = .ok (if h : vs.length = 1 then vs[0] else .tuple (List.toArray vs)) w' := by
      have e : results fn a.tmps = (do let vs ← fn.results.mapM (resOne a.tmps); pure (if h : vs.size = 1 then vs[0] else .tuple vs)) := by
        unfold results
        congr 1
      rw [e, hrv, List.mapM_toArray]
      simp only [Sem.run_bind, map_eq_pure_bind, h4, Result.andThen_ok, Sem.run_pure]
      simp
    have hl5 := RepL_len h5
    refine ⟨_, hrun, ?_⟩
    match xs, h3 with
    | [x], h3 =>
      simp only [List.length_cons, List.length_nil] at hl5
      simp only [RepL] at h5
      obtain ⟨y, zs, rfl, h6, rfl⟩ := h5
      simp only [AV.idsL, List.append_nil] at h2
      obtain ⟨L, h7, h8, _⟩ := FitR_ok S' x h3 h2 h6
      exact ⟨y, L, rfl, h7, h8, S'.below⟩
    | [], h3 =>
      cases res with
      | tu rs =>
        obtain ⟨L, h7, h8, _⟩ := FitRL_ok S' [] h3 h2 h5
        rw [dif_neg (by rw [← hl5]; simp)]
        exact ⟨_, L, rfl, by simp only [RepR]; exact ⟨vs, rfl, h7⟩, h8, S'.below⟩
      | _ => simp [FitO] at h3
    | x :: y :: l, h3 =>
      cases res with
      | tu rs =>
        obtain ⟨L, h7, h8, _⟩ := FitRL_ok S' (x :: y :: l) h3 h2 h5
        rw [dif_neg (by rw [← hl5]; simp)]
        exact ⟨_, L, rfl, by simp only [RepR]; exact ⟨vs, rfl, h7⟩, h8, S'.below⟩
      | _ => simp [FitO] at h3
  cases e with
  | ret => exact ⟨S'.defs, key hq⟩
  | normal => exact ⟨S'.defs, key hq⟩
  | _ => exact hq.elim
def QB (ty : TypeId → Option TI) (rv : List ResultVar) (res : AV) (R' : Sto) : Qt
  | .ret, t, s => subS s R' ∧ ∃ xs, resL ty t s rv = some xs ∧ nodB (AV.idsL xs) = true ∧ ((AV.idsL xs).all fun i => (gS R' i).isNone) = true ∧ FitO s xs res
  | .normal, t, s => subS s R' ∧ ∃ xs, resL ty t s rv = some xs ∧ nodB (AV.idsL xs) = true ∧ ((AV.idsL xs).all fun i => (gS R' i).isNone) = true ∧ FitO s xs res
  | _, _, _ => False
def isN (s : Sto) (tb : TypeId) (cs : List AV) : List AV → Prop
  | [.bp id 0] => gS s id = some (.box tb cs)
  | _ => False
def QN (ty : TypeId → Option TI) (rv : List ResultVar) (tb : TypeId) (cs : List AV) : Qt
  | .ret, t, s => ∃ xs, resL ty t s rv = some xs ∧ isN s tb cs xs
  | .normal, t, s => ∃ xs, resL ty t s rv = some xs ∧ isN s tb cs xs
  | _, _, _ => False
end
end Go.Proofs.YtdjdleldocfpaaaDoor.F
end
