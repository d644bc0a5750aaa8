/- Packed by a program of the session (wip/tools/pack.py): what the claim's theorem reaches, of the texts that wip/ and the kit's printer lay. -/
import Derived.Test.YtdjdleldocfpaaaDoorPkFnExactParseAct3
import Derived.Deep.Onto
import Derived.Lib.SlicesCompact
section
namespace Go.Proofs.YtdjdleldocfpaaaDoor.F
open Go.RowKit Go.Proofs.YtdjdleldocfpaaaDoorW.PrintWords Go.Proofs.YtdjdleldocfpaaaDoorW.PrintLast Go.Proofs.YtdjdleldocfpaaaDoorW.PrintMore
set_option linter.unusedVariables false
set_option linter.unusedSimpArgs false
theorem Sim_drop {w0 : Bs} {t : List AV} {s : Sto} {φ : Nat → Value} {a : Act} {w : World} (S : Sim w0 t s φ a w) (id : Nat) : Sim w0 t (dS s id) φ a w := by
  refine ⟨S.below, S.defs, S.tmp, fun i b h => ?_, fun i j b c h h' => ?_, S.fix, S.kept, fun i b k h hk => ?_, S.wsz⟩
  rotate_right
  · rw [gS_dS] at h
    split at h
    · cases h
    · exact S.inn i b k h hk
  · rw [gS_dS] at h
    split at h
    · cases h
    · exact S.blk i b h
  · rw [gS_dS] at h h'
    split at h
    · cases h
    · split at h'
      · cases h'
      · exact S.apart i j b c h h'
theorem bk_own {w : World} {B : Nat} {e : TypeId} {sz n : Nat} {v : Value} {xs : List Value} (h : w.ownsRow B e sz v n xs) : v.ownBlock = bk v := by
  obtain ⟨A, c, rfl⟩ := own_slice h
  cases A <;> rfl
section
variable {P : Program} {ty : TypeId → Option TI} {w0 : Bs} {t : List AV} {s : Sto} {φ : Nat → Value} {a : Act} {w : World} {o : Oper} {d : Option Nat} {K : Kt} {Q : Exit → Act → World → Prop}
theorem own_app_str {base : Nat} {tt u tp e : TypeId} {i : TypeInfo} (ht : P.underlying tt = some (.slice e)) (hu : P.underlying u = some .string) (hi : P.info? e = some i) (hz : i.zero = some (.int .u8 0)) (hsize : i.size = 1) (hby : i.bytes = 1)
    {v : Value} {n : Nat} {xs : List Value} (hown : w.ownsRow base e 1 v n xs) (m : ByteArray) (hb : n + m.size ≤ 140737488355328) (hbase : base ≤ w.heap.size) :
    ∃ v' w', (Builtin.append_ #[tt, u] tp #[v, .string m]).run P w = .ok v' w' ∧ w'.ownsRow base e 1 v' (n + m.size) (xs ++ Lib.strCells m) ∧ w.grownBy w' v.ownBlock ∧ (v'.ownBlock = v.ownBlock ∨ v'.ownBlock = some w.heap.size) := by
  obtain ⟨v', w', h1, h2, h3, h4⟩ := Lib.run_append_own_string (P := P) w base tt u tp e i ht hu hi hz hsize hby v n xs hown m (by simp only [maxLen]; omega) hb hbase
  refine ⟨v', w', h1, h2, h3, ?_⟩
  have hxl : xs.length = n := by simpa using hown.1
  rcases hown.2 with ⟨rfl, rfl⟩ | ⟨g, cap, cur, rfl, hbg, hg, hnc, hcm, hcs, htake⟩
  · by_cases hm : m.size = 0
    · rw [h4.2 ⟨rfl, hm⟩]; exact .inl rfl
    · have hr := run_append_nil_string (P := P) w tt u tp e i (.int .u8 0) ht hu hi hz m (by omega) (by omega) (by rw [hby]; omega)
      rw [hr] at h1
      injection h1 with h1 _
      rw [← h1]; exact .inr rfl
  · by_cases hroom : n + m.size ≤ cap
    · have hcs' : cur.size = cap := by simpa using hcs
      have hr := Lib.run_append_room_string (P := P) w tt u tp e i ht hu hi hsize g n cap cur hg m hroom (by omega)
      rw [hr] at h1
      injection h1 with h1 _
      rw [← h1]; exact .inl rfl
    · have hr := Lib.run_append_grow_string (P := P) w tt u tp e i (.int .u8 0) ht hu hi hz ⟨g, 0, none⟩ n cap xs (by rw [hsize]; simpa using hxl) (hown.cells (g := g) rfl) m (by omega) (by omega) (by rw [hby]; exact growslice_fits (by omega) (by omega))
      rw [hr] at h1
      injection h1 with h1 _
      rw [← h1]; exact .inr rfl
theorem strCells_flat (m : ByteArray) : Lib.strCells m = ((bytesOf m).map fun n => [Value.int .u8 n]).flatten := by
  unfold Lib.strCells bytesOf
  induction m.data.toList with
  | nil => rfl
  | cons x l ih => simp only [List.map_cons, List.flatten_cons, List.singleton_append]; rw [← ih]
theorem appT_inv {b c : Nat} {z : Option (List Value)} {y : AV} (h : appT b c z y = true) : (∃ m z', y = .v (.string m) ∧ z = some z' ∧ strZ z' = true) ∨ ((∀ m, y ≠ .v (.string m)) ∧ b = c) := by
  unfold appT at h
  split at h
  · exact .inl ⟨_, _, rfl, rfl, h⟩
  · cases h
  · rename_i h1 h2
    exact .inr ⟨fun m e => by cases z with
      | none => exact h2 m rfl e
      | some z => exact h1 z m rfl e, by simpa using h⟩
theorem op_append (T : TyOk P ty) (S : Sim w0 t s φ a w) {b : TypeId} {x y : Operand} {u2 : TypeId} (ho : o.op = .call ⟨.builtin .append, ⟨[x, y]⟩, ⟨[b, u2]⟩⟩) (hb2 : appT b u2 ((ty u2).map (·.zero)) (eT t y) = true) (h : appW ty (ty b) (eT t x) (eT t y) o.dst t s K) : o.wp P a w (Nx w0 K) Q := by
  have hx := Sim_ev S x
  have hy := Sim_ev S y
  cases ei : ty b with
  | none => rw [ei] at h; simp [appW] at h
  | some i =>
    rw [ei] at h
    cases ex : eT t x with
    | lo id =>
      rw [ex] at h hx
      simp only [appW] at h
      obtain ⟨j, ej, hoA, h⟩ := h
      simp only [Rep] at hx
      cases eb : gS s id with
      | none => rw [eb] at h; simp [appR] at h
      | some bl =>
        cases bl with
        | box tb cs => rw [eb] at h; simp [appR] at h
        | row e sz xs =>
          rw [eb] at h
          cases er : rdA j.size (eT t y) s with
          | none => rw [er] at h; simp [appR] at h
          | some ys =>
            rw [er] at h
            cases ed : o.dst with
            | none => rw [ed] at h; simp [appR] at h
            | some d =>
              rw [ed] at h
              simp only [appR] at h
              obtain ⟨rfl, rfl, h2, h3, h4, hK⟩ := h
              obtain ⟨b1, b2, b3⟩ := S.blk id _ eb
              obtain ⟨f, f1, f2, f3, z, f4, f5, f6⟩ := (T _ j ej).nf
              have hu := (T b i ei).el j ej
              have hzl : z.cells.size = j.size := by rw [f5]; simpa using (T _ j ej).zl.1
              have hsm : xs.length + ys.length ≤ 140737488355328 := Nat.le_trans (Nat.le_mul_of_pos_right _ h2) h3
              have hrun : rowOk j.size ys ∧ ∃ v' w', (Builtin.append_ #[b, u2] o.type #[φ id, a.eval y]).run P w = .ok v' w' ∧ w'.ownsRow w0.heap.size i.el j.size v' (xs.length + ys.length) (xs.flatten ++ ys.flatten) ∧ w.grownBy w' (φ id).ownBlock ∧ (v'.ownBlock = (φ id).ownBlock ∨ v'.ownBlock = some w.heap.size) := by
                rcases appT_inv hb2 with ⟨m, z', e1, e2, e3⟩ | ⟨e1, rfl⟩
                · rw [e1] at er hoA hy
                  simp only [Rep] at hy
                  simp only [rdA] at er
                  split at er
                  · rename_i hj1
                    obtain rfl := Option.some.inj er
                    simp only [okA, Bool.and_eq_true, beq_iff_eq] at hoA
                    obtain ⟨h5, h6⟩ := hoA
                    obtain ⟨i2, e4, e5⟩ := Option.map_eq_some_iff.1 e2
                    have hu2 := (T _ _ e4).st (by rw [e5]; exact e3)
                    have hz8 := u8Z_eq h5
                    have hint : P.underlying i.el = some (.int .u8) := (T _ j ej).it _ (by rw [hz8]; rfl)
                    have hag : j.agg = false := by
                      rcases (T _ j ej).agg with ⟨_, fs, q, _⟩ | ⟨q, _⟩ | ⟨_, _, _, _, q, _⟩
                      · rw [hint] at q; cases q
                      · exact q
                      · rw [hint] at q; cases q
                    have hzz : z = .int .u8 0 := by
                      have q1 := f6 hag
                      rw [f5, hz8] at q1
                      have q2 : [Value.int .u8 0] = [z] := by simpa using q1
                      injection q2 with q2 _
                      exact q2.symm
                    rw [hj1] at b1 ⊢
                    have hl : ((bytesOf m).map fun n => [Value.int .u8 n]).length = m.size := by rw [List.length_map, bytesOf_length]
                    rw [hl] at hsm ⊢
                    refine ⟨fun r hr => ?_, ?_⟩
                    · obtain ⟨n, _, rfl⟩ := List.mem_map.1 hr
                      exact ⟨rfl, fun u hu => by simp only [List.mem_singleton] at hu; subst hu; rfl⟩
                    · rw [hy, ← strCells_flat]
                      exact own_app_str hu hu2 f1 (by rw [f4, hzz]) (by rw [f2, hj1]) (by rw [f3, h6]) b1 m hsm S.below.size
                  · cases er
                have er : rdS j.size (eT t y) s = some ys := by
                  unfold rdA at er
                  split at er
                  · rename_i m e; exact absurd e (e1 m)
                  · exact er
                obtain ⟨A, c, g1, g2, g3⟩ := rdS_ok S b3 hy er
                have hlen : ys.flatten.length = ys.length * j.size := flatten_len fun x hx => (g2 x hx).1
                refine ⟨g2, ?_⟩
                rw [g1]
                cases A with
                | some ad =>
                  obtain ⟨v', w', q1, q2, q3, _, q4⟩ := run_append_own_at (P := P) w w0.heap.size b o.type i.el f z j.size j.bytes hu f1 f4 f2 f3 hzl b3 (φ id) xs.length xs.flatten b1 ad ys.length c ys.flatten hlen (fun k u hk => by
                    by_cases hne : ys = []
                    · subst hne; simp at hk
                    · obtain ⟨ad', e, q⟩ := g3 hne
                      obtain rfl := Option.some.inj e
                      exact q k u hk) (fun u hu => by
                    obtain ⟨r, hr, hur⟩ := List.mem_flatten.1 hu
                    exact plain_one ((g2 r hr).2 u hur)) (by simp only [maxLen]; omega) h3 S.below.size
                  exact ⟨v', w', q1, q2, q3, q4⟩
                | none =>
                  have hys : ys = [] := by
                    apply Classical.byContradiction
                    intro hne
                    obtain ⟨ad, e, _⟩ := g3 hne
                    cases e
                  subst hys
                  refine ⟨φ id, w, ?_, by simpa using b1, World.grownBy.refl w _, .inl rfl⟩
                  rcases b1.2 with ⟨hv, hn⟩ | ⟨g, cap, cur, hv, _, _, hnc, _⟩
                  · rw [hv]; simp [Builtin.append_, run_underlying hu, sizeOf, typeInfo, f1, Builtin.lenOf, Builtin.firstCells]
                  · rw [hv]; simp [Builtin.append_, run_underlying hu, sizeOf, typeInfo, f1, Builtin.lenOf, Builtin.firstCells, hnc, storeCells]
              obtain ⟨g2, hrun⟩ := hrun
              obtain ⟨v', w', q1, q2, q3, q4⟩ := hrun
              have S' := Sim_drop S id
              have hbelow : Below w0.heap.size w0 w' := S.below.grown q3 S.below.size (own_base b1)
              have hp : plainV v' = true := by obtain ⟨A, c, rfl⟩ := own_slice q2; rfl
              refine wp_val (v := v') (w1 := w') ?_ ⟨upd φ (16 * d) v', _, _, hK, ?_⟩
              · simp only [execOp, ho, resolve, invoke, builtin, Sem.run_bind, Sem.run_pure, Result.andThen_ok, List.map_toArray, List.map_cons, List.map_nil, hx.1, q1]
              · have hn : Sim w0 t (uS (dS s id) (16 * d) (.row i.el j.size (xs ++ ys))) (upd φ (16 * d) v') a w' := by
                  have hkp : ∀ k, k < w0.ws.heap.size → ¬ w0.G k → w'.heap[k]? = w.heap[k]? := fun k hk hG => q3.block k (Nat.lt_of_lt_of_le hk S.wsz) (fun e => by rw [bk_own b1] at e; exact inn_ne S eb hk hG e.symm rfl)
                  have hyn : ∀ k, bk v' = some k → w0.G k ∨ w0.ws.heap.size ≤ k := fun k hk => by
                    rw [← bk_own q2] at hk
                    rcases q4 with q4 | q4
                    · rw [q4, bk_own b1] at hk; exact S.inn id _ k eb hk
                    · rw [q4] at hk; right; have := S.wsz; simp at hk; omega
                  refine Sim_new S' h4 hbelow (fun m e k hm hne hk => ?_) ?_ (by omega) hkp hyn q3.size
                  · rw [gS_dS] at hm
                    split at hm
                    · cases hm
                    · rename_i hmi
                      have hlt := (BlkOk_lt (S.blk m e hm) hk).2
                      have hne2 : (φ id).ownBlock ≠ some k := by
                        rw [bk_own b1]
                        rcases S.apart m id _ _ hm eb (fun e => hmi e.symm) with h9 | h9
                        · rw [h9] at hk; cases hk
                        · rw [hk] at h9; exact fun e => h9 e.symm
                      refine ⟨q3.block k hlt (fun e => hne2 e.symm), ?_⟩
                      rw [← bk_own q2]
                      rcases q4 with q4 | q4
                      · rw [q4]; exact hne2
                      · rw [q4]; simp; omega
                  · show _ ∧ _
                    rw [upd_same]
                    refine ⟨?_, fun r hr => ?_, b3⟩
                    · simpa using q2
                    · rcases List.mem_append.1 hr with hr | hr
                      · exact b2 r hr
                      · exact g2 r hr
                rw [ed]
                exact Sim_put hn (some d) (y := .lo (16 * d)) (by simp only [Rep]; rw [upd_same]; exact ⟨rfl, hp⟩)
    | _ => rw [ex] at h; simp [appW] at h
end
end Go.Proofs.YtdjdleldocfpaaaDoor.F
end

section
namespace Go.Proofs.YtdjdleldocfpaaaDoor.F
open Go.RowKit Go.Proofs.YtdjdleldocfpaaaDoorW.PrintWords Go.Proofs.YtdjdleldocfpaaaDoorW.PrintLast Go.Proofs.YtdjdleldocfpaaaDoorW.PrintMore
set_option linter.unusedVariables false
set_option linter.unusedSimpArgs false
structure ImOk (B B1 : Nat) (w0 w' : World) (n n' : Nat) (r : Sto) (L : List Nat) (rep : (Nat → Value) → Prop) (ψ : Nat → Value) : Prop where
  le : n ≤ n'
  dom : ∀ i b, gS r i = some b → n ≤ i ∧ i < n'
  all : ∀ i, n ≤ i → i < n' → (gS r i).isSome = true
  ok : ∀ ψ', (∀ i, n ≤ i → i < n' → ψ' i = ψ i) → rep ψ' ∧ (∀ i b, gS r i = some b → BlkOk B w0 ψ' w' i b ∧ ∀ k, bk (ψ' i) = some k → k ∈ L ∧ B1 ≤ k) ∧
    ∀ i j b c, gS r i = some b → gS r j = some c → i ≠ j → bk (ψ' i) = none ∨ bk (ψ' i) ≠ bk (ψ' j)
mutual
theorem im_ok {B B1 : Nat} (hB : B ≤ B1) {w0 w' : World} : ∀ (x : AV) (n : Nat) {y : Value} {L : List Nat}, RepR B1 w' x y L → L.Nodup → ∃ ψ, ImOk B B1 w0 w' n (im n x).2.2 (im n x).2.1 L (fun ψ => Rep B w0 ψ (im n x).1 y) ψ
  | .v x, n, y, L, h, _ => by
    simp only [RepR] at h
    refine ⟨fun _ => undef, Nat.le_refl _, fun i b hb => by simp [im, gS] at hb, fun i h1 h2 => by simp only [im] at h2; omega, fun ψ' _ => ⟨by simp only [im, Rep]; exact h.1, fun i b hb => by simp [im, gS] at hb, fun i j b c hb => by simp [im, gS] at hb⟩⟩
  | .ag cs, n, y, L, h, hL => by
    simp only [RepR] at h
    obtain ⟨l, rfl, h⟩ := h
    obtain ⟨ψ, I⟩ := imL_ok hB (w0 := w0) cs n h hL
    refine ⟨ψ, I.le, I.dom, I.all, fun ψ' hψ => ?_⟩
    obtain ⟨h1, h2⟩ := I.ok ψ' hψ
    exact ⟨by simp only [im, Rep]; exact ⟨l, rfl, h1⟩, h2⟩
  | .tu cs, n, y, L, h, hL => by
    simp only [RepR] at h
    obtain ⟨l, rfl, h⟩ := h
    obtain ⟨ψ, I⟩ := imL_ok hB (w0 := w0) cs n h hL
    refine ⟨ψ, I.le, I.dom, I.all, fun ψ' hψ => ?_⟩
    obtain ⟨h1, h2⟩ := I.ok ψ' hψ
    exact ⟨by simp only [im, Rep]; exact ⟨l, rfl, h1⟩, h2⟩
  | .ow e sz xs, n, y, L, h, hL => by
    simp only [RepR] at h
    obtain ⟨h1, h2, h3, rfl⟩ := h
    have hp : plainV y = true := by obtain ⟨A, c, rfl⟩ := own_slice h1; rfl
    have hd : ∀ i b, gS [(n, Blk.row e sz xs)] i = some b → i = n ∧ b = .row e sz xs := fun i b hb => by
      simp only [gS] at hb
      split at hb
      · rename_i e'; exact ⟨e'.symm, (Option.some.inj hb).symm⟩
      · cases hb
    refine ⟨fun _ => y, by simp [im], fun i b hb => by obtain ⟨rfl, _⟩ := hd i b hb; simp [im], fun i h4 h5 => ?_, fun ψ' hψ => ?_⟩
    · simp only [im] at h5 ⊢
      obtain rfl : n = i := by omega
      simp [gS]
    · have hn : ψ' n = y := hψ n (Nat.le_refl _) (by simp [im])
      refine ⟨by simp only [im, Rep]; rw [hn]; exact ⟨rfl, hp⟩, fun i b hb => ?_, fun i j b c hb hc hne => ?_⟩
      · obtain ⟨rfl, rfl⟩ := hd i b hb
        refine ⟨?_, fun k hk => ?_⟩
        · show _ ∧ _
          rw [hn]
          exact ⟨h1.mono hB, h2, h3⟩
        · rw [hn] at hk
          exact ⟨by simp [hk], own_base h1 k (by rw [bk_own h1]; exact hk)⟩
      · obtain ⟨rfl, _⟩ := hd i b hb
        obtain ⟨rfl, _⟩ := hd j c hc
        exact absurd rfl hne
  | .u, n, y, L, h, _ => by simp [RepR] at h
  | .pr _ _, n, y, L, h, _ => by simp [RepR] at h
  | .lo _, n, y, L, h, _ => by simp [RepR] at h
  | .bp _ _, n, y, L, h, _ => by simp [RepR] at h
  | .pe _, n, y, L, h, _ => by simp [RepR] at h
  | .le _ _ _ _, n, y, L, h, _ => by simp [RepR] at h
  | .vw _ _ _ _, n, y, L, h, _ => by simp [RepR] at h
theorem imL_ok {B B1 : Nat} (hB : B ≤ B1) {w0 w' : World} : ∀ (cs : List AV) (n : Nat) {l : List Value} {L : List Nat}, RepRL B1 w' cs l L → L.Nodup → ∃ ψ, ImOk B B1 w0 w' n (imL n cs).2.2 (imL n cs).2.1 L (fun ψ => RepL B w0 ψ (imL n cs).1 l) ψ
  | [], n, l, L, h, _ => by
    simp only [RepRL] at h
    obtain ⟨rfl, rfl⟩ := h
    exact ⟨fun _ => undef, Nat.le_refl _, fun i b hb => by simp [imL, gS] at hb, fun i h1 h2 => by simp only [imL] at h2; omega, fun ψ' _ => ⟨by simp [imL, RepL], fun i b hb => by simp [imL, gS] at hb, fun i j b c hb => by simp [imL, gS] at hb⟩⟩
  | c :: cs, n, l, L, h, hL => by
    simp only [RepRL] at h
    obtain ⟨y, ys, L1, L2, rfl, rfl, h1, h2⟩ := h
    obtain ⟨hL1, hL2, hdis⟩ := List.nodup_append.1 hL
    obtain ⟨ψ1, I1⟩ := im_ok hB (w0 := w0) c n h1 hL1
    obtain ⟨ψ2, I2⟩ := imL_ok hB (w0 := w0) cs (im n c).2.2 h2 hL2
    simp only [imL]
    have l1 := I1.le
    have l2 := I2.le
    refine ⟨fun i => if i < (im n c).2.2 then ψ1 i else ψ2 i, Nat.le_trans l1 l2, fun i b hb => ?_, fun i h3 h4 => ?_, fun ψ' hψ => ?_⟩
    · rw [gS_app] at hb
      cases e : gS (im n c).2.1 i with
      | some b' => have := I1.dom i b' e; omega
      | none => rw [e] at hb; have := I2.dom i b (by simpa using hb); omega
    · rw [gS_app]
      by_cases q : i < (im n c).2.2
      · have := I1.all i h3 q
        cases e : gS (im n c).2.1 i with
        | some b' => rfl
        | none => rw [e] at this; cases this
      · have := I2.all i (by omega) h4
        cases e : gS (im n c).2.1 i with
        | some b' => rfl
        | none => simpa using this
    · obtain ⟨a1, a2, a3⟩ := I1.ok ψ' (fun i h3 h4 => by rw [hψ i h3 (by omega)]; exact if_pos h4)
      obtain ⟨c1, c2, c3⟩ := I2.ok ψ' (fun i h3 h4 => by rw [hψ i (by omega) h4]; exact if_neg (by omega))
      have sp : ∀ i b, gS ((im n c).2.1 ++ (imL (im n c).2.2 cs).2.1) i = some b → gS (im n c).2.1 i = some b ∨ gS (imL (im n c).2.2 cs).2.1 i = some b := fun i b hb => by
        rw [gS_app] at hb
        cases e : gS (im n c).2.1 i with
        | some b' => rw [e] at hb; exact .inl (by simpa using hb)
        | none => rw [e] at hb; exact .inr (by simpa using hb)
      refine ⟨by simp only [RepL]; exact ⟨y, ys, rfl, a1, c1⟩, fun i b hb => ?_, fun i j b b' hb hb' hne => ?_⟩
      · rcases sp i b hb with hb | hb
        · obtain ⟨q1, q2⟩ := a2 i b hb
          exact ⟨q1, fun k hk => ⟨List.mem_append_left _ (q2 k hk).1, (q2 k hk).2⟩⟩
        · obtain ⟨q1, q2⟩ := c2 i b hb
          exact ⟨q1, fun k hk => ⟨List.mem_append_right _ (q2 k hk).1, (q2 k hk).2⟩⟩
      · have cross : ∀ i j b b', gS (im n c).2.1 i = some b → gS (imL (im n c).2.2 cs).2.1 j = some b' → bk (ψ' i) = none ∨ bk (ψ' i) ≠ bk (ψ' j) := fun i j b b' hb hb' => by
          cases e : bk (ψ' i) with
          | none => exact .inl rfl
          | some k =>
            refine .inr fun e' => ?_
            exact hdis k (((a2 i b hb).2 k e).1) k (((c2 j b' hb').2 k e'.symm).1) rfl
        rcases sp i b hb with hb | hb
        · rcases sp j b' hb' with hb' | hb'
          · exact a3 i j b b' hb hb' hne
          · exact cross i j b b' hb hb'
        · rcases sp j b' hb' with hb' | hb'
          · rcases cross j i b' b hb' hb with q | q
            · cases e : bk (ψ' i) with
              | none => exact .inl rfl
              | some k => exact .inr (by rw [q]; exact fun h => nomatch h)
            · exact .inr (Ne.symm q)
          · exact c3 i j b b' hb hb' hne
end
mutual
theorem im_st : ∀ (x : AV) (n : Nat), n ≤ (im n x).2.2 ∧ (∀ i b, gS (im n x).2.1 i = some b → (n ≤ i ∧ i < (im n x).2.2) ∧ ∀ j, b.fr j = true) ∧ (∀ i, n ≤ i → i < (im n x).2.2 → ∃ b, gS (im n x).2.1 i = some b) ∧ (okR x = true → ∀ j, ¬ (n ≤ j ∧ j < (im n x).2.2) → AV.fr j (im n x).1 = true)
  | .ow e sz xs, n => by
    simp only [im]
    refine ⟨by omega, fun i b h => ?_, fun i h1 h2 => ?_, fun _ j hj => ?_⟩
    · rw [gS_one] at h
      split at h
      · rename_i e'; obtain rfl := Option.some.inj h; exact ⟨⟨by omega, by omega⟩, fun _ => rfl⟩
      · cases h
    · exact ⟨_, by rw [gS_one, if_pos (by omega)]⟩
    · simp only [AV.fr, bne_iff_ne, ne_eq]; omega
  | .ag cs, n => by
    obtain ⟨h1, h2, h3, h4⟩ := imL_st cs n
    simp only [im]
    exact ⟨h1, h2, h3, fun h j hj => by simp only [AV.fr]; exact h4 (by simpa [okR] using h) j hj⟩
  | .tu cs, n => by
    obtain ⟨h1, h2, h3, h4⟩ := imL_st cs n
    simp only [im]
    exact ⟨h1, h2, h3, fun h j hj => by simp only [AV.fr]; exact h4 (by simpa [okR] using h) j hj⟩
  | .v x, n => ⟨Nat.le_refl _, fun i b h => by simp [im, gS] at h, fun i h1 h2 => by simp only [im] at h2; omega, fun _ j _ => rfl⟩
  | .u, n => ⟨Nat.le_refl _, fun i b h => by simp [im, gS] at h, fun i h1 h2 => by simp only [im] at h2; omega, fun h => by simp [okR] at h⟩
  | .pr _ _, n => ⟨Nat.le_refl _, fun i b h => by simp [im, gS] at h, fun i h1 h2 => by simp only [im] at h2; omega, fun h => by simp [okR] at h⟩
  | .lo _, n => ⟨Nat.le_refl _, fun i b h => by simp [im, gS] at h, fun i h1 h2 => by simp only [im] at h2; omega, fun h => by simp [okR] at h⟩
  | .bp _ _, n => ⟨Nat.le_refl _, fun i b h => by simp [im, gS] at h, fun i h1 h2 => by simp only [im] at h2; omega, fun h => by simp [okR] at h⟩
  | .pe _, n => ⟨Nat.le_refl _, fun i b h => by simp [im, gS] at h, fun i h1 h2 => by simp only [im] at h2; omega, fun h => by simp [okR] at h⟩
  | .le _ _ _ _, n => ⟨Nat.le_refl _, fun i b h => by simp [im, gS] at h, fun i h1 h2 => by simp only [im] at h2; omega, fun h => by simp [okR] at h⟩
  | .vw _ _ _ _, n => ⟨Nat.le_refl _, fun i b h => by simp [im, gS] at h, fun i h1 h2 => by simp only [im] at h2; omega, fun h => by simp [okR] at h⟩
theorem imL_st : ∀ (cs : List AV) (n : Nat), n ≤ (imL n cs).2.2 ∧ (∀ i b, gS (imL n cs).2.1 i = some b → (n ≤ i ∧ i < (imL n cs).2.2) ∧ ∀ j, b.fr j = true) ∧ (∀ i, n ≤ i → i < (imL n cs).2.2 → ∃ b, gS (imL n cs).2.1 i = some b) ∧ (okRL cs = true → ∀ j, ¬ (n ≤ j ∧ j < (imL n cs).2.2) → AV.frL j (imL n cs).1 = true)
  | [], n => ⟨Nat.le_refl _, fun i b h => by simp [imL, gS] at h, fun i h1 h2 => by simp only [imL] at h2; omega, fun _ j _ => rfl⟩
  | c :: cs, n => by
    obtain ⟨h1, h2, h3, h4⟩ := im_st c n
    obtain ⟨k1, k2, k3, k4⟩ := imL_st cs (im n c).2.2
    simp only [imL]
    refine ⟨Nat.le_trans h1 k1, fun i b h => ?_, fun i q1 q2 => ?_, fun h j hj => ?_⟩
    · rw [gS_app] at h
      cases e : gS (im n c).2.1 i with
      | some b' =>
        rw [e] at h
        obtain rfl : b' = b := by simpa using h
        obtain ⟨q, q'⟩ := h2 i _ e
        exact ⟨⟨q.1, by omega⟩, q'⟩
      | none =>
        rw [e] at h
        obtain ⟨q, q'⟩ := k2 i b (by simpa using h)
        exact ⟨⟨by omega, q.2⟩, q'⟩
    · rw [gS_app]
      by_cases q : i < (im n c).2.2
      · obtain ⟨b, hb⟩ := h3 i q1 q
        exact ⟨b, by rw [hb]; rfl⟩
      · cases e : gS (im n c).2.1 i with
        | some b => exact ⟨b, rfl⟩
        | none => simpa using k3 i (by omega) q2
    · simp only [okRL, Bool.and_eq_true] at h
      simp only [AV.frL, Bool.and_eq_true]
      exact ⟨h4 h.1 j (by omega), k4 h.2 j (by omega)⟩
end
mutual
theorem toP_fr {A : Nat → Prop} {s s1 : Sto} (hF : Fr A s s1) : ∀ {x : AV}, AIn A x → toP s1 x = toP s x
  | .lo id, h => by
    have : A id := Classical.byContradiction fun hn => by have := h id hn; simp [AV.fr] at this
    simp only [toP, hF.eq id this]
  | .vw id _ _ _, h => by
    have : A id := Classical.byContradiction fun hn => by have := h id hn; simp [AV.fr] at this
    simp only [toP, hF.eq id this]
  | .ag cs, h => by simp only [toP]; rw [toPL_fr hF (x := cs) fun j hj => by simpa [AV.fr] using h j hj]
  | .v x, _ => by cases x <;> first | rfl | (rename_i a n c; cases a <;> cases n <;> cases c <;> rfl)
  | .u, _ | .pr _ _, _ | .tu _, _ | .ow _ _ _, _ | .bp _ _, _ | .pe _, _ | .le _ _ _ _, _ => rfl
theorem toPL_fr {A : Nat → Prop} {s s1 : Sto} (hF : Fr A s s1) : ∀ {x : List AV}, LIn A x → toPL s1 x = toPL s x
  | [], _ => rfl
  | c :: cs, h => by
    simp only [toPL]
    rw [toP_fr hF (x := c) fun j hj => by have := h j hj; simp only [AV.frL, Bool.and_eq_true] at this; exact this.1, toPL_fr hF (x := cs) fun j hj => by have := h j hj; simp only [AV.frL, Bool.and_eq_true] at this; exact this.2]
end
theorem mapE_eq {t t1 : List AV} : ∀ {l : List Operand}, (∀ x ∈ l, eT t1 x = eT t x) → mapE t1 l = mapE t l
  | [], _ => rfl
  | x :: l, h => by simp only [mapE]; rw [h x (by simp), mapE_eq fun y hy => h y (by simp [hy])]
theorem mapE_in {A : Nat → Prop} {t : List AV} : ∀ {l : List Operand}, (∀ x ∈ l, AIn A (eT t x)) → LIn A (mapE t l)
  | [], _ => fun _ _ => rfl
  | x :: l, h => fun j hj => by simp only [mapE, AV.frL, Bool.and_eq_true]; exact ⟨h x (by simp) j hj, mapE_in (fun y hy => h y (by simp [hy])) j hj⟩
section
variable {P : Program} {ty : TypeId → Option TI} {w0 : Bs} {t : List AV} {s : Sto} {φ : Nat → Value} {a : Act} {w : World} {o : Oper} {d : Option Nat} {K : Kt} {Q : Exit → Act → World → Prop}
theorem bindW_inv {q : Bool} {res : AV} {d : Option Nat} (h : bindW q res d t s K) : (∃ x, res = .v x ∧ K (pT t d (.v x)) s) ∨ (d = none ∧ K t s) ∨ ∃ d', d = some d' ∧ ((im (16 * d') res).2.1.all fun p => free p.1 t s) = true ∧ (im (16 * d') res).2.2 ≤ 16 * d' + 15 ∧ (q = true → okR res = true) ∧ K (sT t d' (im (16 * d') res).1) ((im (16 * d') res).2.1 ++ s) := by
  unfold bindW at h
  split at h
  · exact .inl ⟨_, rfl, h⟩
  · exact .inr (.inr ⟨_, rfl, h.2.1, h.2.2.1, fun hq => by have := h.1; subst hq; simpa using this, h.2.2.2⟩)
  · exact .inr (.inl ⟨rfl, h.2⟩)
theorem op_callA (S : Sim w0 t s φ a w) {f : FuncId} {l : List Operand} {ats : Array TypeId} {res : AV} (ho : o.op = .call ⟨.value (.func f), ⟨l⟩, ats⟩) (hc : Ctr P f (toPL s (mapE t l)) res) :
    (∀ x, res = .v x → o.wp P a w (NxA w0 φ a w o.dst (.v x) []) Q) ∧ (o.dst = none → o.wp P a w (NxA w0 φ a w none .u []) Q) ∧ ∀ d, o.dst = some d → o.wp P a w (NxA w0 φ a w (some d) (im (16 * d) res).1 (im (16 * d) res).2.1) Q := by
  have hC := hc.2 w (l.map a.eval) (Gl_below S.below w0.gl) (toPL_ok S (mapE_ok S l))
  have key : ∀ K' : Act → World → Prop, (∀ y L w2, RepR w.heap.size w2 res y L → L.Nodup → Below w.heap.size w w2 → K' (a.put o.dst y) w2) → o.wp P a w K' Q := fun K' hK => by
    unfold Oper.wp
    rw [run_call hc.1 ho]
    refine hC.mono ?_
    rintro e w2 ⟨y, L, rfl, h1, hL, h2⟩
    exact hK y L w2 h1 hL h2
  refine ⟨fun x hx => key _ fun y L w2 h1 hL h2 => ?_, fun hd => key _ fun y L w2 h1 hL h2 => ?_, fun d hd => key _ fun y L w2 h1 hL h2 => ?_⟩
  · subst hx
    simp only [RepR] at h1
    exact ⟨y, φ, rfl, h2, by simp only [Rep]; exact h1.1, fun _ _ => rfl, fun i b hb => by simp [gS] at hb, fun i j b c hb => by simp [gS] at hb⟩
  · rw [hd]
    exact ⟨y, φ, rfl, h2, by simp only [Rep], fun _ _ => rfl, fun i b hb => by simp [gS] at hb, fun i j b c hb => by simp [gS] at hb⟩
  · rw [hd]
    obtain ⟨ψ, I⟩ := im_ok S.below.size (w0 := w0) res (16 * d) h1 hL
    obtain ⟨a1, a2, a3⟩ := I.ok (fun i => if 16 * d ≤ i ∧ i < (im (16 * d) res).2.2 then ψ i else φ i) (fun i h3 h4 => if_pos ⟨h3, h4⟩)
    refine ⟨y, _, rfl, h2, a1, fun i hi => if_neg fun q => ?_, fun i b hb => ⟨(a2 i b hb).1, fun k hk => ((a2 i b hb).2 k hk).2⟩, a3⟩
    exact absurd (I.all i q.1 q.2) (by rw [hi]; exact Bool.false_ne_true)
theorem op_call (S : Sim w0 t s φ a w) {q : Bool} {f : FuncId} {l : List Operand} {ats : Array TypeId} {res : AV} (ho : o.op = .call ⟨.value (.func f), ⟨l⟩, ats⟩) (hc : Ctr P f (toPL s (mapE t l)) res) (h : bindW q res o.dst t s K) : o.wp P a w (Nx w0 K) Q := by
  obtain ⟨c1, c2, c3⟩ := op_callA (Q := Q) S ho hc
  rcases bindW_inv h with ⟨x, rfl, hK⟩ | ⟨hd, hK⟩ | ⟨d, hd, hf, hle, _, hK⟩
  · refine Oper.wp_mono (fun a' w' hn => ?_) (c1 x rfl)
    obtain ⟨ψ, hS⟩ := merge (s' := s) S hn (fun i b hb => by simp [gS] at hb) (fun i b hb => by simp [gS] at hb) (fun i => by simp [gS])
    exact ⟨ψ, _, _, hK, hS⟩
  · refine Oper.wp_mono (fun a' w' hn => ?_) (c2 hd)
    obtain ⟨ψ, hS⟩ := merge (s' := s) S hn (fun i b hb => by simp [gS] at hb) (fun i b hb => by simp [gS] at hb) (fun i => by simp [gS])
    exact ⟨ψ, _, _, hK, hS⟩
  · have h15 : ∀ i b, gS (im (16 * d) res).2.1 i = some b → i % 16 ≠ 15 := fun i b hb => by obtain ⟨⟨q1, q2⟩, _⟩ := (im_st res (16 * d)).2.1 i b hb; exact own15 q1 (by omega)
    refine Oper.wp_mono (fun a' w' hn => ?_) (c3 d hd)
    have hf' : ∀ i b, gS (im (16 * d) res).2.1 i = some b → AV.frL i (pT t (some d) .u) = true ∧ ∀ j c, gS s j = some c → gS (im (16 * d) res).2.1 j = none → c.fr i = true := fun i b hb => by
      have hfr := free_blk (free_pT (List.all_eq_true.1 hf _ (gS_mem hb)) (some d))
      exact ⟨hfr.1, fun j c hj _ => hfr.2 j c hj⟩
    obtain ⟨ψ, hS⟩ := merge (s' := (im (16 * d) res).2.1 ++ s) S hn hf' h15 (fun i => gS_app)
    exact ⟨ψ, _, _, hK, hS⟩
theorem op_turn (S : Sim w0 t s φ a w) {f : FuncId} {l : List Operand} {ats : Array TypeId} (ho : o.op = .call ⟨.value (.func f), ⟨l⟩, ats⟩) (h : turnW P f (mapE t l) o.dst t s K) : o.wp P a w (Nx w0 K) Q := by
  cases l with
  | nil => simp [mapE, turnW] at h
  | cons x l =>
    have hx := Sim_ev S x
    simp only [mapE] at h
    cases ex : eT t x with
    | lo id =>
      rw [ex] at h hx
      simp only [turnW] at h
      simp only [Rep] at hx
      cases eb : gS s id with
      | none => rw [eb] at h; simp [turnR] at h
      | some bl =>
        cases bl with
        | box tb cs => rw [eb] at h; simp [turnR] at h
        | row e sz xs =>
          rw [eb] at h
          cases ed : o.dst with
          | none => rw [ed] at h; simp [turnR] at h
          | some d =>
            rw [ed] at h
            simp only [turnR] at h
            obtain ⟨hp, ⟨ys, ⟨c1, c2, c3⟩, h4, hK⟩ | ⟨ys, ⟨c1, c2, c3⟩, hK⟩⟩ := h
            rotate_left
            · obtain ⟨b1, b2, b3⟩ := S.blk id _ eb
              have hrest : l.map a.eval = vluL (mapE t l) := RepL_plnE hp (mapE_ok S l)
              have hC := c3 w w0.heap.size (φ id) S.below.size b1
              unfold Oper.wp
              rw [run_call c1 ho]
              simp only [List.map_cons, hx.1, hrest]
              refine hC.mono ?_
              rintro ee w' ⟨rfl, q2, q3⟩
              show Nx w0 K (a.put o.dst _) w'
              have hbelow : Below w0.heap.size w0 w' := S.below.grown q3 S.below.size (fun k hk => own_base b1 k (by rw [bk_own b1]; exact hk))
              have hn : Sim w0 t (uS s id (.row e sz ys)) φ a w' := by
                refine Sim_upd S eb hbelow (fun m e' k hm hne hk => ?_) ⟨q2, c2, b3⟩ (fun k hk hG => q3.block k (Nat.lt_of_lt_of_le hk S.wsz) fun e => inn_ne S eb hk hG e.symm rfl) q3.size
                have hlt := (BlkOk_lt (S.blk m e' hm) hk).2
                refine q3.block k hlt (fun e => ?_)
                rcases S.apart m id _ _ hm eb hne with h9 | h9
                · rw [h9] at hk; cases hk
                · rw [hk] at h9; exact h9 e
              rw [ed]
              exact ⟨φ, _, _, hK, Sim_put hn (some d) (y := .v (.tuple #[])) (by simp only [Rep])⟩
            obtain ⟨b1, b2, b3⟩ := S.blk id _ eb
            have hrest : l.map a.eval = vluL (mapE t l) := RepL_plnE hp (mapE_ok S l)
            have hC := c3 w w0.heap.size (φ id) S.below.size b1
            unfold Oper.wp
            rw [run_call c1 ho]
            simp only [List.map_cons, hx.1, hrest]
            refine hC.mono ?_
            rintro ee w' ⟨v', rfl, q2, q3, q4⟩
            show Nx w0 K (a.put o.dst v') w'
            have S' := Sim_drop S id
            have hbelow : Below w0.heap.size w0 w' := S.below.grown q3 S.below.size (fun k hk => own_base b1 k (by rw [bk_own b1]; exact hk))
            have hpv : plainV v' = true := by obtain ⟨A, c, rfl⟩ := own_slice q2; rfl
            refine ⟨upd φ (16 * d) v', _, _, hK, ?_⟩
            have hn : Sim w0 t (uS (dS s id) (16 * d) (.row e sz ys)) (upd φ (16 * d) v') a w' := by
              have hkp : ∀ k, k < w0.ws.heap.size → ¬ w0.G k → w'.heap[k]? = w.heap[k]? := fun k hk hG => q3.block k (Nat.lt_of_lt_of_le hk S.wsz) fun e => inn_ne S eb hk hG e.symm rfl
              have hyn : ∀ k, bk v' = some k → w0.G k ∨ w0.ws.heap.size ≤ k := fun k hk => by
                rcases q4 k hk with q | q
                · exact S.inn id _ k eb q
                · exact .inr (Nat.le_trans S.wsz q)
              refine Sim_new S' h4 hbelow (fun m e' k hm hne hk => ?_) ?_ (by omega) hkp hyn q3.size
              · rw [gS_dS] at hm
                split at hm
                · cases hm
                · rename_i hmi
                  have hlt := (BlkOk_lt (S.blk m e' hm) hk).2
                  have hne2 : bk (φ id) ≠ some k := by
                    rcases S.apart m id _ _ hm eb (fun e => hmi e.symm) with h9 | h9
                    · rw [h9] at hk; cases hk
                    · rw [hk] at h9; exact fun e => h9 e.symm
                  refine ⟨q3.block k hlt (fun e => hne2 e.symm), fun e => ?_⟩
                  rcases q4 k e with q | q
                  · exact hne2 q
                  · omega
              · show _ ∧ _
                rw [upd_same]
                exact ⟨q2, c2, b3⟩
            rw [ed]
            exact Sim_put hn (some d) (y := .lo (16 * d)) (by simp only [Rep]; rw [upd_same]; exact ⟨rfl, hpv⟩)
    | _ => rw [ex] at h; simp [turnW] at h
theorem subS_at : ∀ {S : Sto} {s : Sto} {i : Nat} {b : Blk}, subS s S → gS S i = some b → gS s i = some b
  | [], _, _, _, _, h => by simp [gS] at h
  | (j, c) :: S, s, i, b, hs, h => by
    simp only [subS] at hs
    simp only [gS] at h
    split at h
    · rename_i e; subst e; obtain rfl := Option.some.inj h; exact hs.1
    · exact subS_at hs.2 h
theorem gS_key : ∀ {S S' : Sto}, S'.map (·.1) = S.map (·.1) → ∀ {i : Nat}, (gS S' i).isSome = (gS S i).isSome
  | [], [], _, _ => rfl
  | [], _ :: _, h, _ => by simp at h
  | _ :: _, [], h, _ => by simp at h
  | (i, b) :: S, (j, c) :: S', h, k => by
    simp only [List.map_cons, List.cons.injEq] at h
    obtain ⟨rfl, h⟩ := h
    simp only [gS]
    split
    · rfl
    · exact gS_key h
theorem uSL_at : ∀ (S : Sto) (s : Sto), (S.map (·.1)).Nodup → ∀ i, gS (uSL s S) i = (gS S i).or (gS s i)
  | [], _, _, _ => by simp [uSL, gS]
  | (j, c) :: S, s, hn, i => by
    simp only [List.map_cons, List.nodup_cons] at hn
    simp only [uSL]
    rw [uSL_at S _ hn.2, gS_uS]
    simp only [gS]
    by_cases e : j = i
    · subst e
      have : gS S j = none := by
        cases e : gS S j with
        | none => rfl
        | some b => exact absurd (List.mem_map.2 ⟨_, gS_mem e, rfl⟩) hn.1
      simp [this]
    · simp [e]
theorem op_mark (S : Sim w0 t s φ a w) {f : FuncId} {l : List Operand} {ats : Array TypeId} {R R' : Sto} {res : AV} (ho : o.op = .call ⟨.value (.func f), ⟨l⟩, ats⟩) {q : Bool} (hc : CtrB P f (mapE t l) R res R') (hR : subS s R) (h : bindW q res o.dst t (uSL s R') K) : o.wp P a w (Nx w0 K) Q := by
  obtain ⟨c1, c2, c0, _, c3⟩ := hc
  have hC := c3 w0 w φ (l.map a.eval) w0.gl S.below (mapE_ok S l) (fun i b hb => S.blk i b (subS_at hR hb)) (fun i j b c hb hc hne => S.apart i j b c (subS_at hR hb) (subS_at hR hc) hne)
  unfold Oper.wp
  rw [run_call c1 ho]
  refine hC.mono ?_
  rintro e w' ⟨y, L, rfl, hres, hL, hb, hsz, hB, hk⟩
  show Nx w0 K (a.put o.dst y) w'
  have at' : ∀ i, gS (uSL s R') i = (gS R' i).or (gS s i) := uSL_at R' s c0
  have key : ∀ i c, gS (uSL s R') i = some c → ∃ c', gS s i = some c' := fun i c h => by
    rw [at'] at h
    cases e : gS R' i with
    | some b =>
      have := gS_key c2 (i := i)
      rw [e] at this
      cases e2 : gS R i with
      | none => rw [e2] at this; cases this
      | some b' => exact ⟨b', subS_at hR e2⟩
    | none => rw [e] at h; exact ⟨c, by simpa using h⟩
  have hS : Sim w0 t (uSL s R') φ a w' := by
    refine ⟨hb, S.defs, S.tmp, fun i c h => ?_, fun i j c c' h h' hne => ?_, S.fix, fun k hk1 hG => ?_, fun i c k h hk' => ?_, Nat.le_trans S.wsz hsz⟩
    · rw [at'] at h
      cases e : gS R' i with
      | some b =>
        rw [e] at h
        obtain rfl : b = c := by simpa using h
        exact hB i _ e
      | none =>
        rw [e] at h
        have h : gS s i = some c := by simpa using h
        refine BlkOk_world (S.blk i c h) fun k hk' => hk k (BlkOk_lt (S.blk i c h) hk').2 fun j b hj hj' => ?_
        have hne : i ≠ j := fun e' => by
          have := gS_key c2 (i := i)
          rw [e, e', hj] at this; cases this
        rcases S.apart i j c b h (subS_at hR hj) hne with q | q
        · rw [q] at hk'; cases hk'
        · exact q (hk'.trans hj'.symm)
    · obtain ⟨d1, h1⟩ := key i c h
      obtain ⟨d2, h2⟩ := key j c' h'
      exact S.apart i j d1 d2 h1 h2 hne
    · exact (hk k (Nat.lt_of_lt_of_le hk1 S.wsz) fun i b hi e => inn_ne S (subS_at hR hi) hk1 hG e rfl).trans (S.kept k hk1 hG)
    · obtain ⟨d1, h1⟩ := key i c h
      exact S.inn i d1 k h1 hk'
  have hlt : ∀ i b k, gS (uSL s R') i = some b → bk (φ i) = some k → k < w.heap.size := fun i b k h hk' => by
    obtain ⟨d1, h1⟩ := key i b h
    exact (BlkOk_lt (S.blk i d1 h1) hk').2
  rcases bindW_inv h with ⟨x, rfl, hK⟩ | ⟨hd, hK⟩ | ⟨d, hd, hf, hle, _, hK⟩
  · simp only [RepR] at hres
    exact ⟨φ, _, _, hK, Sim_put hS o.dst (y := .v x) (by simp only [Rep]; exact hres.1)⟩
  · rw [hd]
    exact ⟨φ, _, _, hK, hS⟩
  · rw [hd]
    obtain ⟨ψ, I⟩ := im_ok S.below.size (w0 := w0) res (16 * d) hres hL
    obtain ⟨a1, a2, a3⟩ := I.ok (fun i => if 16 * d ≤ i ∧ i < (im (16 * d) res).2.2 then ψ i else φ i) (fun i h3 h4 => if_pos ⟨h3, h4⟩)
    have hf' : ∀ i b, gS (im (16 * d) res).2.1 i = some b → AV.frL i (pT t (some d) .u) = true ∧ ∀ j c, gS (uSL s R') j = some c → gS (im (16 * d) res).2.1 j = none → c.fr i = true := fun i b hb => by
      have hfr := free_blk (free_pT (List.all_eq_true.1 hf _ (gS_mem hb)) (some d))
      exact ⟨hfr.1, fun j c hj _ => hfr.2 j c hj⟩
    have := merge2 hS hlt S.wsz (d := some d) a1 (fun i hi => if_neg fun q => absurd (I.all i q.1 q.2) (by rw [hi]; exact Bool.false_ne_true)) (fun i b hb => ⟨(a2 i b hb).1, fun k hk => ((a2 i b hb).2 k hk).2⟩) a3 hf' (fun i b hb => by obtain ⟨⟨q1, q2⟩, _⟩ := (im_st res (16 * d)).2.1 i b hb; exact own15 q1 (by omega)) (s' := (im (16 * d) res).2.1 ++ uSL s R') (fun i => gS_app)
    exact ⟨_, _, _, hK, this⟩
theorem op_view (S : Sim w0 t s φ a w) {f : FuncId} {l : List Operand} {ats : Array TypeId} {res : AV} (ho : o.op = .call ⟨.value (.func f), ⟨l⟩, ats⟩) (hc : CtrV P f (mapE t l) res) (hK : K (pT t o.dst res) s) : o.wp P a w (Nx w0 K) Q := by
  obtain ⟨c1, c2⟩ := hc
  unfold Oper.wp
  rw [run_call c1 ho]
  refine (c2 w0 w φ (l.map a.eval) w0.gl S.below (mapE_ok S l)).mono ?_
  rintro e w' ⟨y, rfl, hy, hb⟩
  show Nx w0 K (a.put o.dst y) w'
  exact ⟨φ, _, _, hK, Sim_put (Sim_below S hb) o.dst hy⟩
theorem noL_fr : ∀ {cs : List AV} (j : Nat), noL cs = true → AV.frL j cs = true
  | [], _, _ => rfl
  | .v _ :: l, j, h => by simp only [noL] at h; simp only [AV.frL, AV.fr, Bool.true_and]; exact noL_fr j h
  | .pr _ _ :: l, j, h => by simp only [noL] at h; simp only [AV.frL, AV.fr, Bool.true_and]; exact noL_fr j h
  | .u :: _, _, h | .ag _ :: _, _, h | .tu _ :: _, _, h | .ow _ _ _ :: _, _, h | .lo _ :: _, _, h | .bp _ _ :: _, _, h | .pe _ :: _, _, h | .le _ _ _ _ :: _, _, h | .vw _ _ _ _ :: _, _, h => by simp [noL] at h
theorem op_newvar (S : Sim w0 t s φ a w) {f : FuncId} {l : List Operand} {ats : Array TypeId} {tb : TypeId} {cs : List AV} {d : Nat} (ho : o.op = .call ⟨.value (.func f), ⟨l⟩, ats⟩) (hc : CtrN P f (mapE t l) tb cs) (hd : o.dst = some d) (hno : noL cs = true) (hf : free (16 * d) t s = true)
    (hK : K (sT t d (.bp (16 * d) 0)) (uS s (16 * d) (.box tb cs))) : o.wp P a w (Nx w0 K) Q := by
  obtain ⟨c1, c3⟩ := hc
  have hC := c3 w0 w φ (l.map a.eval) w0.gl S.below (mapE_ok S l)
  unfold Oper.wp
  rw [run_call c1 ho]
  refine hC.mono ?_
  rintro e w' ⟨g, c, rfl, hg, hcell, hR, hb⟩
  show Nx w0 K (a.put o.dst _) w'
  rw [hd]
  have hn : NxA w0 φ a w (some d) (.bp (16 * d) 0) [(16 * d, .box tb cs)] (a.put (some d) (.pointer (some ⟨g, 0, none⟩))) w' := by
    have hdd : ∀ i c', gS [(16 * d, Blk.box tb cs)] i = some c' → i = 16 * d ∧ c' = .box tb cs := fun i c' h => by
      rw [gS_one] at h
      split at h
      · rename_i e; exact ⟨e.symm, (Option.some.inj h).symm⟩
      · cases h
    refine ⟨_, upd φ (16 * d) (.pointer (some ⟨g, 0, none⟩)), rfl, hb, by simp only [Rep]; exact ⟨_, upd_same _ _ _, rfl⟩, fun i hi => ?_, fun i c' h => ?_, fun i j c1 c2 q1 q2 hne => absurd ((hdd i c1 q1).1.trans (hdd j c2 q2).1.symm) hne⟩
    · refine upd_ne _ _ _ i fun e => ?_
      rw [e, gS_one, if_pos rfl] at hi; cases hi
    · obtain ⟨rfl, rfl⟩ := hdd i c' h
      refine ⟨⟨g, c, upd_same _ _ _, Nat.le_trans S.below.size hg, hcell, RepL_fr (upd_ne φ _ _) (noL_fr _ hno) hR⟩, fun k hk => ?_⟩
      rw [upd_same] at hk
      simp [bk] at hk; omega
  have hff := free_blk (free_pT hf (some d))
  obtain ⟨ψ, hS⟩ := merge (s' := uS s (16 * d) (.box tb cs)) S hn (fun i b hb => by
    rw [gS_one] at hb
    split at hb
    · rename_i e; subst e; exact ⟨hff.1, fun j c hj _ => hff.2 j c hj⟩
    · cases hb) (fun i b hb => by
    rw [gS_one] at hb
    split at hb
    · rename_i e; subst e; omega
    · cases hb) (uS_or s (16 * d) _)
  exact ⟨ψ, _, _, hK, hS⟩
theorem opX_ok (T : TyOk P ty) (S : Sim w0 t s φ a w) {q : Bool} (h : opX P ty q o.op o.type o.dst t s K) : o.wp P a w (Nx w0 K) Q := by
  by_cases hr : ro o.op = true
  · obtain ⟨y, hK, v, hy, hv⟩ := opX_ro T S hr h
    refine Oper.wp_of_quiet (C := Below w.heap.size w) (K := fun a' => a' = a.put o.dst v) (Below.refl _ _) (fun a' w' hw' ha' => ?_) ⟨v, fun w1 hw1 => hv w1 hw1, rfl⟩
    subst ha'
    exact ⟨φ, _, _, hK, Sim_put (Sim_below S hw') o.dst hy⟩
  · have hr : ro o.op = false := by simpa using hr
    cases ho : o.op with
    | assign x =>
      rw [ho] at h hr
      cases x with
      | const v =>
        cases v with
        | slice A n c =>
          obtain ⟨⟨rfl, rfl, rfl⟩, h⟩ := h
          exact FX_ok S (fx_nil T ho h)
        | _ => simp [ro] at hr
      | _ => simp [ro] at hr
    | slice b x lo hi mx => rw [ho] at hr; cases mx <;> first | (simp [ro] at hr; done) | (rw [ho] at h; simp [opX] at h; done)
    | alloc b => rw [ho] at h; exact FX_ok S (fx_alloc T ho h)
    | box b x => rw [ho] at h; exact FX_ok S (fx_box ho h)
    | store b ad x => rw [ho] at h; exact op_store T S ho h.2.1 h.2.2
    | makeSlice b x y => rw [ho] at h; exact FX_ok S (fx_make T ho h)
    | buildSlice b n ps => rw [ho] at h; obtain ⟨ps⟩ := ps; exact FX_ok S (fx_lit T ho h)
    | call c =>
      rw [ho] at h hr
      obtain ⟨callee, ⟨args⟩, ⟨ats⟩⟩ := c
      simp only [opX] at h
      cases callee with
      | value f =>
        cases f with
        | func f =>
          simp only [cW] at h
          rcases h with ⟨res, hc, hb⟩ | ⟨_, h | ⟨tb, cs, d', h1, h2, h3, h4, h5⟩ | ⟨res, h1, h2⟩⟩ | ⟨R, res, R', h1, _, h2, h3⟩
          · exact op_call S ho hc hb
          · exact op_turn S ho h
          · exact op_newvar S ho h1 h2 h3 h4 h5
          · exact op_view S ho h1 h2
          · exact op_mark S ho h1 h2 h3
        | _ => simp [cW] at h
      | invoke r m => simp [cW] at h
      | builtin b =>
        cases b <;> first | (simp [ro] at hr; done) | (simp [cW] at h; done) | skip
        match args, ats, h, ho with
        | [x, y], [t1, t2], h, ho =>
          simp only [cW] at h
          obtain ⟨_, hb2, h⟩ := h
          exact op_append T S ho hb2 h
        | [], _, h, _ => simp [cW] at h
        | [_], _, h, _ => simp [cW] at h
        | [_, _], [], h, _ => simp [cW] at h
        | [_, _], [_], h, _ => simp [cW] at h
        | [_, _], _ :: _ :: _ :: _, h, _ => simp [cW] at h
        | _ :: _ :: _ :: _, _, h, _ => simp [cW] at h
    | _ => rw [ho] at h hr; first | (simp [ro] at hr; done) | (simp [opX] at h; done)
end
end Go.Proofs.YtdjdleldocfpaaaDoor.F
end

section
namespace Go.Proofs.YtdjdleldocfpaaaDoor.F
open Go.RowKit Go.Proofs.YtdjdleldocfpaaaDoorW.PrintWords Go.Proofs.YtdjdleldocfpaaaDoorW.PrintLast Go.Proofs.YtdjdleldocfpaaaDoorW.PrintMore
set_option linter.unusedVariables false
set_option linter.unusedSimpArgs false
theorem in_lo {A : Nat → Prop} {i : Nat} (h : AIn A (.lo i)) : A i := Classical.byContradiction fun hn => by have := h i hn; simp [AV.fr] at this
theorem in_bp {A : Nat → Prop} {i o : Nat} (h : AIn A (.bp i o)) : A i := Classical.byContradiction fun hn => by have := h i hn; simp [AV.fr] at this
theorem in_le {A : Nat → Prop} {i z o : Nat} {n : Int} (h : AIn A (.le i z n o)) : A i := Classical.byContradiction fun hn => by have := h i hn; simp [AV.fr] at this
theorem in_vw {A : Nat → Prop} {i z a b : Nat} (h : AIn A (.vw i z a b)) : A i := Classical.byContradiction fun hn => by have := h i hn; simp [AV.fr] at this
theorem frL_dp {j : Nat} : ∀ {n : Nat} {l : List AV}, AV.frL j l = true → AV.frL j (dp n l) = true
  | 0, l, h => by cases l <;> exact h
  | n + 1, [], h => h
  | n + 1, x :: l, h => by simp only [AV.frL, Bool.and_eq_true] at h; simp only [dp]; exact frL_dp h.2
theorem frL_tk {j : Nat} : ∀ {n : Nat} {l : List AV}, AV.frL j l = true → AV.frL j (tk n l) = true
  | 0, l, h => by cases l <;> rfl
  | n + 1, [], h => rfl
  | n + 1, x :: l, h => by simp only [AV.frL, Bool.and_eq_true] at h; simp only [tk, AV.frL, Bool.and_eq_true]; exact ⟨h.1, frL_tk h.2⟩
theorem fr_cut {j : Nat} {g : Bool} {n : Nat} {l : List AV} (h : AV.frL j l = true) : AV.fr j (cutA g n l) = true := by
  cases g with
  | true => simp only [cutA, AV.fr]; exact frL_tk h
  | false =>
    cases l with
    | nil => rfl
    | cons x l => simp only [AV.frL, Bool.and_eq_true] at h; exact h.1
theorem frL_putA {j : Nat} : ∀ {n : Nat} {c cs : List AV}, AV.frL j c = true → AV.frL j cs = true → AV.frL j (putA n c cs) = true
  | n, [], cs, _, h => by cases n <;> cases cs <;> exact h
  | 0, y :: ys, [], _, _ => rfl
  | n + 1, y :: ys, [], _, _ => rfl
  | 0, y :: ys, x :: l, hc, h => by
    simp only [AV.frL, Bool.and_eq_true] at h hc
    simp only [putA, AV.frL, Bool.and_eq_true]
    exact ⟨hc.1, frL_putA hc.2 h.2⟩
  | n + 1, y :: ys, x :: l, hc, h => by
    simp only [AV.frL, Bool.and_eq_true] at h
    simp only [putA, AV.frL, Bool.and_eq_true]
    exact ⟨h.1, frL_putA hc h.2⟩
section
variable {P : Program} {ty : TypeId → Option TI} {w0 : Bs} {t : List AV} {s : Sto} {φ : Nat → Value} {a : Act} {w : World} {o : Oper} {d : Option Nat} {K : Kt} {Q : Exit → Act → World → Prop}
theorem q_load {I : Option TI} {x : AV} (h : loadW ty I x d t s K) : ∃ y, K (pT t d y) s ∧ ∀ A s1, AIn A x → Fr A s s1 → AIn A y ∧ loadW ty I x (some 0) [.u] s1 (fun u _ => u = [y]) := by
  unfold loadW at h
  split at h
  · rename_i i id off
    cases e : gS s id with
    | none => rw [e] at h; exact h.elim
    | some b =>
      cases b with
      | row e' sz xs => rw [e] at h; exact h.elim
      | box tb cs =>
        rw [e] at h
        refine ⟨_, h.2, fun A s1 hx hF => ⟨fun j hj => fr_cut (frL_dp (by have := hF.cl id _ (in_bp hx) e j hj; simpa [Blk.fr] using this)), ?_⟩⟩
        simp only [loadW]
        rw [hF.eq id (in_bp hx), e]
        exact ⟨h.1, rfl⟩
  · rename_i i cs
    exact ⟨_, h.2, fun A s1 hx hF => ⟨fun j hj => fr_cut (frL_vs _), h.1, rfl⟩⟩
  · rename_i i id z n off
    cases e : gS s id with
    | none => rw [e] at h; exact h.elim
    | some b =>
      cases b with
      | box tb cs => rw [e] at h; exact h.elim
      | row e' sz xs =>
        rw [e] at h
        obtain ⟨q, h1, h2, h3, h4, h5⟩ := h
        refine ⟨_, h5, fun A s1 hx hF => ⟨fun j hj => fr_cut (frL_dp (frL_vs _)), ?_⟩⟩
        simp only [loadW]
        rw [hF.eq id (in_le hx), e]
        exact ⟨q, h1, h2, h3, h4, rfl⟩
  · exact h.elim
theorem q_fa {I : Option Nat} {x : AV} (h : faW I x d t s K) : ∃ y, K (pT t d y) s ∧ ∀ A s1, AIn A x → AIn A y ∧ faW I x (some 0) [.u] s1 (fun u _ => u = [y]) := by
  unfold faW at h
  split at h
  · exact ⟨_, h, fun A s1 hx => ⟨fun j hj => hx j hj, rfl⟩⟩
  · exact ⟨_, h, fun A s1 hx => ⟨fun j hj => rfl, rfl⟩⟩
  · exact ⟨_, h, fun A s1 hx => ⟨fun j hj => hx j hj, rfl⟩⟩
  · exact h.elim
theorem q_idx {I : Option TI} {x iv : AV} (h : idxW ty I x iv d t s K) : ∃ y, K (pT t d y) s ∧ ∀ A s1, AIn A x → Fr A s s1 → AIn A y ∧ idxW ty I x iv (some 0) [.u] s1 (fun u _ => u = [y]) := by
  unfold idxW at h
  split at h
  · obtain ⟨z, h1, h2, h3, h4, h5⟩ := h
    exact ⟨_, h5, fun A s1 hx hF => ⟨fun j hj => rfl, z, h1, h2, h3, h4, rfl⟩⟩
  · rename_i ti id k n
    cases e : gS s id with
    | none => rw [e] at h; exact h.elim
    | some b =>
      cases b with
      | box tb cs => rw [e] at h; exact h.elim
      | row e' sz xs =>
        rw [e] at h
        obtain ⟨h1, h2, h3, h4⟩ := h
        refine ⟨_, h4, fun A s1 hx hF => ⟨fun j hj => hx j hj, ?_⟩⟩
        simp only [idxW]
        rw [hF.eq id (in_lo hx), e]
        exact ⟨h1, h2, h3, rfl⟩
  · rename_i ti id z lo hi k n
    cases e : gS s id with
    | none => rw [e] at h; exact h.elim
    | some b =>
      cases b with
      | box tb cs => rw [e] at h; exact h.elim
      | row e' sz xs =>
        rw [e] at h
        obtain ⟨h1, h2, h3, h4, h5⟩ := h
        refine ⟨_, h5, fun A s1 hx hF => ⟨fun j hj => hx j hj, ?_⟩⟩
        simp only [idxW]
        rw [hF.eq id (in_vw hx), e]
        exact ⟨h1, h2, h3, h4, rfl⟩
  · obtain ⟨h1, h2, h3, h4, h5⟩ := h
    exact ⟨_, h5, fun A s1 hx hF => ⟨fun j hj => hx j hj, h1, h2, h3, h4, rfl⟩⟩
  · exact h.elim
theorem q_len {x : AV} (h : lenW x d t s K) : ∃ y, K (pT t d y) s ∧ ∀ A s1, AIn A x → Fr A s s1 → AIn A y ∧ lenW x (some 0) [.u] s1 (fun u _ => u = [y]) := by
  unfold lenW at h
  split at h
  · exact ⟨_, h, fun A s1 hx hF => ⟨fun j hj => rfl, rfl⟩⟩
  · rename_i id
    cases e : gS s id with
    | none => rw [e] at h; exact h.elim
    | some b =>
      cases b with
      | box tb cs => rw [e] at h; exact h.elim
      | row e' sz xs =>
        rw [e] at h
        refine ⟨_, h, fun A s1 hx hF => ⟨fun j hj => rfl, ?_⟩⟩
        simp only [lenW]
        rw [hF.eq id (in_lo hx), e]
        rfl
  · rename_i id z lo hi
    cases e : gS s id with
    | none => rw [e] at h; exact h.elim
    | some b =>
      cases b with
      | box tb cs => rw [e] at h; exact h.elim
      | row e' sz xs =>
        rw [e] at h
        refine ⟨_, h, fun A s1 hx hF => ⟨fun j hj => rfl, ?_⟩⟩
        simp only [lenW]
        rw [hF.eq id (in_vw hx), e]
        rfl
  · exact ⟨_, h, fun A s1 hx hF => ⟨fun j hj => rfl, rfl⟩⟩
  · exact ⟨_, h, fun A s1 hx hF => ⟨fun j hj => rfl, rfl⟩⟩
  · exact h.elim
theorem q_bin {b : TypeId} {I : Option TI} {op : BinOp} {x y : AV} (h : binX P b I op x y d t s K) : ∃ v, K (pT t d v) s ∧ ∀ (A : Nat → Prop) s1, AIn A v ∧ binX P b I op x y (some 0) [.u] s1 (fun u _ => u = [v]) := by
  unfold binX at h
  split at h
  · exact ⟨_, h.2, fun A s1 => ⟨fun j hj => rfl, h.1, rfl⟩⟩
  · exact ⟨_, h.2, fun A s1 => ⟨fun j hj => rfl, h.1, rfl⟩⟩
  · obtain ⟨p1, p2, r, h1, h2⟩ := h
    exact ⟨_, h2, fun A s1 => ⟨fun j hj => rfl, p1, p2, r, h1, rfl⟩⟩
  · obtain ⟨p1, p2, r, h1, h2⟩ := h
    exact ⟨_, h2, fun A s1 => ⟨fun j hj => rfl, p1, p2, r, h1, rfl⟩⟩
  · rcases binW_inv h with ⟨k, m, k', n, rfl, rfl, h1, h2, h3⟩ | ⟨m, n, rfl, rfl, h1, h3⟩
    · refine ⟨_, h3, fun A s1 => ⟨fun j hj => rfl, ?_⟩⟩
      have : binX P b I op (.v (.int k m)) (.v (.int k' n)) (some 0) [.u] s1 (fun u _ => u = [.v (bval op k m n)]) = binW op (.v (.int k m)) (.v (.int k' n)) (some 0) [.u] s1 (fun u _ => u = [.v (bval op k m n)]) := by unfold binX; split <;> simp_all
      rw [this]
      unfold binW
      exact ⟨h1, h2, rfl⟩
    · refine ⟨_, h3, fun A s1 => ⟨fun j hj => rfl, ?_⟩⟩
      have : binX P b I op (.v (.string m)) (.v (.string n)) (some 0) [.u] s1 (fun u _ => u = [.v (sval op m n)]) = binW op (.v (.string m)) (.v (.string n)) (some 0) [.u] s1 (fun u _ => u = [.v (sval op m n)]) := by unfold binX; split <;> simp_all
      rw [this]
      unfold binW
      exact ⟨h1, rfl⟩
theorem q_pick {c x y : AV} (h : pickW c x y d t s K) : ∃ v, K (pT t d v) s ∧ ∀ A s1, AIn A x → AIn A y → AIn A v ∧ pickW c x y (some 0) [.u] s1 (fun u _ => u = [v]) := by
  unfold pickW at h
  split at h
  · exact ⟨_, h, fun A s1 hx hy => ⟨hx, rfl⟩⟩
  · exact ⟨_, h, fun A s1 hx hy => ⟨hy, rfl⟩⟩
  · exact h.elim
theorem q_not {x : AV} (h : notW x d t s K) : ∃ v, K (pT t d v) s ∧ ∀ (A : Nat → Prop) s1, AIn A v ∧ notW x (some 0) [.u] s1 (fun u _ => u = [v]) := by
  obtain ⟨b, rfl, h⟩ := notW_inv h
  exact ⟨_, h, fun A s1 => ⟨fun j hj => rfl, rfl⟩⟩
theorem q_exW : ∀ {cs : List AV} {n : Nat}, exW cs n d t s K → ∃ v, K (pT t d v) s ∧ ∀ A s1, LIn A cs → AIn A v ∧ exW cs n (some 0) [.u] s1 (fun u _ => u = [v])
  | [], n, h => by cases n <;> exact h.elim
  | x :: l, 0, h => ⟨_, h, fun A s1 hx => ⟨fun j hj => by have := hx j hj; simp only [AV.frL, Bool.and_eq_true] at this; exact this.1, rfl⟩⟩
  | x :: l, n + 1, h => by
    obtain ⟨v, h1, h2⟩ := q_exW (cs := l) (n := n) h
    exact ⟨v, h1, fun A s1 hx => h2 A s1 fun j hj => by have := hx j hj; simp only [AV.frL, Bool.and_eq_true] at this; exact this.2⟩
theorem q_ext {x : AV} {n : Nat} (h : extW x n d t s K) : ∃ v, K (pT t d v) s ∧ ∀ A s1, AIn A x → AIn A v ∧ extW x n (some 0) [.u] s1 (fun u _ => u = [v]) := by
  unfold extW at h
  split at h
  · obtain ⟨v, h1, h2⟩ := q_exW h
    exact ⟨v, h1, fun A s1 hx => h2 A s1 fun j hj => by simpa [AV.fr] using hx j hj⟩
  · exact h.elim
theorem rdS_frame {sz : Nat} {x : AV} {A : Nat → Prop} {s s1 : Sto} {ys : List (List Value)} (hx : AIn A x) (hF : Fr A s s1) (h : rdS sz x s = some ys) : rdS sz x s1 = some ys := by
  cases x with
  | lo id => simp only [rdS] at h ⊢; rw [hF.eq id (in_lo hx)]; exact h
  | vw id z lo hi => simp only [rdS] at h ⊢; rw [hF.eq id (in_vw hx)]; exact h
  | v u =>
    unfold rdS at h ⊢
    split at h <;> first | (rename_i e; cases e; done) | (rename_i e; injection e with e; subst e; exact h) | cases h
  | _ => exact h
theorem q_cnv {I J : Option TI} {x : AV} (h : cnvW ty I J x d t s K) : ∃ v, K (pT t d v) s ∧ ∀ (A : Nat → Prop) s1, AIn A x → Fr A s s1 → AIn A v ∧ cnvW ty I J x (some 0) [.u] s1 (fun u _ => u = [v]) := by
  unfold cnvW at h
  split at h
  · obtain ⟨k', h1, h2⟩ := h
    exact ⟨_, h2, fun A s1 _ _ => ⟨fun j hj => rfl, k', h1, rfl⟩⟩
  · rename_i i j _ _ _ _ _ hne
    obtain ⟨h1, h2, ns, h3, h4⟩ := h
    obtain ⟨ys, h5, h6⟩ := Option.bind_eq_some_iff.1 h3
    refine ⟨_, h4, fun A s1 hx hF => ⟨fun j hj => rfl, ?_⟩⟩
    unfold cnvW
    split
    · rename_i e1 e2; exact absurd rfl (hne _ _)
    · rename_i e1 e2 e3
      obtain rfl := Option.some.inj e1
      obtain rfl := Option.some.inj e2
      exact ⟨h1, h2, ns, by rw [rdS_frame hx hF h5]; exact h6, rfl⟩
    · rename_i h7 _; exact absurd rfl (h7 _ _ rfl)
  · exact h.elim
theorem q_neg {x : AV} (h : negW x d t s K) : ∃ v, K (pT t d v) s ∧ ∀ (A : Nat → Prop) s1, AIn A v ∧ negW x (some 0) [.u] s1 (fun u _ => u = [v]) := by
  unfold negW at h
  split at h
  · exact ⟨_, h, fun A s1 => ⟨fun j hj => rfl, rfl⟩⟩
  · exact h.elim
theorem q_idxS {I : Option TI} {x y : AV} (h : idxS I x y d t s K) : ∃ v, K (pT t d v) s ∧ ∀ (A : Nat → Prop) s1, AIn A v ∧ idxS I x y (some 0) [.u] s1 (fun u _ => u = [v]) := by
  unfold idxS at h
  split at h
  · obtain ⟨h1, h2, h3, h4⟩ := h
    exact ⟨_, h4, fun A s1 => ⟨fun j hj => rfl, h1, h2, h3, rfl⟩⟩
  · exact h.elim
theorem q_chk {x : AV} (h : chkW x d t s K) : ∃ v, K (pT t d v) s ∧ ∀ A s1, AIn A x → AIn A v ∧ chkW x (some 0) [.u] s1 (fun u _ => u = [v]) := by
  unfold chkW at h
  split at h
  · exact ⟨_, h, fun A s1 hx => ⟨hx, rfl⟩⟩
  · exact ⟨_, h, fun A s1 hx => ⟨hx, rfl⟩⟩
  · exact ⟨_, h, fun A s1 hx => ⟨hx, rfl⟩⟩
  · exact h.elim
theorem q_mm {b : Bool} {x y : AV} (h : mmW b x y d t s K) : ∃ v, K (pT t d v) s ∧ ∀ (A : Nat → Prop) s1, AIn A v ∧ mmW b x y (some 0) [.u] s1 (fun u _ => u = [v]) := by
  unfold mmW at h
  split at h
  · exact ⟨_, h, fun A s1 => ⟨fun j hj => rfl, rfl⟩⟩
  · exact ⟨_, h, fun A s1 => ⟨fun j hj => rfl, rfl⟩⟩
  · exact h.elim
theorem q_slc {I : Option TI} {x : AV} {lo hi : Option AV} (h : slcW ty I x lo hi d t s K) : ∃ y, K (pT t d y) s ∧ ∀ A s1, AIn A x → Fr A s s1 → AIn A y ∧ slcW ty I x lo hi (some 0) [.u] s1 (fun u _ => u = [y]) := by
  unfold slcW at h
  split at h
  · obtain ⟨j, ej, h⟩ := h
    cases el : loN lo with
    | none => rw [el] at h; simp [slcP] at h
    | some l =>
      rw [el] at h
      obtain ⟨q, h1, h2, h3, h4, h5, h6⟩ := h
      refine ⟨_, h6, fun A s1 hx hF => ⟨fun j hj => rfl, ?_⟩⟩
      exact ⟨j, ej, by rw [el]; exact ⟨q, h1, h2, h3, h4, h5, rfl⟩⟩
  · rename_i i id
    obtain ⟨j, ej, h⟩ := h
    cases e : gS s id with
    | none => rw [e] at h; simp [slcR] at h
    | some b =>
      cases b with
      | box tb cs => rw [e] at h; simp [slcR] at h
      | row e' sz xs =>
        rw [e] at h
        cases el : loN lo with
        | none => rw [el] at h; simp [slcR] at h
        | some l =>
          rw [el] at h
          obtain ⟨q, h1, h2, h3, h4, h5, h6⟩ := h
          refine ⟨_, h6, fun A s1 hx hF => ⟨fun j hj => hx j hj, ?_⟩⟩
          exact ⟨j, ej, by rw [hF.eq id (in_lo hx), e, el]; exact ⟨q, h1, h2, h3, h4, h5, rfl⟩⟩
  · obtain ⟨h1, h⟩ := h
    cases el : loN lo with
    | none => rw [el] at h; simp [slcS] at h
    | some l =>
      rw [el] at h
      obtain ⟨q, h2, h3, h4, h5, h6⟩ := h
      refine ⟨_, h6, fun A s1 hx hF => ⟨fun j hj => rfl, h1, ?_⟩⟩
      rw [el]; exact ⟨q, h2, h3, h4, h5, rfl⟩
  · exact h.elim
theorem bldC_eq {t1 : List AV} {pl : List (Nat × Nat)} : ∀ {ps : List (Nat × Operand)} {cs : List AV}, (∀ p ∈ ps, eT t1 p.2 = eT t p.2) → bldC pl t1 ps cs = bldC pl t ps cs
  | [], _, _ => rfl
  | (f, x) :: l, cs, h => by
    simp only [bldC]
    rw [h (f, x) (by simp)]
    congr 1
    funext cs'
    exact bldC_eq fun p hp => h p (by simp [hp])
theorem bldC_in {pl : List (Nat × Nat)} {j : Nat} : ∀ {ps : List (Nat × Operand)} {cs cs' : List AV}, (∀ p ∈ ps, AV.fr j (eT t p.2) = true) → AV.frL j cs = true → bldC pl t ps cs = some cs' → AV.frL j cs' = true
  | [], cs, cs', _, hc, h => by simp only [bldC, Option.some.injEq] at h; subst h; exact hc
  | (f, x) :: l, cs, cs', hp, hc, h => by
    simp only [bldC] at h
    obtain ⟨c1, h1, h2⟩ := Option.bind_eq_some_iff.1 h
    unfold bldP at h1
    split at h1
    · split at h1
      · obtain rfl := Option.some.inj h1
        exact bldC_in (fun p hp' => hp p (by simp [hp'])) (frL_putA (fr_cells (hp (f, x) (by simp))) hc) h2
      · cases h1
    · cases h1
theorem fx_of_ro (h : ∃ y, K (pT t o.dst y) s ∧ ∀ A s1 t1, (∀ x ∈ o.op.operands.toList, eT t1 x = eT t x ∧ AIn A (eT t x)) → Fr A s s1 → AIn A y ∧ ∀ w0 φ a w, Sim w0 t1 s1 φ a w → Ro P w0 φ a w o y) : FX P o t s K := by
  obtain ⟨y, hK, hr⟩ := h
  refine ⟨y, [], s, ⟨fun i b hb => by simp [gS] at hb, fun i b hb => by simp [gS] at hb, fun x hx i b hb => by simp [gS] at hb, fun A s1 t1 ha hF hA => ⟨fun j hj => (hr A s1 t1 ha hF).1 j fun h => hj (.inl h), fun i b hb => by simp [gS] at hb, fun w0 φ a w Q S => ?_⟩⟩, fun i => by simp [gS], hK⟩
  obtain ⟨v, hy, hv⟩ := (hr A s1 t1 ha hF).2 w0 φ a w S
  refine Oper.wp_of_quiet (C := Below w.heap.size w) (K := fun a' => a' = a.put o.dst v) (Below.refl _ _) (fun a' w' hw' ha' => ?_) ⟨v, fun w1 hw1 => hv w1 hw1, rfl⟩
  subst ha'
  exact ⟨v, φ, rfl, hw', hy, fun _ _ => rfl, fun i b hb => by simp [gS] at hb, fun i j b c hb => by simp [gS] at hb⟩
theorem fin {y : AV} {s1 : Sto} (h : ∃ y', (fun (u : List AV) (_ : Sto) => u = [y]) (pT [.u] (some 0) y') s1 ∧ Ro P w0 φ a w o y') : Ro P w0 φ a w o y := by
  obtain ⟨y', e, h⟩ := h
  obtain rfl : y' = y := by simpa [pT, sT] using e
  exact h
theorem fx_ro (T : TyOk P ty) {q : Bool} (hr : ro o.op = true) (h : opX P ty q o.op o.type o.dst t s K) : FX P o t s K := by
  apply fx_of_ro
  cases ho : o.op with
  | move x => rw [ho] at h; exact ⟨_, h, fun A s1 t1 ha hF => ⟨(ha x (by simp [Op.operands])).2, fun w0 φ a w S => fin (s1 := s1) (ro_move (K := fun u _ => u = [eT t x]) (t2 := [.u]) (d := some 0) S (.inl ho) (congrArg (· :: []) (ha x (by simp [Op.operands])).1))⟩⟩
  | assign x =>
    rw [ho] at h hr
    have h' : K (pT t o.dst (eT t x)) s := by
      cases x with
      | const v =>
        cases v with
        | slice A n c => simp [ro] at hr
        | _ => simpa [opX] using h
      | _ => simpa [opX] using h
    exact ⟨_, h', fun A s1 t1 ha hF => ⟨(ha x (by simp [Op.operands])).2, fun w0 φ a w S => fin (s1 := s1) (ro_move (K := fun u _ => u = [eT t x]) (t2 := [.u]) (d := some 0) S (.inr ho) (congrArg (· :: []) (ha x (by simp [Op.operands])).1))⟩⟩
  | pick c x y =>
    rw [ho] at h
    obtain ⟨v, h1, h2⟩ := q_pick h
    refine ⟨v, h1, fun A s1 t1 ha hF => ?_⟩
    have a1 := ha c (by simp [Op.operands]); have a2 := ha x (by simp [Op.operands]); have a3 := ha y (by simp [Op.operands])
    obtain ⟨q1, q2⟩ := h2 A s1 a2.2 a3.2
    rw [← a1.1, ← a2.1, ← a3.1] at q2
    exact ⟨q1, fun w0 φ a w S => fin (s1 := s1) (ro_pick S ho q2)⟩
  | load b x =>
    rw [ho] at h
    obtain ⟨v, h1, h2⟩ := q_load h
    refine ⟨v, h1, fun A s1 t1 ha hF => ?_⟩
    have a1 := ha x (by simp [Op.operands])
    obtain ⟨q1, q2⟩ := h2 A s1 a1.2 hF
    rw [← a1.1] at q2
    exact ⟨q1, fun w0 φ a w S => fin (s1 := s1) (ro_load T S ho q2)⟩
  | fieldAddr b x f =>
    rw [ho] at h
    obtain ⟨v, h1, h2⟩ := q_fa h
    refine ⟨v, h1, fun A s1 t1 ha hF => ?_⟩
    have a1 := ha x (by simp [Op.operands])
    obtain ⟨q1, q2⟩ := h2 A s1 a1.2
    rw [← a1.1] at q2
    exact ⟨q1, fun w0 φ a w S => fin (s1 := s1) (ro_fa T S ho q2)⟩
  | indexAddr b x i =>
    rw [ho] at h
    obtain ⟨v, h1, h2⟩ := q_idx h
    refine ⟨v, h1, fun A s1 t1 ha hF => ?_⟩
    have a1 := ha x (by simp [Op.operands]); have a2 := ha i (by simp [Op.operands])
    obtain ⟨q1, q2⟩ := h2 A s1 a1.2 hF
    rw [← a1.1, ← a2.1] at q2
    exact ⟨q1, fun w0 φ a w S => fin (s1 := s1) (ro_idx T S ho q2)⟩
  | binOp op b x y c =>
    rw [ho] at h
    obtain ⟨v, h1, h2⟩ := q_bin h
    refine ⟨v, h1, fun A s1 t1 ha hF => ?_⟩
    have a1 := ha x (by simp [Op.operands]); have a2 := ha y (by simp [Op.operands])
    obtain ⟨q1, q2⟩ := h2 A s1
    rw [← a1.1, ← a2.1] at q2
    exact ⟨q1, fun w0 φ a w S => fin (s1 := s1) (ro_bin T S ho q2)⟩
  | unOp op b x =>
    rw [ho] at h
    cases op with
    | not =>
      obtain ⟨v, h1, h2⟩ := q_not h
      refine ⟨v, h1, fun A s1 t1 ha hF => ?_⟩
      have a1 := ha x (by simp [Op.operands])
      obtain ⟨q1, q2⟩ := h2 A s1
      rw [← a1.1] at q2
      exact ⟨q1, fun w0 φ a w S => fin (s1 := s1) (ro_not S ho q2)⟩
    | neg =>
      obtain ⟨v, h1, h2⟩ := q_neg h
      refine ⟨v, h1, fun A s1 t1 ha hF => ?_⟩
      have a1 := ha x (by simp [Op.operands])
      obtain ⟨q1, q2⟩ := h2 A s1
      rw [← a1.1] at q2
      exact ⟨q1, fun w0 φ a w S => fin (s1 := s1) (ro_neg S ho q2)⟩
    | _ => exact h.elim
  | extract x n =>
    rw [ho] at h
    obtain ⟨v, h1, h2⟩ := q_ext h
    refine ⟨v, h1, fun A s1 t1 ha hF => ?_⟩
    have a1 := ha x (by simp [Op.operands])
    obtain ⟨q1, q2⟩ := h2 A s1 a1.2
    rw [← a1.1] at q2
    exact ⟨q1, fun w0 φ a w S => fin (s1 := s1) (ro_ext S ho q2)⟩
  | index b x i =>
    rw [ho] at h
    obtain ⟨v, h1, h2⟩ := q_idxS h
    refine ⟨v, h1, fun A s1 t1 ha hF => ?_⟩
    have a1 := ha x (by simp [Op.operands]); have a2 := ha i (by simp [Op.operands])
    obtain ⟨q1, q2⟩ := h2 A s1
    rw [← a1.1, ← a2.1] at q2
    exact ⟨q1, fun w0 φ a w S => fin (s1 := s1) (ro_idxS T S ho q2)⟩
  | convert b c x =>
    rw [ho] at h
    obtain ⟨v, h1, h2⟩ := q_cnv h
    refine ⟨v, h1, fun A s1 t1 ha hF => ?_⟩
    have a1 := ha x (by simp [Op.operands])
    obtain ⟨q1, q2⟩ := h2 A s1 a1.2 hF
    rw [← a1.1] at q2
    exact ⟨q1, fun w0 φ a w S => fin (s1 := s1) (ro_cnv T S ho q2)⟩
  | build b ps =>
    rw [ho] at h
    obtain ⟨ps⟩ := ps
    have hm : ∀ p ∈ ps, p.2 ∈ (Op.build b ⟨ps⟩).operands.toList := fun p hp => by simp only [Op.operands, List.mem_map]; exact ⟨p, hp, rfl⟩
    cases ei : ty b with
    | none => simp only [opX, ei] at h; exact h.elim
    | some i =>
      simp only [opX, ei] at h
      obtain ⟨g1, g0, cs, g2, g3⟩ := h
      refine ⟨_, g3, fun A s1 t1 ha hF => ⟨fun j hj => by simp only [AV.fr]; exact bldC_in (fun p hp => (ha p.2 (hm p hp)).2 j hj) (frL_vs _) g2, fun w0 φ a w S => fin (s1 := s1) (op_build (K := fun u _ => u = [.ag cs]) (t2 := [.u]) (d := some 0) T S ho ?_)⟩⟩
      rw [ei]
      exact ⟨g1, g0, cs, by rw [bldC_eq fun p hp => (ha p.2 (hm p hp)).1]; exact g2, rfl⟩
  | nilCheck x =>
    rw [ho] at h
    obtain ⟨v, h1, h2⟩ := q_chk h
    refine ⟨v, h1, fun A s1 t1 ha hF => ?_⟩
    have a1 := ha x (by simp [Op.operands])
    obtain ⟨q1, q2⟩ := h2 A s1 a1.2
    rw [← a1.1] at q2
    exact ⟨q1, fun w0 φ a w S => fin (s1 := s1) (ro_chk S ho q2)⟩
  | slice b x lo hi mx =>
    cases mx with
    | some m => rw [ho] at hr; simp [ro] at hr
    | none =>
      rw [ho] at h
      obtain ⟨v, h1, h2⟩ := q_slc h
      refine ⟨v, h1, fun A s1 t1 ha hF => ?_⟩
      have a1 := ha x (by simp [Op.operands])
      obtain ⟨q1, q2⟩ := h2 A s1 a1.2 hF
      have e1 : lo.map (eT t1) = lo.map (eT t) := by
        cases lo with
        | none => rfl
        | some y => exact congrArg some (ha y (by simp [Op.operands])).1
      have e2 : hi.map (eT t1) = hi.map (eT t) := by
        cases hi with
        | none => rfl
        | some y => exact congrArg some (ha y (by simp [Op.operands])).1
      rw [← a1.1, ← e1, ← e2] at q2
      exact ⟨q1, fun w0 φ a w S => fin (s1 := s1) (ro_slc T S ho q2)⟩
  | call c =>
    rw [ho] at h
    obtain ⟨callee, ⟨args⟩, ⟨ats⟩⟩ := c
    simp only [opX] at h
    cases callee with
    | value f => rw [ho] at hr; simp [ro] at hr
    | invoke r m => simp [cW] at h
    | builtin b =>
      rw [ho] at hr
      have mm : ∀ (mi : Bool) (x y : Operand), o.op = .call ⟨.builtin (if mi = true then .min else .max), ⟨[x, y]⟩, ⟨ats⟩⟩ → mmW mi (eT t x) (eT t y) o.dst t s K → ∃ y, K (pT t o.dst y) s ∧ ∀ A s1 t1, (∀ x ∈ o.op.operands.toList, eT t1 x = eT t x ∧ AIn A (eT t x)) → Fr A s s1 → AIn A y ∧ ∀ w0 φ a w, Sim w0 t1 s1 φ a w → Ro P w0 φ a w o y := fun mi x y ho h => by
        obtain ⟨v, h1, h2⟩ := q_mm h
        refine ⟨v, h1, fun A s1 t1 ha hF => ?_⟩
        have a1 := ha x (by rw [ho]; simp [Op.operands, Call.operands]); have a2 := ha y (by rw [ho]; simp [Op.operands, Call.operands])
        obtain ⟨q1, q2⟩ := h2 A s1
        rw [← a1.1, ← a2.1] at q2
        refine ⟨q1, fun w0 φ a w S => fin (s1 := s1) ?_⟩
        exact ro_mm S ho q2
      cases b <;> first | (simp [ro] at hr; done) | skip
      · match args, ats, h, ho with
        | [x], [b], h, ho =>
          obtain ⟨v, h1, h2⟩ := q_len h.2
          refine ⟨v, h1, fun A s1 t1 ha hF => ?_⟩
          have a1 := ha x (by simp [Op.operands, Call.operands])
          obtain ⟨q1, q2⟩ := h2 A s1 a1.2 hF
          rw [← a1.1] at q2
          exact ⟨q1, fun w0 φ a w S => fin (s1 := s1) (ro_len T S ho (by rw [a1.1]; exact h.1) q2)⟩
        | [], _, h, _ => simp [cW] at h
        | [_], [], h, _ => simp [cW] at h
        | [_], _ :: _ :: _, h, _ => simp [cW] at h
        | _ :: _ :: _, _, h, _ => simp [cW] at h
      · match args, h, ho with
        | [x, y], h, ho => have := mm false x y ho h; rw [ho] at this; exact this
        | [], h, _ => simp [cW] at h
        | [_], h, _ => simp [cW] at h
        | _ :: _ :: _ :: _, h, _ => simp [cW] at h
      · match args, h, ho with
        | [x, y], h, ho => have := mm true x y ho h; rw [ho] at this; exact this
        | [], h, _ => simp [cW] at h
        | [_], h, _ => simp [cW] at h
        | _ :: _ :: _ :: _, h, _ => simp [cW] at h
  | _ => rw [ho] at hr; simp [ro] at hr
theorem fx_any (T : TyOk P ty) (hr : rot (ty o.type) o.op = true) (h : opX P ty true o.op o.type o.dst t s K) (hC : isC o.op = false) : FX P o t s K := by
  by_cases h0 : ro o.op = true
  · exact fx_ro T h0 h
  · have h0 : ro o.op = false := by simpa using h0
    cases ho : o.op with
    | assign x =>
      rw [ho] at h h0
      cases x with
      | const v =>
        cases v with
        | slice A n c =>
          obtain ⟨⟨rfl, rfl, rfl⟩, h⟩ := h
          exact fx_nil T ho h
        | _ => simp [ro] at h0
      | _ => simp [ro] at h0
    | alloc b => rw [ho] at h; exact fx_alloc T ho h
    | box b x => rw [ho] at h; exact fx_box ho h
    | makeSlice b x y => rw [ho] at h; exact fx_make T ho h
    | buildSlice b n ps => rw [ho] at h; obtain ⟨ps⟩ := ps; exact fx_lit T ho h
    | slice b x lo hi mx => rw [ho] at h0 hr; cases mx <;> first | (simp [ro] at h0; done) | (simp [rot] at hr; done)
    | call c =>
      rw [ho] at h h0 hr
      obtain ⟨callee, ⟨args⟩, ⟨ats⟩⟩ := c
      simp only [opX] at h
      cases callee with
      | value f => rw [ho] at hC; simp [isC] at hC
      | invoke r m => simp [cW] at h
      | builtin b => cases b <;> first | (simp [ro] at h0; done) | (simp [rot] at hr; done)
    | _ => rw [ho] at h0 hr; first | (simp [ro] at h0; done) | (simp [rot] at hr; done)
theorem bno {b : Bool} {p : Prop} (h1 : b = false) (h2 : b = true) : p := absurd (h1.symm.trans h2) Bool.false_ne_true
def NxW (w0 : Bs) (φ : Nat → Value) (a : Act) (w : World) (d : Option Nat) (y : AV) (r : Sto) (a' : Act) (w' : World) : Prop :=
  ∃ v ψ, a' = a.put d v ∧ Below w0.heap.size w0 w' ∧ w.heap.size ≤ w'.heap.size ∧ (∀ k, k < w.heap.size → (∀ i b, gS r i = some b → i % 16 = 15 → bk (φ i) ≠ some k) → w'.heap[k]? = w.heap[k]?) ∧ Rep w0.heap.size w0 ψ y v ∧ (∀ i, gS r i = none ∨ i % 16 = 15 → ψ i = φ i) ∧
    (∀ i b, gS r i = some b → BlkOk w0.heap.size w0 ψ w' i b ∧ (i % 16 ≠ 15 → ∀ k, bk (ψ i) = some k → w.heap.size ≤ k)) ∧ ∀ i j b c, gS r i = some b → gS r j = some c → i % 16 ≠ 15 → j % 16 ≠ 15 → i ≠ j → bk (ψ i) = none ∨ bk (ψ i) ≠ bk (ψ j)
theorem NxW_of {d : Option Nat} {y : AV} {r : Sto} {a' : Act} {w' : World} (S : Sim w0 t s φ a w) (h15 : ∀ i b, gS r i = some b → i % 16 ≠ 15) (h : NxA w0 φ a w d y r a' w') : NxW w0 φ a w d y r a' w' := by
  obtain ⟨v, ψ, h1, h2, h3, h4, h5, h6⟩ := h
  refine ⟨v, ψ, h1, S.below.trans (h2.mono S.below.size), h2.size, fun k hk _ => h2.block k hk, h3, fun i hi => ?_, fun i b hb => ⟨(h5 i b hb).1, fun _ => (h5 i b hb).2⟩, fun i j b c hb hc _ _ hne => h6 i j b c hb hc hne⟩
  rcases hi with hi | hi
  · exact h4 i hi
  · refine h4 i ?_
    cases e : gS r i with
    | none => rfl
    | some b => exact absurd hi (h15 i b e)
theorem mergeW (S : Sim w0 t s φ a w) {d : Option Nat} {y : AV} {r s' : Sto} {a' : Act} {w' : World} (h : NxW w0 φ a w d y r a' w') (hf : ∀ i b, gS r i = some b → i % 16 ≠ 15 → AV.frL i (pT t d .u) = true ∧ ∀ j c, gS s j = some c → gS r j = none ∨ j % 16 = 15 → c.fr i = true)
    (hin : ∀ i b, gS r i = some b → i % 16 = 15 → (∃ c, gS s i = some c) ∧ ∀ j, b.fr j = true) (hs : ∀ i, gS s' i = (gS r i).or (gS s i)) : ∃ ψ, Sim w0 (pT t d y) s' ψ a' w' := by
  obtain ⟨v, ψ, rfl, hb, hsz, hk, hy, hφ, hr, hap⟩ := h
  have e1 : ∀ i, gS ((r.filter fun p => p.1 % 16 == 15) ++ s) i = if i % 16 = 15 then (gS r i).or (gS s i) else gS s i := fun i => by
    rw [gS_app]
    have : gS (r.filter fun p => p.1 % 16 == 15) i = if (i % 16 == 15) = true then gS r i else none := by
      clear hs hin hf hk hr hφ hap
      induction r with
      | nil => simp [gS]
      | cons p r ih =>
        obtain ⟨j, b⟩ := p
        simp only [List.filter_cons]
        by_cases hj : (j % 16 == 15) = true
        · simp only [hj, if_true, gS]
          by_cases e : j = i
          · subst e; simp [hj]
          · simp only [if_neg e]; exact ih
        · simp only [hj, Bool.false_eq_true, if_false, gS]
          by_cases e : j = i
          · subst e; rw [ih]; simp [hj]
          · simp only [if_neg e]; exact ih
    rw [this]
    by_cases h : i % 16 = 15 <;> simp [h]
  have key : ∀ i c, gS ((r.filter fun p => p.1 % 16 == 15) ++ s) i = some c → ∃ c', gS s i = some c' := fun i c h => by
    rw [e1] at h
    split at h
    · rename_i h15
      cases e : gS r i with
      | some b => exact (hin i b e h15).1
      | none => rw [e] at h; exact ⟨c, by simpa using h⟩
    · exact ⟨c, h⟩
  have S1 : Sim w0 t ((r.filter fun p => p.1 % 16 == 15) ++ s) φ a w' := by
    refine ⟨hb, S.defs, S.tmp, fun i c h => ?_, fun i j c c' h h' hne => ?_, S.fix, fun k hk1 hG => ?_, fun i c k h hk' => ?_, Nat.le_trans S.wsz hsz⟩
    · have old : ∀ c, gS s i = some c → (∀ b, gS r i = some b → i % 16 = 15 → False) → BlkOk w0.heap.size w0 φ w' i c := fun c h hno => by
        refine BlkOk_world (S.blk i c h) fun k hk' => hk k (BlkOk_lt (S.blk i c h) hk').2 fun j b hj hj15 hj' => ?_
        have hne : i ≠ j := fun e' => by subst e'; exact hno b hj hj15
        obtain ⟨⟨c0, hc0⟩, _⟩ := hin j b hj hj15
        rcases S.apart i j c c0 h hc0 hne with q | q
        · rw [q] at hk'; cases hk'
        · exact q (hk'.trans hj'.symm)
      rw [e1] at h
      split at h
      · rename_i h15
        cases e : gS r i with
        | some b =>
          rw [e] at h
          obtain rfl : b = c := by simpa using h
          have h9 := (hr i b e).1
          have hfr := (hin i b e h15).2
          have hi := hφ i (.inr h15)
          cases b with
          | box tb cs =>
            obtain ⟨g, cc, g1, g2, g3, g4⟩ := h9
            exact ⟨g, cc, by rw [← hi]; exact g1, g2, g3, RepL_frD (D := fun _ => True) (fun j hj => absurd trivial hj) (fun j _ => by simpa [Blk.fr] using hfr j) g4⟩
          | row e' sz xs =>
            obtain ⟨g1, g2⟩ := h9
            rw [hi] at g1
            exact ⟨g1, g2⟩
        | none =>
          rw [e] at h
          exact old c (by simpa using h) fun b hb _ => by rw [e] at hb; cases hb
      · rename_i h15
        exact old c h fun b _ hb15 => h15 hb15
    · obtain ⟨d1, h1⟩ := key i c h
      obtain ⟨d2, h2⟩ := key j c' h'
      exact S.apart i j d1 d2 h1 h2 hne
    · refine (hk k (Nat.lt_of_lt_of_le hk1 S.wsz) fun i b hi h15 e => ?_).trans (S.kept k hk1 hG)
      obtain ⟨⟨c, hc⟩, _⟩ := hin i b hi h15
      exact inn_ne S hc hk1 hG e rfl
    · obtain ⟨d1, h1⟩ := key i c h
      exact S.inn i d1 k h1 hk'
  have hlt : ∀ i b k, gS ((r.filter fun p => p.1 % 16 == 15) ++ s) i = some b → bk (φ i) = some k → k < w.heap.size := fun i b k h hk' => by
    obtain ⟨d1, h1⟩ := key i b h
    exact (BlkOk_lt (S.blk i d1 h1) hk').2
  have e2 : ∀ i, gS (r.filter fun p => p.1 % 16 != 15) i = if i % 16 = 15 then none else gS r i := fun i => by
    clear hs hin hf hk hr hφ hap e1 key S1 hlt
    induction r with
    | nil => simp [gS]
    | cons p r ih =>
      obtain ⟨j, b⟩ := p
      simp only [List.filter_cons]
      by_cases hj : j % 16 = 15
      · simp only [hj, bne_self_eq_false, Bool.false_eq_true, if_false]
        rw [ih]
        by_cases e : j = i
        · subst e; simp [hj]
        · simp [gS, e]
      · have : (j % 16 != 15) = true := by simpa using hj
        simp only [this, if_true, gS]
        by_cases e : j = i
        · subst e; simp [hj]
        · simp only [if_neg e]; exact ih
  have fr2 : ∀ i b, gS (r.filter fun p => p.1 % 16 != 15) i = some b → gS r i = some b ∧ i % 16 ≠ 15 := fun i b h => by
    rw [e2] at h
    split at h
    · cases h
    · rename_i h15; exact ⟨h, h15⟩
  refine ⟨ψ, merge2 S1 hlt S.wsz (r := r.filter fun p => p.1 % 16 != 15) hy (fun i hi => ?_) (fun i b hb' => ?_) (fun i j b c hb' hc hne => ?_) (fun i b hb' => ?_) (fun i b hb' => (fr2 i b hb').2) (fun i => ?_)⟩
  · refine hφ i ?_
    rw [e2] at hi
    split at hi
    · rename_i h; exact .inr h
    · exact .inl hi
  · obtain ⟨h1, h2⟩ := fr2 i b hb'
    exact ⟨(hr i b h1).1, (hr i b h1).2 h2⟩
  · obtain ⟨h1, h2⟩ := fr2 i b hb'
    obtain ⟨h3, h4⟩ := fr2 j c hc
    exact hap i j b c h1 h3 h2 h4 hne
  · obtain ⟨h1, h2⟩ := fr2 i b hb'
    obtain ⟨h3, h4⟩ := hf i b h1 h2
    refine ⟨h3, fun j c hj hj2 => ?_⟩
    rw [e1] at hj
    split at hj
    · rename_i h15
      cases e : gS r j with
      | some b' =>
        rw [e] at hj
        obtain rfl : b' = c := by simpa using hj
        exact (hin j _ e h15).2 i
      | none => rw [e] at hj; exact h4 j c (by simpa using hj) (.inl e)
    · rename_i h15
      rw [e2, if_neg h15] at hj2
      exact h4 j c hj (.inl hj2)
  · rw [hs, e1, e2]
    by_cases h15 : i % 16 = 15
    · simp [h15]
    · simp [h15]
structure Ew (P : Program) (o : Oper) (t : List AV) (s : Sto) (y : AV) (r : Sto) : Prop where
  own : ∀ i b, gS r i = some b → (i % 16 ≠ 15 ∧ ∃ d : Nat, o.dst = some d ∧ 16 * d ≤ i ∧ i < 16 * d + 15) ∨ (i % 16 = 15 ∧ isC o.op = true ∧ ∃ c, gS s i = some c ∧ ∀ j, c.fr j = true)
  new : ∀ i b, gS r i = some b → i % 16 ≠ 15 → AV.frL i (pT t o.dst .u) = true ∧ ∀ j c, gS s j = some c → c.fr i = true
  opr : ∀ x ∈ o.op.operands.toList, ∀ i b, gS r i = some b → i % 16 ≠ 15 → AV.fr i (eT t x) = true
  cal : isC o.op = true → AIn (fun j => j % 16 ≠ 15 ∧ ∃ b, gS r j = some b) y ∧ ∀ i b, gS r i = some b → ∀ j, b.fr j = true
  pur : pureOp o.op = true → (∀ i, gS r i = none) ∧ ∀ A : Nat → Prop, (∀ x ∈ o.op.operands.toList, AIn A (eT t x)) → AIn A y
  prun : pureOp o.op = true → ∀ (s1 : Sto) (t1 : List AV), (∀ x ∈ o.op.operands.toList, eT t1 x = eT t x) → ∀ (w0 : Bs) (φ : Nat → Value) (a : Act) (w : World) (Q : Exit → Act → World → Prop), Sim w0 t1 s1 φ a w → o.wp P a w (NxW w0 φ a w o.dst y r) Q
  run : ∀ (A : Nat → Prop) (s1 : Sto) (t1 : List AV), (∀ x ∈ o.op.operands.toList, eT t1 x = eT t x ∧ AIn A (eT t x)) → Fr A s s1 → (∀ i b, gS r i = some b → i % 16 ≠ 15 → ¬ A i) → (isC o.op = true → ∀ i, i % 16 = 15 → gS s1 i = gS s i) →
    AIn (fun j => A j ∨ (j % 16 ≠ 15 ∧ ∃ b, gS r j = some b)) y ∧ (∀ i b, gS r i = some b → BIn (fun j => A j ∨ (j % 16 ≠ 15 ∧ ∃ b, gS r j = some b)) b) ∧
    ∀ (w0 : Bs) (φ : Nat → Value) (a : Act) (w : World) (Q : Exit → Act → World → Prop), Sim w0 t1 s1 φ a w → o.wp P a w (NxW w0 φ a w o.dst y r) Q
def EX (P : Program) (o : Oper) (t : List AV) (s : Sto) (K : Kt) : Prop := ∃ y r s', Ew P o t s y r ∧ (∀ i, gS s' i = (gS r i).or (gS s i)) ∧ K (pT t o.dst y) s'
theorem ex_of_fx (hc : isC o.op = false) (hp : pureOp o.op = false) (h : FX P o t s K) : EX P o t s K := by
  obtain ⟨y, r, s', F, hs, hK⟩ := h
  have h15 : ∀ i b, gS r i = some b → i % 16 ≠ 15 := fun i b hb => by obtain ⟨_, _, q1, q2⟩ := F.own i b hb; exact own15 q1 q2
  refine ⟨y, r, s', ⟨fun i b hb => .inl ⟨h15 i b hb, F.own i b hb⟩, fun i b hb _ => free_blk (F.new i b hb), fun x hx i b hb _ => F.opr x hx i b hb, fun h => bno hc h, fun h => bno hp h, fun h => bno hp h, fun A s1 t1 ha hF hA _ => ?_⟩, hs, hK⟩
  obtain ⟨h1, h2, h3⟩ := F.run A s1 t1 ha hF fun i b hb => hA i b hb (h15 i b hb)
  have up : ∀ j, (A j ∨ ∃ b, gS r j = some b) → A j ∨ (j % 16 ≠ 15 ∧ ∃ b, gS r j = some b) := fun j h => h.imp_right fun ⟨b, hb⟩ => ⟨h15 j b hb, b, hb⟩
  exact ⟨fun j hj => h1 j fun h => hj (up j h), fun i b hb j hj => h2 i b hb j fun h => hj (up j h), fun w0 φ a w Q S => Oper.wp_mono (fun a' w' hn => NxW_of S h15 hn) (h3 w0 φ a w Q S)⟩
theorem ex_pure (hp : pureOp o.op = true) {y : AV} (hK : K (pT t o.dst y) s) (hin : ∀ A : Nat → Prop, (∀ x ∈ o.op.operands.toList, AIn A (eT t x)) → AIn A y) (hr : ∀ (s1 : Sto) (t1 : List AV), (∀ x ∈ o.op.operands.toList, eT t1 x = eT t x) → ∀ (w0 : Bs) (φ : Nat → Value) (a : Act) (w : World), Sim w0 t1 s1 φ a w → Ro P w0 φ a w o y) : EX P o t s K := by
  have hc : isC o.op = false := by
    cases ho : o.op <;> rw [ho] at hp <;> first | rfl | (simp [pureOp] at hp)
  have hrun : ∀ (s1 : Sto) (t1 : List AV), (∀ x ∈ o.op.operands.toList, eT t1 x = eT t x) → ∀ (w0 : Bs) (φ : Nat → Value) (a : Act) (w : World) (Q : Exit → Act → World → Prop), Sim w0 t1 s1 φ a w → o.wp P a w (NxW w0 φ a w o.dst y []) Q := fun s1 t1 ha w0 φ a w Q S => by
    obtain ⟨v, hy, hv⟩ := hr s1 t1 ha w0 φ a w S
    refine Oper.wp_of_quiet (C := Below w.heap.size w) (K := fun a' => a' = a.put o.dst v) (Below.refl _ _) (fun a' w' hw' ha' => ?_) ⟨v, fun w1 hw1 => hv w1 hw1, rfl⟩
    subst ha'
    exact NxW_of S (fun i b hb => by simp [gS] at hb) ⟨v, φ, rfl, hw', hy, fun _ _ => rfl, fun i b hb => by simp [gS] at hb, fun i j b c hb => by simp [gS] at hb⟩
  refine ⟨y, [], s, ⟨fun i b hb => by simp [gS] at hb, fun i b hb => by simp [gS] at hb, fun x hx i b hb => by simp [gS] at hb, fun h => bno hc h, fun _ => ⟨fun i => rfl, hin⟩, fun _ => hrun, fun A s1 t1 ha hF hA _ => ⟨fun j hj => hin A (fun x hx => (ha x hx).2) j fun h => hj (.inl h), fun i b hb => by simp [gS] at hb, fun w0 φ a w Q S => hrun s1 t1 (fun x hx => (ha x hx).1) w0 φ a w Q S⟩⟩, fun i => by simp [gS], hK⟩
theorem isC_call {f : FuncId} {l : List Operand} {ats : Array TypeId} (ho : o.op = .call ⟨.value (.func f), ⟨l⟩, ats⟩) : isC o.op = true ∧ pureOp o.op = false := by rw [ho]; exact ⟨rfl, rfl⟩
theorem ex_call {f : FuncId} {l : List Operand} {ats : Array TypeId} {res : AV} (ho : o.op = .call ⟨.value (.func f), ⟨l⟩, ats⟩) (hc : Ctr P f (toPL s (mapE t l)) res) (h : bindW true res o.dst t s K) : EX P o t s K := by
  obtain ⟨hC, hP⟩ := isC_call ho
  have hl : ∀ x ∈ l, x ∈ o.op.operands.toList := fun x hx => by rw [ho]; simp [Op.operands, Call.operands, hx]
  have tr : ∀ (A : Nat → Prop) (s1 : Sto) (t1 : List AV), (∀ x ∈ o.op.operands.toList, eT t1 x = eT t x ∧ AIn A (eT t x)) → Fr A s s1 → toPL s1 (mapE t1 l) = toPL s (mapE t l) := fun A s1 t1 ha hF => by
    rw [mapE_eq fun x hx => (ha x (hl x hx)).1, toPL_fr hF (mapE_in fun x hx => (ha x (hl x hx)).2)]
  rcases bindW_inv h with ⟨x, rfl, hK⟩ | ⟨hd, hK⟩ | ⟨d, hd, hf, hlt, hok, hK⟩
  · refine ⟨.v x, [], s, ⟨fun i b hb => by simp [gS] at hb, fun i b hb => by simp [gS] at hb, fun x hx i b hb => by simp [gS] at hb, fun _ => ⟨fun _ _ => rfl, fun i b hb => by simp [gS] at hb⟩, fun h => bno hP h, fun h => bno hP h, fun A s1 t1 ha hF hA _ => ⟨fun _ _ => rfl, fun i b hb => by simp [gS] at hb, fun w0 φ a w Q S => ?_⟩⟩, fun i => by simp [gS], hK⟩
    exact Oper.wp_mono (fun a' w' hn => NxW_of S (fun i b hb => by simp [gS] at hb) hn) ((op_callA S ho (by rw [tr A s1 t1 ha hF]; exact hc)).1 x rfl)
  · refine ⟨.u, [], s, ⟨fun i b hb => by simp [gS] at hb, fun i b hb => by simp [gS] at hb, fun x hx i b hb => by simp [gS] at hb, fun _ => ⟨fun _ _ => rfl, fun i b hb => by simp [gS] at hb⟩, fun h => bno hP h, fun h => bno hP h, fun A s1 t1 ha hF hA _ => ⟨fun _ _ => rfl, fun i b hb => by simp [gS] at hb, fun w0 φ a w Q S => ?_⟩⟩, fun i => by simp [gS], by rw [hd]; exact hK⟩
    rw [hd]
    exact Oper.wp_mono (fun a' w' hn => NxW_of S (fun i b hb => by simp [gS] at hb) hn) ((op_callA S ho (by rw [tr A s1 t1 ha hF]; exact hc)).2.1 hd)
  · obtain ⟨m1, m2, m3, m4⟩ := im_st res (16 * d)
    have hfr : ∀ i b, gS (im (16 * d) res).2.1 i = some b → free i t s = true := fun i b hb => List.all_eq_true.1 hf _ (gS_mem hb)
    have h15 : ∀ i b, gS (im (16 * d) res).2.1 i = some b → i % 16 ≠ 15 := fun i b hb => by have := (m2 i b hb).1; exact own15 this.1 (by omega)
    have cal : AIn (fun j => j % 16 ≠ 15 ∧ ∃ b, gS (im (16 * d) res).2.1 j = some b) (im (16 * d) res).1 := fun j hj => m4 (hok rfl) j fun q => hj (by obtain ⟨b, hb⟩ := m3 j q.1 q.2; exact ⟨h15 j b hb, b, hb⟩)
    refine ⟨(im (16 * d) res).1, (im (16 * d) res).2.1, _, ⟨fun i b hb => .inl ⟨h15 i b hb, d, hd, (m2 i b hb).1.1, by have := (m2 i b hb).1.2; omega⟩, fun i b hb _ => free_blk (free_pT (hfr i b hb) _), fun x hx i b hb _ => fr_eT (free_blk (hfr i b hb)).1 x, fun _ => ⟨cal, fun i b hb => (m2 i b hb).2⟩, fun h => bno hP h, fun h => bno hP h, fun A s1 t1 ha hF hA _ => ⟨fun j hj => cal j fun h => hj (.inr h), fun i b hb j _ => (m2 i b hb).2 j, fun w0 φ a w Q S => ?_⟩⟩, fun i => gS_app, by rw [hd]; exact hK⟩
    rw [hd]
    exact Oper.wp_mono (fun a' w' hn => NxW_of S h15 hn) ((op_callA S ho (by rw [tr A s1 t1 ha hF]; exact hc)).2.2 d hd)
theorem noB_fr {b : Blk} (h : noB b = true) (j : Nat) : b.fr j = true := by
  cases b with
  | box tb cs => exact noL_fr j h
  | row e sz xs => rfl
theorem op_markA (S : Sim w0 t s φ a w) {f : FuncId} {l : List Operand} {ats : Array TypeId} {args : List AV} {R R' : Sto} {res : AV} (ho : o.op = .call ⟨.value (.func f), ⟨l⟩, ats⟩) (hargs : mapE t l = args) (hc : CtrB P f args R res R') (h15 : (R.all fun p => p.1 % 16 == 15 && noB p.2) = true) (hR : subS s R) :
    (∀ x, res = .v x → o.wp P a w (NxW w0 φ a w o.dst (.v x) R') Q) ∧ (o.dst = none → o.wp P a w (NxW w0 φ a w none .u R') Q) ∧ ∀ d, o.dst = some d → (im (16 * d) res).2.2 ≤ 16 * d + 15 → o.wp P a w (NxW w0 φ a w (some d) (im (16 * d) res).1 ((im (16 * d) res).2.1 ++ R')) Q := by
  subst hargs
  obtain ⟨c1, c2, c0, cn, c3⟩ := hc
  have hC := c3 w0 w φ (l.map a.eval) w0.gl S.below (mapE_ok S l) (fun i b hb => S.blk i b (subS_at hR hb)) (fun i j b c hb hc hne => S.apart i j b c (subS_at hR hb) (subS_at hR hc) hne)
  have r15 : ∀ i b, gS R' i = some b → i % 16 = 15 := fun i b hb => by
    have := gS_key c2 (i := i)
    rw [hb] at this
    obtain ⟨c, hc⟩ := Option.isSome_iff_exists.1 this.symm
    have := List.all_eq_true.1 h15 _ (gS_mem hc)
    simp only [Bool.and_eq_true, beq_iff_eq] at this
    exact this.1
  have rk : ∀ {w' : World}, (∀ k, k < w.heap.size → (∀ i b, gS R i = some b → bk (φ i) ≠ some k) → w'.heap[k]? = w.heap[k]?) → ∀ (r : Sto), (∀ i b, gS R' i = some b → ∃ c, gS r i = some c) → ∀ k, k < w.heap.size → (∀ i b, gS r i = some b → i % 16 = 15 → bk (φ i) ≠ some k) → w'.heap[k]? = w.heap[k]? := fun hk r hr k hk1 hk2 => hk k hk1 fun i b hb => by
    have := gS_key c2 (i := i)
    rw [hb] at this
    obtain ⟨c, hc⟩ := Option.isSome_iff_exists.1 this
    obtain ⟨c', hc'⟩ := hr i c hc
    exact hk2 i c' hc' (r15 i c hc)
  have key : ∀ K' : Act → World → Prop, (∀ y L w2, RepR w.heap.size w2 res y L → L.Nodup → Below w0.heap.size w0 w2 → w.heap.size ≤ w2.heap.size → (∀ i b, gS R' i = some b → BlkOk w0.heap.size w0 φ w2 i b) → (∀ k, k < w.heap.size → (∀ i b, gS R i = some b → bk (φ i) ≠ some k) → w2.heap[k]? = w.heap[k]?) → K' (a.put o.dst y) w2) → o.wp P a w K' Q := fun K' hK => by
    unfold Oper.wp
    rw [run_call c1 ho]
    refine hC.mono ?_
    rintro e w2 ⟨y, L, rfl, h1, hL, h2, h3, h4, h5⟩
    exact hK y L w2 h1 hL h2 h3 h4 h5
  refine ⟨fun x hx => key _ fun y L w2 h1 hL h2 h3 h4 h5 => ?_, fun hd => key _ fun y L w2 h1 hL h2 h3 h4 h5 => ?_, fun d hd hle => key _ fun y L w2 h1 hL h2 h3 h4 h5 => ?_⟩
  · subst hx
    simp only [RepR] at h1
    exact ⟨y, φ, rfl, h2, h3, rk h5 R' (fun i b hb => ⟨b, hb⟩), by simp only [Rep]; exact h1.1, fun _ _ => rfl, fun i b hb => ⟨h4 i b hb, fun h => absurd (r15 i b hb) h⟩, fun i j b c hb _ h => absurd (r15 i b hb) h⟩
  · rw [hd]
    exact ⟨y, φ, rfl, h2, h3, rk h5 R' (fun i b hb => ⟨b, hb⟩), by simp only [Rep], fun _ _ => rfl, fun i b hb => ⟨h4 i b hb, fun h => absurd (r15 i b hb) h⟩, fun i j b c hb _ h => absurd (r15 i b hb) h⟩
  · rw [hd]
    obtain ⟨ψ, I⟩ := im_ok S.below.size (w0 := w0) res (16 * d) h1 hL
    obtain ⟨a1, a2, a3⟩ := I.ok (fun i => if 16 * d ≤ i ∧ i < (im (16 * d) res).2.2 then ψ i else φ i) (fun i h3 h4 => if_pos ⟨h3, h4⟩)
    have m2 := (im_st res (16 * d)).2.1
    have i15 : ∀ i b, gS (im (16 * d) res).2.1 i = some b → i % 16 ≠ 15 := fun i b hb => by have := (m2 i b hb).1; exact own15 this.1 (by omega)
    have cls : ∀ i b, gS ((im (16 * d) res).2.1 ++ R') i = some b → (gS (im (16 * d) res).2.1 i = some b ∧ i % 16 ≠ 15) ∨ (gS R' i = some b ∧ i % 16 = 15) := fun i b hb => by
      rw [gS_app] at hb
      cases e : gS (im (16 * d) res).2.1 i with
      | some b' => rw [e] at hb; obtain rfl : b' = b := by simpa using hb
                   exact .inl ⟨rfl, i15 i _ e⟩
      | none => rw [e] at hb; have hb : gS R' i = some b := by simpa using hb
                exact .inr ⟨hb, r15 i b hb⟩
    have hφ : ∀ i, (gS ((im (16 * d) res).2.1 ++ R') i = none ∨ i % 16 = 15) → (if 16 * d ≤ i ∧ i < (im (16 * d) res).2.2 then ψ i else φ i) = φ i := fun i hi => if_neg fun q => by
      have hs := I.all i q.1 q.2
      obtain ⟨b, hb⟩ := Option.isSome_iff_exists.1 hs
      rcases hi with hi | hi
      · rw [gS_app, hb] at hi; cases hi
      · exact i15 i b hb hi
    refine ⟨y, _, rfl, h2, h3, rk h5 _ (fun i b hb => ?_), a1, hφ, fun i b hb => ?_, fun i j b c hb hc hi hj hne => ?_⟩
    · rw [gS_app]
      cases e : gS (im (16 * d) res).2.1 i with
      | some b' => exact ⟨b', rfl⟩
      | none => exact ⟨b, by simpa using hb⟩
    · rcases cls i b hb with ⟨q, q2⟩ | ⟨q, q2⟩
      · exact ⟨(a2 i b q).1, fun _ k hk => ((a2 i b q).2 k hk).2⟩
      · refine ⟨?_, fun h => absurd q2 h⟩
        have hi := hφ i (.inr q2)
        have h9 := h4 i b q
        have hnb := List.all_eq_true.1 cn _ (gS_mem q)
        cases b with
        | box tb cs =>
          obtain ⟨g, cc, g1, g2, g3, g4⟩ := h9
          exact ⟨g, cc, hi.trans g1, g2, g3, RepL_frD (D := fun _ => True) (fun j hj => absurd trivial hj) (fun j _ => noL_fr j (by simpa [noB] using hnb)) g4⟩
        | row e' sz xs =>
          obtain ⟨g1, g2⟩ := h9
          refine ⟨?_, g2⟩
          show w2.ownsRow _ _ _ (if _ then _ else _) _ _
          rw [hi]; exact g1
    · rcases cls i b hb with ⟨q, _⟩ | ⟨_, q2⟩
      · rcases cls j c hc with ⟨q', _⟩ | ⟨_, q2⟩
        · exact a3 i j b c q q' hne
        · exact absurd q2 hj
      · exact absurd q2 hi
theorem ex_mark {f : FuncId} {l : List Operand} {ats : Array TypeId} {R R' : Sto} {res : AV} (ho : o.op = .call ⟨.value (.func f), ⟨l⟩, ats⟩) (hc : CtrB P f (mapE t l) R res R') (h15 : (R.all fun p => p.1 % 16 == 15 && noB p.2) = true) (hR : subS s R) (h : bindW true res o.dst t (uSL s R') K) : EX P o t s K := by
  obtain ⟨hC, hP⟩ := isC_call ho
  have hl : ∀ x ∈ l, x ∈ o.op.operands.toList := fun x hx => by rw [ho]; simp [Op.operands, Call.operands, hx]
  have c2 := hc.2.1
  have c0 := hc.2.2.1
  have cn := hc.2.2.2.1
  have at' : ∀ i, gS (uSL s R') i = (gS R' i).or (gS s i) := uSL_at R' s c0
  have r15 : ∀ i b, gS R' i = some b → i % 16 = 15 ∧ (∃ c, gS s i = some c ∧ ∀ j, c.fr j = true) ∧ noB b = true := fun i b hb => by
    have := gS_key c2 (i := i)
    rw [hb] at this
    obtain ⟨c, hc⟩ := Option.isSome_iff_exists.1 this.symm
    have := List.all_eq_true.1 h15 _ (gS_mem hc)
    simp only [Bool.and_eq_true, beq_iff_eq] at this
    exact ⟨this.1, ⟨c, subS_at hR hc, noB_fr this.2⟩, List.all_eq_true.1 cn _ (gS_mem hb)⟩
  have subs : ∀ (s1 : Sto) (R : Sto), (R.all fun p => p.1 % 16 == 15 && noB p.2) = true → (∀ i, i % 16 = 15 → gS s1 i = gS s i) → subS s R → subS s1 R := fun s1 R h15 he => by
    induction R with
    | nil => exact fun _ => trivial
    | cons p R ih =>
      obtain ⟨i, b⟩ := p
      simp only [List.all_cons, Bool.and_eq_true, beq_iff_eq] at h15
      rintro ⟨h1, h2⟩
      exact ⟨by rw [he i h15.1.1]; exact h1, ih h15.2 h2⟩
  have ag : ∀ (A : Nat → Prop) (t1 : List AV), (∀ x ∈ o.op.operands.toList, eT t1 x = eT t x ∧ AIn A (eT t x)) → mapE t1 l = mapE t l := fun A t1 ha => mapE_eq fun x hx => (ha x (hl x hx)).1
  rcases bindW_inv h with ⟨x, rfl, hK⟩ | ⟨hd, hK⟩ | ⟨d, hd, hf, hlt, hok, hK⟩
  · refine ⟨.v x, R', _, ⟨fun i b hb => .inr ⟨(r15 i b hb).1, hC, (r15 i b hb).2.1⟩, fun i b hb h => absurd (r15 i b hb).1 h, fun x hx i b hb h => absurd (r15 i b hb).1 h, fun _ => ⟨fun _ _ => rfl, fun i b hb => noB_fr (r15 i b hb).2.2⟩, fun h => bno hP h, fun h => bno hP h, fun A s1 t1 ha hF hA hres => ⟨fun _ _ => rfl, fun i b hb j _ => noB_fr (r15 i b hb).2.2 j, fun w0 φ a w Q S => ?_⟩⟩, at', hK⟩
    exact (op_markA S ho (ag A t1 ha) hc h15 (subs s1 R h15 (hres hC) hR)).1 x rfl
  · refine ⟨.u, R', _, ⟨fun i b hb => .inr ⟨(r15 i b hb).1, hC, (r15 i b hb).2.1⟩, fun i b hb h => absurd (r15 i b hb).1 h, fun x hx i b hb h => absurd (r15 i b hb).1 h, fun _ => ⟨fun _ _ => rfl, fun i b hb => noB_fr (r15 i b hb).2.2⟩, fun h => bno hP h, fun h => bno hP h, fun A s1 t1 ha hF hA hres => ⟨fun _ _ => rfl, fun i b hb j _ => noB_fr (r15 i b hb).2.2 j, fun w0 φ a w Q S => ?_⟩⟩, at', by rw [hd]; exact hK⟩
    rw [hd]
    exact (op_markA S ho (ag A t1 ha) hc h15 (subs s1 R h15 (hres hC) hR)).2.1 hd
  · obtain ⟨m1, m2, m3, m4⟩ := im_st res (16 * d)
    have i15 : ∀ i b, gS (im (16 * d) res).2.1 i = some b → i % 16 ≠ 15 := fun i b hb => by have := (m2 i b hb).1; exact own15 this.1 (by omega)
    have cls : ∀ i b, gS ((im (16 * d) res).2.1 ++ R') i = some b → (gS (im (16 * d) res).2.1 i = some b ∧ i % 16 ≠ 15) ∨ (gS R' i = some b ∧ i % 16 = 15) := fun i b hb => by
      rw [gS_app] at hb
      cases e : gS (im (16 * d) res).2.1 i with
      | some b' => rw [e] at hb; obtain rfl : b' = b := by simpa using hb
                   exact .inl ⟨rfl, i15 i _ e⟩
      | none => rw [e] at hb; have hb : gS R' i = some b := by simpa using hb
                exact .inr ⟨hb, (r15 i b hb).1⟩
    have hfr : ∀ i b, gS (im (16 * d) res).2.1 i = some b → free i t (uSL s R') = true := fun i b hb => List.all_eq_true.1 hf _ (gS_mem hb)
    have new : ∀ i b, gS (im (16 * d) res).2.1 i = some b → AV.frL i (pT t o.dst .u) = true ∧ ∀ j c, gS s j = some c → c.fr i = true := fun i b hb => by
      have h1 := free_blk (free_pT (hfr i b hb) o.dst)
      refine ⟨h1.1, fun j c hj => ?_⟩
      cases e : gS R' j with
      | none => exact h1.2 j c (by rw [at', e]; simpa using hj)
      | some b' =>
        have := gS_key c2 (i := j)
        rw [e] at this
        obtain ⟨c0', hc0⟩ := Option.isSome_iff_exists.1 this.symm
        have h2 := subS_at hR hc0
        rw [hj] at h2
        obtain rfl := Option.some.inj h2
        have h3 := List.all_eq_true.1 h15 _ (gS_mem hc0)
        simp only [Bool.and_eq_true] at h3
        exact noB_fr h3.2 i
    have cal : AIn (fun j => j % 16 ≠ 15 ∧ ∃ b, gS ((im (16 * d) res).2.1 ++ R') j = some b) (im (16 * d) res).1 := fun j hj => m4 (hok rfl) j fun q => hj (by obtain ⟨b, hb⟩ := m3 j q.1 q.2; exact ⟨i15 j b hb, b, by rw [gS_app, hb]; rfl⟩)
    have bfr : ∀ i b, gS ((im (16 * d) res).2.1 ++ R') i = some b → ∀ j, b.fr j = true := fun i b hb => by
      rcases cls i b hb with ⟨q, _⟩ | ⟨q, _⟩
      · exact (m2 i b q).2
      · exact noB_fr (r15 i b q).2.2
    refine ⟨(im (16 * d) res).1, (im (16 * d) res).2.1 ++ R', _, ⟨fun i b hb => ?_, fun i b hb h => ?_, fun x hx i b hb h => ?_, fun _ => ⟨cal, bfr⟩, fun h => bno hP h, fun h => bno hP h, fun A s1 t1 ha hF hA hres => ⟨fun j hj => cal j fun h => hj (.inr h), fun i b hb j _ => bfr i b hb j, fun w0 φ a w Q S => ?_⟩⟩, fun i => ?_, by rw [hd]; exact hK⟩
    · rcases cls i b hb with ⟨q, q2⟩ | ⟨q, q2⟩
      · exact .inl ⟨q2, d, hd, (m2 i b q).1.1, by have := (m2 i b q).1.2; omega⟩
      · exact .inr ⟨q2, hC, (r15 i b q).2.1⟩
    · rcases cls i b hb with ⟨q, _⟩ | ⟨_, q2⟩
      · exact new i b q
      · exact absurd q2 h
    · rcases cls i b hb with ⟨q, _⟩ | ⟨_, q2⟩
      · exact fr_eT (free_blk (hfr i b q)).1 x
      · exact absurd q2 h
    · rw [hd]
      exact (op_markA S ho (ag A t1 ha) hc h15 (subs s1 R h15 (hres hC) hR)).2.2 d hd hlt
    · rw [gS_app, gS_app, at']
      cases gS (im (16 * d) res).2.1 i <;> simp
theorem ex_any (T : TyOk P ty) (hr : rot (ty o.type) o.op = true) (h : opX P ty true o.op o.type o.dst t s K) : EX P o t s K := by
  by_cases hp : pureOp o.op = true
  · cases ho : o.op with
    | move x =>
      rw [ho] at h
      have hm : x ∈ o.op.operands.toList := by rw [ho]; simp [Op.operands]
      exact ex_pure hp h (fun A ha => ha x hm) fun s1 t1 ha w0 φ a w S => fin (s1 := s1) (ro_move (K := fun u _ => u = [eT t x]) (t2 := [.u]) (d := some 0) S (.inl ho) (congrArg (· :: []) (ha x hm)))
    | extract x n =>
      rw [ho] at h
      have hm : x ∈ o.op.operands.toList := by rw [ho]; simp [Op.operands]
      obtain ⟨v, h1, h2⟩ := q_ext h
      refine ex_pure hp h1 (fun A ha => (h2 A [] (ha x hm)).1) fun s1 t1 ha w0 φ a w S => ?_
      have q2 := (h2 (fun _ => True) s1 (fun j hj => absurd trivial hj)).2
      rw [← ha x hm] at q2
      exact fin (s1 := s1) (ro_ext S ho q2)
    | _ => rw [ho] at hp; simp [pureOp] at hp
  · have hp : pureOp o.op = false := by simpa using hp
    by_cases hC : isC o.op = true
    · cases ho : o.op with
      | call c =>
        rw [ho] at h hC
        obtain ⟨callee, ⟨args⟩, ⟨ats⟩⟩ := c
        simp only [opX] at h
        cases callee with
        | value f =>
          cases f with
          | func f =>
            simp only [cW] at h
            rcases h with ⟨res, hc, hb⟩ | ⟨h, _⟩ | ⟨R, res, R', h1, h2, h3, h4⟩
            · exact ex_call ho hc hb
            · cases h
            · rcases h2 with h2 | h2
              · cases h2
              · exact ex_mark ho h1 h2 h3 h4
          | _ => simp [cW] at h
        | _ => simp [isC] at hC
      | _ => rw [ho] at hC; simp [isC] at hC
    · exact ex_of_fx (by simpa using hC) hp (fx_any T hr h (by simpa using hC))
end
end Go.Proofs.YtdjdleldocfpaaaDoor.F
end
