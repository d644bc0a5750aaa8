/- Packed by a program of the session (wip/tools/pack.py): what the claim's theorem reaches, of the texts that wip/ and the kit's printer lay. -/
import Derived.Test.YtpeehicekddjhaaPkFnSigns9
section
namespace Go.Proofs.Ytpeehicekddjhaa.F
open Go.RowKit Go.Proofs.YtpeehicekddjhaaW.PrintWords Go.Proofs.YtpeehicekddjhaaW.PrintLast Go.Proofs.YtpeehicekddjhaaW.PrintMore
set_option linter.unusedVariables false
set_option linter.unusedSimpArgs false
theorem bfs_small {nx : Int → Int → Int} {N : Nat} {a : Int} (S : Steps nx N) : ∀ (f i : Nat) (D Q : List Int), BfsAt nx N a i D Q → Small (D, Q) → ∀ x, rd (bfs nx f i (D, Q)) x < N
  | 0, i, D, Q, B, V, x => by
    have := B.cnt
    have := V x
    simp only [bfs] at *
    omega
  | f + 1, i, D, Q, B, V, x => by
    simp only [bfs]
    by_cases hi : i < Q.length
    · rw [if_pos hi]
      have M : Mid nx N a i (rd Q i) (D, Q) := ⟨B, V, hi, rfl⟩
      have M4 := mid1 S (mid1 S (mid1 S (mid1 S M 0) 1) 2) 3
      have e : bfsD nx (rd Q i) [0, 1, 2, 3] (D, Q) = bfs1 nx (rd Q i) 3 (bfs1 nx (rd Q i) 2 (bfs1 nx (rd Q i) 1 (bfs1 nx (rd Q i) 0 (D, Q)))) := by rw [bfsD_cons, bfsD_cons, bfsD_cons, bfsD_cons]; rfl
      have V4 := M4.small
      rw [← e] at V4
      generalize hs : bfsD nx (rd Q i) [0, 1, 2, 3] (D, Q) = s at V4
      obtain ⟨D', Q'⟩ := s
      exact bfs_small S f (i + 1) D' Q' (bfs_next S B hi hs) V4 x
    · rw [if_neg hi]
      have := B.cnt
      have := V x
      simp only at *
      omega
theorem dst_lt {w h o a b : Int} (ha : icell w h a = true) : dst w h o a b < 16 := by
  have ca := icell_iff.1 ha
  have hc := cells_bd w h
  have hN : ((stN w h : Nat) : Int) = cells w h := by unfold stN; omega
  have := bfs_small (steps_st w h o) (stN w h + 1) 0 _ _ (bfs_init ca.1 (by omega)) (small_init ca.1 (by omega)) b
  have e : dst w h o a b = rd (bfs (st w h o) (stN w h + 1) 0 ((List.replicate (stN w h) (-1)).set a.toNat 0, [a])) b := rfl
  omega
theorem dst_near {w h o g c d : Int} (hg : icell w h g = true) (hd : 0 ≤ st w h o c d) (H : 0 ≤ dst w h o g c) : 0 ≤ dst w h o g (st w h o c d) ∧ dst w h o g c ≤ dst w h o g (st w h o c d) + 1 := by
  have cg := icell_iff.1 hg
  obtain ⟨_, f2, f3, _, _⟩ := st_facts hd
  have cc := icell_iff.1 f2
  have cs := icell_iff.1 f3
  have hN : ((stN w h : Nat) : Int) = cells w h := by have := cells_bd w h; unfold stN; omega
  obtain ⟨_, _, p⟩ := dists_spec (steps_st w h o) (a := g) cg.1 (by omega)
  unfold dst at H ⊢
  rcases p c cc.1 (by omega) with ⟨e, _⟩ | ⟨g1, w1, m1⟩
  · omega
  · rcases p (st w h o c d) cs.1 (by omega) with ⟨e, n2⟩ | ⟨g2, w2, m2⟩
    · exact absurd (Walk.snoc w1 hd) (n2 _)
    · obtain ⟨q, hq⟩ := (sym_st w h o).back c d hd
      have := Walk.snoc (d := q) w2 (by rw [hq]; exact cc.1)
      rw [hq] at this
      have := m1 _ this
      exact ⟨g2, by omega⟩
theorem dst_zero {w h o g c : Int} (hg : icell w h g = true) (hc : icell w h c = true) : dst w h o g c = 0 ↔ c = g := by
  have cg := icell_iff.1 hg
  have cc := icell_iff.1 hc
  have hN : ((stN w h : Nat) : Int) = cells w h := by have := cells_bd w h; unfold stN; omega
  obtain ⟨_, p0, p⟩ := dists_spec (steps_st w h o) (a := g) cg.1 (by omega)
  constructor
  · intro H
    unfold dst at H
    rcases p c cc.1 (by omega) with ⟨e, _⟩ | ⟨g1, w1, m1⟩
    · omega
    · rw [H] at w1
      cases w1
      rfl
  · rintro rfl; exact p0
theorem dst_down {w h o g c : Int} {n : Nat} (hg : icell w h g = true) (hc : icell w h c = true) (H : dst w h o g c = (n : Int) + 1) : ∃ d, 0 ≤ d ∧ d ≤ 3 ∧ 0 ≤ st w h o c d ∧ dst w h o g (st w h o c d) < dst w h o g c := by
  have cg := icell_iff.1 hg
  have cc := icell_iff.1 hc
  have hN : ((stN w h : Nat) : Int) = cells w h := by have := cells_bd w h; unfold stN; omega
  obtain ⟨_, _, p⟩ := dists_spec (steps_st w h o) (a := g) cg.1 (by omega)
  have H0 := H
  unfold dst at H
  rcases p c cc.1 (by omega) with ⟨e, _⟩ | ⟨g1, w1, m1⟩
  · omega
  · rw [H, show ((n : Int) + 1).toNat = n + 1 by omega] at w1
    cases w1 with
    | @snoc _ b e hw he =>
      obtain ⟨q, hq⟩ := (sym_st w h o).back b e he
      obtain ⟨_, f2, _, _, _⟩ := st_facts he
      have cb := icell_iff.1 f2
      have hs : 0 ≤ st w h o (st w h o b e) q := by rw [hq]; exact cb.1
      obtain ⟨_, _, _, d0, d3⟩ := st_facts hs
      refine ⟨q, d0, d3, hs, ?_⟩
      rw [hq, H0]
      rcases p b cb.1 (by omega) with ⟨e2, n2⟩ | ⟨g2, w2, m2⟩
      · exact absurd hw (n2 _)
      · have := m2 _ hw
        unfold dst
        omega
def near (w h o g c d : Int) : Bool := decide (0 ≤ st w h o c d) && decide (dst w h o g (st w h o c d) < dst w h o g c)
def fdir (w h o g c : Int) : Int := (([0, 1, 2, 3] : List Int).find? (near w h o g c)).getD 0
def wayM (w h o g : Int) : Nat → Int → List Int
  | 0, _ => []
  | n + 1, c => fdir w h o g c :: wayM w h o g n (st w h o c (fdir w h o g c))
theorem fdir_some {w h o g c : Int} {n : Nat} (hg : icell w h g = true) (hc : icell w h c = true) (H : dst w h o g c = (n : Int) + 1) :
    ([0, 1, 2, 3] : List Int).find? (near w h o g c) = some (fdir w h o g c) ∧ 0 ≤ st w h o c (fdir w h o g c) ∧ dst w h o g (st w h o c (fdir w h o g c)) = n := by
  obtain ⟨d, d0, d3, hd, hlt⟩ := dst_down hg hc H
  have hn : near w h o g c d = true := by unfold near; rw [decide_eq_true hd, decide_eq_true hlt]; rfl
  cases hf : ([0, 1, 2, 3] : List Int).find? (near w h o g c) with
  | none =>
    have := List.find?_eq_none.1 hf d (by have : d = 0 ∨ d = 1 ∨ d = 2 ∨ d = 3 := by omega
                                          rcases this with rfl | rfl | rfl | rfl <;> simp)
    exact absurd hn this
  | some e =>
    have he : fdir w h o g c = e := by unfold fdir; rw [hf]; rfl
    have hp := List.find?_some hf
    rw [he]
    unfold near at hp
    rw [Bool.and_eq_true, decide_eq_true_eq, decide_eq_true_eq] at hp
    obtain ⟨q1, q2⟩ := dst_near hg hp.1 (by omega)
    exact ⟨rfl, hp.1, by omega⟩
theorem wayM_length (w h o g : Int) : ∀ n c, (wayM w h o g n c).length = n
  | 0, c => rfl
  | n + 1, c => by simp [wayM, wayM_length w h o g n]
theorem drop_rd {l : List Int} {i : Nat} (hi : i < l.length) : l.drop i = rd l (i : Int) :: l.drop (i + 1) := by
  rw [List.drop_eq_getElem_cons hi]
  congr 1
  rw [rd_nat, List.getD_eq_getElem?_getD, List.getElem?_eq_getElem hi]
  rfl
theorem impl_way1 {w h o g c : Int} (hg : icell w h g = true) (hc : icell w h c = true) {W : List Int} (hW : W.length ≤ 4) (hd : ∀ d ∈ W, 0 ≤ st w h o c d) {acc : List Int} (ha : acc.length ≤ 1000) {k : Nat} (hk : 3 ≤ k) {d0 : Int} {r : List Int × Bool}
    (hr : impl_WayBetween.l0 k g (dists (st w h o) (stN w h) g) (acc ++ [d0]) (st w h o c d0) w h o = some r) : ∀ (m j : Nat), j + m = W.length → (W.drop j).find? (near w h o g c) = some d0 →
    impl_WayBetween.l1 (k + m) g (dists (st w h o) (stN w h) g) acc c W (W.length : Int) (j : Int) w h o = some r
  | 0, j, hj, hf => by rw [List.drop_of_length_le (by omega)] at hf; exact absurd hf (by simp)
  | m + 1, j, hj, hf => by
    have hjl : j < W.length := by omega
    have hmem : rd W (j : Int) ∈ W := rd_memI (by omega) (by omega)
    have h0 := hd _ hmem
    obtain ⟨_, _, f3, _, _⟩ := st_facts h0
    have cs := icell_iff.1 f3
    have cc := icell_iff.1 hc
    rw [drop_rd hjl] at hf
    rw [show k + (m + 1) = (k + m) + 1 by omega]
    simp only [impl_WayBetween.l1]
    rw [if_pos (by omega), if_pos (by omega), if_pos (by omega), impl_Step_eq (by omega), Option.bind_some, if_pos h0, if_pos (by rw [dists_length hg]; exact cs.2), if_pos cc.1, if_pos (by rw [dists_length hg]; exact cc.2)]
    show (if dst w h o g (st w h o c (rd W (j : Int))) < dst w h o g c then _ else _) = _
    by_cases hlt : dst w h o g (st w h o c (rd W (j : Int))) < dst w h o g c
    · have hn : near w h o g c (rd W (j : Int)) = true := by unfold near; rw [decide_eq_true h0, decide_eq_true hlt]; rfl
      rw [List.find?_cons_of_pos hn] at hf
      obtain rfl := Option.some.inj hf
      rw [if_pos hlt, if_pos (by omega)]
      exact at_rounds (g := fun k => impl_WayBetween.l0 k g (dists (st w h o) (stN w h) g) (acc ++ [rd W (j : Int)]) (st w h o c (rd W (j : Int))) w h o) (fun k => (impl_WayBetween.mono_l k).1 _ _ _ _ _ _ _) (k := k) (by omega) hr
    · have hn : ¬ near w h o g c (rd W (j : Int)) = true := by unfold near; rw [decide_eq_false hlt]; simp
      rw [List.find?_cons_of_neg hn] at hf
      rw [if_neg hlt, w64 (x := (j : Int) + 1) (by omega) (by omega)]
      have := impl_way1 hg hc hW hd ha hk hr m (j + 1) (by omega) hf
      rwa [Int.natCast_add] at this
theorem impl_way {w h o g : Int} (hg : icell w h g = true) : ∀ (n k : Nat) (acc : List Int) (c : Int), icell w h c = true → dst w h o g c = n → acc.length + n ≤ 1000 → 6 * n + 20 ≤ k → impl_WayBetween.l0 k g (dists (st w h o) (stN w h) g) acc c w h o = some (acc ++ wayM w h o g n c, true)
  | 0, k, acc, c, hc, hn, ha, hk => by
    obtain ⟨m, rfl⟩ : ∃ m, k = m + 1 := ⟨k - 1, by omega⟩
    simp only [impl_WayBetween.l0, wayM, List.append_nil]
    rw [if_pos ((dst_zero hg hc).1 hn)]
  | n + 1, k, acc, c, hc, hn, ha, hk => by
    obtain ⟨m, rfl⟩ : ∃ m, k = m + 1 := ⟨k - 1, by omega⟩
    have hne : ¬ c = g := fun e => by have := (dst_zero (o := o) hg hc).2 e; omega
    obtain ⟨e1, e2, e3⟩ := fdir_some (o := o) (n := n) hg hc (by omega)
    obtain ⟨_, _, f3, _, _⟩ := st_facts e2
    have ih := impl_way hg n (m - 4) (acc ++ [fdir w h o g c]) (st w h o c (fdir w h o g c)) f3 e3 (by simp only [List.length_append, List.length_singleton]; omega) (by omega)
    simp only [impl_WayBetween.l0]
    rw [if_neg hne, impl_WaysFrom_eq (by omega), Option.bind_some]
    have hw := ways_length w h o c
    have hf : ((ways w h o c).drop 0).find? (near w h o g c) = some (fdir w h o g c) := by
      rw [List.drop_zero, ← e1]
      unfold ways
      rw [List.find?_filter]
      congr 1
      funext d
      unfold near
      cases decide (0 ≤ st w h o c d) <;> simp
    have := impl_way1 hg hc hw (fun d hd => ways_mem hd) (by omega : acc.length ≤ 1000) (by omega : 3 ≤ m - 4) ih (ways w h o c).length 0 (by omega) hf
    have r := at_rounds (g := fun k => impl_WayBetween.l1 k g (dists (st w h o) (stN w h) g) acc c (ways w h o c) ((ways w h o c).length : Int) (0 : Int) w h o) (fun k => (impl_WayBetween.mono_l k).2 _ _ _ _ _ _ _ _ _ _) (k := m - 4 + (ways w h o c).length) (k' := m) (by omega) this
    rw [show wayM w h o g (n + 1) c = fdir w h o g c :: wayM w h o g n (st w h o c (fdir w h o g c)) from rfl]
    rw [List.append_assoc] at r
    exact r
theorem spec_way1 {w h o g c : Int} (hg : icell w h g = true) (hc : icell w h c = true) (hd1 : 1 ≤ dst w h o g c) {acc : List Int} (ha : acc.length ≤ 1000) {k : Nat} (hk : 3 ≤ k) {d0 : Int} {r : List Int × Bool}
    (hr : spec_WayBetween.l0 k (st w h o c d0) g (acc ++ [d0]) (dists (st w h o) (stN w h) g) w h o = some r) : ∀ (m j : Nat), j + m = 4 → (([0, 1, 2, 3] : List Int).drop j).find? (near w h o g c) = some d0 →
    spec_WayBetween.l1 (k + m) c g acc (dists (st w h o) (stN w h) g) (j : Int) w h o = some r
  | 0, j, hj, hf => by
    obtain rfl : j = 4 := by omega
    exact absurd hf (by simp)
  | m + 1, j, hj, hf => by
    have hjl : j < ([0, 1, 2, 3] : List Int).length := by show j < 4; omega
    have hrd : rd ([0, 1, 2, 3] : List Int) (j : Int) = (j : Int) := (by decide : ∀ j : Nat, j < 4 → rd ([0, 1, 2, 3] : List Int) (j : Int) = (j : Int)) j (by omega)
    have cc := icell_iff.1 hc
    rw [drop_rd hjl, hrd] at hf
    have hlt16 := dst_lt (o := o) (b := c) hg
    have next : ¬ near w h o g c (j : Int) = true → spec_WayBetween.l1 (k + m) c g acc (dists (st w h o) (stN w h) g) ((j : Int) + 1) w h o = some r := fun hn => by
      rw [List.find?_cons_of_neg hn] at hf
      have := spec_way1 hg hc hd1 ha hk hr m (j + 1) (by omega) hf
      rwa [Int.natCast_add] at this
    rw [show k + (m + 1) = (k + m) + 1 by omega]
    simp only [spec_WayBetween.l1]
    rw [if_pos (by omega), spec_Step_eq (by omega), Option.bind_some, w64 (x := (j : Int) + 1) (by omega) (by omega)]
    by_cases h0 : 0 ≤ st w h o c (j : Int)
    · obtain ⟨_, _, f3, _, _⟩ := st_facts h0
      have cs := icell_iff.1 f3
      obtain ⟨q1, q2⟩ := dst_near hg h0 (by omega)
      rw [if_pos h0, if_pos h0, if_pos (by rw [dists_length hg]; exact cs.2), if_pos cc.1, if_pos (by rw [dists_length hg]; exact cc.2)]
      show (if dst w h o g (st w h o c (j : Int)) = wrap64 (dst w h o g c - 1) then _ else _) = _
      rw [w64 (x := dst w h o g c - 1) (by omega) (by omega)]
      by_cases hlt : dst w h o g (st w h o c (j : Int)) < dst w h o g c
      · have hn : near w h o g c (j : Int) = true := by unfold near; rw [decide_eq_true h0, decide_eq_true hlt]; rfl
        rw [List.find?_cons_of_pos hn] at hf
        obtain rfl := Option.some.inj hf
        rw [if_pos (by omega), if_pos (by omega)]
        exact at_rounds (g := fun k => spec_WayBetween.l0 k (st w h o c (j : Int)) g (acc ++ [(j : Int)]) (dists (st w h o) (stN w h) g) w h o) (fun k => (spec_WayBetween.mono_l k).2.1 _ _ _ _ _ _ _) (k := k) (by omega) hr
      · rw [if_neg (by omega)]
        exact next (by unfold near; rw [decide_eq_false hlt]; simp)
    · rw [if_neg h0]
      exact next (by unfold near; rw [decide_eq_false h0]; simp)
theorem spec_way {w h o g : Int} (hg : icell w h g = true) : ∀ (n k : Nat) (acc : List Int) (c : Int), icell w h c = true → dst w h o g c = n → acc.length + n ≤ 1000 → 6 * n + 20 ≤ k → spec_WayBetween.l0 k c g acc (dists (st w h o) (stN w h) g) w h o = some (acc ++ wayM w h o g n c, true)
  | 0, k, acc, c, hc, hn, ha, hk => by
    obtain ⟨m, rfl⟩ : ∃ m, k = m + 1 := ⟨k - 1, by omega⟩
    simp only [spec_WayBetween.l0, wayM, List.append_nil]
    rw [if_pos ((dst_zero hg hc).1 hn)]
  | n + 1, k, acc, c, hc, hn, ha, hk => by
    obtain ⟨m, rfl⟩ : ∃ m, k = m + 4 + 1 := ⟨k - 5, by omega⟩
    have hne : ¬ c = g := fun e => by have := (dst_zero (o := o) hg hc).2 e; omega
    obtain ⟨e1, e2, e3⟩ := fdir_some (o := o) (n := n) hg hc (by omega)
    obtain ⟨_, _, f3, _, _⟩ := st_facts e2
    have ih := spec_way hg n m (acc ++ [fdir w h o g c]) (st w h o c (fdir w h o g c)) f3 e3 (by simp only [List.length_append, List.length_singleton]; omega) (by omega)
    simp only [spec_WayBetween.l0]
    rw [if_neg hne]
    have r := spec_way1 hg hc (by omega) (by omega : acc.length ≤ 1000) (by omega : 3 ≤ m) ih 4 0 (by omega) (by rw [List.drop_zero]; exact e1)
    rw [show wayM w h o g (n + 1) c = fdir w h o g c :: wayM w h o g n (st w h o c (fdir w h o g c)) from rfl]
    rw [List.append_assoc] at r
    exact r
def wayOf (w h o a b : Int) : List Int × Bool := if mok w h o = true ∧ icell w h a = true ∧ icell w h b = true ∧ 0 ≤ dst w h o b a then (wayM w h o b (dst w h o b a).toNat a, true) else ([], false)
theorem impl_WayBetween_eq {w h o : Int} {k : Nat} (hk : 300 ≤ k) (a b : Int) : impl_WayBetween.f k w h o a b = some (wayOf w h o a b) := by
  unfold impl_WayBetween.f wayOf
  rw [impl_DistanceOf_eq (by omega), Option.bind_some]
  by_cases H : mok w h o = true ∧ icell w h a = true ∧ icell w h b = true
  · obtain ⟨h1, h2, h3⟩ := H
    rw [if_pos (show mok w h o = true ∧ icell w h a = true ∧ icell w h b = true from ⟨h1, h2, h3⟩), dst_sym h2 h3]
    by_cases h4 : 0 ≤ dst w h o b a
    · rw [if_neg (by omega), if_pos ⟨h1, h2, h3, h4⟩, impl_distances_eq (by omega) h3, Option.bind_some]
      have hlt := dst_lt (o := o) (b := a) h3
      have := impl_way (o := o) h3 (dst w h o b a).toNat k [] a h2 (by omega) (by simp; omega) (by omega)
      simpa using this
    · rw [if_pos (by omega), if_neg (fun q => h4 q.2.2.2)]
  · rw [if_neg H, if_pos (by decide), if_neg (fun q => H ⟨q.1, q.2.1, q.2.2.1⟩)]
theorem spec_WayBetween_eq {w h o : Int} {k : Nat} (hk : 300 ≤ k) (a b : Int) : spec_WayBetween.f k w h o a b = some (wayOf w h o a b) := by
  obtain ⟨m, rfl⟩ : ∃ m, k = m + 1 := ⟨k - 1, by omega⟩
  unfold spec_WayBetween.f wayOf
  rw [spec_l04Has_eq, spec_l04Has_eq]
  simp only [Option.bind_some, spec_WayBetween.j0]
  cases h1 : mok w h o with
  | false => simp
  | true =>
    cases h2 : icell w h a with
    | false => simp
    | true =>
      cases h3 : icell w h b with
      | false => simp
      | true =>
        simp only [Bool.and_self, if_true, Bool.not_true, Bool.false_eq_true, if_false]
        have ca := icell_iff.1 h2
        rw [spec_l04Distances_eq (by omega) h3, Option.bind_some, if_pos ca.1, if_pos (by rw [dists_length h3]; exact ca.2)]
        show (if dst w h o b a < 0 then _ else _) = _
        by_cases h4 : 0 ≤ dst w h o b a
        · rw [if_neg (by omega), if_pos ⟨trivial, trivial, trivial, h4⟩]
          have hlt := dst_lt (o := o) (b := a) h3
          have := spec_way (o := o) h3 (dst w h o b a).toNat m [] a h2 (by omega) (by simp; omega) (by omega)
          simpa using this
        · rw [if_pos (by omega), if_neg (fun q => h4 q.2.2.2)]
def sgStep (w h o g : Int) (acc : List SSign) (i : Nat) : List SSign := if 0 < (wayOf w h o i g).1.length then acc ++ [⟨(i : Int), rd (wayOf w h o i g).1 0⟩] else acc
def sgTo (w h o g : Int) : List SSign := if (mok w h o && icell w h g) = true then (List.range' 0 (stN w h)).foldl (sgStep w h o g) [] else []
theorem sgStep_len (w h o g : Int) (acc : List SSign) (i : Nat) (ha : acc.length ≤ i) : (sgStep w h o g acc i).length ≤ i + 1 := by
  unfold sgStep
  split
  · simp only [List.length_append, List.length_singleton]; omega
  · omega
theorem stN_cells (w h : Int) : ((stN w h : Nat) : Int) = cells w h ∧ stN w h ≤ 16 := by have := cells_bd w h; unfold stN; omega
theorem sgTo_len (w h o g : Int) : (sgTo w h o g).length ≤ 16 := by
  unfold sgTo
  have hN := (stN_cells w h).2
  split
  · have : ∀ (d i : Nat) (s : List SSign), s.length ≤ i → ((List.range' i d).foldl (sgStep w h o g) s).length ≤ i + d := by
      intro d
      induction d with
      | zero => intro i s hs; simpa using hs
      | succ d ih => intro i s hs; rw [List.range'_succ, List.foldl_cons]; have := ih (i + 1) _ (sgStep_len w h o g s i hs); omega
    have := this (stN w h) 0 [] (Nat.le_refl _)
    omega
  · simp
theorem impl_SignsTo_eq {w h o : Int} {k : Nat} (hk : 400 ≤ k) (g : Int) : impl_SignsTo.f k w h o g = some (sgTo w h o g) := by
  obtain ⟨hN, hN2⟩ := stN_cells w h
  unfold impl_SignsTo.f sgTo
  rw [impl_isIn_eq]
  simp only [Option.bind_some, List.all_cons, List.all_nil, Bool.and_true]
  split
  · exact fold_loop (n := stN w h) (c := 300) (F := fun k (acc : List SSign) i => impl_SignsTo.l0 k g acc i w h o) (step := sgStep w h o g) (fin := fun acc : List SSign => acc) (I := fun acc i => acc.length ≤ i)
      (fun k acc i hk hi ha => by
        simp only [impl_SignsTo.l0]
        rw [impl_CountCells_eq, Option.bind_some, if_pos (by omega), impl_WayBetween_eq hk, Option.bind_some, w64_succ hi (by omega)]
        unfold sgStep
        by_cases h0 : 0 < (wayOf w h o i g).1.length
        · rw [if_pos (by omega), if_pos (by omega), if_pos (by omega), if_pos h0]
        · rw [if_neg (by omega), if_neg h0])
      (fun acc i _ ha => sgStep_len w h o g acc i ha)
      (fun k acc _ _ => by
        simp only [impl_SignsTo.l0]
        rw [impl_CountCells_eq, Option.bind_some, if_neg (by omega)]) (stN w h) 0 k [] (by omega) (by omega) (Nat.le_refl _)
  · rfl
end Go.Proofs.Ytpeehicekddjhaa.F
end

section
namespace Go.Proofs.Ytpeehicekddjhaa.F
open Go.RowKit Go.Proofs.YtpeehicekddjhaaW.PrintWords Go.Proofs.YtpeehicekddjhaaW.PrintLast Go.Proofs.YtpeehicekddjhaaW.PrintMore
set_option linter.unusedVariables false
set_option linter.unusedSimpArgs false
theorem pick_draw {l L : List Int} {i s : Int} (hi : 0 ≤ i) (hl : l.length ≤ 1048576) (h0 : 0 < L.length) (h1 : L.length ≤ 256) : ∃ v i' s', spec_l01PickInt.f l i s L = some (v, i', s') ∧ v ∈ L ∧ 0 ≤ i' := by
  obtain ⟨b, i1, h1, e, b0, b1, j⟩ := below_draw (h := s) hi hl (n := (L.length : Int)) (by omega) (by omega)
  unfold spec_l01PickInt.f
  rw [e, Option.bind_some, if_pos b0, if_pos b1]
  exact ⟨_, _, _, rfl, rd_memI b0 b1, j⟩
theorem grid_draw {l : List Int} {i s : Int} (hi : 0 ≤ i) (hl : l.length ≤ 1048576) : ∃ w h i' s', spec_l02Grid.f l i s = some (w, h, i', s') ∧ gok w h = true ∧ 0 ≤ i' := by
  obtain ⟨w, i1, s1, e1, m1, j1⟩ := pick_draw (L := [1, 2, 3, 3, 4]) (s := s) hi hl (by decide) (by decide)
  obtain ⟨h, i2, s2, e2, m2, j2⟩ := pick_draw (L := [1, 2, 3, 3, 4]) (s := s1) j1 hl (by decide) (by decide)
  unfold spec_l02Grid.f
  rw [e1]
  simp only [Option.bind_some]
  rw [e2]
  simp only [Option.bind_some]
  refine ⟨_, _, _, _, rfl, gok_iff.2 ?_, j2⟩
  simp only [List.mem_cons, List.not_mem_nil, or_false] at m1 m2
  omega
theorem spec_SetGap_in {k : Nat} (hk : 1 ≤ k) {w h o g : Int} (M : mok w h o = true) (hg : igap w h g = true) (b : Bool) : spec_SetGap.f k w h o g b = some (w, h, setb o g b, true) := by
  obtain ⟨m, rfl⟩ : ∃ m, k = m + 1 := ⟨k - 1, by omega⟩
  have ms := mok_small M
  have gs := gaps_small hg
  unfold spec_SetGap.f
  rw [spec_MazeOk_eq, Option.bind_some, if_pos M, spec_CountGaps_eq, Option.bind_some, spec_l01In_eq, Option.bind_some, in_gaps, hg]
  simp only [spec_SetGap.j0]
  rw [if_neg (by decide), spec_l03Bit_eq ms.1 (by omega) gs.1, Option.bind_some, xor_shl_eq ms.1 (by omega) gs.1 (by omega)]
  by_cases c : opn o g = b
  · rw [if_neg (by simp [c])]
    have : setb o g b = o := by
      refine eq_of_opn ?_ ms.1 fun i hi => ?_
      · unfold setb; split <;> exact Int.natCast_nonneg _
      · rw [opn_setb b gs.1 hi]
        split
        · rename_i e; rw [e, c]
        · rfl
    rw [this]
  · rw [if_pos (by simpa using c), if_pos gs.1]
    have hb : b = !opn o g := by cases b <;> cases e : opn o g <;> simp_all
    rw [hb, setb_flip ms.1 gs.1]
end Go.Proofs.Ytpeehicekddjhaa.F
end

section
namespace Go.Proofs.Ytpeehicekddjhaa.F
open Go.RowKit Go.Proofs.YtpeehicekddjhaaW.PrintWords Go.Proofs.YtpeehicekddjhaaW.PrintLast Go.Proofs.YtpeehicekddjhaaW.PrintMore
set_option linter.unusedVariables false
set_option linter.unusedSimpArgs false
def sgP (w h o g : Int) (i : Nat) : Bool := decide (0 < (wayOf w h o (i : Int) g).1.length)
def sgF (w h o g : Int) (i : Nat) : SSign := ⟨(i : Int), rd (wayOf w h o (i : Int) g).1 0⟩
theorem sg_fold (w h o g : Int) : ∀ (l : List Nat) (acc : List SSign), l.foldl (sgStep w h o g) acc = acc ++ (l.filter (sgP w h o g)).map (sgF w h o g)
  | [], acc => by simp
  | i :: l, acc => by
    rw [List.foldl_cons, sg_fold w h o g l, List.filter_cons]
    unfold sgStep sgP
    by_cases c : 0 < (wayOf w h o (i : Int) g).1.length
    · rw [if_pos c, if_pos (decide_eq_true c), List.map_cons, List.append_assoc]; rfl
    · rw [if_neg c, if_neg (by simp only [decide_eq_true_eq]; exact c)]
theorem sgTo_eq {w h o g : Int} (M : mok w h o = true) (hg : icell w h g = true) : sgTo w h o g = ((List.range' 0 (stN w h)).filter (sgP w h o g)).map (sgF w h o g) := by
  unfold sgTo
  rw [if_pos (by simp [M, hg]), sg_fold]
  rfl
theorem way_len {w h o g : Int} (M : mok w h o = true) (hg : icell w h g = true) {i : Int} (hi : icell w h i = true) : ((wayOf w h o i g).1.length : Int) = max 0 (dst w h o g i) := by
  unfold wayOf
  by_cases c : 0 ≤ dst w h o g i
  · rw [if_pos ⟨M, hi, hg, c⟩]
    simp only [wayM_length]
    omega
  · rw [if_neg (fun q => c q.2.2.2)]
    simp
    omega
theorem way_head {w h o g : Int} (M : mok w h o = true) (hg : icell w h g = true) {i : Int} (hi : icell w h i = true) (hd : 1 ≤ dst w h o g i) : rd (wayOf w h o i g).1 0 = fdir w h o g i := by
  unfold wayOf
  rw [if_pos ⟨M, hi, hg, by omega⟩]
  obtain ⟨n, hn⟩ : ∃ n : Nat, (dst w h o g i).toNat = n + 1 := ⟨(dst w h o g i).toNat - 1, by omega⟩
  simp only [hn, wayM]
  rfl
theorem sgP_iff {w h o g : Int} (M : mok w h o = true) (hg : icell w h g = true) {i : Nat} (hi : icell w h (i : Int) = true) : sgP w h o g i = true ↔ 1 ≤ dst w h o g (i : Int) := by
  unfold sgP
  have := way_len M hg hi
  rw [decide_eq_true_eq]
  omega
theorem range_cell {w h : Int} {i : Nat} (hi : i ∈ List.range' 0 (stN w h)) : icell w h (i : Int) = true := by
  have hi := List.mem_range'_1.1 hi
  have hN := stN_int w h
  exact icell_iff.2 (by omega)
theorem sg_count {w h o g : Int} (M : mok w h o = true) (hg : icell w h g = true) : (reach w h o g).length = (sgTo w h o g).length + 1 := by
  have cg := icell_iff.1 hg
  have hN := stN_int w h
  rw [sgTo_eq M hg, List.length_map, ← List.countP_eq_length_filter]
  unfold reach ints
  rw [List.filter_map, List.length_map, ← List.countP_eq_length_filter, List.range_eq_range']
  have hq : ∀ i ∈ List.range' 0 (stN w h), (((fun c => !decide (dst w h o g c < 0)) ∘ fun j : Nat => (j : Int)) i = true ↔ (fun i : Nat => sgP w h o g i || decide (i = g.toNat)) i = true) := fun i hi => by
    have ci := range_cell hi
    have hi := List.mem_range'_1.1 hi
    have h1 := sgP_iff M hg ci
    have h2 := dst_zero (o := o) hg ci
    simp only [Function.comp, Bool.not_eq_true', decide_eq_false_iff_not, Bool.or_eq_true, decide_eq_true_eq]
    rw [h1]
    constructor
    · intro q
      by_cases z : dst w h o g (i : Int) = 0
      · right; have := h2.1 z; omega
      · left; omega
    · rintro (q | q)
      · omega
      · have : (i : Int) = g := by omega
        have := h2.2 this
        omega
  rw [List.countP_congr hq]
  refine countP_one (x := g.toNat) ?_ (by simp) (fun y hy => ?_) List.nodup_range' (List.mem_range'_1.2 (by omega))
  · have hz : icell w h ((g.toNat : Nat) : Int) = true := by rw [show ((g.toNat : Nat) : Int) = g by omega]; exact hg
    have h1 := sgP_iff M hg hz
    have h2 := (dst_zero (o := o) hg hz).2 (by omega)
    cases e : sgP w h o g g.toNat with
    | false => rfl
    | true => have := h1.1 e; omega
  · simp [hy]
theorem mem_sgTo {w h o g : Int} (M : mok w h o = true) (hg : icell w h g = true) {s : SSign} (hs : s ∈ sgTo w h o g) : icell w h s.f0 = true ∧ 1 ≤ dst w h o g s.f0 ∧ s.f1 = fdir w h o g s.f0 := by
  rw [sgTo_eq M hg] at hs
  obtain ⟨i, hi, rfl⟩ := List.mem_map.1 hs
  obtain ⟨hi, hp⟩ := List.mem_filter.1 hi
  have ci := range_cell hi
  have hd := (sgP_iff M hg ci).1 hp
  exact ⟨ci, hd, way_head M hg ci hd⟩
theorem fdir_st {w h o g c : Int} (hg : icell w h g = true) (hc : icell w h c = true) (hd : 1 ≤ dst w h o g c) : 0 ≤ st w h o c (fdir w h o g c) ∧ dst w h o g (st w h o c (fdir w h o g c)) = dst w h o g c - 1 := by
  obtain ⟨_, a, b⟩ := fdir_some (o := o) (n := (dst w h o g c - 1).toNat) hg hc (by omega)
  exact ⟨a, by omega⟩
theorem sgTo_sgs {w h o g : Int} (M : mok w h o = true) (hg : icell w h g = true) : sgs w h o (sgTo w h o g) = true := by
  unfold sgs
  rw [List.all_eq_true]
  intro s hs
  obtain ⟨a, b, c⟩ := mem_sgTo M hg hs
  rw [c]
  exact decide_eq_true (fdir_st hg a b).1
theorem sgTo_true {w h o g : Int} (M : mok w h o = true) (hg : icell w h g = true) {s : SSign} (hs : s ∈ sgTo w h o g) : isT w h o s.f0 s.f1 g = true := by
  obtain ⟨a, b, c⟩ := mem_sgTo M hg hs
  obtain ⟨d, e⟩ := fdir_st hg a b
  unfold isT
  rw [c]
  refine decide_eq_true ⟨d, hg, fun q => ?_, by omega⟩
  have := (dst_zero (o := o) hg a).2 q.symm
  omega
theorem lies_zero {w h o g : Int} : ∀ {l : List SSign}, (∀ s ∈ l, isT w h o s.f0 s.f1 g = true) → ∀ n, l.foldl (lieStep w h o g) n = n
  | [], _, n => rfl
  | s :: l, hl, n => by
    rw [List.foldl_cons, lies_zero (fun x hx => hl x (by simp [hx]))]
    unfold lieStep
    rw [if_pos (hl s (by simp))]
theorem lies_le (w h o g : Int) : ∀ (l : List SSign) (n : Int), n ≤ l.foldl (lieStep w h o g) n ∧ l.foldl (lieStep w h o g) n ≤ n + l.length
  | [], n => by simp
  | s :: l, n => by
    rw [List.foldl_cons]
    have := lies_le w h o g l (lieStep w h o g n s)
    have h1 : n ≤ lieStep w h o g n s ∧ lieStep w h o g n s ≤ n + 1 := by unfold lieStep; split <;> omega
    rw [List.length_cons]
    omega
theorem sdir_sgTo {w h o g c : Int} (M : mok w h o = true) (hg : icell w h g = true) (hc : icell w h c = true) : sdir (sgTo w h o g) c = if 1 ≤ dst w h o g c then fdir w h o g c else -1 := by
  have cc := icell_iff.1 hc
  have hN := stN_int w h
  unfold sdir
  cases e : (sgTo w h o g).find? (fun s => decide (s.f0 = c)) with
  | none =>
    rw [if_neg]
    intro hd
    have hm : sgF w h o g c.toNat ∈ sgTo w h o g := by
      rw [sgTo_eq M hg]
      have hcn : icell w h ((c.toNat : Nat) : Int) = true := by rw [show ((c.toNat : Nat) : Int) = c by omega]; exact hc
      refine List.mem_map.2 ⟨c.toNat, List.mem_filter.2 ⟨List.mem_range'_1.2 (by omega), (sgP_iff M hg hcn).2 ?_⟩, rfl⟩
      rw [show ((c.toNat : Nat) : Int) = c by omega]; exact hd
    have := List.find?_eq_none.1 e _ hm
    exact this (decide_eq_true (show ((c.toNat : Nat) : Int) = c by omega))
  | some s =>
    have h1 := List.find?_some e
    simp only [decide_eq_true_eq] at h1
    obtain ⟨a, b, d⟩ := mem_sgTo M hg (List.mem_of_find?_eq_some e)
    rw [h1] at b d
    rw [if_pos b]
    exact d
theorem fdir_rng {w h o g c : Int} (hg : icell w h g = true) (hc : icell w h c = true) (hd : 1 ≤ dst w h o g c) : 0 ≤ fdir w h o g c := (st_facts (fdir_st hg hc hd).1).2.2.2.1
theorem fol_right {w h o g : Int} (M : mok w h o = true) (hg : icell w h g = true) : ∀ (n k : Nat) (out : List Int) (c : Int), icell w h c = true → dst w h o g c = n → n + 1 ≤ k → (∀ x ∈ out, (n : Int) < dst w h o g x) →
    ∃ r, fol w h o (sgTo w h o g) k out c = some r ∧ r.length = out.length + n + 1 ∧ rd r ((out.length + n : Nat) : Int) = g
  | 0, k, out, c, hc, hd, hk, ho => by
    obtain ⟨m, rfl⟩ : ∃ m, k = m + 1 := ⟨k - 1, by omega⟩
    have hcg := (dst_zero (o := o) hg hc).1 (by rw [hd]; rfl)
    refine ⟨out ++ [c], ?_, by simp, ?_⟩
    · rw [fol, if_pos]
      rw [sdir_sgTo M hg hc, if_neg (by omega)]; decide
    · rw [Nat.add_zero, rd_app_last, hcg]
  | n + 1, k, out, c, hc, hd, hk, ho => by
    obtain ⟨m, rfl⟩ : ∃ m, k = m + 1 := ⟨k - 1, by omega⟩
    have h1 : 1 ≤ dst w h o g c := by omega
    obtain ⟨f1, f2⟩ := fdir_st hg hc h1
    obtain ⟨r, e, hr, hl⟩ := fol_right M hg n m (out ++ [c]) (st w h o c (fdir w h o g c)) (st_facts f1).2.2.1 (by omega) (by omega) (fun x hx => by
      rcases List.mem_append.1 hx with hx | hx
      · have := ho x hx; omega
      · simp at hx; subst hx; omega)
    refine ⟨r, ?_, by rw [hr]; simp; omega, ?_⟩
    · rw [fol, sdir_sgTo M hg hc, if_pos h1, if_neg (by have := fdir_rng hg hc h1; omega), if_neg, e]
      intro q
      have := ho c (List.contains_iff_mem.1 q)
      omega
    · rw [← hl]; congr 1; simp; omega
theorem folOf_right {w h o g c : Int} (M : mok w h o = true) (hg : icell w h g = true) (hc : icell w h c = true) (hd : 0 ≤ dst w h o g c) : ((folOf w h o (sgTo w h o g) c).length : Int) = dst w h o g c + 1 ∧ rd (folOf w h o (sgTo w h o g) c) (dst w h o g c) = g := by
  have lt := dst_lt (o := o) (b := c) hg
  obtain ⟨r, e, hr, hl⟩ := fol_right M hg (dst w h o g c).toNat 18 [] c hc (by omega) (by omega) (fun x hx => by simp at hx)
  unfold folOf
  rw [if_pos (by simp [M, hc, sgTo_sgs M hg]), e]
  simp only [Option.getD_some]
  simp only [List.length_nil, Nat.zero_add] at hr hl
  refine ⟨by rw [hr]; omega, ?_⟩
  have e2 : dst w h o g c = (((dst w h o g c).toNat : Nat) : Int) := by omega
  rw [e2]
  exact hl
theorem laws_has_eq {l : List Int} {k : Nat} (hl : l.length ≤ 1000000000) (hk : l.length + 1 ≤ k) (c : Int) : laws_has.f k l c = some (l.contains c) := by
  unfold laws_has.f
  have key : ∀ (d i k : Nat), i + d = l.length → d + 1 ≤ k → laws_has.l0 k l c (i : Int) = some ((l.drop i).contains c) := by
    intro d
    induction d with
    | zero =>
      intro i k hi hk
      obtain ⟨m, rfl⟩ : ∃ m, k = m + 1 := ⟨k - 1, by omega⟩
      simp only [laws_has.l0]
      rw [if_neg (by omega), List.drop_of_length_le (by omega)]
      rfl
    | succ d ih =>
      intro i k hi hk
      obtain ⟨m, rfl⟩ : ∃ m, k = m + 1 := ⟨k - 1, by omega⟩
      have hil : i < l.length := by omega
      have e : rd l (i : Int) = l[i] := by rw [rd_nat, List.getD_eq_getElem?_getD, List.getElem?_eq_getElem hil]; rfl
      simp only [laws_has.l0]
      rw [if_pos (by omega), if_pos (by omega), e, w64_succ hil (by omega), List.drop_eq_getElem_cons hil, List.contains_cons]
      by_cases q : l[i] = c
      · rw [if_pos q]
        simp [q]
      · rw [if_neg q]
        have := ih (i + 1) m (by omega) (by omega)
        rw [Int.natCast_add] at this
        refine this.trans ?_
        have : (c == l[i]) = false := beq_eq_false_iff_ne.2 (fun e => q e.symm)
        rw [this, Bool.false_or]
  have := key l.length 0 k (by omega) (by omega)
  simpa using this
theorem spec_WaysFrom_eq {k : Nat} (hk : 8 ≤ k) (w h o c : Int) : spec_WaysFrom.f k w h o c = some (ways w h o c) := by
  unfold spec_WaysFrom.f
  have := fold_loop (n := 4) (c := 3) (F := fun k (acc : List Int) i => spec_WaysFrom.l0 k c acc i w h o) (step := fun acc i => if 0 ≤ st w h o c (i : Int) then acc ++ [(i : Int)] else acc) (fin := fun acc : List Int => acc) (I := fun acc i => acc.length ≤ i)
    (fun k acc i hk hi ha => by
      simp only [spec_WaysFrom.l0]
      rw [if_pos (by omega), spec_Step_eq (by omega), Option.bind_some, w64 (x := (i : Int) + 1) (by omega) (by omega)]
      by_cases hd : 0 ≤ st w h o c (i : Int)
      · rw [if_pos hd, if_pos hd, if_pos (by omega)]
      · rw [if_neg hd, if_neg hd])
    (fun acc i _ ha => by
      show (if _ then _ else _ : List Int).length ≤ i + 1
      split
      · simp only [List.length_append, List.length_singleton]; omega
      · omega)
    (fun k acc _ _ => by
      simp only [spec_WaysFrom.l0]
      rw [if_neg (by decide)]) 4 0 k [] (by decide) (by omega) (Nat.le_refl _)
  refine this.trans ?_
  congr 1
  unfold ways
  simp only [List.range'_succ, List.range'_zero, List.foldl_cons, List.foldl_nil, List.filter_cons, List.filter_nil, Nat.zero_add, Int.natCast_add, decide_eq_true_eq]
  show (if 0 ≤ st w h o c (3 : Int) then _ else _) = _
  by_cases h0 : 0 ≤ st w h o c 0 <;> by_cases h1 : 0 ≤ st w h o c 1 <;> by_cases h2 : 0 ≤ st w h o c 2 <;> by_cases h3 : 0 ≤ st w h o c 3 <;> simp [h0, h1, h2, h3]
theorem maze12_l0 {w h n : Int} {l : List Int} (hl : l.length ≤ 1048576) (hn : n = gaps w h) : ∀ (t k : Nat) (o i s : Int), 2 * t + 3 ≤ k → t ≤ 100 → mok w h o = true → 0 ≤ i → ∃ o' i' s', spec_l12Maze.l0 k n (t : Int) l i s w h o = some (w, h, o', i', s') ∧ mok w h o' = true ∧ 0 ≤ i'
  | 0, k, o, i, s, hk, _, M, hi => by
    obtain ⟨m, rfl⟩ : ∃ m, k = m + 2 := ⟨k - 2, by omega⟩
    refine ⟨o, i, s, ?_, M, hi⟩
    simp only [spec_l12Maze.l0, spec_l12Maze.j1]
    rw [if_neg (by omega), if_neg (by decide)]
  | t + 1, k, o, i, s, hk, ht, M, hi => by
    obtain ⟨m, rfl⟩ : ∃ m, k = m + 2 := ⟨k - 2, by omega⟩
    have gb := gaps_bd w h
    simp only [spec_l12Maze.l0, spec_l12Maze.j1]
    rw [if_pos (by omega)]
    by_cases c : n > 0
    · obtain ⟨b, i1, s1, e1, b0, b1, j1⟩ := below_draw (h := s) hi hl (n := n) (by omega) (by omega)
      have ig : igap w h b = true := igap_iff.2 (by omega)
      rw [if_pos (decide_eq_true c), e1, Option.bind_some]
      simp only
      rw [spec_SetGap_in (by omega) M ig, Option.bind_some]
      simp only
      obtain ⟨o', i', s', e, M', j'⟩ := maze12_l0 hl hn t m (setb o b false) i1 s1 (by omega) (by omega) (mok_setb false M ig) j1
      refine ⟨o', i', s', ?_, M', j'⟩
      rw [← e]
      congr 1
      rw [w64 (by omega) (by omega)]; omega
    · refine ⟨o, i, s, ?_, M, hi⟩
      rw [if_neg (by simpa using c)]
theorem maze12_draw {k : Nat} {l : List Int} {i s : Int} (hi : 0 ≤ i) (hl : l.length ≤ 1048576) (hk : 100 ≤ k) : ∃ w h o i' s', spec_l12Maze.f k l i s = some (w, h, o, i', s') ∧ mok w h o = true ∧ 0 ≤ i' := by
  obtain ⟨w, h, i1, s1, e1, G, j1⟩ := grid_draw (s := s) hi hl
  have gb := gaps_bd w h
  have gp := gpow w h
  obtain ⟨b, i2, s2, e2, b0, b1, j2⟩ := below_draw (h := s1) j1 hl (n := 5) (by decide) (by decide)
  have M : mok w h (2 ^ (gaps w h).toNat - 1) = true := mok_iff.2 ⟨G, by omega, by omega⟩
  obtain ⟨o', i', s', e, M', j'⟩ := maze12_l0 (w := w) (h := h) hl rfl b.toNat k _ i2 s2 (by omega) (by omega) M j2
  refine ⟨w, h, o', i', s', ?_, M', j'⟩
  unfold spec_l12Maze.f
  rw [e1, Option.bind_some]
  simp only
  have ef : spec_FullMaze.f w h = some (w, h, 2 ^ (gaps w h).toNat - 1) := by
    unfold spec_FullMaze.f
    rw [spec_GridOk_eq, Option.bind_some, if_pos G, spec_CountGaps_eq, Option.bind_some, if_pos gb.1, shl_gaps, w64 (by omega) (by omega)]
  rw [ef, Option.bind_some]
  simp only
  rw [spec_CountGaps_eq, Option.bind_some, e2, Option.bind_some]
  simp only
  rw [show b = ((b.toNat : Nat) : Int) by omega]
  exact e
theorem signs_l0 {w h o g : Int} {l : List Int} (hl : l.length ≤ 1048576) (M : mok w h o = true) : ∀ (d i k : Nat) (acc : List SSign) (p s : Int), (i : Int) + d = cells w h → 2 * d + 310 ≤ k → 0 ≤ p → acc.length ≤ i → sgs w h o acc = true →
    ∃ r p' s', spec_l32List.l0 k g acc (i : Int) l p s w h o = some (r, p', s') ∧ sgs w h o r = true ∧ r.length ≤ i + d
  | 0, i, k, acc, p, s, hi, hk, hp, ha, hs => by
    obtain ⟨m, rfl⟩ : ∃ m, k = m + 1 := ⟨k - 1, by omega⟩
    refine ⟨acc, p, s, ?_, hs, by omega⟩
    simp only [spec_l32List.l0]
    rw [spec_CountCells_eq, Option.bind_some, if_neg (by omega)]
  | d + 1, i, k, acc, p, s, hi, hk, hp, ha, hs => by
    obtain ⟨m, rfl⟩ : ∃ m, k = m + 2 := ⟨k - 2, by omega⟩
    have cb := cells_bd w h
    have hw : wrap64 ((i : Int) + 1) = ((i + 1 : Nat) : Int) := by rw [w64 (by omega) (by omega)]; omega
    have more : ∀ {x : SSign} {p2 s2 : Int}, 0 ≤ p2 → 0 ≤ st w h o x.f0 x.f1 → ∃ r p' s', spec_l32List.l0 m g (acc ++ [x]) ((i + 1 : Nat) : Int) l p2 s2 w h o = some (r, p', s') ∧ sgs w h o r = true ∧ r.length ≤ i + (d + 1) := fun {x p2 s2} hp2 hx => by
      obtain ⟨r, p', s', e, a, b⟩ := signs_l0 (g := g) hl M d (i + 1) m (acc ++ [x]) p2 s2 (by omega) (by omega) hp2 (by simp; omega) (by unfold sgs at hs ⊢; rw [List.all_append, hs]; simpa using hx)
      exact ⟨r, p', s', e, a, by omega⟩
    have same : ∀ {p2 s2 : Int}, 0 ≤ p2 → ∃ r p' s', spec_l32List.l0 m g acc ((i + 1 : Nat) : Int) l p2 s2 w h o = some (r, p', s') ∧ sgs w h o r = true ∧ r.length ≤ i + (d + 1) := fun {p2 s2} hp2 => by
      obtain ⟨r, p', s', e, a, b⟩ := signs_l0 (g := g) hl M d (i + 1) m acc p2 s2 (by omega) (by omega) hp2 (by omega) hs
      exact ⟨r, p', s', e, a, by omega⟩
    simp only [spec_l32List.l0]
    rw [spec_CountCells_eq, Option.bind_some, if_pos (by omega), spec_WaysFrom_eq (by omega), Option.bind_some]
    generalize hW : ways w h o (i : Int) = W
    have hWm : ∀ x ∈ W, 0 ≤ st w h o (i : Int) x := fun x hx => by rw [← hW] at hx; exact ways_mem hx
    have hWl : W.length ≤ 4 := by rw [← hW]; exact ways_length _ _ _ _
    by_cases c0 : (W.length : Int) = 0
    · rw [if_pos c0]
      simp only [spec_l32List.j1]
      rw [if_pos trivial, hw]
      exact same hp
    · rw [if_neg c0]
      obtain ⟨b, i1, s1, e1, b0, b1, j1⟩ := below_draw (l := l) (h := s) hp hl (n := 2) (by decide) (by decide)
      have e1' : spec_l01Once.f l p s 2 = some (b == 0, i1, s1) := by unfold spec_l01Once.f; rw [e1, Option.bind_some]
      rw [e1', Option.bind_some]
      simp only [spec_l32List.j1]
      by_cases c1 : (b == 0) = true
      · rw [if_pos c1, hw]
        exact same j1
      · rw [if_neg c1]
        obtain ⟨q, i2, s2, e2, q0, q1, j2⟩ := below_draw (l := l) (h := s1) j1 hl (n := (W.length : Int)) (by omega) (by omega)
        rw [e2, Option.bind_some, if_pos q0, if_pos q1, spec_WayBetween_eq (by omega), Option.bind_some]
        have hq : 0 ≤ st w h o (i : Int) (rd W q) := hWm _ (rd_memI q0 q1)
        simp only
        by_cases c2 : (wayOf w h o (i : Int) g).2 = true
        · rw [if_pos c2]
          by_cases c3 : ((wayOf w h o (i : Int) g).1.length : Int) > 0
          · rw [if_pos c3]
            obtain ⟨f, i3, s3, e3, f0, f1, j3⟩ := below_draw (l := l) (h := s2) j2 hl (n := 5) (by decide) (by decide)
            rw [e3, Option.bind_some]
            simp only
            by_cases c4 : f > 0
            · rw [if_pos c4, if_pos (by omega), if_pos (by omega), hw]
              have hcg : icell w h (i : Int) = true ∧ icell w h g = true ∧ 0 ≤ dst w h o g (i : Int) := by
                unfold wayOf at c2
                by_cases z : mok w h o = true ∧ icell w h (i : Int) = true ∧ icell w h g = true ∧ 0 ≤ dst w h o g (i : Int)
                · exact z.2
                · rw [if_neg z] at c2; cases c2
              have wl := way_len M hcg.2.1 hcg.1
              have hd : 1 ≤ dst w h o g (i : Int) := by omega
              exact more j3 (by simp only; rw [way_head M hcg.2.1 hcg.1 hd]; exact (fdir_st hcg.2.1 hcg.1 hd).1)
            · rw [if_neg c4, if_pos (by omega), hw]
              exact more j3 hq
          · rw [if_neg c3, if_pos (by omega), hw]
            exact more j2 hq
        · rw [if_neg c2, if_pos (by omega), hw]
          exact more j2 hq
theorem signs_draw {k : Nat} {l : List Int} (hl : l.length ≤ 1048576) (hk : l.length + 500 ≤ k) : ∃ w h o sg g, spec_DrawSigns.f k l = some (w, h, o, sg, g) ∧ mok w h o = true ∧ icell w h g = true ∧ sgs w h o sg = true ∧ sg.length ≤ 16 := by
  obtain ⟨s0, e0⟩ := new_draw (k := k) hl (by omega)
  obtain ⟨w, h, o, i1, s1, e1, M, j1⟩ := maze12_draw (k := k) (s := s0) (Int.le_refl 0) hl (by omega)
  have cp := cells_pos (mok_iff.1 M).1
  have cb := cells_bd w h
  obtain ⟨g, i2, s2, e2, g0, g1, j2⟩ := below_draw (h := s1) j1 hl (n := cells w h) (by omega) (by omega)
  obtain ⟨r, p', s', e3, a, b⟩ := signs_l0 (g := g) hl M (cells w h).toNat 0 k [] i2 s2 (by omega) (by omega) j2 (by simp) rfl
  refine ⟨w, h, o, r, g, ?_, M, icell_iff.2 ⟨g0, g1⟩, a, by omega⟩
  unfold spec_DrawSigns.f
  rw [e0, Option.bind_some]
  simp only
  rw [e1, Option.bind_some]
  simp only
  rw [spec_CountCells_eq, Option.bind_some, e2, Option.bind_some]
  simp only
  have e3' : spec_l32List.f k l i2 s2 w h o g = some (r, p', s') := e3
  rw [e3', Option.bind_some]
end Go.Proofs.Ytpeehicekddjhaa.F
end

section
namespace Go.Proofs.Ytpeehicekddjhaa.F
open Go.RowKit Go.Proofs.YtpeehicekddjhaaW.PrintWords Go.Proofs.YtpeehicekddjhaaW.PrintLast Go.Proofs.YtpeehicekddjhaaW.PrintMore
set_option linter.unusedVariables false
set_option linter.unusedSimpArgs false
theorem gfor_in {w h o n : Int} {sg : List SSign} (M : mok w h o = true) (S : sgs w h o sg = true) (hl : sg.length ≤ 20) : gfor w h o sg n = (ints (stN w h)).filter fun x => !decide (lies w h o x sg > n) := by
  unfold gfor
  rw [if_pos (by simp [M, S, hl])]
theorem signs_end {w h o g : Int} {l : List Int} {sg : List SSign} (hl : l.length ≤ 1048576) (hb : ∀ y ∈ l, 0 ≤ y ∧ y ≤ 255) (M : mok w h o = true) (hg : icell w h g = true) (S : sgs w h o sg = true) (h16 : sg.length ≤ 16) {k : Nat} (hk : 300 ≤ k) :
    laws_FnSigns.l0 (k + 1) l sg g (lies w h o g sg) (sgTo w h o g) (reach w h o g) ((sgTo w h o g).length : Int) w h o = some true := by
  obtain ⟨b, e, b0, b1⟩ := at_draw (l := l) (a := 0) (by decide) (by decide) hl hb
  have hr := reach_pos (o := o) hg
  have p0 := Int.tmod_nonneg (a := b) ((reach w h o g).length : Int) b0
  have p1 := Int.tmod_lt_of_pos b (b := ((reach w h o g).length : Int)) (by omega)
  simp only [laws_FnSigns.l0]
  rw [if_neg (by omega), e, Option.bind_some, if_neg (by omega), if_pos p0, if_pos p1]
  obtain ⟨hc, hln⟩ := (mem_reach hg).1 (rd_memI p0 p1)
  generalize rd (reach w h o g) (Int.tmod b ((reach w h o g).length : Int)) = c at hc hln ⊢
  have hd := (dst_lnk hg hc).2 hln
  obtain ⟨f1, f2⟩ := folOf_right M hg hc hd
  have lt := dst_lt (o := o) (b := c) hg
  have hgn : ∀ n : Int, (gfor w h o sg n).length ≤ 16 := fun n => gfor_len w h o sg n
  have hD : impl_DistanceOf.f k w h o c g = some (dst w h o g c) := by rw [impl_DistanceOf_eq (by omega), if_pos ⟨M, hc, hg⟩, dst_sym hc hg]
  rw [impl_FollowSigns_eq, Option.bind_some, impl_GoalsFor_eq, Option.bind_some, impl_GoalsFor_eq, Option.bind_some, hD, Option.bind_some, f1, w64 (x := dst w h o g c + 1) (by omega) (by omega), if_pos rfl, w64 (x := dst w h o g c + 1 - 1) (by omega) (by omega), show dst w h o g c + 1 - 1 = dst w h o g c by omega, if_pos hd, if_pos (by omega), f2, if_pos rfl]
  have hg16 := hgn (lies w h o g sg)
  have hg17 := hgn (wrap64 (lies w h o g sg - 1))
  have ll := lies_le w h o g sg 0
  have hlie : lies w h o g sg = sg.foldl (lieStep w h o g) 0 := rfl
  rw [laws_has_eq (by omega) (by omega), Option.bind_some]
  have gi := icell_iff.1 hg
  have hN := stN_int w h
  have hx : (gfor w h o sg (lies w h o g sg)).contains g = true := by
    rw [List.contains_iff_mem, gfor_in M S (by omega)]
    exact List.mem_filter.2 ⟨mem_ints.2 (by omega), by simp⟩
  rw [if_pos hx, w64 (x := lies w h o g sg - 1) (by omega) (by omega), laws_has_eq (by have := hgn (lies w h o g sg - 1); omega) (by have := hgn (lies w h o g sg - 1); omega), Option.bind_some]
  have hy : (gfor w h o sg (lies w h o g sg - 1)).contains g = false := by
    cases q : (gfor w h o sg (lies w h o g sg - 1)).contains g with
    | false => rfl
    | true =>
      rw [List.contains_iff_mem, gfor_in M S (by omega)] at q
      have := (List.mem_filter.1 q).2
      simp only [Bool.not_eq_true', decide_eq_false_iff_not] at this
      omega
  rw [hy, if_neg Bool.false_ne_true]
  have hle : (gfor w h o sg (lies w h o g sg - 1)).length ≤ (gfor w h o sg (lies w h o g sg)).length := by
    rw [gfor_in M S (by omega), gfor_in M S (by omega), ← List.countP_eq_length_filter, ← List.countP_eq_length_filter]
    refine List.countP_mono_left fun x _ hx => ?_
    simp only [Bool.not_eq_true', decide_eq_false_iff_not] at hx ⊢
    omega
  rw [if_pos (by omega), impl_GoalsFor_eq, Option.bind_some, spec_CountCells_eq, Option.bind_some]
  congr 1
  rw [beq_iff_eq, gfor_in M S (by omega), List.filter_eq_self.2, ints_length, hN]
  intro x _
  have := lies_le w h o x sg 0
  have hlx : lies w h o x sg = sg.foldl (lieStep w h o x) 0 := rfl
  simp only [Bool.not_eq_true', decide_eq_false_iff_not]
  omega
theorem signs_loop {w h o g : Int} {l : List Int} {sg : List SSign} (hl : l.length ≤ 1048576) (hb : ∀ y ∈ l, 0 ≤ y ∧ y ≤ 255) (M : mok w h o = true) (hg : icell w h g = true) (S : sgs w h o sg = true) (h16 : sg.length ≤ 16) :
    ∀ (d i k : Nat), i + d = (sgTo w h o g).length → d + 301 ≤ k → laws_FnSigns.l0 k l sg g (lies w h o g sg) (sgTo w h o g) (reach w h o g) (i : Int) w h o = some true
  | 0, i, k, hi, hk => by
    obtain ⟨m, rfl⟩ : ∃ m, k = m + 1 := ⟨k - 1, by omega⟩
    obtain rfl : i = (sgTo w h o g).length := by omega
    exact signs_end hl hb M hg S h16 (by omega)
  | d + 1, i, k, hi, hk => by
    obtain ⟨m, rfl⟩ : ∃ m, k = m + 1 := ⟨k - 1, by omega⟩
    have hil : i < (sgTo w h o g).length := by omega
    have ht := sgTo_len w h o g
    have hm : rd_Sign (sgTo w h o g) (i : Int) ∈ sgTo w h o g := by
      show (sgTo w h o g).getD i zSign ∈ _
      rw [List.getD_eq_getElem?_getD, List.getElem?_eq_getElem hil]
      exact List.getElem_mem hil
    have hv := List.all_eq_true.1 (sgTo_sgs M hg) _ hm
    simp only [laws_FnSigns.l0]
    rw [if_pos (by omega), if_pos (by omega), impl_SignOk_eq (by omega), Option.bind_some, if_pos hv, w64_succ hil (by omega)]
    have := signs_loop hl hb M hg S h16 d (i + 1) m (by omega) (by omega)
    rwa [Int.natCast_add] at this
theorem FnSigns_pure : ∀ (l0 : List (Int)), ((l0).length ≤ 9223372036854775807 ∧ ∀ y ∈ l0, 0 ≤ y ∧ y ≤ 255) → ∃ k, laws_FnSigns.f k l0 = some true := by
  intro l hl
  refine ⟨l.length + 1000, ?_⟩
  unfold laws_FnSigns.f laws_big.f
  rw [Option.bind_some]
  by_cases hbig : (l.length : Int) > 1048576
  · rw [if_pos (by simpa using hbig)]
  · rw [if_neg (by simpa using hbig)]
    obtain ⟨w, h, o, sg, g, e, M, hg, S, h16⟩ := signs_draw (k := l.length + 1000) (l := l) (by omega) (by omega)
    have ht := sgTo_len w h o g
    have hc := sg_count M hg
    rw [e, Option.bind_some]
    simp only
    rw [impl_CountLies_eq (by omega) (by omega), Option.bind_some, impl_SignsTo_eq (by omega), Option.bind_some, spec_Reached_in (by omega) M hg, Option.bind_some, if_pos (by rw [w64 (by omega) (by omega)]; omega), impl_CountLies_eq (by omega) (by omega), Option.bind_some]
    have hz : lies w h o g (sgTo w h o g) = 0 := lies_zero (fun s hs => sgTo_true M hg hs) 0
    rw [hz]
    show laws_FnSigns.j0 (l.length + 999 + 1) l sg g (lies w h o g sg) (sgTo w h o g) (reach w h o g) false w h o = some true
    simp only [laws_FnSigns.j0]
    rw [if_neg Bool.false_ne_true]
    exact signs_loop (by omega) hl.2 M hg S h16 (sgTo w h o g).length 0 _ (by omega) (by omega)
end Go.Proofs.Ytpeehicekddjhaa.F
end
