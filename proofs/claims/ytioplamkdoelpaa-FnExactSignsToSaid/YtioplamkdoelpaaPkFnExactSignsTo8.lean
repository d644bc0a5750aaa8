/- Packed by a program of the session (wip/tools/pack.py): what the claim's theorem reaches, of the texts that wip/ and the kit's printer lay. -/
import Derived.Test.YtioplamkdoelpaaPkFnExactSignsTo7
section
namespace Go.Proofs.Ytioplamkdoelpaa.F
open Go.RowKit Go.Proofs.YtioplamkdoelpaaW.PrintWords Go.Proofs.YtioplamkdoelpaaW.PrintLast Go.Proofs.YtioplamkdoelpaaW.PrintMore
set_option linter.unusedVariables false
set_option linter.unusedSimpArgs false
theorem bfs_next {nx : Int → Int → Int} {N : Nat} {a : Int} (S : Steps nx N) {i : Nat} {D Q D' Q' : List Int} (B : BfsAt nx N a i D Q) (hi : i < Q.length) (e : bfsD nx (rd Q i) [0, 1, 2, 3] (D, Q) = (D', Q')) : BfsAt nx N a (i + 1) D' Q' := by
  obtain ⟨r1, r2, r3, r4, r5⟩ := bfs_dirs S _ D Q B hi D' Q' e
  refine ⟨r1.toBfs, fun h x hx => ?_, fun j hj hjl d hd => ?_⟩
  · have h1 := r1.near r2 x hx
    have h2 := r1.mono i (i + 1) (by omega) h
    omega
  · by_cases hj' : j = i
    · subst hj'
      rw [r3] at hd ⊢
      have hr := S.rng _ _ hd
      exact r5 d (by have : d = 0 ∨ d = 1 ∨ d = 2 ∨ d = 3 := by omega
                     rcases this with rfl | rfl | rfl | rfl <;> simp) hd
    · exact r1.done j (by omega) hjl d hd
theorem bfs_init {nx : Int → Int → Int} {N : Nat} {a : Int} (h0 : 0 ≤ a) (h1 : a < N) : BfsAt nx N a 0 ((List.replicate N (-1)).set a.toNat 0) [a] := by
  have hrep : ∀ x : Int, 0 ≤ x → x < N → rd (List.replicate N (-1)) x = -1 := fun x x0 x1 => by
    obtain ⟨h, e⟩ := rd_lt (D := List.replicate N (-1 : Int)) x0 (by simpa using x1)
    rw [e, List.getElem_replicate]
  have hset : ∀ x : Int, 0 ≤ x → x < N → rd ((List.replicate N (-1)).set a.toNat 0) x = if x = a then 0 else -1 := fun x x0 x1 => by
    rw [rd_set h0 x0 (by simpa using h1)]
    split
    · rfl
    · exact hrep x x0 x1
  refine ⟨⟨by simp, ?_, ?_, ?_, ?_, ?_⟩, ?_, ?_⟩
  · have := countP_lt_set (D := List.replicate N (-1 : Int)) (i := a) (v := 0) h0 (by simpa using h1) (by rw [hrep a h0 h1]; decide) (by decide)
    rw [List.countP_replicate] at this
    simpa using this
  · intro x hx
    rw [List.mem_singleton.1 hx, hset a h0 h1, if_pos rfl]
    exact ⟨h0, h1, by decide, Walk.nil⟩
  · intro x x0 x1 hx
    rw [hset x x0 x1, if_neg (by simpa using hx)]
  · exact ⟨by rw [hset a h0 h1, if_pos rfl], by simp⟩
  · intro j k hjk hk
    have : j = 0 := by simp at hk; omega
    have : k = 0 := by simp at hk; omega
    subst_vars
    exact Int.le_refl _
  · intro _ x hx
    rw [List.mem_singleton.1 hx]
    simp [rd]
    omega
  · intro j hj; omega
def bfs1 (nx : Int → Int → Int) (c d : Int) (s : List Int × List Int) : List Int × List Int :=
  if 0 ≤ nx c d ∧ rd s.1 (nx c d) < 0 then (s.1.set (nx c d).toNat (rd s.1 c + 1), s.2 ++ [nx c d]) else s
theorem bfsD_cons (nx : Int → Int → Int) (c d : Int) (ds : List Int) (s : List Int × List Int) : bfsD nx c (d :: ds) s = bfsD nx c ds (bfs1 nx c d s) := by
  unfold bfs1; rw [bfsD]; split <;> rfl
theorem bfsD_filter (nx : Int → Int → Int) (c : Int) : ∀ (ds : List Int) (s : List Int × List Int), bfsD nx c (ds.filter fun d => decide (0 ≤ nx c d)) s = bfsD nx c ds s
  | [], s => rfl
  | d :: ds, s => by
    by_cases h : 0 ≤ nx c d
    · rw [List.filter_cons_of_pos (by simpa using h), bfsD_cons, bfsD_cons, bfsD_filter nx c ds]
    · rw [List.filter_cons_of_neg (by simpa using h), bfsD_cons, bfsD_filter nx c ds]
      unfold bfs1
      rw [if_neg (fun q => h q.1)]
def Small (s : List Int × List Int) : Prop := ∀ x : Int, rd s.1 x < s.2.length
structure Mid (nx : Int → Int → Int) (N : Nat) (a : Int) (i : Nat) (c : Int) (s : List Int × List Int) : Prop where
  at_ : BfsAt nx N a i s.1 s.2
  small : Small s
  lt : i < s.2.length
  cur : rd s.2 i = c
theorem mid1 {nx : Int → Int → Int} {N : Nat} {a : Int} (S : Steps nx N) {i : Nat} {c : Int} {s : List Int × List Int} (M : Mid nx N a i c s) (d : Int) : Mid nx N a i c (bfs1 nx c d s) := by
  have hc := M.cur
  unfold bfs1
  by_cases h : 0 ≤ nx c d ∧ rd s.1 (nx c d) < 0
  · rw [if_pos h]
    have B := M.at_
    have r := S.rng c d h.1
    subst hc
    refine ⟨bfs_push S B M.lt h.1 h.2, fun x => ?_, by simp only [List.length_append]; have := M.lt; omega, by simp only; exact rd_app_left M.lt⟩
    have hs := M.small
    simp only [List.length_append, List.length_singleton]
    by_cases hx : 0 ≤ x
    · rw [rd_set (by omega) hx (by rw [B.len]; omega)]
      have h1 := hs x
      have h2 := hs (rd s.2 i)
      split <;> omega
    · have h1 := hs x
      have : rd (s.1.set (nx (rd s.2 i) d).toNat (rd s.1 (rd s.2 i) + 1)) x = rd (s.1.set (nx (rd s.2 i) d).toNat (rd s.1 (rd s.2 i) + 1)) 0 := by unfold rd; rw [show x.toNat = 0 by omega]; rfl
      rw [this, rd_set (by omega) (by omega) (by rw [B.len]; omega)]
      have h2 := hs (rd s.2 i)
      have h3 := hs 0
      split <;> omega
  · rw [if_neg h]; exact M
theorem bfs_room {nx : Int → Int → Int} {N : Nat} {a : Int} {i : Nat} {c : Int} {s : List Int × List Int} (M : Mid nx N a i c s) : s.1.length = N ∧ s.2.length ≤ N ∧ 0 ≤ c ∧ c < N := by
  have h1 := M.at_.len
  have h2 := M.at_.cnt
  have hm : c ∈ s.2 := by rw [← M.cur]; exact rd_memI (by omega) (by have := M.lt; omega)
  obtain ⟨h3, h4, _⟩ := M.at_.inq c hm
  exact ⟨h1, by omega, h3, h4⟩
def stN (w h : Int) : Nat := (cells w h).toNat
theorem steps_st (w h o : Int) : Steps (st w h o) (stN w h) := ⟨fun c d H => by
  obtain ⟨_, h2, h3, h4, h5⟩ := st_facts H
  have a := icell_iff.1 h2
  have b := icell_iff.1 h3
  unfold stN
  exact ⟨a.1, by omega, by omega, h4, h5⟩⟩
theorem nb_all : ∀ w ∈ ([1, 2, 3, 4] : List Int), ∀ h ∈ ([1, 2, 3, 4] : List Int), ∀ c ∈ ([0, 1, 2, 3, 4, 5, 6, 7, 8, 9, 10, 11, 12, 13, 14, 15] : List Int), ∀ d ∈ ([0, 1, 2, 3] : List Int), 0 ≤ nb w h c d → nb w h (nb w h c d) ((d + 2) % 4) = c ∧ gp w h (nb w h c d) ((d + 2) % 4) = gp w h c d := by
  decide +kernel
theorem nb_back {w h c d : Int} (H : 0 ≤ nb w h c d) : ∃ e, nb w h (nb w h c d) e = c ∧ gp w h (nb w h c d) e = gp w h c d := by
  obtain ⟨h1, _, h3, h4⟩ := nb_facts H
  have g := gok_iff.1 (icell_gok h1)
  have hc := icell_iff.1 h1
  have hb := cells_bd w h
  exact ⟨(d + 2) % 4, nb_all w (by simp; omega) h (by simp; omega) c (by simp; omega) d (by simp; omega) H⟩
theorem sym_st (w h o : Int) : Sym (st w h o) := ⟨fun c d H => by
  obtain ⟨e, p⟩ := st_nb H
  rw [e] at H ⊢
  obtain ⟨q, q1, q2⟩ := nb_back H
  refine ⟨q, ?_⟩
  unfold st
  rw [q2, if_pos p, q1]⟩
def ways (w h o c : Int) : List Int := ([0, 1, 2, 3] : List Int).filter fun d => decide (0 ≤ st w h o c d)
theorem ways_length (w h o c : Int) : (ways w h o c).length ≤ 4 := List.length_filter_le _ _
theorem impl_WaysFrom_eq {k : Nat} (hk : 8 ≤ k) (w h o c : Int) : impl_WaysFrom.f k w h o c = some (ways w h o c) := by
  unfold impl_WaysFrom.f
  have := fold_loop (n := 4) (c := 3) (F := fun k (acc : List Int) i => impl_WaysFrom.l0 k c acc i w h o) (step := fun acc i => if 0 ≤ st w h o c (i : Int) then acc ++ [(i : Int)] else acc) (fin := fun acc : List Int => acc) (I := fun acc i => acc.length ≤ i)
    (fun k acc i hk hi ha => by
      simp only [impl_WaysFrom.l0]
      rw [if_pos (by omega), impl_Step_eq (by omega), Option.bind_some, w64 (x := (i : Int) + 1) (by omega) (by omega)]
      by_cases hd : 0 ≤ st w h o c (i : Int)
      · rw [if_pos hd, if_pos hd, if_pos (by omega)]
      · rw [if_neg hd, if_neg hd])
    (fun acc i _ ha => by
      show (if _ then _ else _ : List Int).length ≤ i + 1
      split
      · simp only [List.length_append, List.length_singleton]; omega
      · omega)
    (fun k acc _ _ => by
      simp only [impl_WaysFrom.l0]
      rw [if_neg (by decide)]) 4 0 k [] (by decide) (by omega) (Nat.le_refl _)
  refine this.trans ?_
  congr 1
  unfold ways
  simp only [List.range'_succ, List.range'_zero, List.foldl_cons, List.foldl_nil, List.filter_cons, List.filter_nil, Nat.zero_add, Int.natCast_add, decide_eq_true_eq]
  show (if 0 ≤ st w h o c (3 : Int) then _ else _) = _
  by_cases h0 : 0 ≤ st w h o c 0 <;> by_cases h1 : 0 ≤ st w h o c 1 <;> by_cases h2 : 0 ≤ st w h o c 2 <;> by_cases h3 : 0 ≤ st w h o c 3 <;> simp [h0, h1, h2, h3]
theorem ways_mem {w h o c d : Int} (H : d ∈ ways w h o c) : 0 ≤ st w h o c d := by
  unfold ways at H
  exact of_decide_eq_true (List.mem_filter.1 H).2
theorem impl_dist1 {w h o a c d : Int} {i : Nat} {s : List Int × List Int} (M : Mid (st w h o) (stN w h) a i c s) (hd : 0 ≤ st w h o c d) {k : Nat} (hk : 3 ≤ k) {W : List Int} {j : Nat} (hj : j < W.length) (hW : W.length ≤ 4) (hr : rd W (j : Int) = d) :
    impl_distances.l1 (k + 1) s.1 s.2 (i : Int) W (W.length : Int) (j : Int) w h o = impl_distances.l1 k (bfs1 (st w h o) c d s).1 (bfs1 (st w h o) c d s).2 (i : Int) W (W.length : Int) ((j : Int) + 1) w h o := by
  obtain ⟨r1, r2, r3, r4⟩ := bfs_room M
  have hN : stN w h ≤ 16 := by have := cells_bd w h; unfold stN; omega
  have rr := (steps_st w h o).rng c d hd
  have hsm := M.small c
  have hlt := M.lt
  have hc := M.cur
  simp only [impl_distances.l1]
  rw [if_pos (by omega), if_pos (by omega), if_pos (by omega), if_pos (by omega), if_pos (by omega), hc, hr, impl_Step_eq hk, Option.bind_some, if_pos hd, if_pos (by omega), w64 (x := (j : Int) + 1) (by omega) (by omega)]
  unfold bfs1
  by_cases hn : rd s.1 (st w h o c d) < 0
  · rw [if_pos hn, if_pos r3, if_pos (by omega), if_pos (by omega), if_pos ⟨hd, hn⟩]
    have hge : 0 ≤ rd s.1 c := by
      have hm : c ∈ s.2 := by rw [← hc]; exact rd_memI (by omega) (by omega)
      exact (M.at_.inq c hm).2.2.1
    rw [w64 (x := rd s.1 c + 1) (by omega) (by omega)]
  · rw [if_neg hn, if_neg (fun q => hn q.2)]
theorem impl_dirs {w h o a c : Int} {i : Nat} {W : List Int} (hW : W.length ≤ 4) (hd : ∀ d ∈ W, 0 ≤ st w h o c d) : ∀ (m j k : Nat) (s : List Int × List Int), j + m = W.length → 3 ≤ k → Mid (st w h o) (stN w h) a i c s →
    impl_distances.l1 (k + m + 1) s.1 s.2 (i : Int) W (W.length : Int) (j : Int) w h o = impl_distances.l0 k (bfsD (st w h o) c (W.drop j) s).1 (bfsD (st w h o) c (W.drop j) s).2 ((i : Int) + 1) w h o ∧ Mid (st w h o) (stN w h) a i c (bfsD (st w h o) c (W.drop j) s)
  | 0, j, k, s, hj, hk, M => by
    rw [List.drop_of_length_le (by omega)]
    have hl := bfs_room M
    have hN : stN w h ≤ 16 := by have := cells_bd w h; unfold stN; omega
    have hlt := M.lt
    refine ⟨?_, M⟩
    simp only [bfsD, Nat.add_zero, impl_distances.l1]
    rw [if_neg (by omega), w64 (x := (i : Int) + 1) (by omega) (by omega)]
  | m + 1, j, k, s, hj, hk, M => by
    have hjl : j < W.length := by omega
    have hmem : rd W (j : Int) ∈ W := rd_memI (by omega) (by omega)
    have hdr : W.drop j = rd W (j : Int) :: W.drop (j + 1) := by
      rw [List.drop_eq_getElem_cons hjl]
      congr 1
      rw [rd_nat, List.getD_eq_getElem?_getD, List.getElem?_eq_getElem hjl]
      rfl
    have M' := mid1 (steps_st w h o) M (rd W (j : Int))
    rw [show k + (m + 1) + 1 = (k + m + 1) + 1 by omega, impl_dist1 M (hd _ hmem) (by omega) hjl hW rfl, hdr, bfsD_cons]
    have := impl_dirs hW hd m (j + 1) k _ (by omega) hk M'
    rwa [Int.natCast_add] at this
theorem impl_bfs {w h o a : Int} : ∀ (f i k : Nat) (D Q : List Int), BfsAt (st w h o) (stN w h) a i D Q → Small (D, Q) → stN w h < f + i → 6 * f + 20 ≤ k → impl_distances.l0 k D Q (i : Int) w h o = some (bfs (st w h o) f i (D, Q))
  | 0, i, k, D, Q, B, V, hf, hk => by
    obtain ⟨m, rfl⟩ : ∃ m, k = m + 1 := ⟨k - 1, by omega⟩
    have := B.cnt
    simp only [impl_distances.l0, bfs]
    rw [if_neg (by omega)]
  | f + 1, i, k, D, Q, B, V, hf, hk => by
    obtain ⟨m, rfl⟩ : ∃ m, k = m + 1 := ⟨k - 1, by omega⟩
    simp only [bfs]
    by_cases hi : i < Q.length
    · rw [if_pos hi]
      have hw := ways_length w h o (rd Q (i : Int))
      simp only [impl_distances.l0]
      rw [if_pos (by omega), if_pos (by omega), impl_WaysFrom_eq (by omega), Option.bind_some]
      obtain ⟨k', hk'⟩ : ∃ k', m = k' + (ways w h o (rd Q (i : Int))).length + 1 := ⟨m - (ways w h o (rd Q (i : Int))).length - 1, by omega⟩
      have M : Mid (st w h o) (stN w h) a i (rd Q (i : Int)) (D, Q) := ⟨B, V, hi, rfl⟩
      obtain ⟨e, M'⟩ := impl_dirs (a := a) (i := i) hw (fun d hd => ways_mem hd) (ways w h o (rd Q (i : Int))).length 0 k' (D, Q) (by omega) (by omega) M
      rw [← hk', List.drop_zero] at e
      rw [List.drop_zero] at M'
      have eb : bfsD (st w h o) (rd Q (i : Int)) (ways w h o (rd Q (i : Int))) (D, Q) = bfsD (st w h o) (rd Q (i : Int)) [0, 1, 2, 3] (D, Q) := bfsD_filter _ _ _ _
      rw [eb] at e M'
      refine e.trans ?_
      have := impl_bfs f (i + 1) k' _ _ (bfs_next (steps_st w h o) B hi rfl) M'.small (by omega) (by omega)
      rwa [Int.natCast_add] at this
    · rw [if_neg hi]
      simp only [impl_distances.l0]
      rw [if_neg (by omega)]
theorem small_init {N : Nat} {a : Int} (h0 : 0 ≤ a) (h1 : a < N) : Small ((List.replicate N (-1)).set a.toNat 0, [a]) := by
  intro x
  simp only [List.length_singleton]
  have hrep : ∀ x : Int, rd (List.replicate N (-1)) x ≤ 0 := fun x => by
    unfold rd
    rw [List.getD_eq_getElem?_getD, List.getElem?_replicate]
    split <;> simp
  unfold rd
  rw [List.getD_eq_getElem?_getD, List.getElem?_set]
  split
  · split <;> simp
  · have := hrep x
    unfold rd at this
    rw [List.getD_eq_getElem?_getD] at this
    omega
theorem impl_distances_eq {w h o a : Int} {k : Nat} (hk : 200 ≤ k) (ha : icell w h a = true) : impl_distances.f k w h o a = some (dists (st w h o) (stN w h) a) := by
  have hc := icell_iff.1 ha
  have hb := cells_bd w h
  have hN : ((stN w h : Nat) : Int) = cells w h := by unfold stN; omega
  unfold impl_distances.f
  rw [impl_CountCells_eq, Option.bind_some, slices_Repeat_int.f, if_pos ⟨rfl, by omega, by omega⟩, Option.bind_some]
  show (if 0 ≤ a then (if a < ((List.replicate (stN w h) (-1 : Int)).length : Int) then _ else _) else _) = _
  rw [if_pos hc.1, if_pos (by rw [List.length_replicate]; omega)]
  exact impl_bfs (stN w h + 1) 0 k _ _ (bfs_init hc.1 (by omega)) (small_init hc.1 (by omega)) (by omega) (by omega)
theorem spec_dist1 {w h o a c : Int} {i : Nat} {s : List Int × List Int} (M : Mid (st w h o) (stN w h) a i c s) {k : Nat} (hk : 1 ≤ k) {j : Nat} (hj : j < 4) :
    spec_l04Distances.l2 (k + 1) s.1 s.2 (i : Int) (j : Int) w h o = spec_l04Distances.l2 k (bfs1 (st w h o) c (j : Int) s).1 (bfs1 (st w h o) c (j : Int) s).2 (i : Int) ((j : Int) + 1) w h o := by
  obtain ⟨r1, r2, r3, r4⟩ := bfs_room M
  have hN : stN w h ≤ 16 := by have := cells_bd w h; unfold stN; omega
  have hsm := M.small c
  have hlt := M.lt
  have hc := M.cur
  simp only [spec_l04Distances.l2]
  rw [if_pos (by omega), if_pos (by omega), if_pos (by omega), hc, spec_Step_eq hk, Option.bind_some, w64 (x := (j : Int) + 1) (by omega) (by omega)]
  unfold bfs1
  by_cases hd : 0 ≤ st w h o c (j : Int)
  · have rr := (steps_st w h o).rng c _ hd
    rw [if_pos hd, if_pos hd, if_pos (by omega)]
    by_cases hn : rd s.1 (st w h o c (j : Int)) < 0
    · rw [if_pos hn, if_pos r3, if_pos (by omega), if_pos (by omega), if_pos ⟨hd, hn⟩]
      have hge : 0 ≤ rd s.1 c := by
        have hm : c ∈ s.2 := by rw [← hc]; exact rd_memI (by omega) (by omega)
        exact (M.at_.inq c hm).2.2.1
      rw [w64 (x := rd s.1 c + 1) (by omega) (by omega)]
    · rw [if_neg hn, if_neg (fun q => hn q.2)]
  · rw [if_neg hd, if_neg (fun q => hd q.1)]
theorem spec_dirs {w h o a c : Int} {i : Nat} {s : List Int × List Int} (M : Mid (st w h o) (stN w h) a i c s) {k : Nat} (hk : 1 ≤ k) :
    spec_l04Distances.l2 (k + 5) s.1 s.2 (i : Int) 0 w h o = spec_l04Distances.l1 k (bfsD (st w h o) c [0, 1, 2, 3] s).1 (bfsD (st w h o) c [0, 1, 2, 3] s).2 ((i : Int) + 1) w h o ∧ Mid (st w h o) (stN w h) a i c (bfsD (st w h o) c [0, 1, 2, 3] s) := by
  have M1 := mid1 (steps_st w h o) M 0
  have M2 := mid1 (steps_st w h o) M1 1
  have M3 := mid1 (steps_st w h o) M2 2
  have M4 := mid1 (steps_st w h o) M3 3
  have e0 := spec_dist1 M (k := k + 4) (by omega) (j := 0) (by decide)
  have e1 := spec_dist1 M1 (k := k + 3) (by omega) (j := 1) (by decide)
  have e2 := spec_dist1 M2 (k := k + 2) (by omega) (j := 2) (by decide)
  have e3 := spec_dist1 M3 (k := k + 1) (by omega) (j := 3) (by decide)
  rw [bfsD_cons, bfsD_cons, bfsD_cons, bfsD_cons]
  show _ = spec_l04Distances.l1 k _ _ _ _ _ _ ∧ _
  refine ⟨(e0.trans (e1.trans (e2.trans e3))).trans ?_, M4⟩
  have hl := bfs_room M4
  have hN : stN w h ≤ 16 := by have := cells_bd w h; unfold stN; omega
  have hlt := M4.lt
  simp only [spec_l04Distances.l2, bfsD]
  rw [if_neg (by decide), w64 (x := (i : Int) + 1) (by omega) (by omega)]
  rfl
theorem spec_bfs {w h o a : Int} : ∀ (f i k : Nat) (D Q : List Int), BfsAt (st w h o) (stN w h) a i D Q → Small (D, Q) → stN w h < f + i → 6 * f + 20 ≤ k → spec_l04Distances.l1 k D Q (i : Int) w h o = some (bfs (st w h o) f i (D, Q))
  | 0, i, k, D, Q, B, V, hf, hk => by
    obtain ⟨m, rfl⟩ : ∃ m, k = m + 1 := ⟨k - 1, by omega⟩
    have := B.cnt
    simp only [spec_l04Distances.l1, bfs]
    rw [if_neg (by omega)]
  | f + 1, i, k, D, Q, B, V, hf, hk => by
    obtain ⟨m, rfl⟩ : ∃ m, k = m + 5 + 1 := ⟨k - 6, by omega⟩
    simp only [bfs]
    by_cases hi : i < Q.length
    · rw [if_pos hi]
      simp only [spec_l04Distances.l1]
      rw [if_pos (by omega)]
      have M : Mid (st w h o) (stN w h) a i (rd Q (i : Int)) (D, Q) := ⟨B, V, hi, rfl⟩
      obtain ⟨e, M'⟩ := spec_dirs M (k := m) (by omega)
      refine e.trans ?_
      have := spec_bfs f (i + 1) m _ _ (bfs_next (steps_st w h o) B hi rfl) M'.small (by omega) (by omega)
      rwa [Int.natCast_add] at this
    · rw [if_neg hi]
      simp only [spec_l04Distances.l1]
      rw [if_neg (by omega)]
theorem spec_l04Distances_eq {w h o a : Int} {k : Nat} (hk : 200 ≤ k) (ha : icell w h a = true) : spec_l04Distances.f k w h o a = some (dists (st w h o) (stN w h) a) := by
  have hc := icell_iff.1 ha
  have hb := cells_bd w h
  have hN : ((stN w h : Nat) : Int) = cells w h := by unfold stN; omega
  have hN16 : stN w h ≤ 16 := by omega
  unfold spec_l04Distances.f
  rw [spec_CountCells_eq, Option.bind_some, if_pos hb.1, if_pos (by omega)]
  show spec_l04Distances.l0 k a (List.replicate (stN w h) 0) 0 w h o = _
  obtain ⟨s, _, e⟩ := inv_loop (n := stN w h) (c := 130) (F := fun k (s : List Int) i => spec_l04Distances.l0 k a s i w h o) (fin := fun _ => dists (st w h o) (stN w h) a)
    (I := fun s i => s = List.replicate i (-1) ++ List.replicate (stN w h - i) 0)
    (fun k s i _ hi hs => by
      refine ⟨List.replicate (i + 1) (-1) ++ List.replicate (stN w h - (i + 1)) 0, rfl, ?_⟩
      have hl : s.length = stN w h := by rw [hs]; simp; omega
      simp only [spec_l04Distances.l0]
      rw [if_pos (by omega), if_pos (by omega), w64_succ hi (by omega), Int.toNat_natCast]
      congr 1
      rw [hs, show stN w h - i = (stN w h - (i + 1)) + 1 by omega, List.replicate_succ, List.replicate_succ']
      rw [List.set_append_right _ _ (by simp)]
      simp)
    (fun k s hk hs => by
      have hs' : s = List.replicate (stN w h) (-1) := by rw [hs, Nat.sub_self]; simp
      simp only [spec_l04Distances.l0]
      rw [hs', List.length_replicate, if_neg (by omega), if_pos hc.1, if_pos (by omega)]
      exact spec_bfs (stN w h + 1) 0 k _ _ (bfs_init hc.1 (by omega)) (small_init hc.1 (by omega)) (by omega) (by omega)) (stN w h) 0 k (List.replicate (stN w h) 0) (by omega) (by omega) (by simp)
  exact e
def dst (w h o a b : Int) : Int := rd (dists (st w h o) (stN w h) a) b
theorem dst_sym {w h o a b : Int} (ha : icell w h a = true) (hb : icell w h b = true) : dst w h o a b = dst w h o b a := by
  have ca := icell_iff.1 ha
  have cb := icell_iff.1 hb
  have hN : ((stN w h : Nat) : Int) = cells w h := by have := cells_bd w h; unfold stN; omega
  obtain ⟨_, _, p⟩ := dists_spec (steps_st w h o) (a := a) ca.1 (by omega)
  obtain ⟨_, _, q⟩ := dists_spec (steps_st w h o) (a := b) cb.1 (by omega)
  have rev : ∀ {x y : Int} {n : Nat}, Walk (st w h o) x n y → Walk (st w h o) y n x := fun H => Walk.rev (steps_st w h o) (sym_st w h o) H
  unfold dst
  rcases p b cb.1 (by omega) with ⟨e, n1⟩ | ⟨g1, w1, m1⟩ <;> rcases q a ca.1 (by omega) with ⟨e', n2⟩ | ⟨g2, w2, m2⟩
  · rw [e, e']
  · exact absurd (rev w2) (n1 _)
  · exact absurd (rev w1) (n2 _)
  · have := m1 _ (rev w2)
    have := m2 _ (rev w1)
    omega
theorem dists_length {w h o a : Int} (ha : icell w h a = true) : ((dists (st w h o) (stN w h) a).length : Int) = cells w h := by
  have ca := icell_iff.1 ha
  have hN : ((stN w h : Nat) : Int) = cells w h := by have := cells_bd w h; unfold stN; omega
  rw [(dists_spec (steps_st w h o) (a := a) ca.1 (by omega)).1, hN]
theorem impl_DistanceOf_eq {w h o : Int} {k : Nat} (hk : 200 ≤ k) (a b : Int) : impl_DistanceOf.f k w h o a b = some (if mok w h o = true ∧ icell w h a = true ∧ icell w h b = true then dst w h o a b else -1) := by
  unfold impl_DistanceOf.f
  rw [impl_isIn_eq]
  simp only [Option.bind_some, List.all_cons, List.all_nil, Bool.and_true]
  by_cases H : mok w h o = true ∧ icell w h a = true ∧ icell w h b = true
  · rw [if_pos H, if_pos (by simp [H.1, H.2.1, H.2.2]), impl_distances_eq hk H.2.1, Option.bind_some]
    have cb := icell_iff.1 H.2.2
    rw [if_pos cb.1, if_pos (by rw [dists_length H.2.1]; exact cb.2)]
    rfl
  · rw [if_neg H, if_neg (by simpa using fun h1 h2 h3 => H ⟨h1, h2, h3⟩)]
end Go.Proofs.Ytioplamkdoelpaa.F
end

section
namespace Go.Proofs.Ytioplamkdoelpaa.F
open Go.RowKit Go.Proofs.YtioplamkdoelpaaW.PrintWords Go.Proofs.YtioplamkdoelpaaW.PrintLast Go.Proofs.YtioplamkdoelpaaW.PrintMore
set_option linter.unusedVariables false
set_option linter.unusedSimpArgs false
def spec_CountLies.l0 : Nat → List (SSign) → Int → Int → Int → Int → Int → Int → Option (Int)
  | 0, _, _, _, _, _, _, _ => none
  | k + 1, x1, x2, x7, x8, x771000, x771001, x771002 => if x8 < (x1.length : Int) then (if 0 ≤ x8 then ((spec_IsTrue.f k x771000 x771001 x771002 ((rd_Sign x1 x8).f0) ((rd_Sign x1 x8).f1) x2).bind fun t772 => (if t772 = true then (spec_CountLies.l0 k x1 x2 x7 (wrap64 (x8 + 1)) x771000 x771001 x771002) else (spec_CountLies.l0 k x1 x2 (wrap64 (x7 + 1)) (wrap64 (x8 + 1)) x771000 x771001 x771002))) else (none)) else (some x7)
def spec_CountLies.f (k : Nat) (a0_0 : Int) (a0_1 : Int) (a0_2 : Int) (l1 : List (SSign)) (a2 : Int) : Option (Int) := spec_CountLies.l0 k l1 a2 0 0 a0_0 a0_1 a0_2
def impl_CountLies.l0 : Nat → Int → Int → List (SSign) → Int → Int → Int → Int → Int → Option (Int)
  | 0, _, _, _, _, _, _, _, _ => none
  | k + 1, x2, x7, x10, x11, x12, x774000, x774001, x774002 => if x12 < x11 then (if 0 ≤ x12 then (if x12 < (x10.length : Int) then ((impl_IsTrue.f k x774000 x774001 x774002 ((rd_Sign x10 x12).f0) ((rd_Sign x10 x12).f1) x2).bind fun t776 => (if t776 = true then (impl_CountLies.l0 k x2 x7 x10 x11 (wrap64 (x12 + 1)) x774000 x774001 x774002) else (impl_CountLies.l0 k x2 (wrap64 (x7 + 1)) x10 x11 (wrap64 (x12 + 1)) x774000 x774001 x774002))) else (none)) else (none)) else (some x7)
def impl_CountLies.f (k : Nat) (a0_0 : Int) (a0_1 : Int) (a0_2 : Int) (l1 : List (SSign)) (a2 : Int) : Option (Int) := impl_CountLies.l0 k a2 0 l1 (l1.length : Int) 0 a0_0 a0_1 a0_2
end Go.Proofs.Ytioplamkdoelpaa.F
end

section
namespace Go.Proofs.Ytioplamkdoelpaa.F
open Go.RowKit Go.Proofs.YtioplamkdoelpaaW.PrintWords Go.Proofs.YtioplamkdoelpaaW.PrintLast Go.Proofs.YtioplamkdoelpaaW.PrintMore
set_option linter.unusedVariables false
set_option linter.unusedSimpArgs false
theorem laws_eqSignS_refl {k : Nat} {l : List SSign} (hl : l.length ≤ 9223372036854775806) (hk : l.length + 1 ≤ k) : laws_eqSignS.f k l l = some true := by
  unfold laws_eqSignS.f
  rw [if_pos rfl]
  have := all_loop (c := 0) zSign (F := fun k i => laws_eqSignS.l0 k l l i) (p := fun _ => true) (b := true)
    (fun k i _ hi => by
      simp only [laws_eqSignS.l0, laws_eqSign.f]
      rw [if_pos (by omega), if_pos (by omega), if_pos (by omega), w64_succ hi (by omega)]
      simp)
    (fun k _ => by simp only [laws_eqSignS.l0]; rw [if_neg (by omega)]) hk
  rw [this]
  congr 1
  simp only [Bool.and_true, List.all_eq_true, implies_true]
end Go.Proofs.Ytioplamkdoelpaa.F
end

section
namespace Go.Proofs.Ytioplamkdoelpaa.F
open Go.RowKit Go.Proofs.YtioplamkdoelpaaW.PrintWords Go.Proofs.YtioplamkdoelpaaW.PrintLast Go.Proofs.YtioplamkdoelpaaW.PrintMore
set_option linter.unusedVariables false
set_option linter.unusedSimpArgs false
theorem bfs_small {nx : Int → Int → Int} {N : Nat} {a : Int} (S : Steps nx N) : ∀ (f i : Nat) (D Q : List Int), BfsAt nx N a i D Q → Small (D, Q) → ∀ x, rd (bfs nx f i (D, Q)) x < N
  | 0, i, D, Q, B, V, x => by
    have := B.cnt
    have := V x
    simp only [bfs] at *
    omega
  | f + 1, i, D, Q, B, V, x => by
    simp only [bfs]
    by_cases hi : i < Q.length
    · rw [if_pos hi]
      have M : Mid nx N a i (rd Q i) (D, Q) := ⟨B, V, hi, rfl⟩
      have M4 := mid1 S (mid1 S (mid1 S (mid1 S M 0) 1) 2) 3
      have e : bfsD nx (rd Q i) [0, 1, 2, 3] (D, Q) = bfs1 nx (rd Q i) 3 (bfs1 nx (rd Q i) 2 (bfs1 nx (rd Q i) 1 (bfs1 nx (rd Q i) 0 (D, Q)))) := by rw [bfsD_cons, bfsD_cons, bfsD_cons, bfsD_cons]; rfl
      have V4 := M4.small
      rw [← e] at V4
      generalize hs : bfsD nx (rd Q i) [0, 1, 2, 3] (D, Q) = s at V4
      obtain ⟨D', Q'⟩ := s
      exact bfs_small S f (i + 1) D' Q' (bfs_next S B hi hs) V4 x
    · rw [if_neg hi]
      have := B.cnt
      have := V x
      simp only at *
      omega
theorem dst_lt {w h o a b : Int} (ha : icell w h a = true) : dst w h o a b < 16 := by
  have ca := icell_iff.1 ha
  have hc := cells_bd w h
  have hN : ((stN w h : Nat) : Int) = cells w h := by unfold stN; omega
  have := bfs_small (steps_st w h o) (stN w h + 1) 0 _ _ (bfs_init ca.1 (by omega)) (small_init ca.1 (by omega)) b
  have e : dst w h o a b = rd (bfs (st w h o) (stN w h + 1) 0 ((List.replicate (stN w h) (-1)).set a.toNat 0, [a])) b := rfl
  omega
theorem dst_near {w h o g c d : Int} (hg : icell w h g = true) (hd : 0 ≤ st w h o c d) (H : 0 ≤ dst w h o g c) : 0 ≤ dst w h o g (st w h o c d) ∧ dst w h o g c ≤ dst w h o g (st w h o c d) + 1 := by
  have cg := icell_iff.1 hg
  obtain ⟨_, f2, f3, _, _⟩ := st_facts hd
  have cc := icell_iff.1 f2
  have cs := icell_iff.1 f3
  have hN : ((stN w h : Nat) : Int) = cells w h := by have := cells_bd w h; unfold stN; omega
  obtain ⟨_, _, p⟩ := dists_spec (steps_st w h o) (a := g) cg.1 (by omega)
  unfold dst at H ⊢
  rcases p c cc.1 (by omega) with ⟨e, _⟩ | ⟨g1, w1, m1⟩
  · omega
  · rcases p (st w h o c d) cs.1 (by omega) with ⟨e, n2⟩ | ⟨g2, w2, m2⟩
    · exact absurd (Walk.snoc w1 hd) (n2 _)
    · obtain ⟨q, hq⟩ := (sym_st w h o).back c d hd
      have := Walk.snoc (d := q) w2 (by rw [hq]; exact cc.1)
      rw [hq] at this
      have := m1 _ this
      exact ⟨g2, by omega⟩
theorem dst_zero {w h o g c : Int} (hg : icell w h g = true) (hc : icell w h c = true) : dst w h o g c = 0 ↔ c = g := by
  have cg := icell_iff.1 hg
  have cc := icell_iff.1 hc
  have hN : ((stN w h : Nat) : Int) = cells w h := by have := cells_bd w h; unfold stN; omega
  obtain ⟨_, p0, p⟩ := dists_spec (steps_st w h o) (a := g) cg.1 (by omega)
  constructor
  · intro H
    unfold dst at H
    rcases p c cc.1 (by omega) with ⟨e, _⟩ | ⟨g1, w1, m1⟩
    · omega
    · rw [H] at w1
      cases w1
      rfl
  · rintro rfl; exact p0
theorem dst_down {w h o g c : Int} {n : Nat} (hg : icell w h g = true) (hc : icell w h c = true) (H : dst w h o g c = (n : Int) + 1) : ∃ d, 0 ≤ d ∧ d ≤ 3 ∧ 0 ≤ st w h o c d ∧ dst w h o g (st w h o c d) < dst w h o g c := by
  have cg := icell_iff.1 hg
  have cc := icell_iff.1 hc
  have hN : ((stN w h : Nat) : Int) = cells w h := by have := cells_bd w h; unfold stN; omega
  obtain ⟨_, _, p⟩ := dists_spec (steps_st w h o) (a := g) cg.1 (by omega)
  have H0 := H
  unfold dst at H
  rcases p c cc.1 (by omega) with ⟨e, _⟩ | ⟨g1, w1, m1⟩
  · omega
  · rw [H, show ((n : Int) + 1).toNat = n + 1 by omega] at w1
    cases w1 with
    | @snoc _ b e hw he =>
      obtain ⟨q, hq⟩ := (sym_st w h o).back b e he
      obtain ⟨_, f2, _, _, _⟩ := st_facts he
      have cb := icell_iff.1 f2
      have hs : 0 ≤ st w h o (st w h o b e) q := by rw [hq]; exact cb.1
      obtain ⟨_, _, _, d0, d3⟩ := st_facts hs
      refine ⟨q, d0, d3, hs, ?_⟩
      rw [hq, H0]
      rcases p b cb.1 (by omega) with ⟨e2, n2⟩ | ⟨g2, w2, m2⟩
      · exact absurd hw (n2 _)
      · have := m2 _ hw
        unfold dst
        omega
def near (w h o g c d : Int) : Bool := decide (0 ≤ st w h o c d) && decide (dst w h o g (st w h o c d) < dst w h o g c)
def fdir (w h o g c : Int) : Int := (([0, 1, 2, 3] : List Int).find? (near w h o g c)).getD 0
def wayM (w h o g : Int) : Nat → Int → List Int
  | 0, _ => []
  | n + 1, c => fdir w h o g c :: wayM w h o g n (st w h o c (fdir w h o g c))
theorem fdir_some {w h o g c : Int} {n : Nat} (hg : icell w h g = true) (hc : icell w h c = true) (H : dst w h o g c = (n : Int) + 1) :
    ([0, 1, 2, 3] : List Int).find? (near w h o g c) = some (fdir w h o g c) ∧ 0 ≤ st w h o c (fdir w h o g c) ∧ dst w h o g (st w h o c (fdir w h o g c)) = n := by
  obtain ⟨d, d0, d3, hd, hlt⟩ := dst_down hg hc H
  have hn : near w h o g c d = true := by unfold near; rw [decide_eq_true hd, decide_eq_true hlt]; rfl
  cases hf : ([0, 1, 2, 3] : List Int).find? (near w h o g c) with
  | none =>
    have := List.find?_eq_none.1 hf d (by have : d = 0 ∨ d = 1 ∨ d = 2 ∨ d = 3 := by omega
                                          rcases this with rfl | rfl | rfl | rfl <;> simp)
    exact absurd hn this
  | some e =>
    have he : fdir w h o g c = e := by unfold fdir; rw [hf]; rfl
    have hp := List.find?_some hf
    rw [he]
    unfold near at hp
    rw [Bool.and_eq_true, decide_eq_true_eq, decide_eq_true_eq] at hp
    obtain ⟨q1, q2⟩ := dst_near hg hp.1 (by omega)
    exact ⟨rfl, hp.1, by omega⟩
theorem drop_rd {l : List Int} {i : Nat} (hi : i < l.length) : l.drop i = rd l (i : Int) :: l.drop (i + 1) := by
  rw [List.drop_eq_getElem_cons hi]
  congr 1
  rw [rd_nat, List.getD_eq_getElem?_getD, List.getElem?_eq_getElem hi]
  rfl
theorem impl_way1 {w h o g c : Int} (hg : icell w h g = true) (hc : icell w h c = true) {W : List Int} (hW : W.length ≤ 4) (hd : ∀ d ∈ W, 0 ≤ st w h o c d) {acc : List Int} (ha : acc.length ≤ 1000) {k : Nat} (hk : 3 ≤ k) {d0 : Int} {r : List Int × Bool}
    (hr : impl_WayBetween.l0 k g (dists (st w h o) (stN w h) g) (acc ++ [d0]) (st w h o c d0) w h o = some r) : ∀ (m j : Nat), j + m = W.length → (W.drop j).find? (near w h o g c) = some d0 →
    impl_WayBetween.l1 (k + m) g (dists (st w h o) (stN w h) g) acc c W (W.length : Int) (j : Int) w h o = some r
  | 0, j, hj, hf => by rw [List.drop_of_length_le (by omega)] at hf; exact absurd hf (by simp)
  | m + 1, j, hj, hf => by
    have hjl : j < W.length := by omega
    have hmem : rd W (j : Int) ∈ W := rd_memI (by omega) (by omega)
    have h0 := hd _ hmem
    obtain ⟨_, _, f3, _, _⟩ := st_facts h0
    have cs := icell_iff.1 f3
    have cc := icell_iff.1 hc
    rw [drop_rd hjl] at hf
    rw [show k + (m + 1) = (k + m) + 1 by omega]
    simp only [impl_WayBetween.l1]
    rw [if_pos (by omega), if_pos (by omega), if_pos (by omega), impl_Step_eq (by omega), Option.bind_some, if_pos h0, if_pos (by rw [dists_length hg]; exact cs.2), if_pos cc.1, if_pos (by rw [dists_length hg]; exact cc.2)]
    show (if dst w h o g (st w h o c (rd W (j : Int))) < dst w h o g c then _ else _) = _
    by_cases hlt : dst w h o g (st w h o c (rd W (j : Int))) < dst w h o g c
    · have hn : near w h o g c (rd W (j : Int)) = true := by unfold near; rw [decide_eq_true h0, decide_eq_true hlt]; rfl
      rw [List.find?_cons_of_pos hn] at hf
      obtain rfl := Option.some.inj hf
      rw [if_pos hlt, if_pos (by omega)]
      exact at_rounds (g := fun k => impl_WayBetween.l0 k g (dists (st w h o) (stN w h) g) (acc ++ [rd W (j : Int)]) (st w h o c (rd W (j : Int))) w h o) (fun k => (impl_WayBetween.mono_l k).1 _ _ _ _ _ _ _) (k := k) (by omega) hr
    · have hn : ¬ near w h o g c (rd W (j : Int)) = true := by unfold near; rw [decide_eq_false hlt]; simp
      rw [List.find?_cons_of_neg hn] at hf
      rw [if_neg hlt, w64 (x := (j : Int) + 1) (by omega) (by omega)]
      have := impl_way1 hg hc hW hd ha hk hr m (j + 1) (by omega) hf
      rwa [Int.natCast_add] at this
theorem impl_way {w h o g : Int} (hg : icell w h g = true) : ∀ (n k : Nat) (acc : List Int) (c : Int), icell w h c = true → dst w h o g c = n → acc.length + n ≤ 1000 → 6 * n + 20 ≤ k → impl_WayBetween.l0 k g (dists (st w h o) (stN w h) g) acc c w h o = some (acc ++ wayM w h o g n c, true)
  | 0, k, acc, c, hc, hn, ha, hk => by
    obtain ⟨m, rfl⟩ : ∃ m, k = m + 1 := ⟨k - 1, by omega⟩
    simp only [impl_WayBetween.l0, wayM, List.append_nil]
    rw [if_pos ((dst_zero hg hc).1 hn)]
  | n + 1, k, acc, c, hc, hn, ha, hk => by
    obtain ⟨m, rfl⟩ : ∃ m, k = m + 1 := ⟨k - 1, by omega⟩
    have hne : ¬ c = g := fun e => by have := (dst_zero (o := o) hg hc).2 e; omega
    obtain ⟨e1, e2, e3⟩ := fdir_some (o := o) (n := n) hg hc (by omega)
    obtain ⟨_, _, f3, _, _⟩ := st_facts e2
    have ih := impl_way hg n (m - 4) (acc ++ [fdir w h o g c]) (st w h o c (fdir w h o g c)) f3 e3 (by simp only [List.length_append, List.length_singleton]; omega) (by omega)
    simp only [impl_WayBetween.l0]
    rw [if_neg hne, impl_WaysFrom_eq (by omega), Option.bind_some]
    have hw := ways_length w h o c
    have hf : ((ways w h o c).drop 0).find? (near w h o g c) = some (fdir w h o g c) := by
      rw [List.drop_zero, ← e1]
      unfold ways
      rw [List.find?_filter]
      congr 1
      funext d
      unfold near
      cases decide (0 ≤ st w h o c d) <;> simp
    have := impl_way1 hg hc hw (fun d hd => ways_mem hd) (by omega : acc.length ≤ 1000) (by omega : 3 ≤ m - 4) ih (ways w h o c).length 0 (by omega) hf
    have r := at_rounds (g := fun k => impl_WayBetween.l1 k g (dists (st w h o) (stN w h) g) acc c (ways w h o c) ((ways w h o c).length : Int) (0 : Int) w h o) (fun k => (impl_WayBetween.mono_l k).2 _ _ _ _ _ _ _ _ _ _) (k := m - 4 + (ways w h o c).length) (k' := m) (by omega) this
    rw [show wayM w h o g (n + 1) c = fdir w h o g c :: wayM w h o g n (st w h o c (fdir w h o g c)) from rfl]
    rw [List.append_assoc] at r
    exact r
theorem spec_way1 {w h o g c : Int} (hg : icell w h g = true) (hc : icell w h c = true) (hd1 : 1 ≤ dst w h o g c) {acc : List Int} (ha : acc.length ≤ 1000) {k : Nat} (hk : 3 ≤ k) {d0 : Int} {r : List Int × Bool}
    (hr : spec_WayBetween.l0 k (st w h o c d0) g (acc ++ [d0]) (dists (st w h o) (stN w h) g) w h o = some r) : ∀ (m j : Nat), j + m = 4 → (([0, 1, 2, 3] : List Int).drop j).find? (near w h o g c) = some d0 →
    spec_WayBetween.l1 (k + m) c g acc (dists (st w h o) (stN w h) g) (j : Int) w h o = some r
  | 0, j, hj, hf => by
    obtain rfl : j = 4 := by omega
    exact absurd hf (by simp)
  | m + 1, j, hj, hf => by
    have hjl : j < ([0, 1, 2, 3] : List Int).length := by show j < 4; omega
    have hrd : rd ([0, 1, 2, 3] : List Int) (j : Int) = (j : Int) := (by decide : ∀ j : Nat, j < 4 → rd ([0, 1, 2, 3] : List Int) (j : Int) = (j : Int)) j (by omega)
    have cc := icell_iff.1 hc
    rw [drop_rd hjl, hrd] at hf
    have hlt16 := dst_lt (o := o) (b := c) hg
    have next : ¬ near w h o g c (j : Int) = true → spec_WayBetween.l1 (k + m) c g acc (dists (st w h o) (stN w h) g) ((j : Int) + 1) w h o = some r := fun hn => by
      rw [List.find?_cons_of_neg hn] at hf
      have := spec_way1 hg hc hd1 ha hk hr m (j + 1) (by omega) hf
      rwa [Int.natCast_add] at this
    rw [show k + (m + 1) = (k + m) + 1 by omega]
    simp only [spec_WayBetween.l1]
    rw [if_pos (by omega), spec_Step_eq (by omega), Option.bind_some, w64 (x := (j : Int) + 1) (by omega) (by omega)]
    by_cases h0 : 0 ≤ st w h o c (j : Int)
    · obtain ⟨_, _, f3, _, _⟩ := st_facts h0
      have cs := icell_iff.1 f3
      obtain ⟨q1, q2⟩ := dst_near hg h0 (by omega)
      rw [if_pos h0, if_pos h0, if_pos (by rw [dists_length hg]; exact cs.2), if_pos cc.1, if_pos (by rw [dists_length hg]; exact cc.2)]
      show (if dst w h o g (st w h o c (j : Int)) = wrap64 (dst w h o g c - 1) then _ else _) = _
      rw [w64 (x := dst w h o g c - 1) (by omega) (by omega)]
      by_cases hlt : dst w h o g (st w h o c (j : Int)) < dst w h o g c
      · have hn : near w h o g c (j : Int) = true := by unfold near; rw [decide_eq_true h0, decide_eq_true hlt]; rfl
        rw [List.find?_cons_of_pos hn] at hf
        obtain rfl := Option.some.inj hf
        rw [if_pos (by omega), if_pos (by omega)]
        exact at_rounds (g := fun k => spec_WayBetween.l0 k (st w h o c (j : Int)) g (acc ++ [(j : Int)]) (dists (st w h o) (stN w h) g) w h o) (fun k => (spec_WayBetween.mono_l k).2.1 _ _ _ _ _ _ _) (k := k) (by omega) hr
      · rw [if_neg (by omega)]
        exact next (by unfold near; rw [decide_eq_false hlt]; simp)
    · rw [if_neg h0]
      exact next (by unfold near; rw [decide_eq_false h0]; simp)
theorem spec_way {w h o g : Int} (hg : icell w h g = true) : ∀ (n k : Nat) (acc : List Int) (c : Int), icell w h c = true → dst w h o g c = n → acc.length + n ≤ 1000 → 6 * n + 20 ≤ k → spec_WayBetween.l0 k c g acc (dists (st w h o) (stN w h) g) w h o = some (acc ++ wayM w h o g n c, true)
  | 0, k, acc, c, hc, hn, ha, hk => by
    obtain ⟨m, rfl⟩ : ∃ m, k = m + 1 := ⟨k - 1, by omega⟩
    simp only [spec_WayBetween.l0, wayM, List.append_nil]
    rw [if_pos ((dst_zero hg hc).1 hn)]
  | n + 1, k, acc, c, hc, hn, ha, hk => by
    obtain ⟨m, rfl⟩ : ∃ m, k = m + 4 + 1 := ⟨k - 5, by omega⟩
    have hne : ¬ c = g := fun e => by have := (dst_zero (o := o) hg hc).2 e; omega
    obtain ⟨e1, e2, e3⟩ := fdir_some (o := o) (n := n) hg hc (by omega)
    obtain ⟨_, _, f3, _, _⟩ := st_facts e2
    have ih := spec_way hg n m (acc ++ [fdir w h o g c]) (st w h o c (fdir w h o g c)) f3 e3 (by simp only [List.length_append, List.length_singleton]; omega) (by omega)
    simp only [spec_WayBetween.l0]
    rw [if_neg hne]
    have r := spec_way1 hg hc (by omega) (by omega : acc.length ≤ 1000) (by omega : 3 ≤ m) ih 4 0 (by omega) (by rw [List.drop_zero]; exact e1)
    rw [show wayM w h o g (n + 1) c = fdir w h o g c :: wayM w h o g n (st w h o c (fdir w h o g c)) from rfl]
    rw [List.append_assoc] at r
    exact r
def wayOf (w h o a b : Int) : List Int × Bool := if mok w h o = true ∧ icell w h a = true ∧ icell w h b = true ∧ 0 ≤ dst w h o b a then (wayM w h o b (dst w h o b a).toNat a, true) else ([], false)
theorem impl_WayBetween_eq {w h o : Int} {k : Nat} (hk : 300 ≤ k) (a b : Int) : impl_WayBetween.f k w h o a b = some (wayOf w h o a b) := by
  unfold impl_WayBetween.f wayOf
  rw [impl_DistanceOf_eq (by omega), Option.bind_some]
  by_cases H : mok w h o = true ∧ icell w h a = true ∧ icell w h b = true
  · obtain ⟨h1, h2, h3⟩ := H
    rw [if_pos (show mok w h o = true ∧ icell w h a = true ∧ icell w h b = true from ⟨h1, h2, h3⟩), dst_sym h2 h3]
    by_cases h4 : 0 ≤ dst w h o b a
    · rw [if_neg (by omega), if_pos ⟨h1, h2, h3, h4⟩, impl_distances_eq (by omega) h3, Option.bind_some]
      have hlt := dst_lt (o := o) (b := a) h3
      have := impl_way (o := o) h3 (dst w h o b a).toNat k [] a h2 (by omega) (by simp; omega) (by omega)
      simpa using this
    · rw [if_pos (by omega), if_neg (fun q => h4 q.2.2.2)]
  · rw [if_neg H, if_pos (by decide), if_neg (fun q => H ⟨q.1, q.2.1, q.2.2.1⟩)]
theorem spec_WayBetween_eq {w h o : Int} {k : Nat} (hk : 300 ≤ k) (a b : Int) : spec_WayBetween.f k w h o a b = some (wayOf w h o a b) := by
  obtain ⟨m, rfl⟩ : ∃ m, k = m + 1 := ⟨k - 1, by omega⟩
  unfold spec_WayBetween.f wayOf
  rw [spec_l04Has_eq, spec_l04Has_eq]
  simp only [Option.bind_some, spec_WayBetween.j0]
  cases h1 : mok w h o with
  | false => simp
  | true =>
    cases h2 : icell w h a with
    | false => simp
    | true =>
      cases h3 : icell w h b with
      | false => simp
      | true =>
        simp only [Bool.and_self, if_true, Bool.not_true, Bool.false_eq_true, if_false]
        have ca := icell_iff.1 h2
        rw [spec_l04Distances_eq (by omega) h3, Option.bind_some, if_pos ca.1, if_pos (by rw [dists_length h3]; exact ca.2)]
        show (if dst w h o b a < 0 then _ else _) = _
        by_cases h4 : 0 ≤ dst w h o b a
        · rw [if_neg (by omega), if_pos ⟨trivial, trivial, trivial, h4⟩]
          have hlt := dst_lt (o := o) (b := a) h3
          have := spec_way (o := o) h3 (dst w h o b a).toNat m [] a h2 (by omega) (by simp; omega) (by omega)
          simpa using this
        · rw [if_pos (by omega), if_neg (fun q => h4 q.2.2.2)]
def sgStep (w h o g : Int) (acc : List SSign) (i : Nat) : List SSign := if 0 < (wayOf w h o i g).1.length then acc ++ [⟨(i : Int), rd (wayOf w h o i g).1 0⟩] else acc
def sgTo (w h o g : Int) : List SSign := if (mok w h o && icell w h g) = true then (List.range' 0 (stN w h)).foldl (sgStep w h o g) [] else []
theorem sgStep_len (w h o g : Int) (acc : List SSign) (i : Nat) (ha : acc.length ≤ i) : (sgStep w h o g acc i).length ≤ i + 1 := by
  unfold sgStep
  split
  · simp only [List.length_append, List.length_singleton]; omega
  · omega
theorem stN_cells (w h : Int) : ((stN w h : Nat) : Int) = cells w h ∧ stN w h ≤ 16 := by have := cells_bd w h; unfold stN; omega
theorem sgTo_len (w h o g : Int) : (sgTo w h o g).length ≤ 16 := by
  unfold sgTo
  have hN := (stN_cells w h).2
  split
  · have : ∀ (d i : Nat) (s : List SSign), s.length ≤ i → ((List.range' i d).foldl (sgStep w h o g) s).length ≤ i + d := by
      intro d
      induction d with
      | zero => intro i s hs; simpa using hs
      | succ d ih => intro i s hs; rw [List.range'_succ, List.foldl_cons]; have := ih (i + 1) _ (sgStep_len w h o g s i hs); omega
    have := this (stN w h) 0 [] (Nat.le_refl _)
    omega
  · simp
theorem impl_SignsTo_eq {w h o : Int} {k : Nat} (hk : 400 ≤ k) (g : Int) : impl_SignsTo.f k w h o g = some (sgTo w h o g) := by
  obtain ⟨hN, hN2⟩ := stN_cells w h
  unfold impl_SignsTo.f sgTo
  rw [impl_isIn_eq]
  simp only [Option.bind_some, List.all_cons, List.all_nil, Bool.and_true]
  split
  · exact fold_loop (n := stN w h) (c := 300) (F := fun k (acc : List SSign) i => impl_SignsTo.l0 k g acc i w h o) (step := sgStep w h o g) (fin := fun acc : List SSign => acc) (I := fun acc i => acc.length ≤ i)
      (fun k acc i hk hi ha => by
        simp only [impl_SignsTo.l0]
        rw [impl_CountCells_eq, Option.bind_some, if_pos (by omega), impl_WayBetween_eq hk, Option.bind_some, w64_succ hi (by omega)]
        unfold sgStep
        by_cases h0 : 0 < (wayOf w h o i g).1.length
        · rw [if_pos (by omega), if_pos (by omega), if_pos (by omega), if_pos h0]
        · rw [if_neg (by omega), if_neg h0])
      (fun acc i _ ha => sgStep_len w h o g acc i ha)
      (fun k acc _ _ => by
        simp only [impl_SignsTo.l0]
        rw [impl_CountCells_eq, Option.bind_some, if_neg (by omega)]) (stN w h) 0 k [] (by omega) (by omega) (Nat.le_refl _)
  · rfl
theorem spec_SignsTo_eq {w h o : Int} {k : Nat} (hk : 400 ≤ k) (g : Int) : spec_SignsTo.f k w h o g = some (sgTo w h o g) := by
  obtain ⟨hN, hN2⟩ := stN_cells w h
  refine at_rounds (g := fun k => spec_SignsTo.f k w h o g) (fun k => spec_SignsTo.mono _ _ _ _ k) (k := 2 * (stN w h + 1) + 310) (by omega) ?_
  show spec_SignsTo.f _ w h o g = _
  unfold spec_SignsTo.f sgTo
  cases hh : (mok w h o && icell w h g) with
  | true =>
    rw [if_pos rfl]
    exact fold_loop (n := stN w h) (c := 0) (F := fun k (acc : List SSign) i => spec_SignsTo.l0 (2 * k + 310) g acc i w h o) (step := sgStep w h o g) (fin := fun acc : List SSign => acc) (I := fun acc i => acc.length ≤ i)
      (fun k acc i _ hi ha => by
        rw [show 2 * (k + 1) + 310 = (2 * k + 310) + 1 + 1 by omega]
        obtain ⟨q, hq⟩ : ∃ q, q = 2 * k + 310 := ⟨_, rfl⟩
        rw [← hq]
        have hq2 : 300 ≤ q := by omega
        clear hq
        simp only [spec_SignsTo.l0, spec_SignsTo.j1]
        rw [spec_CountCells_eq, Option.bind_some, if_pos (by omega), spec_l04Has_eq, Option.bind_some, if_pos hh, spec_WayBetween_eq hq2, Option.bind_some, w64_succ hi (by omega)]
        unfold sgStep
        by_cases h0 : 0 < (wayOf w h o i g).1.length
        · have h2 : (wayOf w h o i g).2 = true := by
            unfold wayOf at h0 ⊢
            split
            · rfl
            · rename_i hno; rw [if_neg hno] at h0; exact absurd h0 (by simp)
          rw [if_pos h2, if_pos (by omega), if_pos (by omega), if_pos (by omega), if_pos h0]
        · rw [if_neg h0]
          split
          · rw [if_neg (by omega)]
          · rfl)
      (fun acc i _ ha => sgStep_len w h o g acc i ha)
      (fun k acc _ _ => by
        rw [show 2 * (k + 1) + 310 = (2 * k + 310) + 1 + 1 by omega]
        obtain ⟨q, hq⟩ : ∃ q, q = 2 * k + 310 := ⟨_, rfl⟩
        rw [← hq]
        simp only [spec_SignsTo.l0, spec_SignsTo.j1]
        rw [spec_CountCells_eq, Option.bind_some, if_neg (by omega), if_neg (by decide)]) (stN w h) 0 (stN w h + 1) [] (by omega) (by omega) (Nat.le_refl _)
  | false =>
    rw [if_neg (by decide)]
    rw [show 2 * (stN w h + 1) + 310 = (2 * stN w h + 310) + 1 + 1 by omega]
    obtain ⟨q, hq⟩ : ∃ q, q = 2 * stN w h + 310 := ⟨_, rfl⟩
    rw [← hq]
    simp only [spec_SignsTo.l0, spec_SignsTo.j1]
    rw [spec_CountCells_eq, Option.bind_some]
    split
    · rw [spec_l04Has_eq, Option.bind_some, hh, if_neg (by decide)]
    · rw [if_neg (by decide)]
theorem markS_held {k : Nat} {l : List SSign} {a : Int} (h0 : 0 ≤ a) (h1 : a ≤ 1000000000) (hl : l.length ≤ 1000000) (hk : l.length + 1 ≤ k) :
    ∃ l', laws_markSignS.f k l a = some (a + 2 * l.length, l') ∧ ∀ k', l.length + 1 ≤ k' → laws_heldSignS.f k' l' a = some (a + 2 * l.length) := by
  obtain ⟨s, ⟨e1, e2, e3⟩, e4⟩ := inv_loop (n := l.length) (c := 0) (F := fun k (s : List SSign × Int) i => laws_markSignS.l0 k s.1 s.2 i) (fin := fun s => (s.2, s.1))
    (I := fun s i => s.1.length = l.length ∧ s.2 = a + 2 * i ∧ ∀ j : Nat, j < i → rd_Sign s.1 (j : Int) = ⟨a + 2 * j, a + 2 * j + 1⟩)
    (fun k s i _ hi ⟨i1, i2, i3⟩ => by
      obtain ⟨y, hy⟩ : ∃ y : List SSign, y = s.1.set i ⟨s.2, (rd_Sign s.1 (i : Int)).f1⟩ := ⟨_, rfl⟩
      have hr : ∀ j : Nat, rd_Sign (y.set i ⟨(rd_Sign y (i : Int)).f0, s.2 + 1⟩) (j : Int) = if i = j then ⟨s.2, s.2 + 1⟩ else rd_Sign s.1 (j : Int) := fun j => by
        show (y.set i _).getD j zSign = if i = j then _ else s.1.getD j zSign
        have hyi : rd_Sign y (i : Int) = ⟨s.2, (rd_Sign s.1 (i : Int)).f1⟩ := by
          show y.getD i zSign = _
          rw [hy, List.getD_eq_getElem?_getD, List.getElem?_set, if_pos rfl, if_pos (by omega)]
          rfl
        rw [hyi, List.getD_eq_getElem?_getD, List.getElem?_set]
        by_cases e : i = j
        · subst e
          rw [if_pos rfl, if_pos (by rw [hy]; simp; omega), if_pos rfl]
          rfl
        · rw [if_neg e, if_neg e, hy, List.getElem?_set, if_neg e, List.getD_eq_getElem?_getD]
      refine ⟨(y.set i ⟨(rd_Sign y (i : Int)).f0, s.2 + 1⟩, s.2 + 2), ⟨by rw [hy]; simpa using i1, by simp only; omega, fun j hj => ?_⟩, ?_⟩
      · simp only
        rw [hr j]
        by_cases e : i = j
        · rw [if_pos e, i2, ← e]
        · rw [if_neg e]; exact i3 j (by omega)
      · simp only [laws_markSignS.l0]
        rw [if_pos (by omega), if_pos (by omega), Option.bind_some, w64_succ hi (by omega), w64 (x := s.2 + 1) (by omega) (by omega), w64 (by omega) (by omega), show s.2 + 1 + 1 = s.2 + 2 by omega, Int.toNat_natCast, ← hy])
    (fun k s _ h => by
      simp only [laws_markSignS.l0]
      rw [if_neg (by omega)]) l.length 0 k (l, a) (by omega) (by omega) ⟨rfl, by simp, fun j hj => by omega⟩
  refine ⟨s.1, ?_, fun k' hk' => ?_⟩
  · rw [← e2]
    exact e4
  · obtain ⟨s', e5, e6⟩ := inv_loop (n := l.length) (c := 0) (F := fun k (x : Int) i => laws_heldSignS.l0 k s.1 x i) (fin := fun x => x) (I := fun x i => x = a + 2 * i)
      (fun k x i _ hi hx => ⟨x + 2, by omega, by
        have h3 := e3 i hi
        simp only [laws_heldSignS.l0]
        rw [if_pos (by omega), if_pos (by omega), if_pos (by rw [h3, hx]), w64 (x := x + 1) (by omega) (by omega), if_pos (by rw [h3, hx]), w64_succ hi (by omega), w64 (by omega) (by omega), show x + 1 + 1 = x + 2 by omega]⟩)
      (fun k x _ _ => by
        simp only [laws_heldSignS.l0]
        rw [if_neg (by omega)]) l.length 0 k' a (by omega) (by omega) (by simp)
    rw [← e5]
    exact e6
end Go.Proofs.Ytioplamkdoelpaa.F
end

section
namespace Go.Proofs.Ytioplamkdoelpaa.F
open Go.RowKit Go.Proofs.YtioplamkdoelpaaW.PrintWords Go.Proofs.YtioplamkdoelpaaW.PrintLast Go.Proofs.YtioplamkdoelpaaW.PrintMore
set_option linter.unusedVariables false
set_option linter.unusedSimpArgs false
theorem FnExactSignsTo_pure : ∀ (a0_0 : Int) (a0_1 : Int) (a0_2 : Int) (a1 : Int), (I64 (a0_0)) → (I64 (a0_1)) → (I64 (a0_2)) → (I64 (a1)) → ∃ k, laws_FnExactSignsTo.f k a0_0 a0_1 a0_2 a1 = some true := by
  intro w h o g _ _ _ _
  refine ⟨400, ?_⟩
  have hl := sgTo_len w h o g
  obtain ⟨l', e1, e2⟩ := markS_held (k := 400) (l := sgTo w h o g) (a := 1) (by decide) (by decide) (by omega) (by omega)
  have hq : laws_eqSignS.f 400 (sgTo w h o g) (sgTo w h o g) = some true := laws_eqSignS_refl (by omega) (by omega)
  have hn : ¬ (1 + 2 * ((sgTo w h o g).length : Int) < 0) := by omega
  unfold laws_FnExactSignsTo.f
  simp only [laws_toMaze.f, laws_toGrid.f, Option.bind_some, spec_SignsTo_eq (Nat.le_refl 400), impl_SignsTo_eq (Nat.le_refl 400), hq, if_true, e1, e2 400 (by omega), if_neg hn]
end Go.Proofs.Ytioplamkdoelpaa.F
end
