/- Packed by a program of the session (wip/tools/pack.py): what the claim's theorem reaches, of the texts that wip/ and the kit's printer lay. -/
import Derived.Test.YtccjanhdnheclaaPkFnLocated9
section
namespace Go.Proofs.Ytccjanhdnheclaa.F
open Go.RowKit Go.Proofs.YtccjanhdnheclaaW.PrintWords Go.Proofs.YtccjanhdnheclaaW.PrintLast Go.Proofs.YtccjanhdnheclaaW.PrintMore
set_option linter.unusedVariables false
set_option linter.unusedSimpArgs false
def nf (f t : Int) : Int := Int.tmod (wrap64 (f + t)) 4
def nx (w h o c f t : Int) : Int := st w h o c (nf f t)
theorem impl_went_eq {k : Nat} (hk : 3 ≤ k) (w h o c f t : Int) : impl_went.f k w h o c f t = some (nx w h o c f t, nf f t, decide (0 ≤ nx w h o c f t)) := by
  unfold impl_went.f impl_marked.f
  rw [impl_Step_eq hk]
  rfl
theorem spec_l33Turned_eq {k : Nat} (hk : 1 ≤ k) (w h o c f t : Int) : spec_l33Turned.f k w h o c f t = some (if nx w h o c f t < 0 then (c, f, false) else (nx w h o c f t, nf f t, true)) := by
  unfold spec_l33Turned.f
  rw [spec_Step_eq hk, Option.bind_some]
  show (if nx w h o c f t < 0 then _ else _) = _
  split <;> rfl
theorem wok_nx {w h o c f t : Int} (H : 0 ≤ nx w h o c f t) : wok w h o (nx w h o c f t) (nf f t) = true := by
  obtain ⟨h1, h2, h3, h4, h5⟩ := st_facts (show 0 ≤ st w h o c (nf f t) from H)
  unfold wok
  rw [h1, show icell w h (nx w h o c f t) = true from h3, decide_eq_true ⟨h4, h5⟩]
  rfl
theorem four_getD : ∀ i : Nat, i < 4 → ([0, 1, 2, 3] : List Int).getD i 0 = (i : Int) := by decide
def alk (w h o : Int) : Nat → Int → Int → Int → Int → Bool
  | 0, a, p, b, q => pat w h o a p == pat w h o b q
  | d + 1, a, p, b, q => (pat w h o a p == pat w h o b q) && ([0, 1, 2, 3] : List Int).all fun t =>
      (decide (0 ≤ nx w h o a p t) == decide (0 ≤ nx w h o b q t)) && (!decide (0 ≤ nx w h o a p t) || alk w h o d (nx w h o a p t) (nf p t) (nx w h o b q t) (nf q t))
theorem impl_alike_eq (w h o : Int) : ∀ (d k : Nat) (a p b q : Int), d ≤ 6 → 16 * d + 24 ≤ k → impl_alike.f k w h o a p b q (d : Int) = some (alk w h o d a p b q)
  | 0, k, a, p, b, q, hd, hk => by
    obtain ⟨m, rfl⟩ : ∃ m, k = m + 3 := ⟨k - 3, by omega⟩
    simp only [impl_alike.f, impl_PatternAt_eq (show 8 ≤ m + 2 by omega), Option.bind_some]
    unfold alk
    by_cases e : pat w h o a p = pat w h o b q
    · rw [if_pos e]
      simp only [impl_alike.l0, impl_alike.j1]
      rw [if_neg (by decide)]
      simp [e]
    · rw [if_neg e]
      simp [e]
  | d + 1, k, a, p, b, q, hd, hk => by
    refine at_rounds (g := fun k => impl_alike.f k w h o a p b q ((d + 1 : Nat) : Int)) (fun k => impl_alike.mono w h o a p b q _ k) (k := (2 * 5 + (16 * d + 24)) + 1) (by omega) ?_
    show impl_alike.f _ w h o a p b q _ = _
    have ih : ∀ (k : Nat) (a p b q : Int), 16 * d + 24 ≤ k → impl_alike.f k w h o a p b q (d : Int) = some (alk w h o d a p b q) := fun k a p b q hk => impl_alike_eq w h o d k a p b q (by omega) hk
    obtain ⟨r, hr⟩ : ∃ r, r = 2 * 5 + (16 * d + 24) := ⟨_, rfl⟩
    rw [← hr]
    simp only [impl_alike.f, impl_PatternAt_eq (show 8 ≤ r by omega), Option.bind_some]
    rw [hr]
    unfold alk
    by_cases e : pat w h o a p = pat w h o b q
    · rw [if_pos e, show (pat w h o a p == pat w h o b q) = true by simp [e], Bool.true_and]
      have := all_loop (c := 0) (k := 5) (0 : Int) (F := fun k i => impl_alike.l0 (2 * k + (16 * d + 24)) ((d + 1 : Nat) : Int) i w h o a p b q) (l := [0, 1, 2, 3]) (b := true)
        (p := fun t => (decide (0 ≤ nx w h o a p t) == decide (0 ≤ nx w h o b q t)) && (!decide (0 ≤ nx w h o a p t) || alk w h o d (nx w h o a p t) (nf p t) (nx w h o b q t) (nf q t)))
        (fun k i _ hi => by
          have hi4 : i < 4 := hi
          rw [show 2 * (k + 1) + (16 * d + 24) = (2 * k + (16 * d + 24)) + 1 + 1 by omega, four_getD i hi4]
          obtain ⟨z, hz⟩ : ∃ z, z = 2 * k + (16 * d + 24) := ⟨_, rfl⟩
          rw [← hz]
          have hz2 : 16 * d + 24 ≤ z := by omega
          clear hz
          simp only [impl_alike.l0, impl_alike.j1]
          rw [if_pos (by omega), if_pos (decide_eq_true (by omega)), impl_went_eq (by omega), Option.bind_some, impl_went_eq (by omega), Option.bind_some, w64 (x := ((d + 1 : Nat) : Int) - 1) (by omega) (by omega), show ((d + 1 : Nat) : Int) - 1 = (d : Int) by omega, ih z _ _ _ _ hz2, Option.bind_some, w64 (x := (i : Int) + 1) (by omega) (by omega)]
          simp only
          cases decide (0 ≤ nx w h o a p (i : Int)) <;> cases decide (0 ≤ nx w h o b q (i : Int)) <;> cases alk w h o d (nx w h o a p (i : Int)) (nf p (i : Int)) (nx w h o b q (i : Int)) (nf q (i : Int)) <;> simp)
        (fun k _ => by
          rw [show 2 * (k + 1) + (16 * d + 24) = (2 * k + (16 * d + 24)) + 1 + 1 by omega]
          obtain ⟨z, hz⟩ : ∃ z, z = 2 * k + (16 * d + 24) := ⟨_, rfl⟩
          rw [← hz]
          simp only [impl_alike.l0, impl_alike.j1]
          rw [if_pos (by omega), if_neg (by simp)]) (by decide)
      rw [Bool.and_true] at this
      exact this
    · rw [if_neg e, show (pat w h o a p == pat w h o b q) = false by simp [e], Bool.false_and]
def lkw (w h o a p b q d : Int) : Bool := if wok w h o a p = true ∧ wok w h o b q = true ∧ 0 ≤ d ∧ d ≤ 6 then alk w h o d.toNat a p b q else false
theorem impl_LikeWalkers_eq {k : Nat} (hk : 200 ≤ k) (w h o a p b q d : Int) : impl_LikeWalkers.f k w h o a p b q d = some (lkw w h o a p b q d) := by
  unfold impl_LikeWalkers.f lkw
  rw [impl_WalkerOk_eq, impl_WalkerOk_eq]
  by_cases H : wok w h o a p = true ∧ wok w h o b q = true ∧ 0 ≤ d ∧ d ≤ 6
  · obtain ⟨h1, h2, h3, h4⟩ := H
    obtain ⟨n, rfl⟩ : ∃ n : Nat, (n : Int) = d := ⟨d.toNat, by omega⟩
    rw [if_pos (show _ ∧ _ ∧ _ ∧ _ from ⟨h1, h2, h3, h4⟩)]
    simp only [Option.bind_some]
    rw [if_pos h1, if_pos h2]
    show (if (n : Int) ≥ 0 then _ else _) = _
    rw [if_pos h3, if_pos h4, impl_alike_eq w h o n k a p b q (by omega) (by omega)]
    rfl
  · rw [if_neg H]
    simp only [Option.bind_some]
    by_cases h1 : wok w h o a p = true
    · rw [if_pos h1]
      by_cases h2 : wok w h o b q = true
      · rw [if_pos h2]
        by_cases h3 : d ≥ 0
        · rw [if_pos h3, if_neg (fun h4 => H ⟨h1, h2, h3, h4⟩)]
        · rw [if_neg h3]
      · rw [if_neg h2]
    · rw [if_neg h1]
end Go.Proofs.Ytccjanhdnheclaa.F
end

section
namespace Go.Proofs.Ytccjanhdnheclaa.F
open Go.RowKit Go.Proofs.YtccjanhdnheclaaW.PrintWords Go.Proofs.YtccjanhdnheclaaW.PrintLast Go.Proofs.YtccjanhdnheclaaW.PrintMore
set_option linter.unusedVariables false
set_option linter.unusedSimpArgs false
def turn4 (x : Int) : Bool := decide (0 ≤ x ∧ x ≤ 3)
theorem impl_areTurns_eq (l : List Int) (n : Int) : impl_areTurns.f l n = some (decide ((l.length : Int) ≤ n) && l.all turn4) := by
  unfold impl_areTurns.f
  by_cases h : (l.length : Int) ≤ n
  · rw [if_pos h, decide_eq_true h]; rfl
  · rw [if_neg h, decide_eq_false h]; rfl
def repR (w h o : Int) : Int → Int → List Int → List Int → List Int × Bool
  | _, _, [], acc => (acc, true)
  | c, f, t :: ts, acc => if 0 ≤ nx w h o c f t then repR w h o (nx w h o c f t) (nf f t) ts (acc ++ [pat w h o (nx w h o c f t) (nf f t)]) else ([], false)
def repOf (w h o c f : Int) (l : List Int) : List Int × Bool := if wok w h o c f = true ∧ (decide ((l.length : Int) ≤ 40) && l.all turn4) = true then repR w h o c f l [pat w h o c f] else ([], false)
theorem drop_step {l : List Int} {i : Nat} (hi : i < l.length) : l.drop i = rd l (i : Int) :: l.drop (i + 1) := by
  rw [List.drop_eq_getElem_cons hi]
  congr 1
  rw [rd_nat, List.getD_eq_getElem?_getD, List.getElem?_eq_getElem hi]
  rfl
theorem impl_rep_loop (w h o : Int) (l : List Int) (hl : l.length ≤ 40) : ∀ (d i k : Nat) (acc : List Int) (c f : Int), i + d = l.length → d + 9 ≤ k → acc.length + d ≤ 1000 → impl_ReportOf.l0 k acc l (l.length : Int) (i : Int) w h o c f = some (repR w h o c f (l.drop i) acc)
  | 0, i, k, acc, c, f, hi, hk, ha => by
    obtain ⟨m, rfl⟩ : ∃ m, k = m + 1 := ⟨k - 1, by omega⟩
    simp only [impl_ReportOf.l0]
    rw [if_neg (by omega), List.drop_of_length_le (by omega)]
    rfl
  | d + 1, i, k, acc, c, f, hi, hk, ha => by
    obtain ⟨m, rfl⟩ : ∃ m, k = m + 1 := ⟨k - 1, by omega⟩
    simp only [impl_ReportOf.l0]
    rw [if_pos (by omega), if_pos (by omega), if_pos (by omega), impl_went_eq (by omega), Option.bind_some, drop_step (by omega)]
    unfold repR
    by_cases hn : 0 ≤ nx w h o c f (rd l (i : Int))
    · rw [if_pos hn, if_pos (decide_eq_true hn)]
      simp only
      rw [impl_PatternAt_eq (by omega), Option.bind_some, if_pos (by omega), w64 (x := (i : Int) + 1) (by omega) (by omega)]
      have := impl_rep_loop w h o l hl d (i + 1) m (acc ++ [pat w h o (nx w h o c f (rd l (i : Int))) (nf f (rd l (i : Int)))]) (nx w h o c f (rd l (i : Int))) (nf f (rd l (i : Int))) (by omega) (by omega) (by simp only [List.length_append, List.length_singleton]; omega)
      rwa [Int.natCast_add] at this
    · rw [if_neg hn, if_neg (by rw [decide_eq_false hn]; exact Bool.false_ne_true)]
theorem impl_ReportOf_eq {k : Nat} {l : List Int} (hl : l.length ≤ 1048576) (hk : 60 ≤ k) (w h o c f : Int) : impl_ReportOf.f k w h o c f l = some (repOf w h o c f l) := by
  obtain ⟨m, rfl⟩ : ∃ m, k = m + 1 := ⟨k - 1, by omega⟩
  unfold impl_ReportOf.f repOf
  rw [impl_WalkerOk_eq, impl_areTurns_eq]
  simp only [Option.bind_some, impl_ReportOf.j0]
  cases h1 : wok w h o c f with
  | false => simp
  | true =>
    cases h2 : (decide ((l.length : Int) ≤ 40) && l.all turn4) with
    | false => simp
    | true =>
      have h3 := h2
      rw [Bool.and_eq_true, decide_eq_true_eq] at h3
      simp only [if_true, Bool.not_true, Bool.false_eq_true, if_false]
      rw [impl_PatternAt_eq (by omega), Option.bind_some]
      have := impl_rep_loop w h o l (by omega) l.length 0 m [pat w h o c f] c f (by omega) (by omega) (by simp; omega)
      simpa using this
end Go.Proofs.Ytccjanhdnheclaa.F
end

section
namespace Go.Proofs.Ytccjanhdnheclaa.F
open Go.RowKit Go.Proofs.YtccjanhdnheclaaW.PrintWords Go.Proofs.YtccjanhdnheclaaW.PrintLast Go.Proofs.YtccjanhdnheclaaW.PrintMore
set_option linter.unusedVariables false
set_option linter.unusedSimpArgs false
theorem rd_set {D : List Int} {i x v : Int} (hi : 0 ≤ i) (hx : 0 ≤ x) (hl : i < D.length) : rd (D.set i.toNat v) x = if x = i then v else rd D x := by
  unfold rd
  rw [List.getD_eq_getElem?_getD, List.getElem?_set]
  by_cases h : x = i
  · subst h
    rw [if_pos rfl, if_pos (by omega), if_pos rfl]; rfl
  · rw [if_neg (by omega), if_neg h, List.getD_eq_getElem?_getD]
theorem rd_lt {D : List Int} {x : Int} (hx : 0 ≤ x) (hl : x < D.length) : ∃ h : x.toNat < D.length, rd D x = D[x.toNat] := by
  have h : x.toNat < D.length := by omega
  exact ⟨h, by unfold rd; rw [List.getD_eq_getElem?_getD, List.getElem?_eq_getElem h]; rfl⟩
theorem rd_memI {D : List Int} {x : Int} (hx : 0 ≤ x) (hl : x < D.length) : rd D x ∈ D := by
  obtain ⟨h, e⟩ := rd_lt hx hl
  rw [e]; exact List.getElem_mem h
theorem mem_rd {D : List Int} {v : Int} (h : v ∈ D) : ∃ j : Nat, j < D.length ∧ rd D (j : Int) = v := by
  obtain ⟨j, hj, rfl⟩ := List.getElem_of_mem h
  exact ⟨j, hj, by rw [rd_nat, List.getD_eq_getElem?_getD, List.getElem?_eq_getElem hj]; rfl⟩
theorem rd_app_left {D E : List Int} {j : Nat} (h : j < D.length) : rd (D ++ E) (j : Int) = rd D (j : Int) := by
  simp only [rd_nat, List.getD_eq_getElem?_getD]
  rw [List.getElem?_append_left h]
theorem rd_app_last {D : List Int} {v : Int} : rd (D ++ [v]) (D.length : Int) = v := by
  simp only [rd_nat, List.getD_eq_getElem?_getD]
  rw [List.getElem?_append_right (Nat.le_refl _)]
  simp
def bfsD (nx : Int → Int → Int) (c : Int) : List Int → List Int × List Int → List Int × List Int
  | [], s => s
  | d :: ds, s => if 0 ≤ nx c d ∧ rd s.1 (nx c d) < 0 then bfsD nx c ds (s.1.set (nx c d).toNat (rd s.1 c + 1), s.2 ++ [nx c d]) else bfsD nx c ds s
def bfs (nx : Int → Int → Int) : Nat → Nat → List Int × List Int → List Int
  | 0, _, s => s.1
  | f + 1, i, s => if i < s.2.length then bfs nx f (i + 1) (bfsD nx (rd s.2 i) [0, 1, 2, 3] s) else s.1
def dists (nx : Int → Int → Int) (N : Nat) (a : Int) : List Int := bfs nx (N + 1) 0 ((List.replicate N (-1)).set a.toNat 0, [a])
inductive Walk (nx : Int → Int → Int) (a : Int) : Nat → Int → Prop
  | nil : Walk nx a 0 a
  | snoc {n : Nat} {b d : Int} : Walk nx a n b → 0 ≤ nx b d → Walk nx a (n + 1) (nx b d)
structure Steps (nx : Int → Int → Int) (N : Nat) : Prop where
  rng : ∀ c d, 0 ≤ nx c d → 0 ≤ c ∧ c < N ∧ nx c d < N ∧ 0 ≤ d ∧ d ≤ 3
structure Bfs (nx : Int → Int → Int) (N : Nat) (a : Int) (D Q : List Int) : Prop where
  len : D.length = N
  cnt : D.countP (· < 0) + Q.length = N
  inq : ∀ x ∈ Q, 0 ≤ x ∧ x < N ∧ 0 ≤ rd D x ∧ Walk nx a (rd D x).toNat x
  out : ∀ x : Int, 0 ≤ x → x < N → x ∉ Q → rd D x = -1
  src : rd D a = 0 ∧ a ∈ Q
  mono : ∀ j k : Nat, j ≤ k → k < Q.length → rd D (rd Q j) ≤ rd D (rd Q k)
structure BfsAt (nx : Int → Int → Int) (N : Nat) (a : Int) (i : Nat) (D Q : List Int) : Prop extends Bfs nx N a D Q where
  near : i < Q.length → ∀ x ∈ Q, rd D x ≤ rd D (rd Q i) + 1
  done : ∀ j, j < i → j < Q.length → ∀ d, 0 ≤ nx (rd Q j) d → nx (rd Q j) d ∈ Q ∧ rd D (nx (rd Q j) d) ≤ rd D (rd Q j) + 1
theorem countP_lt_set {D : List Int} {i v : Int} (hi : 0 ≤ i) (hl : i < D.length) (hneg : rd D i < 0) (hv : 0 ≤ v) : (D.set i.toNat v).countP (· < 0) + 1 = D.countP (· < 0) := by
  obtain ⟨h, e⟩ := rd_lt hi hl
  rw [e] at hneg
  have hpos : 0 < D.countP (· < 0) := List.countP_pos_iff.2 ⟨D[i.toNat], List.getElem_mem h, by simpa using hneg⟩
  rw [List.countP_set h]
  simp [hneg, show ¬ v < 0 by omega]
  omega
theorem bfs_push {nx : Int → Int → Int} {N : Nat} {a : Int} {i : Nat} {D Q : List Int} (S : Steps nx N) (B : BfsAt nx N a i D Q) (hi : i < Q.length) {d : Int} (h0 : 0 ≤ nx (rd Q i) d) (hneg : rd D (nx (rd Q i) d) < 0) :
    BfsAt nx N a i (D.set (nx (rd Q i) d).toNat (rd D (rd Q i) + 1)) (Q ++ [nx (rd Q i) d]) := by
  have hci : rd Q i ∈ Q := rd_memI (by omega) (by omega)
  generalize hc : rd Q i = c at *
  generalize hn : nx c d = n at *
  have hr := S.rng c d (by omega)
  rw [hn] at hr
  obtain ⟨c0, c1, cd, cw⟩ := B.inq c hci
  have hnl : n < D.length := by rw [B.len]; omega
  have hnQ : n ∉ Q := fun h => by have := (B.inq n h).2.2.1; omega
  have same : ∀ x ∈ Q, rd (D.set n.toNat (rd D c + 1)) x = rd D x := fun x hx => by
    have := (B.inq x hx).1
    rw [rd_set h0 this hnl, if_neg (by rintro rfl; exact hnQ hx)]
  have newv : rd (D.set n.toNat (rd D c + 1)) n = rd D c + 1 := by rw [rd_set h0 h0 hnl, if_pos rfl]
  have rq : ∀ j : Nat, j < Q.length → rd (Q ++ [n]) (j : Int) = rd Q (j : Int) := fun j hj => rd_app_left hj
  have wn : Walk nx a (rd D c + 1).toNat n := by
    have := Walk.snoc (d := d) cw (by omega)
    rw [hn] at this
    rwa [show (rd D c).toNat + 1 = (rd D c + 1).toNat by omega] at this
  refine ⟨⟨by rw [List.length_set, B.len], ?_, ?_, ?_, ?_, ?_⟩, ?_, ?_⟩
  · have := countP_lt_set (v := rd D c + 1) h0 hnl hneg (by omega)
    have := B.cnt
    rw [List.length_append, List.length_singleton]
    omega
  · intro x hx
    rcases List.mem_append.1 hx with hx | hx
    · rw [same x hx]; exact B.inq x hx
    · rw [List.mem_singleton.1 hx, newv]
      exact ⟨h0, hr.2.2.1, by omega, wn⟩
  · intro x x0 x1 hx
    rw [List.mem_append, not_or] at hx
    rw [rd_set h0 x0 hnl, if_neg (by rintro rfl; exact hx.2 (by simp))]
    exact B.out x x0 x1 hx.1
  · exact ⟨by rw [same a B.src.2]; exact B.src.1, List.mem_append_left _ B.src.2⟩
  · intro j k hjk hk
    rw [List.length_append, List.length_singleton] at hk
    by_cases hk' : k < Q.length
    · rw [rq j (by omega), rq k hk', same _ (rd_memI (by omega) (by omega)), same _ (rd_memI (by omega) (by omega))]
      exact B.mono j k hjk hk'
    · have ek : k = Q.length := by omega
      subst ek
      rw [rd_app_last, newv]
      by_cases hj' : j < Q.length
      · rw [rq j hj', same _ (rd_memI (by omega) (by omega))]
        have := B.near hi _ (rd_memI (D := Q) (x := (j : Int)) (by omega) (by omega))
        rw [hc] at this
        exact this
      · have ej : j = Q.length := by omega
        subst ej
        rw [rd_app_last, newv]
        exact Int.le_refl _
  · intro _ x hx
    rw [rq i hi, hc]
    rcases List.mem_append.1 hx with hx | hx
    · rw [same x hx, same c hci]
      have := B.near hi x hx
      rwa [hc] at this
    · rw [List.mem_singleton.1 hx, newv, same c hci]
      exact Int.le_refl _
  · intro j hj hjl e he
    rw [rq j (by omega)] at he ⊢
    obtain ⟨m1, m2⟩ := B.done j hj (by omega) e he
    exact ⟨List.mem_append_left _ m1, by rw [same _ m1, same _ (rd_memI (by omega) (by omega))]; exact m2⟩
theorem bfs_dirs {nx : Int → Int → Int} {N : Nat} {a : Int} {i : Nat} (S : Steps nx N) : ∀ (ds : List Int) (D Q : List Int), BfsAt nx N a i D Q → i < Q.length → ∀ D' Q', bfsD nx (rd Q i) ds (D, Q) = (D', Q') →
    BfsAt nx N a i D' Q' ∧ i < Q'.length ∧ rd Q' i = rd Q i ∧ (∀ x ∈ Q, x ∈ Q') ∧ (∀ d ∈ ds, 0 ≤ nx (rd Q i) d → nx (rd Q i) d ∈ Q' ∧ rd D' (nx (rd Q i) d) ≤ rd D' (rd Q i) + 1)
  | [], D, Q, B, hi, D', Q', e => by
    simp only [bfsD, Prod.mk.injEq] at e
    obtain ⟨rfl, rfl⟩ := e
    exact ⟨B, hi, rfl, fun _ h => h, fun d hd => by simp at hd⟩
  | d :: ds, D, Q, B, hi, D', Q', e => by
    simp only [bfsD] at e
    by_cases h : 0 ≤ nx (rd Q i) d ∧ rd D (nx (rd Q i) d) < 0
    · rw [if_pos h] at e
      have B' := bfs_push S B hi h.1 h.2
      have hq : rd (Q ++ [nx (rd Q i) d]) (i : Int) = rd Q i := rd_app_left hi
      have hi' : i < (Q ++ [nx (rd Q i) d]).length := by rw [List.length_append]; omega
      rw [← hq] at e
      obtain ⟨r1, r2, r3, r4, r5⟩ := bfs_dirs S ds _ _ B' hi' D' Q' (by rw [hq] at e ⊢; exact e)
      rw [hq] at r3 r5
      refine ⟨r1, r2, r3, fun x hx => r4 x (List.mem_append_left _ hx), fun e' he h0 => ?_⟩
      rcases List.mem_cons.1 he with rfl | he
      · have hm := r4 (nx (rd Q i) e') (by simp)
        have := r1.near r2 _ hm
        rw [r3] at this
        exact ⟨hm, this⟩
      · exact r5 e' he h0
    · rw [if_neg h] at e
      obtain ⟨r1, r2, r3, r4, r5⟩ := bfs_dirs S ds D Q B hi D' Q' e
      refine ⟨r1, r2, r3, r4, fun e' he h0 => ?_⟩
      rcases List.mem_cons.1 he with rfl | he
      · have hr := S.rng _ _ h0
        have hge : ¬ rd D (nx (rd Q i) e') < 0 := fun hh => h ⟨h0, hh⟩
        have hm : nx (rd Q i) e' ∈ Q := by
          by_cases hx : nx (rd Q i) e' ∈ Q
          · exact hx
          · have := B.out _ h0 hr.2.2.1 hx
            omega
        have := r1.near r2 _ (r4 _ hm)
        rw [r3] at this
        exact ⟨r4 _ hm, this⟩
      · exact r5 e' he h0
theorem bfs_run {nx : Int → Int → Int} {N : Nat} {a : Int} (S : Steps nx N) : ∀ (f i : Nat) (D Q : List Int), BfsAt nx N a i D Q → N < f + i → ∃ Q', BfsAt nx N a Q'.length (bfs nx f i (D, Q)) Q' ∨ (∃ j, Q'.length ≤ j ∧ BfsAt nx N a j (bfs nx f i (D, Q)) Q')
  | 0, i, D, Q, B, hf => ⟨Q, .inr ⟨i, by have := B.cnt; omega, B⟩⟩
  | f + 1, i, D, Q, B, hf => by
    simp only [bfs]
    by_cases hi : i < Q.length
    · rw [if_pos hi]
      generalize hs : bfsD nx (rd Q i) [0, 1, 2, 3] (D, Q) = s
      obtain ⟨D', Q'⟩ := s
      obtain ⟨r1, r2, r3, r4, r5⟩ := bfs_dirs S _ D Q B hi D' Q' hs
      refine bfs_run S f (i + 1) D' Q' ⟨r1.toBfs, fun h x hx => ?_, fun j hj hjl d hd => ?_⟩ (by omega)
      · have h1 := r1.near r2 x hx
        have h2 := r1.mono i (i + 1) (by omega) h
        omega
      · by_cases hj' : j = i
        · subst hj'
          rw [r3] at hd ⊢
          have hr := S.rng _ _ hd
          exact r5 d (by have : d = 0 ∨ d = 1 ∨ d = 2 ∨ d = 3 := by omega
                         rcases this with rfl | rfl | rfl | rfl <;> simp) hd
        · exact r1.done j (by omega) hjl d hd
    · rw [if_neg hi]
      exact ⟨Q, .inr ⟨i, by omega, B⟩⟩
theorem dists_spec {nx : Int → Int → Int} {N : Nat} {a : Int} (S : Steps nx N) (h0 : 0 ≤ a) (h1 : a < N) : (dists nx N a).length = N ∧ rd (dists nx N a) a = 0 ∧
    ∀ x : Int, 0 ≤ x → x < N → (rd (dists nx N a) x = -1 ∧ ∀ n, ¬ Walk nx a n x) ∨ (0 ≤ rd (dists nx N a) x ∧ Walk nx a (rd (dists nx N a) x).toNat x ∧ ∀ n, Walk nx a n x → rd (dists nx N a) x ≤ n) := by
  have hrep : ∀ x : Int, 0 ≤ x → x < N → rd (List.replicate N (-1)) x = -1 := fun x x0 x1 => by
    obtain ⟨h, e⟩ := rd_lt (D := List.replicate N (-1 : Int)) x0 (by simpa using x1)
    rw [e, List.getElem_replicate]
  have hset : ∀ x : Int, 0 ≤ x → x < N → rd ((List.replicate N (-1)).set a.toNat 0) x = if x = a then 0 else -1 := fun x x0 x1 => by
    rw [rd_set h0 x0 (by simpa using h1)]
    split
    · rfl
    · exact hrep x x0 x1
  have B0 : BfsAt nx N a 0 ((List.replicate N (-1)).set a.toNat 0) [a] := by
    refine ⟨⟨by simp, ?_, ?_, ?_, ?_, ?_⟩, ?_, ?_⟩
    · have := countP_lt_set (D := List.replicate N (-1 : Int)) (i := a) (v := 0) h0 (by simpa using h1) (by rw [hrep a h0 h1]; decide) (by decide)
      rw [List.countP_replicate] at this
      simpa using this
    · intro x hx
      rw [List.mem_singleton.1 hx, hset a h0 h1, if_pos rfl]
      exact ⟨h0, h1, by decide, Walk.nil⟩
    · intro x x0 x1 hx
      rw [hset x x0 x1, if_neg (by simpa using hx)]
    · exact ⟨by rw [hset a h0 h1, if_pos rfl], by simp⟩
    · intro j k hjk hk
      have : j = 0 := by simp at hk; omega
      have : k = 0 := by simp at hk; omega
      subst_vars
      exact Int.le_refl _
    · intro _ x hx
      rw [List.mem_singleton.1 hx]
      simp [rd]
      omega
    · intro j hj; omega
  have fin : ∃ j Q', Q'.length ≤ j ∧ BfsAt nx N a j (dists nx N a) Q' := by
    obtain ⟨Q', h | ⟨j, hj, h⟩⟩ := bfs_run S (N + 1) 0 _ _ B0 (by omega)
    · exact ⟨_, Q', Nat.le_refl _, h⟩
    · exact ⟨j, Q', hj, h⟩
  obtain ⟨j, Q', hj, B⟩ := fin
  have close : ∀ n x, Walk nx a n x → x ∈ Q' ∧ rd (dists nx N a) x ≤ n := by
    intro n x h
    induction h with
    | nil => exact ⟨B.src.2, by rw [B.src.1]; simp⟩
    | @snoc n b d hw hd ih =>
      obtain ⟨m1, m2⟩ := ih
      obtain ⟨i, hi, rfl⟩ := mem_rd m1
      obtain ⟨q1, q2⟩ := B.done i (by omega) hi d hd
      exact ⟨q1, by omega⟩
  refine ⟨B.len, B.src.1, fun x x0 x1 => ?_⟩
  by_cases hx : x ∈ Q'
  · right
    obtain ⟨_, _, q1, q2⟩ := B.inq x hx
    exact ⟨q1, q2, fun n hn => (close n x hn).2⟩
  · left
    exact ⟨B.out x x0 x1 hx, fun n hn => hx (close n x hn).1⟩
structure Sym (nx : Int → Int → Int) : Prop where
  back : ∀ c d, 0 ≤ nx c d → ∃ e, nx (nx c d) e = c
theorem Walk.cons {nx : Int → Int → Int} {a d : Int} (h0 : 0 ≤ nx a d) {n : Nat} {b : Int} (h : Walk nx (nx a d) n b) : Walk nx a (n + 1) b := by
  induction h with
  | nil => exact Walk.snoc Walk.nil h0
  | snoc _ hd ih => exact Walk.snoc ih hd
theorem Walk.trans {nx : Int → Int → Int} {a b : Int} {n : Nat} (h : Walk nx a n b) {m : Nat} {c : Int} (k : Walk nx b m c) : Walk nx a (n + m) c := by
  induction k with
  | nil => exact h
  | snoc _ hd ih => exact Walk.snoc ih hd
theorem Walk.rev {nx : Int → Int → Int} {N : Nat} (S : Steps nx N) (Y : Sym nx) {a : Int} {n : Nat} {b : Int} (h : Walk nx a n b) : Walk nx b n a := by
  induction h with
  | nil => exact Walk.nil
  | @snoc n b d hw hd ih =>
    obtain ⟨e, he⟩ := Y.back b d hd
    have := S.rng b d hd
    have h2 : Walk nx (nx (nx b d) e) n a := by rw [he]; exact ih
    exact Walk.cons (by rw [he]; omega) h2
end Go.Proofs.Ytccjanhdnheclaa.F
end

section
namespace Go.Proofs.Ytccjanhdnheclaa.F
open Go.RowKit Go.Proofs.YtccjanhdnheclaaW.PrintWords Go.Proofs.YtccjanhdnheclaaW.PrintLast Go.Proofs.YtccjanhdnheclaaW.PrintMore
set_option linter.unusedVariables false
set_option linter.unusedSimpArgs false
def stN (w h : Int) : Nat := (cells w h).toNat
theorem steps_st (w h o : Int) : Steps (st w h o) (stN w h) := ⟨fun c d H => by
  obtain ⟨_, h2, h3, h4, h5⟩ := st_facts H
  have a := icell_iff.1 h2
  have b := icell_iff.1 h3
  unfold stN
  exact ⟨a.1, by omega, by omega, h4, h5⟩⟩
theorem nb_all : ∀ w ∈ ([1, 2, 3, 4] : List Int), ∀ h ∈ ([1, 2, 3, 4] : List Int), ∀ c ∈ ([0, 1, 2, 3, 4, 5, 6, 7, 8, 9, 10, 11, 12, 13, 14, 15] : List Int), ∀ d ∈ ([0, 1, 2, 3] : List Int), 0 ≤ nb w h c d → nb w h (nb w h c d) ((d + 2) % 4) = c ∧ gp w h (nb w h c d) ((d + 2) % 4) = gp w h c d := by
  decide +kernel
theorem nb_back {w h c d : Int} (H : 0 ≤ nb w h c d) : ∃ e, nb w h (nb w h c d) e = c ∧ gp w h (nb w h c d) e = gp w h c d := by
  obtain ⟨h1, _, h3, h4⟩ := nb_facts H
  have g := gok_iff.1 (icell_gok h1)
  have hc := icell_iff.1 h1
  have hb := cells_bd w h
  exact ⟨(d + 2) % 4, nb_all w (by simp; omega) h (by simp; omega) c (by simp; omega) d (by simp; omega) H⟩
theorem sym_st (w h o : Int) : Sym (st w h o) := ⟨fun c d H => by
  obtain ⟨e, p⟩ := st_nb H
  rw [e] at H ⊢
  obtain ⟨q, q1, q2⟩ := nb_back H
  refine ⟨q, ?_⟩
  unfold st
  rw [q2, if_pos p, q1]⟩
def ways (w h o c : Int) : List Int := ([0, 1, 2, 3] : List Int).filter fun d => decide (0 ≤ st w h o c d)
theorem ways_length (w h o c : Int) : (ways w h o c).length ≤ 4 := List.length_filter_le _ _
theorem ways_mem {w h o c d : Int} (H : d ∈ ways w h o c) : 0 ≤ st w h o c d := by
  unfold ways at H
  exact of_decide_eq_true (List.mem_filter.1 H).2
def dst (w h o a b : Int) : Int := rd (dists (st w h o) (stN w h) a) b
end Go.Proofs.Ytccjanhdnheclaa.F
end

section
namespace Go.Proofs.Ytccjanhdnheclaa.F
open Go.RowKit Go.Proofs.YtccjanhdnheclaaW.PrintWords Go.Proofs.YtccjanhdnheclaaW.PrintLast Go.Proofs.YtccjanhdnheclaaW.PrintMore
set_option linter.unusedVariables false
set_option linter.unusedSimpArgs false
theorem gaps_small {w h g : Int} (hg : igap w h g = true) : 0 ≤ g ∧ g < 24 := by
  have := igap_iff.1 hg
  have := gaps_bd w h
  omega
end Go.Proofs.Ytccjanhdnheclaa.F
end

section
namespace Go.Proofs.Ytccjanhdnheclaa.F
open Go.RowKit Go.Proofs.YtccjanhdnheclaaW.PrintWords Go.Proofs.YtccjanhdnheclaaW.PrintLast Go.Proofs.YtccjanhdnheclaaW.PrintMore
set_option linter.unusedVariables false
set_option linter.unusedSimpArgs false
def ints (n : Nat) : List Int := (List.range n).map fun (j : Nat) => (j : Int)
theorem ints_length (n : Nat) : (ints n).length = n := by simp [ints]
theorem mem_ints {n : Nat} {x : Int} : x ∈ ints n ↔ 0 ≤ x ∧ x < n := by
  unfold ints
  rw [List.mem_map]
  constructor
  · rintro ⟨j, hj, rfl⟩
    rw [List.mem_range] at hj
    omega
  · intro h
    exact ⟨x.toNat, by rw [List.mem_range]; omega, by omega⟩
def reach (w h o a : Int) : List Int := (ints (stN w h)).filter fun c => !decide (dst w h o a c < 0)
theorem stN_int (w h : Int) : ((stN w h : Nat) : Int) = cells w h := by have := cells_bd w h; unfold stN; omega
theorem stN_le (w h : Int) : stN w h ≤ 16 := by have := cells_bd w h; unfold stN; omega
theorem dst_self {w h o a : Int} (ha : icell w h a = true) : dst w h o a a = 0 := by
  have ca := icell_iff.1 ha
  exact (dists_spec (steps_st w h o) (a := a) ca.1 (by rw [stN_int]; exact ca.2)).2.1
theorem reach_self {w h o a : Int} (ha : icell w h a = true) : a ∈ reach w h o a := by
  have ca := icell_iff.1 ha
  unfold reach
  rw [List.mem_filter, mem_ints, dst_self ha, stN_int]
  exact ⟨ca, rfl⟩
theorem reach_pos {w h o a : Int} (ha : icell w h a = true) : 0 < (reach w h o a).length := List.length_pos_of_mem (reach_self ha)
def pstep (w h o : Int) (n : Int) (i : Nat) : Int := if rd (reach w h o (i : Int)) 0 = (i : Int) then n + 1 else n
def parts (w h o : Int) : Int := if mok w h o = true then (List.range' 0 (stN w h)).foldl (pstep w h o) 0 else 0
def conn (w h o : Int) : Bool := parts w h o == 1
theorem conn_mok {w h o : Int} (H : conn w h o = true) : mok w h o = true := by
  unfold conn parts at H
  by_cases M : mok w h o = true
  · exact M
  · rw [if_neg M] at H; cases H
end Go.Proofs.Ytccjanhdnheclaa.F
end

section
namespace Go.Proofs.Ytccjanhdnheclaa.F
open Go.RowKit Go.Proofs.YtccjanhdnheclaaW.PrintWords Go.Proofs.YtccjanhdnheclaaW.PrintLast Go.Proofs.YtccjanhdnheclaaW.PrintMore
set_option linter.unusedVariables false
set_option linter.unusedSimpArgs false
def stp (w h o t p : Int) (u : Int × Int) : Option (Int × Int) := if 0 ≤ nx w h o u.1 u.2 t ∧ pat w h o (nx w h o u.1 u.2 t) (nf u.2 t) = p then some (nx w h o u.1 u.2 t, nf u.2 t) else none
def rnW (w h o : Int) : List Int → List Int → Int × Int → Option (Int × Int)
  | t :: ts, p :: ps, u => (stp w h o t p u).bind (rnW w h o ts ps)
  | [], _, u => some u
  | _ :: _, [], _ => none
def endW (w h o : Int) (P T : List Int) (k : Nat) : Option (Int × Int) := if pat w h o ((k / 4 : Nat) : Int) ((k % 4 : Nat) : Int) = rd P 0 then rnW w h o T (P.drop 1) (((k / 4 : Nat) : Int), ((k % 4 : Nat) : Int)) else none
def hasW (l : List SWalker) (u : Int × Int) : Bool := l.any fun x => decide (x.f0 = u.1 ∧ x.f1 = u.2)
def adjW (l : List SWalker) : Option (Int × Int) → List SWalker
  | none => l
  | some u => if hasW l u = true then l else l ++ [⟨u.1, u.2⟩]
def rawW (w h o : Int) (P T : List Int) (n : Nat) : List SWalker := (List.range' 0 n).foldl (fun l k => adjW l (endW w h o P T k)) []
def leW (x y : SWalker) : Bool := !decide (4 * (y.f0 - x.f0) + y.f1 - x.f1 < 0)
def keyW (x : SWalker) : Int := 4 * x.f0 + x.f1
def fitW (w h o : Int) (P T : List Int) : List SWalker := (rawW w h o P T (4 * stN w h)).mergeSort leW
def pwok (w h o : Int) (P T : List Int) : Bool := mok w h o && decide ((P.length : Int) = T.length + 1) && (decide ((T.length : Int) ≤ 40) && T.all turn4)
def posW (w h o : Int) (P T : List Int) : List SWalker := if pwok w h o P T = true then fitW w h o P T else []
theorem four_split (k : Nat) : Int.tdiv (k : Int) 4 = ((k / 4 : Nat) : Int) ∧ Int.tmod (k : Int) 4 = ((k % 4 : Nat) : Int) := ⟨rfl, rfl⟩
theorem stp_good {w h o t p : Int} {u v : Int × Int} (e : stp w h o t p u = some v) : 0 ≤ v.1 ∧ v.1 < cells w h ∧ 0 ≤ v.2 ∧ v.2 ≤ 3 := by
  unfold stp at e
  split at e
  · rename_i H
    obtain rfl := Option.some.inj e
    have := wok_nx H.1
    unfold wok at this
    simp only [Bool.and_eq_true, decide_eq_true_eq] at this
    have c := icell_iff.1 this.1.2
    exact ⟨c.1, c.2, this.2.1, this.2.2⟩
  · cases e
theorem rnW_good {w h o : Int} : ∀ (ts ps : List Int) (u v : Int × Int), (0 ≤ u.1 ∧ u.1 < cells w h ∧ 0 ≤ u.2 ∧ u.2 ≤ 3) → rnW w h o ts ps u = some v → 0 ≤ v.1 ∧ v.1 < cells w h ∧ 0 ≤ v.2 ∧ v.2 ≤ 3
  | [], ps, u, v, hu, e => by rw [rnW] at e; obtain rfl := Option.some.inj e; exact hu
  | t :: ts, [], u, v, hu, e => by simp [rnW] at e
  | t :: ts, p :: ps, u, v, hu, e => by
    rw [rnW] at e
    obtain ⟨x, h1, h2⟩ := Option.bind_eq_some_iff.1 e
    exact rnW_good ts ps x v (stp_good h1) h2
theorem endW_good {w h o : Int} {P T : List Int} {k : Nat} (hk : k < 4 * stN w h) {v : Int × Int} (e : endW w h o P T k = some v) : 0 ≤ v.1 ∧ v.1 < cells w h ∧ 0 ≤ v.2 ∧ v.2 ≤ 3 := by
  have hN := stN_int w h
  unfold endW at e
  split at e
  · exact rnW_good _ _ _ _ ⟨by omega, by show ((k / 4 : Nat) : Int) < _; omega, by show 0 ≤ ((k % 4 : Nat) : Int); omega, by show ((k % 4 : Nat) : Int) ≤ 3; omega⟩ e
  · cases e
theorem hasW_iff {l : List SWalker} {u : Int × Int} : hasW l u = true ↔ (⟨u.1, u.2⟩ : SWalker) ∈ l := by
  unfold hasW
  rw [List.any_eq_true]
  constructor
  · rintro ⟨x, hx, e⟩
    have e := of_decide_eq_true e
    rw [← e.1, ← e.2]
    exact hx
  · intro hx
    exact ⟨_, hx, decide_eq_true ⟨rfl, rfl⟩⟩
theorem adjW_length (l : List SWalker) (u : Option (Int × Int)) : (adjW l u).length ≤ l.length + 1 := by
  unfold adjW
  split
  · omega
  · split <;> simp
theorem adjW_mem {l : List SWalker} {u : Option (Int × Int)} {x : SWalker} : x ∈ adjW l u ↔ x ∈ l ∨ u = some (x.f0, x.f1) := by
  unfold adjW
  split
  · simp
  · rename_i u
    split
    · rename_i H
      have := hasW_iff.1 H
      constructor
      · exact .inl
      · rintro (q | q)
        · exact q
        · obtain rfl := Option.some.inj q
          exact this
    · rw [List.mem_append, List.mem_singleton]
      constructor
      · rintro (q | rfl)
        · exact .inl q
        · exact .inr rfl
      · rintro (q | q)
        · exact .inl q
        · obtain rfl := Option.some.inj q
          exact .inr rfl
theorem adjW_nodup {l : List SWalker} {u : Option (Int × Int)} (h : l.Nodup) : (adjW l u).Nodup := by
  unfold adjW
  split
  · exact h
  · split
    · exact h
    · rename_i H
      rw [List.nodup_append]
      refine ⟨h, by simp, fun a ha b hb e => ?_⟩
      rw [List.mem_singleton] at hb
      subst hb
      rw [e] at ha
      exact H (hasW_iff.2 ha)
section
variable {w h o : Int} {P T : List Int}
theorem raw_mem {x : SWalker} : ∀ (ks : List Nat) (l : List SWalker), x ∈ ks.foldl (fun l k => adjW l (endW w h o P T k)) l ↔ x ∈ l ∨ ∃ k ∈ ks, endW w h o P T k = some (x.f0, x.f1)
  | [], l => by simp
  | k :: ks, l => by
    rw [List.foldl_cons, raw_mem ks, adjW_mem]
    constructor
    · rintro ((q | q) | ⟨j, hj, q⟩)
      · exact .inl q
      · exact .inr ⟨k, List.mem_cons_self, q⟩
      · exact .inr ⟨j, List.mem_cons_of_mem _ hj, q⟩
    · rintro (q | ⟨j, hj, q⟩)
      · exact .inl (.inl q)
      · rcases List.mem_cons.1 hj with rfl | hj
        · exact .inl (.inr q)
        · exact .inr ⟨j, hj, q⟩
theorem raw_nodup : ∀ (ks : List Nat) (l : List SWalker), l.Nodup → (ks.foldl (fun l k => adjW l (endW w h o P T k)) l).Nodup
  | [], l, hl => hl
  | k :: ks, l, hl => raw_nodup ks _ (adjW_nodup hl)
theorem raw_len : ∀ (ks : List Nat) (l : List SWalker), (ks.foldl (fun l k => adjW l (endW w h o P T k)) l).length ≤ l.length + ks.length
  | [], l => by simp
  | k :: ks, l => by
    rw [List.foldl_cons]
    have h1 := raw_len ks (adjW l (endW w h o P T k))
    have h2 := adjW_length l (endW w h o P T k)
    rw [List.length_cons]
    omega
theorem fitW_mem {x : SWalker} : x ∈ fitW w h o P T ↔ ∃ k, k < 4 * stN w h ∧ endW w h o P T k = some (x.f0, x.f1) := by
  unfold fitW rawW
  rw [(List.mergeSort_perm _ _).mem_iff, raw_mem]
  constructor
  · rintro (q | ⟨k, hk, q⟩)
    · exact (List.not_mem_nil q).elim
    · have := List.mem_range'_1.1 hk
      exact ⟨k, by omega, q⟩
  · rintro ⟨k, hk, q⟩
    exact .inr ⟨k, List.mem_range'_1.2 ⟨by omega, by omega⟩, q⟩
theorem fitW_len : (fitW w h o P T).length ≤ 64 := by
  unfold fitW rawW
  rw [List.length_mergeSort]
  have := raw_len (w := w) (h := h) (o := o) (P := P) (T := T) (List.range' 0 (4 * stN w h)) []
  have h2 := stN_le w h
  simp at this ⊢
  omega
theorem leW_iff {x y : SWalker} : leW x y = true ↔ keyW x ≤ keyW y := by
  unfold leW keyW
  rw [Bool.not_eq_true', decide_eq_false_iff_not]
  omega
theorem fitW_sorted : (fitW w h o P T).Pairwise fun x y => keyW x < keyW y := by
  have hs : (fitW w h o P T).Pairwise fun x y => leW x y = true := List.pairwise_mergeSort (fun a b c h1 h2 => by rw [leW_iff] at h1 h2 ⊢; omega) (fun a b => by rw [Bool.or_eq_true, leW_iff, leW_iff]; omega) _
  have hn : (fitW w h o P T).Nodup := (List.mergeSort_perm _ _).nodup_iff.2 (raw_nodup _ _ List.nodup_nil)
  have hg : ∀ x ∈ fitW w h o P T, 0 ≤ x.f1 ∧ x.f1 ≤ 3 := fun x hx => by
    obtain ⟨k, hk, e⟩ := fitW_mem.1 hx
    have := endW_good hk e
    exact ⟨this.2.2.1, this.2.2.2⟩
  have := List.Pairwise.and hs hn
  refine List.Pairwise.imp_of_mem (fun {a b} ha hb hab => ?_) this
  have ga := hg a ha
  have gb := hg b hb
  have h1 := leW_iff.1 hab.1
  have h2 : keyW a ≠ keyW b := fun e => hab.2 (by
    unfold keyW at e
    cases a; cases b
    simp only at e ga gb
    have e1 : ‹Int› = ‹Int› := rfl
    congr 1 <;> omega)
  omega
end
theorem idxW_eq {l : List SWalker} {c f : Int} (hl : l.length ≤ 1000000) : ∀ (d i k : Nat), i + d = l.length → d + 1 ≤ k → ∃ r, slices_Index_impl_Walker.l0 k l (l.length : Int) (i : Int) c f = some r ∧ (0 ≤ r ↔ hasW (l.drop i) (c, f) = true)
  | 0, i, k, hi, hk => by
    obtain ⟨m, rfl⟩ : ∃ m, k = m + 1 := ⟨k - 1, by omega⟩
    refine ⟨-1, ?_, ?_⟩
    · simp only [slices_Index_impl_Walker.l0]
      rw [if_neg (by omega)]
    · rw [List.drop_of_length_le (by omega)]
      simp [hasW]
  | d + 1, i, k, hi, hk => by
    obtain ⟨m, rfl⟩ : ∃ m, k = m + 1 := ⟨k - 1, by omega⟩
    have hil : i < l.length := by omega
    have hr : rd_Walker l (i : Int) = l[i] := by
      show l.getD i zWalker = _
      rw [List.getD_eq_getElem?_getD, List.getElem?_eq_getElem hil]; rfl
    have hd : l.drop i = l[i] :: l.drop (i + 1) := List.drop_eq_getElem_cons hil
    obtain ⟨r, e, hq⟩ := idxW_eq (c := c) (f := f) hl d (i + 1) m (by omega) (by omega)
    rw [hd]
    simp only [slices_Index_impl_Walker.l0]
    rw [if_pos (by omega), if_pos (by omega), if_pos (by omega), hr, w64_succ hil (by omega)]
    by_cases z : l[i].f0 = c ∧ l[i].f1 = f
    · refine ⟨(i : Int), ?_, ?_⟩
      · rw [if_pos (by simp [z.1, z.2])]
      · have : hasW (l[i] :: l.drop (i + 1)) (c, f) = true := by unfold hasW; rw [List.any_cons, decide_eq_true z]; rfl
        rw [this]
        exact ⟨fun _ => rfl, fun _ => by omega⟩
    · refine ⟨r, ?_, ?_⟩
      · rw [if_neg (by
          intro q
          rw [Bool.and_eq_true, beq_iff_eq, beq_iff_eq] at q
          exact z ⟨q.1.symm, q.2.symm⟩)]
        rw [Int.natCast_add] at e
        exact e
      · have : hasW (l[i] :: l.drop (i + 1)) (c, f) = hasW (l.drop (i + 1)) (c, f) := by unfold hasW; rw [List.any_cons, decide_eq_false z, Bool.false_or]
        rw [this]
        exact hq
theorem conW_eq {l : List SWalker} {c f : Int} {k : Nat} (hl : l.length ≤ 1000000) (hk : l.length + 1 ≤ k) : slices_Contains_impl_Walker.f k l c f = some (hasW l (c, f)) := by
  unfold slices_Contains_impl_Walker.f slices_Index_impl_Walker.f
  obtain ⟨r, e, hq⟩ := idxW_eq (c := c) (f := f) hl l.length 0 k (by omega) hk
  have e' : slices_Index_impl_Walker.l0 k l (l.length : Int) 0 c f = some r := e
  rw [e', Option.bind_some]
  congr 1
  rw [List.drop_zero] at hq
  cases q : hasW l (c, f) with
  | true => rw [q] at hq; exact decide_eq_true (hq.2 rfl)
  | false => rw [q] at hq; exact decide_eq_false fun z => Bool.false_ne_true (hq.1 z)
section
variable {w h o : Int} {P T : List Int}
theorem pw_inner {R : Option (List SWalker)} {acc : List SWalker} {i : Nat} (hi : i < 64) (hT : T.length ≤ 40) (hP : P.length = T.length + 1) (ha : acc.length ≤ 64) {N : Nat} (hN : 100 ≤ N) :
    ∀ (d j k : Nat) (ok : Bool) (c f : Int), j + d = T.length → 2 * d + N + 3 ≤ k → (∀ k', N ≤ k' → impl_PossibleWalkers.l0 k' P T (adjW acc (if ok = true then rnW w h o (T.drop j) (P.drop (j + 1)) (c, f) else none)) ((i : Int) + 1) w h o = R) →
    impl_PossibleWalkers.l1 k P T acc (i : Int) ok (j : Int) w h o c f = R := by
  have stop : ∀ (j k : Nat) (ok : Bool) (c f : Int), N + 2 ≤ k → (∀ k', N ≤ k' → impl_PossibleWalkers.l0 k' P T (adjW acc (if ok = true then some (c, f) else none)) ((i : Int) + 1) w h o = R) → impl_PossibleWalkers.j3 k P T acc (i : Int) ok (j : Int) false w h o c f = R := by
    intro j k ok c f hk hR
    obtain ⟨m, rfl⟩ : ∃ m, k = m + 1 := ⟨k - 1, by omega⟩
    simp only [impl_PossibleWalkers.j3]
    rw [if_neg (by decide), w64 (x := (i : Int) + 1) (by omega) (by omega)]
    cases ok with
    | false =>
      have := hR m (by omega)
      rw [if_neg (by decide)] at this
      rw [if_neg (by decide)]
      exact this
    | true =>
      have := hR m (by omega)
      rw [if_pos rfl] at this
      rw [if_pos rfl, conW_eq (by omega) (by omega), Option.bind_some]
      unfold adjW at this
      by_cases q : hasW acc (c, f) = true
      · rw [if_pos q]; simp only [if_pos q] at this; exact this
      · rw [if_neg q, if_pos (by omega)]; simp only [if_neg q] at this; exact this
  intro d
  induction d with
  | zero =>
    intro j k ok c f hj hk hR
    obtain ⟨m, rfl⟩ : ∃ m, k = m + 1 := ⟨k - 1, by omega⟩
    have hd : T.drop j = [] := List.drop_of_length_le (by omega)
    simp only [impl_PossibleWalkers.l1]
    have e : decide ((j : Int) < (T.length : Int)) = false := decide_eq_false (by omega)
    have := stop j m ok c f (by omega) (fun k' hk' => by have := hR k' hk'; rw [hd] at this; simpa [rnW] using this)
    cases ok with
    | false => rw [if_neg (by decide)]; exact this
    | true => rw [if_pos rfl, e]; exact this
  | succ d ih =>
    intro j k ok c f hj hk hR
    obtain ⟨m, rfl⟩ : ∃ m, k = m + 1 := ⟨k - 1, by omega⟩
    simp only [impl_PossibleWalkers.l1]
    cases ok with
    | false =>
      rw [if_neg (by decide)]
      exact stop j m false c f (by omega) (fun k' hk' => by have := hR k' hk'; simpa using this)
    | true =>
      have hjl : j < T.length := by omega
      rw [if_pos rfl, decide_eq_true (show (j : Int) < (T.length : Int) by omega)]
      obtain ⟨m, rfl⟩ : ∃ m', m = m' + 1 := ⟨m - 1, by omega⟩
      simp only [impl_PossibleWalkers.j3]
      have hTd : T.drop j = rd T (j : Int) :: T.drop (j + 1) := drop_step hjl
      have hPd : P.drop (j + 1) = rd P ((j : Int) + 1) :: P.drop (j + 1 + 1) := by
        have := drop_step (l := P) (i := j + 1) (by omega)
        rwa [Int.natCast_add] at this
      rw [if_pos trivial, if_pos (by omega), if_pos (by omega), impl_went_eq (by omega), Option.bind_some]
      simp only
      have hw : wrap64 ((j : Int) + 1) = ((j + 1 : Nat) : Int) := by rw [w64 (by omega) (by omega), Int.natCast_add]; rfl
      rw [hTd, hPd] at hR
      simp only [rnW, stp, if_true] at hR
      by_cases q : 0 ≤ nx w h o c f (rd T (j : Int))
      · rw [if_pos (decide_eq_true q), impl_PatternAt_eq (by omega), Option.bind_some, hw, if_pos (by omega), if_pos (by omega)]
        refine ih (j + 1) m _ _ _ (by omega) (by omega) fun k' hk' => ?_
        have := hR k' hk'
        have ej : (((j + 1 : Nat) : Int)) = (j : Int) + 1 := by omega
        rw [ej]
        by_cases z : pat w h o (nx w h o c f (rd T (j : Int))) (nf f (rd T (j : Int))) = rd P ((j : Int) + 1)
        · rw [if_pos ⟨q, z⟩, Option.bind_some] at this
          rw [if_pos (by rw [beq_iff_eq]; exact z)]
          exact this
        · rw [if_neg (fun y => z y.2), Option.bind_none] at this
          rw [if_neg (by rw [beq_iff_eq]; exact z)]
          exact this
      · rw [if_neg (by rw [decide_eq_true_eq]; exact q), hw]
        refine ih (j + 1) m _ _ _ (by omega) (by omega) fun k' hk' => ?_
        have := hR k' hk'
        rw [if_neg (fun y => q y.1), Option.bind_none] at this
        rw [decide_eq_false q, if_neg (by decide)]
        exact this
theorem pw_fuel {t d m : Nat} (ht : t ≤ 40) (hk : 100 * (d + 1) + 300 ≤ m + 1) : 2 * t + (100 * d + 300) + 3 ≤ m ∧ 100 * d + 399 ≤ m := by omega
theorem pw_outer (hT : T.length ≤ 40) (hP : P.length = T.length + 1) : ∀ (d i k : Nat) (acc : List SWalker), i + d = 4 * stN w h → 100 * d + 300 ≤ k → acc.length ≤ i →
    impl_PossibleWalkers.l0 k P T acc (i : Int) w h o = (slices_SortFunc_impl_Walker.f ((List.range' i d).foldl (fun l k => adjW l (endW w h o P T k)) acc)).bind fun t => some t
  | 0, i, k, acc, hi, hk, ha => by
    obtain ⟨m, rfl⟩ : ∃ m, k = m + 1 := ⟨k - 1, by omega⟩
    have hN := stN_int w h
    have hN2 := stN_le w h
    simp only [impl_PossibleWalkers.l0]
    rw [impl_CountCells_eq, Option.bind_some, w64 (by omega) (by omega), if_neg (by omega)]
    rfl
  | d + 1, i, k, acc, hi, hk, ha => by
    obtain ⟨m, rfl⟩ : ∃ m, k = m + 1 := ⟨k - 1, by omega⟩
    obtain ⟨hfu, hm1⟩ := pw_fuel hT hk
    clear hk
    have hN := stN_int w h
    have hN2 := stN_le w h
    obtain ⟨f1, f2⟩ := four_split i
    simp only [impl_PossibleWalkers.l0]
    rw [impl_CountCells_eq, Option.bind_some, w64 (x := 4 * cells w h) (by omega) (by omega), if_pos (by omega), f1, f2, w64 (x := ((i / 4 : Nat) : Int)) (by omega) (by omega), impl_PatternAt_eq (by omega), Option.bind_some, if_pos (by omega), List.range'_succ, List.foldl_cons]
    refine pw_inner (N := 100 * d + 300) (by omega) hT hP (by omega) (by omega) T.length 0 m _ _ _ (Nat.zero_add _) hfu fun k' hk' => ?_
    have e : (if (pat w h o ((i / 4 : Nat) : Int) ((i % 4 : Nat) : Int) == rd P 0) = true then rnW w h o (T.drop 0) (P.drop (0 + 1)) (((i / 4 : Nat) : Int), ((i % 4 : Nat) : Int)) else none) = endW w h o P T i := by
      unfold endW
      simp only [beq_iff_eq, List.drop_zero, Nat.zero_add]
    rw [e]
    have al := adjW_length acc (endW w h o P T i)
    have := pw_outer hT hP d (i + 1) k' (adjW acc (endW w h o P T i)) (by omega) (by omega) (by omega)
    rw [Int.natCast_add] at this
    exact this
theorem impl_PossibleWalkers_eq {k : Nat} (hPl : P.length ≤ 1048576) (hTl : T.length ≤ 1048576) (hk : 7000 ≤ k) : impl_PossibleWalkers.f k w h o P T = some (posW w h o P T) := by
  have hN2 := stN_le w h
  obtain ⟨m, rfl⟩ : ∃ m, k = m + 1 := ⟨k - 1, by omega⟩
  have no : impl_PossibleWalkers.j0 (m + 1) P T true w h o = some [] := by
    simp only [impl_PossibleWalkers.j0]
    rw [if_pos trivial]
  unfold impl_PossibleWalkers.f posW pwok
  rw [impl_MazeOk_eq, Option.bind_some]
  cases M : mok w h o with
  | false => rw [if_neg (by decide)]; simpa using no
  | true =>
    rw [if_pos rfl, w64 (by omega) (by omega)]
    by_cases hP : (P.length : Int) = (T.length : Int) + 1
    · rw [if_pos hP, impl_areTurns_eq, Option.bind_some, decide_eq_true hP]
      simp only [Bool.true_and]
      cases ht : decide ((T.length : Int) ≤ 40) && T.all turn4 with
      | false => rw [if_neg (by decide)]; exact no
      | true =>
        rw [if_pos rfl]
        rw [Bool.and_eq_true, decide_eq_true_eq] at ht
        simp only [impl_PossibleWalkers.j0, Bool.not_true]
        rw [if_neg (by decide)]
        have := pw_outer (w := w) (h := h) (o := o) (P := P) (T := T) (by omega) (by omega) (4 * stN w h) 0 m [] (by omega) (by omega) (by simp)
        refine this.trans ?_
        have hl := raw_len (w := w) (h := h) (o := o) (P := P) (T := T) (List.range' 0 (4 * stN w h)) []
        unfold slices_SortFunc_impl_Walker.f
        rw [if_pos, if_pos]
        · rfl
        · simp at hl; omega
        · rw [List.all_eq_true]
          intro x hx
          rcases (raw_mem _ _).1 hx with q | ⟨k, hk, q⟩
          · exact (List.not_mem_nil q).elim
          · have hk := List.mem_range'_1.1 hk
            have g := endW_good (by omega) q
            have := cells_bd w h
            unfold slices_SortFunc_impl_Walker.l1
            exact decide_eq_true ⟨g.1, by have := g.2.1; simp only at this; omega, g.2.2.1, g.2.2.2⟩
    · rw [if_neg hP, decide_eq_false hP]
      simpa using no
end
end Go.Proofs.Ytccjanhdnheclaa.F
end

section
namespace Go.Proofs.Ytccjanhdnheclaa.F
open Go.RowKit Go.Proofs.YtccjanhdnheclaaW.PrintWords Go.Proofs.YtccjanhdnheclaaW.PrintLast Go.Proofs.YtccjanhdnheclaaW.PrintMore
set_option linter.unusedVariables false
set_option linter.unusedSimpArgs false
theorem impl_IsLocated_eq {k : Nat} {w h o : Int} {P T : List Int} (hPl : P.length ≤ 1048576) (hTl : T.length ≤ 1048576) (hk : 7000 ≤ k) : impl_IsLocated.f k w h o P T = some (((posW w h o P T).length : Int) == 1) := by
  unfold impl_IsLocated.f
  rw [impl_PossibleWalkers_eq hPl hTl hk, Option.bind_some]
end Go.Proofs.Ytccjanhdnheclaa.F
end

section
namespace Go.Proofs.Ytccjanhdnheclaa.F
open Go.RowKit Go.Proofs.YtccjanhdnheclaaW.PrintWords Go.Proofs.YtccjanhdnheclaaW.PrintLast Go.Proofs.YtccjanhdnheclaaW.PrintMore
set_option linter.unusedVariables false
set_option linter.unusedSimpArgs false
theorem nodup_le' : ∀ {l L : List Int}, l.Nodup → (∀ x ∈ l, x ∈ L) → l.length ≤ L.length
  | [], _, _, _ => Nat.zero_le _
  | x :: l, L, hn, hs => by
    obtain ⟨h1, h2⟩ := List.nodup_cons.1 hn
    have hx : x ∈ L := hs x (by simp)
    have := nodup_le' (l := l) (L := L.erase x) h2 (fun y hy => (List.mem_erase_of_ne (fun e => h1 (by rw [← e]; exact hy))).2 (hs y (by simp [hy])))
    rw [List.length_erase_of_mem hx] at this
    have := List.length_pos_of_mem hx
    simp only [List.length_cons]
    omega
end Go.Proofs.Ytccjanhdnheclaa.F
end

section
namespace Go.Proofs.Ytccjanhdnheclaa.F
open Go.RowKit Go.Proofs.YtccjanhdnheclaaW.PrintWords Go.Proofs.YtccjanhdnheclaaW.PrintLast Go.Proofs.YtccjanhdnheclaaW.PrintMore
set_option linter.unusedVariables false
set_option linter.unusedSimpArgs false
def lnk (w h o a b : Int) : Prop := ∃ n, Walk (st w h o) a n b
theorem lnk_refl (w h o a : Int) : lnk w h o a a := ⟨0, Walk.nil⟩
theorem lnk_symm {w h o a b : Int} (H : lnk w h o a b) : lnk w h o b a := by
  obtain ⟨n, H⟩ := H
  exact ⟨n, Walk.rev (steps_st w h o) (sym_st w h o) H⟩
theorem lnk_trans {w h o a b c : Int} (H : lnk w h o a b) (K : lnk w h o b c) : lnk w h o a c := by
  obtain ⟨n, H⟩ := H
  obtain ⟨m, K⟩ := K
  exact ⟨n + m, H.trans K⟩
theorem lnk_step {w h o a d : Int} (H : 0 ≤ st w h o a d) : lnk w h o a (st w h o a d) := ⟨1, Walk.snoc Walk.nil H⟩
theorem dst_lnk {w h o a b : Int} (ha : icell w h a = true) (hb : icell w h b = true) : 0 ≤ dst w h o a b ↔ lnk w h o a b := by
  have ca := icell_iff.1 ha
  have cb := icell_iff.1 hb
  have hN := stN_int w h
  obtain ⟨_, _, p⟩ := dists_spec (steps_st w h o) (a := a) ca.1 (by omega)
  unfold dst lnk
  rcases p b cb.1 (by omega) with ⟨e, n1⟩ | ⟨g1, w1, m1⟩
  · rw [e]
    exact ⟨fun z => absurd z (by decide), fun ⟨n, z⟩ => absurd z (n1 n)⟩
  · exact ⟨fun _ => ⟨_, w1⟩, fun _ => g1⟩
theorem st_more {w h o o2 c d : Int} (M : mok w h o2 = true) (hs : ∀ g, 0 ≤ g → opn o g = true → opn o2 g = true) (H : 0 ≤ st w h o c d) : st w h o2 c d = st w h o c d := by
  obtain ⟨e, p⟩ := st_nb H
  rw [e]
  unfold psg at p
  simp only [Bool.and_eq_true] at p
  have g0 := (igap_iff.1 p.1.2).1
  have : psg w h o2 (gp w h c d) = true := by
    unfold psg
    rw [M, p.1.2, hs _ g0 p.2]; rfl
  unfold st
  rw [if_pos this]
theorem lnk_more {w h o o2 a b : Int} (M : mok w h o2 = true) (hs : ∀ g, 0 ≤ g → opn o g = true → opn o2 g = true) (H : lnk w h o a b) : lnk w h o2 a b := by
  obtain ⟨n, H⟩ := H
  refine ⟨n, ?_⟩
  induction H with
  | nil => exact Walk.nil
  | snoc _ hd ih =>
    have e := st_more M hs hd
    rw [← e]
    exact Walk.snoc ih (by rw [e]; exact hd)
def first (w h o i : Int) : Int := rd (reach w h o i) 0
theorem ints_sorted (n : Nat) : (ints n).Pairwise (· < ·) := by
  unfold ints
  exact List.pairwise_map.2 (List.pairwise_lt_range.imp fun h => by omega)
theorem mem_reach {w h o i x : Int} (hi : icell w h i = true) : x ∈ reach w h o i ↔ icell w h x = true ∧ lnk w h o i x := by
  unfold reach
  rw [List.mem_filter, mem_ints, stN_int]
  constructor
  · intro ⟨h1, h2⟩
    have hx : icell w h x = true := icell_iff.2 h1
    refine ⟨hx, (dst_lnk hi hx).1 ?_⟩
    simpa using h2
  · intro ⟨h1, h2⟩
    refine ⟨icell_iff.1 h1, ?_⟩
    have := (dst_lnk hi h1).2 h2
    simpa using this
theorem first_spec {w h o i : Int} (hi : icell w h i = true) : icell w h (first w h o i) = true ∧ lnk w h o i (first w h o i) ∧ ∀ x, icell w h x = true → lnk w h o i x → first w h o i ≤ x := by
  have hp := reach_pos (o := o) hi
  have hm : first w h o i ∈ reach w h o i := rd_memI (Int.le_refl _) (by omega)
  obtain ⟨h1, h2⟩ := (mem_reach hi).1 hm
  refine ⟨h1, h2, fun x hx hl => ?_⟩
  have hxm := (mem_reach hi).2 ⟨hx, hl⟩
  have hs : (reach w h o i).Pairwise (· < ·) := (ints_sorted _).sublist List.filter_sublist
  unfold first
  cases e : reach w h o i with
  | nil => rw [e] at hp; exact absurd hp (by simp)
  | cons y ys =>
    rw [e] at hs hxm
    have : rd (y :: ys) 0 = y := rfl
    rw [this]
    rcases List.mem_cons.1 hxm with rfl | hz
    · exact Int.le_refl _
    · exact Int.le_of_lt ((List.pairwise_cons.1 hs).1 x hz)
theorem foldl_pstep (w h o : Int) : ∀ (l : List Nat) (n : Int), l.foldl (pstep w h o) n = n + (l.countP fun (i : Nat) => first w h o (i : Int) == (i : Int) : Nat)
  | [], n => by simp
  | i :: l, n => by
    rw [List.foldl_cons, foldl_pstep w h o l, List.countP_cons]
    unfold pstep
    by_cases c : rd (reach w h o (i : Int)) 0 = (i : Int)
    · rw [if_pos c, if_pos (by simpa [first] using c)]
      omega
    · rw [if_neg c, if_neg (by simpa [first] using c)]
      omega
theorem cells_pos {w h : Int} (G : gok w h = true) : 1 ≤ cells w h := by
  unfold cells
  rw [if_pos G]
  exact (gok_mul G).1
theorem icell_zero {w h : Int} (G : gok w h = true) : icell w h 0 = true := icell_iff.2 ⟨Int.le_refl _, by have := cells_pos G; omega⟩
theorem conn_iff {w h o : Int} : conn w h o = true ↔ mok w h o = true ∧ ∀ x, icell w h x = true → lnk w h o 0 x := by
  constructor
  · intro H
    have M := conn_mok H
    have G := (mok_iff.1 M).1
    have h0 := icell_zero G
    have hN := stN_int w h
    have hc := cells_pos G
    refine ⟨M, ?_⟩
    unfold conn parts at H
    rw [if_pos M, foldl_pstep] at H
    obtain ⟨m, hm⟩ : ∃ m, stN w h = m + 1 := ⟨stN w h - 1, by omega⟩
    rw [hm, List.range'_succ, List.countP_cons] at H
    have f0 : first w h o 0 = 0 := by
      obtain ⟨a, _, b⟩ := first_spec (o := o) h0
      have := b 0 h0 (lnk_refl _ _ _ _)
      have := icell_iff.1 a
      omega
    rw [if_pos (by simpa using f0)] at H
    have hz : (List.range' (0 + 1) m).countP (fun (i : Nat) => first w h o (i : Int) == (i : Int)) = 0 := by
      simp only [beq_iff_eq] at H
      omega
    rw [List.countP_eq_zero] at hz
    have key : ∀ (n : Nat) (x : Int), x.toNat ≤ n → icell w h x = true → lnk w h o 0 x := by
      intro n
      induction n with
      | zero =>
        intro x hx hc
        have := icell_iff.1 hc
        obtain rfl : x = 0 := by omega
        exact lnk_refl _ _ _ _
      | succ n ih =>
        intro x hx hc
        have cx := icell_iff.1 hc
        by_cases x0 : x = 0
        · rw [x0]; exact lnk_refl _ _ _ _
        obtain ⟨a, b, c⟩ := first_spec (o := o) hc
        have h1 := c x hc (lnk_refl _ _ _ _)
        have h2 := hz x.toNat (by rw [List.mem_range'_1]; omega)
        rw [show ((x.toNat : Nat) : Int) = x by omega] at h2
        have h3 : first w h o x ≠ x := by simpa using h2
        have ca := icell_iff.1 a
        exact lnk_trans (ih _ (by omega) a) (lnk_symm b)
    exact fun x hx => key _ x (Nat.le_refl _) hx
  · intro ⟨M, H⟩
    have G := (mok_iff.1 M).1
    have h0 := icell_zero G
    have hN := stN_int w h
    have hc := cells_pos G
    unfold conn parts
    rw [if_pos M, foldl_pstep]
    obtain ⟨m, hm⟩ : ∃ m, stN w h = m + 1 := ⟨stN w h - 1, by omega⟩
    have f0 : ∀ x, icell w h x = true → first w h o x = 0 := fun x hx => by
      obtain ⟨a, _, b⟩ := first_spec (o := o) hx
      have := b 0 h0 (lnk_symm (H x hx))
      have := icell_iff.1 a
      omega
    rw [hm, List.range'_succ, List.countP_cons, if_pos (by simpa using f0 0 h0)]
    have hz : (List.range' (0 + 1) m).countP (fun (i : Nat) => first w h o (i : Int) == (i : Int)) = 0 := by
      rw [List.countP_eq_zero]
      intro i hi
      rw [List.mem_range'_1] at hi
      rw [f0 i (icell_iff.2 (by omega))]
      simp
      omega
    rw [hz]
    rfl
end Go.Proofs.Ytccjanhdnheclaa.F
end

section
namespace Go.Proofs.Ytccjanhdnheclaa.F
open Go.RowKit Go.Proofs.YtccjanhdnheclaaW.PrintWords Go.Proofs.YtccjanhdnheclaaW.PrintLast Go.Proofs.YtccjanhdnheclaaW.PrintMore
set_option linter.unusedVariables false
set_option linter.unusedSimpArgs false
theorem and_mask (x : Int) (m : Nat) (hm : m < 2 ^ 63) : 0 ≤ Go.bits .and .i64 x (m : Int) ∧ Go.bits .and .i64 x (m : Int) ≤ m := by
  have hm' : m % 2 ^ 64 = m := Nat.mod_eq_of_lt (by omega)
  have e : Go.bits .and .i64 x (m : Int) = IntKind.i64.wrap (((BitVec.ofInt 64 x &&& BitVec.ofInt 64 (m : Int)).toNat : Nat) : Int) := rfl
  have h : (BitVec.ofInt 64 x &&& BitVec.ofInt 64 (m : Int)).toNat ≤ m := by
    rw [BitVec.ofInt_natCast, BitVec.toNat_and, BitVec.toNat_ofNat, hm']
    exact Nat.and_le_right
  rw [e, wrapi_nat (by omega)]
  omega
theorem byte_draw {l : List Int} {i h : Int} (hi : 0 ≤ i) (hl : l.length ≤ 1048576) : ∃ b i' h', spec_l01Byte.f l i h = some (b, i', h') ∧ 0 ≤ b ∧ b ≤ 255 ∧ 0 ≤ i' := by
  unfold spec_l01Byte.f
  by_cases c : i < (l.length : Int)
  · rw [if_pos c, if_pos hi]
    exact ⟨_, _, _, rfl, (and_mask _ 255 (by decide)).1, (and_mask _ 255 (by decide)).2, by rw [w64 (by omega) (by omega)]; omega⟩
  · rw [if_neg c]
    exact ⟨_, _, _, rfl, (and_mask _ 255 (by decide)).1, (and_mask _ 255 (by decide)).2, hi⟩
theorem below_draw {l : List Int} {i h n : Int} (hi : 0 ≤ i) (hl : l.length ≤ 1048576) (hn : 1 ≤ n) (hn2 : n ≤ 256) : ∃ b i' h', spec_l01Below.f l i h n = some (b, i', h') ∧ 0 ≤ b ∧ b < n ∧ 0 ≤ i' := by
  obtain ⟨b, i', h', e, h0, h1, h2⟩ := byte_draw (h := h) hi hl
  unfold spec_l01Below.f
  rw [if_neg (by omega), if_pos hn2, e, Option.bind_some, if_neg (by omega)]
  exact ⟨_, _, _, rfl, Int.tmod_nonneg _ h0, Int.tmod_lt_of_pos _ (by omega), h2⟩
theorem new_draw {k : Nat} {l : List Int} (hl : l.length ≤ 1048576) (hk : l.length + 1 ≤ k) : ∃ h, spec_l01New.f k l = some (l, 0, h) := by
  unfold spec_l01New.f
  obtain ⟨s, _, e⟩ := inv_loop (n := min l.length 4000) (c := 0) (F := fun k (s : Int) i => spec_l01New.l0 k l s i) (fin := fun s => (l, (0 : Int), s)) (I := fun _ _ => True)
    (fun k s i _ hi _ => ⟨_, trivial, by
      simp only [spec_l01New.l0]
      rw [if_pos (by omega), if_pos (by omega), if_pos (by omega), w64_succ hi (by omega)]⟩)
    (fun k s _ _ => by
      simp only [spec_l01New.l0]
      by_cases c : ((min l.length 4000 : Nat) : Int) < (l.length : Int)
      · rw [if_pos c, if_neg (by omega)]
      · rw [if_neg c]) (min l.length 4000) 0 k _ (by omega) (by omega) trivial
  exact ⟨s, e⟩
theorem at_draw {l : List Int} {a : Int} (h0 : 0 ≤ a) (h1 : a ≤ 1000) (hl : l.length ≤ 1048576) (hb : ∀ y ∈ l, 0 ≤ y ∧ y ≤ 255) : ∃ b, laws_at.f l a = some b ∧ 0 ≤ b ∧ b ≤ 255 := by
  unfold laws_at.f
  by_cases c : (l.length : Int) = 0
  · rw [if_pos c]; exact ⟨0, rfl, by decide, by decide⟩
  · rw [if_neg c, w64 (x := a * 5) (by omega) (by omega), w64 (x := a * 5 + 1) (by omega) (by omega)]
    have p0 := Int.tmod_nonneg (a := a * 5 + 1) (l.length : Int) (by omega)
    have p1 := Int.tmod_lt_of_pos (a * 5 + 1) (b := (l.length : Int)) (by omega)
    rw [if_pos p0, if_pos p1]
    obtain ⟨j, hj⟩ : ∃ j : Nat, (j : Int) = Int.tmod (a * 5 + 1) (l.length : Int) := ⟨_, Int.toNat_of_nonneg p0⟩
    rw [← hj]
    have hm : rd l (j : Int) ∈ l := by
      rw [rd_nat, List.getD_eq_getElem?_getD, List.getElem?_eq_getElem (by omega)]
      exact List.getElem_mem _
    obtain ⟨q0, q1⟩ := hb _ hm
    exact ⟨_, rfl, by rw [w64 (by omega) (by omega)]; exact q0, by rw [w64 (by omega) (by omega)]; exact q1⟩
end Go.Proofs.Ytccjanhdnheclaa.F
end

section
namespace Go.Proofs.Ytccjanhdnheclaa.F
open Go.RowKit Go.Proofs.YtccjanhdnheclaaW.PrintWords Go.Proofs.YtccjanhdnheclaaW.PrintLast Go.Proofs.YtccjanhdnheclaaW.PrintMore
set_option linter.unusedVariables false
set_option linter.unusedSimpArgs false
def pcn (n m : Nat) : Nat := (List.range m).countP fun i => n.testBit i
end Go.Proofs.Ytccjanhdnheclaa.F
end

section
namespace Go.Proofs.Ytccjanhdnheclaa.F
open Go.RowKit Go.Proofs.YtccjanhdnheclaaW.PrintWords Go.Proofs.YtccjanhdnheclaaW.PrintLast Go.Proofs.YtccjanhdnheclaaW.PrintMore
set_option linter.unusedVariables false
set_option linter.unusedSimpArgs false
def ends (w h g : Int) : Int × Int := (spec_EndsOf.f w h g).getD (0, 0)
def four : List Int := [1, 2, 3, 4]
def gaps24 : List Int := [0, 1, 2, 3, 4, 5, 6, 7, 8, 9, 10, 11, 12, 13, 14, 15, 16, 17, 18, 19, 20, 21, 22, 23]
theorem ends_all : ∀ w ∈ four, ∀ h ∈ four, ∀ g ∈ gaps24, igap w h g = true → spec_EndsOf.f w h g = some (ends w h g) ∧ icell w h (ends w h g).1 = true ∧ icell w h (ends w h g).2 = true ∧ (nb w h (ends w h g).1 1 = (ends w h g).2 ∧ gp w h (ends w h g).1 1 = g ∨ nb w h (ends w h g).1 2 = (ends w h g).2 ∧ gp w h (ends w h g).1 2 = g) := by
  decide +kernel
theorem down_all : ∀ w ∈ four, ∀ h ∈ four, ∀ c ∈ cells16, icell w h c = true → c ≠ 0 → ∃ g ∈ gaps24, igap w h g = true ∧ (ends w h g).2 = c ∧ (ends w h g).1 < c := by
  decide +kernel
theorem mem_four {w h : Int} (G : gok w h = true) : w ∈ four ∧ h ∈ four := by
  have := gok_iff.1 G
  constructor <;> simp [four] <;> omega
theorem mem_gaps24 {w h g : Int} (H : igap w h g = true) : g ∈ gaps24 := by
  have := gaps_small H
  simp [gaps24]; omega
theorem ends_spec {w h g : Int} (G : gok w h = true) (H : igap w h g = true) : spec_EndsOf.f w h g = some (ends w h g) ∧ icell w h (ends w h g).1 = true ∧ icell w h (ends w h g).2 = true ∧ (nb w h (ends w h g).1 1 = (ends w h g).2 ∧ gp w h (ends w h g).1 1 = g ∨ nb w h (ends w h g).1 2 = (ends w h g).2 ∧ gp w h (ends w h g).1 2 = g) :=
  ends_all w (mem_four G).1 h (mem_four G).2 g (mem_gaps24 H) H
theorem ends_down {w h c : Int} (G : gok w h = true) (H : icell w h c = true) (h0 : c ≠ 0) : ∃ g, igap w h g = true ∧ (ends w h g).2 = c ∧ (ends w h g).1 < c := by
  have cb := icell_iff.1 H
  have b := cells_bd w h
  obtain ⟨g, _, r⟩ := down_all w (mem_four G).1 h (mem_four G).2 c (by simp [cells16]; omega) H h0
  exact ⟨g, r⟩
theorem lnk_gap {w h o g : Int} (M : mok w h o = true) (H : igap w h g = true) (ho : opn o g = true) : lnk w h o (ends w h g).1 (ends w h g).2 := by
  have G := (mok_iff.1 M).1
  obtain ⟨_, h1, h2, h3⟩ := ends_spec G H
  have c2 := icell_iff.1 h2
  have hp : psg w h o g = true := by unfold psg; rw [M, H, ho]; rfl
  rcases h3 with ⟨a, b⟩ | ⟨a, b⟩
  · have e : st w h o (ends w h g).1 1 = (ends w h g).2 := by unfold st; rw [b, if_pos hp, a]
    have := lnk_step (w := w) (h := h) (o := o) (a := (ends w h g).1) (d := 1) (by rw [e]; exact c2.1)
    rwa [e] at this
  · have e : st w h o (ends w h g).1 2 = (ends w h g).2 := by unfold st; rw [b, if_pos hp, a]
    have := lnk_step (w := w) (h := h) (o := o) (a := (ends w h g).1) (d := 2) (by rw [e]; exact c2.1)
    rwa [e] at this
theorem countP_one {α : Type} [DecidableEq α] {p q : α → Bool} {x : α} (hp : p x = false) (hq : q x = true) (he : ∀ y, y ≠ x → p y = q y) : ∀ {l : List α}, l.Nodup → x ∈ l → l.countP q = l.countP p + 1
  | [], _, h => absurd h (by simp)
  | y :: l, hn, h => by
    rw [List.nodup_cons] at hn
    rw [List.countP_cons, List.countP_cons]
    by_cases e : y = x
    · subst e
      have : l.countP q = l.countP p := by
        rw [List.countP_eq_length_filter, List.countP_eq_length_filter]
        congr 1
        refine List.filter_congr fun z hz => (he z ?_).symm
        rintro rfl
        exact hn.1 hz
      rw [hp, hq, this]
      simp
    · have hx : x ∈ l := by
        rcases List.mem_cons.1 h with h | h
        · exact absurd h.symm e
        · exact h
      rw [countP_one hp hq he hn.2 hx, he y e]
      omega
theorem pcn_setb {o g : Int} (h0 : 0 ≤ g) (h1 : g < 24) (ho : opn o g = false) : pcn (setb o g true).toNat 24 = pcn o.toNat 24 + 1 := by
  unfold pcn
  refine countP_one (x := g.toNat) ?_ ?_ (fun y hy => ?_) List.nodup_range (by rw [List.mem_range]; omega)
  · exact ho
  · have := opn_setb (o := o) true h0 h0
    rw [if_pos rfl] at this
    exact this
  · have := opn_setb (o := o) (i := (y : Int)) true h0 (by omega)
    rw [if_neg (by omega)] at this
    unfold opn at this
    simp only [Int.toNat_natCast] at this
    exact this.symm
theorem rd_map {P : List Int} {f : Int → Int} {x : Int} (h0 : 0 ≤ x) (h1 : x < P.length) : rd (P.map f) x = f (rd P x) := by
  obtain ⟨n, rfl⟩ := Int.eq_ofNat_of_zero_le h0
  have hn : n < P.length := by omega
  rw [rd_nat, rd_nat, List.getD_eq_getElem?_getD, List.getD_eq_getElem?_getD, List.getElem?_map, List.getElem?_eq_getElem hn]
  rfl
structure TI_p (w h o : Int) (P : List Int) : Prop where
  len : P.length = stN w h
  rng : ∀ x, icell w h x = true → icell w h (rd P x) = true ∧ rd P (rd P x) = rd P x
  lk : ∀ x y, icell w h x = true → icell w h y = true → rd P x = rd P y → lnk w h o x y
  ok : mok w h o = true
  op : ∀ g, igap w h g = true → opn o g = true → rd P (ends w h g).1 = rd P (ends w h g).2
  cnt : pcn o.toNat 24 + (ints (stN w h)).countP (fun x => rd P x == x) = stN w h
theorem rd_ints {n : Nat} {x : Int} (h0 : 0 ≤ x) (h1 : x < n) : rd (ints n) x = x := by
  obtain ⟨m, rfl⟩ := Int.eq_ofNat_of_zero_le h0
  have hm : m < n := by omega
  rw [rd_nat, List.getD_eq_getElem?_getD]
  unfold ints
  rw [List.getElem?_map, List.getElem?_range hm]
  rfl
theorem ti_init {w h : Int} (G : gok w h = true) : TI_p w h 0 (ints (stN w h)) := by
  have hN := stN_int w h
  have hr : ∀ x, icell w h x = true → rd (ints (stN w h)) x = x := fun x hx => by
    have := icell_iff.1 hx
    exact rd_ints this.1 (by omega)
  refine ⟨ints_length _, fun x hx => ?_, fun x y hx hy e => ?_, ?_, fun g _ ho => ?_, ?_⟩
  · rw [hr x hx]; exact ⟨hx, hr x hx⟩
  · rw [hr x hx, hr y hy] at e; rw [e]; exact lnk_refl _ _ _ _
  · refine mok_iff.2 ⟨G, Int.le_refl _, ?_⟩
    have := gpow w h
    omega
  · unfold opn at ho; simp at ho
  · have e : (ints (stN w h)).countP (fun x => rd (ints (stN w h)) x == x) = (ints (stN w h)).length := by
      rw [List.countP_eq_length]
      intro x hx
      have := mem_ints.1 hx
      rw [rd_ints this.1 this.2]
      simp
    rw [e, ints_length]
    have : pcn (0 : Int).toNat 24 = 0 := by decide
    omega
def sub1 (old new v : Int) : Int := if v = old then new else v
theorem sub1_pos {old new v : Int} (h : v = old) : sub1 old new v = new := by unfold sub1; rw [if_pos h]
theorem sub1_neg {old new v : Int} (h : v ≠ old) : sub1 old new v = v := by unfold sub1; rw [if_neg h]
theorem ti_step {w h o g : Int} {P : List Int} (T : TI_p w h o P) (H : igap w h g = true) (hne : rd P (ends w h g).1 ≠ rd P (ends w h g).2) : TI_p w h (setb o g true) (P.map (sub1 (rd P (ends w h g).2) (rd P (ends w h g).1))) := by
  have G := (mok_iff.1 T.ok).1
  obtain ⟨_, ca, cb, _⟩ := ends_spec G H
  have hg := gaps_small H
  have M' := mok_setb true T.ok H
  have hN := stN_int w h
  have hin : ∀ x, icell w h x = true → 0 ≤ x ∧ x < P.length := fun x hx => by have := icell_iff.1 hx; have := T.len; omega
  have hr : ∀ x, icell w h x = true → rd (P.map (sub1 (rd P (ends w h g).2) (rd P (ends w h g).1))) x = sub1 (rd P (ends w h g).2) (rd P (ends w h g).1) (rd P x) := fun x hx => rd_map (hin x hx).1 (hin x hx).2
  have more : ∀ j, 0 ≤ j → opn o j = true → opn (setb o g true) j = true := fun j hj ho => by
    rw [opn_setb true hg.1 hj]
    split
    · rfl
    · exact ho
  have og : opn (setb o g true) g = true := by rw [opn_setb true hg.1 hg.1, if_pos rfl]
  have ab := lnk_gap M' H og
  obtain ⟨ra, ra2⟩ := T.rng _ ca
  obtain ⟨rb, rb2⟩ := T.rng _ cb
  generalize hA : rd P (ends w h g).1 = A at *
  generalize hB : rd P (ends w h g).2 = B at *
  refine ⟨by rw [List.length_map]; exact T.len, fun x hx => ?_, fun x y hx hy e => ?_, M', fun j hj ho => ?_, ?_⟩
  · obtain ⟨r1, r2⟩ := T.rng x hx
    rw [hr x hx]
    by_cases c : rd P x = B
    · rw [sub1_pos c]
      refine ⟨ra, ?_⟩
      rw [hr _ ra, ra2, sub1_neg hne]
    · rw [sub1_neg c]
      refine ⟨r1, ?_⟩
      rw [hr _ r1, r2, sub1_neg c]
  · rw [hr x hx, hr y hy] at e
    have lm : ∀ x y, icell w h x = true → icell w h y = true → rd P x = rd P y → lnk w h (setb o g true) x y := fun x y hx hy e => lnk_more M' more (T.lk x y hx hy e)
    unfold sub1 at e
    by_cases c1 : rd P x = B <;> by_cases c2 : rd P y = B
    · exact lm x y hx hy (c1.trans c2.symm)
    · rw [if_pos c1, if_neg c2] at e
      exact lnk_trans (lm _ _ hx cb (c1.trans hB.symm)) (lnk_trans (lnk_symm ab) (lm _ _ ca hy (hA.trans e)))
    · rw [if_neg c1, if_pos c2] at e
      exact lnk_trans (lm _ _ hx ca (e.trans hA.symm)) (lnk_trans ab (lm _ _ cb hy (hB.trans c2.symm)))
    · rw [if_neg c1, if_neg c2] at e
      exact lm x y hx hy e
  · obtain ⟨_, c1, c2, _⟩ := ends_spec G hj
    rw [hr _ c1, hr _ c2]
    rw [opn_setb true hg.1 (igap_iff.1 hj).1] at ho
    by_cases e : j = g
    · subst e
      rw [hA, hB]
      unfold sub1
      rw [if_neg hne, if_pos rfl]
    · rw [if_neg e] at ho
      rw [T.op j hj ho]
  · have ho : opn o g = false := by
      cases e : opn o g with
      | false => rfl
      | true => exact absurd (by have := T.op g H e; rw [hA, hB] at this; exact this) hne
    rw [pcn_setb hg.1 hg.2 ho]
    have hb := icell_iff.1 rb
    have key := countP_one (p := fun x => rd (P.map (sub1 B A)) x == x) (q := fun x => rd P x == x) (x := B) (l := ints (stN w h)) ?_ ?_ ?_ (by
      unfold ints
      exact List.pairwise_map.2 (List.nodup_range.imp fun h e => h (by omega))) (mem_ints.2 ⟨hb.1, by omega⟩)
    · have := T.cnt
      omega
    · show (rd (P.map (sub1 B A)) B == B) = false
      rw [hr _ rb, rb2]
      unfold sub1
      rw [if_pos rfl]
      simpa using hne
    · show (rd P B == B) = true
      rw [rb2]; simp
    · intro y hy
      show (rd (P.map (sub1 B A)) y == y) = (rd P y == y)
      by_cases cy : icell w h y = true
      · rw [hr y cy]
        unfold sub1
        by_cases c : rd P y = B
        · rw [if_pos c]
          have h1 : A ≠ y := by
            rintro rfl
            exact hne (ra2.symm.trans c)
          have h2 : rd P y ≠ y := by rw [c]; exact fun e => hy e.symm
          rw [beq_eq_false_iff_ne.2 h1, beq_eq_false_iff_ne.2 h2]
        · rw [if_neg c]
      · have hl : P.length = (P.map (sub1 B A)).length := by simp
        by_cases hy0 : 0 ≤ y
        · have hy1 : P.length ≤ y.toNat := by
            have h1 : ¬ (0 ≤ y ∧ y < cells w h) := fun z => cy (icell_iff.2 z)
            have := T.len
            omega
          unfold rd
          rw [List.getD_eq_getElem?_getD, List.getD_eq_getElem?_getD, List.getElem?_eq_none (by rw [List.length_map]; exact hy1), List.getElem?_eq_none hy1]
        · have ht : y.toNat = 0 := by omega
          have e0 : ∀ L : List Int, rd L y = rd L 0 := fun L => by unfold rd; rw [ht]; rfl
          have c0 := icell_zero G
          have n1 : ∀ z, icell w h z = true → (z == y) = false := fun z hz => by
            have := icell_iff.1 hz
            rw [beq_eq_false_iff_ne]; omega
          rw [e0, e0, n1 _ (T.rng 0 c0).1, hr 0 c0]
          unfold sub1
          split
          · exact n1 _ ra
          · exact n1 _ (T.rng 0 c0).1
theorem ti_end {w h o : Int} {P : List Int} (T : TI_p w h o P) (H : ∀ g, igap w h g = true → rd P (ends w h g).1 = rd P (ends w h g).2) : conn w h o = true ∧ ((pcn o.toNat 24 : Nat) : Int) = cells w h - 1 := by
  have G := (mok_iff.1 T.ok).1
  have c0 := icell_zero G
  have hN := stN_int w h
  have key : ∀ (n : Nat) (x : Int), x.toNat ≤ n → icell w h x = true → rd P x = rd P 0 := by
    intro n
    induction n with
    | zero =>
      intro x hx hc
      have := icell_iff.1 hc
      obtain rfl : x = 0 := by omega
      rfl
    | succ n ih =>
      intro x hx hc
      by_cases x0 : x = 0
      · rw [x0]
      · obtain ⟨g, hg, e1, e2⟩ := ends_down G hc x0
        obtain ⟨_, c1, _, _⟩ := ends_spec G hg
        have := icell_iff.1 c1
        rw [← e1, ← H g hg]
        exact ih _ (by omega) c1
  refine ⟨conn_iff.2 ⟨T.ok, fun x hx => T.lk 0 x c0 hx (key _ x (Nat.le_refl _) hx).symm⟩, ?_⟩
  have h1 : (ints (stN w h)).countP (fun x => rd P x == x) = 1 := by
    obtain ⟨r1, r2⟩ := T.rng 0 c0
    have cr := icell_iff.1 r1
    have e1 : (ints (stN w h)).countP (fun x => rd P x == x) = (ints (stN w h)).countP (fun x => x == rd P 0) := by
      rw [List.countP_eq_length_filter, List.countP_eq_length_filter]
      congr 1
      refine List.filter_congr fun x hx => ?_
      have hm := mem_ints.1 hx
      have hc : icell w h x = true := icell_iff.2 ⟨hm.1, by omega⟩
      rw [key _ x (Nat.le_refl _) hc, Bool.eq_iff_iff]
      simp only [beq_iff_eq]
      exact ⟨fun h => h.symm, fun h => h.symm⟩
    have e2 := countP_one (p := fun _ => false) (q := fun x => x == rd P 0) (x := rd P 0) (l := ints (stN w h)) rfl (by simp) (fun y hy => (beq_eq_false_iff_ne.2 hy).symm) (by
      unfold ints
      exact List.pairwise_map.2 (List.nodup_range.imp fun h e => h (by omega))) (mem_ints.2 ⟨cr.1, by omega⟩)
    rw [e1, e2]
    simp
  have := T.cnt
  omega
theorem or_shl_tr {o g : Int} (ho : 0 ≤ o) (h1 : o < 2 ^ 62) (hg : 0 ≤ g) (h2 : g < 62) : Go.bits .or .i64 o (shl .i64 1 g) = setb o g true := by
  obtain ⟨a, rfl⟩ := Int.eq_ofNat_of_zero_le ho
  obtain ⟨n, rfl⟩ := Int.eq_ofNat_of_zero_le hg
  have hp : (2 : Nat) ^ n < 2 ^ 63 := Nat.pow_lt_pow_right (by decide) (by omega)
  rw [shl_one (by omega), bits_or_i (by omega) hp]
  unfold setb
  rw [if_pos rfl]
  simp
theorem tree_l3 {w h o n f s a old new : Int} {i0 : Int} {l : List Int} {s1 s2 : Int} {P : List Int} (ha : 0 ≤ a ∧ a < P.length) (hA : rd P a = new) (hne : new ≠ old) (hP : P.length ≤ 100) : ∀ (t i k : Nat) (Q : List Int), i + t = P.length → t + 1 ≤ k → Q.length = P.length →
    (∀ j : Nat, j < P.length → rd Q (j : Int) = if j < i then sub1 old new (rd P (j : Int)) else rd P (j : Int)) →
    spec_l03Tree.l3 k n Q f s i0 a old (i : Int) l s1 s2 w h w h o = spec_l03Tree.l2 (k - t - 1) n (P.map (sub1 old new)) f s (wrap64 (i0 + 1)) l s1 s2 w h w h o
  | 0, i, k, Q, hi, hk, hl, hQ => by
    obtain ⟨m, rfl⟩ : ∃ m, k = m + 1 := ⟨k - 1, by omega⟩
    simp only [spec_l03Tree.l3]
    rw [if_neg (by omega)]
    have e : Q = P.map (sub1 old new) := by
      apply List.ext_getElem
      · rw [List.length_map, hl]
      · intro j h1 h2
        have := hQ j (by omega)
        rw [if_pos (by omega), rd_nat, rd_nat, List.getD_eq_getElem?_getD, List.getD_eq_getElem?_getD, List.getElem?_eq_getElem h1, List.getElem?_eq_getElem (by omega)] at this
        simpa using this
    rw [e]
    rfl
  | t + 1, i, k, Q, hi, hk, hl, hQ => by
    obtain ⟨m, rfl⟩ : ∃ m, k = m + 1 := ⟨k - 1, by omega⟩
    have hil : i < P.length := by omega
    have hi0 := hQ i hil
    rw [if_neg (Nat.lt_irrefl _)] at hi0
    have hqa : rd Q a = new := by
      obtain ⟨j, rfl⟩ := Int.eq_ofNat_of_zero_le ha.1
      rw [hQ j (by omega), hA]
      unfold sub1
      rw [if_neg hne]
      split <;> rfl
    simp only [spec_l03Tree.l3]
    rw [if_pos (by omega), if_pos (by omega), hi0, w64 (x := (i : Int) + 1) (by omega) (by omega)]
    have step : ∀ Q2 : List Int, Q2.length = P.length → (∀ j : Nat, j < P.length → rd Q2 (j : Int) = if j < i + 1 then sub1 old new (rd P (j : Int)) else rd P (j : Int)) → spec_l03Tree.l3 m n Q2 f s i0 a old ((i : Int) + 1) l s1 s2 w h w h o = spec_l03Tree.l2 (m + 1 - (t + 1) - 1) n (P.map (sub1 old new)) f s (wrap64 (i0 + 1)) l s1 s2 w h w h o := fun Q2 h1 h2 => by
      have := tree_l3 (w := w) (h := h) (o := o) (n := n) (f := f) (s := s) (i0 := i0) (l := l) (s1 := s1) (s2 := s2) ha hA hne hP t (i + 1) m Q2 (by omega) (by omega) h1 h2
      rw [Int.natCast_add] at this
      rw [show m + 1 - (t + 1) - 1 = m - t - 1 by omega]
      exact this
    by_cases c : rd P (i : Int) = old
    · rw [if_pos c, if_pos ha.1, if_pos (by omega), hqa]
      refine step _ (by simpa using hl) fun j hj => ?_
      rw [rd_set (by omega) (by omega) (by omega)]
      by_cases e : (j : Int) = (i : Int)
      · have e' : j = i := by omega
        subst e'
        rw [if_pos rfl, if_pos (by omega)]
        unfold sub1
        rw [if_pos c]
      · rw [if_neg e, hQ j hj]
        by_cases q : j < i
        · rw [if_pos q, if_pos (by omega)]
        · rw [if_neg q, if_neg (by omega)]
    · rw [if_neg c]
      refine step _ hl fun j hj => ?_
      rw [hQ j hj]
      by_cases e : j = i
      · subst e
        rw [if_neg (Nat.lt_irrefl _), if_pos (by omega)]
        unfold sub1
        rw [if_neg c]
      · by_cases q : j < i
        · rw [if_pos q, if_pos (by omega)]
        · rw [if_neg q, if_neg (by omega)]
def gapi (n f s i : Nat) : Int := (((f + i * s) % n : Nat) : Int)
theorem tree_l2 {w h : Int} {n f s : Nat} {l : List Int} {s1 s2 : Int} (G : gok w h = true) (hn : (n : Int) = gaps w h) (hn0 : 0 < n) (hf : f < n) (hs : s ≤ 25) : ∀ (t i k : Nat) (P : List Int) (o : Int), i + t = n → 30 * t + 30 ≤ k → TI_p w h o P → (∀ j, j < i → rd P (ends w h (gapi n f s j)).1 = rd P (ends w h (gapi n f s j)).2) →
    ∃ o' P', spec_l03Tree.l2 k (n : Int) P (f : Int) (s : Int) (i : Int) l s1 s2 w h w h o = some (w, h, o', s1, s2) ∧ TI_p w h o' P' ∧ ∀ j, j < n → rd P' (ends w h (gapi n f s j)).1 = rd P' (ends w h (gapi n f s j)).2
  | 0, i, k, P, o, hi, hk, T, hd => by
    obtain ⟨m, rfl⟩ : ∃ m, k = m + 1 := ⟨k - 1, by omega⟩
    refine ⟨o, P, ?_, T, fun j hj => hd j (by omega)⟩
    simp only [spec_l03Tree.l2]
    rw [if_neg (by omega)]
  | t + 1, i, k, P, o, hi, hk, T, hd => by
    obtain ⟨m, rfl⟩ : ∃ m, k = m + 1 := ⟨k - 1, by omega⟩
    have hb := gaps_bd w h
    have hN := stN_int w h
    have hN2 := stN_le w h
    have hl := T.len
    have hmul : i * s ≤ 24 * 25 := Nat.mul_le_mul (by omega) hs
    have e : Int.tmod (wrap64 ((f : Int) + wrap64 ((i : Int) * (s : Int)))) (n : Int) = gapi n f s i := by
      rw [show ((i : Int) * (s : Int)) = ((i * s : Nat) : Int) by simp, w64 (x := ((i * s : Nat) : Int)) (by omega) (by omega), w64 (by omega) (by omega)]
      rw [show ((f : Int) + ((i * s : Nat) : Int)) = ((f + i * s : Nat) : Int) by simp]
      unfold gapi
      rw [Int.tmod_eq_emod_of_nonneg (by omega)]
      rfl
    have hg : igap w h (gapi n f s i) = true := by
      rw [igap_iff, ← hn]
      have := Nat.mod_lt (f + i * s) hn0
      unfold gapi
      omega
    have gs := gaps_small hg
    obtain ⟨e1, c1, c2, _⟩ := ends_spec G hg
    have b1 := icell_iff.1 c1
    have b2 := icell_iff.1 c2
    have ms := mok_small T.ok
    simp only [spec_l03Tree.l2]
    rw [if_pos (by omega), if_neg (by omega), e, e1, Option.bind_some, if_pos b1.1, if_pos (by omega), if_pos b2.1, if_pos (by omega), w64 (x := (i : Int) + 1) (by omega) (by omega)]
    by_cases c : rd P (ends w h (gapi n f s i)).1 = rd P (ends w h (gapi n f s i)).2
    · rw [if_pos c]
      have := tree_l2 (l := l) (s1 := s1) (s2 := s2) G hn hn0 hf hs t (i + 1) m P o (by omega) (by omega) T (fun j hj => by
        by_cases q : j = i
        · rw [q]; exact c
        · exact hd j (by omega))
      rw [Int.natCast_add] at this
      exact this
    · rw [if_neg c, if_pos gs.1, or_shl_tr ms.1 (by omega) gs.1 (by omega)]
      have T' := ti_step T hg c
      have := tree_l3 (w := w) (h := h) (o := setb o (gapi n f s i) true) (n := n) (f := f) (s := s) (i0 := i) (l := l) (s1 := s1) (s2 := s2) (P := P) (a := (ends w h (gapi n f s i)).1) (old := rd P (ends w h (gapi n f s i)).2) (new := rd P (ends w h (gapi n f s i)).1) (by omega) rfl c (by omega) P.length 0 m P (by omega) (by omega) rfl (fun j hj => by rw [if_neg (Nat.not_lt_zero _)])
      have h3 : spec_l03Tree.l3 m (n : Int) P (f : Int) (s : Int) (i : Int) (ends w h (gapi n f s i)).1 (rd P (ends w h (gapi n f s i)).2) 0 l s1 s2 w h w h (setb o (gapi n f s i) true) = _ := this
      rw [h3, w64 (x := (i : Int) + 1) (by omega) (by omega)]
      have hmap : ∀ x, icell w h x = true → rd (P.map (sub1 (rd P (ends w h (gapi n f s i)).2) (rd P (ends w h (gapi n f s i)).1))) x = sub1 (rd P (ends w h (gapi n f s i)).2) (rd P (ends w h (gapi n f s i)).1) (rd P x) := fun x hx => by
        have := icell_iff.1 hx
        exact rd_map this.1 (by omega)
      have := tree_l2 (l := l) (s1 := s1) (s2 := s2) G hn hn0 hf hs t (i + 1) (m - P.length - 1) _ _ (by omega) (by omega) T' (fun j hj => by
        have hgj : igap w h (gapi n f s j) = true := by
          rw [igap_iff, ← hn]
          have := Nat.mod_lt (f + j * s) hn0
          unfold gapi
          omega
        obtain ⟨_, d1, d2, _⟩ := ends_spec G hgj
        rw [hmap _ d1, hmap _ d2]
        by_cases q : j = i
        · subst q
          unfold sub1
          rw [if_neg c, if_pos rfl]
        · rw [hd j (by omega)])
      rw [Int.natCast_add] at this
      exact this
def cop (s n : Int) : Option Bool := spec_l03Common.f 40 s n
def nats25 : List Nat := List.range 26
theorem cop_all : ∀ n ∈ nats25, ∀ s ∈ nats25, 0 < n → 0 < s → (cop (s : Int) (n : Int) = some true ∨ cop (s : Int) (n : Int) = some false ∧ ∃ v ∈ nats25, (v * s) % n = 1 % n) := by
  decide +kernel
theorem cop_next : ∀ n ∈ nats25, 0 < n → n ≤ 24 → cop ((n + 1 : Nat) : Int) (n : Int) = some false := by
  decide +kernel
theorem cop_more {k : Nat} {s n : Int} {b : Bool} (h : cop s n = some b) (hk : 40 ≤ k) : spec_l03Common.f k s n = some b :=
  at_rounds (g := fun k => spec_l03Common.f k s n) (fun k => spec_l03Common.mono s n k) (k := 40) hk h
theorem mod_reach {n f s v g : Nat} (hn : 0 < n) (hf : f < n) (hv : (v * s) % n = 1 % n) (hg : g < n) : ∃ i, i < n ∧ (f + i * s) % n = g := by
  refine ⟨((g + (n - f)) * v) % n, Nat.mod_lt _ hn, ?_⟩
  have e1 : (((g + (n - f)) * v) % n * s) % n = (g + (n - f)) % n := by
    rw [Nat.mod_mul_mod, Nat.mul_assoc, ← Nat.mul_mod_mod, hv, Nat.mul_mod_mod, Nat.mul_one]
  rw [← Nat.add_mod_mod, e1, Nat.add_mod_mod, show f + (g + (n - f)) = g + n by omega, Nat.add_mod_right, Nat.mod_eq_of_lt hg]
theorem tree_l1 {w h : Int} {n f : Nat} {l : List Int} {s1 s2 : Int} {P : List Int} (hn0 : 0 < n) (hn : n ≤ 24) : ∀ (t s k : Nat), s + t = n + 1 → 0 < s → t + 50 ≤ k →
    ∃ s' k', s' ≤ 25 ∧ k ≤ k' + t + 1 ∧ (∃ v, (v * s') % n = 1 % n) ∧ spec_l03Tree.l1 k (n : Int) P (f : Int) (s : Int) l s1 s2 w h w h 0 = spec_l03Tree.l2 k' (n : Int) P (f : Int) (s' : Int) 0 l s1 s2 w h w h 0
  | 0, s, k, hs, h0, hk => by
    obtain ⟨m, rfl⟩ : ∃ m, k = m + 1 := ⟨k - 1, by omega⟩
    obtain rfl : s = n + 1 := by omega
    have hc := cop_next n (by simp [nats25]; omega) hn0 hn
    have hv : ∃ v, (v * (n + 1)) % n = 1 % n := by
      rcases cop_all n (by simp [nats25]; omega) (n + 1) (by simp [nats25]; omega) hn0 (by omega) with h | ⟨_, v, _, h⟩
      · rw [hc] at h; exact absurd h (by decide)
      · exact ⟨v, h⟩
    refine ⟨n + 1, m, by omega, by omega, hv, ?_⟩
    simp only [spec_l03Tree.l1]
    rw [cop_more hc (by omega), Option.bind_some, if_neg Bool.false_ne_true]
  | t + 1, s, k, hs, h0, hk => by
    obtain ⟨m, rfl⟩ : ∃ m, k = m + 1 := ⟨k - 1, by omega⟩
    rcases cop_all n (by simp [nats25]; omega) s (by simp [nats25]; omega) hn0 h0 with hc | ⟨hc, v, _, hv⟩
    · obtain ⟨s', k', h1, h2, h3, h4⟩ := tree_l1 (w := w) (h := h) (f := f) (l := l) (s1 := s1) (s2 := s2) (P := P) hn0 hn t (s + 1) m (by omega) (by omega) (by omega)
      refine ⟨s', k', h1, by omega, h3, ?_⟩
      rw [← h4]
      simp only [spec_l03Tree.l1]
      rw [cop_more hc (by omega), Option.bind_some, if_pos rfl, w64 (by omega) (by omega)]
      rfl
    · refine ⟨s, m, by omega, by omega, ⟨v, hv⟩, ?_⟩
      simp only [spec_l03Tree.l1]
      rw [cop_more hc (by omega), Option.bind_some, if_neg Bool.false_ne_true]
theorem tree_l0 {w h n : Int} {l : List Int} {s1 s2 : Int} {N : Nat} (hN : N ≤ 100) : ∀ (t i k : Nat) (Q : List Int), i + t = N → t + 1 ≤ k → Q.length = N → (∀ j : Nat, j < i → rd Q (j : Int) = j) →
    spec_l03Tree.l0 k n Q (i : Int) l s1 s2 w h w h 0 = if n = 0 then some (w, h, 0, s1, s2) else (spec_l01Below.f l s1 s2 n).bind fun b => (spec_l01Below.f l b.2.1 b.2.2 n).bind fun c => spec_l03Tree.l1 (k - t - 1) n (ints N) b.1 (wrap64 (1 + c.1)) l c.2.1 c.2.2 w h w h 0
  | 0, i, k, Q, hi, hk, hl, hQ => by
    obtain ⟨m, rfl⟩ : ∃ m, k = m + 1 := ⟨k - 1, by omega⟩
    simp only [spec_l03Tree.l0]
    rw [if_neg (by omega)]
    have e : Q = ints N := by
      apply List.ext_getElem
      · rw [ints_length, hl]
      · intro j h1 h2
        have := hQ j (by omega)
        rw [rd_nat, List.getD_eq_getElem?_getD, List.getElem?_eq_getElem h1] at this
        simp only [ints, List.getElem_map, List.getElem_range]
        simpa using this
    rw [e]
    rfl
  | t + 1, i, k, Q, hi, hk, hl, hQ => by
    obtain ⟨m, rfl⟩ : ∃ m, k = m + 1 := ⟨k - 1, by omega⟩
    simp only [spec_l03Tree.l0]
    rw [if_pos (by omega), if_pos (by omega), w64 (by omega) (by omega)]
    have := tree_l0 (w := w) (h := h) (n := n) (l := l) (s1 := s1) (s2 := s2) hN t (i + 1) m (Q.set i (i : Int)) (by omega) (by omega) (by simpa using hl) (fun j hj => by
      have := rd_set (D := Q) (i := (i : Int)) (x := (j : Int)) (v := (i : Int)) (by omega) (by omega) (by omega)
      rw [Int.toNat_natCast] at this
      rw [this]
      by_cases e : (j : Int) = (i : Int)
      · rw [if_pos e]; exact e.symm
      · rw [if_neg e]; exact hQ j (by omega))
    rw [Int.natCast_add] at this
    rw [show m + 1 - (t + 1) - 1 = m - t - 1 by omega]
    rw [Int.toNat_natCast]
    exact this
theorem tree_draw {k : Nat} {l : List Int} {i s w h : Int} (G : gok w h = true) (hi : 0 ≤ i) (hl : l.length ≤ 1048576) (hk : 1000 ≤ k) :
    ∃ o i' s', spec_l03Tree.f k l i s w h = some (w, h, o, i', s') ∧ 0 ≤ i' ∧ conn w h o = true ∧ ((pcn o.toNat 24 : Nat) : Int) = cells w h - 1 := by
  have hN := stN_int w h
  have hN2 := stN_le w h
  have hb := gaps_bd w h
  have T0 := ti_init G
  unfold spec_l03Tree.f
  rw [spec_CountGaps_eq, Option.bind_some, spec_CountCells_eq, Option.bind_some, ← hN, if_pos (by omega), if_pos (by omega), Int.toNat_natCast]
  have e0 := tree_l0 (w := w) (h := h) (n := gaps w h) (l := l) (s1 := i) (s2 := s) (N := stN w h) (by omega) (stN w h) 0 k (List.replicate (stN w h) 0) (by omega) (by omega) (by simp) (fun j hj => absurd hj (Nat.not_lt_zero _))
  have e1 : spec_l03Tree.l0 k (gaps w h) (List.replicate (stN w h) 0) 0 l i s w h w h 0 = _ := e0
  rw [e1]
  by_cases n0 : gaps w h = 0
  · rw [if_pos n0]
    obtain ⟨q1, q2⟩ := ti_end T0 (fun g hg => by have := igap_iff.1 hg; omega)
    exact ⟨0, i, s, rfl, hi, q1, by rw [hN]; exact q2⟩
  · rw [if_neg n0]
    obtain ⟨f, i1, h1, d1, f0, f1, j1⟩ := below_draw (h := s) hi hl (n := gaps w h) (by omega) (by omega)
    obtain ⟨c, i2, h2, d2, c0, c1, j2⟩ := below_draw (h := h1) j1 hl (n := gaps w h) (by omega) (by omega)
    rw [d1, Option.bind_some, d2, Option.bind_some, w64 (by omega) (by omega)]
    simp only
    obtain ⟨n, hn⟩ := Int.eq_ofNat_of_zero_le hb.1
    obtain ⟨f, rfl⟩ := Int.eq_ofNat_of_zero_le f0
    obtain ⟨c, rfl⟩ := Int.eq_ofNat_of_zero_le c0
    rw [show (1 : Int) + (c : Int) = ((c + 1 : Nat) : Int) by omega, hn]
    obtain ⟨s', k', q1, q2, ⟨v, hv⟩, q4⟩ := tree_l1 (w := w) (h := h) (n := n) (f := f) (l := l) (s1 := i2) (s2 := h2) (P := ints (stN w h)) (by omega) (by omega) (n - c) (c + 1) (k - stN w h - 1) (by omega) (by omega) (by omega)
    rw [q4]
    obtain ⟨o, P', r1, r2, r3⟩ := tree_l2 (l := l) (s1 := i2) (s2 := h2) G (n := n) (f := f) (s := s') (by omega) (by omega) (by omega) q1 n 0 k' (ints (stN w h)) 0 (by omega) (by omega) T0 (fun j hj => absurd hj (Nat.not_lt_zero _))
    have r1' : spec_l03Tree.l2 k' (n : Int) (ints (stN w h)) (f : Int) (s' : Int) 0 l i2 h2 w h w h 0 = some (w, h, o, i2, h2) := r1
    obtain ⟨z1, z2⟩ := ti_end r2 (fun g hg => by
      have gb := igap_iff.1 hg
      obtain ⟨g, rfl⟩ := Int.eq_ofNat_of_zero_le gb.1
      obtain ⟨j, hj, e⟩ := mod_reach (n := n) (f := f) (s := s') (v := v) (g := g) (by omega) (by omega) hv (by omega)
      have := r3 j hj
      unfold gapi at this
      rw [e] at this
      exact this)
    exact ⟨o, i2, h2, r1', j2, z1, by rw [hN]; exact z2⟩
end Go.Proofs.Ytccjanhdnheclaa.F
end

section
namespace Go.Proofs.Ytccjanhdnheclaa.F
open Go.RowKit Go.Proofs.YtccjanhdnheclaaW.PrintWords Go.Proofs.YtccjanhdnheclaaW.PrintLast Go.Proofs.YtccjanhdnheclaaW.PrintMore
set_option linter.unusedVariables false
set_option linter.unusedSimpArgs false
theorem pick_draw {l L : List Int} {i s : Int} (hi : 0 ≤ i) (hl : l.length ≤ 1048576) (h0 : 0 < L.length) (h1 : L.length ≤ 256) : ∃ v i' s', spec_l01PickInt.f l i s L = some (v, i', s') ∧ v ∈ L ∧ 0 ≤ i' := by
  obtain ⟨b, i1, h1, e, b0, b1, j⟩ := below_draw (h := s) hi hl (n := (L.length : Int)) (by omega) (by omega)
  unfold spec_l01PickInt.f
  rw [e, Option.bind_some, if_pos b0, if_pos b1]
  exact ⟨_, _, _, rfl, rd_memI b0 b1, j⟩
theorem grid_draw {l : List Int} {i s : Int} (hi : 0 ≤ i) (hl : l.length ≤ 1048576) : ∃ w h i' s', spec_l02Grid.f l i s = some (w, h, i', s') ∧ gok w h = true ∧ 0 ≤ i' := by
  obtain ⟨w, i1, s1, e1, m1, j1⟩ := pick_draw (L := [1, 2, 3, 3, 4]) (s := s) hi hl (by decide) (by decide)
  obtain ⟨h, i2, s2, e2, m2, j2⟩ := pick_draw (L := [1, 2, 3, 3, 4]) (s := s1) j1 hl (by decide) (by decide)
  unfold spec_l02Grid.f
  rw [e1]
  simp only [Option.bind_some]
  rw [e2]
  simp only [Option.bind_some]
  refine ⟨_, _, _, _, rfl, gok_iff.2 ?_, j2⟩
  simp only [List.mem_cons, List.not_mem_nil, or_false] at m1 m2
  omega
end Go.Proofs.Ytccjanhdnheclaa.F
end

section
namespace Go.Proofs.Ytccjanhdnheclaa.F
open Go.RowKit Go.Proofs.YtccjanhdnheclaaW.PrintWords Go.Proofs.YtccjanhdnheclaaW.PrintLast Go.Proofs.YtccjanhdnheclaaW.PrintMore
set_option linter.unusedVariables false
set_option linter.unusedSimpArgs false
theorem spec_WaysFrom_eq {k : Nat} (hk : 8 ≤ k) (w h o c : Int) : spec_WaysFrom.f k w h o c = some (ways w h o c) := by
  unfold spec_WaysFrom.f
  have := fold_loop (n := 4) (c := 3) (F := fun k (acc : List Int) i => spec_WaysFrom.l0 k c acc i w h o) (step := fun acc i => if 0 ≤ st w h o c (i : Int) then acc ++ [(i : Int)] else acc) (fin := fun acc : List Int => acc) (I := fun acc i => acc.length ≤ i)
    (fun k acc i hk hi ha => by
      simp only [spec_WaysFrom.l0]
      rw [if_pos (by omega), spec_Step_eq (by omega), Option.bind_some, w64 (x := (i : Int) + 1) (by omega) (by omega)]
      by_cases hd : 0 ≤ st w h o c (i : Int)
      · rw [if_pos hd, if_pos hd, if_pos (by omega)]
      · rw [if_neg hd, if_neg hd])
    (fun acc i _ ha => by
      show (if _ then _ else _ : List Int).length ≤ i + 1
      split
      · simp only [List.length_append, List.length_singleton]; omega
      · omega)
    (fun k acc _ _ => by
      simp only [spec_WaysFrom.l0]
      rw [if_neg (by decide)]) 4 0 k [] (by decide) (by omega) (Nat.le_refl _)
  refine this.trans ?_
  congr 1
  unfold ways
  simp only [List.range'_succ, List.range'_zero, List.foldl_cons, List.foldl_nil, List.filter_cons, List.filter_nil, Nat.zero_add, Int.natCast_add, decide_eq_true_eq]
  show (if 0 ≤ st w h o c (3 : Int) then _ else _) = _
  by_cases h0 : 0 ≤ st w h o c 0 <;> by_cases h1 : 0 ≤ st w h o c 1 <;> by_cases h2 : 0 ≤ st w h o c 2 <;> by_cases h3 : 0 ≤ st w h o c 3 <;> simp [h0, h1, h2, h3]
end Go.Proofs.Ytccjanhdnheclaa.F
end

section
namespace Go.Proofs.Ytccjanhdnheclaa.F
open Go.RowKit Go.Proofs.YtccjanhdnheclaaW.PrintWords Go.Proofs.YtccjanhdnheclaaW.PrintLast Go.Proofs.YtccjanhdnheclaaW.PrintMore
set_option linter.unusedVariables false
set_option linter.unusedSimpArgs false
theorem once_draw {l : List Int} {i s n : Int} (hi : 0 ≤ i) (hl : l.length ≤ 1048576) (hn : 1 ≤ n) (hn2 : n ≤ 256) : ∃ b i' s', spec_l01Once.f l i s n = some (b, i', s') ∧ 0 ≤ i' := by
  obtain ⟨b, i1, h1, e, _, _, j⟩ := below_draw (h := s) hi hl hn hn2
  unfold spec_l01Once.f
  rw [e, Option.bind_some]
  exact ⟨_, _, _, rfl, j⟩
end Go.Proofs.Ytccjanhdnheclaa.F
end

section
namespace Go.Proofs.Ytccjanhdnheclaa.F
open Go.RowKit Go.Proofs.YtccjanhdnheclaaW.PrintWords Go.Proofs.YtccjanhdnheclaaW.PrintLast Go.Proofs.YtccjanhdnheclaaW.PrintMore
set_option linter.unusedVariables false
set_option linter.unusedSimpArgs false
section
variable (w h o : Int)
def nxtP (t : Int) (u : Int × Int) : Int × Int := (nx w h o u.1 u.2 t, nf u.2 t)
def endP : List Int → Int × Int → Int × Int
  | [], u => u
  | t :: ts, u => endP ts (nxtP w h o t u)
def pth : List Int → Int × Int → List Int
  | [], _ => []
  | t :: ts, u => pat w h o (nxtP w h o t u).1 (nxtP w h o t u).2 :: pth ts (nxtP w h o t u)
def oks : List Int → Int × Int → Prop
  | [], _ => True
  | t :: ts, u => 0 ≤ (nxtP w h o t u).1 ∧ oks ts (nxtP w h o t u)
variable {w h o}
theorem pth_len : ∀ (T : List Int) (u : Int × Int), (pth w h o T u).length = T.length
  | [], _ => rfl
  | t :: T, u => by simp [pth, pth_len T]
theorem oks_snoc {t : Int} : ∀ (T : List Int) (u : Int × Int), oks w h o T u → 0 ≤ (nxtP w h o t (endP w h o T u)).1 → oks w h o (T ++ [t]) u
  | [], u, _, h2 => ⟨h2, trivial⟩
  | s :: T, u, h1, h2 => ⟨h1.1, oks_snoc T _ h1.2 h2⟩
theorem endP_snoc {t : Int} : ∀ (T : List Int) (u : Int × Int), endP w h o (T ++ [t]) u = nxtP w h o t (endP w h o T u)
  | [], u => rfl
  | s :: T, u => endP_snoc T _
theorem oks_take : ∀ (T : List Int) (u : Int × Int) (i : Nat), oks w h o T u → oks w h o (T.take i) u
  | [], u, i, _ => by simp [oks]
  | t :: T, u, 0, _ => trivial
  | t :: T, u, i + 1, k => ⟨k.1, oks_take T _ i k.2⟩
theorem pth_take : ∀ (T : List Int) (u : Int × Int) (i : Nat), pth w h o (T.take i) u = (pth w h o T u).take i
  | [], u, i => by simp [pth]
  | t :: T, u, 0 => rfl
  | t :: T, u, i + 1 => by simp only [List.take_succ_cons, pth]; rw [pth_take T _ i]
theorem repR_ok : ∀ (T : List Int) (c f : Int) (acc : List Int), oks w h o T (c, f) → repR w h o c f T acc = (acc ++ pth w h o T (c, f), true)
  | [], c, f, acc, _ => by simp [repR, pth]
  | t :: T, c, f, acc, k => by
    have k1 : 0 ≤ nx w h o c f t := k.1
    have k2 : oks w h o T (nx w h o c f t, nf f t) := k.2
    rw [repR, if_pos k1, repR_ok T _ _ _ k2]
    simp [pth, nxtP]
theorem rnW_ok : ∀ (T : List Int) (u : Int × Int), oks w h o T u → rnW w h o T (pth w h o T u) u = some (endP w h o T u)
  | [], u, _ => rfl
  | t :: T, u, k => by
    have e : stp w h o t (pat w h o (nxtP w h o t u).1 (nxtP w h o t u).2) u = some (nxtP w h o t u) := by
      unfold stp
      rw [if_pos ⟨k.1, rfl⟩]
      rfl
    simp only [pth, rnW, endP]
    rw [e, Option.bind_some]
    exact rnW_ok T _ k.2
theorem rnW_snoc {t p : Int} : ∀ (T ps : List Int) (u : Int × Int), ps.length = T.length → rnW w h o (T ++ [t]) (ps ++ [p]) u = (rnW w h o T ps u).bind fun v => stp w h o t p v
  | [], [], u, _ => by
    simp only [List.nil_append, rnW, Option.bind_some]
    cases stp w h o t p u <;> rfl
  | [], q :: ps, u, k => by simp at k
  | s :: T, [], u, k => by simp at k
  | s :: T, q :: ps, u, k => by
    simp only [List.cons_append, rnW]
    cases stp w h o s q u with
    | none => rfl
    | some v => simp only [Option.bind_some]; exact rnW_snoc T ps v (by simpa using k)
theorem fitW_le {P T : List Int} : (fitW w h o P T).length ≤ 4 * stN w h := by
  unfold fitW rawW
  rw [List.length_mergeSort]
  have := raw_len (w := w) (h := h) (o := o) (P := P) (T := T) (List.range' 0 (4 * stN w h)) []
  simpa using this
theorem fitW_down {P T : List Int} {p t : Int} (hl : P.length = T.length + 1) : (fitW w h o (P ++ [p]) (T ++ [t])).length ≤ (fitW w h o P T).length := by
  have hn : ((fitW w h o (P ++ [p]) (T ++ [t])).map keyW).Nodup := by
    rw [List.nodup_iff_pairwise_ne, List.pairwise_map]
    exact fitW_sorted.imp fun h => by omega
  have hP : P ≠ [] := by intro e; rw [e] at hl; simp at hl
  have hd : (P ++ [p]).drop 1 = P.drop 1 ++ [p] := by
    cases P with
    | nil => exact absurd rfl hP
    | cons a P => rfl
  have h0 : rd (P ++ [p]) 0 = rd P 0 := by
    cases P with
    | nil => exact absurd rfl hP
    | cons a P => rfl
  have := nodup_le' hn (L := (fitW w h o P T).filterMap fun y => (stp w h o t p (y.f0, y.f1)).map fun v => 4 * v.1 + v.2) fun z hz => by
    obtain ⟨x, hx, rfl⟩ := List.mem_map.1 hz
    obtain ⟨k, hk, e⟩ := fitW_mem.1 hx
    unfold endW at e
    rw [h0, hd] at e
    split at e
    · rename_i hb
      rw [rnW_snoc T _ _ (by simp; omega)] at e
      obtain ⟨v, e1, e2⟩ := Option.bind_eq_some_iff.1 e
      refine List.mem_filterMap.2 ⟨⟨v.1, v.2⟩, fitW_mem.2 ⟨k, hk, by unfold endW; rw [if_pos hb]; exact e1⟩, ?_⟩
      show (stp w h o t p v).map _ = _
      rw [e2]
      rfl
    · cases e
  have h2 := List.length_filterMap_le (fun y : SWalker => (stp w h o t p (y.f0, y.f1)).map fun v => 4 * v.1 + v.2) (fitW w h o P T)
  rw [List.length_map] at this
  omega
theorem fitW_self {T : List Int} {c f : Int} (hw : wok w h o c f = true) (k : oks w h o T (c, f)) : (⟨(endP w h o T (c, f)).1, (endP w h o T (c, f)).2⟩ : SWalker) ∈ fitW w h o (pat w h o c f :: pth w h o T (c, f)) T := by
  unfold wok at hw
  simp only [Bool.and_eq_true, decide_eq_true_eq] at hw
  have hc := icell_iff.1 hw.1.2
  have hN := stN_int w h
  obtain ⟨a, rfl⟩ : ∃ a : Nat, c = a := ⟨c.toNat, by omega⟩
  obtain ⟨b, rfl⟩ : ∃ b : Nat, f = b := ⟨f.toNat, by omega⟩
  have e1 : (4 * a + b) / 4 = a := by omega
  have e2 : (4 * a + b) % 4 = b := by omega
  refine fitW_mem.2 ⟨4 * a + b, by omega, ?_⟩
  unfold endW
  rw [e1, e2]
  exact (if_pos rfl).trans (rnW_ok T _ k)
end
theorem alk_refl (w h o : Int) : ∀ (d : Nat) (a p : Int), alk w h o d a p a p = true
  | 0, a, p => by simp [alk]
  | d + 1, a, p => by
    unfold alk
    rw [Bool.and_eq_true, beq_iff_eq, List.all_eq_true]
    refine ⟨rfl, fun t _ => ?_⟩
    rw [alk_refl w h o d]
    simp
theorem alk_symm (w h o : Int) : ∀ (d : Nat) (a p b q : Int), alk w h o d a p b q = alk w h o d b q a p
  | 0, a, p, b, q => by
    unfold alk
    rw [Bool.eq_iff_iff, beq_iff_eq, beq_iff_eq]
    exact ⟨Eq.symm, Eq.symm⟩
  | d + 1, a, p, b, q => by
    have one : ∀ a p b q, alk w h o (d + 1) a p b q = true → alk w h o (d + 1) b q a p = true := by
      intro a p b q hh
      unfold alk at hh ⊢
      rw [Bool.and_eq_true, beq_iff_eq, List.all_eq_true] at hh ⊢
      refine ⟨hh.1.symm, fun t ht => ?_⟩
      have := hh.2 t ht
      rw [alk_symm w h o d (nx w h o b q t)]
      revert this
      cases decide (0 ≤ nx w h o a p t) <;> cases decide (0 ≤ nx w h o b q t) <;> cases alk w h o d (nx w h o a p t) (nf p t) (nx w h o b q t) (nf q t) <;> simp
    rw [Bool.eq_iff_iff]
    exact ⟨one a p b q, one b q a p⟩
theorem lkw_symm (w h o a p b q d : Int) : lkw w h o a p b q d = lkw w h o b q a p d := by
  unfold lkw
  by_cases H : wok w h o a p = true ∧ wok w h o b q = true ∧ 0 ≤ d ∧ d ≤ 6
  · rw [if_pos H, if_pos ⟨H.2.1, H.1, H.2.2⟩, alk_symm]
  · rw [if_neg H, if_neg (fun q => H ⟨q.2.1, q.1, q.2.2⟩)]
theorem lkw_refl {w h o a p d : Int} (hw : wok w h o a p = true) (h0 : 0 ≤ d) (h6 : d ≤ 6) : lkw w h o a p a p d = true := by
  unfold lkw
  rw [if_pos ⟨hw, hw, h0, h6⟩, alk_refl]
theorem lkw_pat {w h o a p b q d : Int} (k : lkw w h o a p b q d = true) : pat w h o a p = pat w h o b q := by
  unfold lkw at k
  split at k
  · cases n : d.toNat with
    | zero => rw [n] at k; simpa [alk] using k
    | succ m =>
      rw [n] at k
      unfold alk at k
      rw [Bool.and_eq_true, beq_iff_eq] at k
      exact k.1
  · cases k
theorem maze3_l0 {w h : Int} {l : List Int} {n : Int} (hl : l.length ≤ 1048576) (hn : n = gaps w h) (n0 : 1 ≤ n) : ∀ (d k : Nat) (o i s : Int), d ≤ 100 → d + 1 ≤ k → mok w h o = true → 0 ≤ i → ∃ o' i' s', spec_l03Maze.l0 k n ((d : Int) - 1) l i s w h o = some (w, h, o', i', s') ∧ mok w h o' = true ∧ 0 ≤ i'
  | 0, k, o, i, s, _, hk, M, hi => by
    obtain ⟨m, rfl⟩ : ∃ m, k = m + 1 := ⟨k - 1, by omega⟩
    refine ⟨o, i, s, ?_, M, hi⟩
    simp only [spec_l03Maze.l0]
    rw [if_neg (by omega)]
  | d + 1, k, o, i, s, h1, hk, M, hi => by
    obtain ⟨m, rfl⟩ : ∃ m, k = m + 1 := ⟨k - 1, by omega⟩
    have gb := gaps_bd w h
    obtain ⟨b, i2, s2, e2, b0, b1, j2⟩ := below_draw (h := s) hi hl (n := n) n0 (by omega)
    have ig : igap w h b = true := igap_iff.2 ⟨b0, by omega⟩
    have ms := mok_small M
    obtain ⟨o', i', s', e, M', j'⟩ := maze3_l0 hl hn n0 d m (flip o b) i2 s2 (by omega) (by omega) (mok_flip M ig) j2
    refine ⟨o', i', s', ?_, M', j'⟩
    simp only [spec_l03Maze.l0]
    rw [if_pos (by omega), e2, Option.bind_some]
    simp only
    rw [if_pos b0, xor_shl_eq ms.1 (by omega) b0 (by omega), w64 (by omega) (by omega), show ((d + 1 : Nat) : Int) - 1 - 1 = (d : Int) - 1 by omega]
    exact e
theorem maze3_draw {k : Nat} {l : List Int} {i s : Int} (hi : 0 ≤ i) (hl : l.length ≤ 1048576) (hk : 1001 ≤ k) : ∃ w h o i' s', spec_l03Maze.f k l i s = some (w, h, o, i', s') ∧ mok w h o = true ∧ 0 ≤ i' := by
  obtain ⟨m, rfl⟩ : ∃ m, k = m + 1 := ⟨k - 1, by omega⟩
  obtain ⟨w, h, i1, s1, e1, G, j1⟩ := grid_draw (s := s) hi hl
  obtain ⟨o, i2, s2, e2, j2, C, _⟩ := tree_draw (k := m + 1) (l := l) (i := i1) (s := s1) G j1 hl (by omega)
  have M := conn_mok C
  have gb := gaps_bd w h
  unfold spec_l03Maze.f
  rw [e1, Option.bind_some]
  simp only
  rw [e2, Option.bind_some]
  simp only
  rw [spec_CountGaps_eq, Option.bind_some]
  by_cases g0 : gaps w h > 0
  · obtain ⟨b, i3, s3, e3, j3⟩ := once_draw (s := s2) j2 hl (n := 2) (by decide) (by decide)
    rw [if_pos g0, e3, Option.bind_some]
    simp only [spec_l03Maze.j0]
    cases b with
    | false => rw [if_neg (by decide)]; exact ⟨w, h, o, i3, s3, rfl, M, j3⟩
    | true =>
      obtain ⟨b, i4, s4, e4, b0, b1, j4⟩ := below_draw (h := s3) j3 hl (n := 4) (by decide) (by decide)
      rw [if_pos rfl, e4, Option.bind_some]
      obtain ⟨o', i', s', e, M', j'⟩ := maze3_l0 hl (n := gaps w h) rfl (by omega) (b.toNat + 1) m o i4 s4 (by omega) (by omega) M j4
      rw [show (((b.toNat + 1 : Nat) : Int) - 1) = b by omega] at e
      exact ⟨w, h, o', i', s', e, M', j'⟩
  · rw [if_neg g0]
    simp only [spec_l03Maze.j0]
    rw [if_neg (by decide)]
    exact ⟨w, h, o, i2, s2, rfl, M, j2⟩
def tt (d f : Int) : Int := Int.tmod (wrap64 (wrap64 (d - f) + 4)) 4
theorem tt_all : ∀ d ∈ ([0, 1, 2, 3] : List Int), ∀ f ∈ ([0, 1, 2, 3] : List Int), turn4 (tt d f) = true ∧ nf f (tt d f) = d := by decide +kernel
theorem tt_eq {d f : Int} (h1 : 0 ≤ d ∧ d ≤ 3) (h2 : 0 ≤ f ∧ f ≤ 3) : turn4 (tt d f) = true ∧ nf f (tt d f) = d :=
  tt_all d (by simp only [List.mem_cons, List.not_mem_nil, or_false]; omega) f (by simp only [List.mem_cons, List.not_mem_nil, or_false]; omega)
theorem walk_draw {w h o : Int} {l : List Int} {n : Int} {u : Int × Int} (M : mok w h o = true) (hl : l.length ≤ 1048576) (hn : n ≤ 7) (d : Nat) : ∀ (k : Nat) (i a s c f : Int) (acc : List Int), i + d = n → 0 ≤ i → d + 20 ≤ k → (acc.length : Int) = i → 0 ≤ a → wok w h o c f = true → oks w h o acc u → endP w h o acc u = (c, f) → acc.all turn4 = true →
    ∃ T a' s', spec_l33Walk.l0 k acc n i l a s w h o c f = some (T, a', s') ∧ T.length ≤ 7 ∧ oks w h o T u ∧ T.all turn4 = true := by
  induction d with
  | zero =>
    intro k i a s c f acc hi h0 hk ha ja hw ho he ht
    obtain ⟨m, rfl⟩ : ∃ m, k = m + 1 := ⟨k - 1, by omega⟩
    refine ⟨acc, a, s, ?_, by omega, ho, ht⟩
    simp only [spec_l33Walk.l0]
    rw [if_neg (by omega)]
  | succ d ih =>
    intro k i a s c f acc hi h0 hk ha ja hw ho he ht
    obtain ⟨m, rfl⟩ : ∃ m, k = m + 1 := ⟨k - 1, by omega⟩
    have wl := ways_length w h o c
    simp only [spec_l33Walk.l0]
    rw [if_pos (by omega), spec_WaysFrom_eq (by omega), Option.bind_some]
    by_cases z : ((ways w h o c).length : Int) = 0
    · rw [if_pos z]
      exact ⟨acc, a, s, rfl, by omega, ho, ht⟩
    · obtain ⟨b, i2, s2, e2, b0, b1, j2⟩ := below_draw (h := s) ja hl (n := ((ways w h o c).length : Int)) (by omega) (by omega)
      have hst := ways_mem (rd_memI b0 b1)
      have hd := (st_facts hst).2.2.2
      have hf : 0 ≤ f ∧ f ≤ 3 := by
        unfold wok at hw
        simp only [Bool.and_eq_true, decide_eq_true_eq] at hw
        exact hw.2
      obtain ⟨t1, t2⟩ := tt_eq hd hf
      have hnx : nx w h o c f (tt (rd (ways w h o c) b) f) = st w h o c (rd (ways w h o c) b) := by unfold nx; rw [t2]
      have hpos : 0 ≤ nx w h o c f (tt (rd (ways w h o c) b) f) := by rw [hnx]; exact hst
      have hw' := wok_nx hpos
      have hi1 : wrap64 (i + 1) = i + 1 := w64 (by omega) (by omega)
      rw [if_neg z, e2, Option.bind_some]
      simp only
      rw [if_pos b0, if_pos b1, if_pos (by omega)]
      show ∃ T a' s', ((spec_l33Turned.f m w h o c f (tt (rd (ways w h o c) b) f)).bind fun bt472 => spec_l33Walk.l0 m (acc ++ [tt (rd (ways w h o c) b) f]) n (wrap64 (i + 1)) l i2 s2 w h o bt472.1 bt472.2.1) = some (T, a', s') ∧ _
      rw [spec_l33Turned_eq (by omega), Option.bind_some, if_neg (Int.not_lt.2 hpos), hi1]
      exact ih m (i + 1) i2 s2 _ _ (acc ++ [tt (rd (ways w h o c) b) f]) (by omega) (by omega) (by omega) (by simp; omega) j2 hw' (oks_snoc acc u ho (by rw [he]; exact hpos)) (by rw [endP_snoc, he]; rfl) (by rw [List.all_append, ht]; simpa using t1)
theorem report_draw {k : Nat} {l : List Int} (hl : l.length ≤ 1048576) (hk : l.length + 1100 ≤ k) : ∃ w h o c f T, spec_DrawReport.f k l = some (w, h, o, c, f, T) ∧ mok w h o = true ∧ wok w h o c f = true ∧ T.length ≤ 7 ∧ oks w h o T (c, f) ∧ T.all turn4 = true := by
  obtain ⟨h0, e0⟩ := new_draw (k := k) hl (by omega)
  obtain ⟨w, h, o, i1, s1, e1, M, j1⟩ := maze3_draw (k := k) (s := h0) (i := 0) (by omega) hl (by omega)
  have hN := stN_int w h
  have hN2 := stN_le w h
  have c1 : 1 ≤ cells w h := cells_pos (mok_iff.1 M).1
  obtain ⟨c, i2, s2, e2, b0, b1, j2⟩ := below_draw (h := s1) j1 hl (n := cells w h) c1 (by omega)
  obtain ⟨f, i3, s3, e3, f0, f1, j3⟩ := below_draw (h := s2) j2 hl (n := 4) (by decide) (by decide)
  obtain ⟨n, i4, s4, e4, n0, n1, j4⟩ := below_draw (h := s3) j3 hl (n := 8) (by decide) (by decide)
  have hw : wok w h o c f = true := by
    unfold wok
    rw [M, icell_iff.2 ⟨b0, b1⟩]
    exact decide_eq_true ⟨f0, by omega⟩
  obtain ⟨T, i5, s5, e5, t1, t2, t3⟩ := walk_draw (u := (c, f)) M hl (n := n) (by omega) n.toNat k 0 i4 s4 c f [] (by omega) (by omega) (by omega) rfl j4 hw trivial rfl rfl
  refine ⟨w, h, o, c, f, T, ?_, M, hw, t1, t2, t3⟩
  have eW : spec_l10Walker.f l i1 s1 w h o = some (c, f, i3, s3) := by
    unfold spec_l10Walker.f
    rw [spec_CountCells_eq, Option.bind_some, mx_max, show max 1 (cells w h) = cells w h by omega, e2, Option.bind_some]
    simp only
    rw [e3, Option.bind_some]
  have eK : spec_l33Walk.f k l i3 s3 w h o c f = some (T, i5, s5) := by
    unfold spec_l33Walk.f
    rw [e4, Option.bind_some]
    exact e5
  unfold spec_DrawReport.f
  rw [e0, Option.bind_some]
  simp only
  rw [e1, Option.bind_some]
  simp only
  rw [eW, Option.bind_some]
  simp only
  rw [eK, Option.bind_some]
end Go.Proofs.Ytccjanhdnheclaa.F
end

section
namespace Go.Proofs.Ytccjanhdnheclaa.F
open Go.RowKit Go.Proofs.YtccjanhdnheclaaW.PrintWords Go.Proofs.YtccjanhdnheclaaW.PrintLast Go.Proofs.YtccjanhdnheclaaW.PrintMore
set_option linter.unusedVariables false
set_option linter.unusedSimpArgs false
section
variable {w h o c f : Int} {l T P : List Int} {E : Int × Int}
theorem take_one (L : List Int) {i : Nat} (hi : i < L.length) : L.take (i + 1) = L.take i ++ [rd L (i : Int)] := by
  rw [← List.take_append_getElem hi, rd_nat, List.getD_eq_getElem?_getD, List.getElem?_eq_getElem hi]
  rfl
theorem loc_end {L : List SWalker} (hw : wok w h o c f = true) (hl : l.length ≤ 1048576) (hb : ∀ y ∈ l, 0 ≤ y ∧ y ≤ 255) (hT : T.length ≤ 7) (hP : P.length ≤ 8) (hL : posW w h o P T = L) {k : Nat} (hk : 8000 ≤ k) {i : Int} (hi : ¬ i < (L.length : Int)) :
    laws_FnLocated.l2 (k + 1) l T P L true i w h o c f E.1 E.2 = some true := by
  obtain ⟨a0, e0, a00, a01⟩ := at_draw (l := l) (a := 0) (by decide) (by decide) hl hb
  obtain ⟨a1, e1, a10, a11⟩ := at_draw (l := l) (a := 1) (by decide) (by decide) hl hb
  have M : mok w h o = true := by unfold wok at hw; simp only [Bool.and_eq_true] at hw; exact hw.1.1
  have c1 : 1 ≤ cells w h := cells_pos (mok_iff.1 M).1
  have cne : ¬ cells w h = 0 := by omega
  have i1 := impl_IsLocated_eq (w := w) (h := h) (o := o) (P := P) (T := T) (k := k) (by omega) (by omega) (by omega)
  simp only [laws_FnLocated.l2]
  rw [if_neg hi, e0, Option.bind_some, spec_CountCells_eq, Option.bind_some, if_neg cne, e1, Option.bind_some, if_pos trivial, i1, Option.bind_some, hL, if_pos (by simp), impl_LikeWalkers_eq (by omega), Option.bind_some, lkw_refl hw (by decide) (by decide), if_pos rfl, impl_LikeWalkers_eq (by omega), Option.bind_some, impl_LikeWalkers_eq (by omega), Option.bind_some, lkw_symm w h o (Int.tmod a0 (cells w h)) (Int.tmod a1 4) c f 2, if_pos (by simp), impl_LikeWalkers_eq (by omega), Option.bind_some]
  by_cases q : lkw w h o c f (Int.tmod a0 (cells w h)) (Int.tmod a1 4) 1 = true
  · rw [if_pos q, impl_PatternAt_eq (by omega), Option.bind_some, impl_PatternAt_eq (by omega), Option.bind_some, lkw_pat q]
    simp
  · rw [if_neg q]
theorem loc_l2 {L : List SWalker} (hLl : L.length ≤ 64) (hend : ∀ k i, 8000 ≤ k → ¬ i < (L.length : Int) → laws_FnLocated.l2 (k + 1) l T P L true i w h o c f E.1 E.2 = some true) (hE : hasW L E = true) (d : Nat) :
    ∀ (i k : Nat) (b : Bool), i + d = L.length → d + 8001 ≤ k → (b = true ∨ hasW (L.drop i) E = true) → laws_FnLocated.l2 k l T P L b (i : Int) w h o c f E.1 E.2 = some true := by
  induction d with
  | zero =>
    intro i k b hi hk hb
    obtain ⟨m, rfl⟩ : ∃ m, k = m + 1 := ⟨k - 1, by omega⟩
    have : b = true := by
      rcases hb with hb | hb
      · exact hb
      · rw [List.drop_of_length_le (by omega)] at hb
        simp [hasW] at hb
    rw [this]
    exact hend m _ (by omega) (by omega)
  | succ d ih =>
    intro i k b hi hk hb
    obtain ⟨m, rfl⟩ : ∃ m, k = m + 1 := ⟨k - 1, by omega⟩
    have hil : i < L.length := by omega
    have c1 : (i : Int) < (L.length : Int) := by omega
    have c2 : (0 : Int) ≤ (i : Int) := by omega
    have hr : rd_Walker L (i : Int) = L[i] := by
      show L.getD i zWalker = _
      rw [List.getD_eq_getElem?_getD, List.getElem?_eq_getElem hil]; rfl
    have hd : L.drop i = L[i] :: L.drop (i + 1) := List.drop_eq_getElem_cons hil
    have hi' : wrap64 ((i : Int) + 1) = ((i + 1 : Nat) : Int) := by rw [w64_succ hil (by omega)]; rfl
    have ih' := fun b => ih (i + 1) m b (by omega) (by omega)
    simp only [laws_FnLocated.l2]
    rw [if_pos c1, hr, hi']
    cases b with
    | true => rw [if_pos rfl]; exact ih' true (.inl rfl)
    | false =>
      rw [if_neg (by decide), if_pos c2]
      refine ih' _ ?_
      rcases hb with hb | hb
      · cases hb
      · rw [hd] at hb
        unfold hasW at hb
        rw [List.any_cons, Bool.or_eq_true, decide_eq_true_eq] at hb
        rcases hb with hb | hb
        · exact .inl (by simp [hb.1, hb.2])
        · exact .inr hb
theorem loc_l1 (M : mok w h o = true) (hw : wok w h o c f = true) (hT : T.length ≤ 7) (ht : T.all turn4 = true) (ho : oks w h o T (c, f)) (hPe : P = pat w h o c f :: pth w h o T (c, f))
    (hend : ∀ k, 9000 ≤ k → laws_FnLocated.l2 k l T P (fitW w h o P T) false 0 w h o c f E.1 E.2 = some true) (d : Nat) :
    ∀ (i k : Nat) (before : Int), i + d = T.length + 1 → d + 9001 ≤ k → (i ≤ T.length → ((fitW w h o (P.take (i + 1)) (T.take i)).length : Int) ≤ before) → laws_FnLocated.l1 k l T P before (i : Int) w h o c f E.1 E.2 = some true := by
  have hPl : P.length = T.length + 1 := by rw [hPe, List.length_cons, pth_len]
  have pos : ∀ i, i ≤ T.length → posW w h o (P.take (i + 1)) (T.take i) = fitW w h o (P.take (i + 1)) (T.take i) := fun i hi => by
    unfold posW
    rw [if_pos]
    unfold pwok
    have h1 : (P.take (i + 1)).length = i + 1 := by rw [List.length_take]; omega
    have h2 : (T.take i).length = i := by rw [List.length_take]; omega
    have h3 : (T.take i).all turn4 = true := List.all_eq_true.2 fun x hx => List.all_eq_true.1 ht x (List.mem_of_mem_take hx)
    rw [M, h1, h2, h3, decide_eq_true (show ((i + 1 : Nat) : Int) = (i : Int) + 1 by omega), decide_eq_true (show (i : Int) ≤ 40 by omega)]
    rfl
  have self : ∀ i, i ≤ T.length → 1 ≤ (fitW w h o (P.take (i + 1)) (T.take i)).length := fun i hi => by
    have e : P.take (i + 1) = pat w h o c f :: pth w h o (T.take i) (c, f) := by rw [hPe, List.take_succ_cons, pth_take]
    have := fitW_self hw (oks_take T (c, f) i ho)
    rw [← e] at this
    exact List.length_pos_of_mem this
  induction d with
  | zero =>
    intro i k before hi hk hb
    obtain ⟨m, rfl⟩ : ∃ m, k = m + 1 := ⟨k - 1, by omega⟩
    have c1 : ¬ (i : Int) ≤ (T.length : Int) := by omega
    have p := pos T.length (Nat.le_refl _)
    rw [List.take_length, List.take_of_length_le (by omega)] at p
    have ip := impl_PossibleWalkers_eq (w := w) (h := h) (o := o) (P := P) (T := T) (k := m) (by omega) (by omega) (by omega)
    simp only [laws_FnLocated.l1]
    rw [if_neg c1, ip, Option.bind_some, p]
    exact hend m (by omega)
  | succ d ih =>
    intro i k before hi hk hb
    obtain ⟨m, rfl⟩ : ∃ m, k = m + 1 := ⟨k - 1, by omega⟩
    have hil : i ≤ T.length := by omega
    have c1 : (i : Int) ≤ (T.length : Int) := by omega
    have c2 : (0 : Int) ≤ ((i + 1 : Nat) : Int) := by omega
    have c3 : ((i + 1 : Nat) : Int) ≤ (P.length : Int) := by omega
    have c4 : (0 : Int) ≤ (i : Int) := by omega
    have p := pos i hil
    have s := self i hil
    have b := hb hil
    have ip := impl_PossibleWalkers_eq (w := w) (h := h) (o := o) (P := P.take (i + 1)) (T := T.take i) (k := m) (by rw [List.length_take]; omega) (by rw [List.length_take]; omega) (by omega)
    have c5 : ¬ ((fitW w h o (P.take (i + 1)) (T.take i)).length : Int) < 1 := by omega
    have c6 : ¬ ((fitW w h o (P.take (i + 1)) (T.take i)).length : Int) > before := by omega
    have ih' := ih (i + 1) m ((fitW w h o (P.take (i + 1)) (T.take i)).length : Int) (by omega) (by omega) (fun hi2 => by
      have d1 := fitW_down (w := w) (h := h) (o := o) (P := P.take (i + 1)) (T := T.take i) (p := rd P ((i + 1 : Nat) : Int)) (t := rd T (i : Int)) (by rw [List.length_take, List.length_take]; omega)
      rw [← take_one P (by omega), ← take_one T (by omega)] at d1
      omega)
    have hi' : wrap64 ((i : Int) + 1) = ((i + 1 : Nat) : Int) := by rw [w64 (by omega) (by omega)]; rfl
    simp only [laws_FnLocated.l1]
    rw [hi', if_pos c1, if_pos c2, if_pos c3, if_pos c4, Int.toNat_natCast, Int.toNat_natCast, ip, Option.bind_some, p, if_neg c5, if_neg c6]
    exact ih'
theorem loc_l0 {N : Nat} (hN : 10 ≤ N) (hT : T.length ≤ 7) (hend : ∀ k, N ≤ k → laws_FnLocated.l1 k l T P (4 * cells w h + 1) 0 w h o c f E.1 E.2 = some true) (d : Nat) :
    ∀ (i k : Nat) (u : Int × Int), i + d = T.length → d + N + 1 ≤ k → endP w h o (T.drop i) u = E → laws_FnLocated.l0 k l T P (i : Int) w h o c f u.1 u.2 = some true := by
  induction d with
  | zero =>
    intro i k u hi hk hu
    obtain ⟨m, rfl⟩ : ∃ m, k = m + 1 := ⟨k - 1, by omega⟩
    have hN1 := stN_int w h
    have hN2 := stN_le w h
    have c1 : ¬ (i : Int) < (T.length : Int) := by omega
    rw [List.drop_of_length_le (by omega)] at hu
    have hu : u = E := hu
    rw [hu]
    have h4 : wrap64 (wrap64 (4 * cells w h) + 1) = 4 * cells w h + 1 := by rw [w64 (x := 4 * cells w h) (by omega) (by omega), w64 (by omega) (by omega)]
    simp only [laws_FnLocated.l0]
    rw [if_neg c1, spec_CountCells_eq, Option.bind_some, h4]
    exact hend m (by omega)
  | succ d ih =>
    intro i k u hi hk hu
    obtain ⟨m, rfl⟩ : ∃ m, k = m + 1 := ⟨k - 1, by omega⟩
    have hil : i < T.length := by omega
    have c1 : (i : Int) < (T.length : Int) := by omega
    have c2 : (0 : Int) ≤ (i : Int) := by omega
    rw [drop_step hil] at hu
    have ih' := ih (i + 1) m (nxtP w h o (rd T (i : Int)) u) (by omega) (by omega) hu
    have hs := spec_Step_eq (k := m) (by omega) w h o u.1 (nf u.2 (rd T (i : Int)))
    have hi' : wrap64 ((i : Int) + 1) = ((i + 1 : Nat) : Int) := by rw [w64_succ hil (by omega)]; rfl
    simp only [laws_FnLocated.l0]
    rw [if_pos c1, if_pos c2, hi']
    show ((spec_Step.f m w h o u.1 (nf u.2 (rd T (i : Int)))).bind fun t => laws_FnLocated.l0 m l T P ((i + 1 : Nat) : Int) w h o c f t (nf u.2 (rd T (i : Int)))) = some true
    rw [hs, Option.bind_some]
    exact ih'
end
theorem FnLocated_pure : ∀ (l0 : List (Int)), ((l0).length ≤ 9223372036854775807 ∧ ∀ y ∈ l0, 0 ≤ y ∧ y ≤ 255) → ∃ k, laws_FnLocated.f k l0 = some true := by
  intro l hl
  obtain ⟨K, hK⟩ : ∃ K, K = l.length + 20000 := ⟨_, rfl⟩
  refine ⟨K + 1, ?_⟩
  unfold laws_FnLocated.f laws_big.f
  rw [Option.bind_some]
  by_cases hbig : (l.length : Int) > 1048576
  · rw [if_pos (by simpa using hbig)]
  · rw [if_neg (by simpa using hbig)]
    obtain ⟨w, h, o, c, f, T, e, M, hw, hT, ho, ht⟩ := report_draw (k := K + 1) (l := l) (by omega) (by omega)
    obtain ⟨P, hPe⟩ : ∃ P, P = pat w h o c f :: pth w h o T (c, f) := ⟨_, rfl⟩
    have hPl : P.length = T.length + 1 := by rw [hPe, List.length_cons, pth_len]
    have hr : repOf w h o c f T = (P, true) := by
      unfold repOf
      rw [if_pos ⟨hw, by rw [ht, decide_eq_true (show (T.length : Int) ≤ 40 by omega)]; rfl⟩, repR_ok T c f _ ho, hPe]
      rfl
    have hrep := impl_ReportOf_eq (k := K + 1) (l := T) (by omega) (by omega) w h o c f
    rw [hr] at hrep
    have hlen : ((P.length : Int) != wrap64 ((T.length : Int) + 1)) = false := by rw [w64 (by omega) (by omega), hPl]; simp
    rw [e, Option.bind_some]
    simp only
    rw [hrep, Option.bind_some]
    simp only
    rw [if_pos trivial, hlen]
    simp only [laws_FnLocated.j0]
    rw [if_neg (by decide)]
    have hN1 := stN_int w h
    have pos : posW w h o P T = fitW w h o P T := by
      unfold posW
      rw [if_pos]
      unfold pwok
      rw [M, ht, decide_eq_true (show (P.length : Int) = (T.length : Int) + 1 by omega), decide_eq_true (show (T.length : Int) ≤ 40 by omega)]
      rfl
    have hself := fitW_self hw ho
    rw [← hPe] at hself
    have hE : hasW (fitW w h o P T) (endP w h o T (c, f)) = true := hasW_iff.2 hself
    refine loc_l0 (E := endP w h o T (c, f)) (N := 10000) (by omega) hT (fun k hk => ?_) T.length 0 K (c, f) (by omega) (by omega) rfl
    refine loc_l1 M hw hT ht ho hPe (fun k hk => ?_) (T.length + 1) 0 k _ (by omega) (by omega) (fun _ => ?_)
    · refine loc_l2 fitW_len (fun k i hk hi => loc_end hw (by omega) hl.2 hT (by omega) pos hk hi) hE (fitW w h o P T).length 0 k false (by omega) (by have := fitW_len (w := w) (h := h) (o := o) (P := P) (T := T); omega) (.inr hE)
    · have := fitW_le (w := w) (h := h) (o := o) (P := P.take (0 + 1)) (T := T.take 0)
      omega
end Go.Proofs.Ytccjanhdnheclaa.F
end
