/- Packed by a program of the session (wip/tools/pack.py): what the claim's theorem reaches, of the texts that wip/ and the kit's printer lay. -/
import Derived.Test.YtkindoepnganmaaGreatPkFnGardens8
section
namespace Go.Proofs.YtkindoepnganmaaGreat.F
open Go.RowKit Go.Proofs.YtkindoepnganmaaGreatW.PrintWords Go.Proofs.YtkindoepnganmaaGreatW.PrintLast Go.Proofs.YtkindoepnganmaaGreatW.PrintMore
set_option linter.unusedVariables false
set_option linter.unusedSimpArgs false
theorem spec_l28_eq {l : List Int} (h : l.length < 17592186044416) : spec_l28Copy.f l = some l := by
  unfold spec_l28Copy.f
  rw [Option.bind_some, if_pos (by simpa using h)]; rfl
theorem impl_copyHedge_eq {G : List Int} (h1 : G.length < 17592186044416) (w h o m : Int) : impl_copyHedge.f w h o G m = some (w, h, o, G, m) := by
  unfold impl_copyHedge.f
  rw [slices_Clone_int_eq h1]; rfl
theorem spec_l30_eq {G : List Int} (h1 : G.length < 17592186044416) (w h o m : Int) : spec_l30Copy.f w h o G m = some (w, h, o, G, m) := by
  unfold spec_l30Copy.f
  rw [spec_l28_eq h1]; rfl
theorem impl_copyGarden_eq {G V : List Int} (h1 : G.length < 17592186044416) (h2 : V.length < 17592186044416) (w h o m e d : Int) : impl_copyGarden.f w h o G m e V d = some (w, h, o, G, m, e, V, d) := by
  unfold impl_copyGarden.f
  rw [impl_copyHedge_eq h1, Option.bind_some, slices_Clone_int_eq h2]; rfl
theorem spec_l38_eq {G V : List Int} (h1 : G.length < 17592186044416) (h2 : V.length < 17592186044416) (w h o m e d : Int) : spec_l38Copy.f w h o G m e V d = some (w, h, o, G, m, e, V, d) := by
  unfold spec_l38Copy.f
  rw [spec_l30_eq h1, Option.bind_some, spec_l28_eq h2]; rfl
def grwS (b : Int) (G : List Int) (i : Nat) : List Int := G.set i (min 1000 (rd G i + b))
def grwG (b : Int) (G : List Int) : List Int := (List.range' 0 G.length).foldl (grwS b) G
def gI (n : Nat) (G : List Int) : Prop := G.length = n ∧ ∀ x ∈ G, 0 ≤ x ∧ x ≤ 1000
theorem gI_rd {n i : Nat} {G : List Int} (H : gI n G) (hi : i < n) : 0 ≤ rd G (i : Int) ∧ rd G (i : Int) ≤ 1000 := by
  have hl : i < G.length := by rw [H.1]; exact hi
  rw [rd_nat, List.getD_eq_getElem?_getD, List.getElem?_eq_getElem hl]
  exact H.2 _ (List.getElem_mem hl)
theorem gI_set {n i : Nat} {G : List Int} {x : Int} (H : gI n G) (h0 : 0 ≤ x) (h1 : x ≤ 1000) : gI n (G.set i x) :=
  ⟨by rw [List.length_set]; exact H.1, fun y hy => by
    rcases List.mem_or_eq_of_mem_set hy with h | h
    · exact H.2 y h
    · subst h; exact ⟨h0, h1⟩⟩
theorem gI_step {n i : Nat} {G : List Int} {b : Int} (H : gI n G) (hi : i < n) (hb : 0 ≤ b) : gI n (grwS b G i) := by
  have := gI_rd H hi
  exact gI_set H (by omega) (by omega)
theorem gI_foldl {n : Nat} {b : Int} (hb : 0 ≤ b) : ∀ (l : List Nat) (G : List Int), (∀ i ∈ l, i < n) → gI n G → gI n (l.foldl (grwS b) G)
  | [], _, _, H => H
  | i :: l, G, hl, H => gI_foldl hb l _ (fun j hj => hl j (by simp [hj])) (gI_step H (hl i (by simp)) hb)
theorem gI_hok {w h o m : Int} {G : List Int} (H : hok w h o G m = true) : gI (gaps w h).toNat G := by
  obtain ⟨M, hm, hG, hx⟩ := hok_iff.1 H
  exact ⟨by omega, hx⟩
theorem hok_gI {w h o m : Int} {G G' : List Int} (H : hok w h o G m = true) (K : gI (gaps w h).toNat G') : hok w h o G' m = true := by
  obtain ⟨M, hm, hG, hx⟩ := hok_iff.1 H
  have gb := gaps_bd w h
  exact hok_iff.2 ⟨M, hm, by rw [K.1]; omega, K.2⟩
theorem grwG_hok {w h o m b : Int} {G : List Int} (hb : 0 ≤ b) (H : hok w h o G m = true) : hok w h o (grwG b G) m = true := by
  have gg := gI_hok H
  refine hok_gI H (gI_foldl hb _ _ (fun i hi => ?_) gg)
  have := List.mem_range'_1.1 hi
  have := gg.1
  omega
theorem impl_GrowHedge_eq {k : Nat} {G : List Int} (hk : 40 ≤ k) {w h o m b : Int} (H : hok w h o G m = true) (h0 : 0 ≤ b) (h1 : b ≤ 20) : impl_GrowHedge.f k w h o G m b = some (w, h, o, grwG b G, m, true) := by
  have gg := gI_hok H
  have gb := gaps_bd w h
  obtain ⟨k, rfl⟩ : ∃ j, k = j + 1 := ⟨k - 1, by omega⟩
  unfold impl_GrowHedge.f
  rw [impl_copyHedge_eq (by have := gg.1; omega), Option.bind_some, impl_HedgeOk_eq, Option.bind_some, if_pos H]
  unfold impl_isFew.f
  rw [if_pos h0, Option.bind_some, decide_eq_true h1]
  simp only [impl_GrowHedge.j0, Bool.not_true]
  rw [if_neg Bool.false_ne_true]
  have := fold_loop (n := G.length) (c := 0) (F := fun k s i => impl_GrowHedge.l0 k b (G.length : Int) i w h o s m) (step := grwS b) (fin := fun s => (w, h, o, s, m, true)) (I := fun s _ => gI (gaps w h).toNat s)
    (fun k s i _ hi I => by
      have := gI_rd (i := i) I (by have := gg.1; omega)
      have hl := I.1
      have := gg.1
      simp only [impl_GrowHedge.l0]
      rw [if_pos (by omega), if_pos (by omega), if_pos (by omega), w64_succ hi (by omega), w64 (by omega) (by omega), mn_min, Int.min_comm, Int.toNat_natCast]
      rfl)
    (fun s i hi I => gI_step I (by have := gg.1; omega) h0)
    (fun k s _ _ => by
      simp only [impl_GrowHedge.l0]
      rw [if_neg (by omega)]) G.length 0 k G (by omega) (by have := gg.1; omega) gg
  exact this
theorem spec_GrowHedge_eq {k : Nat} {G : List Int} (hk : 60 ≤ k) {w h o m b : Int} (H : hok w h o G m = true) (h0 : 0 ≤ b) (h1 : b ≤ 20) : spec_GrowHedge.f k w h o G m b = some (w, h, o, grwG b G, m, true) := by
  have gg := gI_hok H
  have gb := gaps_bd w h
  have hl := gg.1
  obtain ⟨k, rfl⟩ : ∃ j, k = j + 1 := ⟨k - 1, by omega⟩
  unfold spec_GrowHedge.f
  rw [spec_l30_eq (by omega), Option.bind_some, spec_HedgeOk_eq (by omega) (by omega), Option.bind_some, if_pos H, spec_l01In_eq, Option.bind_some, decide_eq_true (by omega : 0 ≤ b ∧ b ≤ 20)]
  simp only [spec_GrowHedge.j0, Bool.not_true]
  rw [if_neg Bool.false_ne_true]
  have := fold_loop (n := G.length) (c := 0) (F := fun k s i => spec_GrowHedge.l0 k b i w h o s m) (step := grwS b) (fin := fun s => (w, h, o, s, m, true)) (I := fun s _ => gI (gaps w h).toNat s)
    (fun k s i _ hi I => by
      have := gI_rd (i := i) I (by omega)
      have hl' := I.1
      simp only [spec_GrowHedge.l0]
      rw [if_pos (by omega), if_pos (by omega), w64_succ hi (by omega), w64 (by omega) (by omega), mn_min, Int.toNat_natCast]
      rfl)
    (fun s i hi I => gI_step I (by omega) h0)
    (fun k s _ I => by
      have hl' := I.1
      simp only [spec_GrowHedge.l0]
      rw [if_neg (by omega)]) G.length 0 k G (by omega) (by omega) gg
  exact this
def ntcS (o : Int) (G : List Int) (b : Int) (i : Nat) : Int := if opn o i = true then (if b < 0 then (i : Int) else if rd G (i : Int) > rd G b then (i : Int) else b) else b
def ntc (o : Int) (G : List Int) : Int := (List.range' 0 G.length).foldl (ntcS o G) (-1)
theorem ntcS_bd {o : Int} {G : List Int} {b : Int} {i : Nat} (H : -1 ≤ b ∧ b < i) : -1 ≤ ntcS o G b i ∧ ntcS o G b i < (i : Int) + 1 := by
  unfold ntcS
  split
  · split
    · omega
    · split <;> omega
  · omega
theorem impl_NextToCut_eq {k : Nat} {G : List Int} (hk : 40 ≤ k) {w h o m : Int} (H : hok w h o G m = true) : impl_NextToCut.f k w h o G m = some (ntc o G) := by
  have gg := gI_hok H
  have gb := gaps_bd w h
  have hl := gg.1
  obtain ⟨M, hm, hG, hx⟩ := hok_iff.1 H
  have ms := mok_small M
  unfold impl_NextToCut.f
  rw [impl_HedgeOk_eq, Option.bind_some, if_pos H]
  have := fold_loop (n := G.length) (c := 0) (F := fun k s i => impl_NextToCut.l0 k s G (G.length : Int) i w h o G m) (step := ntcS o G) (fin := fun s => s) (I := fun s i => -1 ≤ s ∧ s < i)
    (fun k s i _ hi I => by
      simp only [impl_NextToCut.l0]
      rw [if_pos (by omega), if_pos (by omega), if_pos (by omega), impl_isOpen_eq ms.1 (by omega), Option.bind_some, decide_eq_true (Int.natCast_nonneg i), Bool.true_and, w64_succ hi (by omega)]
      unfold ntcS
      by_cases hb : s < 0
      · simp only [if_pos hb]; split <;> rfl
      · simp only [if_neg hb, if_pos (show 0 ≤ s by omega), if_pos (show s < (G.length : Int) by omega)]
        split
        · split <;> rfl
        · rfl)
    (fun s i hi I => by have := ntcS_bd (o := o) (G := G) I; push_cast; exact this)
    (fun k s _ _ => by
      simp only [impl_NextToCut.l0]
      rw [if_neg (by omega)]) G.length 0 k (-1) (by omega) (by omega) (by omega)
  exact this
theorem spec_ntc_l0 {w h o m : Int} {G : List Int} (H : hok w h o G m = true) : ∀ (r i k : Nat) (s : Int), i + r = G.length → 2 * r + 40 ≤ k → -1 ≤ s ∧ s < i → spec_NextToCut.l0 k s (i : Int) w h o G m = some ((List.range' i r).foldl (ntcS o G) s)
  | 0, i, k, s, hi, hk, I => by
    obtain ⟨k, rfl⟩ : ∃ j, k = j + 2 := ⟨k - 2, by omega⟩
    simp only [spec_NextToCut.l0, spec_NextToCut.j1]
    rw [if_neg (by omega), if_neg Bool.false_ne_true]; rfl
  | r + 1, i, k, s, hi, hk, I => by
    have gg := gI_hok H
    have gb := gaps_bd w h
    have hl := gg.1
    have ms := mok_small (hok_iff.1 H).1
    obtain ⟨k, rfl⟩ : ∃ j, k = j + 2 := ⟨k - 2, by omega⟩
    have ih := spec_ntc_l0 H r (i + 1) k (ntcS o G s i) (by omega) (by omega) (by have := ntcS_bd (o := o) (G := G) I; push_cast; exact this)
    rw [Int.natCast_add] at ih
    rw [List.range'_succ, List.foldl_cons, ← ih]
    simp only [spec_NextToCut.l0, spec_NextToCut.j1]
    rw [if_pos (by omega), spec_HedgeOk_eq (by omega) (by omega), Option.bind_some, H, if_pos rfl, spec_l03Bit_eq ms.1 (by omega) (by omega), Option.bind_some, w64_succ (n := G.length) (by omega) (by omega)]
    unfold ntcS
    by_cases hb : s < 0
    · simp only [if_pos hb]; split <;> rfl
    · simp only [if_neg hb, if_pos (show 0 ≤ s by omega), if_pos (show s < (G.length : Int) by omega), if_pos (show (0 : Int) ≤ (i : Int) by omega), if_pos (show (i : Int) < (G.length : Int) by omega)]
      split
      · split <;> rfl
      · rfl
theorem spec_NextToCut_eq {k : Nat} {G : List Int} (hk : 100 ≤ k) {w h o m : Int} (H : hok w h o G m = true) : spec_NextToCut.f k w h o G m = some (ntc o G) := by
  have gb := gaps_bd w h
  have hl := (gI_hok H).1
  unfold spec_NextToCut.f
  have := spec_ntc_l0 H G.length 0 k (-1) (by omega) (by omega) (by omega)
  rw [show ((0 : Nat) : Int) = 0 from rfl] at this
  exact this
theorem ntc_foldl {o : Int} {G : List Int} : ∀ (r i : Nat) (s : Int), (-1 ≤ s ∧ s < i) → (∀ j : Nat, j < i → opn o j = true → 0 ≤ s ∧ rd G (j : Int) ≤ rd G s) → (0 ≤ s → opn o s = true) →
    (-1 ≤ (List.range' i r).foldl (ntcS o G) s ∧ (List.range' i r).foldl (ntcS o G) s < (i + r : Nat)) ∧ (∀ j : Nat, j < i + r → opn o j = true → 0 ≤ (List.range' i r).foldl (ntcS o G) s ∧ rd G (j : Int) ≤ rd G ((List.range' i r).foldl (ntcS o G) s)) ∧ (0 ≤ (List.range' i r).foldl (ntcS o G) s → opn o ((List.range' i r).foldl (ntcS o G) s) = true)
  | 0, i, s, I, H, K => ⟨I, H, K⟩
  | r + 1, i, s, I, H, K => by
    rw [List.range'_succ, List.foldl_cons]
    have := ntc_foldl (o := o) (G := G) r (i + 1) (ntcS o G s i) (by have := ntcS_bd (o := o) (G := G) I; push_cast; exact this) (fun j hj ho => ?_) (fun h0 => ?_)
    · rwa [show i + 1 + r = i + (r + 1) by omega] at this
    · unfold ntcS
      by_cases hi : opn o i = true
      · rw [if_pos hi]
        by_cases hs : s < 0
        · rw [if_pos hs]
          refine ⟨by omega, ?_⟩
          rcases Nat.lt_or_ge j i with q | q
          · have := (H j q ho).1; omega
          · obtain rfl : j = i := by omega
            exact Int.le_refl _
        · rw [if_neg hs]
          rcases Nat.lt_or_ge j i with q | q
          · have := (H j q ho).2
            split <;> exact ⟨by omega, by omega⟩
          · obtain rfl : j = i := by omega
            split <;> exact ⟨by omega, by omega⟩
      · rw [if_neg hi]
        rcases Nat.lt_or_ge j i with q | q
        · exact H j q ho
        · obtain rfl : j = i := by omega
          exact absurd ho hi
    · unfold ntcS at h0 ⊢
      by_cases hi : opn o i = true
      · rw [if_pos hi] at h0 ⊢
        by_cases hs : s < 0
        · rw [if_pos hs]; exact hi
        · rw [if_neg hs] at h0 ⊢
          split
          · exact hi
          · exact K (by omega)
      · rw [if_neg hi] at h0 ⊢; exact K h0
theorem ntc_spec (o : Int) (G : List Int) : (-1 ≤ ntc o G ∧ ntc o G < (G.length : Int)) ∧ (∀ j : Nat, j < G.length → opn o j = true → 0 ≤ ntc o G ∧ rd G (j : Int) ≤ rd G (ntc o G)) ∧ (0 ≤ ntc o G → opn o (ntc o G) = true) := by
  have := ntc_foldl (o := o) (G := G) G.length 0 (-1) (by omega) (fun j hj => absurd hj (Nat.not_lt_zero _)) (fun h => by omega)
  rw [Nat.zero_add] at this
  exact this
def cutG (o : Int) (G : List Int) : List Int := G.set (ntc o G).toNat 0
def shutN (o m : Int) (G : List Int) : Nat := (List.range' 0 G.length).countP fun (i : Nat) => opn o (i : Int) && decide (rd G (i : Int) ≥ m)
theorem onow_foldl {o m : Int} {G : List Int} (h0 : 0 ≤ o) : ∀ (l : List Nat) , (∀ i ∈ l, ¬ (opn o (i : Int) = true ∧ rd G (i : Int) ≥ m)) → l.foldl (onowS G m) o = o
  | [], _ => rfl
  | i :: l, H => by
    rw [List.foldl_cons]
    have : onowS G m o i = o := by
      unfold onowS
      split
      · rename_i hg
        refine setb_false h0 (by omega) ?_
        cases e : opn o (i : Int) with
        | false => rfl
        | true => exact absurd ⟨e, by rw [rd_nat]; exact hg⟩ (H i (by simp))
      · rfl
    rw [this]
    exact onow_foldl h0 l fun j hj => H j (by simp [hj])
theorem shut_pos {w h o m : Int} {G : List Int} (M : mok w h o = true) (C : conn w h o = true) (N : conn w h (onow o G m) = false) : ∃ j : Nat, j < G.length ∧ opn o (j : Int) = true ∧ rd G (j : Int) ≥ m := by
  refine Classical.byContradiction fun H => ?_
  have : onow o G m = o := onow_foldl (mok_small M).1 _ fun i hi q => H ⟨i, by have := List.mem_range'_1.1 hi; omega, q⟩
  rw [this, C] at N
  cases N
theorem countP_lt {α : Type} {p q : α → Bool} {x : α} : ∀ {l : List α}, x ∈ l → p x = true → q x = false → (∀ y ∈ l, q y = true → p y = true) → l.countP q < l.countP p
  | [], hx, _, _, _ => by simp at hx
  | y :: l, hx, h1, h2, H => by
    have hle : l.countP q ≤ l.countP p := List.countP_mono_left fun z hz => H z (by simp [hz])
    rw [List.countP_cons, List.countP_cons]
    rcases List.mem_cons.1 hx with e | e
    · subst e
      rw [h1, h2]; simp; omega
    · have := countP_lt e h1 h2 fun z hz => H z (by simp [hz])
      have hy := H y (by simp)
      by_cases a : q y = true
      · rw [if_pos a, if_pos (hy a)]; omega
      · rw [if_neg a]; split <;> omega
theorem rd_setL {G : List Int} {a i : Nat} {x : Int} (ha : a < G.length) : rd (G.set a x) (i : Int) = if a = i then x else rd G (i : Int) := by
  rw [rd_nat, rd_nat, List.getD_eq_getElem?_getD, List.getD_eq_getElem?_getD, List.getElem?_set]
  by_cases e : a = i
  · subst e; simp [ha]
  · simp [e]
theorem cut_less {w h o m : Int} {G : List Int} (H : hok w h o G m = true) (C : conn w h o = true) (N : conn w h (onow o G m) = false) : (0 ≤ ntc o G ∧ ntc o G < (G.length : Int)) ∧ hok w h o (cutG o G) m = true ∧ shutN o m (cutG o G) < shutN o m G := by
  obtain ⟨M, hm, hG, hx⟩ := hok_iff.1 H
  obtain ⟨j, hj, ho, hr⟩ := shut_pos M C N
  obtain ⟨s1, s2, s3⟩ := ntc_spec o G
  obtain ⟨p0, p1⟩ := s2 j hj ho
  have p2 := s3 p0
  have hlt : (ntc o G).toNat < G.length := by omega
  have hcast : (((ntc o G).toNat : Nat) : Int) = ntc o G := by omega
  refine ⟨⟨p0, s1.2⟩, hok_gI H (gI_set (gI_hok H) (by omega) (by omega)), ?_⟩
  unfold shutN cutG
  rw [List.length_set]
  refine countP_lt (x := (ntc o G).toNat) (List.mem_range'_1.2 ⟨by omega, by omega⟩) ?_ ?_ fun y hy hq => ?_
  · rw [hcast, p2]; simp; omega
  · rw [rd_setL hlt, if_pos rfl]; simp; intro; omega
  · rw [rd_setL hlt] at hq
    by_cases e : (ntc o G).toNat = y
    · rw [if_pos e] at hq; simp at hq; omega
    · rw [if_neg e] at hq; exact hq
theorem shutN_le (o m : Int) (G : List Int) : shutN o m G ≤ G.length := by
  unfold shutN
  exact Nat.le_trans List.countP_le_length (by simp)
def cutL (w h o m : Int) : Nat → List Int → List Int
  | 0, G => G
  | n + 1, G => if conn w h (onow o G m) = true then G else cutL w h o m n (cutG o G)
theorem cutL_ok {w h o m : Int} (C : conn w h o = true) : ∀ (n : Nat) (G : List Int), hok w h o G m = true → shutN o m G ≤ n → hok w h o (cutL w h o m n G) m = true ∧ conn w h (onow o (cutL w h o m n G) m) = true
  | 0, G, H, hn => by
    refine ⟨H, ?_⟩
    cases N : conn w h (onow o G m) with
    | true => exact N
    | false => have := (cut_less H C N).2.2; omega
  | n + 1, G, H, hn => by
    unfold cutL
    cases N : conn w h (onow o G m) with
    | true => rw [if_pos rfl]; exact ⟨H, N⟩
    | false =>
      rw [if_neg Bool.false_ne_true]
      obtain ⟨_, h2, h3⟩ := cut_less H C N
      exact cutL_ok C n _ h2 (by omega)
theorem impl_CutHedge_eq {G : List Int} {w h o m : Int} (H : hok w h o G m = true) {g : Int} (h0 : 0 ≤ g) (h1 : g < (G.length : Int)) : impl_CutHedge.f w h o G m g = some (w, h, o, G.set g.toNat 0, m, true) := by
  have gb := gaps_bd w h
  have hl := (gI_hok H).1
  unfold impl_CutHedge.f
  rw [impl_copyHedge_eq (by omega), Option.bind_some, impl_HedgeOk_eq, Option.bind_some, if_pos H, impl_isGap_eq, Option.bind_some, if_pos (igap_iff.2 ⟨h0, by omega⟩), if_pos h0, if_pos h1]
theorem spec_CutHedge_eq {k : Nat} {G : List Int} (hk : 40 ≤ k) {w h o m : Int} (H : hok w h o G m = true) {g : Int} (h0 : 0 ≤ g) (h1 : g < (G.length : Int)) : spec_CutHedge.f k w h o G m g = some (w, h, o, G.set g.toNat 0, m, true) := by
  have gb := gaps_bd w h
  have hl := (gI_hok H).1
  unfold spec_CutHedge.f
  rw [spec_l30_eq (by omega), Option.bind_some, spec_HedgeOk_eq (by omega) (by omega), Option.bind_some, if_pos H, spec_l01In_eq, Option.bind_some, w64 (by omega) (by omega), if_pos (decide_eq_true (by omega)), if_pos h0, if_pos h1]
theorem base_conn {w h o m : Int} {G : List Int} (H : hok w h o G m = true) (C : conn w h (onow o G m) = true) : conn w h o = true := by
  obtain ⟨M, hm, hG, hx⟩ := hok_iff.1 H
  refine conn_more C M ?_
  have key : ∀ (l : List Nat) (s : Int), ∀ g, 0 ≤ g → opn (l.foldl (onowS G m) s) g = true → opn s g = true := by
    intro l
    induction l with
    | nil => exact fun s g _ h => h
    | cons i l ih =>
      intro s g h0 hg
      have := ih _ g h0 hg
      unfold onowS at this
      split at this
      · rw [opn_setb _ (by omega) h0] at this
        split at this
        · cases this
        · exact this
      · exact this
  exact key _ _
def dayG (w h o : Int) (G : List Int) (m b : Int) : List Int := cutL w h o m 24 (grwG b G)
theorem dayG_ok {w h o m b : Int} {G : List Int} (H : hok w h o G m = true) (C : conn w h (onow o G m) = true) (hb : 0 ≤ b) : hok w h o (dayG w h o G m b) m = true ∧ conn w h (onow o (dayG w h o G m b) m) = true := by
  have H' := grwG_hok hb H
  refine cutL_ok (base_conn H C) 24 _ H' ?_
  have := shutN_le o m (grwG b G)
  have := (gI_hok H').1
  have := gaps_bd w h
  omega
theorem impl_day_step {w h o m e d : Int} {V : List Int} (C : conn w h o = true) (hd : 0 ≤ d ∧ d < 10000) {w' h' o' m' : Int} {G' : List Int} {k : Nat} {G : List Int} (H : hok w h o G m = true) (hk : 99 ≤ k) :
    impl_NextDay.l0 (k + 1) w' h' o' G' m' e V d w h o G m = if conn w h (onow o G m) = true then some (w, h, o, G, m, e, V, d + 1, true) else impl_NextDay.l0 k w' h' o' G' m' e V d w h o (cutG o G) m := by
  simp only [impl_NextDay.l0]
  rw [impl_OpenNow_eq (by omega), Option.bind_some]
  unfold onw
  rw [if_pos H]
  simp only
  rw [impl_IsConnected_eq (by omega), Option.bind_some]
  cases N : conn w h (onow o G m) with
  | true => rw [if_pos rfl, if_pos rfl, w64 (by omega) (by omega)]
  | false =>
    obtain ⟨h1, h2, h3⟩ := cut_less H C N
    rw [if_neg Bool.false_ne_true, if_neg Bool.false_ne_true, impl_NextToCut_eq (by omega) H, Option.bind_some, impl_CutHedge_eq H h1.1 h1.2, Option.bind_some]
    rfl
theorem impl_day_l0 {w h o m e d : Int} {V : List Int} (C : conn w h o = true) (hd : 0 ≤ d ∧ d < 10000) {w' h' o' m' : Int} {G' : List Int} : ∀ (n k : Nat) (G : List Int), hok w h o G m = true → shutN o m G ≤ n → n + 100 ≤ k →
    impl_NextDay.l0 k w' h' o' G' m' e V d w h o G m = some (w, h, o, cutL w h o m n G, m, e, V, d + 1, true) := by
  intro n
  induction n with
  | zero =>
    intro k G H hn hk
    obtain ⟨k, rfl⟩ : ∃ j, k = j + 1 := ⟨k - 1, by omega⟩
    rw [impl_day_step C hd H (by omega)]
    cases N : conn w h (onow o G m) with
    | true => rw [if_pos rfl]; rfl
    | false => have := (cut_less H C N).2.2; omega
  | succ n ih =>
    intro k G H hn hk
    obtain ⟨k, rfl⟩ : ∃ j, k = j + 1 := ⟨k - 1, by omega⟩
    rw [impl_day_step C hd H (by omega)]
    unfold cutL
    cases N : conn w h (onow o G m) with
    | true => rw [if_pos rfl, if_pos rfl]
    | false =>
      obtain ⟨h1, h2, h3⟩ := cut_less H C N
      rw [if_neg Bool.false_ne_true, if_neg Bool.false_ne_true]
      have := ih k (cutG o G) h2 (by omega) (by omega)
      exact this
theorem spec_day_step {w h o m e d : Int} {V : List Int} (C : conn w h o = true) {d' : Int} (hd : 0 ≤ d' ∧ d' < 10000) {w' h' o' m' e' : Int} {G' V' : List Int} {k : Nat} {G : List Int} (H : hok w h o G m = true) (hk : 399 ≤ k) :
    spec_NextDay.l0 (k + 1) w' h' o' G' m' e' V' d' w h o G m e V d = if conn w h (onow o G m) = true then some (w, h, o, G, m, e, V, d' + 1, true) else spec_NextDay.l0 k w' h' o' G' m' e' V' d' w h o (cutG o G) m e V d := by
  have gb := gaps_bd w h
  have hl := (gI_hok H).1
  simp only [spec_NextDay.l0]
  rw [spec_OpenNow_eq (by omega) (by omega), Option.bind_some]
  unfold onw
  rw [if_pos H]
  simp only
  rw [spec_IsConnected_eq (by omega), Option.bind_some]
  cases N : conn w h (onow o G m) with
  | true => rw [if_pos rfl, if_pos rfl, w64 (by omega) (by omega)]
  | false =>
    obtain ⟨h1, h2, h3⟩ := cut_less H C N
    rw [if_neg Bool.false_ne_true, if_neg Bool.false_ne_true, spec_NextToCut_eq (by omega) H, Option.bind_some, spec_CutHedge_eq (by omega) H h1.1 h1.2, Option.bind_some]
    rfl
theorem spec_day_l0 {w h o m e d : Int} {V : List Int} (C : conn w h o = true) {d' : Int} (hd : 0 ≤ d' ∧ d' < 10000) {w' h' o' m' e' : Int} {G' V' : List Int} : ∀ (n k : Nat) (G : List Int), hok w h o G m = true → shutN o m G ≤ n → n + 400 ≤ k →
    spec_NextDay.l0 k w' h' o' G' m' e' V' d' w h o G m e V d = some (w, h, o, cutL w h o m n G, m, e, V, d' + 1, true) := by
  intro n
  induction n with
  | zero =>
    intro k G H hn hk
    obtain ⟨k, rfl⟩ : ∃ j, k = j + 1 := ⟨k - 1, by omega⟩
    rw [spec_day_step C hd H (by omega)]
    cases N : conn w h (onow o G m) with
    | true => rw [if_pos rfl]; rfl
    | false => have := (cut_less H C N).2.2; omega
  | succ n ih =>
    intro k G H hn hk
    obtain ⟨k, rfl⟩ : ∃ j, k = j + 1 := ⟨k - 1, by omega⟩
    rw [spec_day_step C hd H (by omega)]
    unfold cutL
    cases N : conn w h (onow o G m) with
    | true => rw [if_pos rfl, if_pos rfl]
    | false =>
      obtain ⟨h1, h2, h3⟩ := cut_less H C N
      rw [if_neg Bool.false_ne_true, if_neg Bool.false_ne_true]
      have := ih k (cutG o G) h2 (by omega) (by omega)
      exact this
def dayOk (w h o : Int) (G : List Int) (m e : Int) (V : List Int) (d b : Int) : Bool := gdok w h o G m e V d && decide (1 ≤ b ∧ b ≤ 20) && !(d == 10000)
def dayR (w h o : Int) (G : List Int) (m e : Int) (V : List Int) (d b : Int) : Int × Int × Int × List Int × Int × Int × List Int × Int × Bool :=
  if dayOk w h o G m e V d b = true then (w, h, o, dayG w h o G m b, m, e, V, d + 1, true) else (w, h, o, G, m, e, V, d, false)
theorem gdok_iff {w h o m e d : Int} {G V : List Int} : gdok w h o G m e V d = true ↔ hok w h o G m = true ∧ icell w h e = true ∧ crok w h o V = true ∧ (0 ≤ d ∧ d ≤ 10000) ∧ conn w h (onow o G m) = true := by
  unfold gdok; simp [and_assoc]
theorem gdok_len {w h o m e d : Int} {G V : List Int} (H : gdok w h o G m e V d = true) : G.length ≤ 24 ∧ V.length ≤ 6 := by
  obtain ⟨H, _, C, _⟩ := gdok_iff.1 H
  have := (gI_hok H).1
  have := gaps_bd w h
  have := (crok_iff.1 C).2.1
  omega
theorem impl_NextDay_eq {k : Nat} {G V : List Int} (hG : G.length ≤ 1048576) (hV : V.length ≤ 1048576) (hk : 300 ≤ k) (w h o m e d b : Int) : impl_NextDay.f k w h o G m e V d b = some (dayR w h o G m e V d b) := by
  obtain ⟨j, rfl⟩ : ∃ j, k = j + 1 := ⟨k - 1, by omega⟩
  unfold impl_NextDay.f dayR dayOk
  rw [impl_copyGarden_eq (by omega) (by omega), Option.bind_some, impl_GardenOk_eq (by omega), Option.bind_some]
  cases K : gdok w h o G m e V d with
  | false =>
    rw [if_neg Bool.false_ne_true]
    simp only [impl_NextDay.j0]
    simp
  | true =>
    rw [if_pos rfl]
    obtain ⟨H, he, hv, hd, C⟩ := gdok_iff.1 K
    simp only [impl_NextDay.j0]
    by_cases h1 : b < 1
    · rw [if_pos h1, if_pos trivial, decide_eq_false (by omega)]; rfl
    · rw [if_neg h1]
      by_cases h2 : b > 20
      · rw [if_pos h2, if_pos trivial, decide_eq_false (by omega)]; rfl
      · rw [if_neg h2, decide_eq_true (by omega)]
        cases q : d == 10000 with
        | true => rw [if_pos rfl]; rfl
        | false =>
          have : d ≠ 10000 := by simpa using q
          rw [if_neg Bool.false_ne_true, impl_GrowHedge_eq (by omega) H (by omega) (by omega), Option.bind_some]
          simp only [Bool.not_false, Bool.and_self, if_true]
          have H' := grwG_hok (b := b) (by omega) H
          refine impl_day_l0 (base_conn H C) (by omega) 24 j (grwG b G) H' ?_ (by omega)
          have := shutN_le o m (grwG b G)
          have := (gI_hok H').1
          have := gaps_bd w h
          omega
theorem spec_NextDay_eq {k : Nat} {G V : List Int} (hG : G.length ≤ 1048576) (hV : V.length ≤ 1048576) (hk : G.length + 2 * V.length + 600 ≤ k) (w h o m e d b : Int) : spec_NextDay.f k w h o G m e V d b = some (dayR w h o G m e V d b) := by
  obtain ⟨j, rfl⟩ : ∃ j, k = j + 1 := ⟨k - 1, by omega⟩
  unfold spec_NextDay.f dayR dayOk
  rw [spec_l38_eq (by omega) (by omega), Option.bind_some, spec_GardenOk_eq hG hV (by omega), Option.bind_some]
  cases K : gdok w h o G m e V d with
  | false =>
    rw [if_neg Bool.false_ne_true]
    simp only [spec_NextDay.j0]
    simp
  | true =>
    rw [if_pos rfl, spec_l01In_eq, Option.bind_some]
    obtain ⟨H, he, hv, hd, C⟩ := gdok_iff.1 K
    simp only [spec_NextDay.j0]
    by_cases h1 : 1 ≤ b ∧ b ≤ 20
    · rw [decide_eq_true h1, if_pos rfl]
      cases q : d == 10000 with
      | true => rw [if_pos rfl]; rfl
      | false =>
        have : d ≠ 10000 := by simpa using q
        rw [if_neg Bool.false_ne_true, spec_GrowHedge_eq (by omega) H (by omega) (by omega), Option.bind_some]
        simp only [Bool.not_false, Bool.and_self, if_true]
        have H' := grwG_hok (b := b) (by omega) H
        refine spec_day_l0 (base_conn H C) (by omega) 24 j (grwG b G) H' ?_ (by omega)
        have := shutN_le o m (grwG b G)
        have := (gI_hok H').1
        have := gaps_bd w h
        omega
    · rw [decide_eq_false h1, if_neg Bool.false_ne_true, if_pos trivial]; rfl
theorem dayR_ok {w h o m e d b : Int} {G V : List Int} (K : gdok w h o G m e V d = true) (hb : 1 ≤ b ∧ b ≤ 20) (hd : d ≠ 10000) : dayR w h o G m e V d b = (w, h, o, dayG w h o G m b, m, e, V, d + 1, true) ∧ gdok w h o (dayG w h o G m b) m e V (d + 1) = true := by
  obtain ⟨H, he, hv, hd', C⟩ := gdok_iff.1 K
  have := dayG_ok H C (b := b) (by omega)
  refine ⟨?_, gdok_iff.2 ⟨this.1, he, hv, by omega, this.2⟩⟩
  unfold dayR dayOk
  rw [K, decide_eq_true hb, show (d == 10000) = false by simpa using hd]
  rfl
end Go.Proofs.YtkindoepnganmaaGreat.F
end

section
namespace Go.Proofs.YtkindoepnganmaaGreat.F
open Go.RowKit Go.Proofs.YtkindoepnganmaaGreatW.PrintWords Go.Proofs.YtkindoepnganmaaGreatW.PrintLast Go.Proofs.YtkindoepnganmaaGreatW.PrintMore
set_option linter.unusedVariables false
set_option linter.unusedSimpArgs false
theorem bfs_small {nx : Int → Int → Int} {N : Nat} {a : Int} (S : Steps nx N) : ∀ (f i : Nat) (D Q : List Int), BfsAt nx N a i D Q → Small (D, Q) → ∀ x, rd (bfs nx f i (D, Q)) x < N
  | 0, i, D, Q, B, V, x => by
    have := B.cnt
    have := V x
    simp only [bfs] at *
    omega
  | f + 1, i, D, Q, B, V, x => by
    simp only [bfs]
    by_cases hi : i < Q.length
    · rw [if_pos hi]
      have M : Mid nx N a i (rd Q i) (D, Q) := ⟨B, V, hi, rfl⟩
      have M4 := mid1 S (mid1 S (mid1 S (mid1 S M 0) 1) 2) 3
      have e : bfsD nx (rd Q i) [0, 1, 2, 3] (D, Q) = bfs1 nx (rd Q i) 3 (bfs1 nx (rd Q i) 2 (bfs1 nx (rd Q i) 1 (bfs1 nx (rd Q i) 0 (D, Q)))) := by rw [bfsD_cons, bfsD_cons, bfsD_cons, bfsD_cons]; rfl
      have V4 := M4.small
      rw [← e] at V4
      generalize hs : bfsD nx (rd Q i) [0, 1, 2, 3] (D, Q) = s at V4
      obtain ⟨D', Q'⟩ := s
      exact bfs_small S f (i + 1) D' Q' (bfs_next S B hi hs) V4 x
    · rw [if_neg hi]
      have := B.cnt
      have := V x
      simp only at *
      omega
theorem dst_lt {w h o a b : Int} (ha : icell w h a = true) : dst w h o a b < 16 := by
  have ca := icell_iff.1 ha
  have hc := cells_bd w h
  have hN : ((stN w h : Nat) : Int) = cells w h := by unfold stN; omega
  have := bfs_small (steps_st w h o) (stN w h + 1) 0 _ _ (bfs_init ca.1 (by omega)) (small_init ca.1 (by omega)) b
  have e : dst w h o a b = rd (bfs (st w h o) (stN w h + 1) 0 ((List.replicate (stN w h) (-1)).set a.toNat 0, [a])) b := rfl
  omega
theorem dst_near {w h o g c d : Int} (hg : icell w h g = true) (hd : 0 ≤ st w h o c d) (H : 0 ≤ dst w h o g c) : 0 ≤ dst w h o g (st w h o c d) ∧ dst w h o g c ≤ dst w h o g (st w h o c d) + 1 := by
  have cg := icell_iff.1 hg
  obtain ⟨_, f2, f3, _, _⟩ := st_facts hd
  have cc := icell_iff.1 f2
  have cs := icell_iff.1 f3
  have hN : ((stN w h : Nat) : Int) = cells w h := by have := cells_bd w h; unfold stN; omega
  obtain ⟨_, _, p⟩ := dists_spec (steps_st w h o) (a := g) cg.1 (by omega)
  unfold dst at H ⊢
  rcases p c cc.1 (by omega) with ⟨e, _⟩ | ⟨g1, w1, m1⟩
  · omega
  · rcases p (st w h o c d) cs.1 (by omega) with ⟨e, n2⟩ | ⟨g2, w2, m2⟩
    · exact absurd (Walk.snoc w1 hd) (n2 _)
    · obtain ⟨q, hq⟩ := (sym_st w h o).back c d hd
      have := Walk.snoc (d := q) w2 (by rw [hq]; exact cc.1)
      rw [hq] at this
      have := m1 _ this
      exact ⟨g2, by omega⟩
theorem dst_zero {w h o g c : Int} (hg : icell w h g = true) (hc : icell w h c = true) : dst w h o g c = 0 ↔ c = g := by
  have cg := icell_iff.1 hg
  have cc := icell_iff.1 hc
  have hN : ((stN w h : Nat) : Int) = cells w h := by have := cells_bd w h; unfold stN; omega
  obtain ⟨_, p0, p⟩ := dists_spec (steps_st w h o) (a := g) cg.1 (by omega)
  constructor
  · intro H
    unfold dst at H
    rcases p c cc.1 (by omega) with ⟨e, _⟩ | ⟨g1, w1, m1⟩
    · omega
    · rw [H] at w1
      cases w1
      rfl
  · rintro rfl; exact p0
theorem dst_down {w h o g c : Int} {n : Nat} (hg : icell w h g = true) (hc : icell w h c = true) (H : dst w h o g c = (n : Int) + 1) : ∃ d, 0 ≤ d ∧ d ≤ 3 ∧ 0 ≤ st w h o c d ∧ dst w h o g (st w h o c d) < dst w h o g c := by
  have cg := icell_iff.1 hg
  have cc := icell_iff.1 hc
  have hN : ((stN w h : Nat) : Int) = cells w h := by have := cells_bd w h; unfold stN; omega
  obtain ⟨_, _, p⟩ := dists_spec (steps_st w h o) (a := g) cg.1 (by omega)
  have H0 := H
  unfold dst at H
  rcases p c cc.1 (by omega) with ⟨e, _⟩ | ⟨g1, w1, m1⟩
  · omega
  · rw [H, show ((n : Int) + 1).toNat = n + 1 by omega] at w1
    cases w1 with
    | @snoc _ b e hw he =>
      obtain ⟨q, hq⟩ := (sym_st w h o).back b e he
      obtain ⟨_, f2, _, _, _⟩ := st_facts he
      have cb := icell_iff.1 f2
      have hs : 0 ≤ st w h o (st w h o b e) q := by rw [hq]; exact cb.1
      obtain ⟨_, _, _, d0, d3⟩ := st_facts hs
      refine ⟨q, d0, d3, hs, ?_⟩
      rw [hq, H0]
      rcases p b cb.1 (by omega) with ⟨e2, n2⟩ | ⟨g2, w2, m2⟩
      · exact absurd hw (n2 _)
      · have := m2 _ hw
        unfold dst
        omega
def near (w h o g c d : Int) : Bool := decide (0 ≤ st w h o c d) && decide (dst w h o g (st w h o c d) < dst w h o g c)
def fdir (w h o g c : Int) : Int := (([0, 1, 2, 3] : List Int).find? (near w h o g c)).getD 0
def wayM (w h o g : Int) : Nat → Int → List Int
  | 0, _ => []
  | n + 1, c => fdir w h o g c :: wayM w h o g n (st w h o c (fdir w h o g c))
theorem fdir_some {w h o g c : Int} {n : Nat} (hg : icell w h g = true) (hc : icell w h c = true) (H : dst w h o g c = (n : Int) + 1) :
    ([0, 1, 2, 3] : List Int).find? (near w h o g c) = some (fdir w h o g c) ∧ 0 ≤ st w h o c (fdir w h o g c) ∧ dst w h o g (st w h o c (fdir w h o g c)) = n := by
  obtain ⟨d, d0, d3, hd, hlt⟩ := dst_down hg hc H
  have hn : near w h o g c d = true := by unfold near; rw [decide_eq_true hd, decide_eq_true hlt]; rfl
  cases hf : ([0, 1, 2, 3] : List Int).find? (near w h o g c) with
  | none =>
    have := List.find?_eq_none.1 hf d (by have : d = 0 ∨ d = 1 ∨ d = 2 ∨ d = 3 := by omega
                                          rcases this with rfl | rfl | rfl | rfl <;> simp)
    exact absurd hn this
  | some e =>
    have he : fdir w h o g c = e := by unfold fdir; rw [hf]; rfl
    have hp := List.find?_some hf
    rw [he]
    unfold near at hp
    rw [Bool.and_eq_true, decide_eq_true_eq, decide_eq_true_eq] at hp
    obtain ⟨q1, q2⟩ := dst_near hg hp.1 (by omega)
    exact ⟨rfl, hp.1, by omega⟩
theorem wayM_length (w h o g : Int) : ∀ n c, (wayM w h o g n c).length = n
  | 0, c => rfl
  | n + 1, c => by simp [wayM, wayM_length w h o g n]
theorem drop_rd {l : List Int} {i : Nat} (hi : i < l.length) : l.drop i = rd l (i : Int) :: l.drop (i + 1) := by
  rw [List.drop_eq_getElem_cons hi]
  congr 1
  rw [rd_nat, List.getD_eq_getElem?_getD, List.getElem?_eq_getElem hi]
  rfl
theorem impl_way1 {w h o g c : Int} (hg : icell w h g = true) (hc : icell w h c = true) {W : List Int} (hW : W.length ≤ 4) (hd : ∀ d ∈ W, 0 ≤ st w h o c d) {acc : List Int} (ha : acc.length ≤ 1000) {k : Nat} (hk : 3 ≤ k) {d0 : Int} {r : List Int × Bool}
    (hr : impl_WayBetween.l0 k g (dists (st w h o) (stN w h) g) (acc ++ [d0]) (st w h o c d0) w h o = some r) : ∀ (m j : Nat), j + m = W.length → (W.drop j).find? (near w h o g c) = some d0 →
    impl_WayBetween.l1 (k + m) g (dists (st w h o) (stN w h) g) acc c W (W.length : Int) (j : Int) w h o = some r
  | 0, j, hj, hf => by rw [List.drop_of_length_le (by omega)] at hf; exact absurd hf (by simp)
  | m + 1, j, hj, hf => by
    have hjl : j < W.length := by omega
    have hmem : rd W (j : Int) ∈ W := rd_memI (by omega) (by omega)
    have h0 := hd _ hmem
    obtain ⟨_, _, f3, _, _⟩ := st_facts h0
    have cs := icell_iff.1 f3
    have cc := icell_iff.1 hc
    rw [drop_rd hjl] at hf
    rw [show k + (m + 1) = (k + m) + 1 by omega]
    simp only [impl_WayBetween.l1]
    rw [if_pos (by omega), if_pos (by omega), if_pos (by omega), impl_Step_eq (by omega), Option.bind_some, if_pos h0, if_pos (by rw [dists_length hg]; exact cs.2), if_pos cc.1, if_pos (by rw [dists_length hg]; exact cc.2)]
    show (if dst w h o g (st w h o c (rd W (j : Int))) < dst w h o g c then _ else _) = _
    by_cases hlt : dst w h o g (st w h o c (rd W (j : Int))) < dst w h o g c
    · have hn : near w h o g c (rd W (j : Int)) = true := by unfold near; rw [decide_eq_true h0, decide_eq_true hlt]; rfl
      rw [List.find?_cons_of_pos hn] at hf
      obtain rfl := Option.some.inj hf
      rw [if_pos hlt, if_pos (by omega)]
      exact at_rounds (g := fun k => impl_WayBetween.l0 k g (dists (st w h o) (stN w h) g) (acc ++ [rd W (j : Int)]) (st w h o c (rd W (j : Int))) w h o) (fun k => (impl_WayBetween.mono_l k).1 _ _ _ _ _ _ _) (k := k) (by omega) hr
    · have hn : ¬ near w h o g c (rd W (j : Int)) = true := by unfold near; rw [decide_eq_false hlt]; simp
      rw [List.find?_cons_of_neg hn] at hf
      rw [if_neg hlt, w64 (x := (j : Int) + 1) (by omega) (by omega)]
      have := impl_way1 hg hc hW hd ha hk hr m (j + 1) (by omega) hf
      rwa [Int.natCast_add] at this
theorem impl_way {w h o g : Int} (hg : icell w h g = true) : ∀ (n k : Nat) (acc : List Int) (c : Int), icell w h c = true → dst w h o g c = n → acc.length + n ≤ 1000 → 6 * n + 20 ≤ k → impl_WayBetween.l0 k g (dists (st w h o) (stN w h) g) acc c w h o = some (acc ++ wayM w h o g n c, true)
  | 0, k, acc, c, hc, hn, ha, hk => by
    obtain ⟨m, rfl⟩ : ∃ m, k = m + 1 := ⟨k - 1, by omega⟩
    simp only [impl_WayBetween.l0, wayM, List.append_nil]
    rw [if_pos ((dst_zero hg hc).1 hn)]
  | n + 1, k, acc, c, hc, hn, ha, hk => by
    obtain ⟨m, rfl⟩ : ∃ m, k = m + 1 := ⟨k - 1, by omega⟩
    have hne : ¬ c = g := fun e => by have := (dst_zero (o := o) hg hc).2 e; omega
    obtain ⟨e1, e2, e3⟩ := fdir_some (o := o) (n := n) hg hc (by omega)
    obtain ⟨_, _, f3, _, _⟩ := st_facts e2
    have ih := impl_way hg n (m - 4) (acc ++ [fdir w h o g c]) (st w h o c (fdir w h o g c)) f3 e3 (by simp only [List.length_append, List.length_singleton]; omega) (by omega)
    simp only [impl_WayBetween.l0]
    rw [if_neg hne, impl_WaysFrom_eq (by omega), Option.bind_some]
    have hw := ways_length w h o c
    have hf : ((ways w h o c).drop 0).find? (near w h o g c) = some (fdir w h o g c) := by
      rw [List.drop_zero, ← e1]
      unfold ways
      rw [List.find?_filter]
      congr 1
      funext d
      unfold near
      cases decide (0 ≤ st w h o c d) <;> simp
    have := impl_way1 hg hc hw (fun d hd => ways_mem hd) (by omega : acc.length ≤ 1000) (by omega : 3 ≤ m - 4) ih (ways w h o c).length 0 (by omega) hf
    have r := at_rounds (g := fun k => impl_WayBetween.l1 k g (dists (st w h o) (stN w h) g) acc c (ways w h o c) ((ways w h o c).length : Int) (0 : Int) w h o) (fun k => (impl_WayBetween.mono_l k).2 _ _ _ _ _ _ _ _ _ _) (k := m - 4 + (ways w h o c).length) (k' := m) (by omega) this
    rw [show wayM w h o g (n + 1) c = fdir w h o g c :: wayM w h o g n (st w h o c (fdir w h o g c)) from rfl]
    rw [List.append_assoc] at r
    exact r
def wayOf (w h o a b : Int) : List Int × Bool := if mok w h o = true ∧ icell w h a = true ∧ icell w h b = true ∧ 0 ≤ dst w h o b a then (wayM w h o b (dst w h o b a).toNat a, true) else ([], false)
theorem impl_WayBetween_eq {w h o : Int} {k : Nat} (hk : 300 ≤ k) (a b : Int) : impl_WayBetween.f k w h o a b = some (wayOf w h o a b) := by
  unfold impl_WayBetween.f wayOf
  rw [impl_DistanceOf_eq (by omega), Option.bind_some]
  by_cases H : mok w h o = true ∧ icell w h a = true ∧ icell w h b = true
  · obtain ⟨h1, h2, h3⟩ := H
    rw [if_pos (show mok w h o = true ∧ icell w h a = true ∧ icell w h b = true from ⟨h1, h2, h3⟩), dst_sym h2 h3]
    by_cases h4 : 0 ≤ dst w h o b a
    · rw [if_neg (by omega), if_pos ⟨h1, h2, h3, h4⟩, impl_distances_eq (by omega) h3, Option.bind_some]
      have hlt := dst_lt (o := o) (b := a) h3
      have := impl_way (o := o) h3 (dst w h o b a).toNat k [] a h2 (by omega) (by simp; omega) (by omega)
      simpa using this
    · rw [if_pos (by omega), if_neg (fun q => h4 q.2.2.2)]
  · rw [if_neg H, if_pos (by decide), if_neg (fun q => H ⟨q.1, q.2.1, q.2.2.1⟩)]
end Go.Proofs.YtkindoepnganmaaGreat.F
end

section
namespace Go.Proofs.YtkindoepnganmaaGreat.F
open Go.RowKit Go.Proofs.YtkindoepnganmaaGreatW.PrintWords Go.Proofs.YtkindoepnganmaaGreatW.PrintLast Go.Proofs.YtkindoepnganmaaGreatW.PrintMore
set_option linter.unusedVariables false
set_option linter.unusedSimpArgs false
def dd (w h o a b : Int) : Int := if mok w h o = true ∧ icell w h a = true ∧ icell w h b = true then dst w h o a b else -1
theorem dd_in {w h o a b : Int} (M : mok w h o = true) (ha : icell w h a = true) (hb : icell w h b = true) : dd w h o a b = dst w h o a b := by unfold dd; rw [if_pos ⟨M, ha, hb⟩]
theorem impl_DistanceOf_dd {w h o : Int} {k : Nat} (hk : 200 ≤ k) (a b : Int) : impl_DistanceOf.f k w h o a b = some (dd w h o a b) := impl_DistanceOf_eq hk a b
end Go.Proofs.YtkindoepnganmaaGreat.F
end

section
namespace Go.Proofs.YtkindoepnganmaaGreat.F
open Go.RowKit Go.Proofs.YtkindoepnganmaaGreatW.PrintWords Go.Proofs.YtkindoepnganmaaGreatW.PrintLast Go.Proofs.YtkindoepnganmaaGreatW.PrintMore
set_option linter.unusedVariables false
set_option linter.unusedSimpArgs false
abbrev T9 := Int × Int × Int × List Int × Int × Int × List Int × Int × Bool
theorem gdok_onw {w h o m e d : Int} {G V : List Int} (K : gdok w h o G m e V d = true) : onw w h o G m = (w, h, onow o G m) := by
  unfold onw; rw [if_pos (gdok_iff.1 K).1]
theorem gdok_crok {w h o m e d : Int} {G V : List Int} (K : gdok w h o G m e V d = true) : crok w h (onow o G m) V = true := by
  obtain ⟨H, he, hv, hd, C⟩ := gdok_iff.1 K
  obtain ⟨_, c2, c3, c4⟩ := crok_iff.1 hv
  exact crok_iff.2 ⟨conn_mok C, c2, c3, c4⟩
theorem gdok_with {w h o m e d : Int} {G V V' : List Int} (K : gdok w h o G m e V d = true) (H : V'.length ≤ 6 ∧ (∀ c ∈ V', icell w h c = true) ∧ V'.Nodup) : gdok w h o G m e V' d = true := by
  obtain ⟨h1, he, hv, hd, C⟩ := gdok_iff.1 K
  exact gdok_iff.2 ⟨h1, he, crok_iff.2 ⟨(crok_iff.1 hv).1, H⟩, hd, C⟩
def entR (w h o : Int) (G : List Int) (m e : Int) (V : List Int) (d : Int) : T9 :=
  if (gdok w h o G m e V d && gdok w h o G m e (V ++ [e]) d) = true then (w, h, o, G, m, e, V ++ [e], d, true) else (w, h, o, G, m, e, V, d, false)
theorem impl_Enter_eq {k : Nat} {G V : List Int} (hG : G.length ≤ 1048576) (hV : V.length ≤ 1048576) (hk : 30 ≤ k) (w h o m e d : Int) : impl_Enter.f k w h o G m e V d = some (entR w h o G m e V d) := by
  unfold impl_Enter.f entR
  rw [impl_copyGarden_eq (by omega) (by omega), Option.bind_some]
  simp only
  rw [if_pos (by omega), Option.bind_some, impl_GardenOk_eq hk, Option.bind_some]
  cases gdok w h o G m e V d with
  | false => rw [if_neg Bool.false_ne_true, Option.bind_some]; rfl
  | true =>
    rw [if_pos rfl, impl_GardenOk_eq hk, Option.bind_some]
    cases gdok w h o G m e (V ++ [e]) d with
    | false => rw [if_neg Bool.false_ne_true, Option.bind_some]; rfl
    | true => rfl
theorem spec_Enter_eq {k : Nat} {G V : List Int} (hG : G.length ≤ 1048576) (hV : V.length ≤ 1048576) (hk : G.length + 2 * V.length + 1000 ≤ k) (w h o m e d : Int) : spec_Enter.f k w h o G m e V d = some (entR w h o G m e V d) := by
  unfold spec_Enter.f entR
  rw [spec_l38_eq (by omega) (by omega), Option.bind_some]
  simp only
  rw [if_pos (by omega), Option.bind_some, spec_GardenOk_eq hG hV (by omega), Option.bind_some]
  cases K : gdok w h o G m e V d with
  | false => rw [if_neg Bool.false_ne_true, Option.bind_some]; rfl
  | true =>
    have hl := gdok_len K
    rw [if_pos rfl, spec_GardenOk_eq hG (by simp; omega) (by simp; omega), Option.bind_some]
    cases gdok w h o G m e (V ++ [e]) d with
    | false => rw [if_neg Bool.false_ne_true, Option.bind_some]; rfl
    | true => rfl
theorem entR_spec {w h o m e d : Int} {G V : List Int} (K : gdok w h o G m e V d = true) : entR w h o G m e V d = if V.contains e = false ∧ V.length < 6 then (w, h, o, G, m, e, V ++ [e], d, true) else (w, h, o, G, m, e, V, d, false) := by
  obtain ⟨h1, he, hv, hd, C⟩ := gdok_iff.1 K
  obtain ⟨c1, c2, c3, c4⟩ := crok_iff.1 hv
  unfold entR
  rw [K, Bool.true_and]
  by_cases q : V.contains e = false ∧ V.length < 6
  · rw [if_pos q, if_pos]
    refine gdok_with K ⟨by simp; omega, ?_, ?_⟩
    · intro c hc
      rcases List.mem_append.1 hc with a | a
      · exact c3 c a
      · rw [List.mem_singleton.1 a]; exact he
    · rw [List.nodup_append]
      refine ⟨c4, by simp, ?_⟩
      intro a ha b hb
      rw [List.mem_singleton.1 hb]
      rintro rfl
      have := q.1
      rw [List.contains_iff_mem.2 ha] at this
      cases this
  · rw [if_neg q, if_neg]
    intro g
    obtain ⟨_, _, hv', _⟩ := gdok_iff.1 g
    obtain ⟨_, d2, _, d4⟩ := crok_iff.1 hv'
    refine q ⟨?_, by simp at d2; omega⟩
    rw [List.nodup_append] at d4
    cases x : V.contains e with
    | false => rfl
    | true => exact absurd rfl (d4.2.2 e (List.contains_iff_mem.1 x) e (by simp))
def mvR (w h o : Int) (V : List Int) (a b : Int) : List Int × Bool :=
  if (crok w h o V && decide (0 ≤ a ∧ a < (V.length : Int))) = true then (if (decide (st w h o (rd V a) b < 0) || V.contains (st w h o (rd V a) b)) = true then (V, false) else (V.set a.toNat (st w h o (rd V a) b), true)) else (V, false)
theorem mvR_false {w h o a b : Int} {V : List Int} (H : (mvR w h o V a b).2 = false) : mvR w h o V a b = (V, false) := by
  unfold mvR at H ⊢
  split
  · rename_i q
    rw [if_pos q] at H
    split
    · rfl
    · rename_i q2
      rw [if_neg q2] at H
      cases H
  · rfl
theorem impl_MoveOne_eq {k : Nat} {V : List Int} (hV : V.length ≤ 1048576) (hk : V.length + 20 ≤ k) (w h o a b : Int) : impl_MoveOne.f k w h o V a b = some (mvR w h o V a b) := by
  obtain ⟨k, rfl⟩ : ∃ j, k = j + 1 := ⟨k - 1, by omega⟩
  unfold impl_MoveOne.f mvR
  rw [slices_Clone_int_eq (by omega), Option.bind_some, impl_CrowdOk_eq, Option.bind_some]
  simp only [impl_MoveOne.j0]
  cases K : crok w h o V with
  | false => rw [if_neg Bool.false_ne_true, if_pos trivial]; rfl
  | true =>
    rw [if_pos rfl, Bool.true_and]
    by_cases h1 : a < 0
    · rw [if_pos h1, if_pos trivial, decide_eq_false (by omega)]; rfl
    · rw [if_neg h1]
      by_cases h2 : a ≥ (V.length : Int)
      · rw [decide_eq_true h2, if_pos rfl, decide_eq_false (by omega)]; rfl
      · rw [decide_eq_false h2, if_neg Bool.false_ne_true, if_pos (by omega), if_pos (by omega), decide_eq_true (by omega : 0 ≤ a ∧ a < (V.length : Int)), if_pos rfl, impl_Step_eq (by omega), Option.bind_some]
        by_cases h3 : st w h o (rd V a) b < 0
        · rw [if_pos h3, decide_eq_true h3]; rfl
        · rw [if_neg h3, decide_eq_false h3, slices_Contains_eq (by omega) (by omega), Option.bind_some, Bool.false_or]
          split
          · rfl
          · rw [if_pos (by omega)]
theorem spec_MoveOne_eq {k : Nat} {V : List Int} (hV : V.length ≤ 1048576) (hk : 2 * V.length + 20 ≤ k) (w h o a b : Int) : spec_MoveOne.f k w h o V a b = some (mvR w h o V a b) := by
  obtain ⟨k, rfl⟩ : ∃ j, k = j + 1 := ⟨k - 1, by omega⟩
  unfold spec_MoveOne.f mvR
  rw [spec_l28_eq (by omega), Option.bind_some, spec_CrowdOk_eq (by omega) (by omega), Option.bind_some]
  simp only [spec_MoveOne.j0]
  cases K : crok w h o V with
  | false => rw [if_neg Bool.false_ne_true, if_pos trivial]; rfl
  | true =>
    rw [if_pos rfl, Bool.true_and, spec_l01In_eq, Option.bind_some, w64 (by omega) (by omega)]
    by_cases h1 : 0 ≤ a ∧ a < (V.length : Int)
    · rw [decide_eq_true (by omega : 0 ≤ a ∧ a ≤ (V.length : Int) - 1), decide_eq_true h1, Bool.not_true, if_neg Bool.false_ne_true, if_pos (by omega), if_pos (by omega), if_pos rfl, spec_Step_eq (by omega), Option.bind_some]
      by_cases h3 : st w h o (rd V a) b < 0
      · rw [if_pos h3, decide_eq_true h3]; rfl
      · rw [if_neg h3, decide_eq_false h3, spec_l07In_eq (by omega) (by omega), Option.bind_some, Bool.false_or]
        split
        · rfl
        · rw [if_pos (by omega)]
    · rw [decide_eq_false (by omega : ¬ (0 ≤ a ∧ a ≤ (V.length : Int) - 1)), decide_eq_false h1, Bool.not_false, if_pos rfl]; rfl
def wlkR (w h o : Int) (G : List Int) (m e : Int) (V : List Int) (d a b : Int) : T9 :=
  if gdok w h o G m e V d = true then (w, h, o, G, m, e, (mvR w h (onow o G m) V a b).1, d, (mvR w h (onow o G m) V a b).2) else (w, h, o, G, m, e, V, d, false)
theorem impl_WalkIn_eq {k : Nat} {G V : List Int} (hG : G.length ≤ 1048576) (hV : V.length ≤ 1048576) (hk : V.length + 50 ≤ k) (w h o m e d a b : Int) : impl_WalkIn.f k w h o G m e V d a b = some (wlkR w h o G m e V d a b) := by
  unfold impl_WalkIn.f wlkR
  rw [impl_copyGarden_eq (by omega) (by omega), Option.bind_some, impl_GardenOk_eq (by omega), Option.bind_some]
  cases K : gdok w h o G m e V d with
  | false => rfl
  | true =>
    rw [if_pos rfl, if_pos rfl, impl_OpenNow_eq (by omega), Option.bind_some, gdok_onw K]
    simp only
    rw [impl_MoveOne_eq hV (by omega), Option.bind_some]
    cases q : (mvR w h (onow o G m) V a b).2 with
    | true => rfl
    | false => rw [mvR_false q]; rfl
theorem spec_WalkIn_eq {k : Nat} {G V : List Int} (hG : G.length ≤ 1048576) (hV : V.length ≤ 1048576) (hk : G.length + 2 * V.length + 1000 ≤ k) (w h o m e d a b : Int) : spec_WalkIn.f k w h o G m e V d a b = some (wlkR w h o G m e V d a b) := by
  unfold spec_WalkIn.f wlkR
  rw [spec_l38_eq (by omega) (by omega), Option.bind_some, spec_GardenOk_eq hG hV (by omega), Option.bind_some]
  cases K : gdok w h o G m e V d with
  | false => rfl
  | true =>
    rw [if_pos rfl, if_pos rfl, spec_OpenNow_eq (by omega) (by omega), Option.bind_some, gdok_onw K]
    simp only
    rw [spec_MoveOne_eq hV (by omega), Option.bind_some]
theorem mvR_ok {w h o a b : Int} {V : List Int} (K : crok w h o V = true) : crok w h o (mvR w h o V a b).1 = true ∧ (mvR w h o V a b).1.length = V.length := by
  unfold mvR
  split
  · split
    · exact ⟨K, rfl⟩
    · rename_i q q2
      obtain ⟨c1, c2, c3, c4⟩ := crok_iff.1 K
      simp only [Bool.or_eq_true, decide_eq_true_eq, not_or] at q2
      simp only [Bool.and_eq_true, decide_eq_true_eq] at q
      have hs : 0 ≤ st w h o (rd V a) b := by omega
      have hn : icell w h (st w h o (rd V a) b) = true := (st_facts hs).2.2.1
      have hc : st w h o (rd V a) b ∉ V := fun hm => q2.2 (List.contains_iff_mem.2 hm)
      refine ⟨crok_iff.2 ⟨c1, by simpa using c2, ?_, ?_⟩, by simp⟩
      · intro c hm
        rcases List.mem_or_eq_of_mem_set hm with a | a
        · exact c3 c a
        · rw [a]; exact hn
      · rw [List.nodup_iff_pairwise_ne, List.pairwise_iff_getElem] at c4 ⊢
        intro i j hi hj hij e
        simp only [List.length_set] at hi hj
        rw [List.getElem_set, List.getElem_set] at e
        split at e
        · split at e
          · omega
          · exact hc (by rw [e]; exact List.getElem_mem _)
        · split at e
          · exact hc (by rw [← e]; exact List.getElem_mem _)
          · exact c4 i j hi hj hij e
  · exact ⟨K, rfl⟩
theorem wlk_ok {w h o m e d a b : Int} {G V : List Int} (K : gdok w h o G m e V d = true) : gdok w h o G m e (mvR w h (onow o G m) V a b).1 d = true := by
  obtain ⟨_, h2⟩ := crok_iff.1 (mvR_ok (a := a) (b := b) (gdok_crok K)).1
  exact gdok_with K h2
theorem index_spec {l : List Int} {c : Int} : ∀ (d i k : Nat), l.length ≤ 1000000000 → i + d = l.length → d + 1 ≤ k → slices_Index_int.l0 k l c (l.length : Int) (i : Int) = some (if (l.drop i).contains c then ((i + (l.drop i).idxOf c : Nat) : Int) else -1)
  | 0, i, k, hl, hi, hk => by
    obtain ⟨k, rfl⟩ : ∃ j, k = j + 1 := ⟨k - 1, by omega⟩
    simp only [slices_Index_int.l0]
    rw [if_neg (by omega), List.drop_of_length_le (by omega)]; simp
  | d + 1, i, k, hl, hi, hk => by
    obtain ⟨k, rfl⟩ : ∃ j, k = j + 1 := ⟨k - 1, by omega⟩
    have hil : i < l.length := by omega
    have ih := index_spec (l := l) (c := c) d (i + 1) k hl (by omega) (by omega)
    rw [Int.natCast_add] at ih
    simp only [slices_Index_int.l0]
    rw [if_pos (by omega), if_pos (by omega), if_pos (by omega), w64_succ hil (by omega), rd_nat, List.getD_eq_getElem?_getD, List.getElem?_eq_getElem hil, Option.getD_some, List.drop_eq_getElem_cons hil]
    by_cases e : c = l[i]
    · rw [if_pos e, ← e]; simp
    · rw [if_neg e]
      refine ih.trans ?_
      have hne : ¬ l[i] = c := fun q => e q.symm
      rw [List.contains_cons, show (c == l[i]) = false by simpa using e, Bool.false_or]
      split
      · rw [List.idxOf_cons, show (l[i] == c) = false by simpa using hne, cond_false]
        congr 1; push_cast; omega
      · rfl
theorem slices_Index_eq {l : List Int} {k : Nat} (hl : l.length ≤ 1000000000) (hk : l.length + 1 ≤ k) (c : Int) : slices_Index_int.f k l c = some (if l.contains c then (l.idxOf c : Int) else -1) := by
  have := index_spec (l := l) (c := c) l.length 0 k hl (by omega) hk
  rw [List.drop_zero, Nat.zero_add, show ((0 : Nat) : Int) = 0 from rfl] at this
  exact this
def lvR (w h o : Int) (G : List Int) (m e : Int) (V : List Int) (d : Int) : T9 :=
  if (gdok w h o G m e V d && V.contains e) = true then (w, h, o, G, m, e, V.filter (· != e), d, true) else (w, h, o, G, m, e, V, d, false)
theorem impl_Leave_eq {k : Nat} {G V : List Int} (hG : G.length ≤ 1048576) (hV : V.length ≤ 1048576) (hk : V.length + 50 ≤ k) (w h o m e d : Int) : impl_Leave.f k w h o G m e V d = some (lvR w h o G m e V d) := by
  unfold impl_Leave.f lvR
  rw [impl_copyGarden_eq (by omega) (by omega), Option.bind_some, slices_Index_eq (by omega) (by omega), Option.bind_some, impl_GardenOk_eq (by omega), Option.bind_some]
  cases K : gdok w h o G m e V d with
  | false => rfl
  | true =>
    rw [if_pos rfl, Bool.true_and]
    cases c : V.contains e with
    | false => rw [if_neg Bool.false_ne_true, if_pos (by decide), if_neg Bool.false_ne_true]
    | true =>
      have hm := List.contains_iff_mem.1 c
      have hlt := List.idxOf_lt_length_of_mem hm
      rw [if_pos rfl, if_neg (by omega), if_pos rfl]
      unfold slices_Delete_int.f
      simp only
      rw [w64 (by omega) (by omega), if_pos (by omega), if_pos (by omega), if_pos (by omega), Option.bind_some, Int.toNat_natCast, show ((V.idxOf e : Int) + 1).toNat = V.idxOf e + 1 by omega]
      have hnd := (crok_iff.1 (gdok_crok K)).2.2.2
      have : V.take (V.idxOf e) ++ V.drop (V.idxOf e + 1) = V.filter (· != e) := by
        rw [← List.Nodup.erase_eq_filter hnd, List.erase_eq_eraseIdx_of_idxOf rfl, List.eraseIdx_eq_take_drop_succ]
      rw [this]
theorem spec_lv_l0 {w h o m e d w' h' o' m' e' d' : Int} {G V G' : List Int} (hl : V.length ≤ 1048576) : ∀ (r i k : Nat) (acc : List Int), i + r = V.length → r + 1 ≤ k → acc.length ≤ i → spec_Leave.l0 k (i : Int) w h o G m e V d w' h' o' G' m' e' acc d' = some (w', h', o', G', m', e', acc ++ (V.drop i).filter (· != e), d', true)
  | 0, i, k, acc, hi, hk, ha => by
    obtain ⟨k, rfl⟩ : ∃ j, k = j + 1 := ⟨k - 1, by omega⟩
    simp only [spec_Leave.l0]
    rw [if_neg (by omega), List.drop_of_length_le (by omega)]; simp
  | r + 1, i, k, acc, hi, hk, ha => by
    obtain ⟨k, rfl⟩ : ∃ j, k = j + 1 := ⟨k - 1, by omega⟩
    have hil : i < V.length := by omega
    simp only [spec_Leave.l0]
    rw [if_pos (by omega), if_pos (by omega), w64_succ hil (by omega), rd_nat, List.getD_eq_getElem?_getD, List.getElem?_eq_getElem hil, Option.getD_some, List.drop_eq_getElem_cons hil]
    by_cases q : V[i] = e
    · have ih := spec_lv_l0 (w := w) (h := h) (o := o) (m := m) (e := e) (d := d) (w' := w') (h' := h') (o' := o') (m' := m') (e' := e') (d' := d') (G := G) (G' := G') hl r (i + 1) k acc (by omega) (by omega) (by omega)
      rw [Int.natCast_add] at ih
      rw [if_pos q]
      refine ih.trans ?_
      rw [List.filter_cons_of_neg (by simpa using q)]
    · have ih := spec_lv_l0 (w := w) (h := h) (o := o) (m := m) (e := e) (d := d) (w' := w') (h' := h') (o' := o') (m' := m') (e' := e') (d' := d') (G := G) (G' := G') hl r (i + 1) k (acc ++ [V[i]]) (by omega) (by omega) (by simp; omega)
      rw [Int.natCast_add] at ih
      rw [if_neg q, if_pos (by omega)]
      refine ih.trans ?_
      rw [List.filter_cons_of_pos (by simpa using q)]; simp
theorem spec_Leave_eq {k : Nat} {G V : List Int} (hG : G.length ≤ 1048576) (hV : V.length ≤ 1048576) (hk : G.length + 2 * V.length + 1000 ≤ k) (w h o m e d : Int) : spec_Leave.f k w h o G m e V d = some (lvR w h o G m e V d) := by
  obtain ⟨k, rfl⟩ : ∃ j, k = j + 1 := ⟨k - 1, by omega⟩
  unfold spec_Leave.f lvR
  rw [spec_l38_eq (by omega) (by omega), Option.bind_some, spec_GardenOk_eq hG hV (by omega), Option.bind_some]
  simp only [spec_Leave.j0]
  cases K : gdok w h o G m e V d with
  | false => rw [if_neg Bool.false_ne_true, if_pos trivial]; rfl
  | true =>
    rw [if_pos rfl, spec_l07In_eq (by omega) (by omega), Option.bind_some, Bool.true_and]
    cases c : V.contains e with
    | false => rfl
    | true =>
      rw [Bool.not_true, if_neg Bool.false_ne_true, if_pos rfl]
      have := spec_lv_l0 (w := w) (h := h) (o := o) (m := m) (e := e) (d := d) (w' := w) (h' := h) (o' := o) (m' := m) (e' := e) (d' := d) (G := G) (G' := G) hV V.length 0 k [] (by omega) (by omega) (by simp)
      exact this
theorem lv_ok {w h o m e d : Int} {G V : List Int} (K : gdok w h o G m e V d = true) : gdok w h o G m e (V.filter (· != e)) d = true := by
  obtain ⟨_, c2, c3, c4⟩ := crok_iff.1 (gdok_crok K)
  exact gdok_with K ⟨Nat.le_trans (List.length_filter_le _ _) c2, fun c hc => c3 c ((List.mem_filter.1 hc).1), c4.filter _⟩
def gdR (w h o : Int) (G : List Int) (m e : Int) (V : List Int) (d a : Int) : T9 :=
  if (gdok w h o G m e V d && decide (0 ≤ a ∧ a < (V.length : Int))) = true then (if ((wayOf w h (onow o G m) (rd V a) e).1.length : Int) = 0 then (w, h, o, G, m, e, V, d, false) else wlkR w h o G m e V d a (rd (wayOf w h (onow o G m) (rd V a) e).1 0)) else (w, h, o, G, m, e, V, d, false)
theorem impl_Guide_eq {k : Nat} {G V : List Int} (hG : G.length ≤ 1048576) (hV : V.length ≤ 1048576) (hk : V.length + 400 ≤ k) (w h o m e d a : Int) : impl_Guide.f k w h o G m e V d a = some (gdR w h o G m e V d a) := by
  obtain ⟨k, rfl⟩ : ∃ j, k = j + 1 := ⟨k - 1, by omega⟩
  unfold impl_Guide.f gdR
  rw [impl_GardenOk_eq (by omega), Option.bind_some]
  simp only [impl_Guide.j0]
  rw [impl_copyGarden_eq (by omega) (by omega), Option.bind_some]
  cases K : gdok w h o G m e V d with
  | false => rw [if_neg Bool.false_ne_true, if_pos trivial]; rfl
  | true =>
    rw [if_pos rfl, Bool.true_and]
    by_cases h1 : a < 0
    · rw [if_pos h1, if_pos trivial, decide_eq_false (by omega)]; rfl
    · rw [if_neg h1]
      by_cases h2 : a ≥ (V.length : Int)
      · rw [decide_eq_true h2, if_pos rfl, decide_eq_false (by omega)]; rfl
      · rw [decide_eq_false h2, if_neg Bool.false_ne_true, decide_eq_true (by omega : 0 ≤ a ∧ a < (V.length : Int)), if_pos rfl, impl_OpenNow_eq (by omega), Option.bind_some, if_pos (by omega), if_pos (by omega), gdok_onw K]
        simp only
        rw [impl_WayBetween_eq (by omega), Option.bind_some]
        by_cases h3 : ((wayOf w h (onow o G m) (rd V a) e).1.length : Int) = 0
        · rw [if_pos h3, if_pos h3]
        · rw [if_neg h3, if_neg h3, if_pos (by omega), impl_WalkIn_eq hG hV (by omega), Option.bind_some]
end Go.Proofs.YtkindoepnganmaaGreat.F
end

section
namespace Go.Proofs.YtkindoepnganmaaGreat.F
open Go.RowKit Go.Proofs.YtkindoepnganmaaGreatW.PrintWords Go.Proofs.YtkindoepnganmaaGreatW.PrintLast Go.Proofs.YtkindoepnganmaaGreatW.PrintMore
set_option linter.unusedVariables false
set_option linter.unusedSimpArgs false
theorem and_mask (x : Int) (m : Nat) (hm : m < 2 ^ 63) : 0 ≤ Go.bits .and .i64 x (m : Int) ∧ Go.bits .and .i64 x (m : Int) ≤ m := by
  have hm' : m % 2 ^ 64 = m := Nat.mod_eq_of_lt (by omega)
  have e : Go.bits .and .i64 x (m : Int) = IntKind.i64.wrap (((BitVec.ofInt 64 x &&& BitVec.ofInt 64 (m : Int)).toNat : Nat) : Int) := rfl
  have h : (BitVec.ofInt 64 x &&& BitVec.ofInt 64 (m : Int)).toNat ≤ m := by
    rw [BitVec.ofInt_natCast, BitVec.toNat_and, BitVec.toNat_ofNat, hm']
    exact Nat.and_le_right
  rw [e, wrapi_nat (by omega)]
  omega
theorem byte_draw {l : List Int} {i h : Int} (hi : 0 ≤ i) (hl : l.length ≤ 1048576) : ∃ b i' h', spec_l01Byte.f l i h = some (b, i', h') ∧ 0 ≤ b ∧ b ≤ 255 ∧ 0 ≤ i' := by
  unfold spec_l01Byte.f
  by_cases c : i < (l.length : Int)
  · rw [if_pos c, if_pos hi]
    exact ⟨_, _, _, rfl, (and_mask _ 255 (by decide)).1, (and_mask _ 255 (by decide)).2, by rw [w64 (by omega) (by omega)]; omega⟩
  · rw [if_neg c]
    exact ⟨_, _, _, rfl, (and_mask _ 255 (by decide)).1, (and_mask _ 255 (by decide)).2, hi⟩
theorem below_draw {l : List Int} {i h n : Int} (hi : 0 ≤ i) (hl : l.length ≤ 1048576) (hn : 1 ≤ n) (hn2 : n ≤ 256) : ∃ b i' h', spec_l01Below.f l i h n = some (b, i', h') ∧ 0 ≤ b ∧ b < n ∧ 0 ≤ i' := by
  obtain ⟨b, i', h', e, h0, h1, h2⟩ := byte_draw (h := h) hi hl
  unfold spec_l01Below.f
  rw [if_neg (by omega), if_pos hn2, e, Option.bind_some, if_neg (by omega)]
  exact ⟨_, _, _, rfl, Int.tmod_nonneg _ h0, Int.tmod_lt_of_pos _ (by omega), h2⟩
theorem new_draw {k : Nat} {l : List Int} (hl : l.length ≤ 1048576) (hk : l.length + 1 ≤ k) : ∃ h, spec_l01New.f k l = some (l, 0, h) := by
  unfold spec_l01New.f
  obtain ⟨s, _, e⟩ := inv_loop (n := min l.length 4000) (c := 0) (F := fun k (s : Int) i => spec_l01New.l0 k l s i) (fin := fun s => (l, (0 : Int), s)) (I := fun _ _ => True)
    (fun k s i _ hi _ => ⟨_, trivial, by
      simp only [spec_l01New.l0]
      rw [if_pos (by omega), if_pos (by omega), if_pos (by omega), w64_succ hi (by omega)]⟩)
    (fun k s _ _ => by
      simp only [spec_l01New.l0]
      by_cases c : ((min l.length 4000 : Nat) : Int) < (l.length : Int)
      · rw [if_pos c, if_neg (by omega)]
      · rw [if_neg c]) (min l.length 4000) 0 k _ (by omega) (by omega) trivial
  exact ⟨s, e⟩
theorem at_draw {l : List Int} {a : Int} (h0 : 0 ≤ a) (h1 : a ≤ 1000) (hl : l.length ≤ 1048576) (hb : ∀ y ∈ l, 0 ≤ y ∧ y ≤ 255) : ∃ b, laws_at.f l a = some b ∧ 0 ≤ b ∧ b ≤ 255 := by
  unfold laws_at.f
  by_cases c : (l.length : Int) = 0
  · rw [if_pos c]; exact ⟨0, rfl, by decide, by decide⟩
  · rw [if_neg c, w64 (x := a * 5) (by omega) (by omega), w64 (x := a * 5 + 1) (by omega) (by omega)]
    have p0 := Int.tmod_nonneg (a := a * 5 + 1) (l.length : Int) (by omega)
    have p1 := Int.tmod_lt_of_pos (a * 5 + 1) (b := (l.length : Int)) (by omega)
    rw [if_pos p0, if_pos p1]
    obtain ⟨j, hj⟩ : ∃ j : Nat, (j : Int) = Int.tmod (a * 5 + 1) (l.length : Int) := ⟨_, Int.toNat_of_nonneg p0⟩
    rw [← hj]
    have hm : rd l (j : Int) ∈ l := by
      rw [rd_nat, List.getD_eq_getElem?_getD, List.getElem?_eq_getElem (by omega)]
      exact List.getElem_mem _
    obtain ⟨q0, q1⟩ := hb _ hm
    exact ⟨_, rfl, by rw [w64 (by omega) (by omega)]; exact q0, by rw [w64 (by omega) (by omega)]; exact q1⟩
end Go.Proofs.YtkindoepnganmaaGreat.F
end

section
namespace Go.Proofs.YtkindoepnganmaaGreat.F
open Go.RowKit Go.Proofs.YtkindoepnganmaaGreatW.PrintWords Go.Proofs.YtkindoepnganmaaGreatW.PrintLast Go.Proofs.YtkindoepnganmaaGreatW.PrintMore
set_option linter.unusedVariables false
set_option linter.unusedSimpArgs false
def four : List Int := [1, 2, 3, 4]
theorem mem_four {w h : Int} (G : gok w h = true) : w ∈ four ∧ h ∈ four := by
  have := gok_iff.1 G
  constructor <;> simp [four] <;> omega
end Go.Proofs.YtkindoepnganmaaGreat.F
end

section
namespace Go.Proofs.YtkindoepnganmaaGreat.F
open Go.RowKit Go.Proofs.YtkindoepnganmaaGreatW.PrintWords Go.Proofs.YtkindoepnganmaaGreatW.PrintLast Go.Proofs.YtkindoepnganmaaGreatW.PrintMore
set_option linter.unusedVariables false
set_option linter.unusedSimpArgs false
theorem pick_draw {l L : List Int} {i s : Int} (hi : 0 ≤ i) (hl : l.length ≤ 1048576) (h0 : 0 < L.length) (h1 : L.length ≤ 256) : ∃ v i' s', spec_l01PickInt.f l i s L = some (v, i', s') ∧ v ∈ L ∧ 0 ≤ i' := by
  obtain ⟨b, i1, h1, e, b0, b1, j⟩ := below_draw (h := s) hi hl (n := (L.length : Int)) (by omega) (by omega)
  unfold spec_l01PickInt.f
  rw [e, Option.bind_some, if_pos b0, if_pos b1]
  exact ⟨_, _, _, rfl, rd_memI b0 b1, j⟩
theorem grid_draw {l : List Int} {i s : Int} (hi : 0 ≤ i) (hl : l.length ≤ 1048576) : ∃ w h i' s', spec_l02Grid.f l i s = some (w, h, i', s') ∧ gok w h = true ∧ 0 ≤ i' := by
  obtain ⟨w, i1, s1, e1, m1, j1⟩ := pick_draw (L := [1, 2, 3, 3, 4]) (s := s) hi hl (by decide) (by decide)
  obtain ⟨h, i2, s2, e2, m2, j2⟩ := pick_draw (L := [1, 2, 3, 3, 4]) (s := s1) j1 hl (by decide) (by decide)
  unfold spec_l02Grid.f
  rw [e1]
  simp only [Option.bind_some]
  rw [e2]
  simp only [Option.bind_some]
  refine ⟨_, _, _, _, rfl, gok_iff.2 ?_, j2⟩
  simp only [List.mem_cons, List.not_mem_nil, or_false] at m1 m2
  omega
theorem spec_SetGap_in {k : Nat} (hk : 1 ≤ k) {w h o g : Int} (M : mok w h o = true) (hg : igap w h g = true) (b : Bool) : spec_SetGap.f k w h o g b = some (w, h, setb o g b, true) := by
  obtain ⟨m, rfl⟩ : ∃ m, k = m + 1 := ⟨k - 1, by omega⟩
  have ms := mok_small M
  have gs := gaps_small hg
  unfold spec_SetGap.f
  rw [spec_MazeOk_eq, Option.bind_some, if_pos M, spec_CountGaps_eq, Option.bind_some, spec_l01In_eq, Option.bind_some, in_gaps, hg]
  simp only [spec_SetGap.j0]
  rw [if_neg (by decide), spec_l03Bit_eq ms.1 (by omega) gs.1, Option.bind_some, xor_shl_eq ms.1 (by omega) gs.1 (by omega)]
  by_cases c : opn o g = b
  · rw [if_neg (by simp [c])]
    have : setb o g b = o := by
      refine eq_of_opn ?_ ms.1 fun i hi => ?_
      · unfold setb; split <;> exact Int.natCast_nonneg _
      · rw [opn_setb b gs.1 hi]
        split
        · rename_i e; rw [e, c]
        · rfl
    rw [this]
  · rw [if_pos (by simpa using c), if_pos gs.1]
    have hb : b = !opn o g := by cases b <;> cases e : opn o g <;> simp_all
    rw [hb, setb_flip ms.1 gs.1]
end Go.Proofs.YtkindoepnganmaaGreat.F
end

section
namespace Go.Proofs.YtkindoepnganmaaGreat.F
open Go.RowKit Go.Proofs.YtkindoepnganmaaGreatW.PrintWords Go.Proofs.YtkindoepnganmaaGreatW.PrintLast Go.Proofs.YtkindoepnganmaaGreatW.PrintMore
set_option linter.unusedVariables false
set_option linter.unusedSimpArgs false
theorem way_len {w h o g : Int} (M : mok w h o = true) (hg : icell w h g = true) {i : Int} (hi : icell w h i = true) : ((wayOf w h o i g).1.length : Int) = max 0 (dst w h o g i) := by
  unfold wayOf
  by_cases c : 0 ≤ dst w h o g i
  · rw [if_pos ⟨M, hi, hg, c⟩]
    simp only [wayM_length]
    omega
  · rw [if_neg (fun q => c q.2.2.2)]
    simp
    omega
theorem way_head {w h o g : Int} (M : mok w h o = true) (hg : icell w h g = true) {i : Int} (hi : icell w h i = true) (hd : 1 ≤ dst w h o g i) : rd (wayOf w h o i g).1 0 = fdir w h o g i := by
  unfold wayOf
  rw [if_pos ⟨M, hi, hg, by omega⟩]
  obtain ⟨n, hn⟩ : ∃ n : Nat, (dst w h o g i).toNat = n + 1 := ⟨(dst w h o g i).toNat - 1, by omega⟩
  simp only [hn, wayM]
  rfl
theorem fdir_st {w h o g c : Int} (hg : icell w h g = true) (hc : icell w h c = true) (hd : 1 ≤ dst w h o g c) : 0 ≤ st w h o c (fdir w h o g c) ∧ dst w h o g (st w h o c (fdir w h o g c)) = dst w h o g c - 1 := by
  obtain ⟨_, a, b⟩ := fdir_some (o := o) (n := (dst w h o g c - 1).toNat) hg hc (by omega)
  exact ⟨a, by omega⟩
theorem laws_has_eq {l : List Int} {k : Nat} (hl : l.length ≤ 1000000000) (hk : l.length + 1 ≤ k) (c : Int) : laws_has.f k l c = some (l.contains c) := by
  unfold laws_has.f
  have key : ∀ (d i k : Nat), i + d = l.length → d + 1 ≤ k → laws_has.l0 k l c (i : Int) = some ((l.drop i).contains c) := by
    intro d
    induction d with
    | zero =>
      intro i k hi hk
      obtain ⟨m, rfl⟩ : ∃ m, k = m + 1 := ⟨k - 1, by omega⟩
      simp only [laws_has.l0]
      rw [if_neg (by omega), List.drop_of_length_le (by omega)]
      rfl
    | succ d ih =>
      intro i k hi hk
      obtain ⟨m, rfl⟩ : ∃ m, k = m + 1 := ⟨k - 1, by omega⟩
      have hil : i < l.length := by omega
      have e : rd l (i : Int) = l[i] := by rw [rd_nat, List.getD_eq_getElem?_getD, List.getElem?_eq_getElem hil]; rfl
      simp only [laws_has.l0]
      rw [if_pos (by omega), if_pos (by omega), e, w64_succ hil (by omega), List.drop_eq_getElem_cons hil, List.contains_cons]
      by_cases q : l[i] = c
      · rw [if_pos q]
        simp [q]
      · rw [if_neg q]
        have := ih (i + 1) m (by omega) (by omega)
        rw [Int.natCast_add] at this
        refine this.trans ?_
        have : (c == l[i]) = false := beq_eq_false_iff_ne.2 (fun e => q e.symm)
        rw [this, Bool.false_or]
  have := key l.length 0 k (by omega) (by omega)
  simpa using this
theorem maze12_l0 {w h n : Int} {l : List Int} (hl : l.length ≤ 1048576) (hn : n = gaps w h) : ∀ (t k : Nat) (o i s : Int), 2 * t + 3 ≤ k → t ≤ 100 → mok w h o = true → 0 ≤ i → ∃ o' i' s', spec_l12Maze.l0 k n (t : Int) l i s w h o = some (w, h, o', i', s') ∧ mok w h o' = true ∧ 0 ≤ i'
  | 0, k, o, i, s, hk, _, M, hi => by
    obtain ⟨m, rfl⟩ : ∃ m, k = m + 2 := ⟨k - 2, by omega⟩
    refine ⟨o, i, s, ?_, M, hi⟩
    simp only [spec_l12Maze.l0, spec_l12Maze.j1]
    rw [if_neg (by omega), if_neg (by decide)]
  | t + 1, k, o, i, s, hk, ht, M, hi => by
    obtain ⟨m, rfl⟩ : ∃ m, k = m + 2 := ⟨k - 2, by omega⟩
    have gb := gaps_bd w h
    simp only [spec_l12Maze.l0, spec_l12Maze.j1]
    rw [if_pos (by omega)]
    by_cases c : n > 0
    · obtain ⟨b, i1, s1, e1, b0, b1, j1⟩ := below_draw (h := s) hi hl (n := n) (by omega) (by omega)
      have ig : igap w h b = true := igap_iff.2 (by omega)
      rw [if_pos (decide_eq_true c), e1, Option.bind_some]
      simp only
      rw [spec_SetGap_in (by omega) M ig, Option.bind_some]
      simp only
      obtain ⟨o', i', s', e, M', j'⟩ := maze12_l0 hl hn t m (setb o b false) i1 s1 (by omega) (by omega) (mok_setb false M ig) j1
      refine ⟨o', i', s', ?_, M', j'⟩
      rw [← e]
      congr 1
      rw [w64 (by omega) (by omega)]; omega
    · refine ⟨o, i, s, ?_, M, hi⟩
      rw [if_neg (by simpa using c)]
theorem maze12_draw {k : Nat} {l : List Int} {i s : Int} (hi : 0 ≤ i) (hl : l.length ≤ 1048576) (hk : 100 ≤ k) : ∃ w h o i' s', spec_l12Maze.f k l i s = some (w, h, o, i', s') ∧ mok w h o = true ∧ 0 ≤ i' := by
  obtain ⟨w, h, i1, s1, e1, G, j1⟩ := grid_draw (s := s) hi hl
  have gb := gaps_bd w h
  have gp := gpow w h
  obtain ⟨b, i2, s2, e2, b0, b1, j2⟩ := below_draw (h := s1) j1 hl (n := 5) (by decide) (by decide)
  have M : mok w h (2 ^ (gaps w h).toNat - 1) = true := mok_iff.2 ⟨G, by omega, by omega⟩
  obtain ⟨o', i', s', e, M', j'⟩ := maze12_l0 (w := w) (h := h) hl rfl b.toNat k _ i2 s2 (by omega) (by omega) M j2
  refine ⟨w, h, o', i', s', ?_, M', j'⟩
  unfold spec_l12Maze.f
  rw [e1, Option.bind_some]
  simp only
  have ef : spec_FullMaze.f w h = some (w, h, 2 ^ (gaps w h).toNat - 1) := by
    unfold spec_FullMaze.f
    rw [spec_GridOk_eq, Option.bind_some, if_pos G, spec_CountGaps_eq, Option.bind_some, if_pos gb.1, shl_gaps, w64 (by omega) (by omega)]
  rw [ef, Option.bind_some]
  simp only
  rw [spec_CountGaps_eq, Option.bind_some, e2, Option.bind_some]
  simp only
  rw [show b = ((b.toNat : Nat) : Int) by omega]
  exact e
end Go.Proofs.YtkindoepnganmaaGreat.F
end

section
namespace Go.Proofs.YtkindoepnganmaaGreat.F
open Go.RowKit Go.Proofs.YtkindoepnganmaaGreatW.PrintWords Go.Proofs.YtkindoepnganmaaGreatW.PrintLast Go.Proofs.YtkindoepnganmaaGreatW.PrintMore
set_option linter.unusedVariables false
set_option linter.unusedSimpArgs false
theorem full_all : ∀ w ∈ ([1, 2, 3, 4] : List Int), ∀ h ∈ ([1, 2, 3, 4] : List Int), conn w h (2 ^ (gaps w h).toNat - 1) = true := by decide +kernel
theorem full_conn {w h : Int} (G : gok w h = true) : conn w h (2 ^ (gaps w h).toNat - 1) = true := full_all w (mem_four G).1 h (mem_four G).2
theorem once_dr {l : List Int} {i s n : Int} (hi : 0 ≤ i) (hl : l.length ≤ 1048576) (hn : 1 ≤ n) (hn2 : n ≤ 256) : ∃ b i' s', spec_l01Once.f l i s n = some (b, i', s') ∧ 0 ≤ i' := by
  obtain ⟨b, i', s', e, _, _, h'⟩ := below_draw (h := s) hi hl hn hn2
  unfold spec_l01Once.f
  rw [e, Option.bind_some]
  exact ⟨_, _, _, rfl, h'⟩
theorem dayR_keep {w h o m e d b : Int} {G V : List Int} (K : gdok w h o G m e V d = true) : ∃ G' d' b', dayR w h o G m e V d b = (w, h, o, G', m, e, V, d', b') ∧ gdok w h o G' m e V d' = true ∧ d' ≤ d + 1 := by
  unfold dayR
  by_cases q : dayOk w h o G m e V d b = true
  · rw [if_pos q]
    unfold dayOk at q
    simp only [Bool.and_eq_true, decide_eq_true_eq, Bool.not_eq_true', beq_eq_false_iff_ne] at q
    exact ⟨_, _, _, rfl, (dayR_ok K q.1.2 q.2).2, by omega⟩
  · rw [if_neg q]; exact ⟨_, _, _, rfl, K, by omega⟩
theorem entR_keep {w h o m e d : Int} {G V : List Int} (K : gdok w h o G m e V d = true) : ∃ V' b', entR w h o G m e V d = (w, h, o, G, m, e, V', d, b') ∧ gdok w h o G m e V' d = true := by
  unfold entR
  by_cases q : (gdok w h o G m e V d && gdok w h o G m e (V ++ [e]) d) = true
  · rw [if_pos q]; exact ⟨_, _, rfl, (Bool.and_eq_true _ _ ▸ q).2⟩
  · rw [if_neg q]; exact ⟨_, _, rfl, K⟩
theorem lvR_keep {w h o m e d : Int} {G V : List Int} (K : gdok w h o G m e V d = true) : ∃ V' b', lvR w h o G m e V d = (w, h, o, G, m, e, V', d, b') ∧ gdok w h o G m e V' d = true := by
  unfold lvR
  split
  · exact ⟨_, _, rfl, lv_ok K⟩
  · exact ⟨_, _, rfl, K⟩
theorem wlkR_keep {w h o m e d a b : Int} {G V : List Int} (K : gdok w h o G m e V d = true) : ∃ V' b', wlkR w h o G m e V d a b = (w, h, o, G, m, e, V', d, b') ∧ gdok w h o G m e V' d = true := by
  unfold wlkR
  rw [if_pos K]; exact ⟨_, _, rfl, wlk_ok K⟩
theorem garden_l0 {w h o m e n : Int} {l : List Int} (hl : l.length ≤ 1048576) (hn : n ≤ 15) : ∀ (r i k : Nat) (p s : Int) (G V : List Int) (d : Int), (i : Int) + r = n → r + 3000 ≤ k → 0 ≤ p → d ≤ i → gdok w h o G m e V d = true →
    ∃ G' V' d' p' s', spec_l38Garden.l0 k n (i : Int) l p s w h o G m e V d = some (w, h, o, G', m, e, V', d', p', s') ∧ gdok w h o G' m e V' d' = true ∧ d' ≤ n ∧ 0 ≤ p'
  | 0, i, k, p, s, G, V, d, hi, hk, hp, hd, K => by
    obtain ⟨k, rfl⟩ : ∃ j, k = j + 1 := ⟨k - 1, by omega⟩
    refine ⟨G, V, d, p, s, ?_, K, by omega, hp⟩
    simp only [spec_l38Garden.l0]
    rw [if_neg (by omega)]
  | r + 1, i, k, p, s, G, V, d, hi, hk, hp, hd, K => by
    obtain ⟨k, rfl⟩ : ∃ j, k = j + 1 := ⟨k - 1, by omega⟩
    have hg := gdok_len K
    have hw : wrap64 ((i : Int) + 1) = ((i + 1 : Nat) : Int) := by rw [w64 (by omega) (by omega)]; omega
    obtain ⟨c, p1, s1, e1, c0, c1, hp1⟩ := below_draw (h := s) hp hl (n := 5) (by decide) (by decide)
    simp only [spec_l38Garden.l0]
    rw [if_pos (by omega), e1, Option.bind_some, hw]
    simp only
    by_cases h0 : c = 0
    · rw [if_pos h0]
      obtain ⟨b, p2, s2, e2, b0, b1, hp2⟩ := below_draw (h := s1) hp1 hl (n := 8) (by decide) (by decide)
      rw [e2, Option.bind_some]
      simp only
      rw [spec_NextDay_eq (by omega) (by omega) (by omega), Option.bind_some]
      obtain ⟨G', d', b', e3, K', hd'⟩ := dayR_keep (b := wrap64 (1 + b)) K
      rw [e3]
      exact garden_l0 hl hn r (i + 1) k p2 s2 G' V d' (by omega) (by omega) hp2 (by omega) K'
    · rw [if_neg h0]
      by_cases h1 : c = 1
      · rw [if_pos h1, spec_Enter_eq (by omega) (by omega) (by omega), Option.bind_some]
        obtain ⟨V', b', e3, K'⟩ := entR_keep K
        rw [e3]
        exact garden_l0 hl hn r (i + 1) k p1 s1 G V' d (by omega) (by omega) hp1 (by omega) K'
      · rw [if_neg h1]
        by_cases h2 : c = 2
        · rw [if_pos h2]
          obtain ⟨b, p2, s2, e2, hp2⟩ := once_dr (n := 4) (s := s1) hp1 hl (by decide) (by decide)
          rw [e2, Option.bind_some]
          simp only
          cases b with
          | true =>
            rw [if_pos rfl, spec_Leave_eq (by omega) (by omega) (by omega), Option.bind_some]
            obtain ⟨V', b', e3, K'⟩ := lvR_keep K
            rw [e3]
            exact garden_l0 hl hn r (i + 1) k p2 s2 G V' d (by omega) (by omega) hp2 (by omega) K'
          | false =>
            rw [if_neg Bool.false_ne_true]
            exact garden_l0 hl hn r (i + 1) k p2 s2 G V d (by omega) (by omega) hp2 (by omega) K
        · rw [if_neg h2]
          obtain ⟨a, p2, s2, e2, a0, a1, hp2⟩ := below_draw (h := s1) hp1 hl (n := 4) (by decide) (by decide)
          obtain ⟨b, p3, s3, e3, b0, b1, hp3⟩ := below_draw (h := s2) hp2 hl (n := 4) (by decide) (by decide)
          rw [e2, Option.bind_some]
          simp only
          rw [e3, Option.bind_some]
          simp only
          rw [spec_WalkIn_eq (by omega) (by omega) (by omega), Option.bind_some]
          obtain ⟨V', b', e4, K'⟩ := wlkR_keep (a := a) (b := b) K
          rw [e4]
          exact garden_l0 hl hn r (i + 1) k p3 s3 G V' d (by omega) (by omega) hp3 (by omega) K'
theorem onow_zero {w h o m : Int} (h0 : 0 ≤ o) (hm : 1 ≤ m) : onow o (zG w h) m = o := by
  refine onow_foldl h0 _ fun i hi q => ?_
  have hi := List.mem_range'_1.1 hi
  have : rd (zG w h) (i : Int) = 0 := by
    rw [rd_nat, List.getD_eq_getElem?_getD]
    unfold zG at hi ⊢
    rw [List.length_replicate] at hi
    rw [List.getElem?_replicate, if_pos (by omega)]; rfl
  omega
theorem newG_ok {w h o e m : Int} (C : conn w h o = true) (he : icell w h e = true) (h1 : 1 ≤ m) (h2 : m ≤ 20) : newG w h o e m = (w, h, o, zG w h, m, e, [], 0, true) ∧ gdok w h o (zG w h) m e [] 0 = true := by
  have M := conn_mok C
  have gb := gaps_bd w h
  have K : gdok w h o (zG w h) m e [] 0 = true := by
    refine gdok_iff.2 ⟨hok_iff.2 ⟨M, ⟨h1, h2⟩, ?_, ?_⟩, he, crok_iff.2 ⟨M, by simp, by simp, by simp⟩, by omega, ?_⟩
    · unfold zG; rw [List.length_replicate]; omega
    · intro x hx; unfold zG at hx; rw [(List.mem_replicate.1 hx).2]; omega
    · rw [onow_zero (mok_small M).1 h1]; exact C
  refine ⟨?_, K⟩
  unfold newG; rw [if_pos K]
theorem garden_draw {k : Nat} {l : List Int} {i s : Int} (hi : 0 ≤ i) (hl : l.length ≤ 1048576) (hk : 5000 ≤ k) : ∃ w h o G m e V d i' s', spec_l38Garden.f k l i s = some (w, h, o, G, m, e, V, d, i', s') ∧ gdok w h o G m e V d = true ∧ d ≤ 15 ∧ 0 ≤ i' := by
  obtain ⟨w, h, o0, i1, s1, e1, M0, hi1⟩ := maze12_draw (k := k) (s := s) hi hl (by omega)
  have gp := gpow w h
  have G0 := (mok_iff.1 M0).1
  obtain ⟨k, rfl⟩ : ∃ j, k = j + 1 := ⟨k - 1, by omega⟩
  have rest : ∀ o, conn w h o = true → ∃ G m e V d i' s', spec_l38Garden.j0 (k + 1) l i1 s1 w h o = some (w, h, o, G, m, e, V, d, i', s') ∧ gdok w h o G m e V d = true ∧ d ≤ 15 ∧ 0 ≤ i' := fun o C => by
    have cb := cells_bd w h
    have cp := cells_pos G0
    obtain ⟨e, i2, s2, e2, a0, a1, hi2⟩ := below_draw (h := s1) hi1 hl (n := cells w h) (by omega) (by omega)
    obtain ⟨m, i3, s3, e3, m0, m1, hi3⟩ := below_draw (h := s2) hi2 hl (n := 20) (by decide) (by decide)
    obtain ⟨n, i4, s4, e4, n0, n1, hi4⟩ := below_draw (h := s3) hi3 hl (n := 16) (by decide) (by decide)
    obtain ⟨en, K⟩ := newG_ok C (icell_iff.2 ⟨a0, a1⟩) (m := 1 + m) (by omega) (by omega)
    obtain ⟨G', V', d', i5, s5, e5, K', hd, hi5⟩ := garden_l0 (n := n) hl (by omega) n.toNat 0 k i4 s4 (zG w h) [] 0 (by omega) (by omega) hi4 (by omega) K
    refine ⟨G', 1 + m, e, V', d', i5, s5, ?_, K', by omega, hi5⟩
    simp only [spec_l38Garden.j0]
    rw [spec_CountCells_eq, Option.bind_some, e2, Option.bind_some]
    simp only
    rw [e3, Option.bind_some]
    simp only
    rw [w64 (by omega) (by omega), spec_NewGarden_eq (by omega), Option.bind_some, en]
    simp only
    rw [e4, Option.bind_some]
    exact e5
  unfold spec_l38Garden.f
  rw [e1, Option.bind_some]
  simp only
  rw [spec_IsConnected_eq (by omega), Option.bind_some]
  cases C : conn w h o0 with
  | true =>
    rw [if_pos rfl]
    obtain ⟨G, m, e, V, d, i', s', r1, r2⟩ := rest o0 C
    exact ⟨w, h, o0, G, m, e, V, d, i', s', r1, r2⟩
  | false =>
    have C' : conn w h (2 ^ (gaps w h).toNat - 1) = true := full_conn G0
    rw [if_neg Bool.false_ne_true, spec_FullMaze_eq, Option.bind_some]
    unfold fullO
    rw [if_pos G0]
    obtain ⟨G, m, e, V, d, i', s', r1, r2⟩ := rest _ C'
    exact ⟨w, h, _, G, m, e, V, d, i', s', r1, r2⟩
theorem DrawGarden_draw {k : Nat} {l : List Int} (hl : l.length ≤ 1048576) (hk : l.length + 6000 ≤ k) : ∃ w h o G m e V d, spec_DrawGarden.f k l = some (w, h, o, G, m, e, V, d) ∧ gdok w h o G m e V d = true ∧ d ≤ 15 := by
  unfold spec_DrawGarden.f
  obtain ⟨s, e1⟩ := new_draw (k := k) hl (by omega)
  obtain ⟨w, h, o, G, m, e, V, d, i', s', e2, K, hd, _⟩ := garden_draw (k := k) (i := 0) (s := s) (by decide) hl (by omega)
  rw [e1, Option.bind_some]
  simp only
  rw [e2, Option.bind_some]
  exact ⟨w, h, o, G, m, e, V, d, rfl, K, hd⟩
end Go.Proofs.YtkindoepnganmaaGreat.F
end

section
namespace Go.Proofs.YtkindoepnganmaaGreat.F
open Go.RowKit Go.Proofs.YtkindoepnganmaaGreatW.PrintWords Go.Proofs.YtkindoepnganmaaGreatW.PrintLast Go.Proofs.YtkindoepnganmaaGreatW.PrintMore
set_option linter.unusedVariables false
set_option linter.unusedSimpArgs false
theorem rd_inV {V : List Int} {a : Nat} (ha : a < V.length) : rd V (a : Int) = V[a] := by rw [rd_nat, List.getD_eq_getElem?_getD, List.getElem?_eq_getElem ha]; rfl
theorem gd_cell {w h o m e d : Int} {G V : List Int} (K : gdok w h o G m e V d = true) {c : Int} (hc : c ∈ V) : icell w h c = true := (crok_iff.1 (gdok_crok K)).2.2.1 c hc
theorem gd_dst {w h o m e d : Int} {G V : List Int} (K : gdok w h o G m e V d = true) {c : Int} (hc : c ∈ V) : 0 ≤ dst w h (onow o G m) e c ∧ dst w h (onow o G m) e c < 16 := by
  obtain ⟨h1, he, hv, hd, C⟩ := gdok_iff.1 K
  have := gd_cell K hc
  exact ⟨(dst_lnk he this).2 (conn_lnk C he this), dst_lt he⟩
def nxt1 (w h O e c : Int) : Int := st w h O c (fdir w h O e c)
theorem gdR_spec {w h o m e d : Int} {G V : List Int} (K : gdok w h o G m e V d = true) {a : Nat} (ha : a < V.length) : gdR w h o G m e V d (a : Int) =
    if 1 ≤ dst w h (onow o G m) e V[a] ∧ nxt1 w h (onow o G m) e V[a] ∉ V then (w, h, o, G, m, e, V.set a (nxt1 w h (onow o G m) e V[a]), d, true) else (w, h, o, G, m, e, V, d, false) := by
  obtain ⟨h1, he, hv, hd, C⟩ := gdok_iff.1 K
  have M := conn_mok C
  have hm : V[a] ∈ V := List.getElem_mem _
  have hc := gd_cell K hm
  have hdd := gd_dst K hm
  unfold gdR
  rw [K, Bool.true_and, if_pos (decide_eq_true (by omega)), rd_inV ha, way_len M he hc]
  by_cases h0 : dst w h (onow o G m) e V[a] = 0
  · rw [if_pos (by omega), if_neg (by omega)]
  · have h1' : 1 ≤ dst w h (onow o G m) e V[a] := by omega
    rw [if_neg (by omega), way_head M he hc h1']
    obtain ⟨s0, s1⟩ := fdir_st he hc h1'
    unfold wlkR
    rw [if_pos K]
    unfold mvR
    rw [gdok_crok K, Bool.true_and, if_pos (decide_eq_true (by omega)), rd_inV ha, decide_eq_false (by omega), Bool.false_or]
    unfold nxt1
    by_cases hs : st w h (onow o G m) V[a] (fdir w h (onow o G m) e V[a]) ∈ V
    · rw [if_pos (List.contains_iff_mem.2 hs), if_neg (fun q => q.2 hs)]
    · rw [if_neg (fun q => hs (List.contains_iff_mem.1 q)), if_pos ⟨h1', hs⟩, Int.toNat_natCast]
theorem nxt1_dst {w h o m e d : Int} {G V : List Int} (K : gdok w h o G m e V d = true) {c : Int} (hc : c ∈ V) (h1 : 1 ≤ dst w h (onow o G m) e c) : icell w h (nxt1 w h (onow o G m) e c) = true ∧ dst w h (onow o G m) e (nxt1 w h (onow o G m) e c) = dst w h (onow o G m) e c - 1 := by
  obtain ⟨_, he, _, _, C⟩ := gdok_iff.1 K
  obtain ⟨s0, s1⟩ := fdir_st he (gd_cell K hc) h1
  exact ⟨(st_facts s0).2.2.1, s1⟩
theorem dd_dst {w h o m e d : Int} {G V : List Int} (K : gdok w h o G m e V d = true) {c : Int} (hc : icell w h c = true) : dd w h (onow o G m) c e = dst w h (onow o G m) e c := by
  obtain ⟨_, he, _, _, C⟩ := gdok_iff.1 K
  rw [dd_in (conn_mok C) hc he, dst_sym hc he]
theorem sameInts_refl {l : List Int} {k : Nat} (hl : l.length ≤ 1000000000) (hk : l.length + 1 ≤ k) : laws_sameInts.f k l l = some true := by
  unfold laws_sameInts.f
  rw [if_pos rfl]
  have := all_loop (c := 0) (0 : Int) (F := fun k i => laws_sameInts.l0 k l l i) (l := l) (p := fun _ => true) (b := true)
    (fun k i _ hi => by
      simp only [laws_sameInts.l0]
      rw [if_pos (by omega), if_pos (by omega), if_pos (by omega), if_pos trivial, w64_succ hi (by omega), if_pos trivial])
    (fun k _ => by simp only [laws_sameInts.l0]; rw [if_neg (by omega)]) hk
  rw [this]; simp
end Go.Proofs.YtkindoepnganmaaGreat.F
end

section
namespace Go.Proofs.YtkindoepnganmaaGreat.F
open Go.RowKit Go.Proofs.YtkindoepnganmaaGreatW.PrintWords Go.Proofs.YtkindoepnganmaaGreatW.PrintLast Go.Proofs.YtkindoepnganmaaGreatW.PrintMore
set_option linter.unusedVariables false
set_option linter.unusedSimpArgs false
theorem gardens_l0 {w h o m e d : Int} {G V : List Int} (K : gdok w h o G m e V d = true) : ∀ (r i k : Nat), i + r = V.length → r + 1000 ≤ k → laws_FnGardens.l0 k (i : Int) w h o G m e V d = some true
  | 0, i, k, hi, hk => by
    obtain ⟨k, rfl⟩ : ∃ j, k = j + 1 := ⟨k - 1, by omega⟩
    simp only [laws_FnGardens.l0]
    rw [if_neg (by omega)]
  | r + 1, i, k, hi, hk => by
    obtain ⟨k, rfl⟩ : ∃ j, k = j + 1 := ⟨k - 1, by omega⟩
    have hil : i < V.length := by omega
    have hl := gdok_len K
    have ih := gardens_l0 K r (i + 1) k (by omega) (by omega)
    rw [Int.natCast_add] at ih
    have e1 := gdR_spec K hil
    have hm : V[i] ∈ V := List.getElem_mem _
    have hdd := gd_dst K hm
    simp only [laws_FnGardens.l0]
    rw [if_pos (by omega), impl_Guide_eq (by omega) (by omega) (by omega), Option.bind_some, w64_succ hil (by omega)]
    by_cases q : 1 ≤ dst w h (onow o G m) e V[i] ∧ nxt1 w h (onow o G m) e V[i] ∉ V
    · rw [if_pos q] at e1
      obtain ⟨ni, nd⟩ := nxt1_dst K hm q.1
      have hi2 : i < (V.set i (nxt1 w h (onow o G m) e V[i])).length := by rw [List.length_set]; omega
      rw [e1]
      simp only
      rw [if_pos trivial, if_pos (by rw [List.length_set]), impl_OpenNow_eq (by omega), Option.bind_some, gdok_onw K, if_pos (by omega), if_pos (by omega)]
      simp only
      rw [rd_inV hi2, List.getElem_set_self, impl_DistanceOf_dd (by omega), Option.bind_some, dd_dst K ni, Option.bind_some]
      simp only
      rw [impl_DistanceOf_dd (by omega), Option.bind_some, rd_inV hil, dd_dst K (gd_cell K hm), nd, w64 (by omega) (by omega), if_pos rfl]
      exact ih
    · rw [if_neg q] at e1
      rw [e1]
      simp only
      rw [if_neg Bool.false_ne_true]
      exact ih
theorem FnGardens_pure : ∀ (l0 : List (Int)), ((l0).length ≤ 9223372036854775807 ∧ ∀ y ∈ l0, 0 ≤ y ∧ y ≤ 255) → ∃ k, laws_FnGardens.f k l0 = some true := by
  intro l hl
  refine ⟨l.length + 9000 + 3, ?_⟩
  unfold laws_FnGardens.f laws_big.f
  rw [Option.bind_some]
  by_cases hb : (l.length : Int) > 1048576
  · rw [if_pos (decide_eq_true hb)]
  · rw [if_neg (by simpa using hb)]
    obtain ⟨w, h, o, G, m, e, V, d, e1, K, hd⟩ := DrawGarden_draw (k := l.length + 9000 + 3) (l := l) (by omega) (by omega)
    obtain ⟨b, e2, b0, b1⟩ := at_draw (l := l) (a := 0) (by decide) (by decide) (by omega) hl.2
    have hg := gdok_len K
    have p0 := Int.tmod_nonneg (a := b) 20 b0
    have p1 := Int.tmod_lt_of_pos b (b := 20) (by decide)
    have hd0 := (gdok_iff.1 K).2.2.2.1
    obtain ⟨e3, K3⟩ := dayR_ok (b := 1 + Int.tmod b 20) K (by omega) (by omega)
    have C3 := (gdok_iff.1 K3).2.2.2.2
    rw [e1, Option.bind_some, e2, Option.bind_some]
    simp only
    rw [w64 (x := 1 + Int.tmod b 20) (by omega) (by omega), impl_NextDay_eq (by omega) (by omega) (by omega), Option.bind_some, e3]
    simp only
    rw [if_pos trivial, impl_GardenOk_eq (by omega), Option.bind_some, K3, if_pos rfl, w64 (by omega) (by omega), if_pos rfl, impl_OpenNow_eq (by omega), Option.bind_some, gdok_onw K3]
    simp only
    rw [impl_IsConnected_eq (by omega), Option.bind_some, C3, if_pos rfl, sameInts_refl (by omega) (by omega), Option.bind_some]
    have fin : ∀ j, l.length + 9000 ≤ j → laws_FnGardens.j2 j w h o G m e V d = some true := fun j hj => by
      obtain ⟨j, rfl⟩ : ∃ i, j = i + 1 := ⟨j - 1, by omega⟩
      simp only [laws_FnGardens.j2]
      exact gardens_l0 K V.length 0 j (by omega) (by omega)
    have e4 := entR_spec K
    simp only [laws_FnGardens.j0, laws_FnGardens.j1]
    rw [Bool.not_true, if_neg Bool.false_ne_true, impl_Enter_eq (by omega) (by omega) (by omega), Option.bind_some, laws_has_eq (by omega) (by omega), Option.bind_some]
    cases hc : V.contains e with
    | true =>
      rw [if_neg (by rw [hc]; simp)] at e4
      rw [if_pos rfl, e4]
      simp only
      rw [if_neg (by simp), if_neg Bool.false_ne_true, if_neg Bool.false_ne_true, if_neg Bool.false_ne_true]
      exact fin _ (by omega)
    | false =>
      rw [if_neg Bool.false_ne_true]
      by_cases h6 : V.length < 6
      · rw [if_pos ⟨hc, h6⟩] at e4
        rw [e4]
        simp only
        have K4 : gdok w h o G m e (V ++ [e]) d = true := by
          obtain ⟨V', b', q1, q2⟩ := entR_keep K
          rw [e4] at q1
          simp only [Prod.mk.injEq] at q1
          rw [q1.2.2.2.2.2.2.1]; exact q2
        have hf : (V ++ [e]).filter (· != e) = V := by
          rw [List.filter_append]
          have h1 : V.filter (· != e) = V := by
            rw [List.filter_eq_self]
            intro x hx
            have : x ≠ e := by
              rintro rfl
              rw [List.contains_iff_mem.2 hx] at hc
              cases hc
            simpa using this
          rw [h1]; simp
        have h7 : ((V.length : Int) < 6) := by omega
        rw [decide_eq_true h7, if_neg (by simp), if_pos trivial, impl_GardenOk_eq (by omega), Option.bind_some, K4, Bool.not_true, if_neg Bool.false_ne_true, if_pos trivial, impl_Leave_eq (by omega) (by simp; omega) (by simp; omega), Option.bind_some]
        unfold lvR
        rw [K4, show (V ++ [e]).contains e = true by simp, Bool.and_self, if_pos rfl, hf]
        simp only
        rw [if_pos trivial, sameInts_refl (by omega) (by omega), Option.bind_some, if_pos rfl]
        exact fin _ (by omega)
      · rw [if_neg (fun q => h6 q.2)] at e4
        rw [e4]
        simp only
        have h7 : ¬ ((V.length : Int) < 6) := by omega
        rw [decide_eq_false h7, if_neg (by simp), if_neg Bool.false_ne_true, if_neg Bool.false_ne_true, if_neg Bool.false_ne_true]
        exact fin _ (by omega)
end Go.Proofs.YtkindoepnganmaaGreat.F
end
