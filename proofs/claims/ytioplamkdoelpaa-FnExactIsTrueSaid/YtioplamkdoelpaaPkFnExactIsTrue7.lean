/- Packed by a program of the session (wip/tools/pack.py): what the claim's theorem reaches, of the texts that wip/ and the kit's printer lay. -/
import Derived.Test.YtioplamkdoelpaaPkFnExactIsTrue6
section
namespace Go.Proofs.Ytioplamkdoelpaa.F
open Go.RowKit Go.Proofs.YtioplamkdoelpaaW.PrintWords Go.Proofs.YtioplamkdoelpaaW.PrintLast Go.Proofs.YtioplamkdoelpaaW.PrintMore
set_option linter.unusedVariables false
set_option linter.unusedSimpArgs false
def gok (w h : Int) : Bool := decide (1 ≤ w ∧ w ≤ 4 ∧ 1 ≤ h ∧ h ≤ 4)
theorem gok_iff {w h : Int} : gok w h = true ↔ 1 ≤ w ∧ w ≤ 4 ∧ 1 ≤ h ∧ h ≤ 4 := by simp [gok]
theorem gok_wide {w h : Int} (H : gok w h = true) : w = 1 ∨ w = 2 ∨ w = 3 ∨ w = 4 := by rw [gok_iff] at H; omega
theorem gok_high {w h : Int} (H : gok w h = true) : h = 1 ∨ h = 2 ∨ h = 3 ∨ h = 4 := by rw [gok_iff] at H; omega
def cells (w h : Int) : Int := if gok w h then w * h else 0
def gaps (w h : Int) : Int := if gok w h then (w - 1) * h + w * (h - 1) else 0
theorem cells_bd (w h : Int) : 0 ≤ cells w h ∧ cells w h ≤ 16 := by
  unfold cells
  by_cases H : gok w h = true
  · rw [if_pos H]
    rcases gok_wide H with rfl | rfl | rfl | rfl <;> rcases gok_high H with rfl | rfl | rfl | rfl <;> omega
  · rw [if_neg H]; omega
theorem gaps_bd (w h : Int) : 0 ≤ gaps w h ∧ gaps w h ≤ 24 := by
  unfold gaps
  by_cases H : gok w h = true
  · rw [if_pos H]
    rcases gok_wide H with rfl | rfl | rfl | rfl <;> rcases gok_high H with rfl | rfl | rfl | rfl <;> omega
  · rw [if_neg H]; omega
theorem impl_GridOk_eq (w h : Int) : impl_GridOk.f w h = some (gok w h) := by
  unfold impl_GridOk.f gok
  by_cases h1 : w ≥ 1 <;> by_cases h2 : w ≤ 4 <;> by_cases h3 : h ≥ 1 <;> simp [*] <;> omega
theorem spec_l01In_eq (x a b : Int) : spec_l01In.f x a b = some (decide (a ≤ x ∧ x ≤ b)) := by
  unfold spec_l01In.f
  by_cases h1 : x ≥ a
  · simp [h1]
  · rw [if_neg h1]; simp; omega
theorem spec_GridOk_eq (w h : Int) : spec_GridOk.f w h = some (gok w h) := by
  unfold spec_GridOk.f
  simp only [spec_l01In_eq, Option.bind_some]
  unfold gok
  by_cases h1 : 1 ≤ w ∧ w ≤ 4
  · simp [h1]
  · rw [if_neg (by simpa using h1)]; simp; omega
theorem gok_mul {w h : Int} (H : gok w h = true) : 1 ≤ w * h ∧ w * h ≤ 16 ∧ 0 ≤ (w - 1) * h ∧ (w - 1) * h ≤ 12 ∧ 0 ≤ w * (h - 1) ∧ w * (h - 1) ≤ 12 := by
  rcases gok_wide H with rfl | rfl | rfl | rfl <;> rcases gok_high H with rfl | rfl | rfl | rfl <;> omega
theorem impl_CountCells_eq (w h : Int) : impl_CountCells.f w h = some (cells w h) := by
  unfold impl_CountCells.f cells
  rw [impl_GridOk_eq, Option.bind_some]
  by_cases H : gok w h = true
  · have := gok_mul H
    rw [if_pos H, if_pos H, w64 (by omega) (by omega)]
  · rw [if_neg H, if_neg H]
theorem spec_CountCells_eq (w h : Int) : spec_CountCells.f w h = some (cells w h) := by
  unfold spec_CountCells.f cells
  rw [spec_GridOk_eq, Option.bind_some]
  by_cases H : gok w h = true
  · have := gok_mul H
    rw [if_pos H, if_pos H, w64 (by omega) (by omega)]
  · rw [if_neg H, if_neg H]
theorem impl_CountGaps_eq (w h : Int) : impl_CountGaps.f w h = some (gaps w h) := by
  unfold impl_CountGaps.f gaps
  rw [impl_GridOk_eq, Option.bind_some]
  by_cases H : gok w h = true
  · have := gok_mul H
    have b := gok_iff.1 H
    rw [if_pos H, if_pos H, w64 (x := w - 1) (by omega) (by omega), w64 (x := h - 1) (by omega) (by omega), w64 (x := (w - 1) * h) (by omega) (by omega), w64 (x := w * (h - 1)) (by omega) (by omega), w64 (by omega) (by omega)]
  · rw [if_neg H, if_neg H]
theorem spec_CountGaps_eq (w h : Int) : spec_CountGaps.f w h = some (gaps w h) := by
  unfold spec_CountGaps.f spec_l02East.f gaps
  rw [spec_GridOk_eq, Option.bind_some]
  by_cases H : gok w h = true
  · have := gok_mul H
    have b := gok_iff.1 H
    rw [if_pos H, if_pos H, Option.bind_some, w64 (x := w - 1) (by omega) (by omega), w64 (x := h - 1) (by omega) (by omega), Int.mul_comm h (w - 1), w64 (x := (w - 1) * h) (by omega) (by omega), w64 (x := w * (h - 1)) (by omega) (by omega), w64 (by omega) (by omega)]
  · rw [if_neg H, if_neg H]
def icell (w h c : Int) : Bool := decide (0 ≤ c ∧ c < cells w h)
def igap (w h g : Int) : Bool := decide (0 ≤ g ∧ g < gaps w h)
theorem icell_iff {w h c : Int} : icell w h c = true ↔ 0 ≤ c ∧ c < cells w h := by simp [icell]
theorem igap_iff {w h c : Int} : igap w h c = true ↔ 0 ≤ c ∧ c < gaps w h := by simp [igap]
theorem impl_isCell_eq (w h c : Int) : impl_isCell.f w h c = some (icell w h c) := by
  unfold impl_isCell.f icell
  rw [impl_CountCells_eq]
  by_cases h1 : c ≥ 0
  · rw [if_pos h1]; simp [h1]
  · rw [if_neg h1]; simp; omega
theorem in_cells (w h c : Int) : decide (0 ≤ c ∧ c ≤ wrap64 (cells w h - 1)) = icell w h c := by
  have := cells_bd w h
  rw [w64 (by omega) (by omega)]
  unfold icell
  rw [Bool.eq_iff_iff]; simp; omega
theorem in_gaps (w h c : Int) : decide (0 ≤ c ∧ c ≤ wrap64 (gaps w h - 1)) = igap w h c := by
  have := gaps_bd w h
  rw [w64 (by omega) (by omega)]
  unfold igap
  rw [Bool.eq_iff_iff]; simp; omega
theorem icell_gok {w h c : Int} (H : icell w h c = true) : gok w h = true := by
  rw [icell_iff] at H
  unfold cells at H
  by_cases G : gok w h = true
  · exact G
  · rw [if_neg G] at H; omega
theorem icell_mul {w h c : Int} (H : icell w h c = true) : 0 ≤ c ∧ c < w * h := by
  have G := icell_gok H
  rw [icell_iff] at H
  unfold cells at H
  rwa [if_pos G] at H
def nb (w h c d : Int) : Int :=
  if icell w h c then
    (if d = 0 then (if c / w > 0 then c - w else -1) else if d = 1 then (if c % w < w - 1 then c + 1 else -1) else if d = 2 then (if c / w < h - 1 then c + w else -1) else if d = 3 then (if c % w > 0 then c - 1 else -1) else -1)
  else -1
theorem div_facts {w h c : Int} (G : gok w h = true) (H : 0 ≤ c ∧ c < w * h) : Int.tdiv c w = c / w ∧ Int.tmod c w = c % w ∧ wrap64 (c / w) = c / w ∧ 0 ≤ c / w ∧ c / w < h ∧ 0 ≤ c % w ∧ c % w < w ∧ w * (c / w) + c % w = c := by
  have b := gok_iff.1 G
  have e1 : Int.tdiv c w = c / w := Int.tdiv_eq_ediv_of_nonneg H.1
  have e2 : Int.tmod c w = c % w := Int.tmod_eq_emod_of_nonneg H.1
  have e3 : 0 ≤ c / w := Int.ediv_nonneg H.1 (by omega)
  have e4 : c / w < h := by
    apply Int.ediv_lt_of_lt_mul (by omega)
    rw [Int.mul_comm]; exact H.2
  exact ⟨e1, e2, w64 (by omega) (by omega), e3, e4, Int.emod_nonneg _ (by omega), Int.emod_lt_of_pos _ (by omega), Int.mul_ediv_add_emod c w⟩
theorem impl_Neighbor_eq {k : Nat} (hk : 3 ≤ k) (w h c d : Int) : impl_Neighbor.f k w h c d = some (nb w h c d) := by
  obtain ⟨m, rfl⟩ : ∃ m, k = m + 3 := ⟨k - 3, by omega⟩
  unfold impl_Neighbor.f nb
  rw [impl_isCell_eq, Option.bind_some]
  by_cases H : icell w h c = true
  · have G := icell_gok H
    have b := gok_iff.1 G
    have hc := icell_mul H
    have hm := gok_mul G
    obtain ⟨e1, e2, e3, y0, y1, x0, x1, hq⟩ := div_facts G hc
    rw [if_pos H, if_pos H, if_neg (by omega), e1, e2, e3]
    simp only [impl_Neighbor.j0, impl_Neighbor.j1, impl_Neighbor.j2]
    rw [w64 (x := w - 1) (by omega) (by omega), w64 (x := h - 1) (by omega) (by omega)]
    by_cases d0 : d = 0
    · subst d0
      by_cases t : c / w > 0 <;> simp [t, w64 (x := c - w) (by omega) (by omega)]
    by_cases d1 : d = 1
    · subst d1
      by_cases t : c % w < w - 1 <;> simp [t, w64 (x := c + 1) (by omega) (by omega)]
    by_cases d2 : d = 2
    · subst d2
      by_cases t : c / w < h - 1 <;> simp [t, w64 (x := c + w) (by omega) (by omega)]
    by_cases d3 : d = 3
    · subst d3
      by_cases t : c % w > 0 <;> simp [t, w64 (x := c - 1) (by omega) (by omega)]
    simp [d0, d1, d2, d3]
  · rw [if_neg H, if_neg H]
theorem spec_j0_eq {w h : Int} (G : gok w h = true) (m : Nat) {x y : Int} : spec_Neighbor.j0 (m + 1) x y w h = some (if 0 ≤ x ∧ x ≤ w - 1 ∧ 0 ≤ y ∧ y ≤ h - 1 then y * w + x else -1) := by
  have b := gok_iff.1 G
  simp only [spec_Neighbor.j0, spec_l01In_eq, Option.bind_some, decide_eq_true_eq]
  rw [w64 (x := w - 1) (by omega) (by omega), w64 (x := h - 1) (by omega) (by omega)]
  by_cases h1 : 0 ≤ x ∧ x ≤ w - 1
  · rw [if_pos h1]
    by_cases h2 : 0 ≤ y ∧ y ≤ h - 1
    · have l1 : y * w ≤ 3 * 4 := Int.mul_le_mul (by omega) (by omega) (by omega) (by omega)
      have l0 : 0 ≤ y * w := Int.mul_nonneg (by omega) (by omega)
      rw [if_pos h2, if_pos ⟨h1.1, h1.2, h2.1, h2.2⟩, w64 (x := y * w) (by omega) (by omega), w64 (by omega) (by omega)]
    · rw [if_neg h2, if_neg (fun h => h2 ⟨h.2.2.1, h.2.2.2⟩)]
  · rw [if_neg h1, if_neg (fun h => h1 ⟨h.1, h.2.1⟩)]
theorem spec_Neighbor_eq {k : Nat} (hk : 1 ≤ k) (w h c d : Int) : spec_Neighbor.f k w h c d = some (nb w h c d) := by
  obtain ⟨m, rfl⟩ : ∃ m, k = m + 1 := ⟨k - 1, by omega⟩
  unfold spec_Neighbor.f nb
  rw [spec_CountCells_eq, Option.bind_some, spec_l01In_eq, Option.bind_some, in_cells]
  by_cases H : icell w h c = true
  · have G := icell_gok H
    have b := gok_iff.1 G
    have hc := icell_mul H
    have hm := gok_mul G
    obtain ⟨e1, e2, e3, y0, y1, x0, x1, hq⟩ := div_facts G hc
    rw [if_pos H, if_pos H, if_neg (by omega), e1, e2, e3, w64 (x := c / w - 1) (by omega) (by omega), w64 (x := c / w + 1) (by omega) (by omega), w64 (x := c % w - 1) (by omega) (by omega), w64 (x := c % w + 1) (by omega) (by omega)]
    simp only [spec_j0_eq G]
    have p1 : (c / w - 1) * w = w * (c / w) - w := by rw [Int.sub_mul, Int.one_mul, Int.mul_comm]
    have p2 : (c / w + 1) * w = w * (c / w) + w := by rw [Int.add_mul, Int.one_mul, Int.mul_comm]
    have p3 : (c / w) * w = w * (c / w) := Int.mul_comm _ _
    rw [p1, p2, p3]
    by_cases d0 : d = 0
    · rw [if_pos d0, if_pos d0]
      by_cases t : c / w > 0
      · rw [if_pos (by omega), if_pos t]; congr 1; omega
      · rw [if_neg (by omega), if_neg t]
    rw [if_neg d0, if_neg d0]
    by_cases d1 : d = 1
    · rw [if_pos d1, if_pos d1]
      by_cases t : c % w < w - 1
      · rw [if_pos (by omega), if_pos t]; congr 1; omega
      · rw [if_neg (by omega), if_neg t]
    rw [if_neg d1, if_neg d1]
    by_cases d2 : d = 2
    · rw [if_pos d2, if_pos d2]
      by_cases t : c / w < h - 1
      · rw [if_pos (by omega), if_pos t]; congr 1; omega
      · rw [if_neg (by omega), if_neg t]
    rw [if_neg d2, if_neg d2]
    by_cases d3 : d = 3
    · rw [if_pos d3, if_pos d3]
      by_cases t : c % w > 0
      · rw [if_pos (by omega), if_pos t]; congr 1; omega
      · rw [if_neg (by omega), if_neg t]
    rw [if_neg d3, if_neg d3]
  · rw [if_neg H, if_neg H]
end Go.Proofs.Ytioplamkdoelpaa.F
end

section
namespace Go.Proofs.Ytioplamkdoelpaa.F
open Go.RowKit Go.Proofs.YtioplamkdoelpaaW.PrintWords Go.Proofs.YtioplamkdoelpaaW.PrintLast Go.Proofs.YtioplamkdoelpaaW.PrintMore
set_option linter.unusedVariables false
set_option linter.unusedSimpArgs false
theorem mn_min (a b : Int) : mn a b = min a b := by unfold mn; omega
theorem nb_facts {w h c d : Int} (H : 0 ≤ nb w h c d) : icell w h c = true ∧ icell w h (nb w h c d) = true ∧ 0 ≤ d ∧ d ≤ 3 := by
  unfold nb at H ⊢
  by_cases hc : icell w h c = true
  · have G := icell_gok hc
    have b := gok_iff.1 G
    have hm := icell_mul hc
    obtain ⟨_, _, _, y0, y1, x0, x1, hq⟩ := div_facts G hm
    rw [if_pos hc] at H ⊢
    have m1 : w * (c / w) ≤ w * (h - 1) := Int.mul_le_mul_of_nonneg_left (by omega) (by omega)
    have m2 : w * (h - 1) = w * h - w := by rw [Int.mul_sub, Int.mul_one]
    have ce : cells w h = w * h := by unfold cells; rw [if_pos G]
    refine ⟨hc, ?_, ?_⟩
    · rw [icell_iff, ce]
      by_cases d0 : d = 0
      · subst d0
        by_cases t : c / w > 0
        · have m3 : w * 1 ≤ w * (c / w) := Int.mul_le_mul_of_nonneg_left (by omega) (by omega)
          simp [t]; omega
        · simp [t] at H
      by_cases d1 : d = 1
      · subst d1
        by_cases t : c % w < w - 1
        · simp [t]; omega
        · simp [t] at H
      by_cases d2 : d = 2
      · subst d2
        by_cases t : c / w < h - 1
        · have m4 : w * (c / w + 1) ≤ w * (h - 1) := Int.mul_le_mul_of_nonneg_left (by omega) (by omega)
          rw [Int.mul_add, Int.mul_one] at m4
          simp [t]; omega
        · simp [t] at H
      by_cases d3 : d = 3
      · subst d3
        by_cases t : c % w > 0
        · simp [t]; omega
        · simp [t] at H
      simp [d0, d1, d2, d3] at H
    · by_cases d0 : d = 0
      · omega
      by_cases d1 : d = 1
      · omega
      by_cases d2 : d = 2
      · omega
      by_cases d3 : d = 3
      · omega
      simp [d0, d1, d2, d3] at H
  · rw [if_neg hc] at H; omega
def gp (w h c d : Int) : Int :=
  if nb w h c d < 0 then -1 else if d = 1 ∨ d = 3 then min c (nb w h c d) / w * (w - 1) + min c (nb w h c d) % w else (w - 1) * h + min c (nb w h c d)
theorem gp_neg {w h c d : Int} (H : nb w h c d < 0) : gp w h c d = -1 := by unfold gp; rw [if_pos H]
theorem min_facts {w h c d : Int} (H : 0 ≤ nb w h c d) : 0 ≤ min c (nb w h c d) ∧ min c (nb w h c d) < w * h ∧ gok w h = true := by
  obtain ⟨h1, h2, _, _⟩ := nb_facts H
  have a := icell_mul h1
  have b := icell_mul h2
  exact ⟨by omega, by omega, icell_gok h1⟩
theorem impl_GapAt_eq {k : Nat} (hk : 3 ≤ k) (w h c d : Int) : impl_GapAt.f k w h c d = some (gp w h c d) := by
  unfold impl_GapAt.f gp
  rw [impl_Neighbor_eq hk, Option.bind_some]
  by_cases H : nb w h c d < 0
  · rw [if_pos H, if_pos H]
  · have H' : 0 ≤ nb w h c d := by omega
    obtain ⟨m0, m1, G⟩ := min_facts H'
    have b := gok_iff.1 G
    have hm := gok_mul G
    rw [if_neg H, if_neg H, mn_min]
    obtain ⟨e1, e2, e3, y0, y1, x0, x1, hq⟩ := div_facts G ⟨m0, m1⟩
    have l1 : min c (nb w h c d) / w * (w - 1) ≤ 3 * 3 := Int.mul_le_mul (by omega) (by omega) (by omega) (by omega)
    have l0 : 0 ≤ min c (nb w h c d) / w * (w - 1) := Int.mul_nonneg y0 (by omega)
    have t1 : wrap64 (wrap64 (wrap64 (Int.tdiv (min c (nb w h c d)) w) * wrap64 (w - 1)) + Int.tmod (min c (nb w h c d)) w) = min c (nb w h c d) / w * (w - 1) + min c (nb w h c d) % w := by
      rw [e1, e2, e3, w64 (x := w - 1) (by omega) (by omega), w64 (x := _ * _) (by omega) (by omega), w64 (by omega) (by omega)]
    have t2 : wrap64 (wrap64 (wrap64 (w - 1) * h) + min c (nb w h c d)) = (w - 1) * h + min c (nb w h c d) := by
      rw [w64 (x := w - 1) (by omega) (by omega), w64 (x := (w - 1) * h) (by omega) (by omega), w64 (by omega) (by omega)]
    rw [t1, t2]
    by_cases d1 : d = 1
    · simp [d1]; omega
    · by_cases d3 : d = 3
      · simp [d3]; omega
      · simp [d1, d3]
theorem spec_GapAt_eq {k : Nat} (hk : 1 ≤ k) (w h c d : Int) : spec_GapAt.f k w h c d = some (gp w h c d) := by
  unfold spec_GapAt.f gp
  rw [spec_Neighbor_eq hk, Option.bind_some]
  by_cases H : nb w h c d < 0
  · rw [if_pos H, if_pos H]
  · have H' : 0 ≤ nb w h c d := by omega
    obtain ⟨m0, m1, G⟩ := min_facts H'
    have b := gok_iff.1 G
    have hm := gok_mul G
    rw [if_neg H, if_neg H, mn_min]
    obtain ⟨e1, e2, e3, y0, y1, x0, x1, hq⟩ := div_facts G ⟨m0, m1⟩
    have l1 : min c (nb w h c d) / w * (w - 1) ≤ 3 * 3 := Int.mul_le_mul (by omega) (by omega) (by omega) (by omega)
    have l0 : 0 ≤ min c (nb w h c d) / w * (w - 1) := Int.mul_nonneg y0 (by omega)
    have t1 : wrap64 (wrap64 (wrap64 (Int.tdiv (min c (nb w h c d)) w) * wrap64 (w - 1)) + Int.tmod (min c (nb w h c d)) w) = min c (nb w h c d) / w * (w - 1) + min c (nb w h c d) % w := by
      rw [e1, e2, e3, w64 (x := w - 1) (by omega) (by omega), w64 (x := _ * _) (by omega) (by omega), w64 (by omega) (by omega)]
    have t2 : wrap64 (wrap64 (h * wrap64 (w - 1)) + min c (nb w h c d)) = (w - 1) * h + min c (nb w h c d) := by
      rw [w64 (x := w - 1) (by omega) (by omega), Int.mul_comm h, w64 (x := (w - 1) * h) (by omega) (by omega), w64 (by omega) (by omega)]
    simp only [spec_l02East.f, Option.bind_some]
    rw [t1, t2]
    by_cases d1 : d = 1
    · simp [d1]; omega
    · by_cases d3 : d = 3
      · simp [d3]; omega
      · simp [d1, d3]
def mok (w h o : Int) : Bool := gok w h && decide (0 ≤ o ∧ o < 2 ^ (gaps w h).toNat)
theorem mok_iff {w h o : Int} : mok w h o = true ↔ gok w h = true ∧ 0 ≤ o ∧ o < 2 ^ (gaps w h).toNat := by simp [mok]
theorem gpow (w h : Int) : (2 : Int) ^ (gaps w h).toNat ≤ 16777216 ∧ (1 : Int) ≤ 2 ^ (gaps w h).toNat := by
  have b := gaps_bd w h
  have p : (2 : Nat) ^ (gaps w h).toNat ≤ 2 ^ 24 := Nat.pow_le_pow_right (by decide) (by omega)
  have q : 0 < (2 : Nat) ^ (gaps w h).toNat := Nat.two_pow_pos _
  have e : ((2 : Int) ^ (gaps w h).toNat) = ((2 ^ (gaps w h).toNat : Nat) : Int) := by simp
  omega
theorem mok_small {w h o : Int} (H : mok w h o = true) : 0 ≤ o ∧ o < 16777216 := by
  have := mok_iff.1 H
  have := gpow w h
  omega
theorem shl_gaps (w h : Int) : shl .i64 1 (gaps w h) = 2 ^ (gaps w h).toNat := by
  have b := gaps_bd w h
  have := shl_one (g := (gaps w h).toNat) (by omega)
  rw [show (((gaps w h).toNat : Nat) : Int) = gaps w h from Int.toNat_of_nonneg b.1] at this
  rw [this]
  simp
theorem impl_MazeOk_eq (w h o : Int) : impl_MazeOk.f w h o = some (mok w h o) := by
  unfold impl_MazeOk.f mok
  have b := gaps_bd w h
  rw [impl_GridOk_eq, impl_CountGaps_eq]
  simp only [Option.bind_some, shl_gaps]
  by_cases G : gok w h = true
  · simp only [G, if_true, Bool.true_and]
    by_cases h0 : o ≥ 0
    · rw [if_pos h0, if_pos b.1]
      simp; omega
    · rw [if_neg h0]; simp; omega
  · simp [G]
theorem spec_MazeOk_eq (w h o : Int) : spec_MazeOk.f w h o = some (mok w h o) := by
  unfold spec_MazeOk.f mok
  have b := gaps_bd w h
  have p := gpow w h
  rw [spec_GridOk_eq, spec_CountGaps_eq]
  simp only [Option.bind_some, shl_gaps, w64 (x := (2 : Int) ^ (gaps w h).toNat - 1) (by omega) (by omega)]
  by_cases G : gok w h = true
  · simp only [Option.bind_some, G, if_true, Bool.true_and, spec_l01In_eq, if_pos b.1]
    congr 2
    exact propext ⟨fun h => ⟨h.1, by omega⟩, fun h => ⟨h.1, by omega⟩⟩
  · simp [G]
theorem impl_isOpen_eq {w h o : Int} (h0 : 0 ≤ o) (h1 : o < 9223372036854775808) (g : Int) : impl_isOpen.f w h o g = some (decide (0 ≤ g) && opn o g) := by
  unfold impl_isOpen.f
  by_cases hg : g ≥ 0
  · rw [if_pos hg, if_pos (by omega), bit_test h0 h1 (by omega)]
    simp; omega
  · rw [if_neg hg]
    simp; omega
theorem spec_l03Bit_eq {o : Int} (h0 : 0 ≤ o) (h1 : o < 9223372036854775808) {g : Int} (hg : 0 ≤ g) : spec_l03Bit.f o g = some (opn o g) := by
  unfold spec_l03Bit.f
  rw [if_pos hg, bit_test h0 h1 hg]
def psg (w h o g : Int) : Bool := mok w h o && igap w h g && opn o g
theorem spec_IsPassage_eq (w h o g : Int) : spec_IsPassage.f w h o g = some (psg w h o g) := by
  unfold spec_IsPassage.f psg
  rw [spec_MazeOk_eq, spec_CountGaps_eq]
  by_cases M : mok w h o = true
  · have s := mok_small M
    simp only [Option.bind_some, M, if_true, Bool.true_and, spec_l01In_eq, in_gaps]
    by_cases g1 : igap w h g = true
    · rw [if_pos g1, spec_l03Bit_eq s.1 (by omega) (igap_iff.1 g1).1]
      simp [g1]
    · rw [if_neg g1]; simp [g1]
  · simp [M]
theorem gp_range {w h c d : Int} (H : 0 ≤ nb w h c d) : igap w h (gp w h c d) = true := by
  obtain ⟨h1, h2, d0, d3⟩ := nb_facts H
  have G := icell_gok h1
  have a := icell_mul h1
  rw [igap_iff]
  unfold gp gaps
  rw [if_neg (by omega), if_pos G]
  have hd : d = 0 ∨ d = 1 ∨ d = 2 ∨ d = 3 := by omega
  revert H
  unfold nb
  rw [if_pos h1]
  rcases gok_wide G with rfl | rfl | rfl | rfl <;> rcases gok_high G with rfl | rfl | rfl | rfl <;> rcases hd with rfl | rfl | rfl | rfl <;> simp <;> split <;> omega
def st (w h o c d : Int) : Int := if psg w h o (gp w h c d) then nb w h c d else -1
theorem st_nb {w h o c d : Int} (H : 0 ≤ st w h o c d) : st w h o c d = nb w h c d ∧ psg w h o (gp w h c d) = true := by
  unfold st at H ⊢
  by_cases p : psg w h o (gp w h c d) = true
  · rw [if_pos p]; exact ⟨rfl, p⟩
  · rw [if_neg p] at H; omega
theorem impl_Step_eq {k : Nat} (hk : 3 ≤ k) (w h o c d : Int) : impl_Step.f k w h o c d = some (st w h o c d) := by
  unfold impl_Step.f st psg
  rw [impl_MazeOk_eq]
  by_cases M : mok w h o = true
  · have s := mok_small M
    simp only [Option.bind_some, M, if_true, Bool.true_and, impl_GapAt_eq hk, impl_isOpen_eq s.1 (show o < 9223372036854775808 by omega), impl_Neighbor_eq hk]
    by_cases H : 0 ≤ nb w h c d
    · have r := gp_range H
      have := (igap_iff.1 r).1
      simp [r, this]
      split <;> rfl
    · rw [gp_neg (by omega)]
      simp [igap]
  · simp [M]
theorem spec_Step_eq {k : Nat} (hk : 1 ≤ k) (w h o c d : Int) : spec_Step.f k w h o c d = some (st w h o c d) := by
  unfold spec_Step.f st
  rw [spec_MazeOk_eq]
  by_cases M : mok w h o = true
  · simp only [Option.bind_some, M, if_true, spec_GapAt_eq hk, spec_IsPassage_eq, spec_Neighbor_eq hk]
    split <;> rfl
  · simp [M, psg]
theorem st_facts {w h o c d : Int} (H : 0 ≤ st w h o c d) : mok w h o = true ∧ icell w h c = true ∧ icell w h (st w h o c d) = true ∧ 0 ≤ d ∧ d ≤ 3 := by
  obtain ⟨e, p⟩ := st_nb H
  rw [e] at H ⊢
  obtain ⟨h1, h2, h3, h4⟩ := nb_facts H
  unfold psg at p
  simp at p
  exact ⟨p.1.1, h1, h2, h3, h4⟩
end Go.Proofs.Ytioplamkdoelpaa.F
end

section
namespace Go.Proofs.Ytioplamkdoelpaa.F
open Go.RowKit Go.Proofs.YtioplamkdoelpaaW.PrintWords Go.Proofs.YtioplamkdoelpaaW.PrintLast Go.Proofs.YtioplamkdoelpaaW.PrintMore
set_option linter.unusedVariables false
set_option linter.unusedSimpArgs false
def spec_l37Gaps.l0 : Nat → List Int → Int → Int → Int → Int → Option (Bool)
  | 0, _, _, _, _, _ => none
  | k + 1, x1, x5, x958000, x958001, x958002 => if x5 < (x1.length : Int) then (if 0 ≤ x5 then ((spec_CountGaps.f x958000 x958001).bind fun t960 => ((spec_l01In.f (rd x1 x5) 0 (wrap64 (t960 - 1))).bind fun t961 => (if t961 = true then (spec_l37Gaps.l0 k x1 (wrap64 (x5 + 1)) x958000 x958001 x958002) else (some false)))) else (none)) else ((spec_MazeOk.f x958000 x958001 x958002).bind fun t958 => (if t958 = true then (some (decide ((x1.length : Int) ≤ 100))) else (some false)))
def spec_l37Gaps.f (k : Nat) (a0_0 : Int) (a0_1 : Int) (a0_2 : Int) (l1 : List Int) : Option (Bool) := spec_l37Gaps.l0 k l1 0 a0_0 a0_1 a0_2
def spec_Reached.l0 : Nat → List Int → List Int → Int → Option (List Int)
  | 0, _, _, _ => none
  | k + 1, x5, x6, x7 => if x7 < (x6.length : Int) then (if 0 ≤ x7 then (if (rd x6 x7) ≥ 0 then (if x5.length < 17592186044416 then (spec_Reached.l0 k (x5 ++ [x7]) x6 (wrap64 (x7 + 1))) else (none)) else (spec_Reached.l0 k x5 x6 (wrap64 (x7 + 1)))) else (none)) else (some x5)
def spec_Reached.f (k : Nat) (a0_0 : Int) (a0_1 : Int) (a0_2 : Int) (a1 : Int) : Option (List Int) := (some (([] : List Int) : List Int)).bind fun y963 => ((spec_l04Has.f a0_0 a0_1 a0_2 a1).bind fun t966 => (if t966 = true then ((spec_l04Distances.f k a0_0 a0_1 a0_2 a1).bind fun t967 => (spec_Reached.l0 k y963 t967 0)) else (some y963)))
mutual
def spec_CountParts.l0 : Nat → Int → Int → Int → Int → Int → Option (Int)
  | 0, _, _, _, _, _ => none
  | k + 1, x3, x4, x975000, x975001, x975002 => (spec_CountCells.f x975000 x975001).bind fun t975 => (if x4 < t975 then ((spec_MazeOk.f x975000 x975001 x975002).bind fun t976 => (spec_CountParts.j1 k x3 x4 t976 x975000 x975001 x975002)) else (spec_CountParts.j1 k x3 x4 false x975000 x975001 x975002))
def spec_CountParts.j1 : Nat → Int → Int → Bool → Int → Int → Int → Option (Int)
  | 0, _, _, _, _, _, _ => none
  | k + 1, x3, x4, x13, x975000, x975001, x975002 => if x13 = true then ((spec_Reached.f k x975000 x975001 x975002 x4).bind fun t977 => (if 0 < (t977.length : Int) then (if (rd t977 0) = x4 then (spec_CountParts.l0 k (wrap64 (x3 + 1)) (wrap64 (x4 + 1)) x975000 x975001 x975002) else (spec_CountParts.l0 k x3 (wrap64 (x4 + 1)) x975000 x975001 x975002)) else (none))) else (some x3)
end
def spec_CountParts.f (k : Nat) (a0_0 : Int) (a0_1 : Int) (a0_2 : Int) : Option (Int) := spec_CountParts.l0 k 0 0 a0_0 a0_1 a0_2
def spec_IsConnected.f (k : Nat) (a0_0 : Int) (a0_1 : Int) (a0_2 : Int) : Option (Bool) := (spec_CountParts.f k a0_0 a0_1 a0_2).bind fun t982 => (some (t982 == 1))
mutual
def spec_IsSafeOrder.j0 : Nat → List Int → Bool → Int → Int → Int → Option (Bool)
  | 0, _, _, _, _, _ => none
  | k + 1, x1, x14, x984000, x984001, x984002 => if x14 = true then (some false) else (spec_IsSafeOrder.l0 k x1 0 x984000 x984001 x984002)
def spec_IsSafeOrder.l0 : Nat → List Int → Int → Int → Int → Int → Option (Bool)
  | 0, _, _, _, _, _ => none
  | k + 1, x1, x5, x984000, x984001, x984002 => if x5 < (x1.length : Int) then (if 0 ≤ x5 then (if 0 ≤ (rd x1 x5) then ((spec_IsConnected.f k x984000 x984001 (Go.bits .xor .i64 x984002 (shl .i64 1 (rd x1 x5)))).bind fun t987 => (if t987 = true then (spec_IsSafeOrder.l0 k x1 (wrap64 (x5 + 1)) x984000 x984001 (Go.bits .xor .i64 x984002 (shl .i64 1 (rd x1 x5)))) else (some false))) else (none)) else (none)) else (some true)
end
def spec_IsSafeOrder.f (k : Nat) (a0_0 : Int) (a0_1 : Int) (a0_2 : Int) (l1 : List Int) : Option (Bool) := (spec_l37Gaps.f k a0_0 a0_1 a0_2 l1).bind fun t984 => (if t984 = true then ((spec_IsConnected.f k a0_0 a0_1 a0_2).bind fun t985 => (spec_IsSafeOrder.j0 k l1 (!t985) a0_0 a0_1 a0_2)) else (spec_IsSafeOrder.j0 k l1 true a0_0 a0_1 a0_2))
def impl_areGaps.f (a0_0 a0_1 : Int) (l1 : List Int) : Option Bool := (impl_GridOk.f a0_0 a0_1).bind fun b => if b = true then (if l1.length ≤ 100 then allO (fun x => impl_isGap.f a0_0 a0_1 x) l1 else some false) else some false
def impl_upTo.l0 : Nat → Int → List Int → Int → Option (List Int)
  | 0, _, _, _ => none
  | k + 1, x0, x3, x4 => if x4 < x0 then (if x3.length < 17592186044416 then (impl_upTo.l0 k x0 (x3 ++ [x4]) (wrap64 (x4 + 1))) else (none)) else (some x3)
def impl_upTo.f (k : Nat) (a0 : Int) : Option (List Int) := impl_upTo.l0 k a0 ([] : List Int) 0
def impl_with.f (a0_0 : Int) (a0_1 : Int) (a0_2 : Int) (a1 : Int) (a2 : Bool) : Option (Int × Int × Int) := if 0 ≤ a1 then (if a2 = true then (some (a0_0, a0_1, Go.bits .or .i64 (Go.bits .andNot .i64 a0_2 (shl .i64 1 a1)) (shl .i64 1 a1))) else (some (a0_0, a0_1, Go.bits .andNot .i64 a0_2 (shl .i64 1 a1)))) else (none)
def impl_changed.f (a0_0 : Int) (a0_1 : Int) (a0_2 : Int) (a1 : Int) : Option (Int × Int × Int) := (impl_isOpen.f a0_0 a0_1 a0_2 a1).bind fun t1009 => ((impl_with.f a0_0 a0_1 a0_2 a1 (!t1009)).bind fun bt1010 => (some (bt1010.1, bt1010.2.1, bt1010.2.2)))
end Go.Proofs.Ytioplamkdoelpaa.F
end

section
namespace Go.Proofs.Ytioplamkdoelpaa.F
open Go.RowKit Go.Proofs.YtioplamkdoelpaaW.PrintWords Go.Proofs.YtioplamkdoelpaaW.PrintLast Go.Proofs.YtioplamkdoelpaaW.PrintMore
set_option linter.unusedVariables false
set_option linter.unusedSimpArgs false
def spec_WalkerOk.f (a0_0 : Int) (a0_1 : Int) (a0_2 : Int) (a1_0 : Int) (a1_1 : Int) : Option (Bool) := (spec_l04Has.f a0_0 a0_1 a0_2 a1_0).bind fun t250 => (if t250 = true then ((spec_l01In.f a1_1 0 3).bind fun t251 => (some t251)) else (some false))
def spec_PatternAt.l0 : Nat → Int → Int → Int → Int → Int → Int → Int → Option (Int)
  | 0, _, _, _, _, _, _, _ => none
  | k + 1, x5, x6, x271000, x271001, x271002, x272000, x272001 => if x6 < 4 then ((spec_Step.f k x271000 x271001 x271002 x272000 (Int.tmod (wrap64 (x272001 + x6)) 4)).bind fun t273 => (if t273 ≥ 0 then (if 0 ≤ x6 then (spec_PatternAt.l0 k (Go.bits .or .i64 x5 (shl .i64 1 x6)) (wrap64 (x6 + 1)) x271000 x271001 x271002 x272000 x272001) else (none)) else (spec_PatternAt.l0 k x5 (wrap64 (x6 + 1)) x271000 x271001 x271002 x272000 x272001))) else (some x5)
def spec_PatternAt.f (k : Nat) (a0_0 : Int) (a0_1 : Int) (a0_2 : Int) (a1_0 : Int) (a1_1 : Int) : Option (Int) := (spec_WalkerOk.f a0_0 a0_1 a0_2 a1_0 a1_1).bind fun t272 => (if t272 = true then (spec_PatternAt.l0 k 0 0 a0_0 a0_1 a0_2 a1_0 a1_1) else (some (-1)))
def spec_l33Turned.f (k : Nat) (a0_0 : Int) (a0_1 : Int) (a0_2 : Int) (a1_0 : Int) (a1_1 : Int) (a2 : Int) : Option (Int × Int × Bool) := (spec_Step.f k a0_0 a0_1 a0_2 a1_0 (Int.tmod (wrap64 (a1_1 + a2)) 4)).bind fun t277 => (if t277 < 0 then (some (a1_0, a1_1, false)) else (some (t277, Int.tmod (wrap64 (a1_1 + a2)) 4, true)))
def laws_toWalker.f (a0_0 : Int) (a0_1 : Int) : Option (Int × Int) := some (a0_0, a0_1)
def impl_isDirection.f (a0 : Int) : Option (Bool) := if a0 ≥ 0 then (some (decide (a0 ≤ 3))) else (some false)
def impl_WalkerOk.f (a0_0 : Int) (a0_1 : Int) (a0_2 : Int) (a1_0 : Int) (a1_1 : Int) : Option (Bool) := (impl_isIn.f a0_0 a0_1 a0_2 (([a1_0] : List Int))).bind fun t321 => (if t321 = true then ((impl_isDirection.f a1_1).bind fun t322 => (some t322)) else (some false))
def impl_PatternAt.l0 : Nat → Int → Int → Int → Int → Int → Int → Int → Option (Int)
  | 0, _, _, _, _, _, _, _ => none
  | k + 1, x5, x6, x334000, x334001, x334002, x335000, x335001 => if x6 < 4 then ((impl_Step.f k x334000 x334001 x334002 x335000 (Int.tmod (wrap64 (x335001 + x6)) 4)).bind fun t336 => (if t336 ≥ 0 then (if 0 ≤ x6 then (impl_PatternAt.l0 k (Go.bits .or .i64 x5 (shl .i64 1 x6)) (wrap64 (x6 + 1)) x334000 x334001 x334002 x335000 x335001) else (none)) else (impl_PatternAt.l0 k x5 (wrap64 (x6 + 1)) x334000 x334001 x334002 x335000 x335001))) else (some x5)
def impl_PatternAt.f (k : Nat) (a0_0 : Int) (a0_1 : Int) (a0_2 : Int) (a1_0 : Int) (a1_1 : Int) : Option (Int) := (impl_WalkerOk.f a0_0 a0_1 a0_2 a1_0 a1_1).bind fun t335 => (if t335 = true then (impl_PatternAt.l0 k 0 0 a0_0 a0_1 a0_2 a1_0 a1_1) else (some (-1)))
def impl_marked.f (k : Nat) (a0_0 : Int) (a0_1 : Int) (a0_2 : Int) (a1_0 : Int) (a1_1 : Int) (a2 : Int) : Option (Int × Int) := (impl_Step.f k a0_0 a0_1 a0_2 a1_0 a2).bind fun t340 => (some (t340, a2))
def impl_went.f (k : Nat) (a0_0 : Int) (a0_1 : Int) (a0_2 : Int) (a1_0 : Int) (a1_1 : Int) (a2 : Int) : Option (Int × Int × Bool) := (impl_marked.f k a0_0 a0_1 a0_2 a1_0 a1_1 (Int.tmod (wrap64 (a1_1 + a2)) 4)).bind fun bt344 => (some (bt344.1, bt344.2, decide (bt344.1 ≥ 0)))
end Go.Proofs.Ytioplamkdoelpaa.F
end

section
namespace Go.Proofs.Ytioplamkdoelpaa.F
open Go.RowKit Go.Proofs.YtioplamkdoelpaaW.PrintWords Go.Proofs.YtioplamkdoelpaaW.PrintLast Go.Proofs.YtioplamkdoelpaaW.PrintMore
set_option linter.unusedVariables false
set_option linter.unusedSimpArgs false
theorem impl_isIn_eq (w h o : Int) (l : List Int) : impl_isIn.f w h o l = some (mok w h o && l.all (icell w h)) := by
  unfold impl_isIn.f
  rw [impl_MazeOk_eq, Option.bind_some, allO_of (p := icell w h) (fun x _ => impl_isCell_eq w h x)]
  cases mok w h o <;> simp
theorem spec_l04Has_eq (w h o c : Int) : spec_l04Has.f w h o c = some (mok w h o && icell w h c) := by
  unfold spec_l04Has.f
  rw [spec_MazeOk_eq, spec_CountCells_eq]
  simp only [Option.bind_some, spec_l01In_eq, in_cells]
  cases mok w h o <;> simp
theorem impl_SignOk_eq {k : Nat} (hk : 3 ≤ k) (w h o c d : Int) : impl_SignOk.f k w h o c d = some (decide (0 ≤ st w h o c d)) := by
  unfold impl_SignOk.f
  rw [impl_isIn_eq]
  simp only [Option.bind_some, impl_Step_eq hk, List.all_cons, List.all_nil, Bool.and_true]
  by_cases H : 0 ≤ st w h o c d
  · have := st_facts H
    simp [H, this.1, this.2.1]
  · by_cases q : (mok w h o && icell w h c) = true
    · rw [if_pos q]
    · rw [if_neg q]; simp; omega
theorem spec_SignOk_eq {k : Nat} (hk : 1 ≤ k) (w h o c d : Int) : spec_SignOk.f k w h o c d = some (decide (0 ≤ st w h o c d)) := by
  unfold spec_SignOk.f
  rw [spec_l04Has_eq]
  simp only [Option.bind_some, spec_Step_eq hk]
  by_cases H : 0 ≤ st w h o c d
  · have := st_facts H
    simp [H, this.1, this.2.1]
  · by_cases q : (mok w h o && icell w h c) = true
    · rw [if_pos q]
    · rw [if_neg q]; simp; omega
end Go.Proofs.Ytioplamkdoelpaa.F
end

section
namespace Go.Proofs.Ytioplamkdoelpaa.F
open Go.RowKit Go.Proofs.YtioplamkdoelpaaW.PrintWords Go.Proofs.YtioplamkdoelpaaW.PrintLast Go.Proofs.YtioplamkdoelpaaW.PrintMore
set_option linter.unusedVariables false
set_option linter.unusedSimpArgs false
theorem bfs_next {nx : Int → Int → Int} {N : Nat} {a : Int} (S : Steps nx N) {i : Nat} {D Q D' Q' : List Int} (B : BfsAt nx N a i D Q) (hi : i < Q.length) (e : bfsD nx (rd Q i) [0, 1, 2, 3] (D, Q) = (D', Q')) : BfsAt nx N a (i + 1) D' Q' := by
  obtain ⟨r1, r2, r3, r4, r5⟩ := bfs_dirs S _ D Q B hi D' Q' e
  refine ⟨r1.toBfs, fun h x hx => ?_, fun j hj hjl d hd => ?_⟩
  · have h1 := r1.near r2 x hx
    have h2 := r1.mono i (i + 1) (by omega) h
    omega
  · by_cases hj' : j = i
    · subst hj'
      rw [r3] at hd ⊢
      have hr := S.rng _ _ hd
      exact r5 d (by have : d = 0 ∨ d = 1 ∨ d = 2 ∨ d = 3 := by omega
                     rcases this with rfl | rfl | rfl | rfl <;> simp) hd
    · exact r1.done j (by omega) hjl d hd
theorem bfs_init {nx : Int → Int → Int} {N : Nat} {a : Int} (h0 : 0 ≤ a) (h1 : a < N) : BfsAt nx N a 0 ((List.replicate N (-1)).set a.toNat 0) [a] := by
  have hrep : ∀ x : Int, 0 ≤ x → x < N → rd (List.replicate N (-1)) x = -1 := fun x x0 x1 => by
    obtain ⟨h, e⟩ := rd_lt (D := List.replicate N (-1 : Int)) x0 (by simpa using x1)
    rw [e, List.getElem_replicate]
  have hset : ∀ x : Int, 0 ≤ x → x < N → rd ((List.replicate N (-1)).set a.toNat 0) x = if x = a then 0 else -1 := fun x x0 x1 => by
    rw [rd_set h0 x0 (by simpa using h1)]
    split
    · rfl
    · exact hrep x x0 x1
  refine ⟨⟨by simp, ?_, ?_, ?_, ?_, ?_⟩, ?_, ?_⟩
  · have := countP_lt_set (D := List.replicate N (-1 : Int)) (i := a) (v := 0) h0 (by simpa using h1) (by rw [hrep a h0 h1]; decide) (by decide)
    rw [List.countP_replicate] at this
    simpa using this
  · intro x hx
    rw [List.mem_singleton.1 hx, hset a h0 h1, if_pos rfl]
    exact ⟨h0, h1, by decide, Walk.nil⟩
  · intro x x0 x1 hx
    rw [hset x x0 x1, if_neg (by simpa using hx)]
  · exact ⟨by rw [hset a h0 h1, if_pos rfl], by simp⟩
  · intro j k hjk hk
    have : j = 0 := by simp at hk; omega
    have : k = 0 := by simp at hk; omega
    subst_vars
    exact Int.le_refl _
  · intro _ x hx
    rw [List.mem_singleton.1 hx]
    simp [rd]
    omega
  · intro j hj; omega
def bfs1 (nx : Int → Int → Int) (c d : Int) (s : List Int × List Int) : List Int × List Int :=
  if 0 ≤ nx c d ∧ rd s.1 (nx c d) < 0 then (s.1.set (nx c d).toNat (rd s.1 c + 1), s.2 ++ [nx c d]) else s
theorem bfsD_cons (nx : Int → Int → Int) (c d : Int) (ds : List Int) (s : List Int × List Int) : bfsD nx c (d :: ds) s = bfsD nx c ds (bfs1 nx c d s) := by
  unfold bfs1; rw [bfsD]; split <;> rfl
theorem bfsD_filter (nx : Int → Int → Int) (c : Int) : ∀ (ds : List Int) (s : List Int × List Int), bfsD nx c (ds.filter fun d => decide (0 ≤ nx c d)) s = bfsD nx c ds s
  | [], s => rfl
  | d :: ds, s => by
    by_cases h : 0 ≤ nx c d
    · rw [List.filter_cons_of_pos (by simpa using h), bfsD_cons, bfsD_cons, bfsD_filter nx c ds]
    · rw [List.filter_cons_of_neg (by simpa using h), bfsD_cons, bfsD_filter nx c ds]
      unfold bfs1
      rw [if_neg (fun q => h q.1)]
def Small (s : List Int × List Int) : Prop := ∀ x : Int, rd s.1 x < s.2.length
structure Mid (nx : Int → Int → Int) (N : Nat) (a : Int) (i : Nat) (c : Int) (s : List Int × List Int) : Prop where
  at_ : BfsAt nx N a i s.1 s.2
  small : Small s
  lt : i < s.2.length
  cur : rd s.2 i = c
theorem mid1 {nx : Int → Int → Int} {N : Nat} {a : Int} (S : Steps nx N) {i : Nat} {c : Int} {s : List Int × List Int} (M : Mid nx N a i c s) (d : Int) : Mid nx N a i c (bfs1 nx c d s) := by
  have hc := M.cur
  unfold bfs1
  by_cases h : 0 ≤ nx c d ∧ rd s.1 (nx c d) < 0
  · rw [if_pos h]
    have B := M.at_
    have r := S.rng c d h.1
    subst hc
    refine ⟨bfs_push S B M.lt h.1 h.2, fun x => ?_, by simp only [List.length_append]; have := M.lt; omega, by simp only; exact rd_app_left M.lt⟩
    have hs := M.small
    simp only [List.length_append, List.length_singleton]
    by_cases hx : 0 ≤ x
    · rw [rd_set (by omega) hx (by rw [B.len]; omega)]
      have h1 := hs x
      have h2 := hs (rd s.2 i)
      split <;> omega
    · have h1 := hs x
      have : rd (s.1.set (nx (rd s.2 i) d).toNat (rd s.1 (rd s.2 i) + 1)) x = rd (s.1.set (nx (rd s.2 i) d).toNat (rd s.1 (rd s.2 i) + 1)) 0 := by unfold rd; rw [show x.toNat = 0 by omega]; rfl
      rw [this, rd_set (by omega) (by omega) (by rw [B.len]; omega)]
      have h2 := hs (rd s.2 i)
      have h3 := hs 0
      split <;> omega
  · rw [if_neg h]; exact M
theorem bfs_room {nx : Int → Int → Int} {N : Nat} {a : Int} {i : Nat} {c : Int} {s : List Int × List Int} (M : Mid nx N a i c s) : s.1.length = N ∧ s.2.length ≤ N ∧ 0 ≤ c ∧ c < N := by
  have h1 := M.at_.len
  have h2 := M.at_.cnt
  have hm : c ∈ s.2 := by rw [← M.cur]; exact rd_memI (by omega) (by have := M.lt; omega)
  obtain ⟨h3, h4, _⟩ := M.at_.inq c hm
  exact ⟨h1, by omega, h3, h4⟩
def stN (w h : Int) : Nat := (cells w h).toNat
theorem steps_st (w h o : Int) : Steps (st w h o) (stN w h) := ⟨fun c d H => by
  obtain ⟨_, h2, h3, h4, h5⟩ := st_facts H
  have a := icell_iff.1 h2
  have b := icell_iff.1 h3
  unfold stN
  exact ⟨a.1, by omega, by omega, h4, h5⟩⟩
theorem nb_all : ∀ w ∈ ([1, 2, 3, 4] : List Int), ∀ h ∈ ([1, 2, 3, 4] : List Int), ∀ c ∈ ([0, 1, 2, 3, 4, 5, 6, 7, 8, 9, 10, 11, 12, 13, 14, 15] : List Int), ∀ d ∈ ([0, 1, 2, 3] : List Int), 0 ≤ nb w h c d → nb w h (nb w h c d) ((d + 2) % 4) = c ∧ gp w h (nb w h c d) ((d + 2) % 4) = gp w h c d := by
  decide +kernel
theorem nb_back {w h c d : Int} (H : 0 ≤ nb w h c d) : ∃ e, nb w h (nb w h c d) e = c ∧ gp w h (nb w h c d) e = gp w h c d := by
  obtain ⟨h1, _, h3, h4⟩ := nb_facts H
  have g := gok_iff.1 (icell_gok h1)
  have hc := icell_iff.1 h1
  have hb := cells_bd w h
  exact ⟨(d + 2) % 4, nb_all w (by simp; omega) h (by simp; omega) c (by simp; omega) d (by simp; omega) H⟩
theorem sym_st (w h o : Int) : Sym (st w h o) := ⟨fun c d H => by
  obtain ⟨e, p⟩ := st_nb H
  rw [e] at H ⊢
  obtain ⟨q, q1, q2⟩ := nb_back H
  refine ⟨q, ?_⟩
  unfold st
  rw [q2, if_pos p, q1]⟩
def ways (w h o c : Int) : List Int := ([0, 1, 2, 3] : List Int).filter fun d => decide (0 ≤ st w h o c d)
theorem ways_length (w h o c : Int) : (ways w h o c).length ≤ 4 := List.length_filter_le _ _
theorem impl_WaysFrom_eq {k : Nat} (hk : 8 ≤ k) (w h o c : Int) : impl_WaysFrom.f k w h o c = some (ways w h o c) := by
  unfold impl_WaysFrom.f
  have := fold_loop (n := 4) (c := 3) (F := fun k (acc : List Int) i => impl_WaysFrom.l0 k c acc i w h o) (step := fun acc i => if 0 ≤ st w h o c (i : Int) then acc ++ [(i : Int)] else acc) (fin := fun acc : List Int => acc) (I := fun acc i => acc.length ≤ i)
    (fun k acc i hk hi ha => by
      simp only [impl_WaysFrom.l0]
      rw [if_pos (by omega), impl_Step_eq (by omega), Option.bind_some, w64 (x := (i : Int) + 1) (by omega) (by omega)]
      by_cases hd : 0 ≤ st w h o c (i : Int)
      · rw [if_pos hd, if_pos hd, if_pos (by omega)]
      · rw [if_neg hd, if_neg hd])
    (fun acc i _ ha => by
      show (if _ then _ else _ : List Int).length ≤ i + 1
      split
      · simp only [List.length_append, List.length_singleton]; omega
      · omega)
    (fun k acc _ _ => by
      simp only [impl_WaysFrom.l0]
      rw [if_neg (by decide)]) 4 0 k [] (by decide) (by omega) (Nat.le_refl _)
  refine this.trans ?_
  congr 1
  unfold ways
  simp only [List.range'_succ, List.range'_zero, List.foldl_cons, List.foldl_nil, List.filter_cons, List.filter_nil, Nat.zero_add, Int.natCast_add, decide_eq_true_eq]
  show (if 0 ≤ st w h o c (3 : Int) then _ else _) = _
  by_cases h0 : 0 ≤ st w h o c 0 <;> by_cases h1 : 0 ≤ st w h o c 1 <;> by_cases h2 : 0 ≤ st w h o c 2 <;> by_cases h3 : 0 ≤ st w h o c 3 <;> simp [h0, h1, h2, h3]
theorem ways_mem {w h o c d : Int} (H : d ∈ ways w h o c) : 0 ≤ st w h o c d := by
  unfold ways at H
  exact of_decide_eq_true (List.mem_filter.1 H).2
theorem impl_dist1 {w h o a c d : Int} {i : Nat} {s : List Int × List Int} (M : Mid (st w h o) (stN w h) a i c s) (hd : 0 ≤ st w h o c d) {k : Nat} (hk : 3 ≤ k) {W : List Int} {j : Nat} (hj : j < W.length) (hW : W.length ≤ 4) (hr : rd W (j : Int) = d) :
    impl_distances.l1 (k + 1) s.1 s.2 (i : Int) W (W.length : Int) (j : Int) w h o = impl_distances.l1 k (bfs1 (st w h o) c d s).1 (bfs1 (st w h o) c d s).2 (i : Int) W (W.length : Int) ((j : Int) + 1) w h o := by
  obtain ⟨r1, r2, r3, r4⟩ := bfs_room M
  have hN : stN w h ≤ 16 := by have := cells_bd w h; unfold stN; omega
  have rr := (steps_st w h o).rng c d hd
  have hsm := M.small c
  have hlt := M.lt
  have hc := M.cur
  simp only [impl_distances.l1]
  rw [if_pos (by omega), if_pos (by omega), if_pos (by omega), if_pos (by omega), if_pos (by omega), hc, hr, impl_Step_eq hk, Option.bind_some, if_pos hd, if_pos (by omega), w64 (x := (j : Int) + 1) (by omega) (by omega)]
  unfold bfs1
  by_cases hn : rd s.1 (st w h o c d) < 0
  · rw [if_pos hn, if_pos r3, if_pos (by omega), if_pos (by omega), if_pos ⟨hd, hn⟩]
    have hge : 0 ≤ rd s.1 c := by
      have hm : c ∈ s.2 := by rw [← hc]; exact rd_memI (by omega) (by omega)
      exact (M.at_.inq c hm).2.2.1
    rw [w64 (x := rd s.1 c + 1) (by omega) (by omega)]
  · rw [if_neg hn, if_neg (fun q => hn q.2)]
theorem impl_dirs {w h o a c : Int} {i : Nat} {W : List Int} (hW : W.length ≤ 4) (hd : ∀ d ∈ W, 0 ≤ st w h o c d) : ∀ (m j k : Nat) (s : List Int × List Int), j + m = W.length → 3 ≤ k → Mid (st w h o) (stN w h) a i c s →
    impl_distances.l1 (k + m + 1) s.1 s.2 (i : Int) W (W.length : Int) (j : Int) w h o = impl_distances.l0 k (bfsD (st w h o) c (W.drop j) s).1 (bfsD (st w h o) c (W.drop j) s).2 ((i : Int) + 1) w h o ∧ Mid (st w h o) (stN w h) a i c (bfsD (st w h o) c (W.drop j) s)
  | 0, j, k, s, hj, hk, M => by
    rw [List.drop_of_length_le (by omega)]
    have hl := bfs_room M
    have hN : stN w h ≤ 16 := by have := cells_bd w h; unfold stN; omega
    have hlt := M.lt
    refine ⟨?_, M⟩
    simp only [bfsD, Nat.add_zero, impl_distances.l1]
    rw [if_neg (by omega), w64 (x := (i : Int) + 1) (by omega) (by omega)]
  | m + 1, j, k, s, hj, hk, M => by
    have hjl : j < W.length := by omega
    have hmem : rd W (j : Int) ∈ W := rd_memI (by omega) (by omega)
    have hdr : W.drop j = rd W (j : Int) :: W.drop (j + 1) := by
      rw [List.drop_eq_getElem_cons hjl]
      congr 1
      rw [rd_nat, List.getD_eq_getElem?_getD, List.getElem?_eq_getElem hjl]
      rfl
    have M' := mid1 (steps_st w h o) M (rd W (j : Int))
    rw [show k + (m + 1) + 1 = (k + m + 1) + 1 by omega, impl_dist1 M (hd _ hmem) (by omega) hjl hW rfl, hdr, bfsD_cons]
    have := impl_dirs hW hd m (j + 1) k _ (by omega) hk M'
    rwa [Int.natCast_add] at this
theorem impl_bfs {w h o a : Int} : ∀ (f i k : Nat) (D Q : List Int), BfsAt (st w h o) (stN w h) a i D Q → Small (D, Q) → stN w h < f + i → 6 * f + 20 ≤ k → impl_distances.l0 k D Q (i : Int) w h o = some (bfs (st w h o) f i (D, Q))
  | 0, i, k, D, Q, B, V, hf, hk => by
    obtain ⟨m, rfl⟩ : ∃ m, k = m + 1 := ⟨k - 1, by omega⟩
    have := B.cnt
    simp only [impl_distances.l0, bfs]
    rw [if_neg (by omega)]
  | f + 1, i, k, D, Q, B, V, hf, hk => by
    obtain ⟨m, rfl⟩ : ∃ m, k = m + 1 := ⟨k - 1, by omega⟩
    simp only [bfs]
    by_cases hi : i < Q.length
    · rw [if_pos hi]
      have hw := ways_length w h o (rd Q (i : Int))
      simp only [impl_distances.l0]
      rw [if_pos (by omega), if_pos (by omega), impl_WaysFrom_eq (by omega), Option.bind_some]
      obtain ⟨k', hk'⟩ : ∃ k', m = k' + (ways w h o (rd Q (i : Int))).length + 1 := ⟨m - (ways w h o (rd Q (i : Int))).length - 1, by omega⟩
      have M : Mid (st w h o) (stN w h) a i (rd Q (i : Int)) (D, Q) := ⟨B, V, hi, rfl⟩
      obtain ⟨e, M'⟩ := impl_dirs (a := a) (i := i) hw (fun d hd => ways_mem hd) (ways w h o (rd Q (i : Int))).length 0 k' (D, Q) (by omega) (by omega) M
      rw [← hk', List.drop_zero] at e
      rw [List.drop_zero] at M'
      have eb : bfsD (st w h o) (rd Q (i : Int)) (ways w h o (rd Q (i : Int))) (D, Q) = bfsD (st w h o) (rd Q (i : Int)) [0, 1, 2, 3] (D, Q) := bfsD_filter _ _ _ _
      rw [eb] at e M'
      refine e.trans ?_
      have := impl_bfs f (i + 1) k' _ _ (bfs_next (steps_st w h o) B hi rfl) M'.small (by omega) (by omega)
      rwa [Int.natCast_add] at this
    · rw [if_neg hi]
      simp only [impl_distances.l0]
      rw [if_neg (by omega)]
theorem small_init {N : Nat} {a : Int} (h0 : 0 ≤ a) (h1 : a < N) : Small ((List.replicate N (-1)).set a.toNat 0, [a]) := by
  intro x
  simp only [List.length_singleton]
  have hrep : ∀ x : Int, rd (List.replicate N (-1)) x ≤ 0 := fun x => by
    unfold rd
    rw [List.getD_eq_getElem?_getD, List.getElem?_replicate]
    split <;> simp
  unfold rd
  rw [List.getD_eq_getElem?_getD, List.getElem?_set]
  split
  · split <;> simp
  · have := hrep x
    unfold rd at this
    rw [List.getD_eq_getElem?_getD] at this
    omega
theorem impl_distances_eq {w h o a : Int} {k : Nat} (hk : 200 ≤ k) (ha : icell w h a = true) : impl_distances.f k w h o a = some (dists (st w h o) (stN w h) a) := by
  have hc := icell_iff.1 ha
  have hb := cells_bd w h
  have hN : ((stN w h : Nat) : Int) = cells w h := by unfold stN; omega
  unfold impl_distances.f
  rw [impl_CountCells_eq, Option.bind_some, slices_Repeat_int.f, if_pos ⟨rfl, by omega, by omega⟩, Option.bind_some]
  show (if 0 ≤ a then (if a < ((List.replicate (stN w h) (-1 : Int)).length : Int) then _ else _) else _) = _
  rw [if_pos hc.1, if_pos (by rw [List.length_replicate]; omega)]
  exact impl_bfs (stN w h + 1) 0 k _ _ (bfs_init hc.1 (by omega)) (small_init hc.1 (by omega)) (by omega) (by omega)
theorem spec_dist1 {w h o a c : Int} {i : Nat} {s : List Int × List Int} (M : Mid (st w h o) (stN w h) a i c s) {k : Nat} (hk : 1 ≤ k) {j : Nat} (hj : j < 4) :
    spec_l04Distances.l2 (k + 1) s.1 s.2 (i : Int) (j : Int) w h o = spec_l04Distances.l2 k (bfs1 (st w h o) c (j : Int) s).1 (bfs1 (st w h o) c (j : Int) s).2 (i : Int) ((j : Int) + 1) w h o := by
  obtain ⟨r1, r2, r3, r4⟩ := bfs_room M
  have hN : stN w h ≤ 16 := by have := cells_bd w h; unfold stN; omega
  have hsm := M.small c
  have hlt := M.lt
  have hc := M.cur
  simp only [spec_l04Distances.l2]
  rw [if_pos (by omega), if_pos (by omega), if_pos (by omega), hc, spec_Step_eq hk, Option.bind_some, w64 (x := (j : Int) + 1) (by omega) (by omega)]
  unfold bfs1
  by_cases hd : 0 ≤ st w h o c (j : Int)
  · have rr := (steps_st w h o).rng c _ hd
    rw [if_pos hd, if_pos hd, if_pos (by omega)]
    by_cases hn : rd s.1 (st w h o c (j : Int)) < 0
    · rw [if_pos hn, if_pos r3, if_pos (by omega), if_pos (by omega), if_pos ⟨hd, hn⟩]
      have hge : 0 ≤ rd s.1 c := by
        have hm : c ∈ s.2 := by rw [← hc]; exact rd_memI (by omega) (by omega)
        exact (M.at_.inq c hm).2.2.1
      rw [w64 (x := rd s.1 c + 1) (by omega) (by omega)]
    · rw [if_neg hn, if_neg (fun q => hn q.2)]
  · rw [if_neg hd, if_neg (fun q => hd q.1)]
theorem spec_dirs {w h o a c : Int} {i : Nat} {s : List Int × List Int} (M : Mid (st w h o) (stN w h) a i c s) {k : Nat} (hk : 1 ≤ k) :
    spec_l04Distances.l2 (k + 5) s.1 s.2 (i : Int) 0 w h o = spec_l04Distances.l1 k (bfsD (st w h o) c [0, 1, 2, 3] s).1 (bfsD (st w h o) c [0, 1, 2, 3] s).2 ((i : Int) + 1) w h o ∧ Mid (st w h o) (stN w h) a i c (bfsD (st w h o) c [0, 1, 2, 3] s) := by
  have M1 := mid1 (steps_st w h o) M 0
  have M2 := mid1 (steps_st w h o) M1 1
  have M3 := mid1 (steps_st w h o) M2 2
  have M4 := mid1 (steps_st w h o) M3 3
  have e0 := spec_dist1 M (k := k + 4) (by omega) (j := 0) (by decide)
  have e1 := spec_dist1 M1 (k := k + 3) (by omega) (j := 1) (by decide)
  have e2 := spec_dist1 M2 (k := k + 2) (by omega) (j := 2) (by decide)
  have e3 := spec_dist1 M3 (k := k + 1) (by omega) (j := 3) (by decide)
  rw [bfsD_cons, bfsD_cons, bfsD_cons, bfsD_cons]
  show _ = spec_l04Distances.l1 k _ _ _ _ _ _ ∧ _
  refine ⟨(e0.trans (e1.trans (e2.trans e3))).trans ?_, M4⟩
  have hl := bfs_room M4
  have hN : stN w h ≤ 16 := by have := cells_bd w h; unfold stN; omega
  have hlt := M4.lt
  simp only [spec_l04Distances.l2, bfsD]
  rw [if_neg (by decide), w64 (x := (i : Int) + 1) (by omega) (by omega)]
  rfl
theorem spec_bfs {w h o a : Int} : ∀ (f i k : Nat) (D Q : List Int), BfsAt (st w h o) (stN w h) a i D Q → Small (D, Q) → stN w h < f + i → 6 * f + 20 ≤ k → spec_l04Distances.l1 k D Q (i : Int) w h o = some (bfs (st w h o) f i (D, Q))
  | 0, i, k, D, Q, B, V, hf, hk => by
    obtain ⟨m, rfl⟩ : ∃ m, k = m + 1 := ⟨k - 1, by omega⟩
    have := B.cnt
    simp only [spec_l04Distances.l1, bfs]
    rw [if_neg (by omega)]
  | f + 1, i, k, D, Q, B, V, hf, hk => by
    obtain ⟨m, rfl⟩ : ∃ m, k = m + 5 + 1 := ⟨k - 6, by omega⟩
    simp only [bfs]
    by_cases hi : i < Q.length
    · rw [if_pos hi]
      simp only [spec_l04Distances.l1]
      rw [if_pos (by omega)]
      have M : Mid (st w h o) (stN w h) a i (rd Q (i : Int)) (D, Q) := ⟨B, V, hi, rfl⟩
      obtain ⟨e, M'⟩ := spec_dirs M (k := m) (by omega)
      refine e.trans ?_
      have := spec_bfs f (i + 1) m _ _ (bfs_next (steps_st w h o) B hi rfl) M'.small (by omega) (by omega)
      rwa [Int.natCast_add] at this
    · rw [if_neg hi]
      simp only [spec_l04Distances.l1]
      rw [if_neg (by omega)]
theorem spec_l04Distances_eq {w h o a : Int} {k : Nat} (hk : 200 ≤ k) (ha : icell w h a = true) : spec_l04Distances.f k w h o a = some (dists (st w h o) (stN w h) a) := by
  have hc := icell_iff.1 ha
  have hb := cells_bd w h
  have hN : ((stN w h : Nat) : Int) = cells w h := by unfold stN; omega
  have hN16 : stN w h ≤ 16 := by omega
  unfold spec_l04Distances.f
  rw [spec_CountCells_eq, Option.bind_some, if_pos hb.1, if_pos (by omega)]
  show spec_l04Distances.l0 k a (List.replicate (stN w h) 0) 0 w h o = _
  obtain ⟨s, _, e⟩ := inv_loop (n := stN w h) (c := 130) (F := fun k (s : List Int) i => spec_l04Distances.l0 k a s i w h o) (fin := fun _ => dists (st w h o) (stN w h) a)
    (I := fun s i => s = List.replicate i (-1) ++ List.replicate (stN w h - i) 0)
    (fun k s i _ hi hs => by
      refine ⟨List.replicate (i + 1) (-1) ++ List.replicate (stN w h - (i + 1)) 0, rfl, ?_⟩
      have hl : s.length = stN w h := by rw [hs]; simp; omega
      simp only [spec_l04Distances.l0]
      rw [if_pos (by omega), if_pos (by omega), w64_succ hi (by omega), Int.toNat_natCast]
      congr 1
      rw [hs, show stN w h - i = (stN w h - (i + 1)) + 1 by omega, List.replicate_succ, List.replicate_succ']
      rw [List.set_append_right _ _ (by simp)]
      simp)
    (fun k s hk hs => by
      have hs' : s = List.replicate (stN w h) (-1) := by rw [hs, Nat.sub_self]; simp
      simp only [spec_l04Distances.l0]
      rw [hs', List.length_replicate, if_neg (by omega), if_pos hc.1, if_pos (by omega)]
      exact spec_bfs (stN w h + 1) 0 k _ _ (bfs_init hc.1 (by omega)) (small_init hc.1 (by omega)) (by omega) (by omega)) (stN w h) 0 k (List.replicate (stN w h) 0) (by omega) (by omega) (by simp)
  exact e
def dst (w h o a b : Int) : Int := rd (dists (st w h o) (stN w h) a) b
theorem dst_sym {w h o a b : Int} (ha : icell w h a = true) (hb : icell w h b = true) : dst w h o a b = dst w h o b a := by
  have ca := icell_iff.1 ha
  have cb := icell_iff.1 hb
  have hN : ((stN w h : Nat) : Int) = cells w h := by have := cells_bd w h; unfold stN; omega
  obtain ⟨_, _, p⟩ := dists_spec (steps_st w h o) (a := a) ca.1 (by omega)
  obtain ⟨_, _, q⟩ := dists_spec (steps_st w h o) (a := b) cb.1 (by omega)
  have rev : ∀ {x y : Int} {n : Nat}, Walk (st w h o) x n y → Walk (st w h o) y n x := fun H => Walk.rev (steps_st w h o) (sym_st w h o) H
  unfold dst
  rcases p b cb.1 (by omega) with ⟨e, n1⟩ | ⟨g1, w1, m1⟩ <;> rcases q a ca.1 (by omega) with ⟨e', n2⟩ | ⟨g2, w2, m2⟩
  · rw [e, e']
  · exact absurd (rev w2) (n1 _)
  · exact absurd (rev w1) (n2 _)
  · have := m1 _ (rev w2)
    have := m2 _ (rev w1)
    omega
theorem dst_step {w h o a b d : Int} (ha : icell w h a = true) (hd : 0 ≤ st w h o b d) : dst w h o a b = -1 → dst w h o a (st w h o b d) = -1 := by
  intro H
  have ca := icell_iff.1 ha
  obtain ⟨_, f2, f3, _, _⟩ := st_facts hd
  have cb := icell_iff.1 f2
  have cs := icell_iff.1 f3
  have hN : ((stN w h : Nat) : Int) = cells w h := by have := cells_bd w h; unfold stN; omega
  obtain ⟨_, _, p⟩ := dists_spec (steps_st w h o) (a := a) ca.1 (by omega)
  unfold dst at H ⊢
  rcases p b cb.1 (by omega) with ⟨e, n1⟩ | ⟨g1, w1, m1⟩
  · rcases p (st w h o b d) cs.1 (by omega) with ⟨e2, n2⟩ | ⟨g2, w2, m2⟩
    · exact e2
    · exfalso
      obtain ⟨q, hq⟩ := (sym_st w h o).back b d hd
      have := Walk.snoc (d := q) w2 (by rw [hq]; exact cb.1)
      rw [hq] at this
      exact n1 _ this
  · omega
theorem dst_bd {w h o a b : Int} (ha : icell w h a = true) (hb : icell w h b = true) : -1 ≤ dst w h o a b := by
  have ca := icell_iff.1 ha
  have cb := icell_iff.1 hb
  have hN : ((stN w h : Nat) : Int) = cells w h := by have := cells_bd w h; unfold stN; omega
  obtain ⟨_, _, p⟩ := dists_spec (steps_st w h o) (a := a) ca.1 (by omega)
  unfold dst
  rcases p b cb.1 (by omega) with ⟨e, _⟩ | ⟨g, _⟩ <;> omega
theorem dists_length {w h o a : Int} (ha : icell w h a = true) : ((dists (st w h o) (stN w h) a).length : Int) = cells w h := by
  have ca := icell_iff.1 ha
  have hN : ((stN w h : Nat) : Int) = cells w h := by have := cells_bd w h; unfold stN; omega
  rw [(dists_spec (steps_st w h o) (a := a) ca.1 (by omega)).1, hN]
theorem impl_DistanceOf_eq {w h o : Int} {k : Nat} (hk : 200 ≤ k) (a b : Int) : impl_DistanceOf.f k w h o a b = some (if mok w h o = true ∧ icell w h a = true ∧ icell w h b = true then dst w h o a b else -1) := by
  unfold impl_DistanceOf.f
  rw [impl_isIn_eq]
  simp only [Option.bind_some, List.all_cons, List.all_nil, Bool.and_true]
  by_cases H : mok w h o = true ∧ icell w h a = true ∧ icell w h b = true
  · rw [if_pos H, if_pos (by simp [H.1, H.2.1, H.2.2]), impl_distances_eq hk H.2.1, Option.bind_some]
    have cb := icell_iff.1 H.2.2
    rw [if_pos cb.1, if_pos (by rw [dists_length H.2.1]; exact cb.2)]
    rfl
  · rw [if_neg H, if_neg (by simpa using fun h1 h2 h3 => H ⟨h1, h2, h3⟩)]
def isT (w h o c d g : Int) : Bool := decide (0 ≤ st w h o c d ∧ icell w h g = true ∧ g ≠ c ∧ dst w h o g (st w h o c d) < dst w h o g c)
theorem impl_IsTrue_eq {w h o : Int} {k : Nat} (hk : 210 ≤ k) (c d g : Int) : impl_IsTrue.f k w h o c d g = some (isT w h o c d g) := by
  obtain ⟨m, rfl⟩ : ∃ m, k = m + 1 := ⟨k - 1, by omega⟩
  unfold impl_IsTrue.f isT
  rw [impl_SignOk_eq (by omega), Option.bind_some, impl_isCell_eq, Option.bind_some]
  simp only [impl_IsTrue.j0]
  by_cases h1 : 0 ≤ st w h o c d
  · obtain ⟨f1, f2, f3, _, _⟩ := st_facts h1
    rw [if_pos (decide_eq_true h1)]
    by_cases h2 : icell w h g = true
    · rw [if_pos h2]
      by_cases h3 : g = c
      · rw [if_pos (by simpa using h3)]; simp [h3]
      · rw [if_neg (by simpa using h3), impl_Step_eq (by omega), Option.bind_some, impl_DistanceOf_eq (by omega), Option.bind_some, impl_DistanceOf_eq (by omega), Option.bind_some, if_pos ⟨f1, f3, h2⟩, if_pos ⟨f1, f2, h2⟩, dst_sym f3 h2, dst_sym f2 h2]
        simp [h1, h2, h3]
    · rw [if_neg h2]; simp [h2]
  · rw [if_neg (by simpa using h1)]; simp [h1]
theorem spec_IsTrue_eq {w h o : Int} {k : Nat} (hk : 210 ≤ k) (c d g : Int) : spec_IsTrue.f k w h o c d g = some (isT w h o c d g) := by
  obtain ⟨m, rfl⟩ : ∃ m, k = m + 1 := ⟨k - 1, by omega⟩
  unfold spec_IsTrue.f isT
  rw [spec_SignOk_eq (by omega), Option.bind_some, spec_l04Has_eq, Option.bind_some]
  simp only [spec_IsTrue.j0]
  by_cases h1 : 0 ≤ st w h o c d
  · obtain ⟨f1, f2, f3, _, _⟩ := st_facts h1
    rw [if_pos (decide_eq_true h1), f1, Bool.true_and]
    by_cases h2 : icell w h g = true
    · rw [if_pos h2]
      by_cases h3 : g = c
      · rw [if_pos (by simpa using h3)]; simp [h3]
      · have cc := icell_iff.1 f2
        have cs := icell_iff.1 f3
        rw [if_neg (by simpa using h3), spec_l04Distances_eq (by omega) h2, Option.bind_some, if_pos cc.1, if_pos (by rw [dists_length h2]; exact cc.2)]
        show (if dst w h o g c ≥ 0 then _ else _) = _
        by_cases h4 : dst w h o g c ≥ 0
        · rw [if_pos h4, spec_Step_eq (by omega), Option.bind_some, if_pos cs.1, if_pos (by rw [dists_length h2]; exact cs.2)]
          show some (decide (dst w h o g (st w h o c d) < dst w h o g c)) = _
          simp [h1, h2, h3]
        · rw [if_neg h4]
          have h5 := dst_bd (o := o) h2 f2
          have h6 := dst_step h2 h1 (by omega : dst w h o g c = -1)
          have : ¬ dst w h o g (st w h o c d) < dst w h o g c := by omega
          simp [this]
    · rw [if_neg h2]; simp [h2]
  · rw [if_neg (by simpa using h1)]; simp [h1]
end Go.Proofs.Ytioplamkdoelpaa.F
end

section
namespace Go.Proofs.Ytioplamkdoelpaa.F
open Go.RowKit Go.Proofs.YtioplamkdoelpaaW.PrintWords Go.Proofs.YtioplamkdoelpaaW.PrintLast Go.Proofs.YtioplamkdoelpaaW.PrintMore
set_option linter.unusedVariables false
set_option linter.unusedSimpArgs false
theorem FnExactIsTrue_pure : ∀ (a0_0 : Int) (a0_1 : Int) (a0_2 : Int) (a1_0 : Int) (a1_1 : Int) (a2 : Int), (I64 (a0_0)) → (I64 (a0_1)) → (I64 (a0_2)) → (I64 (a1_0)) → (I64 (a1_1)) → (I64 (a2)) → ∃ k, laws_FnExactIsTrue.f k a0_0 a0_1 a0_2 a1_0 a1_1 a2 = some true := by
  intro w h o c d g _ _ _ _ _ _
  refine ⟨210, ?_⟩
  unfold laws_FnExactIsTrue.f
  simp only [laws_toMaze.f, laws_toGrid.f, laws_toSign.f, Option.bind_some, spec_IsTrue_eq (Nat.le_refl 210), impl_IsTrue_eq (Nat.le_refl 210), bne_self_eq_false, Bool.false_eq_true, if_false]
end Go.Proofs.Ytioplamkdoelpaa.F
end
