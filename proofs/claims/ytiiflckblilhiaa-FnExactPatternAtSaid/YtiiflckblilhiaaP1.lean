/- Grids and mazes: what the program's and the reference's functions answer, as one plain model. -/
import Derived.Test.YtiiflckblilhiaaP0
import Derived.Test.YtiiflckblilhiaaDx250f53
import Derived.Test.YtiiflckblilhiaaDx3ded7d
import Derived.Test.YtiiflckblilhiaaDx538800
import Derived.Test.YtiiflckblilhiaaDx7fb8f2
namespace Go.Proofs.Ytiiflckblilhiaa.F
open Go.RowKit Go.Proofs.YtiiflckblilhiaaW.PrintWords Go.Proofs.YtiiflckblilhiaaW.PrintLast Go.Proofs.YtiiflckblilhiaaW.PrintMore
set_option linter.unusedVariables false
set_option linter.unusedSimpArgs false

def gok (w h : Int) : Bool := decide (1 ≤ w ∧ w ≤ 4 ∧ 1 ≤ h ∧ h ≤ 4)
theorem gok_iff {w h : Int} : gok w h = true ↔ 1 ≤ w ∧ w ≤ 4 ∧ 1 ≤ h ∧ h ≤ 4 := by simp [gok]
theorem gok_wide {w h : Int} (H : gok w h = true) : w = 1 ∨ w = 2 ∨ w = 3 ∨ w = 4 := by rw [gok_iff] at H; omega
theorem gok_high {w h : Int} (H : gok w h = true) : h = 1 ∨ h = 2 ∨ h = 3 ∨ h = 4 := by rw [gok_iff] at H; omega
def cells (w h : Int) : Int := if gok w h then w * h else 0
def gaps (w h : Int) : Int := if gok w h then (w - 1) * h + w * (h - 1) else 0
theorem cells_bd (w h : Int) : 0 ≤ cells w h ∧ cells w h ≤ 16 := by
  unfold cells
  by_cases H : gok w h = true
  · rw [if_pos H]
    rcases gok_wide H with rfl | rfl | rfl | rfl <;> rcases gok_high H with rfl | rfl | rfl | rfl <;> omega
  · rw [if_neg H]; omega
theorem gaps_bd (w h : Int) : 0 ≤ gaps w h ∧ gaps w h ≤ 24 := by
  unfold gaps
  by_cases H : gok w h = true
  · rw [if_pos H]
    rcases gok_wide H with rfl | rfl | rfl | rfl <;> rcases gok_high H with rfl | rfl | rfl | rfl <;> omega
  · rw [if_neg H]; omega

theorem impl_GridOk_eq (w h : Int) : impl_GridOk.f w h = some (gok w h) := by
  unfold impl_GridOk.f gok
  by_cases h1 : w ≥ 1 <;> by_cases h2 : w ≤ 4 <;> by_cases h3 : h ≥ 1 <;> simp [*] <;> omega
theorem spec_l01In_eq (x a b : Int) : spec_l01In.f x a b = some (decide (a ≤ x ∧ x ≤ b)) := by
  unfold spec_l01In.f
  by_cases h1 : x ≥ a
  · simp [h1]
  · rw [if_neg h1]; simp; omega
theorem spec_GridOk_eq (w h : Int) : spec_GridOk.f w h = some (gok w h) := by
  unfold spec_GridOk.f
  simp only [spec_l01In_eq, Option.bind_some]
  unfold gok
  by_cases h1 : 1 ≤ w ∧ w ≤ 4
  · simp [h1]
  · rw [if_neg (by simpa using h1)]; simp; omega
theorem gok_mul {w h : Int} (H : gok w h = true) : 1 ≤ w * h ∧ w * h ≤ 16 ∧ 0 ≤ (w - 1) * h ∧ (w - 1) * h ≤ 12 ∧ 0 ≤ w * (h - 1) ∧ w * (h - 1) ≤ 12 := by
  rcases gok_wide H with rfl | rfl | rfl | rfl <;> rcases gok_high H with rfl | rfl | rfl | rfl <;> omega
theorem impl_CountCells_eq (w h : Int) : impl_CountCells.f w h = some (cells w h) := by
  unfold impl_CountCells.f cells
  rw [impl_GridOk_eq, Option.bind_some]
  by_cases H : gok w h = true
  · have := gok_mul H
    rw [if_pos H, if_pos H, w64 (by omega) (by omega)]
  · rw [if_neg H, if_neg H]
theorem spec_CountCells_eq (w h : Int) : spec_CountCells.f w h = some (cells w h) := by
  unfold spec_CountCells.f cells
  rw [spec_GridOk_eq, Option.bind_some]
  by_cases H : gok w h = true
  · have := gok_mul H
    rw [if_pos H, if_pos H, w64 (by omega) (by omega)]
  · rw [if_neg H, if_neg H]
theorem impl_CountGaps_eq (w h : Int) : impl_CountGaps.f w h = some (gaps w h) := by
  unfold impl_CountGaps.f gaps
  rw [impl_GridOk_eq, Option.bind_some]
  by_cases H : gok w h = true
  · have := gok_mul H
    have b := gok_iff.1 H
    rw [if_pos H, if_pos H, w64 (x := w - 1) (by omega) (by omega), w64 (x := h - 1) (by omega) (by omega), w64 (x := (w - 1) * h) (by omega) (by omega), w64 (x := w * (h - 1)) (by omega) (by omega), w64 (by omega) (by omega)]
  · rw [if_neg H, if_neg H]
theorem spec_CountGaps_eq (w h : Int) : spec_CountGaps.f w h = some (gaps w h) := by
  unfold spec_CountGaps.f spec_l02East.f gaps
  rw [spec_GridOk_eq, Option.bind_some]
  by_cases H : gok w h = true
  · have := gok_mul H
    have b := gok_iff.1 H
    rw [if_pos H, if_pos H, Option.bind_some, w64 (x := w - 1) (by omega) (by omega), w64 (x := h - 1) (by omega) (by omega), Int.mul_comm h (w - 1), w64 (x := (w - 1) * h) (by omega) (by omega), w64 (x := w * (h - 1)) (by omega) (by omega), w64 (by omega) (by omega)]
  · rw [if_neg H, if_neg H]

/-- Is there such a cell, such a gap? -/
def icell (w h c : Int) : Bool := decide (0 ≤ c ∧ c < cells w h)
def igap (w h g : Int) : Bool := decide (0 ≤ g ∧ g < gaps w h)
theorem icell_iff {w h c : Int} : icell w h c = true ↔ 0 ≤ c ∧ c < cells w h := by simp [icell]
theorem igap_iff {w h c : Int} : igap w h c = true ↔ 0 ≤ c ∧ c < gaps w h := by simp [igap]
theorem impl_isCell_eq (w h c : Int) : impl_isCell.f w h c = some (icell w h c) := by
  unfold impl_isCell.f icell
  rw [impl_CountCells_eq]
  by_cases h1 : c ≥ 0
  · rw [if_pos h1]; simp [h1]
  · rw [if_neg h1]; simp; omega
theorem impl_isGap_eq (w h c : Int) : impl_isGap.f w h c = some (igap w h c) := by
  unfold impl_isGap.f igap
  rw [impl_CountGaps_eq]
  by_cases h1 : c ≥ 0
  · rw [if_pos h1]; simp [h1]
  · rw [if_neg h1]; simp; omega
theorem in_cells (w h c : Int) : decide (0 ≤ c ∧ c ≤ wrap64 (cells w h - 1)) = icell w h c := by
  have := cells_bd w h
  rw [w64 (by omega) (by omega)]
  unfold icell
  rw [Bool.eq_iff_iff]; simp; omega
theorem in_gaps (w h c : Int) : decide (0 ≤ c ∧ c ≤ wrap64 (gaps w h - 1)) = igap w h c := by
  have := gaps_bd w h
  rw [w64 (by omega) (by omega)]
  unfold igap
  rw [Bool.eq_iff_iff]; simp; omega
theorem icell_gok {w h c : Int} (H : icell w h c = true) : gok w h = true := by
  rw [icell_iff] at H
  unfold cells at H
  by_cases G : gok w h = true
  · exact G
  · rw [if_neg G] at H; omega
theorem icell_mul {w h c : Int} (H : icell w h c = true) : 0 ≤ c ∧ c < w * h := by
  have G := icell_gok H
  rw [icell_iff] at H
  unfold cells at H
  rwa [if_pos G] at H

/-- The neighbor, or -1. -/
def nb (w h c d : Int) : Int :=
  if icell w h c then
    (if d = 0 then (if c / w > 0 then c - w else -1) else if d = 1 then (if c % w < w - 1 then c + 1 else -1) else if d = 2 then (if c / w < h - 1 then c + w else -1) else if d = 3 then (if c % w > 0 then c - 1 else -1) else -1)
  else -1

theorem div_facts {w h c : Int} (G : gok w h = true) (H : 0 ≤ c ∧ c < w * h) : Int.tdiv c w = c / w ∧ Int.tmod c w = c % w ∧ wrap64 (c / w) = c / w ∧ 0 ≤ c / w ∧ c / w < h ∧ 0 ≤ c % w ∧ c % w < w ∧ w * (c / w) + c % w = c := by
  have b := gok_iff.1 G
  have e1 : Int.tdiv c w = c / w := Int.tdiv_eq_ediv_of_nonneg H.1
  have e2 : Int.tmod c w = c % w := Int.tmod_eq_emod_of_nonneg H.1
  have e3 : 0 ≤ c / w := Int.ediv_nonneg H.1 (by omega)
  have e4 : c / w < h := by
    apply Int.ediv_lt_of_lt_mul (by omega)
    rw [Int.mul_comm]; exact H.2
  exact ⟨e1, e2, w64 (by omega) (by omega), e3, e4, Int.emod_nonneg _ (by omega), Int.emod_lt_of_pos _ (by omega), Int.mul_ediv_add_emod c w⟩

theorem impl_Neighbor_eq {k : Nat} (hk : 3 ≤ k) (w h c d : Int) : impl_Neighbor.f k w h c d = some (nb w h c d) := by
  obtain ⟨m, rfl⟩ : ∃ m, k = m + 3 := ⟨k - 3, by omega⟩
  unfold impl_Neighbor.f nb
  rw [impl_isCell_eq, Option.bind_some]
  by_cases H : icell w h c = true
  · have G := icell_gok H
    have b := gok_iff.1 G
    have hc := icell_mul H
    have hm := gok_mul G
    obtain ⟨e1, e2, e3, y0, y1, x0, x1, hq⟩ := div_facts G hc
    rw [if_pos H, if_pos H, if_neg (by omega), e1, e2, e3]
    simp only [impl_Neighbor.j0, impl_Neighbor.j1, impl_Neighbor.j2]
    rw [w64 (x := w - 1) (by omega) (by omega), w64 (x := h - 1) (by omega) (by omega)]
    by_cases d0 : d = 0
    · subst d0
      by_cases t : c / w > 0 <;> simp [t, w64 (x := c - w) (by omega) (by omega)]
    by_cases d1 : d = 1
    · subst d1
      by_cases t : c % w < w - 1 <;> simp [t, w64 (x := c + 1) (by omega) (by omega)]
    by_cases d2 : d = 2
    · subst d2
      by_cases t : c / w < h - 1 <;> simp [t, w64 (x := c + w) (by omega) (by omega)]
    by_cases d3 : d = 3
    · subst d3
      by_cases t : c % w > 0 <;> simp [t, w64 (x := c - 1) (by omega) (by omega)]
    simp [d0, d1, d2, d3]
  · rw [if_neg H, if_neg H]

theorem spec_j0_eq {w h : Int} (G : gok w h = true) (m : Nat) {x y : Int} : spec_Neighbor.j0 (m + 1) x y w h = some (if 0 ≤ x ∧ x ≤ w - 1 ∧ 0 ≤ y ∧ y ≤ h - 1 then y * w + x else -1) := by
  have b := gok_iff.1 G
  simp only [spec_Neighbor.j0, spec_l01In_eq, Option.bind_some, decide_eq_true_eq]
  rw [w64 (x := w - 1) (by omega) (by omega), w64 (x := h - 1) (by omega) (by omega)]
  by_cases h1 : 0 ≤ x ∧ x ≤ w - 1
  · rw [if_pos h1]
    by_cases h2 : 0 ≤ y ∧ y ≤ h - 1
    · have l1 : y * w ≤ 3 * 4 := Int.mul_le_mul (by omega) (by omega) (by omega) (by omega)
      have l0 : 0 ≤ y * w := Int.mul_nonneg (by omega) (by omega)
      rw [if_pos h2, if_pos ⟨h1.1, h1.2, h2.1, h2.2⟩, w64 (x := y * w) (by omega) (by omega), w64 (by omega) (by omega)]
    · rw [if_neg h2, if_neg (fun h => h2 ⟨h.2.2.1, h.2.2.2⟩)]
  · rw [if_neg h1, if_neg (fun h => h1 ⟨h.1, h.2.1⟩)]
theorem spec_Neighbor_eq {k : Nat} (hk : 1 ≤ k) (w h c d : Int) : spec_Neighbor.f k w h c d = some (nb w h c d) := by
  obtain ⟨m, rfl⟩ : ∃ m, k = m + 1 := ⟨k - 1, by omega⟩
  unfold spec_Neighbor.f nb
  rw [spec_CountCells_eq, Option.bind_some, spec_l01In_eq, Option.bind_some, in_cells]
  by_cases H : icell w h c = true
  · have G := icell_gok H
    have b := gok_iff.1 G
    have hc := icell_mul H
    have hm := gok_mul G
    obtain ⟨e1, e2, e3, y0, y1, x0, x1, hq⟩ := div_facts G hc
    rw [if_pos H, if_pos H, if_neg (by omega), e1, e2, e3, w64 (x := c / w - 1) (by omega) (by omega), w64 (x := c / w + 1) (by omega) (by omega), w64 (x := c % w - 1) (by omega) (by omega), w64 (x := c % w + 1) (by omega) (by omega)]
    simp only [spec_j0_eq G]
    have p1 : (c / w - 1) * w = w * (c / w) - w := by rw [Int.sub_mul, Int.one_mul, Int.mul_comm]
    have p2 : (c / w + 1) * w = w * (c / w) + w := by rw [Int.add_mul, Int.one_mul, Int.mul_comm]
    have p3 : (c / w) * w = w * (c / w) := Int.mul_comm _ _
    rw [p1, p2, p3]
    by_cases d0 : d = 0
    · rw [if_pos d0, if_pos d0]
      by_cases t : c / w > 0
      · rw [if_pos (by omega), if_pos t]; congr 1; omega
      · rw [if_neg (by omega), if_neg t]
    rw [if_neg d0, if_neg d0]
    by_cases d1 : d = 1
    · rw [if_pos d1, if_pos d1]
      by_cases t : c % w < w - 1
      · rw [if_pos (by omega), if_pos t]; congr 1; omega
      · rw [if_neg (by omega), if_neg t]
    rw [if_neg d1, if_neg d1]
    by_cases d2 : d = 2
    · rw [if_pos d2, if_pos d2]
      by_cases t : c / w < h - 1
      · rw [if_pos (by omega), if_pos t]; congr 1; omega
      · rw [if_neg (by omega), if_neg t]
    rw [if_neg d2, if_neg d2]
    by_cases d3 : d = 3
    · rw [if_pos d3, if_pos d3]
      by_cases t : c % w > 0
      · rw [if_pos (by omega), if_pos t]; congr 1; omega
      · rw [if_neg (by omega), if_neg t]
    rw [if_neg d3, if_neg d3]
  · rw [if_neg H, if_neg H]
end Go.Proofs.Ytiiflckblilhiaa.F
