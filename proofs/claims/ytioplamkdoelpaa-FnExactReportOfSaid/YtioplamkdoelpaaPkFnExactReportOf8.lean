/- Packed by a program of the session (wip/tools/pack.py): what the claim's theorem reaches, of the texts that wip/ and the kit's printer lay. -/
import Derived.Test.YtioplamkdoelpaaPkFnExactReportOf7
section
namespace Go.Proofs.Ytioplamkdoelpaa.F
open Go.RowKit Go.Proofs.YtioplamkdoelpaaW.PrintWords Go.Proofs.YtioplamkdoelpaaW.PrintLast Go.Proofs.YtioplamkdoelpaaW.PrintMore
set_option linter.unusedVariables false
set_option linter.unusedSimpArgs false
def gok (w h : Int) : Bool := decide (1 ≤ w ∧ w ≤ 4 ∧ 1 ≤ h ∧ h ≤ 4)
theorem gok_iff {w h : Int} : gok w h = true ↔ 1 ≤ w ∧ w ≤ 4 ∧ 1 ≤ h ∧ h ≤ 4 := by simp [gok]
theorem gok_wide {w h : Int} (H : gok w h = true) : w = 1 ∨ w = 2 ∨ w = 3 ∨ w = 4 := by rw [gok_iff] at H; omega
theorem gok_high {w h : Int} (H : gok w h = true) : h = 1 ∨ h = 2 ∨ h = 3 ∨ h = 4 := by rw [gok_iff] at H; omega
def cells (w h : Int) : Int := if gok w h then w * h else 0
def gaps (w h : Int) : Int := if gok w h then (w - 1) * h + w * (h - 1) else 0
theorem cells_bd (w h : Int) : 0 ≤ cells w h ∧ cells w h ≤ 16 := by
  unfold cells
  by_cases H : gok w h = true
  · rw [if_pos H]
    rcases gok_wide H with rfl | rfl | rfl | rfl <;> rcases gok_high H with rfl | rfl | rfl | rfl <;> omega
  · rw [if_neg H]; omega
theorem gaps_bd (w h : Int) : 0 ≤ gaps w h ∧ gaps w h ≤ 24 := by
  unfold gaps
  by_cases H : gok w h = true
  · rw [if_pos H]
    rcases gok_wide H with rfl | rfl | rfl | rfl <;> rcases gok_high H with rfl | rfl | rfl | rfl <;> omega
  · rw [if_neg H]; omega
theorem impl_GridOk_eq (w h : Int) : impl_GridOk.f w h = some (gok w h) := by
  unfold impl_GridOk.f gok
  by_cases h1 : w ≥ 1 <;> by_cases h2 : w ≤ 4 <;> by_cases h3 : h ≥ 1 <;> simp [*] <;> omega
theorem spec_l01In_eq (x a b : Int) : spec_l01In.f x a b = some (decide (a ≤ x ∧ x ≤ b)) := by
  unfold spec_l01In.f
  by_cases h1 : x ≥ a
  · simp [h1]
  · rw [if_neg h1]; simp; omega
theorem spec_GridOk_eq (w h : Int) : spec_GridOk.f w h = some (gok w h) := by
  unfold spec_GridOk.f
  simp only [spec_l01In_eq, Option.bind_some]
  unfold gok
  by_cases h1 : 1 ≤ w ∧ w ≤ 4
  · simp [h1]
  · rw [if_neg (by simpa using h1)]; simp; omega
theorem gok_mul {w h : Int} (H : gok w h = true) : 1 ≤ w * h ∧ w * h ≤ 16 ∧ 0 ≤ (w - 1) * h ∧ (w - 1) * h ≤ 12 ∧ 0 ≤ w * (h - 1) ∧ w * (h - 1) ≤ 12 := by
  rcases gok_wide H with rfl | rfl | rfl | rfl <;> rcases gok_high H with rfl | rfl | rfl | rfl <;> omega
theorem impl_CountCells_eq (w h : Int) : impl_CountCells.f w h = some (cells w h) := by
  unfold impl_CountCells.f cells
  rw [impl_GridOk_eq, Option.bind_some]
  by_cases H : gok w h = true
  · have := gok_mul H
    rw [if_pos H, if_pos H, w64 (by omega) (by omega)]
  · rw [if_neg H, if_neg H]
theorem spec_CountCells_eq (w h : Int) : spec_CountCells.f w h = some (cells w h) := by
  unfold spec_CountCells.f cells
  rw [spec_GridOk_eq, Option.bind_some]
  by_cases H : gok w h = true
  · have := gok_mul H
    rw [if_pos H, if_pos H, w64 (by omega) (by omega)]
  · rw [if_neg H, if_neg H]
theorem impl_CountGaps_eq (w h : Int) : impl_CountGaps.f w h = some (gaps w h) := by
  unfold impl_CountGaps.f gaps
  rw [impl_GridOk_eq, Option.bind_some]
  by_cases H : gok w h = true
  · have := gok_mul H
    have b := gok_iff.1 H
    rw [if_pos H, if_pos H, w64 (x := w - 1) (by omega) (by omega), w64 (x := h - 1) (by omega) (by omega), w64 (x := (w - 1) * h) (by omega) (by omega), w64 (x := w * (h - 1)) (by omega) (by omega), w64 (by omega) (by omega)]
  · rw [if_neg H, if_neg H]
theorem spec_CountGaps_eq (w h : Int) : spec_CountGaps.f w h = some (gaps w h) := by
  unfold spec_CountGaps.f spec_l02East.f gaps
  rw [spec_GridOk_eq, Option.bind_some]
  by_cases H : gok w h = true
  · have := gok_mul H
    have b := gok_iff.1 H
    rw [if_pos H, if_pos H, Option.bind_some, w64 (x := w - 1) (by omega) (by omega), w64 (x := h - 1) (by omega) (by omega), Int.mul_comm h (w - 1), w64 (x := (w - 1) * h) (by omega) (by omega), w64 (x := w * (h - 1)) (by omega) (by omega), w64 (by omega) (by omega)]
  · rw [if_neg H, if_neg H]
def icell (w h c : Int) : Bool := decide (0 ≤ c ∧ c < cells w h)
def igap (w h g : Int) : Bool := decide (0 ≤ g ∧ g < gaps w h)
theorem icell_iff {w h c : Int} : icell w h c = true ↔ 0 ≤ c ∧ c < cells w h := by simp [icell]
theorem igap_iff {w h c : Int} : igap w h c = true ↔ 0 ≤ c ∧ c < gaps w h := by simp [igap]
theorem impl_isCell_eq (w h c : Int) : impl_isCell.f w h c = some (icell w h c) := by
  unfold impl_isCell.f icell
  rw [impl_CountCells_eq]
  by_cases h1 : c ≥ 0
  · rw [if_pos h1]; simp [h1]
  · rw [if_neg h1]; simp; omega
theorem in_cells (w h c : Int) : decide (0 ≤ c ∧ c ≤ wrap64 (cells w h - 1)) = icell w h c := by
  have := cells_bd w h
  rw [w64 (by omega) (by omega)]
  unfold icell
  rw [Bool.eq_iff_iff]; simp; omega
theorem in_gaps (w h c : Int) : decide (0 ≤ c ∧ c ≤ wrap64 (gaps w h - 1)) = igap w h c := by
  have := gaps_bd w h
  rw [w64 (by omega) (by omega)]
  unfold igap
  rw [Bool.eq_iff_iff]; simp; omega
theorem icell_gok {w h c : Int} (H : icell w h c = true) : gok w h = true := by
  rw [icell_iff] at H
  unfold cells at H
  by_cases G : gok w h = true
  · exact G
  · rw [if_neg G] at H; omega
theorem icell_mul {w h c : Int} (H : icell w h c = true) : 0 ≤ c ∧ c < w * h := by
  have G := icell_gok H
  rw [icell_iff] at H
  unfold cells at H
  rwa [if_pos G] at H
def nb (w h c d : Int) : Int :=
  if icell w h c then
    (if d = 0 then (if c / w > 0 then c - w else -1) else if d = 1 then (if c % w < w - 1 then c + 1 else -1) else if d = 2 then (if c / w < h - 1 then c + w else -1) else if d = 3 then (if c % w > 0 then c - 1 else -1) else -1)
  else -1
theorem div_facts {w h c : Int} (G : gok w h = true) (H : 0 ≤ c ∧ c < w * h) : Int.tdiv c w = c / w ∧ Int.tmod c w = c % w ∧ wrap64 (c / w) = c / w ∧ 0 ≤ c / w ∧ c / w < h ∧ 0 ≤ c % w ∧ c % w < w ∧ w * (c / w) + c % w = c := by
  have b := gok_iff.1 G
  have e1 : Int.tdiv c w = c / w := Int.tdiv_eq_ediv_of_nonneg H.1
  have e2 : Int.tmod c w = c % w := Int.tmod_eq_emod_of_nonneg H.1
  have e3 : 0 ≤ c / w := Int.ediv_nonneg H.1 (by omega)
  have e4 : c / w < h := by
    apply Int.ediv_lt_of_lt_mul (by omega)
    rw [Int.mul_comm]; exact H.2
  exact ⟨e1, e2, w64 (by omega) (by omega), e3, e4, Int.emod_nonneg _ (by omega), Int.emod_lt_of_pos _ (by omega), Int.mul_ediv_add_emod c w⟩
theorem impl_Neighbor_eq {k : Nat} (hk : 3 ≤ k) (w h c d : Int) : impl_Neighbor.f k w h c d = some (nb w h c d) := by
  obtain ⟨m, rfl⟩ : ∃ m, k = m + 3 := ⟨k - 3, by omega⟩
  unfold impl_Neighbor.f nb
  rw [impl_isCell_eq, Option.bind_some]
  by_cases H : icell w h c = true
  · have G := icell_gok H
    have b := gok_iff.1 G
    have hc := icell_mul H
    have hm := gok_mul G
    obtain ⟨e1, e2, e3, y0, y1, x0, x1, hq⟩ := div_facts G hc
    rw [if_pos H, if_pos H, if_neg (by omega), e1, e2, e3]
    simp only [impl_Neighbor.j0, impl_Neighbor.j1, impl_Neighbor.j2]
    rw [w64 (x := w - 1) (by omega) (by omega), w64 (x := h - 1) (by omega) (by omega)]
    by_cases d0 : d = 0
    · subst d0
      by_cases t : c / w > 0 <;> simp [t, w64 (x := c - w) (by omega) (by omega)]
    by_cases d1 : d = 1
    · subst d1
      by_cases t : c % w < w - 1 <;> simp [t, w64 (x := c + 1) (by omega) (by omega)]
    by_cases d2 : d = 2
    · subst d2
      by_cases t : c / w < h - 1 <;> simp [t, w64 (x := c + w) (by omega) (by omega)]
    by_cases d3 : d = 3
    · subst d3
      by_cases t : c % w > 0 <;> simp [t, w64 (x := c - 1) (by omega) (by omega)]
    simp [d0, d1, d2, d3]
  · rw [if_neg H, if_neg H]
theorem spec_j0_eq {w h : Int} (G : gok w h = true) (m : Nat) {x y : Int} : spec_Neighbor.j0 (m + 1) x y w h = some (if 0 ≤ x ∧ x ≤ w - 1 ∧ 0 ≤ y ∧ y ≤ h - 1 then y * w + x else -1) := by
  have b := gok_iff.1 G
  simp only [spec_Neighbor.j0, spec_l01In_eq, Option.bind_some, decide_eq_true_eq]
  rw [w64 (x := w - 1) (by omega) (by omega), w64 (x := h - 1) (by omega) (by omega)]
  by_cases h1 : 0 ≤ x ∧ x ≤ w - 1
  · rw [if_pos h1]
    by_cases h2 : 0 ≤ y ∧ y ≤ h - 1
    · have l1 : y * w ≤ 3 * 4 := Int.mul_le_mul (by omega) (by omega) (by omega) (by omega)
      have l0 : 0 ≤ y * w := Int.mul_nonneg (by omega) (by omega)
      rw [if_pos h2, if_pos ⟨h1.1, h1.2, h2.1, h2.2⟩, w64 (x := y * w) (by omega) (by omega), w64 (by omega) (by omega)]
    · rw [if_neg h2, if_neg (fun h => h2 ⟨h.2.2.1, h.2.2.2⟩)]
  · rw [if_neg h1, if_neg (fun h => h1 ⟨h.1, h.2.1⟩)]
theorem spec_Neighbor_eq {k : Nat} (hk : 1 ≤ k) (w h c d : Int) : spec_Neighbor.f k w h c d = some (nb w h c d) := by
  obtain ⟨m, rfl⟩ : ∃ m, k = m + 1 := ⟨k - 1, by omega⟩
  unfold spec_Neighbor.f nb
  rw [spec_CountCells_eq, Option.bind_some, spec_l01In_eq, Option.bind_some, in_cells]
  by_cases H : icell w h c = true
  · have G := icell_gok H
    have b := gok_iff.1 G
    have hc := icell_mul H
    have hm := gok_mul G
    obtain ⟨e1, e2, e3, y0, y1, x0, x1, hq⟩ := div_facts G hc
    rw [if_pos H, if_pos H, if_neg (by omega), e1, e2, e3, w64 (x := c / w - 1) (by omega) (by omega), w64 (x := c / w + 1) (by omega) (by omega), w64 (x := c % w - 1) (by omega) (by omega), w64 (x := c % w + 1) (by omega) (by omega)]
    simp only [spec_j0_eq G]
    have p1 : (c / w - 1) * w = w * (c / w) - w := by rw [Int.sub_mul, Int.one_mul, Int.mul_comm]
    have p2 : (c / w + 1) * w = w * (c / w) + w := by rw [Int.add_mul, Int.one_mul, Int.mul_comm]
    have p3 : (c / w) * w = w * (c / w) := Int.mul_comm _ _
    rw [p1, p2, p3]
    by_cases d0 : d = 0
    · rw [if_pos d0, if_pos d0]
      by_cases t : c / w > 0
      · rw [if_pos (by omega), if_pos t]; congr 1; omega
      · rw [if_neg (by omega), if_neg t]
    rw [if_neg d0, if_neg d0]
    by_cases d1 : d = 1
    · rw [if_pos d1, if_pos d1]
      by_cases t : c % w < w - 1
      · rw [if_pos (by omega), if_pos t]; congr 1; omega
      · rw [if_neg (by omega), if_neg t]
    rw [if_neg d1, if_neg d1]
    by_cases d2 : d = 2
    · rw [if_pos d2, if_pos d2]
      by_cases t : c / w < h - 1
      · rw [if_pos (by omega), if_pos t]; congr 1; omega
      · rw [if_neg (by omega), if_neg t]
    rw [if_neg d2, if_neg d2]
    by_cases d3 : d = 3
    · rw [if_pos d3, if_pos d3]
      by_cases t : c % w > 0
      · rw [if_pos (by omega), if_pos t]; congr 1; omega
      · rw [if_neg (by omega), if_neg t]
    rw [if_neg d3, if_neg d3]
  · rw [if_neg H, if_neg H]
end Go.Proofs.Ytioplamkdoelpaa.F
end

section
namespace Go.Proofs.Ytioplamkdoelpaa.F
open Go.RowKit Go.Proofs.YtioplamkdoelpaaW.PrintWords Go.Proofs.YtioplamkdoelpaaW.PrintLast Go.Proofs.YtioplamkdoelpaaW.PrintMore
set_option linter.unusedVariables false
set_option linter.unusedSimpArgs false
theorem mn_min (a b : Int) : mn a b = min a b := by unfold mn; omega
theorem nb_facts {w h c d : Int} (H : 0 ≤ nb w h c d) : icell w h c = true ∧ icell w h (nb w h c d) = true ∧ 0 ≤ d ∧ d ≤ 3 := by
  unfold nb at H ⊢
  by_cases hc : icell w h c = true
  · have G := icell_gok hc
    have b := gok_iff.1 G
    have hm := icell_mul hc
    obtain ⟨_, _, _, y0, y1, x0, x1, hq⟩ := div_facts G hm
    rw [if_pos hc] at H ⊢
    have m1 : w * (c / w) ≤ w * (h - 1) := Int.mul_le_mul_of_nonneg_left (by omega) (by omega)
    have m2 : w * (h - 1) = w * h - w := by rw [Int.mul_sub, Int.mul_one]
    have ce : cells w h = w * h := by unfold cells; rw [if_pos G]
    refine ⟨hc, ?_, ?_⟩
    · rw [icell_iff, ce]
      by_cases d0 : d = 0
      · subst d0
        by_cases t : c / w > 0
        · have m3 : w * 1 ≤ w * (c / w) := Int.mul_le_mul_of_nonneg_left (by omega) (by omega)
          simp [t]; omega
        · simp [t] at H
      by_cases d1 : d = 1
      · subst d1
        by_cases t : c % w < w - 1
        · simp [t]; omega
        · simp [t] at H
      by_cases d2 : d = 2
      · subst d2
        by_cases t : c / w < h - 1
        · have m4 : w * (c / w + 1) ≤ w * (h - 1) := Int.mul_le_mul_of_nonneg_left (by omega) (by omega)
          rw [Int.mul_add, Int.mul_one] at m4
          simp [t]; omega
        · simp [t] at H
      by_cases d3 : d = 3
      · subst d3
        by_cases t : c % w > 0
        · simp [t]; omega
        · simp [t] at H
      simp [d0, d1, d2, d3] at H
    · by_cases d0 : d = 0
      · omega
      by_cases d1 : d = 1
      · omega
      by_cases d2 : d = 2
      · omega
      by_cases d3 : d = 3
      · omega
      simp [d0, d1, d2, d3] at H
  · rw [if_neg hc] at H; omega
def gp (w h c d : Int) : Int :=
  if nb w h c d < 0 then -1 else if d = 1 ∨ d = 3 then min c (nb w h c d) / w * (w - 1) + min c (nb w h c d) % w else (w - 1) * h + min c (nb w h c d)
theorem gp_neg {w h c d : Int} (H : nb w h c d < 0) : gp w h c d = -1 := by unfold gp; rw [if_pos H]
theorem min_facts {w h c d : Int} (H : 0 ≤ nb w h c d) : 0 ≤ min c (nb w h c d) ∧ min c (nb w h c d) < w * h ∧ gok w h = true := by
  obtain ⟨h1, h2, _, _⟩ := nb_facts H
  have a := icell_mul h1
  have b := icell_mul h2
  exact ⟨by omega, by omega, icell_gok h1⟩
theorem impl_GapAt_eq {k : Nat} (hk : 3 ≤ k) (w h c d : Int) : impl_GapAt.f k w h c d = some (gp w h c d) := by
  unfold impl_GapAt.f gp
  rw [impl_Neighbor_eq hk, Option.bind_some]
  by_cases H : nb w h c d < 0
  · rw [if_pos H, if_pos H]
  · have H' : 0 ≤ nb w h c d := by omega
    obtain ⟨m0, m1, G⟩ := min_facts H'
    have b := gok_iff.1 G
    have hm := gok_mul G
    rw [if_neg H, if_neg H, mn_min]
    obtain ⟨e1, e2, e3, y0, y1, x0, x1, hq⟩ := div_facts G ⟨m0, m1⟩
    have l1 : min c (nb w h c d) / w * (w - 1) ≤ 3 * 3 := Int.mul_le_mul (by omega) (by omega) (by omega) (by omega)
    have l0 : 0 ≤ min c (nb w h c d) / w * (w - 1) := Int.mul_nonneg y0 (by omega)
    have t1 : wrap64 (wrap64 (wrap64 (Int.tdiv (min c (nb w h c d)) w) * wrap64 (w - 1)) + Int.tmod (min c (nb w h c d)) w) = min c (nb w h c d) / w * (w - 1) + min c (nb w h c d) % w := by
      rw [e1, e2, e3, w64 (x := w - 1) (by omega) (by omega), w64 (x := _ * _) (by omega) (by omega), w64 (by omega) (by omega)]
    have t2 : wrap64 (wrap64 (wrap64 (w - 1) * h) + min c (nb w h c d)) = (w - 1) * h + min c (nb w h c d) := by
      rw [w64 (x := w - 1) (by omega) (by omega), w64 (x := (w - 1) * h) (by omega) (by omega), w64 (by omega) (by omega)]
    rw [t1, t2]
    by_cases d1 : d = 1
    · simp [d1]; omega
    · by_cases d3 : d = 3
      · simp [d3]; omega
      · simp [d1, d3]
theorem spec_GapAt_eq {k : Nat} (hk : 1 ≤ k) (w h c d : Int) : spec_GapAt.f k w h c d = some (gp w h c d) := by
  unfold spec_GapAt.f gp
  rw [spec_Neighbor_eq hk, Option.bind_some]
  by_cases H : nb w h c d < 0
  · rw [if_pos H, if_pos H]
  · have H' : 0 ≤ nb w h c d := by omega
    obtain ⟨m0, m1, G⟩ := min_facts H'
    have b := gok_iff.1 G
    have hm := gok_mul G
    rw [if_neg H, if_neg H, mn_min]
    obtain ⟨e1, e2, e3, y0, y1, x0, x1, hq⟩ := div_facts G ⟨m0, m1⟩
    have l1 : min c (nb w h c d) / w * (w - 1) ≤ 3 * 3 := Int.mul_le_mul (by omega) (by omega) (by omega) (by omega)
    have l0 : 0 ≤ min c (nb w h c d) / w * (w - 1) := Int.mul_nonneg y0 (by omega)
    have t1 : wrap64 (wrap64 (wrap64 (Int.tdiv (min c (nb w h c d)) w) * wrap64 (w - 1)) + Int.tmod (min c (nb w h c d)) w) = min c (nb w h c d) / w * (w - 1) + min c (nb w h c d) % w := by
      rw [e1, e2, e3, w64 (x := w - 1) (by omega) (by omega), w64 (x := _ * _) (by omega) (by omega), w64 (by omega) (by omega)]
    have t2 : wrap64 (wrap64 (h * wrap64 (w - 1)) + min c (nb w h c d)) = (w - 1) * h + min c (nb w h c d) := by
      rw [w64 (x := w - 1) (by omega) (by omega), Int.mul_comm h, w64 (x := (w - 1) * h) (by omega) (by omega), w64 (by omega) (by omega)]
    simp only [spec_l02East.f, Option.bind_some]
    rw [t1, t2]
    by_cases d1 : d = 1
    · simp [d1]; omega
    · by_cases d3 : d = 3
      · simp [d3]; omega
      · simp [d1, d3]
def mok (w h o : Int) : Bool := gok w h && decide (0 ≤ o ∧ o < 2 ^ (gaps w h).toNat)
theorem mok_iff {w h o : Int} : mok w h o = true ↔ gok w h = true ∧ 0 ≤ o ∧ o < 2 ^ (gaps w h).toNat := by simp [mok]
theorem gpow (w h : Int) : (2 : Int) ^ (gaps w h).toNat ≤ 16777216 ∧ (1 : Int) ≤ 2 ^ (gaps w h).toNat := by
  have b := gaps_bd w h
  have p : (2 : Nat) ^ (gaps w h).toNat ≤ 2 ^ 24 := Nat.pow_le_pow_right (by decide) (by omega)
  have q : 0 < (2 : Nat) ^ (gaps w h).toNat := Nat.two_pow_pos _
  have e : ((2 : Int) ^ (gaps w h).toNat) = ((2 ^ (gaps w h).toNat : Nat) : Int) := by simp
  omega
theorem mok_small {w h o : Int} (H : mok w h o = true) : 0 ≤ o ∧ o < 16777216 := by
  have := mok_iff.1 H
  have := gpow w h
  omega
theorem shl_gaps (w h : Int) : shl .i64 1 (gaps w h) = 2 ^ (gaps w h).toNat := by
  have b := gaps_bd w h
  have := shl_one (g := (gaps w h).toNat) (by omega)
  rw [show (((gaps w h).toNat : Nat) : Int) = gaps w h from Int.toNat_of_nonneg b.1] at this
  rw [this]
  simp
theorem impl_MazeOk_eq (w h o : Int) : impl_MazeOk.f w h o = some (mok w h o) := by
  unfold impl_MazeOk.f mok
  have b := gaps_bd w h
  rw [impl_GridOk_eq, impl_CountGaps_eq]
  simp only [Option.bind_some, shl_gaps]
  by_cases G : gok w h = true
  · simp only [G, if_true, Bool.true_and]
    by_cases h0 : o ≥ 0
    · rw [if_pos h0, if_pos b.1]
      simp; omega
    · rw [if_neg h0]; simp; omega
  · simp [G]
theorem spec_MazeOk_eq (w h o : Int) : spec_MazeOk.f w h o = some (mok w h o) := by
  unfold spec_MazeOk.f mok
  have b := gaps_bd w h
  have p := gpow w h
  rw [spec_GridOk_eq, spec_CountGaps_eq]
  simp only [Option.bind_some, shl_gaps, w64 (x := (2 : Int) ^ (gaps w h).toNat - 1) (by omega) (by omega)]
  by_cases G : gok w h = true
  · simp only [Option.bind_some, G, if_true, Bool.true_and, spec_l01In_eq, if_pos b.1]
    congr 2
    exact propext ⟨fun h => ⟨h.1, by omega⟩, fun h => ⟨h.1, by omega⟩⟩
  · simp [G]
theorem impl_isOpen_eq {w h o : Int} (h0 : 0 ≤ o) (h1 : o < 9223372036854775808) (g : Int) : impl_isOpen.f w h o g = some (decide (0 ≤ g) && opn o g) := by
  unfold impl_isOpen.f
  by_cases hg : g ≥ 0
  · rw [if_pos hg, if_pos (by omega), bit_test h0 h1 (by omega)]
    simp; omega
  · rw [if_neg hg]
    simp; omega
theorem spec_l03Bit_eq {o : Int} (h0 : 0 ≤ o) (h1 : o < 9223372036854775808) {g : Int} (hg : 0 ≤ g) : spec_l03Bit.f o g = some (opn o g) := by
  unfold spec_l03Bit.f
  rw [if_pos hg, bit_test h0 h1 hg]
def psg (w h o g : Int) : Bool := mok w h o && igap w h g && opn o g
theorem spec_IsPassage_eq (w h o g : Int) : spec_IsPassage.f w h o g = some (psg w h o g) := by
  unfold spec_IsPassage.f psg
  rw [spec_MazeOk_eq, spec_CountGaps_eq]
  by_cases M : mok w h o = true
  · have s := mok_small M
    simp only [Option.bind_some, M, if_true, Bool.true_and, spec_l01In_eq, in_gaps]
    by_cases g1 : igap w h g = true
    · rw [if_pos g1, spec_l03Bit_eq s.1 (by omega) (igap_iff.1 g1).1]
      simp [g1]
    · rw [if_neg g1]; simp [g1]
  · simp [M]
theorem gp_range {w h c d : Int} (H : 0 ≤ nb w h c d) : igap w h (gp w h c d) = true := by
  obtain ⟨h1, h2, d0, d3⟩ := nb_facts H
  have G := icell_gok h1
  have a := icell_mul h1
  rw [igap_iff]
  unfold gp gaps
  rw [if_neg (by omega), if_pos G]
  have hd : d = 0 ∨ d = 1 ∨ d = 2 ∨ d = 3 := by omega
  revert H
  unfold nb
  rw [if_pos h1]
  rcases gok_wide G with rfl | rfl | rfl | rfl <;> rcases gok_high G with rfl | rfl | rfl | rfl <;> rcases hd with rfl | rfl | rfl | rfl <;> simp <;> split <;> omega
def st (w h o c d : Int) : Int := if psg w h o (gp w h c d) then nb w h c d else -1
theorem impl_Step_eq {k : Nat} (hk : 3 ≤ k) (w h o c d : Int) : impl_Step.f k w h o c d = some (st w h o c d) := by
  unfold impl_Step.f st psg
  rw [impl_MazeOk_eq]
  by_cases M : mok w h o = true
  · have s := mok_small M
    simp only [Option.bind_some, M, if_true, Bool.true_and, impl_GapAt_eq hk, impl_isOpen_eq s.1 (show o < 9223372036854775808 by omega), impl_Neighbor_eq hk]
    by_cases H : 0 ≤ nb w h c d
    · have r := gp_range H
      have := (igap_iff.1 r).1
      simp [r, this]
      split <;> rfl
    · rw [gp_neg (by omega)]
      simp [igap]
  · simp [M]
theorem spec_Step_eq {k : Nat} (hk : 1 ≤ k) (w h o c d : Int) : spec_Step.f k w h o c d = some (st w h o c d) := by
  unfold spec_Step.f st
  rw [spec_MazeOk_eq]
  by_cases M : mok w h o = true
  · simp only [Option.bind_some, M, if_true, spec_GapAt_eq hk, spec_IsPassage_eq, spec_Neighbor_eq hk]
    split <;> rfl
  · simp [M, psg]
end Go.Proofs.Ytioplamkdoelpaa.F
end

section
namespace Go.Proofs.Ytioplamkdoelpaa.F
open Go.RowKit Go.Proofs.YtioplamkdoelpaaW.PrintWords Go.Proofs.YtioplamkdoelpaaW.PrintLast Go.Proofs.YtioplamkdoelpaaW.PrintMore
set_option linter.unusedVariables false
set_option linter.unusedSimpArgs false
mutual
def spec_l04Distances.l0 : Nat → Int → List Int → Int → Int → Int → Int → Option (List Int)
  | 0, _, _, _, _, _, _ => none
  | k + 1, x1, x5, x6, x514000, x514001, x514002 => if x6 < (x5.length : Int) then (if 0 ≤ x6 then (spec_l04Distances.l0 k x1 (x5.set (x6 : Int).toNat (-1)) (wrap64 (x6 + 1)) x514000 x514001 x514002) else (none)) else (if 0 ≤ x1 then (if x1 < (x5.length : Int) then (spec_l04Distances.l1 k (x5.set (x1 : Int).toNat 0) (([x1] : List Int)) 0 x514000 x514001 x514002) else (none)) else (none))
def spec_l04Distances.l1 : Nat → List Int → List Int → Int → Int → Int → Int → Option (List Int)
  | 0, _, _, _, _, _, _ => none
  | k + 1, x5, x7, x8, x514000, x514001, x514002 => if x8 < (x7.length : Int) then (spec_l04Distances.l2 k x5 x7 x8 0 x514000 x514001 x514002) else (some x5)
def spec_l04Distances.l2 : Nat → List Int → List Int → Int → Int → Int → Int → Int → Option (List Int)
  | 0, _, _, _, _, _, _, _ => none
  | k + 1, x5, x7, x8, x9, x514000, x514001, x514002 => if x9 ≤ 3 then (if 0 ≤ x8 then (if x8 < (x7.length : Int) then ((spec_Step.f k x514000 x514001 x514002 (rd x7 x8) x9).bind fun t524 => (if t524 ≥ 0 then (if 0 ≤ t524 then (if t524 < (x5.length : Int) then (if (rd x5 t524) < 0 then (if 0 ≤ (rd x7 x8) then (if (rd x7 x8) < (x5.length : Int) then (if x7.length < 17592186044416 then (spec_l04Distances.l2 k (x5.set (t524 : Int).toNat (wrap64 ((rd x5 (rd x7 x8)) + 1))) (x7 ++ [t524]) x8 (wrap64 (x9 + 1)) x514000 x514001 x514002) else (none)) else (none)) else (none)) else (spec_l04Distances.l2 k x5 x7 x8 (wrap64 (x9 + 1)) x514000 x514001 x514002)) else (none)) else (none)) else (spec_l04Distances.l2 k x5 x7 x8 (wrap64 (x9 + 1)) x514000 x514001 x514002))) else (none)) else (none)) else (spec_l04Distances.l1 k x5 x7 (wrap64 (x8 + 1)) x514000 x514001 x514002)
end
def spec_l04Distances.f (k : Nat) (a0_0 : Int) (a0_1 : Int) (a0_2 : Int) (a1 : Int) : Option (List Int) := (spec_CountCells.f a0_0 a0_1).bind fun t514 => (if 0 ≤ t514 then (if (t514 : Int).toNat ≤ 35184372088832 then (spec_l04Distances.l0 k a1 (List.replicate (t514 : Int).toNat 0) 0 a0_0 a0_1 a0_2) else (none)) else (none))
def impl_WaysFrom.l0 : Nat → Int → List Int → Int → Int → Int → Int → Option (List Int)
  | 0, _, _, _, _, _, _ => none
  | k + 1, x1, x5, x6, x554000, x554001, x554002 => if x6 ≤ 3 then ((impl_Step.f k x554000 x554001 x554002 x1 x6).bind fun t554 => (if t554 ≥ 0 then (if x5.length < 17592186044416 then (impl_WaysFrom.l0 k x1 (x5 ++ [x6]) (wrap64 (x6 + 1)) x554000 x554001 x554002) else (none)) else (impl_WaysFrom.l0 k x1 x5 (wrap64 (x6 + 1)) x554000 x554001 x554002))) else (some x5)
def impl_WaysFrom.f (k : Nat) (a0_0 : Int) (a0_1 : Int) (a0_2 : Int) (a1 : Int) : Option (List Int) := impl_WaysFrom.l0 k a1 ([] : List Int) 0 a0_0 a0_1 a0_2
def math_bits_Mul32.f (a0 : Int) (a1 : Int) : Option (Int × Int) := some (((IntKind.u64.wrap ((IntKind.u64.wrap (a0)) * (IntKind.u64.wrap (a1)))) / 4294967296) % 4294967296, (IntKind.u64.wrap ((IntKind.u64.wrap (a0)) * (IntKind.u64.wrap (a1)))) % 4294967296)
def math_bits_Mul64.f (a0 : Int) (a1 : Int) : Option (Int × Int) := some (IntKind.u64.wrap ((IntKind.u64.wrap ((IntKind.u64.wrap ((a0 / 4294967296) * (a1 / 4294967296))) + ((IntKind.u64.wrap ((IntKind.u64.wrap ((a0 / 4294967296) * (Go.bits .and .u64 a1 4294967295))) + ((IntKind.u64.wrap ((Go.bits .and .u64 a0 4294967295) * (Go.bits .and .u64 a1 4294967295))) / 4294967296))) / 4294967296))) + ((IntKind.u64.wrap ((Go.bits .and .u64 (IntKind.u64.wrap ((IntKind.u64.wrap ((a0 / 4294967296) * (Go.bits .and .u64 a1 4294967295))) + ((IntKind.u64.wrap ((Go.bits .and .u64 a0 4294967295) * (Go.bits .and .u64 a1 4294967295))) / 4294967296))) 4294967295) + (IntKind.u64.wrap ((Go.bits .and .u64 a0 4294967295) * (a1 / 4294967296))))) / 4294967296)), IntKind.u64.wrap (a0 * a1))
def math_bits_Mul.f (a0 : Int) (a1 : Int) : Option (Int × Int) := (math_bits_Mul64.f a0 a1).bind fun bt558 => (some (bt558.1, bt558.2))
end Go.Proofs.Ytioplamkdoelpaa.F
end

section
namespace Go.Proofs.Ytioplamkdoelpaa.F
open Go.RowKit Go.Proofs.YtioplamkdoelpaaW.PrintWords Go.Proofs.YtioplamkdoelpaaW.PrintLast Go.Proofs.YtioplamkdoelpaaW.PrintMore
set_option linter.unusedVariables false
set_option linter.unusedSimpArgs false
def spec_l37Gaps.l0 : Nat → List Int → Int → Int → Int → Int → Option (Bool)
  | 0, _, _, _, _, _ => none
  | k + 1, x1, x5, x892000, x892001, x892002 => if x5 < (x1.length : Int) then (if 0 ≤ x5 then ((spec_CountGaps.f x892000 x892001).bind fun t894 => ((spec_l01In.f (rd x1 x5) 0 (wrap64 (t894 - 1))).bind fun t895 => (if t895 = true then (spec_l37Gaps.l0 k x1 (wrap64 (x5 + 1)) x892000 x892001 x892002) else (some false)))) else (none)) else ((spec_MazeOk.f x892000 x892001 x892002).bind fun t892 => (if t892 = true then (some (decide ((x1.length : Int) ≤ 100))) else (some false)))
def spec_l37Gaps.f (k : Nat) (a0_0 : Int) (a0_1 : Int) (a0_2 : Int) (l1 : List Int) : Option (Bool) := spec_l37Gaps.l0 k l1 0 a0_0 a0_1 a0_2
def spec_Reached.l0 : Nat → List Int → List Int → Int → Option (List Int)
  | 0, _, _, _ => none
  | k + 1, x5, x6, x7 => if x7 < (x6.length : Int) then (if 0 ≤ x7 then (if (rd x6 x7) ≥ 0 then (if x5.length < 17592186044416 then (spec_Reached.l0 k (x5 ++ [x7]) x6 (wrap64 (x7 + 1))) else (none)) else (spec_Reached.l0 k x5 x6 (wrap64 (x7 + 1)))) else (none)) else (some x5)
def spec_Reached.f (k : Nat) (a0_0 : Int) (a0_1 : Int) (a0_2 : Int) (a1 : Int) : Option (List Int) := (some (([] : List Int) : List Int)).bind fun y897 => ((spec_l04Has.f a0_0 a0_1 a0_2 a1).bind fun t900 => (if t900 = true then ((spec_l04Distances.f k a0_0 a0_1 a0_2 a1).bind fun t901 => (spec_Reached.l0 k y897 t901 0)) else (some y897)))
mutual
def spec_CountParts.l0 : Nat → Int → Int → Int → Int → Int → Option (Int)
  | 0, _, _, _, _, _ => none
  | k + 1, x3, x4, x909000, x909001, x909002 => (spec_CountCells.f x909000 x909001).bind fun t909 => (if x4 < t909 then ((spec_MazeOk.f x909000 x909001 x909002).bind fun t910 => (spec_CountParts.j1 k x3 x4 t910 x909000 x909001 x909002)) else (spec_CountParts.j1 k x3 x4 false x909000 x909001 x909002))
def spec_CountParts.j1 : Nat → Int → Int → Bool → Int → Int → Int → Option (Int)
  | 0, _, _, _, _, _, _ => none
  | k + 1, x3, x4, x13, x909000, x909001, x909002 => if x13 = true then ((spec_Reached.f k x909000 x909001 x909002 x4).bind fun t911 => (if 0 < (t911.length : Int) then (if (rd t911 0) = x4 then (spec_CountParts.l0 k (wrap64 (x3 + 1)) (wrap64 (x4 + 1)) x909000 x909001 x909002) else (spec_CountParts.l0 k x3 (wrap64 (x4 + 1)) x909000 x909001 x909002)) else (none))) else (some x3)
end
def spec_CountParts.f (k : Nat) (a0_0 : Int) (a0_1 : Int) (a0_2 : Int) : Option (Int) := spec_CountParts.l0 k 0 0 a0_0 a0_1 a0_2
def spec_IsConnected.f (k : Nat) (a0_0 : Int) (a0_1 : Int) (a0_2 : Int) : Option (Bool) := (spec_CountParts.f k a0_0 a0_1 a0_2).bind fun t916 => (some (t916 == 1))
mutual
def spec_IsSafeOrder.j0 : Nat → List Int → Bool → Int → Int → Int → Option (Bool)
  | 0, _, _, _, _, _ => none
  | k + 1, x1, x14, x918000, x918001, x918002 => if x14 = true then (some false) else (spec_IsSafeOrder.l0 k x1 0 x918000 x918001 x918002)
def spec_IsSafeOrder.l0 : Nat → List Int → Int → Int → Int → Int → Option (Bool)
  | 0, _, _, _, _, _ => none
  | k + 1, x1, x5, x918000, x918001, x918002 => if x5 < (x1.length : Int) then (if 0 ≤ x5 then (if 0 ≤ (rd x1 x5) then ((spec_IsConnected.f k x918000 x918001 (Go.bits .xor .i64 x918002 (shl .i64 1 (rd x1 x5)))).bind fun t921 => (if t921 = true then (spec_IsSafeOrder.l0 k x1 (wrap64 (x5 + 1)) x918000 x918001 (Go.bits .xor .i64 x918002 (shl .i64 1 (rd x1 x5)))) else (some false))) else (none)) else (none)) else (some true)
end
def spec_IsSafeOrder.f (k : Nat) (a0_0 : Int) (a0_1 : Int) (a0_2 : Int) (l1 : List Int) : Option (Bool) := (spec_l37Gaps.f k a0_0 a0_1 a0_2 l1).bind fun t918 => (if t918 = true then ((spec_IsConnected.f k a0_0 a0_1 a0_2).bind fun t919 => (spec_IsSafeOrder.j0 k l1 (!t919) a0_0 a0_1 a0_2)) else (spec_IsSafeOrder.j0 k l1 true a0_0 a0_1 a0_2))
def impl_areGaps.f (a0_0 a0_1 : Int) (l1 : List Int) : Option Bool := (impl_GridOk.f a0_0 a0_1).bind fun b => if b = true then (if l1.length ≤ 100 then allO (fun x => impl_isGap.f a0_0 a0_1 x) l1 else some false) else some false
def impl_upTo.l0 : Nat → Int → List Int → Int → Option (List Int)
  | 0, _, _, _ => none
  | k + 1, x0, x3, x4 => if x4 < x0 then (if x3.length < 17592186044416 then (impl_upTo.l0 k x0 (x3 ++ [x4]) (wrap64 (x4 + 1))) else (none)) else (some x3)
def impl_upTo.f (k : Nat) (a0 : Int) : Option (List Int) := impl_upTo.l0 k a0 ([] : List Int) 0
def impl_with.f (a0_0 : Int) (a0_1 : Int) (a0_2 : Int) (a1 : Int) (a2 : Bool) : Option (Int × Int × Int) := if 0 ≤ a1 then (if a2 = true then (some (a0_0, a0_1, Go.bits .or .i64 (Go.bits .andNot .i64 a0_2 (shl .i64 1 a1)) (shl .i64 1 a1))) else (some (a0_0, a0_1, Go.bits .andNot .i64 a0_2 (shl .i64 1 a1)))) else (none)
def impl_changed.f (a0_0 : Int) (a0_1 : Int) (a0_2 : Int) (a1 : Int) : Option (Int × Int × Int) := (impl_isOpen.f a0_0 a0_1 a0_2 a1).bind fun t940 => ((impl_with.f a0_0 a0_1 a0_2 a1 (!t940)).bind fun bt941 => (some (bt941.1, bt941.2.1, bt941.2.2)))
end Go.Proofs.Ytioplamkdoelpaa.F
end

section
namespace Go.Proofs.Ytioplamkdoelpaa.F
open Go.RowKit Go.Proofs.YtioplamkdoelpaaW.PrintWords Go.Proofs.YtioplamkdoelpaaW.PrintLast Go.Proofs.YtioplamkdoelpaaW.PrintMore
set_option linter.unusedVariables false
set_option linter.unusedSimpArgs false
theorem impl_isDirection_eq (d : Int) : impl_isDirection.f d = some (decide (0 ≤ d ∧ d ≤ 3)) := by
  unfold impl_isDirection.f
  by_cases h1 : d ≥ 0 <;> simp [h1] <;> omega
end Go.Proofs.Ytioplamkdoelpaa.F
end

section
namespace Go.Proofs.Ytioplamkdoelpaa.F
open Go.RowKit Go.Proofs.YtioplamkdoelpaaW.PrintWords Go.Proofs.YtioplamkdoelpaaW.PrintLast Go.Proofs.YtioplamkdoelpaaW.PrintMore
set_option linter.unusedVariables false
set_option linter.unusedSimpArgs false
def spec_SignOk.f (k : Nat) (a0_0 : Int) (a0_1 : Int) (a0_2 : Int) (a1_0 : Int) (a1_1 : Int) : Option (Bool) := (spec_l04Has.f a0_0 a0_1 a0_2 a1_0).bind fun t511 => (if t511 = true then ((spec_Step.f k a0_0 a0_1 a0_2 a1_0 a1_1).bind fun t512 => (some (decide (t512 ≥ 0)))) else (some false))
def laws_toSign.f (a0_0 : Int) (a0_1 : Int) : Option (Int × Int) := some (a0_0, a0_1)
def impl_SignOk.f (k : Nat) (a0_0 : Int) (a0_1 : Int) (a0_2 : Int) (a1_0 : Int) (a1_1 : Int) : Option (Bool) := (impl_isIn.f a0_0 a0_1 a0_2 (([a1_0] : List Int))).bind fun t551 => (if t551 = true then ((impl_Step.f k a0_0 a0_1 a0_2 a1_0 a1_1).bind fun t552 => (some (decide (t552 ≥ 0)))) else (some false))
def laws_szSignS.f (l0 : List (SlaSign)) (a1 : Int) : Option (Int) := if (wrap64 (a1 - (l0.length : Int))) < 0 then (some (-1)) else (some (wrap64 (a1 - (l0.length : Int))))
def laws_toSignS.l0 : Nat → List (SlaSign) → List (SSign) → Int → Option ((List (SSign)))
  | 0, _, _, _ => none
  | k + 1, x0, x3, x4 => if x4 < (x0.length : Int) then (if 0 ≤ x4 then ((laws_toSign.f ((rd_laSign x0 x4).f0) ((rd_laSign x0 x4).f1)).bind fun bt714 => (if x4 < (x3.length : Int) then (laws_toSignS.l0 k x0 (x3.set (x4 : Int).toNat (⟨bt714.1, bt714.2⟩ : SSign)) (wrap64 (x4 + 1))) else (none))) else (none)) else (some x3)
def laws_toSignS.f (k : Nat) (l0 : List (SlaSign)) : Option ((List (SSign))) := if 0 ≤ (l0.length : Int) then (if ((l0.length : Int) : Int).toNat ≤ 17592186044416 then (laws_toSignS.l0 k l0 (List.replicate ((l0.length : Int) : Int).toNat zSign) 0) else (none)) else (none)
end Go.Proofs.Ytioplamkdoelpaa.F
end

section
namespace Go.Proofs.Ytioplamkdoelpaa.F
open Go.RowKit Go.Proofs.YtioplamkdoelpaaW.PrintWords Go.Proofs.YtioplamkdoelpaaW.PrintLast Go.Proofs.YtioplamkdoelpaaW.PrintMore
set_option linter.unusedVariables false
set_option linter.unusedSimpArgs false
theorem impl_isIn_eq (w h o : Int) (l : List Int) : impl_isIn.f w h o l = some (mok w h o && l.all (icell w h)) := by
  unfold impl_isIn.f
  rw [impl_MazeOk_eq, Option.bind_some, allO_of (p := icell w h) (fun x _ => impl_isCell_eq w h x)]
  cases mok w h o <;> simp
theorem spec_l04Has_eq (w h o c : Int) : spec_l04Has.f w h o c = some (mok w h o && icell w h c) := by
  unfold spec_l04Has.f
  rw [spec_MazeOk_eq, spec_CountCells_eq]
  simp only [Option.bind_some, spec_l01In_eq, in_cells]
  cases mok w h o <;> simp
def wok (w h o c f : Int) : Bool := mok w h o && icell w h c && decide (0 ≤ f ∧ f ≤ 3)
theorem impl_WalkerOk_eq (w h o c f : Int) : impl_WalkerOk.f w h o c f = some (wok w h o c f) := by
  unfold impl_WalkerOk.f wok
  rw [impl_isIn_eq]
  simp only [Option.bind_some, impl_isDirection_eq, List.all_cons, List.all_nil, Bool.and_true]
  cases mok w h o && icell w h c <;> simp
theorem spec_WalkerOk_eq (w h o c f : Int) : spec_WalkerOk.f w h o c f = some (wok w h o c f) := by
  unfold spec_WalkerOk.f wok
  rw [spec_l04Has_eq]
  simp only [Option.bind_some, spec_l01In_eq]
  cases mok w h o && icell w h c <;> simp
def patStep (w h o c f : Int) (s : Int) (i : Nat) : Int := if st w h o c (Int.tmod (wrap64 (f + i)) 4) ≥ 0 then Go.bits .or .i64 s (shl .i64 1 i) else s
def pat (w h o c f : Int) : Int := if wok w h o c f then (List.range' 0 4).foldl (patStep w h o c f) 0 else -1
theorem impl_PatternAt_eq {k : Nat} (hk : 8 ≤ k) (w h o c f : Int) : impl_PatternAt.f k w h o c f = some (pat w h o c f) := by
  unfold impl_PatternAt.f pat
  rw [impl_WalkerOk_eq, Option.bind_some]
  cases wok w h o c f with
  | false => simp
  | true =>
    simp only [if_true]
    have := fold_loop (n := 4) (c := 3) (F := fun k s i => impl_PatternAt.l0 k s i w h o c f) (step := patStep w h o c f) (fin := id) (I := fun _ _ => True)
      (fun k s i hk hi _ => by
        simp only [impl_PatternAt.l0]
        rw [if_pos (by omega), impl_Step_eq (by omega), Option.bind_some, w64 (x := (i : Int) + 1) (by omega) (by omega)]
        unfold patStep
        by_cases g : st w h o c (Int.tmod (wrap64 (f + i)) 4) ≥ 0
        · rw [if_pos g, if_pos (by omega), if_pos g]
        · rw [if_neg g, if_neg g])
      (fun _ _ _ _ => trivial) (fun k s _ _ => by simp only [impl_PatternAt.l0]; rw [if_neg (by omega)]; rfl) 4 0 k 0 (by omega) (by omega) trivial
    exact this
theorem spec_PatternAt_eq {k : Nat} (hk : 8 ≤ k) (w h o c f : Int) : spec_PatternAt.f k w h o c f = some (pat w h o c f) := by
  unfold spec_PatternAt.f pat
  rw [spec_WalkerOk_eq, Option.bind_some]
  cases wok w h o c f with
  | false => simp
  | true =>
    simp only [if_true]
    have := fold_loop (n := 4) (c := 3) (F := fun k s i => spec_PatternAt.l0 k s i w h o c f) (step := patStep w h o c f) (fin := id) (I := fun _ _ => True)
      (fun k s i hk hi _ => by
        simp only [spec_PatternAt.l0]
        rw [if_pos (by omega), spec_Step_eq (by omega), Option.bind_some, w64 (x := (i : Int) + 1) (by omega) (by omega)]
        unfold patStep
        by_cases g : st w h o c (Int.tmod (wrap64 (f + i)) 4) ≥ 0
        · rw [if_pos g, if_pos (by omega), if_pos g]
        · rw [if_neg g, if_neg g])
      (fun _ _ _ _ => trivial) (fun k s _ _ => by simp only [spec_PatternAt.l0]; rw [if_neg (by omega)]; rfl) 4 0 k 0 (by omega) (by omega) trivial
    exact this
end Go.Proofs.Ytioplamkdoelpaa.F
end

section
namespace Go.Proofs.Ytioplamkdoelpaa.F
open Go.RowKit Go.Proofs.YtioplamkdoelpaaW.PrintWords Go.Proofs.YtioplamkdoelpaaW.PrintLast Go.Proofs.YtioplamkdoelpaaW.PrintMore
set_option linter.unusedVariables false
set_option linter.unusedSimpArgs false
mutual
def spec_LikeWalkers.j0 : Nat → Int → Bool → Int → Int → Int → Int → Int → Int → Int → Option (Bool)
  | 0, _, _, _, _, _, _, _, _, _ => none
  | k + 1, x3, x37, x279000, x279001, x279002, x280000, x280001, x281000, x281001 => if x37 = true then (some false) else (spec_LikeWalkers.l0 k x3 0 x279000 x279001 x279002 x280000 x280001 x281000 x281001)
def spec_LikeWalkers.l0 : Nat → Int → Int → Int → Int → Int → Int → Int → Int → Int → Option (Bool)
  | 0, _, _, _, _, _, _, _, _, _ => none
  | k + 1, x3, x9, x279000, x279001, x279002, x280000, x280001, x281000, x281001 => if x9 < 4 then (spec_LikeWalkers.j2 k x3 x9 (decide (x3 > 0)) x279000 x279001 x279002 x280000 x280001 x281000 x281001) else (spec_LikeWalkers.j2 k x3 x9 false x279000 x279001 x279002 x280000 x280001 x281000 x281001)
def spec_LikeWalkers.j2 : Nat → Int → Int → Bool → Int → Int → Int → Int → Int → Int → Int → Option (Bool)
  | 0, _, _, _, _, _, _, _, _, _, _ => none
  | k + 1, x3, x9, x43, x279000, x279001, x279002, x280000, x280001, x281000, x281001 => if x43 = true then ((spec_l33Turned.f k x279000 x279001 x279002 x280000 x280001 x9).bind fun bt286 => ((spec_l33Turned.f k x279000 x279001 x279002 x281000 x281001 x9).bind fun bt290 => (if (bt286.2.2 != bt290.2.2) = true then (some false) else (if bt286.2.2 = true then ((spec_LikeWalkers.f k x279000 x279001 x279002 bt286.1 bt286.2.1 bt290.1 bt290.2.1 (wrap64 (x3 - 1))).bind fun t294 => (if t294 = true then (spec_LikeWalkers.l0 k x3 (wrap64 (x9 + 1)) x279000 x279001 x279002 x280000 x280001 x281000 x281001) else (some false))) else (spec_LikeWalkers.l0 k x3 (wrap64 (x9 + 1)) x279000 x279001 x279002 x280000 x280001 x281000 x281001))))) else (some true)
def spec_LikeWalkers.f : Nat → Int → Int → Int → Int → Int → Int → Int → Int → Option (Bool)
  | 0, _, _, _, _, _, _, _, _ => none
  | k + 1, a0_0, a0_1, a0_2, a1_0, a1_1, a2_0, a2_1, a3 => (spec_WalkerOk.f a0_0 a0_1 a0_2 a1_0 a1_1).bind fun t281 => (if t281 = true then ((spec_WalkerOk.f a0_0 a0_1 a0_2 a2_0 a2_1).bind fun t282 => (if t282 = true then ((spec_l01In.f a3 0 6).bind fun t283 => (if t283 = true then ((spec_PatternAt.f k a0_0 a0_1 a0_2 a1_0 a1_1).bind fun t284 => ((spec_PatternAt.f k a0_0 a0_1 a0_2 a2_0 a2_1).bind fun t285 => (spec_LikeWalkers.j0 k a3 (t284 != t285) a0_0 a0_1 a0_2 a1_0 a1_1 a2_0 a2_1))) else (spec_LikeWalkers.j0 k a3 true a0_0 a0_1 a0_2 a1_0 a1_1 a2_0 a2_1))) else (spec_LikeWalkers.j0 k a3 true a0_0 a0_1 a0_2 a1_0 a1_1 a2_0 a2_1))) else (spec_LikeWalkers.j0 k a3 true a0_0 a0_1 a0_2 a1_0 a1_1 a2_0 a2_1))
end
mutual
def impl_alike.l0 : Nat → Int → Int → Int → Int → Int → Int → Int → Int → Int → Option (Bool)
  | 0, _, _, _, _, _, _, _, _, _ => none
  | k + 1, x3, x9, x348000, x348001, x348002, x349000, x349001, x350000, x350001 => if x3 > 0 then (impl_alike.j1 k x3 x9 (decide (x9 < 4)) x348000 x348001 x348002 x349000 x349001 x350000 x350001) else (impl_alike.j1 k x3 x9 false x348000 x348001 x348002 x349000 x349001 x350000 x350001)
def impl_alike.j1 : Nat → Int → Int → Bool → Int → Int → Int → Int → Int → Int → Int → Option (Bool)
  | 0, _, _, _, _, _, _, _, _, _, _ => none
  | k + 1, x3, x9, x26, x348000, x348001, x348002, x349000, x349001, x350000, x350001 => if x26 = true then ((impl_went.f k x348000 x348001 x348002 x349000 x349001 x9).bind fun bt352 => ((impl_went.f k x348000 x348001 x348002 x350000 x350001 x9).bind fun bt356 => (if (bt352.2.2 != bt356.2.2) = true then (some false) else (if bt352.2.2 = true then ((impl_alike.f k x348000 x348001 x348002 bt352.1 bt352.2.1 bt356.1 bt356.2.1 (wrap64 (x3 - 1))).bind fun t360 => (if t360 = true then (impl_alike.l0 k x3 (wrap64 (x9 + 1)) x348000 x348001 x348002 x349000 x349001 x350000 x350001) else (some false))) else (impl_alike.l0 k x3 (wrap64 (x9 + 1)) x348000 x348001 x348002 x349000 x349001 x350000 x350001))))) else (some true)
def impl_alike.f : Nat → Int → Int → Int → Int → Int → Int → Int → Int → Option (Bool)
  | 0, _, _, _, _, _, _, _, _ => none
  | k + 1, a0_0, a0_1, a0_2, a1_0, a1_1, a2_0, a2_1, a3 => (impl_PatternAt.f k a0_0 a0_1 a0_2 a1_0 a1_1).bind fun t350 => ((impl_PatternAt.f k a0_0 a0_1 a0_2 a2_0 a2_1).bind fun t351 => (if t350 = t351 then (impl_alike.l0 k a3 0 a0_0 a0_1 a0_2 a1_0 a1_1 a2_0 a2_1) else (some false)))
end
def impl_LikeWalkers.f (k : Nat) (a0_0 : Int) (a0_1 : Int) (a0_2 : Int) (a1_0 : Int) (a1_1 : Int) (a2_0 : Int) (a2_1 : Int) (a3 : Int) : Option (Bool) := (impl_WalkerOk.f a0_0 a0_1 a0_2 a1_0 a1_1).bind fun t364 => (if t364 = true then ((impl_WalkerOk.f a0_0 a0_1 a0_2 a2_0 a2_1).bind fun t365 => (if t365 = true then (if a3 ≥ 0 then (if a3 ≤ 6 then ((impl_alike.f k a0_0 a0_1 a0_2 a1_0 a1_1 a2_0 a2_1 a3).bind fun t366 => (some t366)) else (some false)) else (some false)) else (some false))) else (some false))
end Go.Proofs.Ytioplamkdoelpaa.F
end

section
namespace Go.Proofs.Ytioplamkdoelpaa.F
open Go.RowKit Go.Proofs.YtioplamkdoelpaaW.PrintWords Go.Proofs.YtioplamkdoelpaaW.PrintLast Go.Proofs.YtioplamkdoelpaaW.PrintMore
set_option linter.unusedVariables false
set_option linter.unusedSimpArgs false
def nf (f t : Int) : Int := Int.tmod (wrap64 (f + t)) 4
def nx (w h o c f t : Int) : Int := st w h o c (nf f t)
theorem impl_went_eq {k : Nat} (hk : 3 ≤ k) (w h o c f t : Int) : impl_went.f k w h o c f t = some (nx w h o c f t, nf f t, decide (0 ≤ nx w h o c f t)) := by
  unfold impl_went.f impl_marked.f
  rw [impl_Step_eq hk]
  rfl
theorem spec_l33Turned_eq {k : Nat} (hk : 1 ≤ k) (w h o c f t : Int) : spec_l33Turned.f k w h o c f t = some (if nx w h o c f t < 0 then (c, f, false) else (nx w h o c f t, nf f t, true)) := by
  unfold spec_l33Turned.f
  rw [spec_Step_eq hk, Option.bind_some]
  show (if nx w h o c f t < 0 then _ else _) = _
  split <;> rfl
end Go.Proofs.Ytioplamkdoelpaa.F
end

section
namespace Go.Proofs.Ytioplamkdoelpaa.F
open Go.RowKit Go.Proofs.YtioplamkdoelpaaW.PrintWords Go.Proofs.YtioplamkdoelpaaW.PrintLast Go.Proofs.YtioplamkdoelpaaW.PrintMore
set_option linter.unusedVariables false
set_option linter.unusedSimpArgs false
theorem laws_toIntS_eq {k : Nat} {l : List Int} (hl : l.length ≤ 1048576) (hk : l.length + 1 ≤ k) : laws_toIntS.f k l = some l := by
  unfold laws_toIntS.f
  rw [if_pos (by omega), if_pos (by omega)]
  have := set_loop (c := 0) (0 : Int) (F := fun k acc i => laws_toIntS.l0 k l acc i) (l := l) (g := id) (k := k)
    (fun k acc i _ hi ha => by
      simp only [laws_toIntS.l0]
      rw [if_pos (by omega), if_pos (by omega), if_pos (by omega), w64_succ hi (by omega)]
      rfl)
    (fun k acc _ => by
      simp only [laws_toIntS.l0]
      rw [if_neg (by omega)]) (List.replicate (l.length : Int).toNat 0) (by simp) (by omega)
  simpa using this
theorem laws_eqIntS_refl {k : Nat} {l : List Int} (hl : l.length ≤ 9223372036854775806) (hk : l.length + 1 ≤ k) : laws_eqIntS.f k l l = some true := by
  unfold laws_eqIntS.f
  rw [if_pos rfl]
  have := all_loop (c := 0) (0 : Int) (F := fun k i => laws_eqIntS.l0 k l l i) (p := fun _ => true) (b := true)
    (fun k i _ hi => by
      simp only [laws_eqIntS.l0]
      rw [if_pos (by omega), if_pos (by omega), if_pos (by omega), w64_succ hi (by omega)]
      all_goals simp)
    (fun k _ => by simp only [laws_eqIntS.l0]; rw [if_neg (by omega)]) hk
  rw [this]
  congr 1
  simp only [Bool.and_true, List.all_eq_true, implies_true]
theorem mark_held {k : Nat} {l : List Int} {a : Int} (h0 : 0 ≤ a) (h1 : a ≤ 1000000000) (hl : l.length ≤ 1000000000) (hk : l.length + 1 ≤ k) :
    ∃ l', laws_markIntS.f k l a = some (a + l.length, l') ∧ l'.length = l.length ∧ ∀ k', l.length + 1 ≤ k' → laws_heldIntS.f k' l' a = some (a + l.length) := by
  obtain ⟨s, ⟨e1, e2, e3⟩, e4⟩ := inv_loop (n := l.length) (c := 0) (F := fun k (s : List Int × Int) i => laws_markIntS.l0 k s.1 s.2 i) (fin := fun s => (s.2, s.1))
    (I := fun s i => s.1.length = l.length ∧ s.2 = a + i ∧ ∀ j : Nat, j < i → rd s.1 (j : Int) = a + j)
    (fun k s i _ hi ⟨i1, i2, i3⟩ => ⟨(s.1.set i s.2, s.2 + 1), ⟨by simpa using i1, by simp only; omega, fun j hj => by
        rw [rd_nat, List.getD_eq_getElem?_getD, List.getElem?_set]
        by_cases e : i = j
        · subst e
          rw [if_pos rfl, if_pos (by omega)]
          simpa using i2
        · rw [if_neg e]
          have := i3 j (by omega)
          rwa [rd_nat, List.getD_eq_getElem?_getD] at this⟩, by
        simp only [laws_markIntS.l0]
        rw [if_pos (by omega), if_pos (by omega), w64_succ hi (by omega), w64 (by omega) (by omega)]
        rfl⟩)
    (fun k s _ h => by
      simp only [laws_markIntS.l0]
      rw [if_neg (by omega)]) l.length 0 k (l, a) (by omega) (by omega) ⟨rfl, by simp, fun j hj => by omega⟩
  refine ⟨s.1, ?_, e1, fun k' hk' => ?_⟩
  · rw [← e2]
    exact e4
  · obtain ⟨s', e5, e6⟩ := inv_loop (n := l.length) (c := 0) (F := fun k (x : Int) i => laws_heldIntS.l0 k s.1 x i) (fin := fun x => x) (I := fun x i => x = a + i)
      (fun k x i _ hi hx => ⟨x + 1, by omega, by
        simp only [laws_heldIntS.l0]
        rw [if_pos (by omega), if_pos (by omega), if_pos (by rw [e3 i hi, hx]), w64_succ hi (by omega), w64 (by omega) (by omega)]⟩)
      (fun k x _ _ => by
        simp only [laws_heldIntS.l0]
        rw [if_neg (by omega)]) l.length 0 k' a (by omega) (by omega) (by simp)
    rw [e5] at e6
    exact e6
end Go.Proofs.Ytioplamkdoelpaa.F
end

section
namespace Go.Proofs.Ytioplamkdoelpaa.F
open Go.RowKit Go.Proofs.YtioplamkdoelpaaW.PrintWords Go.Proofs.YtioplamkdoelpaaW.PrintLast Go.Proofs.YtioplamkdoelpaaW.PrintMore
set_option linter.unusedVariables false
set_option linter.unusedSimpArgs false
def turn4 (x : Int) : Bool := decide (0 ≤ x ∧ x ≤ 3)
theorem impl_areTurns_eq (l : List Int) (n : Int) : impl_areTurns.f l n = some (decide ((l.length : Int) ≤ n) && l.all turn4) := by
  unfold impl_areTurns.f
  by_cases h : (l.length : Int) ≤ n
  · rw [if_pos h, decide_eq_true h]; rfl
  · rw [if_neg h, decide_eq_false h]; rfl
theorem spec_l33Turns_eq {k : Nat} {l : List Int} (hl : l.length ≤ 9223372036854775806) (hk : l.length + 1 ≤ k) : spec_l33Turns.f k l = some (decide ((l.length : Int) ≤ 40) && l.all turn4) := by
  unfold spec_l33Turns.f spec_l26Turns.f
  have := all_loop (c := 0) (0 : Int) (F := fun k i => spec_l26Turns.l0 k l i) (l := l) (p := turn4) (b := decide ((l.length : Int) ≤ 400))
    (fun k i _ hi => by
      simp only [spec_l26Turns.l0, spec_l01In_eq, Option.bind_some]
      rw [if_pos (by omega), if_pos (by omega), w64_succ hi (by omega)]
      rfl)
    (fun k _ => by simp only [spec_l26Turns.l0]; rw [if_neg (by omega)]) hk
  rw [this, Option.bind_some]
  by_cases h : (l.length : Int) ≤ 40
  · rw [decide_eq_true h, decide_eq_true (show (l.length : Int) ≤ 400 by omega), Bool.and_true, Bool.true_and]
    cases l.all turn4 <;> rfl
  · rw [decide_eq_false h, Bool.false_and]
    split <;> rfl
def repR (w h o : Int) : Int → Int → List Int → List Int → List Int × Bool
  | _, _, [], acc => (acc, true)
  | c, f, t :: ts, acc => if 0 ≤ nx w h o c f t then repR w h o (nx w h o c f t) (nf f t) ts (acc ++ [pat w h o (nx w h o c f t) (nf f t)]) else ([], false)
def repOf (w h o c f : Int) (l : List Int) : List Int × Bool := if wok w h o c f = true ∧ (decide ((l.length : Int) ≤ 40) && l.all turn4) = true then repR w h o c f l [pat w h o c f] else ([], false)
theorem repR_length (w h o : Int) : ∀ (l : List Int) (c f : Int) (acc : List Int), (repR w h o c f l acc).1.length ≤ acc.length + l.length
  | [], c, f, acc => by simp [repR]
  | t :: ts, c, f, acc => by
    unfold repR
    split
    · have := repR_length w h o ts (nx w h o c f t) (nf f t) (acc ++ [pat w h o (nx w h o c f t) (nf f t)])
      simp only [List.length_append, List.length_singleton] at this
      simp only [List.length_cons]
      omega
    · simp
theorem repOf_length (w h o c f : Int) (l : List Int) : (repOf w h o c f l).1.length ≤ 41 := by
  unfold repOf
  split
  · rename_i H
    have h1 := H.2
    rw [Bool.and_eq_true, decide_eq_true_eq] at h1
    have := repR_length w h o l c f [pat w h o c f]
    simp only [List.length_singleton] at this
    omega
  · simp
theorem drop_step {l : List Int} {i : Nat} (hi : i < l.length) : l.drop i = rd l (i : Int) :: l.drop (i + 1) := by
  rw [List.drop_eq_getElem_cons hi]
  congr 1
  rw [rd_nat, List.getD_eq_getElem?_getD, List.getElem?_eq_getElem hi]
  rfl
theorem impl_rep_loop (w h o : Int) (l : List Int) (hl : l.length ≤ 40) : ∀ (d i k : Nat) (acc : List Int) (c f : Int), i + d = l.length → d + 9 ≤ k → acc.length + d ≤ 1000 → impl_ReportOf.l0 k acc l (l.length : Int) (i : Int) w h o c f = some (repR w h o c f (l.drop i) acc)
  | 0, i, k, acc, c, f, hi, hk, ha => by
    obtain ⟨m, rfl⟩ : ∃ m, k = m + 1 := ⟨k - 1, by omega⟩
    simp only [impl_ReportOf.l0]
    rw [if_neg (by omega), List.drop_of_length_le (by omega)]
    rfl
  | d + 1, i, k, acc, c, f, hi, hk, ha => by
    obtain ⟨m, rfl⟩ : ∃ m, k = m + 1 := ⟨k - 1, by omega⟩
    simp only [impl_ReportOf.l0]
    rw [if_pos (by omega), if_pos (by omega), if_pos (by omega), impl_went_eq (by omega), Option.bind_some, drop_step (by omega)]
    unfold repR
    by_cases hn : 0 ≤ nx w h o c f (rd l (i : Int))
    · rw [if_pos hn, if_pos (decide_eq_true hn)]
      simp only
      rw [impl_PatternAt_eq (by omega), Option.bind_some, if_pos (by omega), w64 (x := (i : Int) + 1) (by omega) (by omega)]
      have := impl_rep_loop w h o l hl d (i + 1) m (acc ++ [pat w h o (nx w h o c f (rd l (i : Int))) (nf f (rd l (i : Int)))]) (nx w h o c f (rd l (i : Int))) (nf f (rd l (i : Int))) (by omega) (by omega) (by simp only [List.length_append, List.length_singleton]; omega)
      rwa [Int.natCast_add] at this
    · rw [if_neg hn, if_neg (by rw [decide_eq_false hn]; exact Bool.false_ne_true)]
theorem spec_rep_loop (w h o : Int) (l : List Int) (hl : l.length ≤ 40) : ∀ (d i k : Nat) (acc : List Int) (c f : Int), i + d = l.length → d + 9 ≤ k → acc.length + d ≤ 1000 → spec_ReportOf.l0 k l acc (i : Int) w h o c f = some (repR w h o c f (l.drop i) acc)
  | 0, i, k, acc, c, f, hi, hk, ha => by
    obtain ⟨m, rfl⟩ : ∃ m, k = m + 1 := ⟨k - 1, by omega⟩
    simp only [spec_ReportOf.l0]
    rw [if_neg (by omega), List.drop_of_length_le (by omega)]
    rfl
  | d + 1, i, k, acc, c, f, hi, hk, ha => by
    obtain ⟨m, rfl⟩ : ∃ m, k = m + 1 := ⟨k - 1, by omega⟩
    have ea := spec_l33Turned_eq (k := m) (by omega) w h o c f (rd l (i : Int))
    simp only [spec_ReportOf.l0]
    rw [if_pos (by omega), if_pos (by omega), drop_step (by omega)]
    unfold repR
    by_cases hn : 0 ≤ nx w h o c f (rd l (i : Int))
    · rw [if_neg (by omega)] at ea
      rw [ea, Option.bind_some, if_pos hn]
      simp only [if_true]
      rw [spec_PatternAt_eq (by omega), Option.bind_some, if_pos (by omega), w64 (x := (i : Int) + 1) (by omega) (by omega)]
      have := spec_rep_loop w h o l hl d (i + 1) m (acc ++ [pat w h o (nx w h o c f (rd l (i : Int))) (nf f (rd l (i : Int)))]) (nx w h o c f (rd l (i : Int))) (nf f (rd l (i : Int))) (by omega) (by omega) (by simp only [List.length_append, List.length_singleton]; omega)
      rwa [Int.natCast_add] at this
    · rw [if_pos (by omega)] at ea
      rw [ea, Option.bind_some, if_neg hn]
      simp
theorem impl_ReportOf_eq {k : Nat} {l : List Int} (hl : l.length ≤ 1048576) (hk : 60 ≤ k) (w h o c f : Int) : impl_ReportOf.f k w h o c f l = some (repOf w h o c f l) := by
  obtain ⟨m, rfl⟩ : ∃ m, k = m + 1 := ⟨k - 1, by omega⟩
  unfold impl_ReportOf.f repOf
  rw [impl_WalkerOk_eq, impl_areTurns_eq]
  simp only [Option.bind_some, impl_ReportOf.j0]
  cases h1 : wok w h o c f with
  | false => simp
  | true =>
    cases h2 : (decide ((l.length : Int) ≤ 40) && l.all turn4) with
    | false => simp
    | true =>
      have h3 := h2
      rw [Bool.and_eq_true, decide_eq_true_eq] at h3
      simp only [if_true, Bool.not_true, Bool.false_eq_true, if_false]
      rw [impl_PatternAt_eq (by omega), Option.bind_some]
      have := impl_rep_loop w h o l (by omega) l.length 0 m [pat w h o c f] c f (by omega) (by omega) (by simp; omega)
      simpa using this
theorem spec_ReportOf_eq {k : Nat} {l : List Int} (hl : l.length ≤ 1048576) (hk : l.length + 60 ≤ k) (w h o c f : Int) : spec_ReportOf.f k w h o c f l = some (repOf w h o c f l) := by
  obtain ⟨m, rfl⟩ : ∃ m, k = m + 1 := ⟨k - 1, by omega⟩
  unfold spec_ReportOf.f repOf
  rw [spec_WalkerOk_eq, spec_l33Turns_eq (by omega) (by omega)]
  simp only [Option.bind_some, spec_ReportOf.j0]
  cases h1 : wok w h o c f with
  | false => simp
  | true =>
    cases h2 : (decide ((l.length : Int) ≤ 40) && l.all turn4) with
    | false => simp
    | true =>
      have h3 := h2
      rw [Bool.and_eq_true, decide_eq_true_eq] at h3
      simp only [if_true, Bool.not_true, Bool.false_eq_true, if_false]
      rw [spec_PatternAt_eq (by omega), Option.bind_some, if_pos (by decide)]
      have := spec_rep_loop w h o l (by omega) l.length 0 m [pat w h o c f] c f (by omega) (by omega) (by simp; omega)
      simpa using this
end Go.Proofs.Ytioplamkdoelpaa.F
end

section
namespace Go.Proofs.Ytioplamkdoelpaa.F
open Go.RowKit Go.Proofs.YtioplamkdoelpaaW.PrintWords Go.Proofs.YtioplamkdoelpaaW.PrintLast Go.Proofs.YtioplamkdoelpaaW.PrintMore
set_option linter.unusedVariables false
set_option linter.unusedSimpArgs false
theorem FnExactReportOf_pure : ∀ (a0_0 : Int) (a0_1 : Int) (a0_2 : Int) (a1_0 : Int) (a1_1 : Int) (l2 : List (Int)), (I64 (a0_0)) → (I64 (a0_1)) → (I64 (a0_2)) → (I64 (a1_0)) → (I64 (a1_1)) → ((l2).length ≤ 9223372036854775807 ∧ ∀ y ∈ l2, I64 (y)) → ∃ k, laws_FnExactReportOf.f k a0_0 a0_1 a0_2 a1_0 a1_1 l2 = some true := by
  intro w h o c f l _ _ _ _ _ hl
  by_cases hb : (l.length : Int) > 1048576
  · refine ⟨0, ?_⟩
    unfold laws_FnExactReportOf.f
    rw [if_pos hb]
  · obtain ⟨k, hk⟩ : ∃ k, k = l.length + 100 := ⟨_, rfl⟩
    refine ⟨k + 3, ?_⟩
    have hlen := repOf_length w h o c f l
    have ht : ∀ k', k ≤ k' → laws_toIntS.f k' l = some l := fun k' h' => laws_toIntS_eq (by omega) (by omega)
    have hs : spec_ReportOf.f (k + 3) w h o c f l = some (repOf w h o c f l) := spec_ReportOf_eq (by omega) (by omega) w h o c f
    have hi : ∀ k', k ≤ k' → impl_ReportOf.f k' w h o c f l = some (repOf w h o c f l) := fun k' h' => impl_ReportOf_eq (by omega) (by omega) w h o c f
    have he : ∀ k', k ≤ k' → laws_eqIntS.f k' (repOf w h o c f l).1 (repOf w h o c f l).1 = some true := fun k' h' => laws_eqIntS_refl (by omega) (by omega)
    have hel : ∀ k', k ≤ k' → laws_eqIntS.f k' l l = some true := fun k' h' => laws_eqIntS_refl (by omega) (by omega)
    obtain ⟨m1, e1, _, _⟩ := mark_held (k := k + 2) (l := l) (a := 1) (by decide) (by decide) (by omega) (by omega)
    obtain ⟨m2, e2, e3, e4⟩ := mark_held (k := k + 1) (l := (repOf w h o c f l).1) (a := 1) (by decide) (by decide) (by omega) (by omega)
    have n1 : ¬ (1 + (l.length : Int) < 0) := by omega
    have n2 : ¬ (1 + ((repOf w h o c f l).1.length : Int) < 0) := by omega
    unfold laws_FnExactReportOf.f
    rw [if_neg hb]
    simp only [laws_toMaze.f, laws_toGrid.f, laws_toWalker.f, Option.bind_some, ht (k + 3) (by omega), hs, hi (k + 3) (by omega), he (k + 3) (by omega), if_true, bne_self_eq_false]
    simp only [laws_FnExactReportOf.j0, Bool.false_eq_true, if_false, ht (k + 2) (by omega), Option.bind_some, hel (k + 2) (by omega), if_true, e1, n1, he (k + 2) (by omega), bne_self_eq_false]
    simp only [laws_FnExactReportOf.j1, laws_toMaze.f, laws_toGrid.f, laws_toWalker.f, Bool.false_eq_true, if_false, ht (k + 1) (by omega), Option.bind_some, if_true, e2, n2, e4 (k + 1) (by omega), hi (k + 1) (by omega), he (k + 1) (by omega), bne_self_eq_false]
    simp only [laws_FnExactReportOf.j2, Bool.false_eq_true, if_false, Option.bind_some, if_true, n2, e4 k (by omega)]
end Go.Proofs.Ytioplamkdoelpaa.F
end
