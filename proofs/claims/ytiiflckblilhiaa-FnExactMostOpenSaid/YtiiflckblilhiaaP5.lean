/- Plans: gaps that change. -/
import Derived.Test.YtiiflckblilhiaaP4
import Derived.Test.YtiiflckblilhiaaPI
namespace Go.Proofs.Ytiiflckblilhiaa.F
open Go.RowKit Go.Proofs.YtiiflckblilhiaaW.PrintWords Go.Proofs.YtiiflckblilhiaaW.PrintLast Go.Proofs.YtiiflckblilhiaaW.PrintMore
set_option linter.unusedVariables false
set_option linter.unusedSimpArgs false

theorem gaps_small {w h g : Int} (hg : igap w h g = true) : 0 ≤ g ∧ g < 24 := by
  have := igap_iff.1 hg
  have := gaps_bd w h
  omega
theorem impl_areGaps_eq (w h : Int) (l : List Int) : impl_areGaps.f w h l = some (gok w h && decide (l.length ≤ 100) && l.all (igap w h)) := by
  unfold impl_areGaps.f
  rw [impl_GridOk_eq, Option.bind_some, allO_of (p := igap w h) (fun x _ => impl_isGap_eq w h x)]
  cases gok w h <;> by_cases hl : l.length ≤ 100 <;> simp [hl]
/-- May the gaps of this list be changed? -/
def pok (w h o : Int) (l : List Int) : Bool := mok w h o && decide (l.length ≤ 100) && l.all (igap w h)
theorem spec_l37Gaps_eq {k : Nat} {l : List Int} (w h o : Int) (hl : l.length ≤ 1048576) (hk : l.length + 1 ≤ k) : spec_l37Gaps.f k w h o l = some (pok w h o l) := by
  unfold spec_l37Gaps.f pok
  have := all_loop (c := 0) (0 : Int) (F := fun k i => spec_l37Gaps.l0 k l i w h o) (p := igap w h) (b := mok w h o && decide (l.length ≤ 100))
    (fun k i _ hi => by
      simp only [spec_l37Gaps.l0, spec_CountGaps_eq, spec_l01In_eq, Option.bind_some, in_gaps]
      rw [if_pos (by omega), if_pos (by omega), w64_succ hi (by omega)]
      rfl)
    (fun k _ => by
      simp only [spec_l37Gaps.l0, spec_MazeOk_eq, Option.bind_some]
      rw [if_neg (by omega)]
      cases mok w h o
      · simp
      · simp; omega) hk
  rw [this]
  congr 1
  cases mok w h o <;> cases decide (l.length ≤ 100) <;> simp
/-- The maze behind the changes. -/
def flips (o : Int) (l : List Int) : Int := l.foldl flip o
theorem mok_flips {w h : Int} : ∀ {l : List Int} {o : Int}, mok w h o = true → (∀ g ∈ l, igap w h g = true) → mok w h (flips o l) = true
  | [], o, M, _ => M
  | g :: l, o, M, H => by
    unfold flips
    rw [List.foldl_cons]
    exact mok_flips (mok_flip M (H g (by simp))) (fun x hx => H x (by simp [hx]))
theorem pok_iff {w h o : Int} {l : List Int} : pok w h o l = true ↔ mok w h o = true ∧ l.length ≤ 100 ∧ ∀ g ∈ l, igap w h g = true := by
  unfold pok; simp [and_assoc]
theorem spec_Rebuilt_eq {k : Nat} {l : List Int} (w h o : Int) (hl : l.length ≤ 1048576) (hk : l.length + 2 ≤ k) : spec_Rebuilt.f k w h o l = some (if pok w h o l then (w, h, flips o l, true) else (w, h, o, false)) := by
  unfold spec_Rebuilt.f
  rw [spec_l37Gaps_eq w h o hl (by omega), Option.bind_some]
  by_cases p : pok w h o l = true
  · rw [if_pos p, if_pos p]
    obtain ⟨M, hl2, hg⟩ := pok_iff.1 p
    have key : ∀ (d i : Nat) (k : Nat) (q : Int), i + d = l.length → d + 1 ≤ k → mok w h q = true → spec_Rebuilt.l0 k l (i : Int) w h q = some (w, h, (l.drop i).foldl flip q, true) := by
      intro d
      induction d with
      | zero =>
        intro i k q hi hk Mq
        obtain ⟨m, rfl⟩ : ∃ m, k = m + 1 := ⟨k - 1, by omega⟩
        simp only [spec_Rebuilt.l0]
        rw [if_neg (by omega), List.drop_of_length_le (by omega)]
        rfl
      | succ d ih =>
        intro i k q hi hk Mq
        obtain ⟨m, rfl⟩ : ∃ m, k = m + 1 := ⟨k - 1, by omega⟩
        have hil : i < l.length := by omega
        have e : rd l (i : Int) = l[i] := by rw [rd_nat, List.getD_eq_getElem?_getD, List.getElem?_eq_getElem hil]; rfl
        have ig := hg l[i] (List.getElem_mem hil)
        have gs := gaps_small ig
        have ms := mok_small Mq
        simp only [spec_Rebuilt.l0]
        rw [if_pos (by omega), if_pos (by omega), e, if_pos (by omega), w64_succ hil (by omega), xor_shl_eq ms.1 (by omega) gs.1 (by omega), List.drop_eq_getElem_cons hil, List.foldl_cons]
        have := ih (i + 1) m (flip q l[i]) (by omega) (by omega) (mok_flip Mq ig)
        rwa [Int.natCast_add] at this
    have := key l.length 0 k o (by omega) (by omega) M
    simpa [flips] using this
  · rw [if_neg p, if_neg p]
theorem impl_Rebuilt_eq {k : Nat} {l : List Int} (w h o : Int) (hl : l.length ≤ 1048576) (hk : l.length + 3 ≤ k) : impl_Rebuilt.f k w h o l = some (if pok w h o l then (w, h, flips o l, true) else (w, h, o, false)) := by
  obtain ⟨m, rfl⟩ : ∃ m, k = m + 1 := ⟨k - 1, by omega⟩
  have e : impl_Rebuilt.f (m + 1) w h o l = impl_Rebuilt.j0 (m + 1) l (!pok w h o l) w h o := by
    unfold impl_Rebuilt.f
    rw [impl_MazeOk_eq, Option.bind_some, impl_areGaps_eq, Option.bind_some]
    by_cases M : mok w h o = true
    · rw [if_pos M]
      congr 2
      unfold pok
      rw [M, (mok_iff.1 M).1]
    · rw [if_neg M]
      congr 1
      unfold pok
      simp [M]
  rw [e]
  simp only [impl_Rebuilt.j0]
  by_cases p : pok w h o l = true
  · rw [if_neg (by simp [p]), if_pos p]
    obtain ⟨M, hl2, hg⟩ := pok_iff.1 p
    have key : ∀ (d i : Nat) (k : Nat) (q : Int), i + d = l.length → d + 1 ≤ k → mok w h q = true → impl_Rebuilt.l0 k l (l.length : Int) (i : Int) w h q = some (w, h, (l.drop i).foldl flip q, true) := by
      intro d
      induction d with
      | zero =>
        intro i k q hi hk Mq
        obtain ⟨m, rfl⟩ : ∃ m, k = m + 1 := ⟨k - 1, by omega⟩
        simp only [impl_Rebuilt.l0]
        rw [if_neg (by omega), List.drop_of_length_le (by omega)]
        rfl
      | succ d ih =>
        intro i k q hi hk Mq
        obtain ⟨m, rfl⟩ : ∃ m, k = m + 1 := ⟨k - 1, by omega⟩
        have hil : i < l.length := by omega
        have e : rd l (i : Int) = l[i] := by rw [rd_nat, List.getD_eq_getElem?_getD, List.getElem?_eq_getElem hil]; rfl
        have ig := hg l[i] (List.getElem_mem hil)
        have gs := gaps_small ig
        have ms := mok_small Mq
        simp only [impl_Rebuilt.l0]
        rw [if_pos (by omega), if_pos (by omega), if_pos (by omega), e, impl_changed_eq w h ms.1 (by omega) gs.1 (by omega), Option.bind_some, w64_succ hil (by omega), List.drop_eq_getElem_cons hil, List.foldl_cons]
        have := ih (i + 1) m (flip q l[i]) (by omega) (by omega) (mok_flip Mq ig)
        rwa [Int.natCast_add] at this
    have := key l.length 0 m o (by omega) (by omega) M
    simpa [flips] using this
  · rw [if_pos (by simp [p]), if_neg p]
theorem laws_eqMaze_refl (w h o : Int) : laws_eqMaze.f w h o w h o = some true := by simp [laws_eqMaze.f, laws_eqGrid.f]
end Go.Proofs.Ytiiflckblilhiaa.F
