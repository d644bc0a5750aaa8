/- How many gaps are open; the most while a maze is rebuilt. -/
import Derived.Test.YtiiflckblilhiaaP7
namespace Go.Proofs.Ytiiflckblilhiaa.F
open Go.RowKit Go.Proofs.YtiiflckblilhiaaW.PrintWords Go.Proofs.YtiiflckblilhiaaW.PrintLast Go.Proofs.YtiiflckblilhiaaW.PrintMore
set_option linter.unusedVariables false
set_option linter.unusedSimpArgs false

/-- How many gaps are open; 0 of a maze that is not valid. -/
def cp (w h o : Int) : Int := if mok w h o then ((pcn o.toNat 24 : Nat) : Int) else 0
theorem impl_CountPassages_eq (w h o : Int) : impl_CountPassages.f w h o = some (cp w h o) := by
  unfold impl_CountPassages.f cp math_bits_OnesCount.f
  rw [impl_MazeOk_eq, Option.bind_some]
  by_cases M : mok w h o = true
  · rw [if_pos M, if_pos M]
    have s := mok_small M
    obtain ⟨n, rfl⟩ := Int.eq_ofNat_of_zero_le s.1
    rw [wrapu_nat (by omega), onesCount64 (by omega)]
    rfl
  · rw [if_neg M, if_neg M]
theorem pcn_more {n g d : Nat} (h : n < 2 ^ g) : pcn n (g + d) = pcn n g := by
  unfold pcn
  rw [List.range_add, List.countP_append, List.countP_map]
  have : (List.range d).countP ((fun i => n.testBit i) ∘ (g + ·)) = 0 := by
    rw [List.countP_eq_zero]
    intro i _
    show ¬ n.testBit (g + i) = true
    rw [Nat.testBit_lt_two_pow (Nat.lt_of_lt_of_le h (Nat.pow_le_pow_right (by decide) (by omega)))]
    simp
  omega
theorem pcn_succ (n m : Nat) : pcn n (m + 1) = pcn n m + if n.testBit m then 1 else 0 := by
  unfold pcn
  rw [List.range_succ, List.countP_append, List.countP_singleton]
theorem pcn_le (n m : Nat) : pcn n m ≤ m := by
  unfold pcn
  refine Nat.le_trans List.countP_le_length ?_
  simp
theorem spec_CountPassages_eq {k : Nat} (hk : 60 ≤ k) (w h o : Int) : spec_CountPassages.f k w h o = some (cp w h o) := by
  have b := gaps_bd w h
  refine at_rounds (g := fun k => spec_CountPassages.f k w h o) (fun k => spec_CountPassages.mono w h o k) (k := 2 * (gaps w h).toNat + 2) (by omega) ?_
  show spec_CountPassages.f _ w h o = _
  unfold spec_CountPassages.f cp
  by_cases M : mok w h o = true
  · rw [if_pos M]
    have m := mok_iff.1 M
    have s := mok_small M
    have key : ∀ (d i : Nat), i + d = (gaps w h).toNat → spec_CountPassages.l0 (2 * d + 2) ((pcn o.toNat i : Nat) : Int) (i : Int) w h o = some ((pcn o.toNat (gaps w h).toNat : Nat) : Int) := by
      intro d
      induction d with
      | zero =>
        intro i hi
        simp only [spec_CountPassages.l0, spec_CountPassages.j1, spec_CountGaps_eq, Option.bind_some]
        rw [if_neg (by omega), ← hi]
        simp
      | succ d ih =>
        intro i hi
        rw [show 2 * (d + 1) + 2 = (2 * d + 2) + 1 + 1 by omega]
        obtain ⟨q, hq⟩ : ∃ q, q = 2 * d + 2 := ⟨_, rfl⟩
        rw [← hq] at ih ⊢
        have pl := pcn_le o.toNat i
        simp only [spec_CountPassages.l0, spec_CountPassages.j1, spec_CountGaps_eq, spec_MazeOk_eq, Option.bind_some, M]
        rw [if_pos (by omega)]
        simp only [if_true]
        rw [spec_l03Bit_eq s.1 (by omega) (by omega), Option.bind_some, w64 (x := (i : Int) + 1) (by omega) (by omega), w64 (x := ((pcn o.toNat i : Nat) : Int) + 1) (by omega) (by omega)]
        have := ih (i + 1) (by omega)
        rw [pcn_succ, Int.natCast_add] at this
        by_cases hb : opn o i = true
        · rw [if_pos hb]
          unfold opn at hb
          rw [Int.toNat_natCast] at hb
          rw [if_pos hb] at this
          exact this
        · rw [if_neg hb]
          unfold opn at hb
          rw [Int.toNat_natCast] at hb
          rw [if_neg hb] at this
          exact this
    have := key (gaps w h).toNat 0 (by omega)
    have e : ((2 : Int) ^ (gaps w h).toNat) = ((2 ^ (gaps w h).toNat : Nat) : Int) := by simp
    rw [e] at m
    have more := pcn_more (n := o.toNat) (g := (gaps w h).toNat) (d := 24 - (gaps w h).toNat) (by omega)
    rw [show (gaps w h).toNat + (24 - (gaps w h).toNat) = 24 by omega] at more
    rw [more]
    exact this
  · rw [if_neg M]
    rw [show 2 * (gaps w h).toNat + 2 = 2 * (gaps w h).toNat + 1 + 1 by omega]
    obtain ⟨q, hq⟩ : ∃ q, q = 2 * (gaps w h).toNat := ⟨_, rfl⟩
    rw [← hq]
    simp only [spec_CountPassages.l0, spec_CountPassages.j1, spec_CountGaps_eq, spec_MazeOk_eq, Option.bind_some]
    by_cases g0 : 0 < gaps w h
    · rw [if_pos g0, if_neg M]
    · rw [if_neg g0]
      simp
theorem cp_bd (w h o : Int) : 0 ≤ cp w h o ∧ cp w h o ≤ 24 := by
  unfold cp
  have := pcn_le o.toNat 24
  split <;> omega
/-- The greatest number of open gaps. -/
def mostO (w h : Int) : Int → Int → List Int → Int
  | n, _, [] => n
  | n, o, g :: l => mostO w h (mx n (cp w h (flip o g))) (flip o g) l
theorem impl_MostOpen_eq {k : Nat} {l : List Int} (w h o : Int) (hl : l.length ≤ 1048576) (hk : l.length + 5 ≤ k) : impl_MostOpen.f k w h o l = some (if pok w h o l then mostO w h (cp w h o) o l else -1) := by
  unfold impl_MostOpen.f
  rw [impl_Rebuilt_eq w h o hl (by omega), Option.bind_some]
  by_cases p : pok w h o l = true
  · rw [if_pos p, if_pos p]
    obtain ⟨M, hl2, hg⟩ := pok_iff.1 p
    simp only [if_true, impl_CountPassages_eq, Option.bind_some]
    have key : ∀ (d i : Nat) (k : Nat) (n q : Int), i + d = l.length → d + 1 ≤ k → mok w h q = true → impl_MostOpen.l0 k n l (l.length : Int) (i : Int) w h q = some (mostO w h n q (l.drop i)) := by
      intro d
      induction d with
      | zero =>
        intro i k n q hi hk Mq
        obtain ⟨m, rfl⟩ : ∃ m, k = m + 1 := ⟨k - 1, by omega⟩
        simp only [impl_MostOpen.l0]
        rw [if_neg (by omega), List.drop_of_length_le (by omega)]
        rfl
      | succ d ih =>
        intro i k n q hi hk Mq
        obtain ⟨m, rfl⟩ : ∃ m, k = m + 1 := ⟨k - 1, by omega⟩
        have hil : i < l.length := by omega
        have e : rd l (i : Int) = l[i] := by rw [rd_nat, List.getD_eq_getElem?_getD, List.getElem?_eq_getElem hil]; rfl
        have ig := hg l[i] (List.getElem_mem hil)
        have gs := gaps_small ig
        have ms := mok_small Mq
        simp only [impl_MostOpen.l0]
        rw [if_pos (by omega), if_pos (by omega), if_pos (by omega), e, impl_changed_eq w h ms.1 (by omega) gs.1 (by omega), Option.bind_some, impl_CountPassages_eq, Option.bind_some, w64_succ hil (by omega), List.drop_eq_getElem_cons hil]
        have := ih (i + 1) m (mx n (cp w h (flip q l[i]))) (flip q l[i]) (by omega) (by omega) (mok_flip Mq ig)
        rw [Int.natCast_add] at this
        exact this
    have := key l.length 0 k (cp w h o) o (by omega) (by omega) M
    simpa using this
  · rw [if_neg p, if_neg p]
    simp
theorem spec_MostOpen_eq {k : Nat} {l : List Int} (w h o : Int) (hl : l.length ≤ 1048576) (hk : l.length + 62 ≤ k) : spec_MostOpen.f k w h o l = some (if pok w h o l then mostO w h (cp w h o) o l else -1) := by
  unfold spec_MostOpen.f
  rw [spec_l37Gaps_eq w h o hl (by omega), Option.bind_some]
  by_cases p : pok w h o l = true
  · rw [if_pos p, if_pos p]
    obtain ⟨M, hl2, hg⟩ := pok_iff.1 p
    rw [spec_CountPassages_eq (by omega), Option.bind_some]
    have key : ∀ (d i : Nat) (k : Nat) (n q : Int), i + d = l.length → d + 61 ≤ k → mok w h q = true → spec_MostOpen.l0 k l n (i : Int) w h q = some (mostO w h n q (l.drop i)) := by
      intro d
      induction d with
      | zero =>
        intro i k n q hi hk Mq
        obtain ⟨m, rfl⟩ : ∃ m, k = m + 1 := ⟨k - 1, by omega⟩
        simp only [spec_MostOpen.l0]
        rw [if_neg (by omega), List.drop_of_length_le (by omega)]
        rfl
      | succ d ih =>
        intro i k n q hi hk Mq
        obtain ⟨m, rfl⟩ : ∃ m, k = m + 1 := ⟨k - 1, by omega⟩
        have hil : i < l.length := by omega
        have e : rd l (i : Int) = l[i] := by rw [rd_nat, List.getD_eq_getElem?_getD, List.getElem?_eq_getElem hil]; rfl
        have ig := hg l[i] (List.getElem_mem hil)
        have gs := gaps_small ig
        have ms := mok_small Mq
        simp only [spec_MostOpen.l0]
        rw [if_pos (by omega), if_pos (by omega), e, if_pos (by omega), xor_shl_eq ms.1 (by omega) gs.1 (by omega), spec_CountPassages_eq (by omega), Option.bind_some, w64_succ hil (by omega), List.drop_eq_getElem_cons hil]
        have := ih (i + 1) m (mx n (cp w h (flip q l[i]))) (flip q l[i]) (by omega) (by omega) (mok_flip Mq ig)
        rw [Int.natCast_add] at this
        exact this
    have := key l.length 0 k (cp w h o) o (by omega) (by omega) M
    simpa using this
  · rw [if_neg p, if_neg p]
end Go.Proofs.Ytiiflckblilhiaa.F
