/- Packed by a program of the session (wip/tools/pack.py): what the claim's theorem reaches, of the texts that wip/ and the kit's printer lay. -/
import Derived.Test.YtimejdhglmajdaaPkFnRebuilding7
section
namespace Go.Proofs.Ytimejdhglmajdaa.F
open Go.RowKit Go.Proofs.YtimejdhglmajdaaW.PrintWords Go.Proofs.YtimejdhglmajdaaW.PrintLast Go.Proofs.YtimejdhglmajdaaW.PrintMore
set_option linter.unusedVariables false
set_option linter.unusedSimpArgs false
def pcn (n m : Nat) : Nat := (List.range m).countP fun i => n.testBit i
theorem pcn_split (q b m : Nat) (hb : b < 256) : pcn (256 * q + b) (8 + m) = pcn b 8 + pcn q m := by
  unfold pcn
  rw [List.range_add, List.countP_append, List.countP_map]
  congr 1
  · apply List.countP_congr
    intro i hi
    have := List.mem_range.1 hi
    rw [show (256 : Nat) = 2 ^ 8 from rfl, Nat.testBit_two_pow_mul_add q (by simpa using hb), if_pos this]
  · apply List.countP_congr
    intro i hi
    show (256 * q + b).testBit (8 + i) = true ↔ _
    rw [show (256 : Nat) = 2 ^ 8 from rfl, Nat.testBit_two_pow_mul_add q (by simpa using hb), if_neg (by omega), Nat.add_sub_cancel_left]
theorem and_byte (a d m : Nat) (hd : d < 256) : (256 * a + d) &&& m = 256 * (a &&& (m / 256)) + (d &&& (m % 256)) := by
  have hd' : d &&& (m % 256) < 2 ^ 8 := Nat.and_lt_two_pow _ (Nat.mod_lt _ (by decide))
  apply Nat.eq_of_testBit_eq
  intro i
  have em : m = 2 ^ 8 * (m / 256) + m % 256 := by omega
  conv => lhs; rw [em]
  rw [Nat.testBit_and, show (256 : Nat) = 2 ^ 8 from rfl, Nat.testBit_two_pow_mul_add _ (by simpa using hd), Nat.testBit_two_pow_mul_add _ (Nat.mod_lt _ (by decide)), Nat.testBit_two_pow_mul_add _ hd']
  split
  · rw [Nat.testBit_and]
  · rw [Nat.testBit_and]
def h1 (b : Nat) : Nat := (b / 2 &&& 85) + (b &&& 85)
def h2 (c : Nat) : Nat := (c / 4 &&& 51) + (c &&& 51)
theorem decA : ∀ b : Fin 256, ∀ e : Fin 2, ((b.val / 2 + 128 * e.val) &&& 85) = (b.val / 2 &&& 85) := by decide +kernel
theorem decA2 : ∀ b : Fin 256, (b.val / 2 &&& 93824992236885) = (b.val / 2 &&& 85) ∧ (b.val &&& 93824992236885) = (b.val &&& 85) := by decide +kernel
theorem decB : ∀ b : Fin 256, ∀ e : Fin 4, ((b.val / 4 + 64 * e.val) &&& 51) = (b.val / 4 &&& 51) := by decide +kernel
theorem decB2 : ∀ b : Fin 256, (b.val / 4 &&& 56294995342131) = (b.val / 4 &&& 51) ∧ (b.val &&& 56294995342131) = (b.val &&& 51) := by decide +kernel
theorem decC : ∀ b : Fin 256, h1 b.val ≤ 170 ∧ h2 (h1 b.val) ≤ 68 ∧ h2 (h1 b.val) % 16 ≤ 4 ∧ pcn b.val 8 ≤ 8 := by decide +kernel
theorem decD : ∀ b : Fin 256, ∀ e : Fin 5, ((h2 (h1 b.val) / 16 + 16 * e.val + h2 (h1 b.val)) &&& 15) = pcn b.val 8 := by decide +kernel
theorem decD2 : ∀ b : Fin 256, ((h2 (h1 b.val) / 16 + h2 (h1 b.val)) &&& 16557351571215) = pcn b.val 8 := by decide +kernel
theorem step1 {b0 b1 b2 : Nat} (l0 : b0 < 256) (l1 : b1 < 256) (l2 : b2 < 256) : ((256 * (256 * b2 + b1) + b0) / 2 &&& 6148914691236517205) + ((256 * (256 * b2 + b1) + b0) &&& 6148914691236517205) = 256 * (256 * h1 b2 + h1 b1) + h1 b0 := by
  have e0 : (256 * (256 * b2 + b1) + b0) / 2 = 256 * (256 * (b2 / 2) + (b1 / 2 + 128 * (b2 % 2))) + (b0 / 2 + 128 * (b1 % 2)) := by omega
  rw [e0, and_byte _ _ _ (by omega), and_byte _ _ _ (by omega), and_byte _ _ _ l0, and_byte _ _ _ l1]
  have a0 := decA ⟨b0, l0⟩ ⟨b1 % 2, by omega⟩
  have a1 := decA ⟨b1, l1⟩ ⟨b2 % 2, by omega⟩
  have a2 := decA2 ⟨b2, l2⟩
  simp only [] at a0 a1 a2
  simp only [show 6148914691236517205 / 256 = 24019198012642645 from rfl, show 6148914691236517205 % 256 = 85 from rfl, show 24019198012642645 / 256 = 93824992236885 from rfl, show 24019198012642645 % 256 = 85 from rfl, a0, a1, a2.1, a2.2]
  unfold h1
  omega
theorem step2 {b0 b1 b2 : Nat} (l0 : b0 < 256) (l1 : b1 < 256) (l2 : b2 < 256) : ((256 * (256 * b2 + b1) + b0) / 4 &&& 3689348814741910323) + ((256 * (256 * b2 + b1) + b0) &&& 3689348814741910323) = 256 * (256 * h2 b2 + h2 b1) + h2 b0 := by
  have e0 : (256 * (256 * b2 + b1) + b0) / 4 = 256 * (256 * (b2 / 4) + (b1 / 4 + 64 * (b2 % 4))) + (b0 / 4 + 64 * (b1 % 4)) := by omega
  rw [e0, and_byte _ _ _ (by omega), and_byte _ _ _ (by omega), and_byte _ _ _ l0, and_byte _ _ _ l1]
  have a0 := decB ⟨b0, l0⟩ ⟨b1 % 4, by omega⟩
  have a1 := decB ⟨b1, l1⟩ ⟨b2 % 4, by omega⟩
  have a2 := decB2 ⟨b2, l2⟩
  simp only [] at a0 a1 a2
  simp only [show 3689348814741910323 / 256 = 14411518807585587 from rfl, show 3689348814741910323 % 256 = 51 from rfl, show 14411518807585587 / 256 = 56294995342131 from rfl, show 14411518807585587 % 256 = 51 from rfl, a0, a1, a2.1, a2.2]
  unfold h2
  omega
theorem step3 {b0 b1 b2 : Nat} (l0 : b0 < 256) (l1 : b1 < 256) (l2 : b2 < 256) {x : Nat} (hx : x = 256 * (256 * h2 (h1 b2) + h2 (h1 b1)) + h2 (h1 b0)) : (x / 16 + x) &&& 1085102592571150095 = 256 * (256 * pcn b2 8 + pcn b1 8) + pcn b0 8 := by
  have c0 := decC ⟨b0, l0⟩
  have c1 := decC ⟨b1, l1⟩
  have c2 := decC ⟨b2, l2⟩
  have d0 := decD ⟨b0, l0⟩ ⟨h2 (h1 b1) % 16, by have := c1; simp only [] at this; omega⟩
  have d1 := decD ⟨b1, l1⟩ ⟨h2 (h1 b2) % 16, by have := c2; simp only [] at this; omega⟩
  have d2 := decD2 ⟨b2, l2⟩
  simp only [] at c0 c1 c2 d0 d1 d2
  subst hx
  generalize h2 (h1 b0) = e0 at *
  generalize h2 (h1 b1) = e1 at *
  generalize h2 (h1 b2) = e2 at *
  have e : (256 * (256 * e2 + e1) + e0) / 16 + (256 * (256 * e2 + e1) + e0) = 256 * (256 * (e2 / 16 + e2) + (e1 / 16 + 16 * (e2 % 16) + e1)) + (e0 / 16 + 16 * (e1 % 16) + e0) := by omega
  rw [e, and_byte _ _ _ (by omega), and_byte _ _ _ (by omega)]
  simp only [show 1085102592571150095 / 256 = 4238682002231055 from rfl, show 1085102592571150095 % 256 = 15 from rfl, show 4238682002231055 / 256 = 16557351571215 from rfl, show 4238682002231055 % 256 = 15 from rfl, d0, d1, d2]
theorem sum3 {p0 p1 p2 x3 x4 x5 : Nat} (q0 : p0 ≤ 8) (q1 : p1 ≤ 8) (q2 : p2 ≤ 8) (e3 : x3 = 256 * (256 * p2 + p1) + p0) (e4 : x4 = x3 + x3 / 256) (e5 : x5 = x4 + x4 / 65536) : x5 % 128 = p0 + (p1 + p2) := by
  have d3 : x3 / 256 = 256 * p2 + p1 := by omega
  have e4' : x4 = 65536 * p2 + 256 * (p1 + p2) + (p0 + p1) := by omega
  have d4 : x4 / 65536 = p2 := by omega
  have e5' : x5 = 128 * (512 * p2 + 2 * (p1 + p2)) + (p0 + p1 + p2) := by omega
  clear e3 e4 e5 d3 e4' d4
  omega
theorem bits_and_u {a b : Nat} (ha : a < 2 ^ 64) (hb : b < 2 ^ 64) : Go.bits .and .u64 (a : Int) (b : Int) = ((a &&& b : Nat) : Int) :=
  (bits_nat .u64 64 (by decide) (fun n h0 h1 => by obtain ⟨m, rfl⟩ := Int.eq_ofNat_of_zero_le h0; exact wrapu_nat (by omega)) a b ha hb).1
theorem and_lit_u {a : Nat} (m : Nat) (ha : a < 2 ^ 64) (hm : m < 2 ^ 64) {z : Int} (hz : z = (m : Int)) : Go.bits .and .u64 (a : Int) z = ((a &&& m : Nat) : Int) := by rw [hz]; exact bits_and_u ha hm
theorem onesCount64 {n : Nat} (hn : n < 16777216) : math_bits_OnesCount64.f (n : Int) = some ((pcn n 24 : Nat) : Int) := by
  obtain ⟨b0, b1, b2, l0, l1, l2, rfl⟩ : ∃ b0 b1 b2, b0 < 256 ∧ b1 < 256 ∧ b2 < 256 ∧ n = 256 * (256 * b2 + b1) + b0 := ⟨n % 256, n / 256 % 256, n / 65536, by omega, by omega, by omega, by omega⟩
  obtain ⟨x, hx⟩ : ∃ x, x = 256 * (256 * b2 + b1) + b0 := ⟨_, rfl⟩
  have s1 := step1 l0 l1 l2
  have c0 := decC ⟨b0, l0⟩
  have c1 := decC ⟨b1, l1⟩
  have c2 := decC ⟨b2, l2⟩
  simp only [] at c0 c1 c2
  rw [← hx] at s1 hn ⊢
  obtain ⟨x1, hx1⟩ : ∃ x1, x1 = 256 * (256 * h1 b2 + h1 b1) + h1 b0 := ⟨_, rfl⟩
  have s2 := step2 (b0 := h1 b0) (b1 := h1 b1) (b2 := h1 b2) (by omega) (by omega) (by omega)
  rw [← hx1] at s1 s2
  obtain ⟨x2, hx2⟩ : ∃ x2, x2 = 256 * (256 * h2 (h1 b2) + h2 (h1 b1)) + h2 (h1 b0) := ⟨_, rfl⟩
  have s3 := step3 l0 l1 l2 hx2
  rw [← hx2] at s2
  obtain ⟨x3, hx3⟩ : ∃ x3, x3 = 256 * (256 * pcn b2 8 + pcn b1 8) + pcn b0 8 := ⟨_, rfl⟩
  rw [← hx3] at s3
  have t1 : IntKind.u64.wrap (Go.bits .and .u64 ((x : Int) / 2) 6148914691236517205 + Go.bits .and .u64 (x : Int) 6148914691236517205) = (x1 : Int) := by
    rw [show (x : Int) / 2 = ((x / 2 : Nat) : Int) by omega, and_lit_u (a := x / 2) (z := 6148914691236517205) 6148914691236517205 (by omega) (by decide) rfl, and_lit_u (a := x) (z := 6148914691236517205) 6148914691236517205 (by omega) (by decide) rfl, ← Int.natCast_add, s1]
    exact wrapu_nat (by omega)
  have t2 : IntKind.u64.wrap (Go.bits .and .u64 ((x1 : Int) / 4) 3689348814741910323 + Go.bits .and .u64 (x1 : Int) 3689348814741910323) = (x2 : Int) := by
    rw [show (x1 : Int) / 4 = ((x1 / 4 : Nat) : Int) by omega, and_lit_u (a := x1 / 4) (z := 3689348814741910323) 3689348814741910323 (by omega) (by decide) rfl, and_lit_u (a := x1) (z := 3689348814741910323) 3689348814741910323 (by omega) (by decide) rfl, ← Int.natCast_add, s2]
    exact wrapu_nat (by omega)
  have t3 : Go.bits .and .u64 (IntKind.u64.wrap ((x2 : Int) / 16 + (x2 : Int))) 1085102592571150095 = (x3 : Int) := by
    rw [show (x2 : Int) / 16 + (x2 : Int) = ((x2 / 16 + x2 : Nat) : Int) by omega, wrapu_nat (by omega), and_lit_u (a := x2 / 16 + x2) (z := 1085102592571150095) 1085102592571150095 (by omega) (by decide) rfl, s3]
  have t4 : IntKind.u64.wrap ((x3 : Int) + (x3 : Int) / 256) = ((x3 + x3 / 256 : Nat) : Int) := by
    rw [show (x3 : Int) + (x3 : Int) / 256 = ((x3 + x3 / 256 : Nat) : Int) by omega]
    exact wrapu_nat (by omega)
  obtain ⟨x4, hx4⟩ : ∃ x4, x4 = x3 + x3 / 256 := ⟨_, rfl⟩
  rw [← hx4] at t4
  have t5 : IntKind.u64.wrap ((x4 : Int) + (x4 : Int) / 65536) = ((x4 + x4 / 65536 : Nat) : Int) := by
    rw [show (x4 : Int) + (x4 : Int) / 65536 = ((x4 + x4 / 65536 : Nat) : Int) by omega]
    exact wrapu_nat (by omega)
  obtain ⟨x5, hx5⟩ : ∃ x5, x5 = x4 + x4 / 65536 := ⟨_, rfl⟩
  rw [← hx5] at t5
  have t6 : IntKind.u64.wrap ((x5 : Int) + (x5 : Int) / 4294967296) = (x5 : Int) := by
    rw [show (x5 : Int) + (x5 : Int) / 4294967296 = (x5 : Int) by omega]
    exact wrapu_nat (by omega)
  unfold math_bits_OnesCount64.f
  rw [t1, t2, t3, t4, t5, t6]
  rw [w64 (by omega) (by omega)]
  congr 1
  have := bits_and_i (a := x5) (b := 127) (by omega) (by decide)
  refine this.trans ?_
  congr 1
  have p : pcn x 24 = pcn b0 8 + (pcn b1 8 + pcn b2 8) := by
    rw [hx, show 24 = 8 + (8 + 8) from rfl, pcn_split _ _ _ l0, pcn_split _ _ _ l1]
  rw [p, show (127 : Nat) = 2 ^ 7 - 1 from rfl, Nat.and_two_pow_sub_one_eq_mod]
  exact sum3 c0.2.2.2 c1.2.2.2 c2.2.2.2 hx3 hx4 hx5
end Go.Proofs.Ytimejdhglmajdaa.F
end

section
namespace Go.Proofs.Ytimejdhglmajdaa.F
open Go.RowKit Go.Proofs.YtimejdhglmajdaaW.PrintWords Go.Proofs.YtimejdhglmajdaaW.PrintLast Go.Proofs.YtimejdhglmajdaaW.PrintMore
set_option linter.unusedVariables false
set_option linter.unusedSimpArgs false
def cp (w h o : Int) : Int := if mok w h o then ((pcn o.toNat 24 : Nat) : Int) else 0
theorem impl_CountPassages_eq (w h o : Int) : impl_CountPassages.f w h o = some (cp w h o) := by
  unfold impl_CountPassages.f cp math_bits_OnesCount.f
  rw [impl_MazeOk_eq, Option.bind_some]
  by_cases M : mok w h o = true
  · rw [if_pos M, if_pos M]
    have s := mok_small M
    obtain ⟨n, rfl⟩ := Int.eq_ofNat_of_zero_le s.1
    rw [wrapu_nat (by omega), onesCount64 (by omega)]
    rfl
  · rw [if_neg M, if_neg M]
def mostO (w h : Int) : Int → Int → List Int → Int
  | n, _, [] => n
  | n, o, g :: l => mostO w h (mx n (cp w h (flip o g))) (flip o g) l
theorem impl_MostOpen_eq {k : Nat} {l : List Int} (w h o : Int) (hl : l.length ≤ 1048576) (hk : l.length + 5 ≤ k) : impl_MostOpen.f k w h o l = some (if pok w h o l then mostO w h (cp w h o) o l else -1) := by
  unfold impl_MostOpen.f
  rw [impl_Rebuilt_eq w h o hl (by omega), Option.bind_some]
  by_cases p : pok w h o l = true
  · rw [if_pos p, if_pos p]
    obtain ⟨M, hl2, hg⟩ := pok_iff.1 p
    simp only [if_true, impl_CountPassages_eq, Option.bind_some]
    have key : ∀ (d i : Nat) (k : Nat) (n q : Int), i + d = l.length → d + 1 ≤ k → mok w h q = true → impl_MostOpen.l0 k n l (l.length : Int) (i : Int) w h q = some (mostO w h n q (l.drop i)) := by
      intro d
      induction d with
      | zero =>
        intro i k n q hi hk Mq
        obtain ⟨m, rfl⟩ : ∃ m, k = m + 1 := ⟨k - 1, by omega⟩
        simp only [impl_MostOpen.l0]
        rw [if_neg (by omega), List.drop_of_length_le (by omega)]
        rfl
      | succ d ih =>
        intro i k n q hi hk Mq
        obtain ⟨m, rfl⟩ : ∃ m, k = m + 1 := ⟨k - 1, by omega⟩
        have hil : i < l.length := by omega
        have e : rd l (i : Int) = l[i] := by rw [rd_nat, List.getD_eq_getElem?_getD, List.getElem?_eq_getElem hil]; rfl
        have ig := hg l[i] (List.getElem_mem hil)
        have gs := gaps_small ig
        have ms := mok_small Mq
        simp only [impl_MostOpen.l0]
        rw [if_pos (by omega), if_pos (by omega), if_pos (by omega), e, impl_changed_eq w h ms.1 (by omega) gs.1 (by omega), Option.bind_some, impl_CountPassages_eq, Option.bind_some, w64_succ hil (by omega), List.drop_eq_getElem_cons hil]
        have := ih (i + 1) m (mx n (cp w h (flip q l[i]))) (flip q l[i]) (by omega) (by omega) (mok_flip Mq ig)
        rw [Int.natCast_add] at this
        exact this
    have := key l.length 0 k (cp w h o) o (by omega) (by omega) M
    simpa using this
  · rw [if_neg p, if_neg p]
    simp
end Go.Proofs.Ytimejdhglmajdaa.F
end

section
namespace Go.Proofs.Ytimejdhglmajdaa.F
open Go.RowKit Go.Proofs.YtimejdhglmajdaaW.PrintWords Go.Proofs.YtimejdhglmajdaaW.PrintLast Go.Proofs.YtimejdhglmajdaaW.PrintMore
set_option linter.unusedVariables false
set_option linter.unusedSimpArgs false
def ends (w h g : Int) : Int × Int := (spec_EndsOf.f w h g).getD (0, 0)
def four : List Int := [1, 2, 3, 4]
def gaps24 : List Int := [0, 1, 2, 3, 4, 5, 6, 7, 8, 9, 10, 11, 12, 13, 14, 15, 16, 17, 18, 19, 20, 21, 22, 23]
theorem ends_all : ∀ w ∈ four, ∀ h ∈ four, ∀ g ∈ gaps24, igap w h g = true → spec_EndsOf.f w h g = some (ends w h g) ∧ icell w h (ends w h g).1 = true ∧ icell w h (ends w h g).2 = true ∧ (nb w h (ends w h g).1 1 = (ends w h g).2 ∧ gp w h (ends w h g).1 1 = g ∨ nb w h (ends w h g).1 2 = (ends w h g).2 ∧ gp w h (ends w h g).1 2 = g) := by
  decide +kernel
theorem down_all : ∀ w ∈ four, ∀ h ∈ four, ∀ c ∈ cells16, icell w h c = true → c ≠ 0 → ∃ g ∈ gaps24, igap w h g = true ∧ (ends w h g).2 = c ∧ (ends w h g).1 < c := by
  decide +kernel
theorem mem_four {w h : Int} (G : gok w h = true) : w ∈ four ∧ h ∈ four := by
  have := gok_iff.1 G
  constructor <;> simp [four] <;> omega
theorem mem_gaps24 {w h g : Int} (H : igap w h g = true) : g ∈ gaps24 := by
  have := gaps_small H
  simp [gaps24]; omega
theorem ends_spec {w h g : Int} (G : gok w h = true) (H : igap w h g = true) : spec_EndsOf.f w h g = some (ends w h g) ∧ icell w h (ends w h g).1 = true ∧ icell w h (ends w h g).2 = true ∧ (nb w h (ends w h g).1 1 = (ends w h g).2 ∧ gp w h (ends w h g).1 1 = g ∨ nb w h (ends w h g).1 2 = (ends w h g).2 ∧ gp w h (ends w h g).1 2 = g) :=
  ends_all w (mem_four G).1 h (mem_four G).2 g (mem_gaps24 H) H
theorem ends_down {w h c : Int} (G : gok w h = true) (H : icell w h c = true) (h0 : c ≠ 0) : ∃ g, igap w h g = true ∧ (ends w h g).2 = c ∧ (ends w h g).1 < c := by
  have cb := icell_iff.1 H
  have b := cells_bd w h
  obtain ⟨g, _, r⟩ := down_all w (mem_four G).1 h (mem_four G).2 c (by simp [cells16]; omega) H h0
  exact ⟨g, r⟩
theorem lnk_gap {w h o g : Int} (M : mok w h o = true) (H : igap w h g = true) (ho : opn o g = true) : lnk w h o (ends w h g).1 (ends w h g).2 := by
  have G := (mok_iff.1 M).1
  obtain ⟨_, h1, h2, h3⟩ := ends_spec G H
  have c2 := icell_iff.1 h2
  have hp : psg w h o g = true := by unfold psg; rw [M, H, ho]; rfl
  rcases h3 with ⟨a, b⟩ | ⟨a, b⟩
  · have e : st w h o (ends w h g).1 1 = (ends w h g).2 := by unfold st; rw [b, if_pos hp, a]
    have := lnk_step (w := w) (h := h) (o := o) (a := (ends w h g).1) (d := 1) (by rw [e]; exact c2.1)
    rwa [e] at this
  · have e : st w h o (ends w h g).1 2 = (ends w h g).2 := by unfold st; rw [b, if_pos hp, a]
    have := lnk_step (w := w) (h := h) (o := o) (a := (ends w h g).1) (d := 2) (by rw [e]; exact c2.1)
    rwa [e] at this
theorem countP_one {α : Type} [DecidableEq α] {p q : α → Bool} {x : α} (hp : p x = false) (hq : q x = true) (he : ∀ y, y ≠ x → p y = q y) : ∀ {l : List α}, l.Nodup → x ∈ l → l.countP q = l.countP p + 1
  | [], _, h => absurd h (by simp)
  | y :: l, hn, h => by
    rw [List.nodup_cons] at hn
    rw [List.countP_cons, List.countP_cons]
    by_cases e : y = x
    · subst e
      have : l.countP q = l.countP p := by
        rw [List.countP_eq_length_filter, List.countP_eq_length_filter]
        congr 1
        refine List.filter_congr fun z hz => (he z ?_).symm
        rintro rfl
        exact hn.1 hz
      rw [hp, hq, this]
      simp
    · have hx : x ∈ l := by
        rcases List.mem_cons.1 h with h | h
        · exact absurd h.symm e
        · exact h
      rw [countP_one hp hq he hn.2 hx, he y e]
      omega
theorem pcn_setb {o g : Int} (h0 : 0 ≤ g) (h1 : g < 24) (ho : opn o g = false) : pcn (setb o g true).toNat 24 = pcn o.toNat 24 + 1 := by
  unfold pcn
  refine countP_one (x := g.toNat) ?_ ?_ (fun y hy => ?_) List.nodup_range (by rw [List.mem_range]; omega)
  · exact ho
  · have := opn_setb (o := o) true h0 h0
    rw [if_pos rfl] at this
    exact this
  · have := opn_setb (o := o) (i := (y : Int)) true h0 (by omega)
    rw [if_neg (by omega)] at this
    unfold opn at this
    simp only [Int.toNat_natCast] at this
    exact this.symm
theorem rd_map {P : List Int} {f : Int → Int} {x : Int} (h0 : 0 ≤ x) (h1 : x < P.length) : rd (P.map f) x = f (rd P x) := by
  obtain ⟨n, rfl⟩ := Int.eq_ofNat_of_zero_le h0
  have hn : n < P.length := by omega
  rw [rd_nat, rd_nat, List.getD_eq_getElem?_getD, List.getD_eq_getElem?_getD, List.getElem?_map, List.getElem?_eq_getElem hn]
  rfl
structure TI (w h o : Int) (P : List Int) : Prop where
  len : P.length = stN w h
  rng : ∀ x, icell w h x = true → icell w h (rd P x) = true ∧ rd P (rd P x) = rd P x
  lk : ∀ x y, icell w h x = true → icell w h y = true → rd P x = rd P y → lnk w h o x y
  ok : mok w h o = true
  op : ∀ g, igap w h g = true → opn o g = true → rd P (ends w h g).1 = rd P (ends w h g).2
  cnt : pcn o.toNat 24 + (ints (stN w h)).countP (fun x => rd P x == x) = stN w h
theorem rd_ints {n : Nat} {x : Int} (h0 : 0 ≤ x) (h1 : x < n) : rd (ints n) x = x := by
  obtain ⟨m, rfl⟩ := Int.eq_ofNat_of_zero_le h0
  have hm : m < n := by omega
  rw [rd_nat, List.getD_eq_getElem?_getD]
  unfold ints
  rw [List.getElem?_map, List.getElem?_range hm]
  rfl
theorem ti_init {w h : Int} (G : gok w h = true) : TI w h 0 (ints (stN w h)) := by
  have hN := stN_int w h
  have hr : ∀ x, icell w h x = true → rd (ints (stN w h)) x = x := fun x hx => by
    have := icell_iff.1 hx
    exact rd_ints this.1 (by omega)
  refine ⟨ints_length _, fun x hx => ?_, fun x y hx hy e => ?_, ?_, fun g _ ho => ?_, ?_⟩
  · rw [hr x hx]; exact ⟨hx, hr x hx⟩
  · rw [hr x hx, hr y hy] at e; rw [e]; exact lnk_refl _ _ _ _
  · refine mok_iff.2 ⟨G, Int.le_refl _, ?_⟩
    have := gpow w h
    omega
  · unfold opn at ho; simp at ho
  · have e : (ints (stN w h)).countP (fun x => rd (ints (stN w h)) x == x) = (ints (stN w h)).length := by
      rw [List.countP_eq_length]
      intro x hx
      have := mem_ints.1 hx
      rw [rd_ints this.1 this.2]
      simp
    rw [e, ints_length]
    have : pcn (0 : Int).toNat 24 = 0 := by decide
    omega
def sub1 (old new v : Int) : Int := if v = old then new else v
theorem sub1_pos {old new v : Int} (h : v = old) : sub1 old new v = new := by unfold sub1; rw [if_pos h]
theorem sub1_neg {old new v : Int} (h : v ≠ old) : sub1 old new v = v := by unfold sub1; rw [if_neg h]
theorem ti_step {w h o g : Int} {P : List Int} (T : TI w h o P) (H : igap w h g = true) (hne : rd P (ends w h g).1 ≠ rd P (ends w h g).2) : TI w h (setb o g true) (P.map (sub1 (rd P (ends w h g).2) (rd P (ends w h g).1))) := by
  have G := (mok_iff.1 T.ok).1
  obtain ⟨_, ca, cb, _⟩ := ends_spec G H
  have hg := gaps_small H
  have M' := mok_setb true T.ok H
  have hN := stN_int w h
  have hin : ∀ x, icell w h x = true → 0 ≤ x ∧ x < P.length := fun x hx => by have := icell_iff.1 hx; have := T.len; omega
  have hr : ∀ x, icell w h x = true → rd (P.map (sub1 (rd P (ends w h g).2) (rd P (ends w h g).1))) x = sub1 (rd P (ends w h g).2) (rd P (ends w h g).1) (rd P x) := fun x hx => rd_map (hin x hx).1 (hin x hx).2
  have more : ∀ j, 0 ≤ j → opn o j = true → opn (setb o g true) j = true := fun j hj ho => by
    rw [opn_setb true hg.1 hj]
    split
    · rfl
    · exact ho
  have og : opn (setb o g true) g = true := by rw [opn_setb true hg.1 hg.1, if_pos rfl]
  have ab := lnk_gap M' H og
  obtain ⟨ra, ra2⟩ := T.rng _ ca
  obtain ⟨rb, rb2⟩ := T.rng _ cb
  generalize hA : rd P (ends w h g).1 = A at *
  generalize hB : rd P (ends w h g).2 = B at *
  refine ⟨by rw [List.length_map]; exact T.len, fun x hx => ?_, fun x y hx hy e => ?_, M', fun j hj ho => ?_, ?_⟩
  · obtain ⟨r1, r2⟩ := T.rng x hx
    rw [hr x hx]
    by_cases c : rd P x = B
    · rw [sub1_pos c]
      refine ⟨ra, ?_⟩
      rw [hr _ ra, ra2, sub1_neg hne]
    · rw [sub1_neg c]
      refine ⟨r1, ?_⟩
      rw [hr _ r1, r2, sub1_neg c]
  · rw [hr x hx, hr y hy] at e
    have lm : ∀ x y, icell w h x = true → icell w h y = true → rd P x = rd P y → lnk w h (setb o g true) x y := fun x y hx hy e => lnk_more M' more (T.lk x y hx hy e)
    unfold sub1 at e
    by_cases c1 : rd P x = B <;> by_cases c2 : rd P y = B
    · exact lm x y hx hy (c1.trans c2.symm)
    · rw [if_pos c1, if_neg c2] at e
      exact lnk_trans (lm _ _ hx cb (c1.trans hB.symm)) (lnk_trans (lnk_symm ab) (lm _ _ ca hy (hA.trans e)))
    · rw [if_neg c1, if_pos c2] at e
      exact lnk_trans (lm _ _ hx ca (e.trans hA.symm)) (lnk_trans ab (lm _ _ cb hy (hB.trans c2.symm)))
    · rw [if_neg c1, if_neg c2] at e
      exact lm x y hx hy e
  · obtain ⟨_, c1, c2, _⟩ := ends_spec G hj
    rw [hr _ c1, hr _ c2]
    rw [opn_setb true hg.1 (igap_iff.1 hj).1] at ho
    by_cases e : j = g
    · subst e
      rw [hA, hB]
      unfold sub1
      rw [if_neg hne, if_pos rfl]
    · rw [if_neg e] at ho
      rw [T.op j hj ho]
  · have ho : opn o g = false := by
      cases e : opn o g with
      | false => rfl
      | true => exact absurd (by have := T.op g H e; rw [hA, hB] at this; exact this) hne
    rw [pcn_setb hg.1 hg.2 ho]
    have hb := icell_iff.1 rb
    have key := countP_one (p := fun x => rd (P.map (sub1 B A)) x == x) (q := fun x => rd P x == x) (x := B) (l := ints (stN w h)) ?_ ?_ ?_ (by
      unfold ints
      exact List.pairwise_map.2 (List.nodup_range.imp fun h e => h (by omega))) (mem_ints.2 ⟨hb.1, by omega⟩)
    · have := T.cnt
      omega
    · show (rd (P.map (sub1 B A)) B == B) = false
      rw [hr _ rb, rb2]
      unfold sub1
      rw [if_pos rfl]
      simpa using hne
    · show (rd P B == B) = true
      rw [rb2]; simp
    · intro y hy
      show (rd (P.map (sub1 B A)) y == y) = (rd P y == y)
      by_cases cy : icell w h y = true
      · rw [hr y cy]
        unfold sub1
        by_cases c : rd P y = B
        · rw [if_pos c]
          have h1 : A ≠ y := by
            rintro rfl
            exact hne (ra2.symm.trans c)
          have h2 : rd P y ≠ y := by rw [c]; exact fun e => hy e.symm
          rw [beq_eq_false_iff_ne.2 h1, beq_eq_false_iff_ne.2 h2]
        · rw [if_neg c]
      · have hl : P.length = (P.map (sub1 B A)).length := by simp
        by_cases hy0 : 0 ≤ y
        · have hy1 : P.length ≤ y.toNat := by
            have h1 : ¬ (0 ≤ y ∧ y < cells w h) := fun z => cy (icell_iff.2 z)
            have := T.len
            omega
          unfold rd
          rw [List.getD_eq_getElem?_getD, List.getD_eq_getElem?_getD, List.getElem?_eq_none (by rw [List.length_map]; exact hy1), List.getElem?_eq_none hy1]
        · have ht : y.toNat = 0 := by omega
          have e0 : ∀ L : List Int, rd L y = rd L 0 := fun L => by unfold rd; rw [ht]; rfl
          have c0 := icell_zero G
          have n1 : ∀ z, icell w h z = true → (z == y) = false := fun z hz => by
            have := icell_iff.1 hz
            rw [beq_eq_false_iff_ne]; omega
          rw [e0, e0, n1 _ (T.rng 0 c0).1, hr 0 c0]
          unfold sub1
          split
          · exact n1 _ ra
          · exact n1 _ (T.rng 0 c0).1
theorem ti_end {w h o : Int} {P : List Int} (T : TI w h o P) (H : ∀ g, igap w h g = true → rd P (ends w h g).1 = rd P (ends w h g).2) : conn w h o = true ∧ ((pcn o.toNat 24 : Nat) : Int) = cells w h - 1 := by
  have G := (mok_iff.1 T.ok).1
  have c0 := icell_zero G
  have hN := stN_int w h
  have key : ∀ (n : Nat) (x : Int), x.toNat ≤ n → icell w h x = true → rd P x = rd P 0 := by
    intro n
    induction n with
    | zero =>
      intro x hx hc
      have := icell_iff.1 hc
      obtain rfl : x = 0 := by omega
      rfl
    | succ n ih =>
      intro x hx hc
      by_cases x0 : x = 0
      · rw [x0]
      · obtain ⟨g, hg, e1, e2⟩ := ends_down G hc x0
        obtain ⟨_, c1, _, _⟩ := ends_spec G hg
        have := icell_iff.1 c1
        rw [← e1, ← H g hg]
        exact ih _ (by omega) c1
  refine ⟨conn_iff.2 ⟨T.ok, fun x hx => T.lk 0 x c0 hx (key _ x (Nat.le_refl _) hx).symm⟩, ?_⟩
  have h1 : (ints (stN w h)).countP (fun x => rd P x == x) = 1 := by
    obtain ⟨r1, r2⟩ := T.rng 0 c0
    have cr := icell_iff.1 r1
    have e1 : (ints (stN w h)).countP (fun x => rd P x == x) = (ints (stN w h)).countP (fun x => x == rd P 0) := by
      rw [List.countP_eq_length_filter, List.countP_eq_length_filter]
      congr 1
      refine List.filter_congr fun x hx => ?_
      have hm := mem_ints.1 hx
      have hc : icell w h x = true := icell_iff.2 ⟨hm.1, by omega⟩
      rw [key _ x (Nat.le_refl _) hc, Bool.eq_iff_iff]
      simp only [beq_iff_eq]
      exact ⟨fun h => h.symm, fun h => h.symm⟩
    have e2 := countP_one (p := fun _ => false) (q := fun x => x == rd P 0) (x := rd P 0) (l := ints (stN w h)) rfl (by simp) (fun y hy => (beq_eq_false_iff_ne.2 hy).symm) (by
      unfold ints
      exact List.pairwise_map.2 (List.nodup_range.imp fun h e => h (by omega))) (mem_ints.2 ⟨cr.1, by omega⟩)
    rw [e1, e2]
    simp
  have := T.cnt
  omega
theorem or_shl_eq {o g : Int} (ho : 0 ≤ o) (h1 : o < 2 ^ 62) (hg : 0 ≤ g) (h2 : g < 62) : Go.bits .or .i64 o (shl .i64 1 g) = setb o g true := by
  obtain ⟨a, rfl⟩ := Int.eq_ofNat_of_zero_le ho
  obtain ⟨n, rfl⟩ := Int.eq_ofNat_of_zero_le hg
  have hp : (2 : Nat) ^ n < 2 ^ 63 := Nat.pow_lt_pow_right (by decide) (by omega)
  rw [shl_one (by omega), bits_or_i (by omega) hp]
  unfold setb
  rw [if_pos rfl]
  simp
theorem tree_l3 {w h o n f s a old new : Int} {i0 : Int} {l : List Int} {s1 s2 : Int} {P : List Int} (ha : 0 ≤ a ∧ a < P.length) (hA : rd P a = new) (hne : new ≠ old) (hP : P.length ≤ 100) : ∀ (t i k : Nat) (Q : List Int), i + t = P.length → t + 1 ≤ k → Q.length = P.length →
    (∀ j : Nat, j < P.length → rd Q (j : Int) = if j < i then sub1 old new (rd P (j : Int)) else rd P (j : Int)) →
    spec_l03Tree.l3 k n Q f s i0 a old (i : Int) l s1 s2 w h w h o = spec_l03Tree.l2 (k - t - 1) n (P.map (sub1 old new)) f s (wrap64 (i0 + 1)) l s1 s2 w h w h o
  | 0, i, k, Q, hi, hk, hl, hQ => by
    obtain ⟨m, rfl⟩ : ∃ m, k = m + 1 := ⟨k - 1, by omega⟩
    simp only [spec_l03Tree.l3]
    rw [if_neg (by omega)]
    have e : Q = P.map (sub1 old new) := by
      apply List.ext_getElem
      · rw [List.length_map, hl]
      · intro j h1 h2
        have := hQ j (by omega)
        rw [if_pos (by omega), rd_nat, rd_nat, List.getD_eq_getElem?_getD, List.getD_eq_getElem?_getD, List.getElem?_eq_getElem h1, List.getElem?_eq_getElem (by omega)] at this
        simpa using this
    rw [e]
    rfl
  | t + 1, i, k, Q, hi, hk, hl, hQ => by
    obtain ⟨m, rfl⟩ : ∃ m, k = m + 1 := ⟨k - 1, by omega⟩
    have hil : i < P.length := by omega
    have hi0 := hQ i hil
    rw [if_neg (Nat.lt_irrefl _)] at hi0
    have hqa : rd Q a = new := by
      obtain ⟨j, rfl⟩ := Int.eq_ofNat_of_zero_le ha.1
      rw [hQ j (by omega), hA]
      unfold sub1
      rw [if_neg hne]
      split <;> rfl
    simp only [spec_l03Tree.l3]
    rw [if_pos (by omega), if_pos (by omega), hi0, w64 (x := (i : Int) + 1) (by omega) (by omega)]
    have step : ∀ Q2 : List Int, Q2.length = P.length → (∀ j : Nat, j < P.length → rd Q2 (j : Int) = if j < i + 1 then sub1 old new (rd P (j : Int)) else rd P (j : Int)) → spec_l03Tree.l3 m n Q2 f s i0 a old ((i : Int) + 1) l s1 s2 w h w h o = spec_l03Tree.l2 (m + 1 - (t + 1) - 1) n (P.map (sub1 old new)) f s (wrap64 (i0 + 1)) l s1 s2 w h w h o := fun Q2 h1 h2 => by
      have := tree_l3 (w := w) (h := h) (o := o) (n := n) (f := f) (s := s) (i0 := i0) (l := l) (s1 := s1) (s2 := s2) ha hA hne hP t (i + 1) m Q2 (by omega) (by omega) h1 h2
      rw [Int.natCast_add] at this
      rw [show m + 1 - (t + 1) - 1 = m - t - 1 by omega]
      exact this
    by_cases c : rd P (i : Int) = old
    · rw [if_pos c, if_pos ha.1, if_pos (by omega), hqa]
      refine step _ (by simpa using hl) fun j hj => ?_
      rw [rd_set (by omega) (by omega) (by omega)]
      by_cases e : (j : Int) = (i : Int)
      · have e' : j = i := by omega
        subst e'
        rw [if_pos rfl, if_pos (by omega)]
        unfold sub1
        rw [if_pos c]
      · rw [if_neg e, hQ j hj]
        by_cases q : j < i
        · rw [if_pos q, if_pos (by omega)]
        · rw [if_neg q, if_neg (by omega)]
    · rw [if_neg c]
      refine step _ hl fun j hj => ?_
      rw [hQ j hj]
      by_cases e : j = i
      · subst e
        rw [if_neg (Nat.lt_irrefl _), if_pos (by omega)]
        unfold sub1
        rw [if_neg c]
      · by_cases q : j < i
        · rw [if_pos q, if_pos (by omega)]
        · rw [if_neg q, if_neg (by omega)]
def gapi (n f s i : Nat) : Int := (((f + i * s) % n : Nat) : Int)
theorem tree_l2 {w h : Int} {n f s : Nat} {l : List Int} {s1 s2 : Int} (G : gok w h = true) (hn : (n : Int) = gaps w h) (hn0 : 0 < n) (hf : f < n) (hs : s ≤ 25) : ∀ (t i k : Nat) (P : List Int) (o : Int), i + t = n → 30 * t + 30 ≤ k → TI w h o P → (∀ j, j < i → rd P (ends w h (gapi n f s j)).1 = rd P (ends w h (gapi n f s j)).2) →
    ∃ o' P', spec_l03Tree.l2 k (n : Int) P (f : Int) (s : Int) (i : Int) l s1 s2 w h w h o = some (w, h, o', s1, s2) ∧ TI w h o' P' ∧ ∀ j, j < n → rd P' (ends w h (gapi n f s j)).1 = rd P' (ends w h (gapi n f s j)).2
  | 0, i, k, P, o, hi, hk, T, hd => by
    obtain ⟨m, rfl⟩ : ∃ m, k = m + 1 := ⟨k - 1, by omega⟩
    refine ⟨o, P, ?_, T, fun j hj => hd j (by omega)⟩
    simp only [spec_l03Tree.l2]
    rw [if_neg (by omega)]
  | t + 1, i, k, P, o, hi, hk, T, hd => by
    obtain ⟨m, rfl⟩ : ∃ m, k = m + 1 := ⟨k - 1, by omega⟩
    have hb := gaps_bd w h
    have hN := stN_int w h
    have hN2 := stN_le w h
    have hl := T.len
    have hmul : i * s ≤ 24 * 25 := Nat.mul_le_mul (by omega) hs
    have e : Int.tmod (wrap64 ((f : Int) + wrap64 ((i : Int) * (s : Int)))) (n : Int) = gapi n f s i := by
      rw [show ((i : Int) * (s : Int)) = ((i * s : Nat) : Int) by simp, w64 (x := ((i * s : Nat) : Int)) (by omega) (by omega), w64 (by omega) (by omega)]
      rw [show ((f : Int) + ((i * s : Nat) : Int)) = ((f + i * s : Nat) : Int) by simp]
      unfold gapi
      rw [Int.tmod_eq_emod_of_nonneg (by omega)]
      rfl
    have hg : igap w h (gapi n f s i) = true := by
      rw [igap_iff, ← hn]
      have := Nat.mod_lt (f + i * s) hn0
      unfold gapi
      omega
    have gs := gaps_small hg
    obtain ⟨e1, c1, c2, _⟩ := ends_spec G hg
    have b1 := icell_iff.1 c1
    have b2 := icell_iff.1 c2
    have ms := mok_small T.ok
    simp only [spec_l03Tree.l2]
    rw [if_pos (by omega), if_neg (by omega), e, e1, Option.bind_some, if_pos b1.1, if_pos (by omega), if_pos b2.1, if_pos (by omega), w64 (x := (i : Int) + 1) (by omega) (by omega)]
    by_cases c : rd P (ends w h (gapi n f s i)).1 = rd P (ends w h (gapi n f s i)).2
    · rw [if_pos c]
      have := tree_l2 (l := l) (s1 := s1) (s2 := s2) G hn hn0 hf hs t (i + 1) m P o (by omega) (by omega) T (fun j hj => by
        by_cases q : j = i
        · rw [q]; exact c
        · exact hd j (by omega))
      rw [Int.natCast_add] at this
      exact this
    · rw [if_neg c, if_pos gs.1, or_shl_eq ms.1 (by omega) gs.1 (by omega)]
      have T' := ti_step T hg c
      have := tree_l3 (w := w) (h := h) (o := setb o (gapi n f s i) true) (n := n) (f := f) (s := s) (i0 := i) (l := l) (s1 := s1) (s2 := s2) (P := P) (a := (ends w h (gapi n f s i)).1) (old := rd P (ends w h (gapi n f s i)).2) (new := rd P (ends w h (gapi n f s i)).1) (by omega) rfl c (by omega) P.length 0 m P (by omega) (by omega) rfl (fun j hj => by rw [if_neg (Nat.not_lt_zero _)])
      have h3 : spec_l03Tree.l3 m (n : Int) P (f : Int) (s : Int) (i : Int) (ends w h (gapi n f s i)).1 (rd P (ends w h (gapi n f s i)).2) 0 l s1 s2 w h w h (setb o (gapi n f s i) true) = _ := this
      rw [h3, w64 (x := (i : Int) + 1) (by omega) (by omega)]
      have hmap : ∀ x, icell w h x = true → rd (P.map (sub1 (rd P (ends w h (gapi n f s i)).2) (rd P (ends w h (gapi n f s i)).1))) x = sub1 (rd P (ends w h (gapi n f s i)).2) (rd P (ends w h (gapi n f s i)).1) (rd P x) := fun x hx => by
        have := icell_iff.1 hx
        exact rd_map this.1 (by omega)
      have := tree_l2 (l := l) (s1 := s1) (s2 := s2) G hn hn0 hf hs t (i + 1) (m - P.length - 1) _ _ (by omega) (by omega) T' (fun j hj => by
        have hgj : igap w h (gapi n f s j) = true := by
          rw [igap_iff, ← hn]
          have := Nat.mod_lt (f + j * s) hn0
          unfold gapi
          omega
        obtain ⟨_, d1, d2, _⟩ := ends_spec G hgj
        rw [hmap _ d1, hmap _ d2]
        by_cases q : j = i
        · subst q
          unfold sub1
          rw [if_neg c, if_pos rfl]
        · rw [hd j (by omega)])
      rw [Int.natCast_add] at this
      exact this
def cop (s n : Int) : Option Bool := spec_l03Common.f 40 s n
def nats25 : List Nat := List.range 26
theorem cop_all : ∀ n ∈ nats25, ∀ s ∈ nats25, 0 < n → 0 < s → (cop (s : Int) (n : Int) = some true ∨ cop (s : Int) (n : Int) = some false ∧ ∃ v ∈ nats25, (v * s) % n = 1 % n) := by
  decide +kernel
theorem cop_next : ∀ n ∈ nats25, 0 < n → n ≤ 24 → cop ((n + 1 : Nat) : Int) (n : Int) = some false := by
  decide +kernel
theorem cop_more {k : Nat} {s n : Int} {b : Bool} (h : cop s n = some b) (hk : 40 ≤ k) : spec_l03Common.f k s n = some b :=
  at_rounds (g := fun k => spec_l03Common.f k s n) (fun k => spec_l03Common.mono s n k) (k := 40) hk h
theorem mod_reach {n f s v g : Nat} (hn : 0 < n) (hf : f < n) (hv : (v * s) % n = 1 % n) (hg : g < n) : ∃ i, i < n ∧ (f + i * s) % n = g := by
  refine ⟨((g + (n - f)) * v) % n, Nat.mod_lt _ hn, ?_⟩
  have e1 : (((g + (n - f)) * v) % n * s) % n = (g + (n - f)) % n := by
    rw [Nat.mod_mul_mod, Nat.mul_assoc, ← Nat.mul_mod_mod, hv, Nat.mul_mod_mod, Nat.mul_one]
  rw [← Nat.add_mod_mod, e1, Nat.add_mod_mod, show f + (g + (n - f)) = g + n by omega, Nat.add_mod_right, Nat.mod_eq_of_lt hg]
theorem tree_l1 {w h : Int} {n f : Nat} {l : List Int} {s1 s2 : Int} {P : List Int} (hn0 : 0 < n) (hn : n ≤ 24) : ∀ (t s k : Nat), s + t = n + 1 → 0 < s → t + 50 ≤ k →
    ∃ s' k', s' ≤ 25 ∧ k ≤ k' + t + 1 ∧ (∃ v, (v * s') % n = 1 % n) ∧ spec_l03Tree.l1 k (n : Int) P (f : Int) (s : Int) l s1 s2 w h w h 0 = spec_l03Tree.l2 k' (n : Int) P (f : Int) (s' : Int) 0 l s1 s2 w h w h 0
  | 0, s, k, hs, h0, hk => by
    obtain ⟨m, rfl⟩ : ∃ m, k = m + 1 := ⟨k - 1, by omega⟩
    obtain rfl : s = n + 1 := by omega
    have hc := cop_next n (by simp [nats25]; omega) hn0 hn
    have hv : ∃ v, (v * (n + 1)) % n = 1 % n := by
      rcases cop_all n (by simp [nats25]; omega) (n + 1) (by simp [nats25]; omega) hn0 (by omega) with h | ⟨_, v, _, h⟩
      · rw [hc] at h; exact absurd h (by decide)
      · exact ⟨v, h⟩
    refine ⟨n + 1, m, by omega, by omega, hv, ?_⟩
    simp only [spec_l03Tree.l1]
    rw [cop_more hc (by omega), Option.bind_some, if_neg Bool.false_ne_true]
  | t + 1, s, k, hs, h0, hk => by
    obtain ⟨m, rfl⟩ : ∃ m, k = m + 1 := ⟨k - 1, by omega⟩
    rcases cop_all n (by simp [nats25]; omega) s (by simp [nats25]; omega) hn0 h0 with hc | ⟨hc, v, _, hv⟩
    · obtain ⟨s', k', h1, h2, h3, h4⟩ := tree_l1 (w := w) (h := h) (f := f) (l := l) (s1 := s1) (s2 := s2) (P := P) hn0 hn t (s + 1) m (by omega) (by omega) (by omega)
      refine ⟨s', k', h1, by omega, h3, ?_⟩
      rw [← h4]
      simp only [spec_l03Tree.l1]
      rw [cop_more hc (by omega), Option.bind_some, if_pos rfl, w64 (by omega) (by omega)]
      rfl
    · refine ⟨s, m, by omega, by omega, ⟨v, hv⟩, ?_⟩
      simp only [spec_l03Tree.l1]
      rw [cop_more hc (by omega), Option.bind_some, if_neg Bool.false_ne_true]
theorem tree_l0 {w h n : Int} {l : List Int} {s1 s2 : Int} {N : Nat} (hN : N ≤ 100) : ∀ (t i k : Nat) (Q : List Int), i + t = N → t + 1 ≤ k → Q.length = N → (∀ j : Nat, j < i → rd Q (j : Int) = j) →
    spec_l03Tree.l0 k n Q (i : Int) l s1 s2 w h w h 0 = if n = 0 then some (w, h, 0, s1, s2) else (spec_l01Below.f l s1 s2 n).bind fun b => (spec_l01Below.f l b.2.1 b.2.2 n).bind fun c => spec_l03Tree.l1 (k - t - 1) n (ints N) b.1 (wrap64 (1 + c.1)) l c.2.1 c.2.2 w h w h 0
  | 0, i, k, Q, hi, hk, hl, hQ => by
    obtain ⟨m, rfl⟩ : ∃ m, k = m + 1 := ⟨k - 1, by omega⟩
    simp only [spec_l03Tree.l0]
    rw [if_neg (by omega)]
    have e : Q = ints N := by
      apply List.ext_getElem
      · rw [ints_length, hl]
      · intro j h1 h2
        have := hQ j (by omega)
        rw [rd_nat, List.getD_eq_getElem?_getD, List.getElem?_eq_getElem h1] at this
        simp only [ints, List.getElem_map, List.getElem_range]
        simpa using this
    rw [e]
    rfl
  | t + 1, i, k, Q, hi, hk, hl, hQ => by
    obtain ⟨m, rfl⟩ : ∃ m, k = m + 1 := ⟨k - 1, by omega⟩
    simp only [spec_l03Tree.l0]
    rw [if_pos (by omega), if_pos (by omega), w64 (by omega) (by omega)]
    have := tree_l0 (w := w) (h := h) (n := n) (l := l) (s1 := s1) (s2 := s2) hN t (i + 1) m (Q.set i (i : Int)) (by omega) (by omega) (by simpa using hl) (fun j hj => by
      have := rd_set (D := Q) (i := (i : Int)) (x := (j : Int)) (v := (i : Int)) (by omega) (by omega) (by omega)
      rw [Int.toNat_natCast] at this
      rw [this]
      by_cases e : (j : Int) = (i : Int)
      · rw [if_pos e]; exact e.symm
      · rw [if_neg e]; exact hQ j (by omega))
    rw [Int.natCast_add] at this
    rw [show m + 1 - (t + 1) - 1 = m - t - 1 by omega]
    rw [Int.toNat_natCast]
    exact this
theorem tree_draw {k : Nat} {l : List Int} {i s w h : Int} (G : gok w h = true) (hi : 0 ≤ i) (hl : l.length ≤ 1048576) (hk : 1000 ≤ k) :
    ∃ o i' s', spec_l03Tree.f k l i s w h = some (w, h, o, i', s') ∧ 0 ≤ i' ∧ conn w h o = true ∧ ((pcn o.toNat 24 : Nat) : Int) = cells w h - 1 := by
  have hN := stN_int w h
  have hN2 := stN_le w h
  have hb := gaps_bd w h
  have T0 := ti_init G
  unfold spec_l03Tree.f
  rw [spec_CountGaps_eq, Option.bind_some, spec_CountCells_eq, Option.bind_some, ← hN, if_pos (by omega), if_pos (by omega), Int.toNat_natCast]
  have e0 := tree_l0 (w := w) (h := h) (n := gaps w h) (l := l) (s1 := i) (s2 := s) (N := stN w h) (by omega) (stN w h) 0 k (List.replicate (stN w h) 0) (by omega) (by omega) (by simp) (fun j hj => absurd hj (Nat.not_lt_zero _))
  have e1 : spec_l03Tree.l0 k (gaps w h) (List.replicate (stN w h) 0) 0 l i s w h w h 0 = _ := e0
  rw [e1]
  by_cases n0 : gaps w h = 0
  · rw [if_pos n0]
    obtain ⟨q1, q2⟩ := ti_end T0 (fun g hg => by have := igap_iff.1 hg; omega)
    exact ⟨0, i, s, rfl, hi, q1, by rw [hN]; exact q2⟩
  · rw [if_neg n0]
    obtain ⟨f, i1, h1, d1, f0, f1, j1⟩ := below_draw (h := s) hi hl (n := gaps w h) (by omega) (by omega)
    obtain ⟨c, i2, h2, d2, c0, c1, j2⟩ := below_draw (h := h1) j1 hl (n := gaps w h) (by omega) (by omega)
    rw [d1, Option.bind_some, d2, Option.bind_some, w64 (by omega) (by omega)]
    simp only
    obtain ⟨n, hn⟩ := Int.eq_ofNat_of_zero_le hb.1
    obtain ⟨f, rfl⟩ := Int.eq_ofNat_of_zero_le f0
    obtain ⟨c, rfl⟩ := Int.eq_ofNat_of_zero_le c0
    rw [show (1 : Int) + (c : Int) = ((c + 1 : Nat) : Int) by omega, hn]
    obtain ⟨s', k', q1, q2, ⟨v, hv⟩, q4⟩ := tree_l1 (w := w) (h := h) (n := n) (f := f) (l := l) (s1 := i2) (s2 := h2) (P := ints (stN w h)) (by omega) (by omega) (n - c) (c + 1) (k - stN w h - 1) (by omega) (by omega) (by omega)
    rw [q4]
    obtain ⟨o, P', r1, r2, r3⟩ := tree_l2 (l := l) (s1 := i2) (s2 := h2) G (n := n) (f := f) (s := s') (by omega) (by omega) (by omega) q1 n 0 k' (ints (stN w h)) 0 (by omega) (by omega) T0 (fun j hj => absurd hj (Nat.not_lt_zero _))
    have r1' : spec_l03Tree.l2 k' (n : Int) (ints (stN w h)) (f : Int) (s' : Int) 0 l i2 h2 w h w h 0 = some (w, h, o, i2, h2) := r1
    obtain ⟨z1, z2⟩ := ti_end r2 (fun g hg => by
      have gb := igap_iff.1 hg
      obtain ⟨g, rfl⟩ := Int.eq_ofNat_of_zero_le gb.1
      obtain ⟨j, hj, e⟩ := mod_reach (n := n) (f := f) (s := s') (v := v) (g := g) (by omega) (by omega) hv (by omega)
      have := r3 j hj
      unfold gapi at this
      rw [e] at this
      exact this)
    exact ⟨o, i2, h2, r1', j2, z1, by rw [hN]; exact z2⟩
end Go.Proofs.Ytimejdhglmajdaa.F
end

section
namespace Go.Proofs.Ytimejdhglmajdaa.F
open Go.RowKit Go.Proofs.YtimejdhglmajdaaW.PrintWords Go.Proofs.YtimejdhglmajdaaW.PrintLast Go.Proofs.YtimejdhglmajdaaW.PrintMore
set_option linter.unusedVariables false
set_option linter.unusedSimpArgs false
theorem pick_draw {l L : List Int} {i s : Int} (hi : 0 ≤ i) (hl : l.length ≤ 1048576) (h0 : 0 < L.length) (h1 : L.length ≤ 256) : ∃ v i' s', spec_l01PickInt.f l i s L = some (v, i', s') ∧ v ∈ L ∧ 0 ≤ i' := by
  obtain ⟨b, i1, h1, e, b0, b1, j⟩ := below_draw (h := s) hi hl (n := (L.length : Int)) (by omega) (by omega)
  unfold spec_l01PickInt.f
  rw [e, Option.bind_some, if_pos b0, if_pos b1]
  exact ⟨_, _, _, rfl, rd_memI b0 b1, j⟩
theorem grid_draw {l : List Int} {i s : Int} (hi : 0 ≤ i) (hl : l.length ≤ 1048576) : ∃ w h i' s', spec_l02Grid.f l i s = some (w, h, i', s') ∧ gok w h = true ∧ 0 ≤ i' := by
  obtain ⟨w, i1, s1, e1, m1, j1⟩ := pick_draw (L := [1, 2, 3, 3, 4]) (s := s) hi hl (by decide) (by decide)
  obtain ⟨h, i2, s2, e2, m2, j2⟩ := pick_draw (L := [1, 2, 3, 3, 4]) (s := s1) j1 hl (by decide) (by decide)
  unfold spec_l02Grid.f
  rw [e1]
  simp only [Option.bind_some]
  rw [e2]
  simp only [Option.bind_some]
  refine ⟨_, _, _, _, rfl, gok_iff.2 ?_, j2⟩
  simp only [List.mem_cons, List.not_mem_nil, or_false] at m1 m2
  omega
theorem spec_SetGap_in {k : Nat} (hk : 1 ≤ k) {w h o g : Int} (M : mok w h o = true) (hg : igap w h g = true) (b : Bool) : spec_SetGap.f k w h o g b = some (w, h, setb o g b, true) := by
  obtain ⟨m, rfl⟩ : ∃ m, k = m + 1 := ⟨k - 1, by omega⟩
  have ms := mok_small M
  have gs := gaps_small hg
  unfold spec_SetGap.f
  rw [spec_MazeOk_eq, Option.bind_some, if_pos M, spec_CountGaps_eq, Option.bind_some, spec_l01In_eq, Option.bind_some, in_gaps, hg]
  simp only [spec_SetGap.j0]
  rw [if_neg (by decide), spec_l03Bit_eq ms.1 (by omega) gs.1, Option.bind_some, xor_shl_eq ms.1 (by omega) gs.1 (by omega)]
  by_cases c : opn o g = b
  · rw [if_neg (by simp [c])]
    have : setb o g b = o := by
      refine eq_of_opn ?_ ms.1 fun i hi => ?_
      · unfold setb; split <;> exact Int.natCast_nonneg _
      · rw [opn_setb b gs.1 hi]
        split
        · rename_i e; rw [e, c]
        · rfl
    rw [this]
  · rw [if_pos (by simpa using c), if_pos gs.1]
    have hb : b = !opn o g := by cases b <;> cases e : opn o g <;> simp_all
    rw [hb, setb_flip ms.1 gs.1]
theorem conn_open {w h o g : Int} (H : conn w h o = true) (hg : igap w h g = true) : conn w h (setb o g true) = true := by
  have M := conn_mok H
  refine conn_more H (mok_setb true M hg) fun j hj ho => ?_
  rw [opn_setb true (gaps_small hg).1 hj]
  split
  · rfl
  · exact ho
end Go.Proofs.Ytimejdhglmajdaa.F
end

section
namespace Go.Proofs.Ytimejdhglmajdaa.F
open Go.RowKit Go.Proofs.YtimejdhglmajdaaW.PrintWords Go.Proofs.YtimejdhglmajdaaW.PrintLast Go.Proofs.YtimejdhglmajdaaW.PrintMore
set_option linter.unusedVariables false
set_option linter.unusedSimpArgs false
def sord (w h o w2 h2 o2 : Int) : List Int × Bool :=
  if (conn w h o && conn w2 h2 o2 && decide (w = w2 ∧ h = h2)) = true then ((diff w h o w2 h2 o2).filter (fun g => !opn o g) ++ (diff w h o w2 h2 o2).filter (fun g => opn o g), true) else ([], false)
theorem opn_diff {a b : Nat} (j : Nat) : opn ((a ^^^ (a &&& b) : Nat) : Int) (j : Int) = (opn (a : Int) j && !opn (b : Int) j) := by
  unfold opn
  simp only [Int.toNat_natCast, Nat.testBit_xor, Nat.testBit_and]
  cases a.testBit j <;> cases b.testBit j <;> rfl
theorem setFrom_diff {a b : Nat} (n : Nat) : setFrom ((b ^^^ (b &&& a) : Nat) : Int) 0 n = (setFrom ((a ^^^ b : Nat) : Int) 0 n).filter fun g => !opn (a : Int) g := by
  unfold setFrom
  rw [List.filter_filter]
  refine List.filter_congr fun g hg => ?_
  obtain ⟨j, _, rfl⟩ := List.mem_map.1 hg
  rw [opn_diff]
  unfold opn
  simp only [Int.toNat_natCast, Nat.testBit_xor]
  cases a.testBit j <;> cases b.testBit j <;> rfl
theorem setFrom_diff2 {a b : Nat} (n : Nat) : setFrom ((a ^^^ (a &&& b) : Nat) : Int) 0 n = (setFrom ((a ^^^ b : Nat) : Int) 0 n).filter fun g => opn (a : Int) g := by
  unfold setFrom
  rw [List.filter_filter]
  refine List.filter_congr fun g hg => ?_
  obtain ⟨j, _, rfl⟩ := List.mem_map.1 hg
  rw [opn_diff]
  unfold opn
  simp only [Int.toNat_natCast, Nat.testBit_xor]
  cases a.testBit j <;> cases b.testBit j <;> rfl
theorem impl_SafeOrder_eq {k : Nat} (hk : 100 ≤ k) (w h o w2 h2 o2 : Int) : impl_SafeOrder.f k w h o w2 h2 o2 = some (sord w h o w2 h2 o2) := by
  obtain ⟨m, rfl⟩ : ∃ m, k = m + 1 := ⟨k - 1, by omega⟩
  have e : impl_SafeOrder.f (m + 1) w h o w2 h2 o2 = impl_SafeOrder.j0 (m + 1) (!(conn w h o && conn w2 h2 o2 && decide (w = w2 ∧ h = h2))) w h o w2 h2 o2 := by
    unfold impl_SafeOrder.f
    rw [impl_IsConnected_eq (by omega), Option.bind_some]
    by_cases c : conn w h o = true
    · rw [if_pos c, impl_IsConnected_eq (by omega), Option.bind_some]
      by_cases c2 : conn w2 h2 o2 = true
      · rw [if_pos c2, c, c2]
        congr 1
        by_cases e1 : w = w2 <;> by_cases e2 : h = h2 <;> simp [e1, e2]
      · rw [if_neg c2]
        simp [c2]
    · rw [if_neg c]
      simp [c]
  rw [e]
  simp only [impl_SafeOrder.j0]
  unfold sord
  by_cases p : (conn w h o && conn w2 h2 o2 && decide (w = w2 ∧ h = h2)) = true
  · rw [if_neg (by simp only [p]; decide), if_pos p]
    simp only [Bool.and_eq_true, decide_eq_true_eq] at p
    obtain ⟨⟨c, c2⟩, rfl, rfl⟩ := p
    have M := conn_mok c
    have M2 := conn_mok c2
    have b := gaps_bd w h
    have s := mok_small M
    have s2 := mok_small M2
    have hl := diff_length w h o w h o2
    have l1 := (mok_iff.1 M).2.2
    have l2 := (mok_iff.1 M2).2.2
    have hd : diff w h o w h o2 = setFrom ((o.toNat ^^^ o2.toNat : Nat) : Int) 0 (gaps w h).toNat := by unfold diff; rw [if_pos (by simp [M, M2])]
    rw [hd] at hl ⊢
    obtain ⟨a, rfl⟩ := Int.eq_ofNat_of_zero_le s.1
    obtain ⟨a2, rfl⟩ := Int.eq_ofNat_of_zero_le s2.1
    have pw : ((2 : Int) ^ (gaps w h).toNat) = ((2 ^ (gaps w h).toNat : Nat) : Int) := by simp
    rw [pw] at l1 l2
    simp only [Int.toNat_natCast] at hl ⊢
    have hle : ∀ x y : Nat, x ^^^ (x &&& y) ≤ x := fun x y => by
      have : x ^^^ (x &&& y) = x &&& (x ^^^ y) := by
        apply Nat.eq_of_testBit_eq; intro i; simp only [Nat.testBit_xor, Nat.testBit_and]; cases x.testBit i <;> cases y.testBit i <;> rfl
      rw [this]; exact Nat.and_le_left
    rw [bits_andNot_i (by omega) (by omega), bits_andNot_i (by omega) (by omega), impl_gapsOf_eq (n := (gaps w h).toNat) (by omega) (by rw [pw]; have := hle a2 a; omega) (by omega) (by omega), Option.bind_some, impl_gapsOf_eq (n := (gaps w h).toNat) (by omega) (by rw [pw]; have := hle a a2; omega) (by omega) (by omega), Option.bind_some, setFrom_diff, setFrom_diff2, if_pos]
    have h1 := List.length_filter_le (fun g => !opn (a : Int) g) (setFrom ((a ^^^ a2 : Nat) : Int) 0 (gaps w h).toNat)
    have h2 := List.length_filter_le (fun g => opn (a : Int) g) (setFrom ((a ^^^ a2 : Nat) : Int) 0 (gaps w h).toNat)
    omega
  · rw [if_pos (by simp only [p]; decide), if_neg p]
end Go.Proofs.Ytimejdhglmajdaa.F
end

section
namespace Go.Proofs.Ytimejdhglmajdaa.F
open Go.RowKit Go.Proofs.YtimejdhglmajdaaW.PrintWords Go.Proofs.YtimejdhglmajdaaW.PrintLast Go.Proofs.YtimejdhglmajdaaW.PrintMore
set_option linter.unusedVariables false
set_option linter.unusedSimpArgs false
theorem opn_igap {w h o g : Int} (M : mok w h o = true) (hg : 0 ≤ g) (H : opn o g = true) : igap w h g = true := by
  obtain ⟨_, h0, h1⟩ := mok_iff.1 M
  have hb := gaps_bd w h
  rw [igap_iff]
  refine ⟨hg, Int.not_le.1 fun hle => ?_⟩
  have hp : ((2 : Int) ^ (gaps w h).toNat) = ((2 ^ (gaps w h).toNat : Nat) : Int) := by simp
  have : o.toNat.testBit g.toNat = false := Nat.testBit_lt_two_pow (Nat.lt_of_lt_of_le (by omega) (Nat.pow_le_pow_right (by decide) (by omega : (gaps w h).toNat ≤ g.toNat)))
  unfold opn at H
  rw [this] at H
  exact absurd H (by decide)
theorem opn_flips {g : Int} (hg : 0 ≤ g) : ∀ {l : List Int} {o : Int}, l.Nodup → (∀ x ∈ l, 0 ≤ x) → opn (flips o l) g = (opn o g != decide (g ∈ l))
  | [], o, _, _ => by simp [flips]
  | x :: l, o, hn, h0 => by
    rw [List.nodup_cons] at hn
    have e : flips o (x :: l) = flips (flip o x) l := rfl
    rw [e, opn_flips hg hn.2 (fun y hy => h0 y (List.mem_cons_of_mem _ hy)), opn_flip (h0 x (List.mem_cons_self ..)) hg]
    by_cases c : g = x
    · subst c
      rw [if_pos rfl, decide_eq_false hn.1, decide_eq_true (List.mem_cons_self ..)]
      cases opn o g <;> rfl
    · rw [if_neg c]
      congr 1
      rw [Bool.eq_iff_iff]
      simp [c]
theorem flips_append (o : Int) (l m : List Int) : flips o (l ++ m) = flips (flips o l) m := by unfold flips; rw [List.foldl_append]
theorem safe_append (w h : Int) : ∀ (l m : List Int) (o : Int), safe w h o (l ++ m) = (safe w h o l && safe w h (flips o l) m)
  | [], m, o => by simp [safe, flips]
  | g :: l, m, o => by
    rw [List.cons_append]
    simp only [safe]
    rw [safe_append w h l m (flip o g), Bool.and_assoc]
    rfl
theorem safe_up {w h : Int} : ∀ {l : List Int} {o : Int}, conn w h o = true → l.Nodup → (∀ g ∈ l, igap w h g = true ∧ opn o g = false) → safe w h o l = true
  | [], o, _, _, _ => rfl
  | g :: l, o, H, hn, hg => by
    rw [List.nodup_cons] at hn
    obtain ⟨ig, no⟩ := hg g (List.mem_cons_self ..)
    have g0 := (gaps_small ig).1
    have c : conn w h (flip o g) = true := conn_more H (mok_flip (conn_mok H) ig) fun j hj ho => by
      rw [opn_flip g0 hj]
      split
      · rename_i e; rw [e, no]; rfl
      · exact ho
    simp only [safe]
    rw [c, Bool.true_and]
    refine safe_up c hn.2 fun x hx => ?_
    obtain ⟨ix, nx⟩ := hg x (List.mem_cons_of_mem _ hx)
    refine ⟨ix, ?_⟩
    rw [opn_flip g0 (gaps_small ix).1, if_neg (fun (e : x = g) => hn.1 (by rw [← e]; exact hx))]
    exact nx
theorem safe_down {w h b : Int} (B : conn w h b = true) : ∀ {l : List Int} {o : Int}, mok w h o = true → (∀ g, 0 ≤ g → opn b g = true → opn o g = true) → l.Nodup → (∀ g ∈ l, igap w h g = true ∧ opn b g = false) → safe w h o l = true
  | [], o, _, _, _, _ => rfl
  | g :: l, o, M, hs, hn, hg => by
    rw [List.nodup_cons] at hn
    obtain ⟨ig, no⟩ := hg g (List.mem_cons_self ..)
    have g0 := (gaps_small ig).1
    have M' := mok_flip M ig
    have hs' : ∀ j, 0 ≤ j → opn b j = true → opn (flip o g) j = true := fun j hj ho => by
      rw [opn_flip g0 hj, if_neg (fun e => by rw [e, no] at ho; exact absurd ho (by decide))]
      exact hs j hj ho
    simp only [safe]
    rw [conn_more B M' hs', Bool.true_and]
    exact safe_down B M' hs' hn.2 fun x hx => hg x (List.mem_cons_of_mem _ hx)
theorem cp_up {w h o g : Int} (M : mok w h o = true) (hg : igap w h g = true) (ho : opn o g = false) : cp w h (flip o g) = cp w h o + 1 := by
  have gs := gaps_small hg
  have ms := mok_small M
  unfold cp
  rw [if_pos M, if_pos (mok_flip M hg)]
  have := pcn_setb (o := o) gs.1 (by omega) ho
  have e : setb o g true = flip o g := by rw [← setb_flip ms.1 gs.1, ho]; rfl
  rw [e] at this
  omega
theorem cp_down {w h o g : Int} (M : mok w h o = true) (hg : igap w h g = true) (ho : opn o g = true) : cp w h (flip o g) + 1 = cp w h o := by
  have gs := gaps_small hg
  have M' := mok_flip M hg
  have h1 : opn (flip o g) g = false := by rw [opn_flip gs.1 gs.1, if_pos rfl, ho]; rfl
  have := cp_up M' hg h1
  have e : flip (flip o g) g = o := eq_of_opn (mok_small (mok_flip M' hg)).1 (mok_small M).1 fun i hi => by
    rw [opn_flip gs.1 hi, opn_flip gs.1 hi]
    split
    · simp
    · rfl
  rw [e] at this
  omega
theorem mostO_append (w h : Int) : ∀ (l m : List Int) (n o : Int), mostO w h n o (l ++ m) = mostO w h (mostO w h n o l) (flips o l) m
  | [], m, n, o => rfl
  | g :: l, m, n, o => by
    rw [List.cons_append]
    simp only [mostO]
    exact mostO_append w h l m _ _
theorem mostO_up {w h : Int} : ∀ {l : List Int} {o : Int}, mok w h o = true → l.Nodup → (∀ g ∈ l, igap w h g = true ∧ opn o g = false) → mostO w h (cp w h o) o l = cp w h (flips o l)
  | [], o, _, _, _ => rfl
  | g :: l, o, M, hn, hg => by
    rw [List.nodup_cons] at hn
    obtain ⟨ig, no⟩ := hg g (List.mem_cons_self ..)
    have g0 := (gaps_small ig).1
    have e := cp_up M ig no
    simp only [mostO]
    rw [mx_max, show max (cp w h o) (cp w h (flip o g)) = cp w h (flip o g) by omega]
    exact mostO_up (mok_flip M ig) hn.2 fun x hx => by
      obtain ⟨ix, nx⟩ := hg x (List.mem_cons_of_mem _ hx)
      exact ⟨ix, by rw [opn_flip g0 (gaps_small ix).1, if_neg (fun (e : x = g) => hn.1 (by rw [← e]; exact hx))]; exact nx⟩
theorem mostO_down {w h : Int} : ∀ {l : List Int} {n o : Int}, mok w h o = true → cp w h o ≤ n → l.Nodup → (∀ g ∈ l, igap w h g = true ∧ opn o g = true) → mostO w h n o l = n
  | [], n, o, _, _, _, _ => rfl
  | g :: l, n, o, M, hle, hn, hg => by
    rw [List.nodup_cons] at hn
    obtain ⟨ig, no⟩ := hg g (List.mem_cons_self ..)
    have g0 := (gaps_small ig).1
    have e := cp_down M ig no
    simp only [mostO]
    rw [mx_max, show max n (cp w h (flip o g)) = n by omega]
    exact mostO_down (mok_flip M ig) (by omega) hn.2 fun x hx => by
      obtain ⟨ix, nx⟩ := hg x (List.mem_cons_of_mem _ hx)
      exact ⟨ix, by rw [opn_flip g0 (gaps_small ix).1, if_neg (fun (e : x = g) => hn.1 (by rw [← e]; exact hx))]; exact nx⟩
theorem len_split (p : Int → Bool) : ∀ l : List Int, (l.filter fun x => !p x).length + (l.filter p).length = l.length
  | [] => rfl
  | x :: l => by
    have := len_split p l
    by_cases c : p x = true
    · rw [List.filter_cons_of_neg (by simp [c]), List.filter_cons_of_pos c]
      simp only [List.length_cons]
      omega
    · rw [List.filter_cons_of_pos (by simpa using c), List.filter_cons_of_neg c]
      simp only [List.length_cons]
      omega
theorem mem_diff {w h a b : Int} (A : mok w h a = true) (B : mok w h b = true) {g : Int} : g ∈ diff w h a w h b ↔ 0 ≤ g ∧ opn a g ≠ opn b g := by
  have hb := gaps_bd w h
  unfold diff
  rw [if_pos (by simp [A, B])]
  unfold setFrom
  rw [List.mem_filter, List.mem_map]
  have hx : ∀ j : Int, opn ((a.toNat ^^^ b.toNat : Nat) : Int) j = (opn a j != opn b j) := fun j => by
    unfold opn
    simp only [Int.toNat_natCast, Nat.testBit_xor]
  rw [hx]
  constructor
  · rintro ⟨⟨j, _, rfl⟩, h2⟩
    exact ⟨by omega, by simpa using h2⟩
  · rintro ⟨h1, h2⟩
    refine ⟨⟨g.toNat, ?_, by omega⟩, by simpa using h2⟩
    have : igap w h g = true := by
      by_cases c : opn a g = true
      · exact opn_igap A h1 c
      · exact opn_igap B h1 (by cases e : opn b g with | true => rfl | false => rw [e] at h2; simp at c; exact absurd c h2)
    have := igap_iff.1 this
    rw [List.mem_range'_1]
    omega
theorem diff_nodup (w h a b : Int) : (diff w h a w h b).Nodup := by
  unfold diff
  split
  · unfold setFrom
    refine List.Pairwise.filter _ ?_
    exact List.pairwise_map.2 ((List.nodup_range' (step := 1)).imp fun h e => h (by omega))
  · exact List.Pairwise.nil
theorem rebuild {w h a b : Int} (A : conn w h a = true) (B : conn w h b = true) : ∃ l c, sord w h a w h b = (l, true) ∧ diff w h a w h b = c ∧ pok w h a l = true ∧ flips a l = b ∧ safe w h a l = true ∧ mostO w h (cp w h a) a l = cp w h (Go.bits .or .i64 a b) ∧ l.length = c.length ∧ pok w h b c = true ∧ flips b c = a := by
  have MA := conn_mok A
  have MB := conn_mok B
  have sa := mok_small MA
  have sb := mok_small MB
  have hn := diff_nodup w h a b
  have hlen := diff_length w h a w h b
  have hmem := @mem_diff w h a b MA MB
  have ig : ∀ g ∈ diff w h a w h b, igap w h g = true := fun g hg => by
    obtain ⟨h1, h2⟩ := hmem.1 hg
    by_cases c : opn a g = true
    · exact opn_igap MA h1 c
    · exact opn_igap MB h1 (by cases e : opn b g with | true => rfl | false => rw [e] at h2; simp at c; exact absurd c h2)
  generalize hD : diff w h a w h b = D at hn hlen hmem ig
  have hX : ∀ g ∈ D.filter (fun g => !opn a g), igap w h g = true ∧ opn a g = false := fun g hg => by
    obtain ⟨h1, h2⟩ := List.mem_filter.1 hg
    exact ⟨ig g h1, by simpa using h2⟩
  have hY : ∀ g ∈ D.filter (fun g => opn a g), igap w h g = true ∧ opn a g = true ∧ opn b g = false := fun g hg => by
    obtain ⟨h1, h2⟩ := List.mem_filter.1 hg
    have := (hmem.1 h1).2
    refine ⟨ig g h1, h2, ?_⟩
    cases e : opn b g with
    | false => rfl
    | true => rw [e, h2] at this; exact absurd rfl this
  have nX : (D.filter fun g => !opn a g).Nodup := hn.filter _
  have nY : (D.filter fun g => opn a g).Nodup := hn.filter _
  have p0 : ∀ x ∈ D, 0 ≤ x := fun x hx => (gaps_small (ig x hx)).1
  have up : ∀ g, 0 ≤ g → opn (flips a (D.filter fun g => !opn a g)) g = (opn a g || opn b g) := fun g hg => by
    rw [opn_flips hg nX (fun x hx => p0 x (List.mem_filter.1 hx).1)]
    have : decide (g ∈ D.filter fun g => !opn a g) = (!opn a g && opn b g) := by
      rw [Bool.eq_iff_iff]
      simp only [decide_eq_true_eq, List.mem_filter, hmem, Bool.and_eq_true, Bool.not_eq_eq_eq_not, Bool.not_true]
      constructor
      · rintro ⟨⟨_, h1⟩, h2⟩
        refine ⟨h2, ?_⟩
        cases e : opn b g with
        | true => rfl
        | false => rw [e, h2] at h1; exact absurd rfl h1
      · rintro ⟨h1, h2⟩
        exact ⟨⟨hg, by rw [h1, h2]; decide⟩, h1⟩
    rw [this]
    cases opn a g <;> cases opn b g <;> rfl
  have MU := mok_flips MA (fun g hg => (hX g hg).1)
  have hall : flips a (D.filter (fun g => !opn a g) ++ D.filter (fun g => opn a g)) = b := by
    rw [flips_append]
    refine eq_of_opn (mok_small (mok_flips MU fun g hg => (hY g hg).1)).1 sb.1 fun g hg => ?_
    rw [opn_flips hg nY (fun x hx => p0 x (List.mem_filter.1 hx).1), up g hg]
    have : decide (g ∈ D.filter fun g => opn a g) = (opn a g && !opn b g) := by
      rw [Bool.eq_iff_iff]
      simp only [decide_eq_true_eq, List.mem_filter, hmem, Bool.and_eq_true, Bool.not_eq_eq_eq_not, Bool.not_true]
      constructor
      · rintro ⟨⟨_, h1⟩, h2⟩
        refine ⟨h2, ?_⟩
        cases e : opn b g with
        | false => rfl
        | true => rw [e, h2] at h1; exact absurd rfl h1
      · rintro ⟨h1, h2⟩
        exact ⟨⟨hg, by rw [h1, h2]; decide⟩, h1⟩
    rw [this]
    cases opn a g <;> cases opn b g <;> rfl
  have hor : Go.bits .or .i64 a b = flips a (D.filter fun g => !opn a g) := by
    obtain ⟨x, rfl⟩ := Int.eq_ofNat_of_zero_le sa.1
    obtain ⟨y, rfl⟩ := Int.eq_ofNat_of_zero_le sb.1
    rw [bits_or_i (by omega) (by omega)]
    refine eq_of_opn (Int.natCast_nonneg _) (mok_small MU).1 fun g hg => ?_
    rw [up g hg]
    unfold opn
    simp only [Int.toNat_natCast, Nat.testBit_or]
  have hls := len_split (fun g => opn a g) D
  have iall : ∀ g ∈ D.filter (fun g => !opn a g) ++ D.filter (fun g => opn a g), igap w h g = true := fun g hg => by
    rcases List.mem_append.1 hg with hg | hg
    · exact (hX g hg).1
    · exact (hY g hg).1
  refine ⟨_, D, ?_, rfl, pok_iff.2 ⟨MA, by rw [List.length_append]; omega, iall⟩, hall, ?_, ?_, by rw [List.length_append]; exact hls, pok_iff.2 ⟨MB, by omega, ig⟩, ?_⟩
  · unfold sord
    rw [if_pos (by simp [A, B]), hD]
  · rw [safe_append, safe_up A nX hX, Bool.true_and]
    refine safe_down B MU (fun g hg ho => ?_) nY fun g hg => ⟨(hY g hg).1, (hY g hg).2.2⟩
    rw [up g hg, ho]
    simp
  · rw [mostO_append, mostO_up MA nX hX, hor]
    exact mostO_down MU (Int.le_refl _) nY fun g hg => by
      have := hY g hg
      exact ⟨this.1, by rw [up g (gaps_small this.1).1, this.2.1]; rfl⟩
  · refine eq_of_opn (mok_small (mok_flips MB ig)).1 sa.1 fun g hg => ?_
    rw [opn_flips hg hn p0]
    have : decide (g ∈ D) = (opn a g != opn b g) := by
      rw [Bool.eq_iff_iff]
      simp only [decide_eq_true_eq, hmem, bne_iff_ne]
      exact ⟨fun z => z.2, fun z => ⟨hg, z⟩⟩
    rw [this]
    cases opn a g <;> cases opn b g <;> rfl
theorem two_l0 {w h n : Int} {l : List Int} (hl : l.length ≤ 1048576) (hn : n = gaps w h) : ∀ (t k : Nat) (a b i s : Int), t ≤ 3 → 2 * t + 5 ≤ k → conn w h a = true → conn w h b = true → 0 ≤ i → ∃ a' b' i' s', spec_l37Two.l0 k n (t : Int) l i s w h a w h b = some (w, h, a', w, h, b', i', s') ∧ conn w h a' = true ∧ conn w h b' = true
  | 0, k, a, b, i, s, _, hk, A, B, hi => by
    obtain ⟨m, rfl⟩ : ∃ m, k = m + 2 := ⟨k - 2, by omega⟩
    refine ⟨a, b, i, s, ?_, A, B⟩
    simp only [spec_l37Two.l0]
    rw [if_neg (by omega)]
    simp only [spec_l37Two.j1]
    rw [if_neg Bool.false_ne_true]
  | t + 1, k, a, b, i, s, ht, hk, A, B, hi => by
    obtain ⟨m, rfl⟩ : ∃ m, k = m + 2 := ⟨k - 2, by omega⟩
    have hb := gaps_bd w h
    simp only [spec_l37Two.l0]
    rw [if_pos (by omega)]
    simp only [spec_l37Two.j1]
    by_cases c : n > 0
    · obtain ⟨g1, i1, s1, e1, p0, p1, j1⟩ := below_draw (h := s) hi hl (n := n) (by omega) (by omega)
      obtain ⟨g2, i2, s2, e2, q0, q1, j2⟩ := below_draw (h := s1) j1 hl (n := n) (by omega) (by omega)
      have I1 : igap w h g1 = true := igap_iff.2 (by omega)
      have I2 : igap w h g2 = true := igap_iff.2 (by omega)
      rw [if_pos (decide_eq_true c), e1]
      simp only [Option.bind_some]
      rw [spec_SetGap_in (by omega) (conn_mok A) I1]
      simp only [Option.bind_some]
      rw [e2]
      simp only [Option.bind_some]
      rw [spec_SetGap_in (by omega) (conn_mok B) I2]
      simp only [Option.bind_some]
      rw [w64 (by omega) (by omega), show ((t + 1 : Nat) : Int) - 1 = (t : Int) by omega]
      exact two_l0 hl hn t m _ _ i2 s2 (by omega) (by omega) (conn_open A I1) (conn_open B I2) j2
    · rw [if_neg (by simpa using c)]
      exact ⟨a, b, i, s, rfl, A, B⟩
theorem two_draw {k : Nat} {l : List Int} (hl : l.length ≤ 1048576) (hk : l.length + 1000 ≤ k) : ∃ w h a b, spec_DrawTwoMazes.f k l = some (w, h, a, w, h, b) ∧ conn w h a = true ∧ conn w h b = true := by
  obtain ⟨s, e⟩ := new_draw hl (k := k) (by omega)
  unfold spec_DrawTwoMazes.f spec_l37Two.f
  rw [e]
  simp only [Option.bind_some]
  obtain ⟨w, h, i1, s1, e1, G, j1⟩ := grid_draw (l := l) (i := 0) (s := s) (by decide) hl
  rw [e1]
  simp only [Option.bind_some]
  obtain ⟨a, i2, s2, e2, j2, A, _⟩ := tree_draw (k := k) (s := s1) G j1 hl (by omega)
  rw [e2]
  simp only [Option.bind_some]
  obtain ⟨b, i3, s3, e3, j3, B, _⟩ := tree_draw (k := k) (s := s2) G j2 hl (by omega)
  rw [e3]
  simp only [Option.bind_some]
  rw [spec_CountGaps_eq]
  simp only [Option.bind_some]
  obtain ⟨n, i4, s4, e4, n0, n1, j4⟩ := below_draw (h := s3) j3 hl (n := 4) (by decide) (by decide)
  rw [e4]
  simp only [Option.bind_some]
  obtain ⟨t, rfl⟩ := Int.eq_ofNat_of_zero_le n0
  obtain ⟨a', b', i5, s5, e5, A', B'⟩ := two_l0 (l := l) hl (rfl : gaps w h = gaps w h) t k a b i4 s4 (by omega) (by omega) A B j4
  rw [e5]
  simp only [Option.bind_some]
  exact ⟨w, h, a', b', rfl, A', B'⟩
end Go.Proofs.Ytimejdhglmajdaa.F
end

section
namespace Go.Proofs.Ytimejdhglmajdaa.F
open Go.RowKit Go.Proofs.YtimejdhglmajdaaW.PrintWords Go.Proofs.YtimejdhglmajdaaW.PrintLast Go.Proofs.YtimejdhglmajdaaW.PrintMore
set_option linter.unusedVariables false
set_option linter.unusedSimpArgs false
theorem FnRebuilding_pure : ∀ (l0 : List (Int)), ((l0).length ≤ 9223372036854775807 ∧ ∀ y ∈ l0, 0 ≤ y ∧ y ≤ 255) → ∃ k, laws_FnRebuilding.f k l0 = some true := by
  intro l hl
  refine ⟨l.length + 2000, ?_⟩
  unfold laws_FnRebuilding.f laws_big.f
  rw [Option.bind_some]
  by_cases hbig : (l.length : Int) > 1048576
  · rw [if_pos (by simpa using hbig)]
  · rw [if_neg (by simpa using hbig)]
    obtain ⟨w, h, a, b, e, A, B⟩ := two_draw (k := l.length + 2000) (l := l) (by omega) (by omega)
    obtain ⟨L, c, e1, e2, p1, f1, s1, m1, n1, p2, f2⟩ := rebuild A B
    have hL := (pok_iff.1 p1).2.1
    have hc := (pok_iff.1 p2).2.1
    rw [e]
    simp only [Option.bind_some, impl_SafeOrder_eq (show 100 ≤ l.length + 2000 by omega), e1, impl_Rebuilt_eq w h a (show L.length ≤ 1048576 by omega) (show L.length + 3 ≤ l.length + 2000 by omega), if_pos p1, impl_ChangesBetween_eq (show 30 ≤ l.length + 2000 by omega), e2, impl_Rebuilt_eq w h b (show c.length ≤ 1048576 by omega) (show c.length + 3 ≤ l.length + 2000 by omega), if_pos p2, f1, f2, beq_self_eq_true, Bool.and_self, if_true, impl_IsSafeOrder_eq w h a (show L.length ≤ 1048576 by omega) (show L.length + 400 ≤ l.length + 2000 by omega), p1, A, s1, impl_MostOpen_eq w h a (show L.length ≤ 1048576 by omega) (show L.length + 5 ≤ l.length + 2000 by omega), impl_CountPassages_eq, m1, n1]
end Go.Proofs.Ytimejdhglmajdaa.F
end
