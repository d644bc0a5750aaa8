/- How many bits are set: Go's way by sums of fields, and one by one. -/
import Derived.Test.YtiiflckblilhiaaP6
namespace Go.Proofs.Ytiiflckblilhiaa.F
open Go.RowKit Go.Proofs.YtiiflckblilhiaaW.PrintWords Go.Proofs.YtiiflckblilhiaaW.PrintLast Go.Proofs.YtiiflckblilhiaaW.PrintMore
set_option linter.unusedVariables false
set_option linter.unusedSimpArgs false

def pcn (n m : Nat) : Nat := (List.range m).countP fun i => n.testBit i
theorem pcn_split (q b m : Nat) (hb : b < 256) : pcn (256 * q + b) (8 + m) = pcn b 8 + pcn q m := by
  unfold pcn
  rw [List.range_add, List.countP_append, List.countP_map]
  congr 1
  · apply List.countP_congr
    intro i hi
    have := List.mem_range.1 hi
    rw [show (256 : Nat) = 2 ^ 8 from rfl, Nat.testBit_two_pow_mul_add q (by simpa using hb), if_pos this]
  · apply List.countP_congr
    intro i hi
    show (256 * q + b).testBit (8 + i) = true ↔ _
    rw [show (256 : Nat) = 2 ^ 8 from rfl, Nat.testBit_two_pow_mul_add q (by simpa using hb), if_neg (by omega), Nat.add_sub_cancel_left]
theorem and_byte (a d m : Nat) (hd : d < 256) : (256 * a + d) &&& m = 256 * (a &&& (m / 256)) + (d &&& (m % 256)) := by
  have hd' : d &&& (m % 256) < 2 ^ 8 := Nat.and_lt_two_pow _ (Nat.mod_lt _ (by decide))
  apply Nat.eq_of_testBit_eq
  intro i
  have em : m = 2 ^ 8 * (m / 256) + m % 256 := by omega
  conv => lhs; rw [em]
  rw [Nat.testBit_and, show (256 : Nat) = 2 ^ 8 from rfl, Nat.testBit_two_pow_mul_add _ (by simpa using hd), Nat.testBit_two_pow_mul_add _ (Nat.mod_lt _ (by decide)), Nat.testBit_two_pow_mul_add _ hd']
  split
  · rw [Nat.testBit_and]
  · rw [Nat.testBit_and]
def h1 (b : Nat) : Nat := (b / 2 &&& 85) + (b &&& 85)
def h2 (c : Nat) : Nat := (c / 4 &&& 51) + (c &&& 51)
theorem decA : ∀ b : Fin 256, ∀ e : Fin 2, ((b.val / 2 + 128 * e.val) &&& 85) = (b.val / 2 &&& 85) := by decide +kernel
theorem decA2 : ∀ b : Fin 256, (b.val / 2 &&& 93824992236885) = (b.val / 2 &&& 85) ∧ (b.val &&& 93824992236885) = (b.val &&& 85) := by decide +kernel
theorem decB : ∀ b : Fin 256, ∀ e : Fin 4, ((b.val / 4 + 64 * e.val) &&& 51) = (b.val / 4 &&& 51) := by decide +kernel
theorem decB2 : ∀ b : Fin 256, (b.val / 4 &&& 56294995342131) = (b.val / 4 &&& 51) ∧ (b.val &&& 56294995342131) = (b.val &&& 51) := by decide +kernel
theorem decC : ∀ b : Fin 256, h1 b.val ≤ 170 ∧ h2 (h1 b.val) ≤ 68 ∧ h2 (h1 b.val) % 16 ≤ 4 ∧ pcn b.val 8 ≤ 8 := by decide +kernel
theorem decD : ∀ b : Fin 256, ∀ e : Fin 5, ((h2 (h1 b.val) / 16 + 16 * e.val + h2 (h1 b.val)) &&& 15) = pcn b.val 8 := by decide +kernel
theorem decD2 : ∀ b : Fin 256, ((h2 (h1 b.val) / 16 + h2 (h1 b.val)) &&& 16557351571215) = pcn b.val 8 := by decide +kernel

theorem step1 {b0 b1 b2 : Nat} (l0 : b0 < 256) (l1 : b1 < 256) (l2 : b2 < 256) : ((256 * (256 * b2 + b1) + b0) / 2 &&& 6148914691236517205) + ((256 * (256 * b2 + b1) + b0) &&& 6148914691236517205) = 256 * (256 * h1 b2 + h1 b1) + h1 b0 := by
  have e0 : (256 * (256 * b2 + b1) + b0) / 2 = 256 * (256 * (b2 / 2) + (b1 / 2 + 128 * (b2 % 2))) + (b0 / 2 + 128 * (b1 % 2)) := by omega
  rw [e0, and_byte _ _ _ (by omega), and_byte _ _ _ (by omega), and_byte _ _ _ l0, and_byte _ _ _ l1]
  have a0 := decA ⟨b0, l0⟩ ⟨b1 % 2, by omega⟩
  have a1 := decA ⟨b1, l1⟩ ⟨b2 % 2, by omega⟩
  have a2 := decA2 ⟨b2, l2⟩
  simp only [] at a0 a1 a2
  simp only [show 6148914691236517205 / 256 = 24019198012642645 from rfl, show 6148914691236517205 % 256 = 85 from rfl, show 24019198012642645 / 256 = 93824992236885 from rfl, show 24019198012642645 % 256 = 85 from rfl, a0, a1, a2.1, a2.2]
  unfold h1
  omega
theorem step2 {b0 b1 b2 : Nat} (l0 : b0 < 256) (l1 : b1 < 256) (l2 : b2 < 256) : ((256 * (256 * b2 + b1) + b0) / 4 &&& 3689348814741910323) + ((256 * (256 * b2 + b1) + b0) &&& 3689348814741910323) = 256 * (256 * h2 b2 + h2 b1) + h2 b0 := by
  have e0 : (256 * (256 * b2 + b1) + b0) / 4 = 256 * (256 * (b2 / 4) + (b1 / 4 + 64 * (b2 % 4))) + (b0 / 4 + 64 * (b1 % 4)) := by omega
  rw [e0, and_byte _ _ _ (by omega), and_byte _ _ _ (by omega), and_byte _ _ _ l0, and_byte _ _ _ l1]
  have a0 := decB ⟨b0, l0⟩ ⟨b1 % 4, by omega⟩
  have a1 := decB ⟨b1, l1⟩ ⟨b2 % 4, by omega⟩
  have a2 := decB2 ⟨b2, l2⟩
  simp only [] at a0 a1 a2
  simp only [show 3689348814741910323 / 256 = 14411518807585587 from rfl, show 3689348814741910323 % 256 = 51 from rfl, show 14411518807585587 / 256 = 56294995342131 from rfl, show 14411518807585587 % 256 = 51 from rfl, a0, a1, a2.1, a2.2]
  unfold h2
  omega
theorem step3 {b0 b1 b2 : Nat} (l0 : b0 < 256) (l1 : b1 < 256) (l2 : b2 < 256) {x : Nat} (hx : x = 256 * (256 * h2 (h1 b2) + h2 (h1 b1)) + h2 (h1 b0)) : (x / 16 + x) &&& 1085102592571150095 = 256 * (256 * pcn b2 8 + pcn b1 8) + pcn b0 8 := by
  have c0 := decC ⟨b0, l0⟩
  have c1 := decC ⟨b1, l1⟩
  have c2 := decC ⟨b2, l2⟩
  have d0 := decD ⟨b0, l0⟩ ⟨h2 (h1 b1) % 16, by have := c1; simp only [] at this; omega⟩
  have d1 := decD ⟨b1, l1⟩ ⟨h2 (h1 b2) % 16, by have := c2; simp only [] at this; omega⟩
  have d2 := decD2 ⟨b2, l2⟩
  simp only [] at c0 c1 c2 d0 d1 d2
  subst hx
  generalize h2 (h1 b0) = e0 at *
  generalize h2 (h1 b1) = e1 at *
  generalize h2 (h1 b2) = e2 at *
  have e : (256 * (256 * e2 + e1) + e0) / 16 + (256 * (256 * e2 + e1) + e0) = 256 * (256 * (e2 / 16 + e2) + (e1 / 16 + 16 * (e2 % 16) + e1)) + (e0 / 16 + 16 * (e1 % 16) + e0) := by omega
  rw [e, and_byte _ _ _ (by omega), and_byte _ _ _ (by omega)]
  simp only [show 1085102592571150095 / 256 = 4238682002231055 from rfl, show 1085102592571150095 % 256 = 15 from rfl, show 4238682002231055 / 256 = 16557351571215 from rfl, show 4238682002231055 % 256 = 15 from rfl, d0, d1, d2]

theorem sum3 {p0 p1 p2 x3 x4 x5 : Nat} (q0 : p0 ≤ 8) (q1 : p1 ≤ 8) (q2 : p2 ≤ 8) (e3 : x3 = 256 * (256 * p2 + p1) + p0) (e4 : x4 = x3 + x3 / 256) (e5 : x5 = x4 + x4 / 65536) : x5 % 128 = p0 + (p1 + p2) := by
  have d3 : x3 / 256 = 256 * p2 + p1 := by omega
  have e4' : x4 = 65536 * p2 + 256 * (p1 + p2) + (p0 + p1) := by omega
  have d4 : x4 / 65536 = p2 := by omega
  have e5' : x5 = 128 * (512 * p2 + 2 * (p1 + p2)) + (p0 + p1 + p2) := by omega
  clear e3 e4 e5 d3 e4' d4
  omega
theorem bits_and_u {a b : Nat} (ha : a < 2 ^ 64) (hb : b < 2 ^ 64) : Go.bits .and .u64 (a : Int) (b : Int) = ((a &&& b : Nat) : Int) :=
  (bits_nat .u64 64 (by decide) (fun n h0 h1 => by obtain ⟨m, rfl⟩ := Int.eq_ofNat_of_zero_le h0; exact wrapu_nat (by omega)) a b ha hb).1
theorem and_lit_u {a : Nat} (m : Nat) (ha : a < 2 ^ 64) (hm : m < 2 ^ 64) {z : Int} (hz : z = (m : Int)) : Go.bits .and .u64 (a : Int) z = ((a &&& m : Nat) : Int) := by rw [hz]; exact bits_and_u ha hm
theorem onesCount64 {n : Nat} (hn : n < 16777216) : math_bits_OnesCount64.f (n : Int) = some ((pcn n 24 : Nat) : Int) := by
  obtain ⟨b0, b1, b2, l0, l1, l2, rfl⟩ : ∃ b0 b1 b2, b0 < 256 ∧ b1 < 256 ∧ b2 < 256 ∧ n = 256 * (256 * b2 + b1) + b0 := ⟨n % 256, n / 256 % 256, n / 65536, by omega, by omega, by omega, by omega⟩
  obtain ⟨x, hx⟩ : ∃ x, x = 256 * (256 * b2 + b1) + b0 := ⟨_, rfl⟩
  have s1 := step1 l0 l1 l2
  have c0 := decC ⟨b0, l0⟩
  have c1 := decC ⟨b1, l1⟩
  have c2 := decC ⟨b2, l2⟩
  simp only [] at c0 c1 c2
  rw [← hx] at s1 hn ⊢
  obtain ⟨x1, hx1⟩ : ∃ x1, x1 = 256 * (256 * h1 b2 + h1 b1) + h1 b0 := ⟨_, rfl⟩
  have s2 := step2 (b0 := h1 b0) (b1 := h1 b1) (b2 := h1 b2) (by omega) (by omega) (by omega)
  rw [← hx1] at s1 s2
  obtain ⟨x2, hx2⟩ : ∃ x2, x2 = 256 * (256 * h2 (h1 b2) + h2 (h1 b1)) + h2 (h1 b0) := ⟨_, rfl⟩
  have s3 := step3 l0 l1 l2 hx2
  rw [← hx2] at s2
  obtain ⟨x3, hx3⟩ : ∃ x3, x3 = 256 * (256 * pcn b2 8 + pcn b1 8) + pcn b0 8 := ⟨_, rfl⟩
  rw [← hx3] at s3
  have t1 : IntKind.u64.wrap (Go.bits .and .u64 ((x : Int) / 2) 6148914691236517205 + Go.bits .and .u64 (x : Int) 6148914691236517205) = (x1 : Int) := by
    rw [show (x : Int) / 2 = ((x / 2 : Nat) : Int) by omega, and_lit_u (a := x / 2) (z := 6148914691236517205) 6148914691236517205 (by omega) (by decide) rfl, and_lit_u (a := x) (z := 6148914691236517205) 6148914691236517205 (by omega) (by decide) rfl, ← Int.natCast_add, s1]
    exact wrapu_nat (by omega)
  have t2 : IntKind.u64.wrap (Go.bits .and .u64 ((x1 : Int) / 4) 3689348814741910323 + Go.bits .and .u64 (x1 : Int) 3689348814741910323) = (x2 : Int) := by
    rw [show (x1 : Int) / 4 = ((x1 / 4 : Nat) : Int) by omega, and_lit_u (a := x1 / 4) (z := 3689348814741910323) 3689348814741910323 (by omega) (by decide) rfl, and_lit_u (a := x1) (z := 3689348814741910323) 3689348814741910323 (by omega) (by decide) rfl, ← Int.natCast_add, s2]
    exact wrapu_nat (by omega)
  have t3 : Go.bits .and .u64 (IntKind.u64.wrap ((x2 : Int) / 16 + (x2 : Int))) 1085102592571150095 = (x3 : Int) := by
    rw [show (x2 : Int) / 16 + (x2 : Int) = ((x2 / 16 + x2 : Nat) : Int) by omega, wrapu_nat (by omega), and_lit_u (a := x2 / 16 + x2) (z := 1085102592571150095) 1085102592571150095 (by omega) (by decide) rfl, s3]
  have t4 : IntKind.u64.wrap ((x3 : Int) + (x3 : Int) / 256) = ((x3 + x3 / 256 : Nat) : Int) := by
    rw [show (x3 : Int) + (x3 : Int) / 256 = ((x3 + x3 / 256 : Nat) : Int) by omega]
    exact wrapu_nat (by omega)
  obtain ⟨x4, hx4⟩ : ∃ x4, x4 = x3 + x3 / 256 := ⟨_, rfl⟩
  rw [← hx4] at t4
  have t5 : IntKind.u64.wrap ((x4 : Int) + (x4 : Int) / 65536) = ((x4 + x4 / 65536 : Nat) : Int) := by
    rw [show (x4 : Int) + (x4 : Int) / 65536 = ((x4 + x4 / 65536 : Nat) : Int) by omega]
    exact wrapu_nat (by omega)
  obtain ⟨x5, hx5⟩ : ∃ x5, x5 = x4 + x4 / 65536 := ⟨_, rfl⟩
  rw [← hx5] at t5
  have t6 : IntKind.u64.wrap ((x5 : Int) + (x5 : Int) / 4294967296) = (x5 : Int) := by
    rw [show (x5 : Int) + (x5 : Int) / 4294967296 = (x5 : Int) by omega]
    exact wrapu_nat (by omega)
  unfold math_bits_OnesCount64.f
  rw [t1, t2, t3, t4, t5, t6]
  rw [w64 (by omega) (by omega)]
  congr 1
  have := bits_and_i (a := x5) (b := 127) (by omega) (by decide)
  refine this.trans ?_
  congr 1
  have p : pcn x 24 = pcn b0 8 + (pcn b1 8 + pcn b2 8) := by
    rw [hx, show 24 = 8 + (8 + 8) from rfl, pcn_split _ _ _ l0, pcn_split _ _ _ l1]
  rw [p, show (127 : Nat) = 2 ^ 7 - 1 from rfl, Nat.and_two_pow_sub_one_eq_mod]
  exact sum3 c0.2.2.2 c1.2.2.2 c2.2.2.2 hx3 hx4 hx5
end Go.Proofs.Ytiiflckblilhiaa.F
