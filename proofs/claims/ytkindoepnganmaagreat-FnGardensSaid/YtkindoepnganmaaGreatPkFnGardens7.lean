/- Packed by a program of the session (wip/tools/pack.py): what the claim's theorem reaches, of the texts that wip/ and the kit's printer lay. -/
import Derived.Test.YtkindoepnganmaaGreatPkFnGardens6
import Derived.Shelf.Sort.Plain
import Derived.Shelf.Slices.CompactI
import Derived.Shelf.Slices.In.SortNone
import Derived.Sort.OwnSortedInts
import Derived.Test.YtkindoepnganmaaGreatProg
import Derived.Shelf.Slices.Delete
section
namespace Go.Proofs
def Tryz.lays189_ren : Go.Shelf.Ren := ⟨fun | 189 => 164 | 125 => 169 | 257 => 168 | 128 => 179 | 129 => 180 | 294 => 170 | 295 => 171 | 296 => 172 | 297 => 173 | 298 => 174 | 299 => 175 | 216 => 176 | 300 => 177 | 301 => 178 | 328 => 181 | 329 => 182 | 330 => 183 | 331 => 184 | 332 => 185 | 215 => 186 | 343 => 187 | n => n, fun | 28 => 26 | 3 => 3 | 46 => 141 | 0 => 0 | 51 => 146 | 53 => 149 | 4 => 4 | 183 => 156 | 182 => 155 | 131 => 160 | 5 => 5 | 9 => 9 | 218 => 164 | 222 => 168 | 228 => 170 | 229 => 171 | n => n, fun  | n => n⟩
theorem Tryz.lays189 : Lays.n189 Tryz.prog Tryz.lays189_ren := { mixed := by kernel_rfl, f125 := Tryz.func169.trans (congrArg some (by kernel_rfl)), f128 := Tryz.func179.trans (congrArg some (by kernel_rfl)), f129 := Tryz.func180.trans (congrArg some (by kernel_rfl)), f189 := Tryz.func164.trans (congrArg some (by kernel_rfl)), f215 := Tryz.func186.trans (congrArg some (by kernel_rfl)), f216 := Tryz.func176.trans (congrArg some (by kernel_rfl)), f257 := Tryz.func168.trans (congrArg some (by kernel_rfl)), f294 := Tryz.func170.trans (congrArg some (by kernel_rfl)), f295 := Tryz.func171.trans (congrArg some (by kernel_rfl)), f296 := Tryz.func172.trans (congrArg some (by kernel_rfl)), f297 := Tryz.func173.trans (congrArg some (by kernel_rfl)), f298 := Tryz.func174.trans (congrArg some (by kernel_rfl)), f299 := Tryz.func175.trans (congrArg some (by kernel_rfl)), f300 := Tryz.func177.trans (congrArg some (by kernel_rfl)), f301 := Tryz.func178.trans (congrArg some (by kernel_rfl)), f328 := Tryz.func181.trans (congrArg some (by kernel_rfl)), f329 := Tryz.func182.trans (congrArg some (by kernel_rfl)), f330 := Tryz.func183.trans (congrArg some (by kernel_rfl)), f331 := Tryz.func184.trans (congrArg some (by kernel_rfl)), f332 := Tryz.func185.trans (congrArg some (by kernel_rfl)), f343 := Tryz.func187.trans (congrArg some (by kernel_rfl)), t0 := Tryz.underlying0, a0 := Tryz.isAgg0, z0 := Tryz.sizeOf0, v0 := Tryz.zeroValue0, t3 := Tryz.underlying3, a3 := Tryz.isAgg3, z3 := Tryz.sizeOf3, v3 := Tryz.zeroValue3, t4 := Tryz.underlying4, a4 := Tryz.isAgg4, z4 := Tryz.sizeOf4, v4 := Tryz.zeroValue4, t5 := Tryz.underlying5, a5 := Tryz.isAgg5, z5 := Tryz.sizeOf5, v5 := Tryz.zeroValue5, t9 := Tryz.underlying9, a9 := Tryz.isAgg9, z9 := Tryz.sizeOf9, v9 := Tryz.zeroValue9, t28 := Tryz.underlying26, a28 := Tryz.isAgg26, z28 := Tryz.sizeOf26, v28 := Tryz.zeroValue26, t46 := Tryz.underlying141, a46 := Tryz.isAgg141, z46 := Tryz.sizeOf141, v46 := Tryz.zeroValue141, t51 := Tryz.underlying146, a51 := Tryz.isAgg146, z51 := Tryz.sizeOf146, v51 := Tryz.zeroValue146, t53 := Tryz.underlying149, a53 := Tryz.isAgg149, z53 := Tryz.sizeOf149, v53 := Tryz.zeroValue149, t131 := Tryz.underlying160, a131 := Tryz.isAgg160, z131 := Tryz.sizeOf160, v131 := Tryz.zeroValue160, t182 := Tryz.underlying155, a182 := Tryz.isAgg155, z182 := Tryz.sizeOf155, v182 := Tryz.zeroValue155, t183 := Tryz.underlying156, a183 := Tryz.isAgg156, z183 := Tryz.sizeOf156, v183 := Tryz.zeroValue156, t218 := Tryz.underlying164, a218 := Tryz.isAgg164, z218 := Tryz.sizeOf164, v218 := Tryz.zeroValue164, t222 := Tryz.underlying168, a222 := Tryz.isAgg168, z222 := Tryz.sizeOf168, v222 := Tryz.zeroValue168, t228 := Tryz.underlying170, a228 := Tryz.isAgg170, z228 := Tryz.sizeOf170, v228 := Tryz.zeroValue170, t229 := Tryz.underlying171, a229 := Tryz.isAgg171, z229 := Tryz.sizeOf171, v229 := Tryz.zeroValue171 }
def Tryz.lays2020_ren : Go.Shelf.Ren := ⟨fun | 20 => 165 | n => n, fun | 22 => 26 | 3 => 3 | 4 => 4 | 0 => 0 | n => n, fun  | n => n⟩
theorem Tryz.lays2020 : Lays2.n20 Tryz.prog Tryz.lays2020_ren := { mixed := by kernel_rfl, f20 := Tryz.func165.trans (congrArg some (by kernel_rfl)), t0 := Tryz.underlying0, a0 := Tryz.isAgg0, z0 := Tryz.sizeOf0, v0 := Tryz.zeroValue0, t3 := Tryz.underlying3, a3 := Tryz.isAgg3, z3 := Tryz.sizeOf3, v3 := Tryz.zeroValue3, t4 := Tryz.underlying4, a4 := Tryz.isAgg4, z4 := Tryz.sizeOf4, v4 := Tryz.zeroValue4, t22 := Tryz.underlying26, a22 := Tryz.isAgg26, z22 := Tryz.sizeOf26, v22 := Tryz.zeroValue26, i3 := by kernel_rfl }
def Tryz.lays2023_ren : Go.Shelf.Ren := ⟨fun | 23 => 70 | n => n, fun | 22 => 26 | 3 => 3 | 4 => 4 | 0 => 0 | n => n, fun  | n => n⟩
theorem Tryz.lays2023 : Lays2.n23 Tryz.prog Tryz.lays2023_ren := { mixed := by kernel_rfl, f23 := Tryz.func70.trans (congrArg some (by kernel_rfl)), t0 := Tryz.underlying0, a0 := Tryz.isAgg0, z0 := Tryz.sizeOf0, v0 := Tryz.zeroValue0, t3 := Tryz.underlying3, a3 := Tryz.isAgg3, z3 := Tryz.sizeOf3, v3 := Tryz.zeroValue3, t4 := Tryz.underlying4, a4 := Tryz.isAgg4, z4 := Tryz.sizeOf4, v4 := Tryz.zeroValue4, t22 := Tryz.underlying26, a22 := Tryz.isAgg26, z22 := Tryz.sizeOf26, v22 := Tryz.zeroValue26, i3 := by kernel_rfl }
end Go.Proofs
end

section
namespace Go.Proofs.YtkindoepnganmaaGreat.F
open Go.RowKit Go.Proofs.YtkindoepnganmaaGreatW.PrintWords Go.Proofs.YtkindoepnganmaaGreatW.PrintLast Go.Proofs.YtkindoepnganmaaGreatW.PrintMore
set_option linter.unusedVariables false
set_option linter.unusedSimpArgs false
attribute [local go_sem] max2_int min2_int max_two min_two
set_option maxRecDepth 20000
set_option maxHeartbeats 4000000
open Nat renaming reduceAdd → p1, reduceSub → p2, reduceMul → p3, reduceDiv → p4, reduceBNe → p5, reduceBEq → p6, reduceEqDiff → p7, reduceLeDiff → p8, reduceLT → p9
open Int renaming reduceLE → p10, reduceLT → p11, reduceEq → p12
theorem impl_GapAt.ctr {k : Nat} {a0_0 : Int} {a0_1 : Int} {a1 : Int} {a2 : Int} {r : Int} (h : impl_GapAt.f k a0_0 a0_1 a1 a2 = some r) : Ctr Tryz.prog 151 [.ag [.v (.int .i64 a0_0), .v (.int .i64 a0_1)], .v (.int .i64 a1), .v (.int .i64 a2)] (.v (.int .i64 r)) := by
  refine Ctr_of tyOk hm Tryz.func151 rfl rfl (by kernel_rfl) (n := 42) (rv := [.tmp 6]) rfl rfl ?_
  simp only [W, List.replicate]
  unfold impl_GapAt.f at h
  replace h := bnd h; obtain ⟨t1, A, h⟩ := h
  try simp only [W, p1, p2, p3, p4, p5, p6, p7, p8, p9, p10, p11, p12]
  refine callR (impl_Neighbor.ctr A) ?_
  replace h := ifS h; rcases h with ⟨c2, h⟩ | ⟨c2, h⟩
  · cases h
    try simp only [W, c2, p1, p2, p3, p4, p5, p6, p7, p8, p9, p10, p11, p12]
  · replace h := ifS h; rcases h with ⟨c3, h⟩ | ⟨c3, h⟩
    · replace h := ifM h; obtain ⟨c4, h⟩ := h
      cases h
      try simp only [W, c2, eq_true c3, c4, p1, p2, p3, p4, p5, p6, p7, p8, p9, p10, p11, p12]
    · replace h := ifS h; rcases h with ⟨c5, h⟩ | ⟨c5, h⟩
      · replace h := ifM h; obtain ⟨c6, h⟩ := h
        cases h
        try simp only [W, c2, c3, eq_true c5, c6, p1, p2, p3, p4, p5, p6, p7, p8, p9, p10, p11, p12]
      · cases h
        try simp only [W, c2, c3, c5, p1, p2, p3, p4, p5, p6, p7, p8, p9, p10, p11, p12]
theorem impl_Step.ctr {k : Nat} {a0_0 : Int} {a0_1 : Int} {a0_2 : Int} {a1 : Int} {a2 : Int} {r : Int} (h : impl_Step.f k a0_0 a0_1 a0_2 a1 a2 = some r) : Ctr Tryz.prog 117 [.ag [.v (.int .i64 a0_0), .v (.int .i64 a0_1), .v (.int .i64 a0_2)], .v (.int .i64 a1), .v (.int .i64 a2)] (.v (.int .i64 r)) := by
  refine Ctr_of tyOk hm Tryz.func117 rfl rfl (by kernel_rfl) (n := 22) (rv := [.tmp 6]) rfl rfl ?_
  simp only [W, List.replicate]
  unfold impl_Step.f at h
  replace h := bnd h; obtain ⟨t1, A, h⟩ := h
  try simp only [W, p1, p2, p3, p4, p5, p6, p7, p8, p9, p10, p11, p12]
  refine callR (impl_MazeOk.ctr A) ?_
  replace h := ifT h; rcases h with ⟨rfl, h⟩ | ⟨rfl, h⟩
  · replace h := bnd h; obtain ⟨t3, A, h⟩ := h
    try simp only [W, p1, p2, p3, p4, p5, p6, p7, p8, p9, p10, p11, p12]
    refine callR (impl_GapAt.ctr A) ?_
    replace h := bnd h; obtain ⟨t4, A, h⟩ := h
    try simp only [W, p1, p2, p3, p4, p5, p6, p7, p8, p9, p10, p11, p12]
    refine callR (impl_isOpen.ctr A) ?_
    replace h := ifT h; rcases h with ⟨rfl, h⟩ | ⟨rfl, h⟩
    · replace h := bnd h; obtain ⟨t6, A, h⟩ := h
      try simp only [W, p1, p2, p3, p4, p5, p6, p7, p8, p9, p10, p11, p12]
      refine callR (impl_Neighbor.ctr A) ?_
      cases h
      try simp only [W, p1, p2, p3, p4, p5, p6, p7, p8, p9, p10, p11, p12]
    · cases h
      try simp only [W, p1, p2, p3, p4, p5, p6, p7, p8, p9, p10, p11, p12]
  · cases h
    try simp only [W, p1, p2, p3, p4, p5, p6, p7, p8, p9, p10, p11, p12]
theorem impl_WaysFrom.ctr {k : Nat} {a0_0 : Int} {a0_1 : Int} {a0_2 : Int} {a1 : Int} {r : List Int} (h : impl_WaysFrom.f k a0_0 a0_1 a0_2 a1 = some r) : Ctr Tryz.prog 124 [.ag [.v (.int .i64 a0_0), .v (.int .i64 a0_1), .v (.int .i64 a0_2)], .v (.int .i64 a1)] (.ow 3 1 (r.map eI)) := by
  refine Ctr_of tyOk hm Tryz.func124 rfl rfl (by kernel_rfl) (n := 19) (rv := [.tmp 4]) rfl rfl ?_
  simp only [W, List.replicate]
  unfold impl_WaysFrom.f at h
  try simp only [W, p1, p2, p3, p4, p5, p6, p7, p8, p9, p10, p11, p12]
  refine loopN (fun x : Int × List Int × Int × Int × Int × Int => [.u, .v (.int .i64 x.1), .bp 32 0, .u, .u, .lo 80, .v (.int .i64 x.2.2.1), .u, .u, .u, .u, .u, .u, .u, .u, .u, .u, .u, .u, .u, .u]) (fun x => [(32, .box 34 [.v (.int .i64 x.2.2.2.1), .v (.int .i64 x.2.2.2.2.1), .v (.int .i64 x.2.2.2.2.2)]), (80, .row 3 1 (List.map eI x.2.1))]) (fun n x => impl_WaysFrom.l0 n x.1 x.2.1 x.2.2.1 x.2.2.2.1 x.2.2.2.2.1 x.2.2.2.2.2 = some r) (a1, ([] : List Int), 0, a0_0, a0_1, a0_2) [] h (by simp only [W, p1, p2, p3, p4, p5, p6, p7, p8, p9, p10, p11, p12] <;> trivial) (by simp only [W, p1, p2, p3, p4, p5, p6, p7, p8, p9, p10, p11, p12] <;> trivial) rfl (fun _ h => by cases h) ?_
  intro n1 ⟨x1, x2, x3, x4, x5, x6⟩ _ h
  simp only [impl_WaysFrom.l0] at h
  replace h := ifS h; rcases h with ⟨c7, h⟩ | ⟨c7, h⟩
  · replace h := bnd h; obtain ⟨t8, A, h⟩ := h
    try simp only [W, c7, p1, p2, p3, p4, p5, p6, p7, p8, p9, p10, p11, p12]
    refine callR (impl_Step.ctr A) ?_
    replace h := ifS h; rcases h with ⟨c9, h⟩ | ⟨c9, h⟩
    · replace h := ifN h; obtain ⟨c10, h⟩ := h
      try simp only [W, c7, c9, c10, p1, p2, p3, p4, p5, p6, p7, p8, p9, p10, p11, p12]
      exact nextN (x1, (x2 ++ [x3]), (wrap64 (x3 + 1)), x4, x5, x6) [(80, 304)] n1 (by omega) h (by simp only [W, p1, p2, p3, p4, p5, p6, p7, p8, p9, p10, p11, p12] <;> trivial) (by simp only [W, p1, p2, p3, p4, p5, p6, p7, p8, p9, p10, p11, p12] <;> trivial) rfl
    · try simp only [W, c7, c9, p1, p2, p3, p4, p5, p6, p7, p8, p9, p10, p11, p12]
      exact nextN (x1, x2, (wrap64 (x3 + 1)), x4, x5, x6) [] n1 (by omega) h (by simp only [W, p1, p2, p3, p4, p5, p6, p7, p8, p9, p10, p11, p12] <;> trivial) (by simp only [W, p1, p2, p3, p4, p5, p6, p7, p8, p9, p10, p11, p12] <;> trivial) rfl
  · cases h
    try simp only [W, c7, p1, p2, p3, p4, p5, p6, p7, p8, p9, p10, p11, p12]
set_option maxHeartbeats 8000000 in
set_option maxRecDepth 100000 in
theorem math_bits_Mul64.calls (a0 : Int) (a1 : Int) (r1 : Int) (r2 : Int) (w : World) (h : math_bits_Mul64.f a0 a1 = some (r1, r2)) :
  Calls Tryz.prog 167 #[.int .u64 a0, .int .u64 a1] w fun e w' => e = .returned (.tuple #[.int .u64 r1, .int .u64 r2]) ∧ Drawn0 w w' := by
 have H : (some (IntKind.u64.wrap ((IntKind.u64.wrap ((IntKind.u64.wrap ((a0 / 4294967296) * (a1 / 4294967296))) + ((IntKind.u64.wrap ((IntKind.u64.wrap ((a0 / 4294967296) * (Go.bits .and .u64 a1 4294967295))) + ((IntKind.u64.wrap ((Go.bits .and .u64 a0 4294967295) * (Go.bits .and .u64 a1 4294967295))) / 4294967296))) / 4294967296))) + ((IntKind.u64.wrap ((Go.bits .and .u64 (IntKind.u64.wrap ((IntKind.u64.wrap ((a0 / 4294967296) * (Go.bits .and .u64 a1 4294967295))) + ((IntKind.u64.wrap ((Go.bits .and .u64 a0 4294967295) * (Go.bits .and .u64 a1 4294967295))) / 4294967296))) 4294967295) + (IntKind.u64.wrap ((Go.bits .and .u64 a0 4294967295) * (a1 / 4294967296))))) / 4294967296)), IntKind.u64.wrap (a0 * a1))) = some (r1, r2) := h
 clear h
 simp only [Option.some.injEq, Prod.mk.injEq] at H
 obtain ⟨rfl, rfl⟩ := H
 go_enter Tryz.func167, Tryz.ntmps167
 go_wp2
 go_ret2
 exact ⟨by first | rfl | (simp; done) | (simp [*]; done), by repeat (first | exact Drawn0.refl _ | apply Drawn0.step)⟩
set_option maxHeartbeats 8000000 in
set_option maxRecDepth 100000 in
theorem math_bits_Mul.calls (a0 : Int) (a1 : Int) (r1 : Int) (r2 : Int) (w : World) (h : math_bits_Mul.f a0 a1 = some (r1, r2)) :
  Calls Tryz.prog 161 #[.int .u64 a0, .int .u64 a1] w fun e w' => e = .returned (.tuple #[.int .u64 r1, .int .u64 r2]) ∧ Drawn0 w w' := by
 have H : ((math_bits_Mul64.f a0 a1).bind fun bt346 => (some (bt346.1, bt346.2))) = some (r1, r2) := h
 clear h
 replace H := Option.bind_eq_some_iff.mp H
 obtain ⟨⟨t346, t347⟩, A30, H⟩ := H
 replace H : (some (t346, t347)) = some (r1, r2) := H
 have A3 := aK A30
 clear A30
 simp only [Option.some.injEq, Prod.mk.injEq] at H
 obtain ⟨rfl, rfl⟩ := H
 go_enter Tryz.func161, Tryz.ntmps161
 go_wp2_with (first | ((with_reducible refine gate_callee (f := 167) rfl ?_); refine goesL_ (some 25) rfl rfl Tryz.func167 (by kernel_rfl) rfl #[.int .u64 a0, .int .u64 a1] rfl zD ?_; (with_reducible refine (math_bits_Mul64.calls a0 a1 t346 t347 _ A3.out).mono ?_); rintro e w' ⟨rfl, ⟨nd, rfl⟩⟩; refine ⟨_, rfl, ?_⟩))
 go_ret2
 exact ⟨by first | rfl | (simp; done) | (simp [*]; done), by repeat (first | exact Drawn0.refl _ | apply Drawn0.step)⟩
theorem bits_nat_u {a b : Nat} (ha : a < 2 ^ 63) (hb : b < 2 ^ 63) : Go.bits .and .u64 (a : Int) (b : Int) = ((a &&& b : Nat) : Int) :=
  (bits_nat .u64 63 (by decide) (fun n h0 h1 => by simp [IntKind.wrap, IntKind.bits, IntKind.signed]; omega) a b ha hb).1
theorem mul_one_small {n : Nat} (hn : n ≤ 4096) : math_bits_Mul.f 1 (n : Int) = some (0, (n : Int)) := by
  have w : ∀ m : Nat, m < 18446744073709551616 → IntKind.u64.wrap (m : Int) = (m : Int) := fun m h => by simp [IntKind.wrap, IntKind.bits, IntKind.signed]; omega
  have e1 : Go.bits .and .u64 (n : Int) 4294967295 = (n : Int) := by
    have := bits_nat_u (a := n) (b := 4294967295) (by omega) (by decide)
    rw [show ((4294967295 : Nat) : Int) = 4294967295 from rfl] at this
    rw [this, show (4294967295 : Nat) = 2 ^ 32 - 1 from rfl, Nat.and_two_pow_sub_one_eq_mod, Nat.mod_eq_of_lt (by omega)]
  have e2 : Go.bits .and .u64 (1 : Int) 4294967295 = 1 := by decide
  have e3 : (n : Int) / 4294967296 = 0 := by omega
  have e0 : (1 : Int) / 4294967296 = 0 := by decide
  have z : IntKind.u64.wrap (0 : Int) = 0 := by decide
  have wn : IntKind.u64.wrap (n : Int) = (n : Int) := w n (by omega)
  have b0 : Go.bits .and .u64 (0 : Int) 4294967295 = 0 := by decide
  unfold math_bits_Mul.f math_bits_Mul64.f
  simp only [Option.bind_some, e0, e1, e2, e3, Int.zero_mul, Int.one_mul, Int.mul_zero, z, wn, Int.add_zero, Int.zero_add, b0, show (0 : Int) / 4294967296 = 0 from by decide]
theorem own_open {w : World} {base : Nat} {v : Value} {xs : List Int} {e : Nat} (h : Kd.R (Kd.int .i64) e w base (fun _ => True) v xs) (hx : 0 < xs.length) :
    ∃ g cap cur, v = .slice (some ⟨g, 0, none⟩) xs.length cap ∧ xs.length ≤ cap ∧ base ≤ g ∧ w.heap[g]? = some (.cells (List.toArray cur) e (0, 0)) ∧ cur.length = cap ∧ cap ≤ maxLen := by
  obtain ⟨_, h⟩ := Kd.own_of_R h
  rcases h with ⟨rfl, h0⟩ | ⟨g, cap, cur, rfl, hb, hh, hn, hc, hs, _⟩
  · omega
  · exact ⟨g, cap, cur.toList, rfl, hn, hb, by simpa using hh, by simpa using hs, hc⟩
set_option maxHeartbeats 600000 in
set_option maxRecDepth 100000 in
theorem slices_Repeat_int.calls (A0 : Option Addr) (c0 : Nat) (l0 : List Int) (a1 : Int) (r : List Int) (w : World) (hr0 : Kd.C (Kd.int .i64) w A0 l0.length l0) (hc0 : l0.length ≤ c0) (h : slices_Repeat_int.f l0 a1 = some r) :
  Calls Tryz.prog 139 #[.slice A0 l0.length c0, .int .i64 a1] w fun e w' => ∃ v0_ : Value, e = .returned (v0_) ∧ Kd.R (Kd.int .i64) 3 w' w.heap.size (fun _ => True) v0_ r ∧ Below w.heap.size w w' := by
 unfold slices_Repeat_int.f at h
 by_cases hl : l0.length = 1 ∧ 1 ≤ a1 ∧ a1 ≤ 4096
 ·rw [if_pos hl] at h
  obtain rfl := Option.some.inj h
  obtain ⟨h1, h2, h3⟩ := hl
  obtain ⟨x, rfl⟩ := List.length_eq_one_iff.1 h1
  obtain ⟨n, rfl⟩ : ∃ n : Nat, (n : Int) = a1 := ⟨a1.toNat, by omega⟩
  have hn1 : 1 ≤ n := by omega
  have hn2 : n ≤ 4096 := by omega
  have HN := aK (And.intro hn1 hn2)
  obtain ⟨ad, rfl, hx⟩ := Kd.at_int hr0 0 (by decide) (by simp)
  have HX := aK hx
  have hmul := aK (mul_one_small hn2)
  have d1 : decide ((n : Int) < 0) = false := decide_eq_false (by omega)
  have d2 : decide ((n : Int) > 9223372036854775807) = false := decide_eq_false (by omega)
  have d3 : IntKind.i64.wrap (n : Int) = (n : Int) := by simp [IntKind.wrap, IntKind.bits, IntKind.signed]; omega
  have d4 : IntKind.u64.wrap (n : Int) = (n : Int) := by simp [IntKind.wrap, IntKind.bits, IntKind.signed]; omega
  have HB0 := aK (Below.refl w.heap.size w)
  clear hr0 h h1 h2 h3 hx hc0
  simp only [Int.toNat_natCast] at *
  go_enter Tryz.func139, Tryz.ntmps139
  obtain ⟨X, hX⟩ : ∃ X : List Value, X = [.int .i64 (rd [x] 0)] := ⟨_, rfl⟩
  go_wp2_with (first | ((with_reducible refine gate_callee (f := 161) rfl ?_); refine goesL_ (some 18) rfl rfl Tryz.func161 (by kernel_rfl) rfl #[.int .u64 1, .int .u64 n] rfl (by (try simp only [List.map_toArray, List.map_cons, List.map_nil]); first | done | rfl) ?_; (with_reducible refine (math_bits_Mul.calls 1 n 0 n _ hmul.out).mono ?_); rintro e w' ⟨rfl, ⟨nd, rfl⟩⟩; refine ⟨_, rfl, ?_⟩) | ((with_reducible refine gate_dst (N := 30) rfl ?_); refine Kd.R_make (Kd.int .i64) (w0 := w) w.heap.size 3 rfl (N := 30) rfl 26 _ _ rfl (n : Int) rfl rfl Tryz.underlying26 (.int .i64 0) 8 info3 rfl (by decide) (by omega) 0 (ok := fun _ => True) (okp := fun _ => True) rfl (fun _ hk => hk) trivial (by omega) (by have := HN.out.2; omega) (by exact bDN HB0.out _) (by simp) ?_; intro v1 w1 hR hB1 hG1 hA1; have HR1 := aK hR; have HB1 := aK hB1; clear hR hB1 hG1 hA1; obtain ⟨g, cap, cur, rfl, hcap, hg1, hg2, hg3, hg4⟩ := own_open HR1.out (by have := HN.out.1; simp; omega); simp only [Int.toNat_natCast, List.length_replicate] at hcap; clear HR1; simp only [Int.toNat_natCast, List.length_replicate]; have HG1 := aK hg1; have HG2 := aK hg2; have HG3 := aK hg3; have HCAP := aK hcap; have HMAX := aK hg4; clear hg4; clear hg1 hg2 hg3 hcap) | ((with_reducible refine wpList_copy_splice rfl (.tmp 31) (.tmp 32) 26 26 rfl 3 Tryz.underlying26 rfl (some ⟨g, 0, none⟩) (some ad) _ _ _ _ rfl rfl g 0 cur 3 HG2.out X ?cn ?cp ?cf ?c1 w.heap.size w HB1.out HG1.out ?_); (case cn => subst hX; show 1 = _; have := HN.out; simp [Nat.min_def]; omega); (case cp => intro _; refine ⟨rfl, ad, rfl, fun j v hj => ?_⟩; subst hX; cases j with | zero => (simp at hj; subst hj; exact pw_cell_below HB1.out HX.out) | succ j => simp at hj); (case cf => subst hX; have := HN.out; have := HCAP.out; have := HG3.out; simp; omega); (case c1 => subst hX; intro v hv; simp at hv; subst hv; rfl); intro w2 HS2 hB2; have HB2 := aK hB2; clear hB2))
  have HS3 : Aside0 (∃ c2 : List Value, w2.heap[g]? = some (.cells c2.toArray 3 (0, 0)) ∧ c2.length = cap ∧ ∀ j, j < 1 → c2[j]? = some (.int .i64 (rd [x] 0))) := by
   refine ⟨⟨splice cur 0 X, HS2.out, ?_, fun j hj => ?_⟩⟩
   ·rw [length_splice _ _ _ (by subst hX; have := HN.out; have := HCAP.out; have := HG3.out; simp; omega)]; exact HG3.out
   ·obtain rfl : j = 0 := by omega
    subst hX; simp [splice]
  clear HS2 HG2 hX hmul HX HB1
  go_loopg [8] n (fun gg s8 wr => ∃ (kk : Nat), s8 = .int .i64 kk ∧ 1 ≤ kk ∧ kk ≤ n ∧ n - kk ≤ gg ∧ Aside0 (∃ c2 : List Value, wr.heap[g]? = some (.cells c2.toArray 3 (0, 0)) ∧ c2.length = cap ∧ ∀ j, j < kk → c2[j]? = some (.int .i64 (rd [x] 0))) ∧ Aside0 (Below w.heap.size w wr))
  case atStart => exact ⟨1, rfl, by omega, by omega, by omega, HS3, HB2⟩
  case round =>
   clear HS3 HB2
   obtain ⟨kk, rfl, hk1, hkn, hkg, HS, HB⟩ := hrel
   obtain ⟨c2, e2, l2, a2⟩ := HS.out
   have E2 := aK e2
   have L2 := aK l2
   have A2 := aK a2
   clear HS e2 l2 a2
   by_cases hlt : kk < n
   ·have hltz : (kk : Int) < (n : Int) := by omega
    have hkz : (0 : Int) ≤ (kk : Int) := by omega
    have hkc : kk < cap := by have := HCAP.out; omega
    obtain ⟨m, hm⟩ : ∃ m, m = Nat.min kk (n - kk) := ⟨_, rfl⟩
    have hm1 : 1 ≤ m := by rw [hm]; simp only [Nat.min_def]; split <;> omega
    have hm2 : m ≤ kk := by rw [hm]; exact Nat.min_le_left _ _
    have hm3 : kk + m ≤ n := by rw [hm]; simp only [Nat.min_def]; split <;> omega
    have HM := aK (And.intro hm1 (And.intro hm2 hm3))
    have HM0 := aK hm
    obtain ⟨X1, hX1⟩ : ∃ X1 : List Value, X1 = List.replicate m (.int .i64 (rd [x] 0)) := ⟨_, rfl⟩
    have X1L : Aside0 (X1.length = m) := ⟨by rw [hX1]; simp⟩
    have X1M : Aside0 (∀ v ∈ X1, v.oneCell' = true) := ⟨by rw [hX1]; intro v hv; rw [List.eq_of_mem_replicate hv]; rfl⟩
    have X1J : Aside0 (∀ j v, X1[j]? = some v → j < m ∧ v = .int .i64 (rd [x] 0)) := ⟨fun j v hv => by rw [hX1, List.getElem?_replicate] at hv; split at hv <;> simp_all⟩
    have SRC : Aside0 (∀ j v, X1[j]? = some v → wr.cell? ((⟨g, 0, none⟩ : Addr).add j) = some v) := ⟨fun j v hv => by
     obtain ⟨h1, rfl⟩ := X1J.out j v hv
     rw [add_plain]
     refine (kC E2.out _).trans ?_
     simp only [Nat.zero_add, List.getElem?_toArray]
     exact A2.out j (by omega)⟩
    have SPL : Aside0 (∀ j, j < kk + m → (splice c2 kk X1)[j]? = some (.int .i64 (rd [x] 0))) := ⟨fun j hj => by
     have hl := L2.out
     unfold splice
     by_cases h : j < kk
     ·rw [List.getElem?_append_left (by simp; omega), List.getElem?_take, if_pos h]; exact A2.out j h
     ·rw [List.getElem?_append_right (by simp; omega), List.length_take, Nat.min_eq_left (by omega), List.getElem?_append_left (by rw [X1L.out]; omega), hX1, List.getElem?_replicate, if_pos (by omega)]⟩
    have d5 : IntKind.i64.wrap ((kk : Int) + (m : Int)) = ((kk + m : Nat) : Int) := by have := HN.out; simp [IntKind.wrap, IntKind.bits, IntKind.signed]; omega
    have k1 : (kk ≤ cap) = True := eq_true (by omega)
    have k2 : (cap = kk) = False := eq_false (by omega)
    have k3 : (kk ≤ n) = True := eq_true (by omega)
    clear hm hX1
    go_wp2
    go_region_law (refine step_copy_splice rfl (.tmp 41) (.tmp 44) 26 26 rfl 3 Tryz.underlying26 rfl (some ⟨g, kk, none⟩) (some ⟨g, 0, none⟩) (n - kk) (cap - kk) kk cap (by simp [Act.eval, Act.put]) (by simp [Act.eval, Act.put]) g kk c2 3 (by exact E2.out) X1 (by rw [X1L.out, HM0.out]) (fun _ => ⟨rfl, _, rfl, by exact SRC.out⟩) (by have := X1L.out; have := L2.out; have := HCAP.out; have := HM.out; omega) X1M.out w.heap.size w (bD1 HB.out) HG1.out ?_; intro w4 hg4 hb4)
    go_wp2
    go_roundg (n - (kk + m))
    case measure => have := HM.out; omega
    case rel =>
     refine ⟨kk + m, by rw [X1L.out]; exact congrArg _ d5, by have := HM.out; omega, by have := HM.out; omega, Nat.le_refl _, ⟨⟨splice c2 kk X1, hg4.out, ?_, SPL.out⟩⟩, ⟨hb4⟩⟩
     rw [length_splice _ _ _ (by have := X1L.out; have := L2.out; have := HCAP.out; have := HM.out; omega)]
     exact L2.out
   ·have hltz : ¬ (kk : Int) < (n : Int) := by omega
    obtain rfl : kk = n := by omega
    go_wp2
    go_ret
    refine ⟨_, rfl, ?_, HB.out⟩
    refine Kd.R_of_own ?_ (fun _ _ => trivial)
    refine ⟨by simp [encs], .inr ⟨g, cap, c2.toArray, by simp, HG1.out, E2.out, by simpa using HCAP.out, HMAX.out, by have := L2.out; simpa using this, ?_⟩⟩
    apply List.ext_getElem?
    intro j
    rw [List.getElem?_take]
    by_cases hj : j < kk
    ·rw [if_pos (by simpa using hj), List.toList_toArray, A2.out j hj]
     simp [encs, hj]
    ·rw [if_neg (by simpa using hj)]
     simp [encs]; omega
 ·rw [if_neg hl] at h
  exact absurd h (by simp)
theorem slices_Repeat_int.ctr {l0 : List Int} {a1 : Int} {r : List Int} (h : slices_Repeat_int.f l0 a1 = some r) : Ctr Tryz.prog 139 [.pr 1 (l0.map eI), .v (.int .i64 a1)] (.ow 3 1 (r.map eI)) := by
  refine ⟨enters_of Tryz.func139 rfl rfl, fun w ys hys => ?_⟩
  simp only [RepL, Rep] at hys
  obtain ⟨_, _, rfl, q1, _, _, rfl, rfl, rfl⟩ := hys
  obtain ⟨_, _, rfl, hr1, hc1⟩ := C_of_at E_eI q1
  refine (slices_Repeat_int.calls _ _ _ _ _ w hr1 hc1 h).mono ?_
  rintro _ _ ⟨v, rfl, hv, hb⟩
  exact ⟨v, (bk v).toList, rfl, by simp only [RepR]; exact ⟨row_of_R E_eI hv, E_eI.row _, E_eI.pos, trivial⟩, by cases bk v <;> simp, hb⟩
end Go.Proofs.YtkindoepnganmaaGreat.F
end

section
namespace Go.Proofs.YtkindoepnganmaaGreat.F
open Go.RowKit Go.Proofs.YtkindoepnganmaaGreatW.PrintWords Go.Proofs.YtkindoepnganmaaGreatW.PrintLast Go.Proofs.YtkindoepnganmaaGreatW.PrintMore
set_option linter.unusedVariables false
set_option linter.unusedSimpArgs false
attribute [local go_sem] max2_int min2_int max_two min_two
set_option maxRecDepth 20000 in set_option maxHeartbeats 4000000 in open Nat renaming reduceAdd → p1, reduceSub → p2, reduceMul → p3, reduceDiv → p4, reduceBNe → p5, reduceBEq → p6, reduceEqDiff → p7, reduceLeDiff → p8, reduceLT → p9 in open Int renaming reduceLE → p10, reduceLT → p11, reduceEq → p12 in
theorem impl_distances.ctr {k : Nat} {a0_0 : Int} {a0_1 : Int} {a0_2 : Int} {a1 : Int} {r : List Int} (h : impl_distances.f k a0_0 a0_1 a0_2 a1 = some r) : Ctr Tryz.prog 99 [.ag [.v (.int .i64 a0_0), .v (.int .i64 a0_1), .v (.int .i64 a0_2)], .v (.int .i64 a1)] (.ow 3 1 (r.map eI)) := by
  refine Ctr_of tyOk hm Tryz.func99 rfl rfl (by kernel_rfl) (n := 65) (rv := [.tmp 4]) rfl rfl ?_
  simp only [W, List.replicate]
  unfold impl_distances.f at h
  replace h := bnd h; obtain ⟨t1, A, h⟩ := h
  try simp only [W, p1, p2, p3, p4, p5, p6, p7, p8, p9, p10, p11, p12]
  refine callR (impl_CountCells.ctr A) ?_
  replace h := bnd h; obtain ⟨t2, A, h⟩ := h
  try simp only [W, p1, p2, p3, p4, p5, p6, p7, p8, p9, p10, p11, p12]
  refine callR (slices_Repeat_int.ctr A) ?_
  replace h := ifN h; obtain ⟨c3, h⟩ := h
  replace h := ifN h; obtain ⟨c4, h⟩ := h
  try simp only [W, c3, c4, p1, p2, p3, p4, p5, p6, p7, p8, p9, p10, p11, p12]
  refine loopN (fun x : List Int × List Int × Int × Int × Int × Int => [.u, .u, .bp 32 0, .u, .u, .lo 240, .lo 320, .v (.int .i64 x.2.2.1), .u, .u, .u, .u, .bp 32 0, .u, .u, .u, .u, .u, .u, .u, .u, .u, .u, .u, .u, .u, .u, .u, .u, .u, .u, .u, .u, .u, .u, .u, .u, .u, .u, .u, .u, .u, .u, .u, .u, .u, .u, .u, .u, .u, .u, .u, .u, .u, .u, .u, .u, .u, .u, .u, .u, .u, .u, .u, .u, .u, .u]) (fun x => [(32, .box 34 [.v (.int .i64 x.2.2.2.1), .v (.int .i64 x.2.2.2.2.1), .v (.int .i64 x.2.2.2.2.2)]), (240, .row 3 1 (List.map eI x.1)), (320, .row 3 1 (List.map eI x.2.1))]) (fun n x => impl_distances.l0 n x.1 x.2.1 x.2.2.1 x.2.2.2.1 x.2.2.2.2.1 x.2.2.2.2.2 = some r) ((t2.set (a1 : Int).toNat 0), (([a1] : List Int)), 0, a0_0, a0_1, a0_2) [] h (by simp only [W, p1, p2, p3, p4, p5, p6, p7, p8, p9, p10, p11, p12] <;> trivial) (by simp only [W, p1, p2, p3, p4, p5, p6, p7, p8, p9, p10, p11, p12] <;> trivial) rfl (fun _ h => by cases h) ?_
  intro n1 ⟨x5, x6, x7, x8, x9, x10⟩ _ h
  simp only [impl_distances.l0] at h
  replace h := ifS h; rcases h with ⟨c11, h⟩ | ⟨c11, h⟩
  · replace h := ifN h; obtain ⟨c12, h⟩ := h
    replace h := bnd h; obtain ⟨t13, A, h⟩ := h
    try simp only [W, c11, c12, p1, p2, p3, p4, p5, p6, p7, p8, p9, p10, p11, p12]
    refine callR (impl_WaysFrom.ctr A) ?_
    try simp only [W, c11, c12, p1, p2, p3, p4, p5, p6, p7, p8, p9, p10, p11, p12]
    refine loopN (fun x : List Int × List Int × Int × List Int × Int × Int × Int × Int × Int => [.u, .u, .bp 32 0, .u, .u, .lo 240, .lo 320, .v (.int .i64 x.2.2.1), .u, .u, .u, .u, .bp 32 0, .u, .u, .u, .u, .u, .u, .u, .u, .u, .u, .u, .u, .u, .u, .u, .u, .u, .u, .u, .lo 512, .v (.int .i64 x.2.2.2.2.1), .v (.int .i64 x.2.2.2.2.2.1), .u, .u, .u, .u, .u, .u, .u, .u, .u, .u, .u, .u, .u, .u, .u, .u, .u, .u, .u, .u, .u, .u, .u, .u, .u, .u, .u, .u, .u, .u, .u, .u]) (fun x => [(32, .box 34 [.v (.int .i64 x.2.2.2.2.2.2.1), .v (.int .i64 x.2.2.2.2.2.2.2.1), .v (.int .i64 x.2.2.2.2.2.2.2.2)]), (240, .row 3 1 (List.map eI x.1)), (320, .row 3 1 (List.map eI x.2.1)), (512, .row 3 1 (List.map eI x.2.2.2.1))]) (fun n x => impl_distances.l1 n x.1 x.2.1 x.2.2.1 x.2.2.2.1 x.2.2.2.2.1 x.2.2.2.2.2.1 x.2.2.2.2.2.2.1 x.2.2.2.2.2.2.2.1 x.2.2.2.2.2.2.2.2 = some r) (x5, x6, x7, t13, (t13.length : Int), 0, x8, x9, x10) [] h (by simp only [W, p1, p2, p3, p4, p5, p6, p7, p8, p9, p10, p11, p12] <;> trivial) (by simp only [W, p1, p2, p3, p4, p5, p6, p7, p8, p9, p10, p11, p12] <;> trivial) rfl (fun _ h => by cases h) ?_
    intro n2 ⟨x14, x15, x16, x17, x18, x19, x20, x21, x22⟩ _ h
    simp only [impl_distances.l1] at h
    replace h := ifS h; rcases h with ⟨c23, h⟩ | ⟨c23, h⟩
    · replace h := ifN h; obtain ⟨c24, h⟩ := h
      replace h := ifN h; obtain ⟨c25, h⟩ := h
      replace h := ifN h; obtain ⟨c26, h⟩ := h
      replace h := ifN h; obtain ⟨c27, h⟩ := h
      replace h := bnd h; obtain ⟨t28, A, h⟩ := h
      try simp only [W, c23, c24, c25, c26, c27, p1, p2, p3, p4, p5, p6, p7, p8, p9, p10, p11, p12]
      refine callR (impl_Step.ctr A) ?_
      replace h := ifN h; obtain ⟨c29, h⟩ := h
      replace h := ifN h; obtain ⟨c30, h⟩ := h
      replace h := ifS h; rcases h with ⟨c31, h⟩ | ⟨c31, h⟩
      · replace h := ifN h; obtain ⟨c32, h⟩ := h
        replace h := ifN h; obtain ⟨c33, h⟩ := h
        replace h := ifN h; obtain ⟨c34, h⟩ := h
        try simp only [W, c23, c24, c25, c26, c27, c29, c30, c31, c32, c33, c34, p1, p2, p3, p4, p5, p6, p7, p8, p9, p10, p11, p12]
        exact nextN ((x14.set (t28 : Int).toNat (wrap64 ((rd x14 (rd x15 x16)) + 1))), (x15 ++ [t28]), x16, x17, x18, (wrap64 (x19 + 1)), x20, x21, x22) [(320, 1024)] n2 (by omega) h (by simp only [W, p1, p2, p3, p4, p5, p6, p7, p8, p9, p10, p11, p12] <;> trivial) (by simp only [W, p1, p2, p3, p4, p5, p6, p7, p8, p9, p10, p11, p12] <;> trivial) rfl
      · try simp only [W, c23, c24, c25, c26, c27, c29, c30, c31, p1, p2, p3, p4, p5, p6, p7, p8, p9, p10, p11, p12]
        exact nextN (x14, x15, x16, x17, x18, (wrap64 (x19 + 1)), x20, x21, x22) [] n2 (by omega) h (by simp only [W, p1, p2, p3, p4, p5, p6, p7, p8, p9, p10, p11, p12] <;> trivial) (by simp only [W, p1, p2, p3, p4, p5, p6, p7, p8, p9, p10, p11, p12] <;> trivial) rfl
    · try simp only [W, c23, p1, p2, p3, p4, p5, p6, p7, p8, p9, p10, p11, p12]
      exact nextN (x14, x15, (wrap64 (x16 + 1)), x20, x21, x22) [] n2 (by omega) h (by simp only [W, p1, p2, p3, p4, p5, p6, p7, p8, p9, p10, p11, p12] <;> trivial) (by simp only [W, p1, p2, p3, p4, p5, p6, p7, p8, p9, p10, p11, p12] <;> trivial) rfl
  · cases h
    try simp only [W, c11, p1, p2, p3, p4, p5, p6, p7, p8, p9, p10, p11, p12]
theorem impl_distances.calls (k : Nat) (a0_0 : Int) (a0_1 : Int) (a0_2 : Int) (a1 : Int) (r : List Int) (w : World) (h : impl_distances.f k a0_0 a0_1 a0_2 a1 = some r) :
    Calls Tryz.prog 99 #[.agg #[.int .i64 a0_0, .int .i64 a0_1, .int .i64 a0_2], .int .i64 a1] w fun e w' => ∃ v0_ : Value, e = .returned (v0_) ∧ Kd.R (Kd.int .i64) 3 w' w.heap.size (fun _ => True) v0_ r ∧ Below w.heap.size w w' := by
  refine ((impl_distances.ctr h).2 w [.agg #[.int .i64 a0_0, .int .i64 a0_1, .int .i64 a0_2], .int .i64 a1] (by simp only [RepL, Rep]; exact ⟨_, _, rfl, ⟨_, rfl, _, _, rfl, rfl, _, _, rfl, rfl, _, _, rfl, rfl, rfl⟩, _, _, rfl, rfl, rfl⟩)).mono ?_
  rintro _ _ ⟨y, L, rfl, hR, _, hb⟩
  simp only [RepR] at hR
  exact ⟨y, rfl, R_of_row E_eI hR.1, hb⟩
def keptI (p : Int → Bool) (xs : List Int) (j : Nat) : List Int := (xs.take j).filter fun x => !p x
theorem keptI_succ (p : Int → Bool) (xs : List Int) (j : Nat) (hj : j < xs.length) : keptI p xs (j + 1) = if p (xs.getD j 0) then keptI p xs j else keptI p xs j ++ [xs.getD j 0] := by
  unfold keptI
  have e : xs.getD j 0 = xs[j] := by rw [List.getD_eq_getElem?_getD, List.getElem?_eq_getElem hj]; rfl
  rw [List.take_add_one, List.getElem?_eq_getElem hj, List.filter_append, e]
  cases h : p xs[j] <;> simp [h]
set_option maxHeartbeats 2000000 in
set_option maxRecDepth 100000 in
theorem slices_DeleteFunc_int.calls (p : Int → Bool) (g : Nat) (lb : Array Value) (eg : ∀ args w, (callFunc g args).run Tryz.prog w = .ok (.enter g args) w) (b cap : Nat) (xs : List Int) (cur : List Value) (w : World)
  (hb : w.heap[b]? = some (.cells cur.toArray 3 (0, 0))) (hl : cur.length = cap) (hn : xs.length ≤ cap) (hm : cap ≤ maxLen) (hx : ∀ j, j < xs.length → cur[j]? = some (.int .i64 (xs.getD j 0)))
  (hp : ∀ (W : World) (x : Int), x ∈ xs → w.grownBy W (some b) → Calls Tryz.prog g (#[.int .i64 x] ++ lb) W fun e w' => e = .returned (.bool (p x)) ∧ Below W.heap.size W w') :
  Calls Tryz.prog 158 #[.slice (some ⟨b, 0, none⟩) xs.length cap, .func (.func g) #[] lb] w fun e w' =>
   ∃ cur' : List Value, e = .returned (.slice (some ⟨b, 0, none⟩) (xs.filter fun x => !p x).length cap) ∧ w'.heap[b]? = some (.cells cur'.toArray 3 (0, 0)) ∧ cur'.length = cap ∧
    (∀ j, j < (xs.filter fun x => !p x).length → cur'[j]? = some (.int .i64 ((xs.filter fun x => !p x).getD j 0))) ∧ w.grownBy w' (some b) := by
 have hC : Kd.C (Kd.int .i64) w (some ⟨b, 0, none⟩) xs.length xs := by
  refine Kd.C_of_reads (d := (0 : Int)) (h1 := fun _ => rfl) ?_
  refine ⟨rfl, ?_, fun _ => ⟨⟨b, 0, none⟩, rfl, fun j hj => ?_⟩⟩
  ·have : maxLen = 9223372036854775807 := rfl
   omega
  ·rw [add_plain]
   exact ((kC hb j).trans (by simp)).trans (hx j hj)
 have hI := slices_IndexFunc_int.calls p g lb eg (some ⟨b, 0, none⟩) cap xs w hC (fun W x hxm hbel => (hp W x hxm (grown_below (grown_refl w _) hbel)).mono fun e w' ⟨h1, h2⟩ => ⟨h1, hbel.trans (h2.mono hbel.size)⟩)
 have hn63 : xs.length ≤ 9223372036854775807 := Nat.le_trans hn (Nat.le_trans hm (by decide))
 have HP := aK hp
 have HX := aK hx
 have HB := aK hb
 have HN := aK hn
 have HM := aK hm
 have HL := aK hl
 clear hp hC
 cases hf : xs.findIdx? p with
 | none =>
  have hno : ∀ x ∈ xs, p x = false := fun x hx => by simpa using (List.findIdx?_eq_none_iff.1 hf) x hx
  have e1 : idxF p xs = -1 := by unfold idxF; rw [hf]
  have e2 : (xs.filter fun x => !p x) = xs := List.filter_eq_self.2 fun x hx => by rw [hno x hx]; rfl
  rw [e1] at hI
  rw [e2]
  clear hb hx hn hm hl
  go_enter Tryz.func158, Tryz.ntmps158
  go_wp2_with (go_at_call 156; refine hI.mono ?_; rintro e w' ⟨rfl, hb'⟩; have HB' := aK hb'; clear hb')
  go_ret
  exact ⟨cur, rfl, (HB'.out.block b (blk_lt HB.out)).trans HB.out, HL.out, HX.out, grown_below (grown_refl w _) HB'.out⟩
 | some k0 =>
  obtain ⟨hk0, hpk, hlow⟩ := List.findIdx?_eq_some_iff_getElem.1 hf
  have e1 : idxF p xs = (k0 : Int) := by unfold idxF; rw [hf]
  rw [e1] at hI
  have hne1 : ((k0 : Int) == -1) = false := beq_eq_false_iff_ne.2 (by omega)
  have hkl : ∀ t, t ≤ k0 → keptI p xs t = xs.take t := fun t ht => by
   unfold keptI
   refine List.filter_eq_self.2 fun x hx => ?_
   obtain ⟨q, hq, rfl⟩ := List.getElem_of_mem hx
   rw [List.length_take] at hq
   rw [List.getElem_take]
   have := hlow q (by omega)
   simpa using this
  have hk1 : keptI p xs (k0 + 1) = xs.take k0 := by
   rw [keptI_succ p xs k0 hk0, show xs.getD k0 0 = xs[k0] by rw [List.getD_eq_getElem?_getD, List.getElem?_eq_getElem hk0]; rfl, hpk, if_pos rfl, hkl k0 (Nat.le_refl _)]
  have HK1 := aK hk1
  have HK0 := aK hk0
  clear hb hx hn hm hl hk1 hkl hlow hpk hf e1
  go_enter Tryz.func158, Tryz.ntmps158
  go_wp2_with (go_at_call 156; refine hI.mono ?_; rintro e w' ⟨rfl, hb'⟩; have HB' := aK hb'; clear hb')
  go_loopg [5, 6, 7] xs.length (fun gg s5 s6 _ wr => ∃ (i j : Nat) (c2 : List Value), s5 = .int .i64 i ∧ s6 = .int .i64 j ∧ i < j ∧ j ≤ xs.length ∧ xs.length - j ≤ gg ∧ Aside0 (i = (keptI p xs j).length) ∧ Aside0 (wr.heap[b]? = some (.cells c2.toArray 3 (0, 0))) ∧ Aside0 (c2.length = cap) ∧ Aside0 (∀ t, t < i → c2[t]? = some (.int .i64 ((keptI p xs j).getD t 0))) ∧ Aside0 (∀ t, j ≤ t → t < xs.length → c2[t]? = some (.int .i64 (xs.getD t 0))) ∧ Aside0 (w.grownBy wr (some b)))
  case atStart =>
   have hk := HK0.out
   refine ⟨k0, k0 + 1, cur, rfl, by go_num, by omega, by omega, by omega, ⟨by rw [HK1.out, List.length_take]; omega⟩, ⟨(HB'.out.block b (blk_lt HB.out)).trans HB.out⟩, HL, ⟨fun t ht => ?_⟩, ⟨fun t _ ht => HX.out t ht⟩, ⟨grown_below (grown_refl w _) HB'.out⟩⟩
   rw [HX.out t (by omega), HK1.out, List.getD_eq_getElem?_getD, List.getD_eq_getElem?_getD, List.getElem?_take, if_pos ht]
  case round =>
   obtain ⟨i, j, c2, rfl, rfl, hij, hjn, hgg, hil, B2, L2, A2, A3, G2⟩ := hrel
   by_cases hlt : j < xs.length
   ·have hltz : (j : Int) < (xs.length : Int) := by omega
    have hjz : (0 : Int) ≤ (j : Int) := by omega
    have hiz : (0 : Int) ≤ (i : Int) := by omega
    have hilz : (i : Int) < (xs.length : Int) := by omega
    have hmem : xs.getD j 0 ∈ xs := by rw [List.getD_eq_getElem?_getD, List.getElem?_eq_getElem hlt]; exact List.getElem_mem _
    have hcall := HP.out wr (xs.getD j 0) hmem G2.out
    have cj : wr.cell? ⟨b, j, none⟩ = some (.int .i64 (xs.getD j 0)) := ((kC B2.out j).trans (by simp)).trans (A3.out j (Nat.le_refl _) hlt)
    have KS := aK (keptI_succ p xs j hlt)
    generalize hu : xs.getD j 0 = u at cj hcall KS
    have HU := aK hu
    clear hu hmem
    cases hq : p u with
    | false =>
     rw [hq] at hcall
     have HQ := aK hq
     clear hq
     have ho : i < c2.length := by have := L2.out; have := HN.out; omega
     obtain ⟨old, hold⟩ : ∃ old, c2[i]? = some old := ⟨c2[i], List.getElem?_eq_getElem ho⟩
     have HO := aK hold
     clear hold ho
     go_wp2_with (go_at_fn g; refine hcall.mono ?_; rintro e w1 ⟨rfl, hb1⟩; have HB1 := aK hb1; clear hb1; have E1 := aK ((HB1.out.block b (blk_lt B2.out)).trans B2.out); have ci : w1.cell? ⟨b, i, none⟩ = some old := ((kC E1.out i).trans (by simp)).trans HO.out; have fi : w1.frozen? ⟨b, i, none⟩ = false := kF E1.out i)
     go_roundg (xs.length - (j + 1))
     case measure => omega
     case rel =>
      have hk : keptI p xs (j + 1) = keptI p xs j ++ [u] := by rw [KS.out, HQ.out]; rfl
      refine ⟨i + 1, j + 1, c2.set i (.int .i64 u), by go_num, by go_num, by omega, by omega, Nat.le_refl _, ⟨by rw [hk, List.length_append, ← hil.out]; rfl⟩, ⟨blk_put E1.out i _ (by simp)⟩, ⟨by rw [List.length_set]; exact L2.out⟩, ⟨fun t ht => ?_⟩, ⟨fun t h1 h2 => ?_⟩, ⟨grown_set (grown_below G2.out HB1.out) i _⟩⟩
      ·rw [hk, List.getElem?_set]
       by_cases e : i = t
       ·subst e
        rw [if_pos rfl, if_pos (by have := L2.out; have := HN.out; omega), List.getD_eq_getElem?_getD, List.getElem?_append_right (by have := hil.out; omega), ← hil.out]
        simp
       ·rw [if_neg e, A2.out t (by omega), List.getD_eq_getElem?_getD, List.getD_eq_getElem?_getD, List.getElem?_append_left (by have := hil.out; omega)]
      ·rw [List.getElem?_set, if_neg (by omega)]
       exact A3.out t (by omega) h2
    | true =>
     rw [hq] at hcall
     have HQ := aK hq
     clear hq
     go_wp2_with (go_at_fn g; refine hcall.mono ?_; rintro e w1 ⟨rfl, hb1⟩; have HB1 := aK hb1; clear hb1; have E1 := aK ((HB1.out.block b (blk_lt B2.out)).trans B2.out))
     go_roundg (xs.length - (j + 1))
     case measure => omega
     case rel =>
      have hk : keptI p xs (j + 1) = keptI p xs j := by rw [KS.out, HQ.out]; rfl
      exact ⟨i, j + 1, c2, rfl, by go_num, by omega, by omega, Nat.le_refl _, ⟨by rw [hk]; exact hil.out⟩, E1, L2, ⟨by rw [hk]; exact A2.out⟩, ⟨fun t h1 h2 => A3.out t (by omega) h2⟩, ⟨grown_below G2.out HB1.out⟩⟩
   ·have hltz : ¬ (j : Int) < (xs.length : Int) := by omega
    obtain rfl : j = xs.length := by omega
    have hE := B2.out
    have hlc := L2.out
    have hnc := HN.out
    have hmx := HM.out
    have k1 : (i ≤ cap) = True := eq_true (by omega)
    have k2 : (cap = i) = False := eq_false (by omega)
    have k3 : (i ≤ xs.length) = True := eq_true (by omega)
    have hiz : (0 : Int) ≤ (i : Int) := by omega
    have hcl : ∀ ty, (Builtin.clear_ #[26] ty #[.slice (some ⟨b, i, none⟩) (xs.length - i) (cap - i)]).run Tryz.prog wr = .ok (.tuple #[]) (wr.setCells b i (List.replicate (xs.length - i) (.int .i64 0))) :=
     fun ty => Go.Lib.run_clear_slice wr 26 3 ty (.int .i64 0) Tryz.underlying26 (fun w => by first | rfl | kernel_rfl) rfl rfl b i _ _ (by omega) (fun t ht => by rw [kC hE, List.getElem?_toArray, List.getElem?_eq_getElem (by omega)]; rfl) (fun t ht => kF hE _)
    obtain ⟨c3, q1, q2, q3, q4⟩ := setCells_row (w := w) (e := 3) (List.replicate (xs.length - i) (.int .i64 0)) i wr c2 hE (by rw [List.length_replicate]; omega) G2.out
    have Q1 := aK q1
    have Q2 := aK q2
    have Q3 := aK q3
    have Q4 := aK q4
    clear q1 q2 q3 q4 hE hlc hnc hmx
    go_wp2
    go_ret
    have hk : (xs.filter fun x => !p x) = keptI p xs xs.length := by unfold keptI; rw [List.take_length]
    refine ⟨by rw [hk, ← hil.out]; rfl, c3, Q1.out, by rw [Q2.out]; exact L2.out, fun t ht => ?_, Q4.out⟩
    rw [hk] at ht ⊢
    rw [Q3.out t (by have := hil.out; omega)]
    exact A2.out t (by have := hil.out; omega)
set_option maxHeartbeats 8000000 in
set_option maxRecDepth 100000 in
theorem impl_upTo.calls (k : Nat) (a0 : Int) (r : List Int) (w : World) (h : impl_upTo.f k a0 = some r) :
  Calls Tryz.prog 159 #[.int .i64 a0] w fun e w' => ∃ v0_ : Value, e = .returned (v0_) ∧ Kd.R (Kd.int .i64) 3 w' w.heap.size (fun _ => True) v0_ r ∧ Below w.heap.size w w' := by
 have HB := aK (Below.refl w.heap.size w)
 have H : (impl_upTo.l0 k a0 ([] : List Int) 0) = some r := h
 clear h
 have H' := aK H
 clear H
 go_enter Tryz.func159, Tryz.ntmps159
 go_wp2
 go_loopg [3, 4] k (fun kq v3 v4 w' => ∃ (x3_1 : List Int) (x4_1 : Int), v4 = .int .i64 x4_1 ∧ Aside0 (impl_upTo.l0 kq a0 x3_1 x4_1 = some r) ∧ Aside0 (kq ≤ k) ∧ Aside0 (Kd.R (Kd.int .i64) 3 w' w.heap.size (fun _ => True) v3 x3_1) ∧ Aside0 (Below w.heap.size w w'))
 case atStart => exact ⟨(([] : List Int)), (0), (by first | rfl | (simp; done) | (simp [*]; done)), H', ⟨Nat.le_refl _⟩, ⟨by first | exact Kd.R_nil _ _ _ _ _ | exact Kd.N_nil _ _ _ _ _ | exact Kd.V_nil _ _ _ _ _ | exact Kd.Q_nil _ _ _ _ _ | exact Kd.S_nil _ _ _ _ _⟩, ⟨zH0 HB⟩⟩
 case round =>
  clear H'
  try clear c1
  obtain ⟨x3_1, x4_1, rfl, HA, HK1, HO_3, HB⟩ := hrel
  cases gk with
  | zero => exact absurd HA.out (by simp [impl_upTo.l0])
  | succ k1 =>
   have H := HA.out
   clear HA
   simp only [impl_upTo.l0] at H
   by_cases c2 : x4_1 < a0
   ·rw [if_pos c2] at H
    have c2b0 : decide (x4_1 < a0) = true := decide_eq_true c2
    clear c2
    by_cases c3 : x3_1.length < 17592186044416
    ·rw [if_pos c3] at H
     have LMc3 := aK c3
     clear c3
     obtain ⟨y374, hy374⟩ : ∃ y_ : List Int, y_ = (x3_1 ++ [x4_1]) := ⟨_, rfl⟩
     replace H : (impl_upTo.l0 k1 a0 y374 (wrap64 (x4_1 + 1))) = some r := by first | (rw [hy374]; with_reducible exact H) | (have H2_ := (Option.bind_some _ _).symm.trans H; rw [hy374]; with_reducible exact H2_) | (have H2_ := (Option.bind_some _ _).symm.trans H; with_reducible exact H2_) | with_reducible exact H | (rw [hy374]; exact H) | exact H
     have Ny374 := aK hy374
     clear hy374
     have H' := aK H
     clear H
     go_wp2_with (first | ((with_reducible refine gate_builtin (b := .append) (xs := #[.tmp 10, .tmp 12]) rfl ?_); at_builtin; refine Kd.R_append (Kd.int .i64) (w0 := w) w.heap.size rfl (.tmp 10) (.tmp 12) 26 3 (.int .i64 0) 8 rfl Tryz.underlying26 info3 rfl (by decide) (by omega) u3 x3_1 x4_1 [.int .i64 x4_1] (fun _ => True) (fun _ => False) rfl rfl ?aP (fun _ hk => hk.elim) ?aF ?aO ?aB ?aS ?aL ?_; (case aP => exact rfl); (case aB => exact (zH0 HB)); (case aF => exact (fun _ _ => trivial)); (case aO => exact (zA HO_3)); (case aS => exact (bSz (zH0 HB))); (case aL => have := LMc3.out; omega); intro v375 w4 ho hb hg hat; rw [← Ny374.out] at ho; have n0_ := aK (hb); have n1_ := aK (ho); clear HB; clear HO_3; have HB := n0_; have HO376 := n1_; clear n0_ n1_; clear ho hb hg hat))
     go_roundg k1
     case measure => have := HK1.out; omega
     case rel => exact ⟨(y374), (wrap64 (x4_1 + 1)), (by first | rfl | (simp; done) | (simp [*]; done)), H', ⟨by have := HK1.out; omega⟩, ⟨zA HO376⟩, ⟨zH0 HB⟩⟩
    ·rw [if_neg c3] at H
     exact absurd H (by simp)
   ·rw [if_neg c2] at H
    have c2b0 : decide (x4_1 < a0) = false := decide_eq_false c2
    clear c2
    obtain rfl := Option.some.inj H
    go_wp2
    go_ret
    exact ⟨_, by first | rfl | (simp [errW_none, errW_some] <;> rfl) | (simp [*, errW_none, errW_some] <;> rfl), by (with_reducible repeat (first | apply Kd.R_alloc | apply Kd.R_drewN | apply Kd.R_drew)); exact HO_3.out, by repeat (first | (with_reducible first | exact HB.out | apply bAl | apply bDN | apply bD1) | exact HB.out)⟩
set_option maxHeartbeats 2000000 in
theorem impl_Reached_1.calls (B g cap : Nat) (cur : List Value) (far : List Int) (W : World) (hB : W.heap[B]? = some (.cells #[.slice (some ⟨g, 0, none⟩) far.length cap] 26 (0, 0))) (hg : W.heap[g]? = some (.cells cur.toArray 3 (0, 0))) (hx : ∀ j, j < far.length → cur[j]? = some (.int .i64 (far.getD j 0))) (hn : far.length ≤ 9223372036854775807) (x : Int) (h0 : 0 ≤ x) (h1 : x < far.length) :
  Calls Tryz.prog 160 #[.int .i64 x, .pointer (some ⟨B, 0, none⟩)] W fun e w' => e = .returned (.bool (decide (rd far x < 0))) ∧ Below W.heap.size W w' := by
 obtain ⟨j, rfl⟩ : ∃ j : Nat, (j : Int) = x := ⟨x.toNat, by omega⟩
 have hj : j < far.length := by omega
 have c0 : W.cell? ⟨B, 0, none⟩ = some (.slice (some ⟨g, 0, none⟩) far.length cap) := (kC hB 0).trans rfl
 have c1 : W.cell? ⟨g, j, none⟩ = some (.int .i64 (rd far (j : Int))) := by
  rw [rd_nat]; exact ((kC hg j).trans (by simp)).trans (hx j hj)
 clear hB hg hx
 generalize rd far (j : Int) = y at c1 ⊢
 go_enter Tryz.func160, Tryz.ntmps160
 go_wp2
 go_ret
 exact ⟨rfl, Below.refl _ _⟩
set_option maxHeartbeats 4000000 in
set_option maxRecDepth 100000 in
theorem impl_Reached.calls (a0_0 a0_1 a0_2 a1 : Int) (r : List Int) (w : World) (h : impl_Reached.f a0_0 a0_1 a0_2 a1 = some r) :
  Calls Tryz.prog 137 #[.agg #[.int .i64 a0_0, .int .i64 a0_1, .int .i64 a0_2], .int .i64 a1] w fun e w' => ∃ v0_ : Value, e = .returned (v0_) ∧ Kd.R (Kd.int .i64) 3 w' w.heap.size (fun _ => True) v0_ r ∧ Below w.heap.size w w' := by
 have hu := Tryz.underlying34
 have hul := Tryz.underlying26
 obtain ⟨b, hm, H⟩ := Option.bind_eq_some_iff.mp h
 clear h
 have HI := fun (W : World) (A : Addr) (hA : W.cell? A = some (.int .i64 a1)) => impl_isIn.calls a0_0 a0_1 a0_2 (some A) 1 [a1] b W (Kd.C_of_reads (d := (0 : Int)) (h1 := fun _ => rfl) ⟨rfl, by simp, fun _ => ⟨A, rfl, fun j hj => by
  obtain rfl : j = 0 := by simpa using hj
  rw [show A.add 0 = A from by unfold Addr.add; split <;> simp_all]
  exact hA⟩⟩) (Nat.le_refl 1) hm
 simp only [List.length_singleton] at HI
 cases b with
 | false =>
  rw [if_neg Bool.false_ne_true] at H
  obtain rfl := Option.some.inj H
  go_enter Tryz.func137, Tryz.ntmps137
  go_wp2_with (go_at_call 98; refine (HI _ _ ?hA).mono ?_; (case hA => exact (kC (heap_new2 _ _ _) 0).trans rfl); rintro e w' ⟨rfl, hb⟩; have HB := aK hb; clear hb)
  go_ret
  exact ⟨_, rfl, Kd.R_nil _ _ _ _ _, (((Below.refl _ w).alloc (Nat.le_refl _) _).alloc (by simp) _).trans (HB.out.mono (by simp; omega))⟩
 | true =>
  rw [if_pos rfl] at H
  obtain ⟨far, hd, H2⟩ := Option.bind_eq_some_iff.mp H
  clear H
  by_cases hfar : 0 < far.length
  ·rw [if_pos hfar] at H2
   obtain ⟨u, hup, H3⟩ := Option.bind_eq_some_iff.mp H2
   clear H2
   by_cases hall : (u.all fun x => decide (0 ≤ x ∧ x < far.length)) = true ∧ 0 < u.length
   ·rw [if_pos hall] at H3
    obtain rfl := Option.some.inj H3
    have eg : ∀ args w, (callFunc 160 args).run Tryz.prog w = .ok (.enter 160 args) w := enters_of Tryz.func160 (by kernel_rfl) rfl
    have HP : ∀ (w1 w3 : World) (g cap gu : Nat) (cur : List Value), Below (w1.alloc (Obj.cells #[Value.slice (some ⟨g, 0, none⟩) far.length cap] 26)).heap.size (w1.alloc (Obj.cells #[Value.slice (some ⟨g, 0, none⟩) far.length cap] 26)) w3 → w1.heap[g]? = some (.cells cur.toArray 3 (0, 0)) → (∀ j, j < far.length → cur[j]? = some (.int .i64 (far.getD j 0))) → (w1.alloc (Obj.cells #[Value.slice (some ⟨g, 0, none⟩) far.length cap] 26)).heap.size ≤ gu → cap ≤ maxLen → far.length ≤ cap →
      ∀ (W : World) (x : Int), x ∈ u → w3.grownBy W (some gu) → Calls Tryz.prog 160 (#[.int .i64 x] ++ #[.pointer (some ⟨w1.heap.size, 0, none⟩)]) W fun e w' => e = .returned (.bool (decide (rd far x < 0))) ∧ Below W.heap.size W w' := by
     intro w1 w3 g cap gu cur h3 hg hc hu0 hcm hcap W x hx hG
     have hs0 : ∀ (W : World) (o : Obj), (W.alloc o).heap.size = W.heap.size + 1 := fun W o => by simp
     have hsz := h3.size
     have hgl := blk_lt hg
     rw [hs0] at hsz hu0
     have hx2 := List.all_eq_true.1 hall.1 x hx
     simp only [decide_eq_true_eq] at hx2
     exact impl_Reached_1.calls w1.heap.size g cap cur far W ((hG.block _ (by omega) (fun e => by have := Option.some.inj e; omega)).trans ((h3.block _ (by rw [hs0]; omega)).trans (heap_alloc_new w1 _))) ((hG.block _ (by omega) (fun e => by have := Option.some.inj e; omega)).trans ((h3.block _ (by rw [hs0]; omega)).trans (kA hg _))) hc (Nat.le_trans hcap (Nat.le_trans hcm (by decide))) x hx2.1 hx2.2
    have HALL := aK hall
    have HFAR := aK hfar
    clear H3 hall hfar
    go_enter Tryz.func137, Tryz.ntmps137
    go_wp2_with (first | (go_at_call 98; refine (HI _ _ ?hA).mono ?_; (case hA => exact (kC (heap_new2 _ _ _) 0).trans rfl); rintro e w0 ⟨rfl, hb⟩; have HB := aK hb; have c0 : w0.cell? ⟨w.heap.size, 0, none⟩ = some (.int .i64 a0_0) := (kC ((HB.out.block w.heap.size (by simp; omega)).trans (kA (heap_alloc_new w _) _)) 0).trans rfl; have c1 : w0.cell? ⟨w.heap.size, 1, none⟩ = some (.int .i64 a0_1) := (kC ((HB.out.block w.heap.size (by simp; omega)).trans (kA (heap_alloc_new w _) _)) 1).trans rfl; have c2 : w0.cell? ⟨w.heap.size, 2, none⟩ = some (.int .i64 a0_2) := (kC ((HB.out.block w.heap.size (by simp; omega)).trans (kA (heap_alloc_new w _) _)) 2).trans rfl; clear hb) | (go_at_call 99; refine (impl_distances.calls 1000 _ _ _ _ far _ hd).mono ?_; rintro e w1 ⟨v, rfl, hR, hB1⟩; have HR1 := aK hR; have HB1 := aK hB1; clear hR hB1; obtain ⟨g, cap, cur, rfl, hcap, hg0, hgh, hcl, hcm, hcx⟩ := row_open HR1.out HFAR.out; have HC1 := aK hcap; have HG0 := aK hg0; have HGH := aK hgh; have HCL := aK hcl; have HCM := aK hcm; have HCX := aK hcx; clear hcap hg0 hgh hcl hcm hcx) | (go_at_call 159; refine (impl_upTo.calls 1000 _ u _ hup).mono ?_; rintro e w3 ⟨v, rfl, hR, hB3⟩; have HB3 := aK hB3; have HR3 := aK hR; clear hR hB3; obtain ⟨gu, capu, curu, rfl, hcapu, hgu0, hguh, hul2, hum, hux⟩ := row_open HR3.out HALL.out.2; have HCU := aK hcapu; have HU0 := aK hgu0; have HUH := aK hguh; have HUL := aK hul2; have HUM := aK hum; have HUX := aK hux; clear hcapu hgu0 hguh hul2 hum hux) | (go_at_call 158; refine (slices_DeleteFunc_int.calls (fun x => decide (rd far x < 0)) 160 #[.pointer (some ⟨w1.heap.size, 0, none⟩)] eg gu capu u curu _ HUH.out HUL.out HCU.out HUM.out HUX.out ?hp).mono ?_; (case hp => exact HP w1 w3 g cap gu cur HB3.out HGH.out HCX.out HU0.out HCM.out HC1.out); rintro e w4 ⟨cur4, rfl, h41, h42, h43, h44⟩; have H41 := aK h41; have H42 := aK h42; have H43 := aK h43; have H44 := aK h44; clear h41 h42 h43 h44))
    go_ret
    refine ⟨_, rfl, row_close (cur := cur4) ?_ H41.out ?_ HUM.out H42.out H43.out, ?_⟩
    ·have h1 := HU0.out; have h2 := HB1.out.size; have h3 := HB.out.size; simp at h1 h3; omega
    ·exact Nat.le_trans (List.length_filter_le _ _) HCU.out
    ·refine ((((((Below.refl _ w).alloc (Nat.le_refl _) _).alloc (by simp) _).trans (HB.out.mono (by simp; omega))).trans (HB1.out.mono ?_)).alloc ?_ _).trans (HB3.out.mono ?_) |>.grown H44.out ?_ ?_
     all_goals first
      | (have h2 := HB1.out.size; have h3 := HB.out.size; have h4 := HB3.out.size; have h5 := HU0.out; simp at h3 h4 h5 ⊢; omega)
      | (intro j hj; cases hj; have h2 := HB1.out.size; have h3 := HB.out.size; have h5 := HU0.out; simp at h3 h5; omega)
   ·rw [if_neg hall] at H3; exact absurd H3 (by simp)
  ·rw [if_neg hfar] at H2; exact absurd H2 (by simp)
theorem impl_Reached.ctr {a0_0 : Int} {a0_1 : Int} {a0_2 : Int} {a1 : Int} {r : List Int} (h : impl_Reached.f a0_0 a0_1 a0_2 a1 = some r) : Ctr Tryz.prog 137 [.ag [.v (.int .i64 a0_0), .v (.int .i64 a0_1), .v (.int .i64 a0_2)], .v (.int .i64 a1)] (.ow 3 1 (r.map eI)) := by
  refine ⟨enters_of Tryz.func137 rfl rfl, fun w ys hys => ?_⟩
  simp only [RepL, Rep] at hys
  obtain ⟨_, _, rfl, ⟨_, rfl, _, _, rfl, rfl, _, _, rfl, rfl, _, _, rfl, rfl, rfl⟩, _, _, rfl, rfl, rfl⟩ := hys
  refine (impl_Reached.calls _ _ _ _ _ w h).mono ?_
  rintro _ _ ⟨v, rfl, hv, hb⟩
  exact ⟨v, (bk v).toList, rfl, by simp only [RepR]; exact ⟨row_of_R E_eI hv, E_eI.row _, E_eI.pos, trivial⟩, by cases bk v <;> simp, hb⟩
end Go.Proofs.YtkindoepnganmaaGreat.F
end

section
namespace Go.Proofs.YtkindoepnganmaaGreat.F
open Go.RowKit Go.Proofs.YtkindoepnganmaaGreatW.PrintWords Go.Proofs.YtkindoepnganmaaGreatW.PrintLast Go.Proofs.YtkindoepnganmaaGreatW.PrintMore
set_option linter.unusedVariables false
set_option linter.unusedSimpArgs false
attribute [local go_sem] max2_int min2_int max_two min_two
set_option maxRecDepth 20000
set_option maxHeartbeats 4000000
open Nat renaming reduceAdd → p1, reduceSub → p2, reduceMul → p3, reduceDiv → p4, reduceBNe → p5, reduceBEq → p6, reduceEqDiff → p7, reduceLeDiff → p8, reduceLT → p9
open Int renaming reduceLE → p10, reduceLT → p11, reduceEq → p12
theorem impl_CountParts.ctr {k : Nat} {a0_0 : Int} {a0_1 : Int} {a0_2 : Int} {r : Int} (h : impl_CountParts.f k a0_0 a0_1 a0_2 = some r) : Ctr Tryz.prog 96 [.ag [.v (.int .i64 a0_0), .v (.int .i64 a0_1), .v (.int .i64 a0_2)]] (.v (.int .i64 r)) := by
  refine Ctr_of tyOk hm Tryz.func96 rfl rfl (by kernel_rfl) (n := 20) (rv := [.tmp 2]) rfl rfl ?_
  simp only [W, List.replicate]
  unfold impl_CountParts.f at h
  try simp only [W, p1, p2, p3, p4, p5, p6, p7, p8, p9, p10, p11, p12]
  refine loopN (fun x : Int × Int × Int × Int × Int => [.u, .bp 16 0, .u, .v (.int .i64 x.1), .v (.int .i64 x.2.1), .u, .u, .u, .u, .u, .u, .u, .u, .u, .u, .u, .u, .u, .u, .u, .u]) (fun x => [(16, .box 34 [.v (.int .i64 x.2.2.1), .v (.int .i64 x.2.2.2.1), .v (.int .i64 x.2.2.2.2)])]) (fun n x => impl_CountParts.l0 n x.1 x.2.1 x.2.2.1 x.2.2.2.1 x.2.2.2.2 = some r) (0, 0, a0_0, a0_1, a0_2) [] h (by simp only [W, p1, p2, p3, p4, p5, p6, p7, p8, p9, p10, p11, p12] <;> trivial) (by simp only [W, p1, p2, p3, p4, p5, p6, p7, p8, p9, p10, p11, p12] <;> trivial) rfl (fun _ h => by cases h) ?_
  intro n1 ⟨x1, x2, x3, x4, x5⟩ _ h
  simp only [impl_CountParts.l0] at h
  replace h := bnd h; obtain ⟨t6, A, h⟩ := h
  try simp only [W, p1, p2, p3, p4, p5, p6, p7, p8, p9, p10, p11, p12]
  refine callR (impl_isIn.ctr A) ?_
  replace h := ifT h; rcases h with ⟨rfl, h⟩ | ⟨rfl, h⟩
  · replace h := bnd h; obtain ⟨t8, A, h⟩ := h
    try simp only [W, p1, p2, p3, p4, p5, p6, p7, p8, p9, p10, p11, p12]
    refine callR (impl_Reached.ctr A) ?_
    replace h := ifN h; obtain ⟨c9, h⟩ := h
    replace h := ifS h; rcases h with ⟨c10, h⟩ | ⟨c10, h⟩
    · try simp only [W, c9, eq_true c10, p1, p2, p3, p4, p5, p6, p7, p8, p9, p10, p11, p12]
      exact nextN ((wrap64 (x1 + 1)), (wrap64 (x2 + 1)), x3, x4, x5) [] n1 (by omega) h (by simp only [W, p1, p2, p3, p4, p5, p6, p7, p8, p9, p10, p11, p12] <;> trivial) (by simp only [W, p1, p2, p3, p4, p5, p6, p7, p8, p9, p10, p11, p12] <;> trivial) rfl
    · try simp only [W, c9, c10, p1, p2, p3, p4, p5, p6, p7, p8, p9, p10, p11, p12]
      exact nextN (x1, (wrap64 (x2 + 1)), x3, x4, x5) [] n1 (by omega) h (by simp only [W, p1, p2, p3, p4, p5, p6, p7, p8, p9, p10, p11, p12] <;> trivial) (by simp only [W, p1, p2, p3, p4, p5, p6, p7, p8, p9, p10, p11, p12] <;> trivial) rfl
  · cases h
    try simp only [W, p1, p2, p3, p4, p5, p6, p7, p8, p9, p10, p11, p12]
theorem impl_IsConnected.ctr {k : Nat} {a0_0 : Int} {a0_1 : Int} {a0_2 : Int} {r : Bool} (h : impl_IsConnected.f k a0_0 a0_1 a0_2 = some r) : Ctr Tryz.prog 49 [.ag [.v (.int .i64 a0_0), .v (.int .i64 a0_1), .v (.int .i64 a0_2)]] (.v (.bool r)) := by
  refine Ctr_of tyOk hm Tryz.func49 rfl rfl (by kernel_rfl) (n := 5) (rv := [.tmp 2]) rfl rfl ?_
  simp only [W, List.replicate]
  unfold impl_IsConnected.f at h
  replace h := bnd h; obtain ⟨t1, A, h⟩ := h
  try simp only [W, p1, p2, p3, p4, p5, p6, p7, p8, p9, p10, p11, p12]
  refine callR (impl_CountParts.ctr A) ?_
  cases h
  try simp only [W, p1, p2, p3, p4, p5, p6, p7, p8, p9, p10, p11, p12]
theorem impl_HedgeOk_1.ctr {a0 : Int} {r : Bool} (h : impl_HedgeOk_1.f a0 = some r) : Ctr Tryz.prog 134 [.v (.int .i64 a0)] (.v (.bool r)) := by
  refine Ctr_of tyOk hm Tryz.func134 rfl rfl (by kernel_rfl) (n := 8) (rv := [.tmp 2]) rfl rfl ?_
  simp only [W, List.replicate]
  unfold impl_HedgeOk_1.f at h
  replace h := ifS h; rcases h with ⟨c1, h⟩ | ⟨c1, h⟩
  · cases h
    try simp only [W, c1, p1, p2, p3, p4, p5, p6, p7, p8, p9, p10, p11, p12]
  · cases h
    try simp only [W, c1, p1, p2, p3, p4, p5, p6, p7, p8, p9, p10, p11, p12]
theorem slices_ContainsFunc_HedgeOk.ctr {l0 : List Int} {r : Bool} (h : slices_ContainsFunc_HedgeOk.f l0 = some r) : Ctr Tryz.prog 133 [.pr 1 (l0.map eI), .v (.func (.func 134) #[] #[])] (.v (.bool r)) := by
  unfold slices_ContainsFunc_HedgeOk.f at h
  injection h with h
  subst h
  refine ⟨enters_of Tryz.func133 rfl rfl, fun w ys hys => ?_⟩
  simp only [RepL, Rep] at hys
  obtain ⟨_, _, rfl, q1, _, _, rfl, rfl, rfl⟩ := hys
  obtain ⟨A, c, rfl, hr, hc⟩ := C_of_at E_eI q1
  refine (slices_ContainsFunc_int.calls (fun x => decide (x < 0) || decide (x > 1000)) 134 #[] (enters_of Tryz.func134 (by kernel_rfl) rfl) A c l0 w hr (fun W x _ hb => ?_)).mono ?_
  · refine ((impl_HedgeOk_1.ctr (a0 := x) (r := decide (x < 0) || decide (x > 1000)) (by unfold impl_HedgeOk_1.f; by_cases h : x < 0 <;> simp [h])).2 W [.int .i64 x] (by simp only [RepL, Rep]; exact ⟨_, _, rfl, rfl, rfl⟩)).mono ?_
    rintro e w' ⟨y, L, rfl, hR, _, hb'⟩
    simp only [RepR] at hR
    obtain ⟨rfl, _⟩ := hR
    exact ⟨rfl, hb.trans (hb'.mono hb.size)⟩
  · rintro e w' ⟨rfl, hb⟩
    exact ⟨_, [], rfl, by simp [RepR], List.nodup_nil, hb⟩
theorem impl_HedgeOk.ctr {a0_0 : Int} {a0_1 : Int} {a0_2 : Int} {l0_3 : List Int} {a0_4 : Int} {r : Bool} (h : impl_HedgeOk.f a0_0 a0_1 a0_2 l0_3 a0_4 = some r) : Ctr Tryz.prog 93 [.ag [.v (.int .i64 a0_0), .v (.int .i64 a0_1), .v (.int .i64 a0_2), .pr 1 (l0_3.map eI), .v (.int .i64 a0_4)]] (.v (.bool r)) := by
  refine Ctr_of tyOk hm Tryz.func93 rfl rfl (by kernel_rfl) (n := 30) (rv := [.tmp 2]) rfl rfl ?_
  simp only [W, List.replicate]
  unfold impl_HedgeOk.f at h
  replace h := bnd h; obtain ⟨t1, A, h⟩ := h
  try simp only [W, p1, p2, p3, p4, p5, p6, p7, p8, p9, p10, p11, p12]
  refine callR (impl_MazeOk.ctr A) ?_
  replace h := ifT h; rcases h with ⟨rfl, h⟩ | ⟨rfl, h⟩
  · replace h := ifS h; rcases h with ⟨c3, h⟩ | ⟨c3, h⟩
    · cases h
      try simp only [W, c3, p1, p2, p3, p4, p5, p6, p7, p8, p9, p10, p11, p12]
    · replace h := ifS h; rcases h with ⟨c4, h⟩ | ⟨c4, h⟩
      · cases h
        try simp only [W, c3, c4, p1, p2, p3, p4, p5, p6, p7, p8, p9, p10, p11, p12]
      · replace h := bnd h; obtain ⟨t5, A, h⟩ := h
        try simp only [W, c3, c4, p1, p2, p3, p4, p5, p6, p7, p8, p9, p10, p11, p12]
        refine callR (impl_CountGaps.ctr A) ?_
        replace h := ifS h; rcases h with ⟨c6, h⟩ | ⟨c6, h⟩
        · replace h := bnd h; obtain ⟨t7, A, h⟩ := h
          try simp only [W, c3, c4, eq_true c6, p1, p2, p3, p4, p5, p6, p7, p8, p9, p10, p11, p12]
          refine callR (slices_ContainsFunc_HedgeOk.ctr A) ?_
          cases h
          try simp only [W, c3, c4, eq_true c6, p1, p2, p3, p4, p5, p6, p7, p8, p9, p10, p11, p12]
        · cases h
          try simp only [W, c3, c4, c6, p1, p2, p3, p4, p5, p6, p7, p8, p9, p10, p11, p12]
  · cases h
    try simp only [W, p1, p2, p3, p4, p5, p6, p7, p8, p9, p10, p11, p12]
theorem impl_with.ctr {a0_0 : Int} {a0_1 : Int} {a0_2 : Int} {a1 : Int} {a2 : Bool} {r1 : Int} {r2 : Int} {r3 : Int} (h : impl_with.f a0_0 a0_1 a0_2 a1 a2 = some (r1, r2, r3)) : Ctr Tryz.prog 97 [.ag [.v (.int .i64 a0_0), .v (.int .i64 a0_1), .v (.int .i64 a0_2)], .v (.int .i64 a1), .v (.bool a2)] (.ag [.v (.int .i64 r1), .v (.int .i64 r2), .v (.int .i64 r3)]) := by
  refine Ctr_of tyOk hm Tryz.func97 rfl rfl (by kernel_rfl) (n := 18) (rv := [.cell 6 34]) rfl rfl ?_
  simp only [W, List.replicate]
  unfold impl_with.f at h
  replace h := ifN h; obtain ⟨c1, h⟩ := h
  replace h := ifT h; rcases h with ⟨rfl, h⟩ | ⟨rfl, h⟩
  · cases h
    try simp only [W, c1, p1, p2, p3, p4, p5, p6, p7, p8, p9, p10, p11, p12]
  · cases h
    try simp only [W, c1, p1, p2, p3, p4, p5, p6, p7, p8, p9, p10, p11, p12]
theorem impl_OpenNow.ctr {k : Nat} {a0_0 : Int} {a0_1 : Int} {a0_2 : Int} {l0_3 : List Int} {a0_4 : Int} {r1 : Int} {r2 : Int} {r3 : Int} (h : impl_OpenNow.f k a0_0 a0_1 a0_2 l0_3 a0_4 = some (r1, r2, r3)) : Ctr Tryz.prog 50 [.ag [.v (.int .i64 a0_0), .v (.int .i64 a0_1), .v (.int .i64 a0_2), .pr 1 (l0_3.map eI), .v (.int .i64 a0_4)]] (.ag [.v (.int .i64 r1), .v (.int .i64 r2), .v (.int .i64 r3)]) := by
  refine Ctr_of tyOk hm Tryz.func50 rfl rfl (by kernel_rfl) (n := 28) (rv := [.cell 2 34]) rfl rfl ?_
  simp only [W, List.replicate]
  unfold impl_OpenNow.f at h
  replace h := bnd h; obtain ⟨t1, A, h⟩ := h
  try simp only [W, p1, p2, p3, p4, p5, p6, p7, p8, p9, p10, p11, p12]
  refine callR (impl_HedgeOk.ctr A) ?_
  replace h := ifT h; rcases h with ⟨rfl, h⟩ | ⟨rfl, h⟩
  · try simp only [W, p1, p2, p3, p4, p5, p6, p7, p8, p9, p10, p11, p12]
    refine loopN (fun x : List Int × Int × Int × Int × Int × Int × List Int × Int × Int × Int × Int × Int × Int × Int => [.u, .bp 16 0, .bp 32 0, .bp 48 0, .u, .u, .u, .u, .u, .u, .bp 16 0, .u, .bp 16 3, .pr 1 (List.map eI x.1), .v (.int .i64 x.2.1), .v (.int .i64 x.2.2.1), .u, .u, .u, .u, .u, .u, .u, .u, .u, .u, .u, .u, .u]) (fun x => [(16, .box 36 [.v (.int .i64 x.2.2.2.1), .v (.int .i64 x.2.2.2.2.1), .v (.int .i64 x.2.2.2.2.2.1), .pr 1 (List.map eI x.2.2.2.2.2.2.1), .v (.int .i64 x.2.2.2.2.2.2.2.1)]), (32, .box 34 [.v (.int .i64 x.2.2.2.2.2.2.2.2.2.2.2.1), .v (.int .i64 x.2.2.2.2.2.2.2.2.2.2.2.2.1), .v (.int .i64 x.2.2.2.2.2.2.2.2.2.2.2.2.2)]), (48, .box 34 [.v (.int .i64 x.2.2.2.2.2.2.2.2.1), .v (.int .i64 x.2.2.2.2.2.2.2.2.2.1), .v (.int .i64 x.2.2.2.2.2.2.2.2.2.2.1)])]) (fun n x => impl_OpenNow.l0 n x.1 x.2.1 x.2.2.1 x.2.2.2.1 x.2.2.2.2.1 x.2.2.2.2.2.1 x.2.2.2.2.2.2.1 x.2.2.2.2.2.2.2.1 x.2.2.2.2.2.2.2.2.1 x.2.2.2.2.2.2.2.2.2.1 x.2.2.2.2.2.2.2.2.2.2.1 = some (r1, r2, r3)) (l0_3, (l0_3.length : Int), 0, a0_0, a0_1, a0_2, l0_3, a0_4, a0_0, a0_1, a0_2, 0, 0, 0) [] h (by simp only [W, p1, p2, p3, p4, p5, p6, p7, p8, p9, p10, p11, p12] <;> trivial) (by simp only [W, p1, p2, p3, p4, p5, p6, p7, p8, p9, p10, p11, p12] <;> trivial) rfl (fun _ h => by cases h) ?_
    intro n1 ⟨x3, x4, x5, x6, x7, x8, x9, x10, x11, x12, x13, y14, y15, y16⟩ _ h
    simp only [impl_OpenNow.l0] at h
    replace h := ifS h; rcases h with ⟨c17, h⟩ | ⟨c17, h⟩
    · replace h := ifN h; obtain ⟨c18, h⟩ := h
      replace h := ifN h; obtain ⟨c19, h⟩ := h
      replace h := ifS h; rcases h with ⟨c20, h⟩ | ⟨c20, h⟩
      · replace h := bnd h; obtain ⟨⟨t21_1, t21_2, t21_3⟩, A, h⟩ := h
        dsimp only at h
        try simp only [W, c17, c18, c19, c20, p1, p2, p3, p4, p5, p6, p7, p8, p9, p10, p11, p12]
        refine callR (impl_with.ctr A) ?_
        try simp only [W, c17, c18, c19, c20, p1, p2, p3, p4, p5, p6, p7, p8, p9, p10, p11, p12]
        exact nextN (x3, x4, (wrap64 (x5 + 1)), x6, x7, x8, x9, x10, t21_1, t21_2, t21_3, y14, y15, y16) [] n1 (by omega) h (by simp only [W, p1, p2, p3, p4, p5, p6, p7, p8, p9, p10, p11, p12] <;> trivial) (by simp only [W, p1, p2, p3, p4, p5, p6, p7, p8, p9, p10, p11, p12] <;> trivial) rfl
      · try simp only [W, c17, c18, c19, c20, p1, p2, p3, p4, p5, p6, p7, p8, p9, p10, p11, p12]
        exact nextN (x3, x4, (wrap64 (x5 + 1)), x6, x7, x8, x9, x10, x11, x12, x13, y14, y15, y16) [] n1 (by omega) h (by simp only [W, p1, p2, p3, p4, p5, p6, p7, p8, p9, p10, p11, p12] <;> trivial) (by simp only [W, p1, p2, p3, p4, p5, p6, p7, p8, p9, p10, p11, p12] <;> trivial) rfl
    · cases h
      try simp only [W, c17, p1, p2, p3, p4, p5, p6, p7, p8, p9, p10, p11, p12]
  · cases h
    try simp only [W, p1, p2, p3, p4, p5, p6, p7, p8, p9, p10, p11, p12]
set_option maxHeartbeats 4000000 in
set_option maxRecDepth 100000 in
theorem slices_Clone_int.calls (A0 : Option Addr) (c0 : Nat) (l0 : List Int) (r : List Int) (w : World) (hr0 : Kd.C (Kd.int .i64) w A0 l0.length l0) (hc0 : l0.length ≤ c0) (h : slices_Clone_int.f l0 = some r) :
  Calls Tryz.prog 114 #[.slice A0 l0.length c0] w fun e w' => ∃ v0_ : Value, e = .returned (v0_) ∧ Kd.R (Kd.int .i64) 3 w' w.heap.size (fun _ => True) v0_ r ∧ Below w.heap.size w w' := by
 unfold slices_Clone_int.f at h
 by_cases hl : l0.length < 17592186044416
 ·rw [if_pos hl] at h
  obtain rfl := Option.some.inj h
  have hle := aK (show (([] : List Int).length + l0.length) * 8 ≤ 140737488355328 by simp; omega)
  clear h hl hc0
  have hnil : ∀ (w : World) (a : Option Addr) (n c n' c' : Nat), (binOp .eql 26 (.slice a n c) (.slice none n' c')).run Tryz.prog w = .ok (.bool a.isNone) w := fun w a n c n' c' => Go.Lib.run_eql_slice_nil w _ _ a n c n' c' Tryz.underlying26
  cases A0 with
  | none =>
   have h0 : l0 = [] := by
    rcases Nat.eq_zero_or_pos l0.length with h0 | h0
    ·exact List.eq_nil_of_length_eq_zero h0
    ·obtain ⟨ad, e, _⟩ := hr0.2.2 h0
     cases e
   subst h0
   clear hr0
   go_enter Tryz.func114, Tryz.ntmps114
   go_wp2
   go_ret
   exact ⟨_, rfl, Kd.R_nil _ _ _ _ _, Below.refl _ _⟩
  | some ad =>
   have HR := aK hr0
   clear hr0
   go_enter Tryz.func114, Tryz.ntmps114
   go_wp2_with (first | ((with_reducible refine gate_dst (N := 5) rfl ?_); refine Kd.R_lit (Kd.int .i64) (w0 := w) w.heap.size 3 ?hg (N := 5) ?hd (xs := ([] : List Int)) (inner := []) (ok := fun _ => True) (okp := fun _ => True) ?hr ?hp (fun _ hk => hk) trivial (Below.refl _ _) (Nat.le_refl _) (by simp) ?_; (case hd => rfl); (case hg => rfl); (case hr => first | (go_simp; done) | (go_simp; rfl)); (case hp => exact (Reps.none _ _)); intro v1 w1 ho hb hg_ hnew_; have HO := aK ho; have HB := aK hb; have HV := aK hnew_; clear hg_ hnew_ ho hb) | (at_builtin; refine Kd.R_append_rows (Kd.int .i64) (w0 := w) w.heap.size rfl (.tmp 5) (.tmp 6) 26 3 (.int .i64 0) 8 rfl Tryz.underlying26 info3 rfl (by decide) (by omega) v1 [] l0 (some ad) l0.length c0 (fun _ => True) (fun _ => False) rfl rfl HO.out (Kd.C_below HR.out HB.out) (fun _ _ h => h) (fun _ h => h.elim) (fun _ _ => trivial) HB.out HB.out.size hle.out ?_; intro v2 w2 ho2 hb2 hg2 hat2; rw [List.nil_append] at ho2; have HO2 := aK ho2; have HB2 := aK hb2; clear ho2 hb2 hg2 hat2))
   go_ret
   exact ⟨_, rfl, HO2.out, HB2.out⟩
 ·rw [if_neg hl] at h
  exact absurd h (by simp)
theorem slices_Clone_int.ctr {l0 : List Int} {r : List Int} (h : slices_Clone_int.f l0 = some r) : Ctr Tryz.prog 114 [.pr 1 (l0.map eI)] (.ow 3 1 (r.map eI)) := by
  refine ⟨enters_of Tryz.func114 rfl rfl, fun w ys hys => ?_⟩
  simp only [RepL, Rep] at hys
  obtain ⟨_, _, rfl, q1, rfl⟩ := hys
  obtain ⟨_, _, rfl, hr1, hc1⟩ := C_of_at E_eI q1
  refine (slices_Clone_int.calls _ _ _ _ w hr1 hc1 h).mono ?_
  rintro _ _ ⟨v, rfl, hv, hb⟩
  exact ⟨v, (bk v).toList, rfl, by simp only [RepR]; exact ⟨row_of_R E_eI hv, E_eI.row _, E_eI.pos, trivial⟩, by cases bk v <;> simp, hb⟩
theorem grownBy_two {w w1 w2 : World} {g : Option Nat} (h : w.grownBy w1 g) (k : w1.grownBy w2 g) : w.grownBy w2 g :=
  ⟨k.os.trans h.os, k.tape.trans h.tape, k.output.trans h.output, Nat.le_trans h.size k.size, fun i hi hn => (k.block i (Nat.lt_of_lt_of_le hi h.size) hn).trans (h.block i hi hn)⟩
theorem flat_eI (l : List Int) : (l.map eI).flatten = l.map (Value.int .i64) := by
  induction l with
  | nil => rfl
  | cons x l ih => rw [List.map_cons, List.flatten_cons, ih]; rfl
theorem compact_le (zs : List Int) : (Go.Lib.compact zs).length ≤ zs.length := by
  unfold Go.Lib.compact Go.Lib.compactUpTo
  rw [List.length_map]
  exact Nat.le_trans (List.length_filter_le _ _) (by simp)
set_option maxHeartbeats 4000000 in
open Go.Sort in
theorem impl_ordered.turn {l0 r : List Int} (h : impl_ordered.f l0 = some r) : CtrT Tryz.prog 157 3 1 (l0.map eI) [] (r.map eI) := by
 unfold impl_ordered.f at h
 obtain ⟨hl, hr⟩ := ifN h
 injection hr with hr
 refine ⟨enters_of Tryz.func157 rfl rfl, fun x hx => ?_, fun w B y hB ho => ?_⟩
 ·obtain ⟨z, _, rfl⟩ := List.mem_map.1 hx
  exact ⟨rfl, fun u hu => by simp [eI] at hu; subst hu; rfl⟩
 simp only [vluL]
 rw [List.length_map, flat_eI] at ho
 rw [List.length_map, flat_eI]
 generalize hm : l0.mergeSort (fun x y => decide (x ≤ y)) = ms at hr
 have hml : ms.length = l0.length := by rw [← hm]; exact List.length_mergeSort l0
 rcases ho.2 with ⟨rfl, h0⟩ | ⟨g, cap, cur, rfl, h1, h2, h3, h4, h5, h6⟩
 ·obtain rfl : l0 = [] := List.eq_nil_of_length_eq_zero h0
  obtain rfl : ms = [] := List.eq_nil_of_length_eq_zero hml
  obtain rfl : r = [] := by rw [← hr]; rfl
  clear h hm ho hl
  go_enter Tryz.func157, Tryz.ntmps157
  go_wp2_with (first | (go_at_call 164; refine (Any.slices_Sort_int_none Tryz.lays189 none 0 _).mono ?_; rintro e w' ⟨rfl, rfl⟩) | (go_at_call 165; refine (Any.slices_Compact_int_empty Tryz.lays2020 none 0 _).mono ?_; rintro e w' ⟨rfl, rfl⟩))
  go_ret
  exact ⟨_, rfl, World.ownsRow_nil _ _ _ _, World.grownBy.refl _ _, fun k hk => by cases hk⟩
 ·rw [Nat.mul_one] at h6
  have hg : g < w.heap.size := (Array.getElem?_eq_some_iff.1 h2).1
  have hS := Any.slices_Sort_int Tryz.lays189 g 0 cap l0 w (holds_of_blockI h2 h6) hg hl
  rw [hm] at hS
  have hsz : ms.length ≤ cur.size := by rw [hml, h5, Nat.mul_one]; exact h3
  have hC : ∀ n os, Calls Tryz.prog 165 #[.slice (some ⟨g, 0, none⟩) l0.length cap] (grow (putRow (Value.int .i64) (Sort.ahead w n) g 0 ms.toArray) os) fun e w' => e = .returned (.slice (some ⟨g, 0, none⟩) r.length cap) ∧ w'.ownsRow B 3 1 (.slice (some ⟨g, 0, none⟩) r.length cap) r.length (r.map (Value.int .i64)) ∧ w.grownBy w' (some g) := by
   intro n os
   have hb := heap_sortedI (w := w) (g := g) (n := n) (os := os) ms.toArray h2
   have hk := Any.slices_Compact_int Tryz.lays2020 g 0 cap ms _ (holds_of_blockI hb (take_putCellsI cur ms hsz)) (by rw [hml]; omega) (by rw [hml]; exact h3)
   rw [hr, hml] at hk
   refine hk.mono ?_
   rintro e w' ⟨rfl, q, rfl⟩
   have hrl : r.length ≤ l0.length := by rw [← hr, ← hml]; exact compact_le ms
   have hg0 : ∀ (w : World) d, w.grownBy (putRow (Value.int .i64) (Sort.ahead w q) g 0 d) (some g) := fun w d => by
    have := grownBy_sortedI (w := w) (g := g) (n := q) (os := #[]) d
    rwa [grow_empty] at this
   refine ⟨rfl, ⟨by simp, .inr ⟨g, cap, _, rfl, h1, by have := heap_sortedI (n := q) (os := #[]) (r ++ List.replicate (l0.length - r.length) 0).toArray hb; rwa [grow_empty] at this, Nat.le_trans hrl h3, h4, by simp [putCells, h5], ?_⟩⟩, grownBy_two (grownBy_sortedI _) (hg0 _ _)⟩
   have ht := take_putCellsI (putCells (Value.int .i64) 0 ms.toArray cur) (r ++ List.replicate (l0.length - r.length) 0) (by simp [putCells]; omega)
   rw [Nat.mul_one]
   have h7 := congrArg (List.take r.length) ht
   rw [List.take_take, Nat.min_eq_left (by simp), List.map_append, List.take_append_of_le_length (by simp), List.take_of_length_le (l := List.map (Value.int .i64) r) (by simp)] at h7
   exact h7
  clear h hr h6 h5 ho
  go_enter Tryz.func157, Tryz.ntmps157
  go_wp2_with (first | (go_at_call 164; refine hS.mono ?_; rintro e w' ⟨rfl, n, os, rfl⟩) | (go_at_call 165; refine (hC n os).mono ?_; rintro e w' ⟨rfl, HO, HG⟩))
  go_ret
  exact ⟨_, rfl, HO, HG, fun k hk => .inl hk⟩
theorem impl_IsSimple.ctr {l0 : List Int} {r : Bool} (h : impl_IsSimple.f l0 = some r) : Ctr Tryz.prog 136 [.pr 1 (l0.map eI)] (.v (.bool r)) := by
  refine Ctr_of tyOk hm Tryz.func136 rfl rfl (by kernel_rfl) (n := 9) (rv := [.tmp 2]) rfl rfl ?_
  simp only [W, List.replicate]
  unfold impl_IsSimple.f at h
  replace h := bnd h; obtain ⟨t1, A, h⟩ := h
  try simp only [W, p1, p2, p3, p4, p5, p6, p7, p8, p9, p10, p11, p12]
  refine callR (slices_Clone_int.ctr A) ?_
  replace h := bnd h; obtain ⟨t2, A, h⟩ := h
  try simp only [W, p1, p2, p3, p4, p5, p6, p7, p8, p9, p10, p11, p12]
  refine callT (by simp only [W, p1, p2, p3, p4, p5, p6, p7, p8, p9, p10, p11, p12]) rfl (impl_ordered.turn A) ⟨_, rfl, ?_⟩
  cases h
  try simp only [W, p1, p2, p3, p4, p5, p6, p7, p8, p9, p10, p11, p12]
theorem impl_CrowdOk.ctr {a0_0 : Int} {a0_1 : Int} {a0_2 : Int} {l1 : List Int} {r : Bool} (h : impl_CrowdOk.f a0_0 a0_1 a0_2 l1 = some r) : Ctr Tryz.prog 95 [.ag [.v (.int .i64 a0_0), .v (.int .i64 a0_1), .v (.int .i64 a0_2)], .pr 1 (l1.map eI)] (.v (.bool r)) := by
  refine Ctr_of tyOk hm Tryz.func95 rfl rfl (by kernel_rfl) (n := 15) (rv := [.tmp 4]) rfl rfl ?_
  simp only [W, List.replicate]
  unfold impl_CrowdOk.f at h
  replace h := ifS h; rcases h with ⟨c1, h⟩ | ⟨c1, h⟩
  · replace h := bnd h; obtain ⟨t2, A, h⟩ := h
    try simp only [W, c1, p1, p2, p3, p4, p5, p6, p7, p8, p9, p10, p11, p12]
    refine callR (impl_isIn.ctr A) ?_
    replace h := ifT h; rcases h with ⟨rfl, h⟩ | ⟨rfl, h⟩
    · replace h := bnd h; obtain ⟨t4, A, h⟩ := h
      try simp only [W, c1, p1, p2, p3, p4, p5, p6, p7, p8, p9, p10, p11, p12]
      refine callR (impl_IsSimple.ctr A) ?_
      cases h
      try simp only [W, c1, p1, p2, p3, p4, p5, p6, p7, p8, p9, p10, p11, p12]
    · cases h
      try simp only [W, c1, p1, p2, p3, p4, p5, p6, p7, p8, p9, p10, p11, p12]
  · cases h
    try simp only [W, c1, p1, p2, p3, p4, p5, p6, p7, p8, p9, p10, p11, p12]
end Go.Proofs.YtkindoepnganmaaGreat.F
end

section
namespace Go.Proofs.YtkindoepnganmaaGreat.F
open Go.RowKit Go.Proofs.YtkindoepnganmaaGreatW.PrintWords Go.Proofs.YtkindoepnganmaaGreatW.PrintLast Go.Proofs.YtkindoepnganmaaGreatW.PrintMore
set_option linter.unusedVariables false
set_option linter.unusedSimpArgs false
attribute [local go_sem] max2_int min2_int max_two min_two
set_option maxRecDepth 20000
set_option maxHeartbeats 4000000
open Nat renaming reduceAdd → p1, reduceSub → p2, reduceMul → p3, reduceDiv → p4, reduceBNe → p5, reduceBEq → p6, reduceEqDiff → p7, reduceLeDiff → p8, reduceLT → p9
open Int renaming reduceLE → p10, reduceLT → p11, reduceEq → p12
theorem impl_GardenOk.ctr {k : Nat} {a0_0 : Int} {a0_1 : Int} {a0_2 : Int} {l0_3 : List Int} {a0_4 : Int} {a0_5 : Int} {l0_6 : List Int} {a0_7 : Int} {r : Bool} (h : impl_GardenOk.f k a0_0 a0_1 a0_2 l0_3 a0_4 a0_5 l0_6 a0_7 = some r) : Ctr Tryz.prog 48 [.ag [.v (.int .i64 a0_0), .v (.int .i64 a0_1), .v (.int .i64 a0_2), .pr 1 (l0_3.map eI), .v (.int .i64 a0_4), .v (.int .i64 a0_5), .pr 1 (l0_6.map eI), .v (.int .i64 a0_7)]] (.v (.bool r)) := by
  refine Ctr_of tyOk hm Tryz.func48 rfl rfl (by kernel_rfl) (n := 38) (rv := [.tmp 2]) rfl rfl ?_
  simp only [W, List.replicate]
  unfold impl_GardenOk.f at h
  replace h := bnd h; obtain ⟨t1, A, h⟩ := h
  try simp only [W, p1, p2, p3, p4, p5, p6, p7, p8, p9, p10, p11, p12]
  refine callR (impl_HedgeOk.ctr A) ?_
  replace h := ifT h; rcases h with ⟨rfl, h⟩ | ⟨rfl, h⟩
  · replace h := bnd h; obtain ⟨t3, A, h⟩ := h
    try simp only [W, p1, p2, p3, p4, p5, p6, p7, p8, p9, p10, p11, p12]
    refine callR (impl_isCell.ctr A) ?_
    replace h := ifT h; rcases h with ⟨rfl, h⟩ | ⟨rfl, h⟩
    · replace h := bnd h; obtain ⟨t5, A, h⟩ := h
      try simp only [W, p1, p2, p3, p4, p5, p6, p7, p8, p9, p10, p11, p12]
      refine callR (impl_CrowdOk.ctr A) ?_
      replace h := ifT h; rcases h with ⟨rfl, h⟩ | ⟨rfl, h⟩
      · replace h := ifS h; rcases h with ⟨c7, h⟩ | ⟨c7, h⟩
        · replace h := ifS h; rcases h with ⟨c8, h⟩ | ⟨c8, h⟩
          · replace h := bnd h; obtain ⟨⟨t9_1, t9_2, t9_3⟩, A, h⟩ := h
            dsimp only at h
            try simp only [W, c7, c8, p1, p2, p3, p4, p5, p6, p7, p8, p9, p10, p11, p12]
            refine callR (impl_OpenNow.ctr A) ?_
            replace h := bnd h; obtain ⟨t10, A, h⟩ := h
            try simp only [W, c7, c8, p1, p2, p3, p4, p5, p6, p7, p8, p9, p10, p11, p12]
            refine callR (impl_IsConnected.ctr A) ?_
            cases h
            try simp only [W, c7, c8, p1, p2, p3, p4, p5, p6, p7, p8, p9, p10, p11, p12]
          · cases h
            try simp only [W, c7, c8, p1, p2, p3, p4, p5, p6, p7, p8, p9, p10, p11, p12]
        · cases h
          try simp only [W, c7, p1, p2, p3, p4, p5, p6, p7, p8, p9, p10, p11, p12]
      · cases h
        try simp only [W, p1, p2, p3, p4, p5, p6, p7, p8, p9, p10, p11, p12]
    · cases h
      try simp only [W, p1, p2, p3, p4, p5, p6, p7, p8, p9, p10, p11, p12]
  · cases h
    try simp only [W, p1, p2, p3, p4, p5, p6, p7, p8, p9, p10, p11, p12]
theorem impl_copyHedge.ctr {a0_0 : Int} {a0_1 : Int} {a0_2 : Int} {l0_3 : List Int} {a0_4 : Int} {r1 : Int} {r2 : Int} {r3 : Int} {r4 : List Int} {r5 : Int} (h : impl_copyHedge.f a0_0 a0_1 a0_2 l0_3 a0_4 = some (r1, r2, r3, r4, r5)) : Ctr Tryz.prog 113 [.ag [.v (.int .i64 a0_0), .v (.int .i64 a0_1), .v (.int .i64 a0_2), .pr 1 (l0_3.map eI), .v (.int .i64 a0_4)]] (.ag [.v (.int .i64 r1), .v (.int .i64 r2), .v (.int .i64 r3), .ow 3 1 (r4.map eI), .v (.int .i64 r5)]) := by
  refine Ctr_of tyOk hm Tryz.func113 rfl rfl (by kernel_rfl) (n := 7) (rv := [.cell 2 36]) rfl rfl ?_
  simp only [W, List.replicate]
  unfold impl_copyHedge.f at h
  replace h := bnd h; obtain ⟨t1, A, h⟩ := h
  try simp only [W, p1, p2, p3, p4, p5, p6, p7, p8, p9, p10, p11, p12]
  refine callR (slices_Clone_int.ctr A) ?_
  cases h
  try simp only [W, p1, p2, p3, p4, p5, p6, p7, p8, p9, p10, p11, p12]
end Go.Proofs.YtkindoepnganmaaGreat.F
end

section
namespace Go.Proofs.YtkindoepnganmaaGreat.F
open Go.RowKit Go.Proofs.YtkindoepnganmaaGreatW.PrintWords Go.Proofs.YtkindoepnganmaaGreatW.PrintLast Go.Proofs.YtkindoepnganmaaGreatW.PrintMore
set_option linter.unusedVariables false
set_option linter.unusedSimpArgs false
attribute [local go_sem] max2_int min2_int max_two min_two
set_option maxRecDepth 20000 in set_option maxHeartbeats 4000000 in open Nat renaming reduceAdd → p1, reduceSub → p2, reduceMul → p3, reduceDiv → p4, reduceBNe → p5, reduceBEq → p6, reduceEqDiff → p7, reduceLeDiff → p8, reduceLT → p9 in open Int renaming reduceLE → p10, reduceLT → p11, reduceEq → p12 in
theorem impl_copyGarden.ctr {a0_0 : Int} {a0_1 : Int} {a0_2 : Int} {l0_3 : List Int} {a0_4 : Int} {a0_5 : Int} {l0_6 : List Int} {a0_7 : Int} {r1 : Int} {r2 : Int} {r3 : Int} {r4 : List Int} {r5 : Int} {r6 : Int} {r7 : List Int} {r8 : Int} (h : impl_copyGarden.f a0_0 a0_1 a0_2 l0_3 a0_4 a0_5 l0_6 a0_7 = some (r1, r2, r3, r4, r5, r6, r7, r8)) : Ctr Tryz.prog 64 [.ag [.v (.int .i64 a0_0), .v (.int .i64 a0_1), .v (.int .i64 a0_2), .pr 1 (l0_3.map eI), .v (.int .i64 a0_4), .v (.int .i64 a0_5), .pr 1 (l0_6.map eI), .v (.int .i64 a0_7)]] (.ag [.v (.int .i64 r1), .v (.int .i64 r2), .v (.int .i64 r3), .ow 3 1 (r4.map eI), .v (.int .i64 r5), .v (.int .i64 r6), .ow 3 1 (r7.map eI), .v (.int .i64 r8)]) := by
  refine Ctr_of tyOk hm Tryz.func64 rfl rfl (by kernel_rfl) (n := 11) (rv := [.cell 2 38]) rfl rfl ?_
  simp only [W, List.replicate]
  unfold impl_copyGarden.f at h
  replace h := bnd h; obtain ⟨⟨t1_1, t1_2, t1_3, t1_4, t1_5⟩, A, h⟩ := h
  dsimp only at h
  try simp only [W, p1, p2, p3, p4, p5, p6, p7, p8, p9, p10, p11, p12]
  refine callR (impl_copyHedge.ctr A) ?_
  replace h := bnd h; obtain ⟨t2, A, h⟩ := h
  try simp only [W, p1, p2, p3, p4, p5, p6, p7, p8, p9, p10, p11, p12]
  refine callR (slices_Clone_int.ctr A) ?_
  cases h
  try simp only [W, p1, p2, p3, p4, p5, p6, p7, p8, p9, p10, p11, p12]
end Go.Proofs.YtkindoepnganmaaGreat.F
end

section
namespace Go.Proofs.YtkindoepnganmaaGreat.F
open Go.RowKit Go.Proofs.YtkindoepnganmaaGreatW.PrintWords Go.Proofs.YtkindoepnganmaaGreatW.PrintLast Go.Proofs.YtkindoepnganmaaGreatW.PrintMore
set_option linter.unusedVariables false
set_option linter.unusedSimpArgs false
attribute [local go_sem] max2_int min2_int max_two min_two
set_option maxRecDepth 20000
set_option maxHeartbeats 4000000
open Nat renaming reduceAdd → p1, reduceSub → p2, reduceMul → p3, reduceDiv → p4, reduceBNe → p5, reduceBEq → p6, reduceEqDiff → p7, reduceLeDiff → p8, reduceLT → p9
open Int renaming reduceLE → p10, reduceLT → p11, reduceEq → p12
theorem spec_Leave.ctr {k : Nat} {a0_0 : Int} {a0_1 : Int} {a0_2 : Int} {l0_3 : List Int} {a0_4 : Int} {a0_5 : Int} {l0_6 : List Int} {a0_7 : Int} {r1 : Int} {r2 : Int} {r3 : Int} {r4 : List Int} {r5 : Int} {r6 : Int} {r7 : List Int} {r8 : Int} {r9 : Bool} (h : spec_Leave.f k a0_0 a0_1 a0_2 l0_3 a0_4 a0_5 l0_6 a0_7 = some (r1, r2, r3, r4, r5, r6, r7, r8, r9)) : Ctr Tryz.prog 22 [.ag [.v (.int .i64 a0_0), .v (.int .i64 a0_1), .v (.int .i64 a0_2), .pr 1 (l0_3.map eI), .v (.int .i64 a0_4), .v (.int .i64 a0_5), .pr 1 (l0_6.map eI), .v (.int .i64 a0_7)]] (.tu [.ag [.v (.int .i64 r1), .v (.int .i64 r2), .v (.int .i64 r3), .ow 3 1 (r4.map eI), .v (.int .i64 r5), .v (.int .i64 r6), .ow 3 1 (r7.map eI), .v (.int .i64 r8)], .v (.bool r9)]) := by
  refine Ctr_of tyOk hm Tryz.func22 rfl rfl (by kernel_rfl) (n := 47) (rv := [.cell 2 38, .tmp 3]) rfl rfl ?_
  simp only [W, List.replicate]
  unfold spec_Leave.f at h
  replace h := bnd h; obtain ⟨⟨t1_1, t1_2, t1_3, t1_4, t1_5, t1_6, t1_7, t1_8⟩, A, h⟩ := h
  dsimp only at h
  try simp only [W, p1, p2, p3, p4, p5, p6, p7, p8, p9, p10, p11, p12]
  refine callR (spec_l38Copy.ctr A) ?_
  replace h := bnd h; obtain ⟨t2, A, h⟩ := h
  try simp only [W, p1, p2, p3, p4, p5, p6, p7, p8, p9, p10, p11, p12]
  refine callR (spec_GardenOk.ctr A) ?_
  replace h := ifT h; rcases h with ⟨rfl, h⟩ | ⟨rfl, h⟩
  · replace h := bnd h; obtain ⟨t4, A, h⟩ := h
    try simp only [W, p1, p2, p3, p4, p5, p6, p7, p8, p9, p10, p11, p12]
    refine callR (spec_l07In.ctr A) ?_
    rcases k with _ | m5; · cases h
    rw [spec_Leave.j0] at h
    replace h := ifT h; rcases h with ⟨c6, h⟩ | ⟨c6, h⟩
    · cases h
      try simp only [W, c6, p1, p2, p3, p4, p5, p6, p7, p8, p9, p10, p11, p12]
    · try simp only [W, c6, p1, p2, p3, p4, p5, p6, p7, p8, p9, p10, p11, p12]
      refine loopN (fun x : Int × Int × Int × Int × List Int × Int × Int × List Int × Int × Int × Int × Int × List Int × Int × Int × List Int × Int × Int × Int × Int × Int × Int × Int => [.u, .bp 16 0, .bp 32 0, .u, .bp 64 0, .v (.int .i64 x.1), .u, .u, .u, .u, .u, .u, .bp 16 6, .u, .bp 16 5, .u, .u, .u, .u, .u, .u, .bp 64 6, .u, .u, .u, .u, .u, .u, .u, .u, .u, .u, .u, .u, .u, .u, .u, .u, .u, .u, .u, .u, .u, .u, .u, .u, .u, .u]) (fun x => [(16, .box 38 [.v (.int .i64 x.2.1), .v (.int .i64 x.2.2.1), .v (.int .i64 x.2.2.2.1), .pr 1 (List.map eI x.2.2.2.2.1), .v (.int .i64 x.2.2.2.2.2.1), .v (.int .i64 x.2.2.2.2.2.2.1), .pr 1 (List.map eI x.2.2.2.2.2.2.2.1), .v (.int .i64 x.2.2.2.2.2.2.2.2.1)]), (32, .box 38 [.v (.int .i64 x.2.2.2.2.2.2.2.2.2.2.2.2.2.2.2.2.2.1), .v (.int .i64 x.2.2.2.2.2.2.2.2.2.2.2.2.2.2.2.2.2.2.1), .v (.int .i64 x.2.2.2.2.2.2.2.2.2.2.2.2.2.2.2.2.2.2.2.1), .v (Value.slice none 0 0), .v (.int .i64 x.2.2.2.2.2.2.2.2.2.2.2.2.2.2.2.2.2.2.2.2.1), .v (.int .i64 x.2.2.2.2.2.2.2.2.2.2.2.2.2.2.2.2.2.2.2.2.2.1), .v (Value.slice none 0 0), .v (.int .i64 x.2.2.2.2.2.2.2.2.2.2.2.2.2.2.2.2.2.2.2.2.2.2)]), (64, .box 38 [.v (.int .i64 x.2.2.2.2.2.2.2.2.2.1), .v (.int .i64 x.2.2.2.2.2.2.2.2.2.2.1), .v (.int .i64 x.2.2.2.2.2.2.2.2.2.2.2.1), .lo 112, .v (.int .i64 x.2.2.2.2.2.2.2.2.2.2.2.2.2.1), .v (.int .i64 x.2.2.2.2.2.2.2.2.2.2.2.2.2.2.1), .lo 320, .v (.int .i64 x.2.2.2.2.2.2.2.2.2.2.2.2.2.2.2.2.1)]), (112, .row 3 1 (List.map eI x.2.2.2.2.2.2.2.2.2.2.2.2.1)), (320, .row 3 1 (List.map eI x.2.2.2.2.2.2.2.2.2.2.2.2.2.2.2.1))]) (fun n x => spec_Leave.l0 n x.1 x.2.1 x.2.2.1 x.2.2.2.1 x.2.2.2.2.1 x.2.2.2.2.2.1 x.2.2.2.2.2.2.1 x.2.2.2.2.2.2.2.1 x.2.2.2.2.2.2.2.2.1 x.2.2.2.2.2.2.2.2.2.1 x.2.2.2.2.2.2.2.2.2.2.1 x.2.2.2.2.2.2.2.2.2.2.2.1 x.2.2.2.2.2.2.2.2.2.2.2.2.1 x.2.2.2.2.2.2.2.2.2.2.2.2.2.1 x.2.2.2.2.2.2.2.2.2.2.2.2.2.2.1 x.2.2.2.2.2.2.2.2.2.2.2.2.2.2.2.1 x.2.2.2.2.2.2.2.2.2.2.2.2.2.2.2.2.1 = some (r1, r2, r3, r4, r5, r6, r7, r8, r9)) (0, a0_0, a0_1, a0_2, l0_3, a0_4, a0_5, l0_6, a0_7, t1_1, t1_2, t1_3, t1_4, t1_5, t1_6, (([] : List Int)), t1_8, 0, 0, 0, 0, 0, 0) [] h (by simp only [W, p1, p2, p3, p4, p5, p6, p7, p8, p9, p10, p11, p12] <;> trivial) (by simp only [W, p1, p2, p3, p4, p5, p6, p7, p8, p9, p10, p11, p12] <;> trivial) rfl (fun _ h => by cases h) ?_
      intro n1 ⟨x7, x8, x9, x10, x11, x12, x13, x14, x15, x16, x17, x18, x19, x20, x21, x22, x23, y24, y25, y26, y27, y28, y29⟩ _ h
      simp only [spec_Leave.l0] at h
      replace h := ifS h; rcases h with ⟨c30, h⟩ | ⟨c30, h⟩
      · replace h := ifN h; obtain ⟨c31, h⟩ := h
        replace h := ifS h; rcases h with ⟨c32, h⟩ | ⟨c32, h⟩
        · try simp only [W, c30, c31, eq_true c32, p1, p2, p3, p4, p5, p6, p7, p8, p9, p10, p11, p12]
          exact nextN ((wrap64 (x7 + 1)), x8, x9, x10, x11, x12, x13, x14, x15, x16, x17, x18, x19, x20, x21, x22, x23, y24, y25, y26, y27, y28, y29) [] n1 (by omega) h (by simp only [W, p1, p2, p3, p4, p5, p6, p7, p8, p9, p10, p11, p12] <;> trivial) (by simp only [W, p1, p2, p3, p4, p5, p6, p7, p8, p9, p10, p11, p12] <;> trivial) rfl
        · replace h := ifN h; obtain ⟨c33, h⟩ := h
          try simp only [W, c30, c31, c32, c33, p1, p2, p3, p4, p5, p6, p7, p8, p9, p10, p11, p12]
          exact nextN ((wrap64 (x7 + 1)), x8, x9, x10, x11, x12, x13, x14, x15, x16, x17, x18, x19, x20, x21, (x22 ++ [rd x14 x7]), x23, y24, y25, y26, y27, y28, y29) [(320, 720)] n1 (by omega) h (by simp only [W, p1, p2, p3, p4, p5, p6, p7, p8, p9, p10, p11, p12] <;> trivial) (by simp only [W, p1, p2, p3, p4, p5, p6, p7, p8, p9, p10, p11, p12] <;> trivial) rfl
      · cases h
        try simp only [W, c30, p1, p2, p3, p4, p5, p6, p7, p8, p9, p10, p11, p12]
  · rcases k with _ | m34; · cases h
    rw [spec_Leave.j0] at h
    rw [if_pos rfl] at h
    cases h
    try simp only [W, p1, p2, p3, p4, p5, p6, p7, p8, p9, p10, p11, p12]
theorem slices_Index_int.ctr {k : Nat} {l0 : List Int} {a1 : Int} {r : Int} (h : slices_Index_int.f k l0 a1 = some r) : Ctr Tryz.prog 69 [.pr 1 (l0.map eI), .v (.int .i64 a1)] (.v (.int .i64 r)) := by
  refine Ctr_of tyOk hm Tryz.func69 rfl rfl (by kernel_rfl) (n := 17) (rv := [.tmp 4]) rfl rfl ?_
  simp only [W, List.replicate]
  unfold slices_Index_int.f at h
  try simp only [W, p1, p2, p3, p4, p5, p6, p7, p8, p9, p10, p11, p12]
  refine loopN (fun x : List Int × Int × Int × Int => [.pr 1 (List.map eI x.1), .v (.int .i64 x.2.1), .u, .u, .u, .u, .u, .v (.int .i64 x.2.2.1), .v (.int .i64 x.2.2.2), .u, .u, .u, .u, .u, .u, .u, .u, .u, .u]) (fun x => []) (fun n x => slices_Index_int.l0 n x.1 x.2.1 x.2.2.1 x.2.2.2 = some r) (l0, a1, (l0.length : Int), 0) [] h (by simp only [W, p1, p2, p3, p4, p5, p6, p7, p8, p9, p10, p11, p12] <;> trivial) (by simp only [W, p1, p2, p3, p4, p5, p6, p7, p8, p9, p10, p11, p12] <;> trivial) rfl (fun _ h => by cases h) ?_
  intro n1 ⟨x1, x2, x3, x4⟩ _ h
  simp only [slices_Index_int.l0] at h
  replace h := ifS h; rcases h with ⟨c5, h⟩ | ⟨c5, h⟩
  · replace h := ifN h; obtain ⟨c6, h⟩ := h
    replace h := ifN h; obtain ⟨c7, h⟩ := h
    replace h := ifS h; rcases h with ⟨c8, h⟩ | ⟨c8, h⟩
    · cases h
      try simp only [W, c5, c6, c7, eq_true c8, p1, p2, p3, p4, p5, p6, p7, p8, p9, p10, p11, p12]
    · try simp only [W, c5, c6, c7, c8, p1, p2, p3, p4, p5, p6, p7, p8, p9, p10, p11, p12]
      exact nextN (x1, x2, x3, (wrap64 (x4 + 1))) [] n1 (by omega) h (by simp only [W, p1, p2, p3, p4, p5, p6, p7, p8, p9, p10, p11, p12] <;> trivial) (by simp only [W, p1, p2, p3, p4, p5, p6, p7, p8, p9, p10, p11, p12] <;> trivial) rfl
  · cases h
    try simp only [W, c5, p1, p2, p3, p4, p5, p6, p7, p8, p9, p10, p11, p12]
end Go.Proofs.YtkindoepnganmaaGreat.F
end

section
namespace Go.Proofs.YtkindoepnganmaaGreat.F
open Go.RowKit Go.Proofs.YtkindoepnganmaaGreatW.PrintWords Go.Proofs.YtkindoepnganmaaGreatW.PrintLast Go.Proofs.YtkindoepnganmaaGreatW.PrintMore
set_option linter.unusedVariables false
set_option linter.unusedSimpArgs false
attribute [local go_sem] max2_int min2_int max_two min_two
theorem flat_eIx (l : List Int) : (l.map eI).flatten = l.map (Value.int .i64) := by
  induction l with
  | nil => rfl
  | cons x l ih => rw [List.map_cons, List.flatten_cons, ih]; rfl
set_option maxHeartbeats 4000000 in
open Go.Sort in
theorem slices_Delete_int.turn {l0 : List Int} {a1 a2 : Int} {r : List Int} (h : slices_Delete_int.f l0 a1 a2 = some r) : CtrT Tryz.prog 70 3 1 (l0.map eI) [.v (.int .i64 a1), .v (.int .i64 a2)] (r.map eI) := by
  unfold slices_Delete_int.f at h
  obtain ⟨p1, h⟩ := ifN h
  obtain ⟨p2, h⟩ := ifN h
  obtain ⟨p3, h⟩ := ifN h
  injection h with hr
  obtain ⟨i, rfl⟩ := Int.eq_ofNat_of_zero_le p1
  obtain ⟨j, rfl⟩ := Int.eq_ofNat_of_zero_le (show 0 ≤ a2 by omega)
  simp only [Int.toNat_natCast] at hr
  have hij : i < j := by omega
  have hj : j ≤ l0.length := by omega
  clear p1 p2 p3
  refine ⟨enters_of Tryz.func70 rfl rfl, fun x hx => ?_, fun w B y hB ho => ?_⟩
  · obtain ⟨z, _, rfl⟩ := List.mem_map.1 hx
    exact ⟨rfl, fun u hu => by simp [eI] at hu; subst hu; rfl⟩
  simp only [vluL, vlu]
  rw [List.length_map, flat_eIx] at ho
  rw [List.length_map, flat_eIx]
  rcases ho.2 with ⟨rfl, h0⟩ | ⟨g, cap, cur, rfl, h1, h2, h3, h4, h5, h6⟩
  · exfalso; omega
  · rw [Nat.mul_one] at h6
    have hg : g < w.heap.size := (Array.getElem?_eq_some_iff.1 h2).1
    have hS := Any.slices_Delete_int Tryz.lays2023 g 0 cap i j l0 w (holds_of_blockI h2 h6) h3 (Nat.le_trans h4 (by decide)) (by omega) hj
    have hrl : r.length = l0.length - (j - i) := by rw [← hr]; simp; omega
    refine hS.mono ?_
    rintro e w' ⟨rfl, q, rfl⟩
    have hb := heap_sortedI (w := w) (g := g) (n := q) (os := #[]) (l0.take i ++ l0.drop j ++ List.replicate (j - i) 0).toArray h2
    rw [grow_empty] at hb
    have hgr := grownBy_sortedI (w := w) (g := g) (n := q) (os := #[]) (l0.take i ++ l0.drop j ++ List.replicate (j - i) 0).toArray
    rw [grow_empty] at hgr
    refine ⟨_, rfl, ⟨by simp, .inr ⟨g, cap, _, by rw [hrl], h1, hb, by omega, h4, by simp [putCells, h5], ?_⟩⟩, hgr, fun k hk => .inl hk⟩
    have ht := take_putCellsI cur (l0.take i ++ l0.drop j ++ List.replicate (j - i) 0) (by simp; omega)
    rw [hr] at ht
    rw [Nat.mul_one]
    have h7 := congrArg (List.take r.length) ht
    rw [List.take_take, Nat.min_eq_left (by simp), List.map_append, List.take_append_of_le_length (by simp), List.take_of_length_le (l := List.map (Value.int .i64) r) (by simp)] at h7
    rw [hr]
    exact h7
set_option maxRecDepth 20000 in set_option maxHeartbeats 4000000 in open Nat renaming reduceAdd → p1, reduceSub → p2, reduceMul → p3, reduceDiv → p4, reduceBNe → p5, reduceBEq → p6, reduceEqDiff → p7, reduceLeDiff → p8, reduceLT → p9 in open Int renaming reduceLE → p10, reduceLT → p11, reduceEq → p12 in
theorem impl_Leave.ctr {k : Nat} {a0_0 : Int} {a0_1 : Int} {a0_2 : Int} {l0_3 : List Int} {a0_4 : Int} {a0_5 : Int} {l0_6 : List Int} {a0_7 : Int} {r1 : Int} {r2 : Int} {r3 : Int} {r4 : List Int} {r5 : Int} {r6 : Int} {r7 : List Int} {r8 : Int} {r9 : Bool} (h : impl_Leave.f k a0_0 a0_1 a0_2 l0_3 a0_4 a0_5 l0_6 a0_7 = some (r1, r2, r3, r4, r5, r6, r7, r8, r9)) : Ctr Tryz.prog 23 [.ag [.v (.int .i64 a0_0), .v (.int .i64 a0_1), .v (.int .i64 a0_2), .pr 1 (l0_3.map eI), .v (.int .i64 a0_4), .v (.int .i64 a0_5), .pr 1 (l0_6.map eI), .v (.int .i64 a0_7)]] (.tu [.ag [.v (.int .i64 r1), .v (.int .i64 r2), .v (.int .i64 r3), .ow 3 1 (r4.map eI), .v (.int .i64 r5), .v (.int .i64 r6), .ow 3 1 (r7.map eI), .v (.int .i64 r8)], .v (.bool r9)]) := by
  refine Ctr_of tyOk hm Tryz.func23 rfl rfl (by kernel_rfl) (n := 28) (rv := [.cell 2 38, .tmp 3]) rfl rfl ?_
  simp only [W, List.replicate]
  unfold impl_Leave.f at h
  replace h := bnd h; obtain ⟨⟨t1_1, t1_2, t1_3, t1_4, t1_5, t1_6, t1_7, t1_8⟩, A, h⟩ := h
  dsimp only at h
  try simp only [W, p1, p2, p3, p4, p5, p6, p7, p8, p9, p10, p11, p12]
  refine callR (impl_copyGarden.ctr A) ?_
  replace h := bnd h; obtain ⟨t2, A, h⟩ := h
  try simp only [W, p1, p2, p3, p4, p5, p6, p7, p8, p9, p10, p11, p12]
  refine callR (slices_Index_int.ctr A) ?_
  replace h := bnd h; obtain ⟨t3, A, h⟩ := h
  try simp only [W, p1, p2, p3, p4, p5, p6, p7, p8, p9, p10, p11, p12]
  refine callR (impl_GardenOk.ctr A) ?_
  replace h := ifT h; rcases h with ⟨rfl, h⟩ | ⟨rfl, h⟩
  · replace h := ifS h; rcases h with ⟨c5, h⟩ | ⟨c5, h⟩
    · cases h
      try simp only [W, c5, p1, p2, p3, p4, p5, p6, p7, p8, p9, p10, p11, p12]
    · replace h := bnd h; obtain ⟨t6, A, h⟩ := h
      try simp only [W, c5, p1, p2, p3, p4, p5, p6, p7, p8, p9, p10, p11, p12]
      refine callT (by simp only [W, p1, p2, p3, p4, p5, p6, p7, p8, p9, p10, p11, p12]) rfl (slices_Delete_int.turn A) ⟨_, rfl, ?_⟩
      cases h
      try simp only [W, c5, p1, p2, p3, p4, p5, p6, p7, p8, p9, p10, p11, p12]
  · cases h
    try simp only [W, p1, p2, p3, p4, p5, p6, p7, p8, p9, p10, p11, p12]
end Go.Proofs.YtkindoepnganmaaGreat.F
end

section
namespace Go.Proofs.YtkindoepnganmaaGreat.F
open Go.RowKit Go.Proofs.YtkindoepnganmaaGreatW.PrintWords Go.Proofs.YtkindoepnganmaaGreatW.PrintLast Go.Proofs.YtkindoepnganmaaGreatW.PrintMore
set_option linter.unusedVariables false
set_option linter.unusedSimpArgs false
attribute [local go_sem] max2_int min2_int max_two min_two
set_option maxRecDepth 20000 in set_option maxHeartbeats 4000000 in open Nat renaming reduceAdd → p1, reduceSub → p2, reduceMul → p3, reduceDiv → p4, reduceBNe → p5, reduceBEq → p6, reduceEqDiff → p7, reduceLeDiff → p8, reduceLT → p9 in open Int renaming reduceLE → p10, reduceLT → p11, reduceEq → p12 in
theorem impl_Enter.ctr {k : Nat} {a0_0 : Int} {a0_1 : Int} {a0_2 : Int} {l0_3 : List Int} {a0_4 : Int} {a0_5 : Int} {l0_6 : List Int} {a0_7 : Int} {r1 : Int} {r2 : Int} {r3 : Int} {r4 : List Int} {r5 : Int} {r6 : Int} {r7 : List Int} {r8 : Int} {r9 : Bool} (h : impl_Enter.f k a0_0 a0_1 a0_2 l0_3 a0_4 a0_5 l0_6 a0_7 = some (r1, r2, r3, r4, r5, r6, r7, r8, r9)) : Ctr Tryz.prog 18 [.ag [.v (.int .i64 a0_0), .v (.int .i64 a0_1), .v (.int .i64 a0_2), .pr 1 (l0_3.map eI), .v (.int .i64 a0_4), .v (.int .i64 a0_5), .pr 1 (l0_6.map eI), .v (.int .i64 a0_7)]] (.tu [.ag [.v (.int .i64 r1), .v (.int .i64 r2), .v (.int .i64 r3), .ow 3 1 (r4.map eI), .v (.int .i64 r5), .v (.int .i64 r6), .ow 3 1 (r7.map eI), .v (.int .i64 r8)], .v (.bool r9)]) := by
  refine Ctr_of tyOk hm Tryz.func18 rfl rfl (by kernel_rfl) (n := 24) (rv := [.cell 2 38, .tmp 3]) rfl rfl ?_
  simp only [W, List.replicate]
  unfold impl_Enter.f at h
  replace h := bnd h; obtain ⟨⟨t1_1, t1_2, t1_3, t1_4, t1_5, t1_6, t1_7, t1_8⟩, A, h⟩ := h
  dsimp only at h
  try simp only [W, p1, p2, p3, p4, p5, p6, p7, p8, p9, p10, p11, p12]
  refine callR (impl_copyGarden.ctr A) ?_
  replace h := ifN h; obtain ⟨c2, h⟩ := h
  rw [Option.bind_some] at h
  replace h := bnd h; obtain ⟨t3, A, h⟩ := h
  try simp only [W, c2, p1, p2, p3, p4, p5, p6, p7, p8, p9, p10, p11, p12]
  refine callR (impl_GardenOk.ctr A) ?_
  replace h := ifT h; rcases h with ⟨rfl, h⟩ | ⟨rfl, h⟩
  · replace h := bnd h; obtain ⟨t5, A, h⟩ := h
    try simp only [W, c2, p1, p2, p3, p4, p5, p6, p7, p8, p9, p10, p11, p12]
    refine callR (impl_GardenOk.ctr A) ?_
    replace h := ifT h; rcases h with ⟨rfl, h⟩ | ⟨rfl, h⟩
    · cases h
      try simp only [W, c2, p1, p2, p3, p4, p5, p6, p7, p8, p9, p10, p11, p12]
    · replace h := bnd h; obtain ⟨⟨t7_1, t7_2, t7_3, t7_4, t7_5, t7_6, t7_7, t7_8⟩, A, h⟩ := h
      dsimp only at h
      try simp only [W, c2, p1, p2, p3, p4, p5, p6, p7, p8, p9, p10, p11, p12]
      refine callR (impl_copyGarden.ctr A) ?_
      cases h
      try simp only [W, c2, p1, p2, p3, p4, p5, p6, p7, p8, p9, p10, p11, p12]
  · replace h := bnd h; obtain ⟨⟨t8_1, t8_2, t8_3, t8_4, t8_5, t8_6, t8_7, t8_8⟩, A, h⟩ := h
    dsimp only at h
    try simp only [W, c2, p1, p2, p3, p4, p5, p6, p7, p8, p9, p10, p11, p12]
    refine callR (impl_copyGarden.ctr A) ?_
    cases h
    try simp only [W, c2, p1, p2, p3, p4, p5, p6, p7, p8, p9, p10, p11, p12]
end Go.Proofs.YtkindoepnganmaaGreat.F
end

section
namespace Go.Proofs.YtkindoepnganmaaGreat.F
open Go.RowKit Go.Proofs.YtkindoepnganmaaGreatW.PrintWords Go.Proofs.YtkindoepnganmaaGreatW.PrintLast Go.Proofs.YtkindoepnganmaaGreatW.PrintMore
set_option linter.unusedVariables false
set_option linter.unusedSimpArgs false
attribute [local go_sem] max2_int min2_int max_two min_two
set_option maxRecDepth 20000
set_option maxHeartbeats 4000000
open Nat renaming reduceAdd → p1, reduceSub → p2, reduceMul → p3, reduceDiv → p4, reduceBNe → p5, reduceBEq → p6, reduceEqDiff → p7, reduceLeDiff → p8, reduceLT → p9
open Int renaming reduceLE → p10, reduceLT → p11, reduceEq → p12
theorem impl_isFew.ctr {a0 : Int} {r : Bool} (h : impl_isFew.f a0 = some r) : Ctr Tryz.prog 121 [.v (.int .i64 a0)] (.v (.bool r)) := by
  refine Ctr_of tyOk hm Tryz.func121 rfl rfl (by kernel_rfl) (n := 8) (rv := [.tmp 2]) rfl rfl ?_
  simp only [W, List.replicate]
  unfold impl_isFew.f at h
  replace h := ifS h; rcases h with ⟨c1, h⟩ | ⟨c1, h⟩
  · cases h
    try simp only [W, c1, p1, p2, p3, p4, p5, p6, p7, p8, p9, p10, p11, p12]
  · cases h
    try simp only [W, c1, p1, p2, p3, p4, p5, p6, p7, p8, p9, p10, p11, p12]
theorem impl_GrowHedge.ctr {k : Nat} {a0_0 : Int} {a0_1 : Int} {a0_2 : Int} {l0_3 : List Int} {a0_4 : Int} {a1 : Int} {r1 : Int} {r2 : Int} {r3 : Int} {r4 : List Int} {r5 : Int} {r6 : Bool} (h : impl_GrowHedge.f k a0_0 a0_1 a0_2 l0_3 a0_4 a1 = some (r1, r2, r3, r4, r5, r6)) : Ctr Tryz.prog 78 [.ag [.v (.int .i64 a0_0), .v (.int .i64 a0_1), .v (.int .i64 a0_2), .pr 1 (l0_3.map eI), .v (.int .i64 a0_4)], .v (.int .i64 a1)] (.tu [.ag [.v (.int .i64 r1), .v (.int .i64 r2), .v (.int .i64 r3), .ow 3 1 (r4.map eI), .v (.int .i64 r5)], .v (.bool r6)]) := by
  refine Ctr_of tyOk hm Tryz.func78 rfl rfl (by kernel_rfl) (n := 37) (rv := [.cell 4 36, .tmp 5]) rfl rfl ?_
  simp only [W, List.replicate]
  unfold impl_GrowHedge.f at h
  replace h := bnd h; obtain ⟨⟨t1_1, t1_2, t1_3, t1_4, t1_5⟩, A, h⟩ := h
  dsimp only at h
  try simp only [W, p1, p2, p3, p4, p5, p6, p7, p8, p9, p10, p11, p12]
  refine callR (impl_copyHedge.ctr A) ?_
  replace h := bnd h; obtain ⟨t2, A, h⟩ := h
  try simp only [W, p1, p2, p3, p4, p5, p6, p7, p8, p9, p10, p11, p12]
  refine callR (impl_HedgeOk.ctr A) ?_
  replace h := ifT h; rcases h with ⟨rfl, h⟩ | ⟨rfl, h⟩
  · replace h := bnd h; obtain ⟨t4, A, h⟩ := h
    try simp only [W, p1, p2, p3, p4, p5, p6, p7, p8, p9, p10, p11, p12]
    refine callR (impl_isFew.ctr A) ?_
    rcases k with _ | m5; · cases h
    rw [impl_GrowHedge.j0] at h
    replace h := ifT h; rcases h with ⟨c6, h⟩ | ⟨c6, h⟩
    · cases h
      try simp only [W, c6, p1, p2, p3, p4, p5, p6, p7, p8, p9, p10, p11, p12]
    · try simp only [W, c6, p1, p2, p3, p4, p5, p6, p7, p8, p9, p10, p11, p12]
      refine loopN (fun x : Int × Int × Int × Int × Int × Int × List Int × Int × Int × Int × Int × List Int × Int × Int × Int × Int × Int => [.u, .v (.int .i64 x.1), .bp 32 0, .u, .bp 64 0, .u, .bp 96 0, .u, .u, .u, .u, .u, .u, .u, .u, .u, .u, .u, .u, .bp 96 3, .u, .v (.int .i64 x.2.1), .v (.int .i64 x.2.2.1), .u, .u, .u, .u, .u, .u, .u, .u, .u, .u, .u, .u, .u, .u, .u, .u]) (fun x => [(32, .box 36 [.v (.int .i64 x.2.2.2.2.2.2.2.2.1), .v (.int .i64 x.2.2.2.2.2.2.2.2.2.1), .v (.int .i64 x.2.2.2.2.2.2.2.2.2.2.1), .pr 1 (List.map eI x.2.2.2.2.2.2.2.2.2.2.2.1), .v (.int .i64 x.2.2.2.2.2.2.2.2.2.2.2.2.1)]), (64, .box 36 [.v (.int .i64 x.2.2.2.2.2.2.2.2.2.2.2.2.2.1), .v (.int .i64 x.2.2.2.2.2.2.2.2.2.2.2.2.2.2.1), .v (.int .i64 x.2.2.2.2.2.2.2.2.2.2.2.2.2.2.2.1), .v (Value.slice none 0 0), .v (.int .i64 x.2.2.2.2.2.2.2.2.2.2.2.2.2.2.2.2)]), (96, .box 36 [.v (.int .i64 x.2.2.2.1), .v (.int .i64 x.2.2.2.2.1), .v (.int .i64 x.2.2.2.2.2.1), .lo 144, .v (.int .i64 x.2.2.2.2.2.2.2.1)]), (144, .row 3 1 (List.map eI x.2.2.2.2.2.2.1))]) (fun n x => impl_GrowHedge.l0 n x.1 x.2.1 x.2.2.1 x.2.2.2.1 x.2.2.2.2.1 x.2.2.2.2.2.1 x.2.2.2.2.2.2.1 x.2.2.2.2.2.2.2.1 = some (r1, r2, r3, r4, r5, r6)) (a1, (t1_4.length : Int), 0, t1_1, t1_2, t1_3, t1_4, t1_5, a0_0, a0_1, a0_2, (l0_3), a0_4, 0, 0, 0, 0) [] h (by simp only [W, p1, p2, p3, p4, p5, p6, p7, p8, p9, p10, p11, p12] <;> trivial) (by simp only [W, p1, p2, p3, p4, p5, p6, p7, p8, p9, p10, p11, p12] <;> trivial) rfl (fun _ h => by cases h) ?_
      intro n1 ⟨x7, x8, x9, x10, x11, x12, x13, x14, y15, y16, y17, y18, y19, y20, y21, y22, y23⟩ _ h
      simp only [impl_GrowHedge.l0] at h
      replace h := ifS h; rcases h with ⟨c24, h⟩ | ⟨c24, h⟩
      · replace h := ifN h; obtain ⟨c25, h⟩ := h
        replace h := ifN h; obtain ⟨c26, h⟩ := h
        try simp only [W, c24, c25, c26, p1, p2, p3, p4, p5, p6, p7, p8, p9, p10, p11, p12]
        exact nextN (x7, x8, (wrap64 (x9 + 1)), x10, x11, x12, (x13.set (x9 : Int).toNat (mn (wrap64 ((rd x13 x9) + x7)) 1000)), x14, y15, y16, y17, (y18), y19, y20, y21, y22, y23) [] n1 (by omega) h (by simp only [W, p1, p2, p3, p4, p5, p6, p7, p8, p9, p10, p11, p12] <;> trivial) (by simp only [W, p1, p2, p3, p4, p5, p6, p7, p8, p9, p10, p11, p12] <;> trivial) rfl
      · cases h
        try simp only [W, c24, p1, p2, p3, p4, p5, p6, p7, p8, p9, p10, p11, p12]
  · rcases k with _ | m27; · cases h
    rw [impl_GrowHedge.j0] at h
    rw [if_pos rfl] at h
    cases h
    try simp only [W, p1, p2, p3, p4, p5, p6, p7, p8, p9, p10, p11, p12]
theorem impl_isGap.ctr {a0_0 : Int} {a0_1 : Int} {a1 : Int} {r : Bool} (h : impl_isGap.f a0_0 a0_1 a1 = some r) : Ctr Tryz.prog 122 [.ag [.v (.int .i64 a0_0), .v (.int .i64 a0_1)], .v (.int .i64 a1)] (.v (.bool r)) := by
  refine Ctr_of tyOk hm Tryz.func122 rfl rfl (by kernel_rfl) (n := 11) (rv := [.tmp 4]) rfl rfl ?_
  simp only [W, List.replicate]
  unfold impl_isGap.f at h
  replace h := ifS h; rcases h with ⟨c1, h⟩ | ⟨c1, h⟩
  · replace h := bnd h; obtain ⟨t2, A, h⟩ := h
    try simp only [W, c1, p1, p2, p3, p4, p5, p6, p7, p8, p9, p10, p11, p12]
    refine callR (impl_CountGaps.ctr A) ?_
    cases h
    try simp only [W, c1, p1, p2, p3, p4, p5, p6, p7, p8, p9, p10, p11, p12]
  · cases h
    try simp only [W, c1, p1, p2, p3, p4, p5, p6, p7, p8, p9, p10, p11, p12]
end Go.Proofs.YtkindoepnganmaaGreat.F
end

section
namespace Go.Proofs.YtkindoepnganmaaGreat.F
open Go.RowKit Go.Proofs.YtkindoepnganmaaGreatW.PrintWords Go.Proofs.YtkindoepnganmaaGreatW.PrintLast Go.Proofs.YtkindoepnganmaaGreatW.PrintMore
set_option linter.unusedVariables false
set_option linter.unusedSimpArgs false
attribute [local go_sem] max2_int min2_int max_two min_two
set_option maxRecDepth 20000
set_option maxHeartbeats 4000000
open Nat renaming reduceAdd → p1, reduceSub → p2, reduceMul → p3, reduceDiv → p4, reduceBNe → p5, reduceBEq → p6, reduceEqDiff → p7, reduceLeDiff → p8, reduceLT → p9
open Int renaming reduceLE → p10, reduceLT → p11, reduceEq → p12
theorem impl_CutHedge.ctr {a0_0 : Int} {a0_1 : Int} {a0_2 : Int} {l0_3 : List Int} {a0_4 : Int} {a1 : Int} {r1 : Int} {r2 : Int} {r3 : Int} {r4 : List Int} {r5 : Int} {r6 : Bool} (h : impl_CutHedge.f a0_0 a0_1 a0_2 l0_3 a0_4 a1 = some (r1, r2, r3, r4, r5, r6)) : Ctr Tryz.prog 79 [.ag [.v (.int .i64 a0_0), .v (.int .i64 a0_1), .v (.int .i64 a0_2), .pr 1 (l0_3.map eI), .v (.int .i64 a0_4)], .v (.int .i64 a1)] (.tu [.ag [.v (.int .i64 r1), .v (.int .i64 r2), .v (.int .i64 r3), .ow 3 1 (r4.map eI), .v (.int .i64 r5)], .v (.bool r6)]) := by
  refine Ctr_of tyOk hm Tryz.func79 rfl rfl (by kernel_rfl) (n := 24) (rv := [.cell 4 36, .tmp 5]) rfl rfl ?_
  simp only [W, List.replicate]
  unfold impl_CutHedge.f at h
  replace h := bnd h; obtain ⟨⟨t1_1, t1_2, t1_3, t1_4, t1_5⟩, A, h⟩ := h
  dsimp only at h
  try simp only [W, p1, p2, p3, p4, p5, p6, p7, p8, p9, p10, p11, p12]
  refine callR (impl_copyHedge.ctr A) ?_
  replace h := bnd h; obtain ⟨t2, A, h⟩ := h
  try simp only [W, p1, p2, p3, p4, p5, p6, p7, p8, p9, p10, p11, p12]
  refine callR (impl_HedgeOk.ctr A) ?_
  replace h := ifT h; rcases h with ⟨rfl, h⟩ | ⟨rfl, h⟩
  · replace h := bnd h; obtain ⟨t4, A, h⟩ := h
    try simp only [W, p1, p2, p3, p4, p5, p6, p7, p8, p9, p10, p11, p12]
    refine callR (impl_isGap.ctr A) ?_
    replace h := ifT h; rcases h with ⟨rfl, h⟩ | ⟨rfl, h⟩
    · replace h := ifN h; obtain ⟨c6, h⟩ := h
      replace h := ifN h; obtain ⟨c7, h⟩ := h
      cases h
      try simp only [W, c6, c7, p1, p2, p3, p4, p5, p6, p7, p8, p9, p10, p11, p12]
    · cases h
      try simp only [W, p1, p2, p3, p4, p5, p6, p7, p8, p9, p10, p11, p12]
  · cases h
    try simp only [W, p1, p2, p3, p4, p5, p6, p7, p8, p9, p10, p11, p12]
theorem impl_NextToCut.ctr {k : Nat} {a0_0 : Int} {a0_1 : Int} {a0_2 : Int} {l0_3 : List Int} {a0_4 : Int} {r : Int} (h : impl_NextToCut.f k a0_0 a0_1 a0_2 l0_3 a0_4 = some r) : Ctr Tryz.prog 80 [.ag [.v (.int .i64 a0_0), .v (.int .i64 a0_1), .v (.int .i64 a0_2), .pr 1 (l0_3.map eI), .v (.int .i64 a0_4)]] (.v (.int .i64 r)) := by
  refine Ctr_of tyOk hm Tryz.func80 rfl rfl (by kernel_rfl) (n := 36) (rv := [.tmp 2]) rfl rfl ?_
  simp only [W, List.replicate]
  unfold impl_NextToCut.f at h
  replace h := bnd h; obtain ⟨t1, A, h⟩ := h
  try simp only [W, p1, p2, p3, p4, p5, p6, p7, p8, p9, p10, p11, p12]
  refine callR (impl_HedgeOk.ctr A) ?_
  replace h := ifT h; rcases h with ⟨rfl, h⟩ | ⟨rfl, h⟩
  · try simp only [W, p1, p2, p3, p4, p5, p6, p7, p8, p9, p10, p11, p12]
    refine loopN (fun x : Int × List Int × Int × Int × Int × Int × Int × List Int × Int => [.u, .bp 16 0, .u, .v (.int .i64 x.1), .u, .u, .u, .u, .u, .bp 16 3, .pr 1 (List.map eI x.2.1), .v (.int .i64 x.2.2.1), .v (.int .i64 x.2.2.2.1), .u, .u, .u, .u, .u, .u, .u, .u, .u, .u, .u, .u, .u, .u, .u, .u, .u, .u, .u, .u, .u, .u, .u, .u]) (fun x => [(16, .box 36 [.v (.int .i64 x.2.2.2.2.1), .v (.int .i64 x.2.2.2.2.2.1), .v (.int .i64 x.2.2.2.2.2.2.1), .pr 1 (List.map eI x.2.2.2.2.2.2.2.1), .v (.int .i64 x.2.2.2.2.2.2.2.2)])]) (fun n x => impl_NextToCut.l0 n x.1 x.2.1 x.2.2.1 x.2.2.2.1 x.2.2.2.2.1 x.2.2.2.2.2.1 x.2.2.2.2.2.2.1 x.2.2.2.2.2.2.2.1 x.2.2.2.2.2.2.2.2 = some r) ((-1), l0_3, (l0_3.length : Int), 0, a0_0, a0_1, a0_2, l0_3, a0_4) [] h (by simp only [W, p1, p2, p3, p4, p5, p6, p7, p8, p9, p10, p11, p12] <;> trivial) (by simp only [W, p1, p2, p3, p4, p5, p6, p7, p8, p9, p10, p11, p12] <;> trivial) rfl (fun _ h => by cases h) ?_
    intro n1 ⟨x3, x4, x5, x6, x7, x8, x9, x10, x11⟩ _ h
    simp only [impl_NextToCut.l0] at h
    replace h := ifS h; rcases h with ⟨c12, h⟩ | ⟨c12, h⟩
    · replace h := ifN h; obtain ⟨c13, h⟩ := h
      replace h := ifN h; obtain ⟨c14, h⟩ := h
      replace h := bnd h; obtain ⟨t15, A, h⟩ := h
      try simp only [W, c12, c13, c14, p1, p2, p3, p4, p5, p6, p7, p8, p9, p10, p11, p12]
      refine callR (impl_isOpen.ctr A) ?_
      replace h := ifT h; rcases h with ⟨rfl, h⟩ | ⟨rfl, h⟩
      · replace h := ifS h; rcases h with ⟨c17, h⟩ | ⟨c17, h⟩
        · try simp only [W, c12, c13, c14, c17, p1, p2, p3, p4, p5, p6, p7, p8, p9, p10, p11, p12]
          exact nextN (x6, x4, x5, (wrap64 (x6 + 1)), x7, x8, x9, x10, x11) [] n1 (by omega) h (by simp only [W, p1, p2, p3, p4, p5, p6, p7, p8, p9, p10, p11, p12] <;> trivial) (by simp only [W, p1, p2, p3, p4, p5, p6, p7, p8, p9, p10, p11, p12] <;> trivial) rfl
        · replace h := ifN h; obtain ⟨c18, h⟩ := h
          replace h := ifN h; obtain ⟨c19, h⟩ := h
          replace h := ifS h; rcases h with ⟨c20, h⟩ | ⟨c20, h⟩
          · try simp only [W, c12, c13, c14, c17, c18, c19, c20, p1, p2, p3, p4, p5, p6, p7, p8, p9, p10, p11, p12]
            exact nextN (x6, x4, x5, (wrap64 (x6 + 1)), x7, x8, x9, x10, x11) [] n1 (by omega) h (by simp only [W, p1, p2, p3, p4, p5, p6, p7, p8, p9, p10, p11, p12] <;> trivial) (by simp only [W, p1, p2, p3, p4, p5, p6, p7, p8, p9, p10, p11, p12] <;> trivial) rfl
          · try simp only [W, c12, c13, c14, c17, c18, c19, c20, p1, p2, p3, p4, p5, p6, p7, p8, p9, p10, p11, p12]
            exact nextN (x3, x4, x5, (wrap64 (x6 + 1)), x7, x8, x9, x10, x11) [] n1 (by omega) h (by simp only [W, p1, p2, p3, p4, p5, p6, p7, p8, p9, p10, p11, p12] <;> trivial) (by simp only [W, p1, p2, p3, p4, p5, p6, p7, p8, p9, p10, p11, p12] <;> trivial) rfl
      · try simp only [W, c12, c13, c14, p1, p2, p3, p4, p5, p6, p7, p8, p9, p10, p11, p12]
        exact nextN (x3, x4, x5, (wrap64 (x6 + 1)), x7, x8, x9, x10, x11) [] n1 (by omega) h (by simp only [W, p1, p2, p3, p4, p5, p6, p7, p8, p9, p10, p11, p12] <;> trivial) (by simp only [W, p1, p2, p3, p4, p5, p6, p7, p8, p9, p10, p11, p12] <;> trivial) rfl
    · cases h
      try simp only [W, c12, p1, p2, p3, p4, p5, p6, p7, p8, p9, p10, p11, p12]
  · cases h
    try simp only [W, p1, p2, p3, p4, p5, p6, p7, p8, p9, p10, p11, p12]
end Go.Proofs.YtkindoepnganmaaGreat.F
end

section
namespace Go.Proofs.YtkindoepnganmaaGreat.F
open Go.RowKit Go.Proofs.YtkindoepnganmaaGreatW.PrintWords Go.Proofs.YtkindoepnganmaaGreatW.PrintLast Go.Proofs.YtkindoepnganmaaGreatW.PrintMore
set_option linter.unusedVariables false
set_option linter.unusedSimpArgs false
attribute [local go_sem] max2_int min2_int max_two min_two
set_option maxRecDepth 20000 in set_option maxHeartbeats 4000000 in open Nat renaming reduceAdd → p1, reduceSub → p2, reduceMul → p3, reduceDiv → p4, reduceBNe → p5, reduceBEq → p6, reduceEqDiff → p7, reduceLeDiff → p8, reduceLT → p9 in open Int renaming reduceLE → p10, reduceLT → p11, reduceEq → p12 in
theorem impl_NextDay.ctr {k : Nat} {a0_0 : Int} {a0_1 : Int} {a0_2 : Int} {l0_3 : List Int} {a0_4 : Int} {a0_5 : Int} {l0_6 : List Int} {a0_7 : Int} {a1 : Int} {r1 : Int} {r2 : Int} {r3 : Int} {r4 : List Int} {r5 : Int} {r6 : Int} {r7 : List Int} {r8 : Int} {r9 : Bool} (h : impl_NextDay.f k a0_0 a0_1 a0_2 l0_3 a0_4 a0_5 l0_6 a0_7 a1 = some (r1, r2, r3, r4, r5, r6, r7, r8, r9)) : Ctr Tryz.prog 27 [.ag [.v (.int .i64 a0_0), .v (.int .i64 a0_1), .v (.int .i64 a0_2), .pr 1 (l0_3.map eI), .v (.int .i64 a0_4), .v (.int .i64 a0_5), .pr 1 (l0_6.map eI), .v (.int .i64 a0_7)], .v (.int .i64 a1)] (.tu [.ag [.v (.int .i64 r1), .v (.int .i64 r2), .v (.int .i64 r3), .ow 3 1 (r4.map eI), .v (.int .i64 r5), .v (.int .i64 r6), .ow 3 1 (r7.map eI), .v (.int .i64 r8)], .v (.bool r9)]) := by
  refine Ctr_of tyOk hm Tryz.func27 rfl rfl (by kernel_rfl) (n := 51) (rv := [.cell 4 38, .tmp 5]) rfl rfl ?_
  simp only [W, List.replicate]
  unfold impl_NextDay.f at h
  replace h := bnd h; obtain ⟨⟨t1_1, t1_2, t1_3, t1_4, t1_5, t1_6, t1_7, t1_8⟩, A, h⟩ := h
  dsimp only at h
  try simp only [W, p1, p2, p3, p4, p5, p6, p7, p8, p9, p10, p11, p12]
  refine callR (impl_copyGarden.ctr A) ?_
  replace h := bnd h; obtain ⟨t2, A, h⟩ := h
  try simp only [W, p1, p2, p3, p4, p5, p6, p7, p8, p9, p10, p11, p12]
  refine callR (impl_GardenOk.ctr A) ?_
  replace h := ifT h; rcases h with ⟨rfl, h⟩ | ⟨rfl, h⟩
  · replace h := ifS h; rcases h with ⟨c4, h⟩ | ⟨c4, h⟩
    · rcases k with _ | m5; · cases h
      rw [impl_NextDay.j0] at h
      rw [if_pos rfl] at h
      cases h
      try simp only [W, c4, p1, p2, p3, p4, p5, p6, p7, p8, p9, p10, p11, p12]
    · replace h := ifS h; rcases h with ⟨c7, h⟩ | ⟨c7, h⟩
      · rcases k with _ | m8; · cases h
        rw [impl_NextDay.j0] at h
        rw [if_pos rfl] at h
        cases h
        try simp only [W, c4, c7, p1, p2, p3, p4, p5, p6, p7, p8, p9, p10, p11, p12]
      · rcases k with _ | m10; · cases h
        rw [impl_NextDay.j0] at h
        replace h := ifT h; rcases h with ⟨c11, h⟩ | ⟨c11, h⟩
        · cases h
          try simp only [W, c4, c7, c11, p1, p2, p3, p4, p5, p6, p7, p8, p9, p10, p11, p12]
        · replace h := bnd h; obtain ⟨⟨t12_1, t12_2, t12_3, t12_4, t12_5, t12_6⟩, A, h⟩ := h
          dsimp only at h
          try simp only [W, c4, c7, c11, p1, p2, p3, p4, p5, p6, p7, p8, p9, p10, p11, p12]
          refine callR (impl_GrowHedge.ctr A) ?_
          try simp only [W, c4, c7, c11, p1, p2, p3, p4, p5, p6, p7, p8, p9, p10, p11, p12]
          refine loopN (fun x : Int × Int × Int × List Int × Int × Int × List Int × Int × Int × Int × Int × List Int × Int × Int × Int × Int × List Int × Int × Int × List Int × Int × Int × Int × Int × Int × Int × Int => [.u, .u, .bp 32 0, .u, .bp 64 0, .u, .bp 96 0, .bp 112 0, .u, .u, .u, .u, .u, .u, .u, .u, .u, .u, .u, .u, .u, .u, .u, .bp 32 7, .u, .u, .u, .u, .u, .bp 32 0, .u, .u, .u, .u, .u, .u, .u, .u, .u, .u, .u, .u, .u, .u, .u, .u, .u, .u, .u, .u, .u, .u, .u]) (fun x => [(32, .box 38 [.v (.int .i64 x.2.2.2.2.2.2.2.2.2.2.2.2.2.1), .v (.int .i64 x.2.2.2.2.2.2.2.2.2.2.2.2.2.2.1), .v (.int .i64 x.2.2.2.2.2.2.2.2.2.2.2.2.2.2.2.1), .pr 1 (List.map eI x.2.2.2.2.2.2.2.2.2.2.2.2.2.2.2.2.1), .v (.int .i64 x.2.2.2.2.2.2.2.2.2.2.2.2.2.2.2.2.2.1), .v (.int .i64 x.2.2.2.2.2.2.2.2.2.2.2.2.2.2.2.2.2.2.1), .pr 1 (List.map eI x.2.2.2.2.2.2.2.2.2.2.2.2.2.2.2.2.2.2.2.1), .v (.int .i64 x.2.2.2.2.2.2.2.2.2.2.2.2.2.2.2.2.2.2.2.2.1)]), (64, .box 38 [.v (.int .i64 x.2.2.2.2.2.2.2.2.2.2.2.2.2.2.2.2.2.2.2.2.2.1), .v (.int .i64 x.2.2.2.2.2.2.2.2.2.2.2.2.2.2.2.2.2.2.2.2.2.2.1), .v (.int .i64 x.2.2.2.2.2.2.2.2.2.2.2.2.2.2.2.2.2.2.2.2.2.2.2.1), .v (Value.slice none 0 0), .v (.int .i64 x.2.2.2.2.2.2.2.2.2.2.2.2.2.2.2.2.2.2.2.2.2.2.2.2.1), .v (.int .i64 x.2.2.2.2.2.2.2.2.2.2.2.2.2.2.2.2.2.2.2.2.2.2.2.2.2.1), .v (Value.slice none 0 0), .v (.int .i64 x.2.2.2.2.2.2.2.2.2.2.2.2.2.2.2.2.2.2.2.2.2.2.2.2.2.2)]), (96, .box 38 [.v (.int .i64 x.1), .v (.int .i64 x.2.1), .v (.int .i64 x.2.2.1), .lo 160, .v (.int .i64 x.2.2.2.2.1), .v (.int .i64 x.2.2.2.2.2.1), .lo 161, .v (.int .i64 x.2.2.2.2.2.2.2.1)]), (112, .box 36 [.v (.int .i64 x.2.2.2.2.2.2.2.2.1), .v (.int .i64 x.2.2.2.2.2.2.2.2.2.1), .v (.int .i64 x.2.2.2.2.2.2.2.2.2.2.1), .lo 512, .v (.int .i64 x.2.2.2.2.2.2.2.2.2.2.2.2.1)]), (160, .row 3 1 (List.map eI x.2.2.2.1)), (161, .row 3 1 (List.map eI x.2.2.2.2.2.2.1)), (512, .row 3 1 (List.map eI x.2.2.2.2.2.2.2.2.2.2.2.1))]) (fun n x => impl_NextDay.l0 n x.1 x.2.1 x.2.2.1 x.2.2.2.1 x.2.2.2.2.1 x.2.2.2.2.2.1 x.2.2.2.2.2.2.1 x.2.2.2.2.2.2.2.1 x.2.2.2.2.2.2.2.2.1 x.2.2.2.2.2.2.2.2.2.1 x.2.2.2.2.2.2.2.2.2.2.1 x.2.2.2.2.2.2.2.2.2.2.2.1 x.2.2.2.2.2.2.2.2.2.2.2.2.1 = some (r1, r2, r3, r4, r5, r6, r7, r8, r9)) (t1_1, t1_2, t1_3, t1_4, t1_5, t1_6, t1_7, t1_8, t12_1, t12_2, t12_3, t12_4, t12_5, a0_0, a0_1, a0_2, (l0_3), a0_4, a0_5, (l0_6), a0_7, 0, 0, 0, 0, 0, 0) [] h (by simp only [W, p1, p2, p3, p4, p5, p6, p7, p8, p9, p10, p11, p12] <;> trivial) (by simp only [W, p1, p2, p3, p4, p5, p6, p7, p8, p9, p10, p11, p12] <;> trivial) rfl (fun _ h => by cases h) ?_
          intro n1 ⟨x13, x14, x15, x16, x17, x18, x19, x20, x21, x22, x23, x24, x25, y26, y27, y28, y29, y30, y31, y32, y33, y34, y35, y36, y37, y38, y39⟩ _ h
          simp only [impl_NextDay.l0] at h
          replace h := bnd h; obtain ⟨⟨t40_1, t40_2, t40_3⟩, A, h⟩ := h
          dsimp only at h
          try simp only [W, p1, p2, p3, p4, p5, p6, p7, p8, p9, p10, p11, p12]
          refine callR (impl_OpenNow.ctr A) ?_
          replace h := bnd h; obtain ⟨t41, A, h⟩ := h
          try simp only [W, p1, p2, p3, p4, p5, p6, p7, p8, p9, p10, p11, p12]
          refine callR (impl_IsConnected.ctr A) ?_
          replace h := ifT h; rcases h with ⟨rfl, h⟩ | ⟨rfl, h⟩
          · cases h
            try simp only [W, p1, p2, p3, p4, p5, p6, p7, p8, p9, p10, p11, p12]
          · replace h := bnd h; obtain ⟨t43, A, h⟩ := h
            try simp only [W, p1, p2, p3, p4, p5, p6, p7, p8, p9, p10, p11, p12]
            refine callR (impl_NextToCut.ctr A) ?_
            replace h := bnd h; obtain ⟨⟨t44_1, t44_2, t44_3, t44_4, t44_5, t44_6⟩, A, h⟩ := h
            dsimp only at h
            try simp only [W, p1, p2, p3, p4, p5, p6, p7, p8, p9, p10, p11, p12]
            refine callR (impl_CutHedge.ctr A) ?_
            try simp only [W, p1, p2, p3, p4, p5, p6, p7, p8, p9, p10, p11, p12]
            exact nextN (x13, x14, x15, x16, x17, x18, x19, x20, t44_1, t44_2, t44_3, t44_4, t44_5, y26, y27, y28, (y29), y30, y31, (y32), y33, y34, y35, y36, y37, y38, y39) [(512, 688)] n1 (by omega) h (by simp only [W, p1, p2, p3, p4, p5, p6, p7, p8, p9, p10, p11, p12] <;> trivial) (by simp only [W, p1, p2, p3, p4, p5, p6, p7, p8, p9, p10, p11, p12] <;> trivial) rfl
  · rcases k with _ | m45; · cases h
    rw [impl_NextDay.j0] at h
    rw [if_pos rfl] at h
    cases h
    try simp only [W, p1, p2, p3, p4, p5, p6, p7, p8, p9, p10, p11, p12]
end Go.Proofs.YtkindoepnganmaaGreat.F
end

section
namespace Go.Proofs.YtkindoepnganmaaGreat.F
open Go.RowKit Go.Proofs.YtkindoepnganmaaGreatW.PrintWords Go.Proofs.YtkindoepnganmaaGreatW.PrintLast Go.Proofs.YtkindoepnganmaaGreatW.PrintMore
set_option linter.unusedVariables false
set_option linter.unusedSimpArgs false
attribute [local go_sem] max2_int min2_int max_two min_two
set_option maxRecDepth 20000
set_option maxHeartbeats 4000000
open Nat renaming reduceAdd → p1, reduceSub → p2, reduceMul → p3, reduceDiv → p4, reduceBNe → p5, reduceBEq → p6, reduceEqDiff → p7, reduceLeDiff → p8, reduceLT → p9
open Int renaming reduceLE → p10, reduceLT → p11, reduceEq → p12
theorem laws_big.ctr {l0 : List Int} {r : Bool} (h : laws_big.f l0 = some r) : Ctr Tryz.prog 45 [.pr 1 (l0.map eU8)] (.v (.bool r)) := by
  refine Ctr_of tyOk hm Tryz.func45 rfl rfl (by kernel_rfl) (n := 5) (rv := [.tmp 2]) rfl rfl ?_
  simp only [W, List.replicate]
  unfold laws_big.f at h
  cases h
  try simp only [W, p1, p2, p3, p4, p5, p6, p7, p8, p9, p10, p11, p12]
theorem spec_l01Byte.mark {s0_0 : List Int} {s0_1 : Int} {s0_2 : Int} {r1 : Int} {r2 : Int} {r3 : Int} {i : Nat} (h : spec_l01Byte.f s0_0 s0_1 s0_2 = some (r1, r2, r3)) : CtrB Tryz.prog 143 [.bp i 0] [(i, .box 127 [.pr 1 (s0_0.map eU8), .v (.int .i64 s0_1), .v (.int .i64 s0_2)])] (.v (.int .i64 r1)) [(i, .box 127 [.pr 1 (s0_0.map eU8), .v (.int .i64 r2), .v (.int .i64 r3)])] := by
  refine CtrB_ren (CtrB_of tyOk hm Tryz.func143 rfl rfl (by kernel_rfl) (args := [.bp 15 0]) (n := 57) (rv := [.tmp 2]) rfl rfl rfl rfl (by simp) rfl ?_) rfl rfl rfl
  simp only [W, List.replicate]
  unfold spec_l01Byte.f at h
  replace h := ifS h; rcases h with ⟨c1, h⟩ | ⟨c1, h⟩
  · replace h := ifN h; obtain ⟨c2, h⟩ := h
    cases h
    try simp only [W, c1, c2, p1, p2, p3, p4, p5, p6, p7, p8, p9, p10, p11, p12]
  · cases h
    try simp only [W, c1, p1, p2, p3, p4, p5, p6, p7, p8, p9, p10, p11, p12]
theorem spec_l01Below.mark {s0_0 : List Int} {s0_1 : Int} {s0_2 : Int} {a1 : Int} {r1 : Int} {r2 : Int} {r3 : Int} {i : Nat} (h : spec_l01Below.f s0_0 s0_1 s0_2 a1 = some (r1, r2, r3)) : CtrB Tryz.prog 104 [.bp i 0, .v (.int .i64 a1)] [(i, .box 127 [.pr 1 (s0_0.map eU8), .v (.int .i64 s0_1), .v (.int .i64 s0_2)])] (.v (.int .i64 r1)) [(i, .box 127 [.pr 1 (s0_0.map eU8), .v (.int .i64 r2), .v (.int .i64 r3)])] := by
  refine CtrB_ren (CtrB_of tyOk hm Tryz.func104 rfl rfl (by kernel_rfl) (args := [.bp 15 0, .v (.int .i64 a1)]) (n := 35) (rv := [.tmp 4]) rfl rfl rfl rfl (by simp) rfl ?_) rfl rfl rfl
  simp only [W, List.replicate]
  unfold spec_l01Below.f at h
  replace h := ifS h; rcases h with ⟨c1, h⟩ | ⟨c1, h⟩
  · cases h
    try simp only [W, c1, p1, p2, p3, p4, p5, p6, p7, p8, p9, p10, p11, p12]
  · replace h := ifS h; rcases h with ⟨c2, h⟩ | ⟨c2, h⟩
    · replace h := bnd h; obtain ⟨⟨t3_1, t3_2, t3_3⟩, A, h⟩ := h
      dsimp only at h
      try simp only [W, c1, c2, p1, p2, p3, p4, p5, p6, p7, p8, p9, p10, p11, p12]
      refine callM (spec_l01Byte.mark A) (by first | exact .inl rfl | exact .inr rfl) (by simp only [W, p1, p2, p3, p4, p5, p6, p7, p8, p9, p10, p11, p12] <;> trivial) ?_
      try simp only [W, c1, c2, p1, p2, p3, p4, p5, p6, p7, p8, p9, p10, p11, p12]
      replace h := ifM h; obtain ⟨c4, h⟩ := h
      cases h
      try simp only [W, c1, c2, c4, p1, p2, p3, p4, p5, p6, p7, p8, p9, p10, p11, p12]
    · replace h := bnd h; obtain ⟨⟨t3_1, t3_2, t3_3⟩, A, h⟩ := h
      dsimp only at h
      try simp only [W, c1, c2, p1, p2, p3, p4, p5, p6, p7, p8, p9, p10, p11, p12]
      refine callM (spec_l01Byte.mark A) (by first | exact .inl rfl | exact .inr rfl) (by simp only [W, p1, p2, p3, p4, p5, p6, p7, p8, p9, p10, p11, p12] <;> trivial) ?_
      try simp only [W, c1, c2, p1, p2, p3, p4, p5, p6, p7, p8, p9, p10, p11, p12]
      replace h := bnd h; obtain ⟨⟨t4_1, t4_2, t4_3⟩, A, h⟩ := h
      dsimp only at h
      try simp only [W, c1, c2, p1, p2, p3, p4, p5, p6, p7, p8, p9, p10, p11, p12]
      refine callM (spec_l01Byte.mark A) (by first | exact .inl rfl | exact .inr rfl) (by simp only [W, p1, p2, p3, p4, p5, p6, p7, p8, p9, p10, p11, p12] <;> trivial) ?_
      try simp only [W, c1, c2, p1, p2, p3, p4, p5, p6, p7, p8, p9, p10, p11, p12]
      replace h := bnd h; obtain ⟨⟨t5_1, t5_2, t5_3⟩, A, h⟩ := h
      dsimp only at h
      try simp only [W, c1, c2, p1, p2, p3, p4, p5, p6, p7, p8, p9, p10, p11, p12]
      refine callM (spec_l01Byte.mark A) (by first | exact .inl rfl | exact .inr rfl) (by simp only [W, p1, p2, p3, p4, p5, p6, p7, p8, p9, p10, p11, p12] <;> trivial) ?_
      try simp only [W, c1, c2, p1, p2, p3, p4, p5, p6, p7, p8, p9, p10, p11, p12]
      replace h := bnd h; obtain ⟨⟨t6_1, t6_2, t6_3⟩, A, h⟩ := h
      dsimp only at h
      try simp only [W, c1, c2, p1, p2, p3, p4, p5, p6, p7, p8, p9, p10, p11, p12]
      refine callM (spec_l01Byte.mark A) (by first | exact .inl rfl | exact .inr rfl) (by simp only [W, p1, p2, p3, p4, p5, p6, p7, p8, p9, p10, p11, p12] <;> trivial) ?_
      try simp only [W, c1, c2, p1, p2, p3, p4, p5, p6, p7, p8, p9, p10, p11, p12]
      replace h := ifM h; obtain ⟨c7, h⟩ := h
      cases h
      try simp only [W, c1, c2, c7, p1, p2, p3, p4, p5, p6, p7, p8, p9, p10, p11, p12]
theorem spec_FullMaze.ctr {a0_0 : Int} {a0_1 : Int} {r1 : Int} {r2 : Int} {r3 : Int} (h : spec_FullMaze.f a0_0 a0_1 = some (r1, r2, r3)) : Ctr Tryz.prog 127 [.ag [.v (.int .i64 a0_0), .v (.int .i64 a0_1)]] (.ag [.v (.int .i64 r1), .v (.int .i64 r2), .v (.int .i64 r3)]) := by
  refine Ctr_of tyOk hm Tryz.func127 rfl rfl (by kernel_rfl) (n := 12) (rv := [.cell 2 34]) rfl rfl ?_
  simp only [W, List.replicate]
  unfold spec_FullMaze.f at h
  replace h := bnd h; obtain ⟨t1, A, h⟩ := h
  try simp only [W, p1, p2, p3, p4, p5, p6, p7, p8, p9, p10, p11, p12]
  refine callR (spec_GridOk.ctr A) ?_
  replace h := ifT h; rcases h with ⟨rfl, h⟩ | ⟨rfl, h⟩
  · replace h := bnd h; obtain ⟨t3, A, h⟩ := h
    try simp only [W, p1, p2, p3, p4, p5, p6, p7, p8, p9, p10, p11, p12]
    refine callR (spec_CountGaps.ctr A) ?_
    replace h := ifN h; obtain ⟨c4, h⟩ := h
    cases h
    try simp only [W, c4, p1, p2, p3, p4, p5, p6, p7, p8, p9, p10, p11, p12]
  · cases h
    try simp only [W, p1, p2, p3, p4, p5, p6, p7, p8, p9, p10, p11, p12]
theorem spec_l01PickInt.mark {s0_0 : List Int} {s0_1 : Int} {s0_2 : Int} {l1 : List Int} {r1 : Int} {r2 : Int} {r3 : Int} {i j : Nat} (h : spec_l01PickInt.f s0_0 s0_1 s0_2 l1 = some (r1, r2, r3)) (hn : nodB [i, j] = true) : CtrB Tryz.prog 163 [.bp i 0, .lo j] [(i, .box 127 [.pr 1 (s0_0.map eU8), .v (.int .i64 s0_1), .v (.int .i64 s0_2)]), (j, .row 3 1 (l1.map eI))] (.v (.int .i64 r1)) [(i, .box 127 [.pr 1 (s0_0.map eU8), .v (.int .i64 r2), .v (.int .i64 r3)]), (j, .row 3 1 (l1.map eI))] := by
  refine CtrB_ren2 (CtrB_of tyOk hm Tryz.func163 rfl rfl (by kernel_rfl) (args := [.bp 15 0, .lo 31]) (n := 10) (rv := [.tmp 4]) rfl rfl (by simp) rfl (by simp) rfl ?_) hn rfl rfl rfl
  simp only [W, List.replicate]
  unfold spec_l01PickInt.f at h
  replace h := bnd h; obtain ⟨⟨t1_1, t1_2, t1_3⟩, A, h⟩ := h
  dsimp only at h
  try simp only [W, p1, p2, p3, p4, p5, p6, p7, p8, p9, p10, p11, p12]
  refine callM (spec_l01Below.mark A) (by first | exact .inl rfl | exact .inr rfl) (by simp only [W, p1, p2, p3, p4, p5, p6, p7, p8, p9, p10, p11, p12] <;> trivial) ?_
  try simp only [W, p1, p2, p3, p4, p5, p6, p7, p8, p9, p10, p11, p12]
  replace h := ifN h; obtain ⟨c2, h⟩ := h
  replace h := ifN h; obtain ⟨c3, h⟩ := h
  cases h
  try simp only [W, c2, c3, p1, p2, p3, p4, p5, p6, p7, p8, p9, p10, p11, p12]
theorem spec_l02Grid.mark {s0_0 : List Int} {s0_1 : Int} {s0_2 : Int} {r1 : Int} {r2 : Int} {r3 : Int} {r4 : Int} {i : Nat} (h : spec_l02Grid.f s0_0 s0_1 s0_2 = some (r1, r2, r3, r4)) : CtrB Tryz.prog 154 [.bp i 0] [(i, .box 127 [.pr 1 (s0_0.map eU8), .v (.int .i64 s0_1), .v (.int .i64 s0_2)])] (.ag [.v (.int .i64 r1), .v (.int .i64 r2)]) [(i, .box 127 [.pr 1 (s0_0.map eU8), .v (.int .i64 r3), .v (.int .i64 r4)])] := by
  refine CtrB_ren (CtrB_of tyOk hm Tryz.func154 rfl rfl (by kernel_rfl) (args := [.bp 15 0]) (n := 11) (rv := [.cell 2 32]) rfl rfl (by simp) rfl (by simp) rfl ?_) rfl rfl rfl
  simp only [W, List.replicate]
  unfold spec_l02Grid.f at h
  replace h := bnd h; obtain ⟨⟨t1_1, t1_2, t1_3⟩, A, h⟩ := h
  dsimp only at h
  try simp only [W, p1, p2, p3, p4, p5, p6, p7, p8, p9, p10, p11, p12]
  refine callM (spec_l01PickInt.mark A (by rfl)) (by first | exact .inl rfl | exact .inr rfl) (by simp only [W, p1, p2, p3, p4, p5, p6, p7, p8, p9, p10, p11, p12] <;> trivial) ?_
  try simp only [W, p1, p2, p3, p4, p5, p6, p7, p8, p9, p10, p11, p12]
  replace h := bnd h; obtain ⟨⟨t2_1, t2_2, t2_3⟩, A, h⟩ := h
  dsimp only at h
  try simp only [W, p1, p2, p3, p4, p5, p6, p7, p8, p9, p10, p11, p12]
  refine callM (spec_l01PickInt.mark A (by rfl)) (by first | exact .inl rfl | exact .inr rfl) (by simp only [W, p1, p2, p3, p4, p5, p6, p7, p8, p9, p10, p11, p12] <;> trivial) ?_
  try simp only [W, p1, p2, p3, p4, p5, p6, p7, p8, p9, p10, p11, p12]
  cases h
  try simp only [W, p1, p2, p3, p4, p5, p6, p7, p8, p9, p10, p11, p12]
theorem spec_l12Maze.mark {k : Nat} {s0_0 : List Int} {s0_1 : Int} {s0_2 : Int} {r1 : Int} {r2 : Int} {r3 : Int} {r4 : Int} {r5 : Int} {i : Nat} (h : spec_l12Maze.f k s0_0 s0_1 s0_2 = some (r1, r2, r3, r4, r5)) : CtrB Tryz.prog 126 [.bp i 0] [(i, .box 127 [.pr 1 (s0_0.map eU8), .v (.int .i64 s0_1), .v (.int .i64 s0_2)])] (.ag [.v (.int .i64 r1), .v (.int .i64 r2), .v (.int .i64 r3)]) [(i, .box 127 [.pr 1 (s0_0.map eU8), .v (.int .i64 r4), .v (.int .i64 r5)])] := by
  refine CtrB_ren (CtrB_of tyOk hm Tryz.func126 rfl rfl (by kernel_rfl) (args := [.bp 15 0]) (n := 30) (rv := [.cell 2 34]) rfl rfl (by simp) rfl (by simp) rfl ?_) rfl rfl rfl
  simp only [W, List.replicate]
  unfold spec_l12Maze.f at h
  replace h := bnd h; obtain ⟨⟨t1_1, t1_2, t1_3, t1_4⟩, A, h⟩ := h
  dsimp only at h
  try simp only [W, p1, p2, p3, p4, p5, p6, p7, p8, p9, p10, p11, p12]
  try refine ⟨(by kernel_rfl : rchk _ _ _ = true), ?_⟩
  refine callM (spec_l02Grid.mark A) (by first | exact .inl rfl | exact .inr rfl) (by simp only [W, p1, p2, p3, p4, p5, p6, p7, p8, p9, p10, p11, p12] <;> trivial) ?_
  try simp only [W, p1, p2, p3, p4, p5, p6, p7, p8, p9, p10, p11, p12]
  replace h := bnd h; obtain ⟨⟨t2_1, t2_2, t2_3⟩, A, h⟩ := h
  dsimp only at h
  try simp only [W, p1, p2, p3, p4, p5, p6, p7, p8, p9, p10, p11, p12]
  try refine ⟨(by kernel_rfl : rchk _ _ _ = true), ?_⟩
  refine callR (spec_FullMaze.ctr A) ?_
  replace h := bnd h; obtain ⟨t3, A, h⟩ := h
  try simp only [W, p1, p2, p3, p4, p5, p6, p7, p8, p9, p10, p11, p12]
  try refine ⟨(by kernel_rfl : rchk _ _ _ = true), ?_⟩
  refine callR (spec_CountGaps.ctr A) ?_
  replace h := bnd h; obtain ⟨⟨t4_1, t4_2, t4_3⟩, A, h⟩ := h
  dsimp only at h
  try simp only [W, p1, p2, p3, p4, p5, p6, p7, p8, p9, p10, p11, p12]
  try refine ⟨(by kernel_rfl : rchk _ _ _ = true), ?_⟩
  refine callM (spec_l01Below.mark A) (by first | exact .inl rfl | exact .inr rfl) (by simp only [W, p1, p2, p3, p4, p5, p6, p7, p8, p9, p10, p11, p12] <;> trivial) ?_
  try simp only [W, p1, p2, p3, p4, p5, p6, p7, p8, p9, p10, p11, p12]
  try simp only [W, p1, p2, p3, p4, p5, p6, p7, p8, p9, p10, p11, p12]
  refine loopN (fun x : Int × Int × Int × Int × Int × Int × Int × Int × Int × Int => [.bp 15 0, .u, .bp 32 0, .bp 48 0, .v (.int .i64 x.1), .v (.int .i64 x.2.1), .bp 15 0, .u, .u, .bp 48 0, .u, .u, .bp 15 0, .u, .u, .u, .u, .u, .u, .u, .u, .u, .u, .u, .u, .u, .u, .u, .u, .u, .u]) (fun x => [(15, .box 127 [.pr 1 (List.map eU8 s0_0), .v (.int .i64 x.2.2.1), .v (.int .i64 x.2.2.2.1)]), (32, .box 34 [.v (.int .i64 x.2.2.2.2.2.2.2.1), .v (.int .i64 x.2.2.2.2.2.2.2.2.1), .v (.int .i64 x.2.2.2.2.2.2.2.2.2)]), (48, .box 34 [.v (.int .i64 x.2.2.2.2.1), .v (.int .i64 x.2.2.2.2.2.1), .v (.int .i64 x.2.2.2.2.2.2.1)])]) (fun n x => spec_l12Maze.l0 n x.1 x.2.1 s0_0 x.2.2.1 x.2.2.2.1 x.2.2.2.2.1 x.2.2.2.2.2.1 x.2.2.2.2.2.2.1 = some (r1, r2, r3, r4, r5)) (t3, t4_1, t4_2, t4_3, t2_1, t2_2, t2_3, 0, 0, 0) [] h (by simp only [W, p1, p2, p3, p4, p5, p6, p7, p8, p9, p10, p11, p12] <;> trivial) (by simp only [W, p1, p2, p3, p4, p5, p6, p7, p8, p9, p10, p11, p12] <;> trivial) rfl (fun _ h => by cases h) ?_
  intro n1 ⟨x5, x6, x7, x8, x9, x10, x11, y12, y13, y14⟩ _ h
  simp only [spec_l12Maze.l0] at h
  replace h := ifS h; rcases h with ⟨c15, h⟩ | ⟨c15, h⟩
  · rcases n1 with _ | m16; · cases h
    rw [spec_l12Maze.j1] at h
    replace h := ifT h; rcases h with ⟨c17, h⟩ | ⟨c17, h⟩
    · replace h := bnd h; obtain ⟨⟨t18_1, t18_2, t18_3⟩, A, h⟩ := h
      dsimp only at h
      try simp only [W, c15, c17, p1, p2, p3, p4, p5, p6, p7, p8, p9, p10, p11, p12]
      try refine ⟨(by kernel_rfl : rchk _ _ _ = true), ?_⟩
      refine callM (spec_l01Below.mark A) (by first | exact .inl rfl | exact .inr rfl) (by simp only [W, p1, p2, p3, p4, p5, p6, p7, p8, p9, p10, p11, p12] <;> trivial) ?_
      try simp only [W, c15, c17, p1, p2, p3, p4, p5, p6, p7, p8, p9, p10, p11, p12]
      replace h := bnd h; obtain ⟨⟨t19_1, t19_2, t19_3, t19_4⟩, A, h⟩ := h
      dsimp only at h
      try simp only [W, c15, c17, p1, p2, p3, p4, p5, p6, p7, p8, p9, p10, p11, p12]
      try refine ⟨(by kernel_rfl : rchk _ _ _ = true), ?_⟩
      refine callR (spec_SetGap.ctr A) ?_
      try simp only [W, c15, c17, p1, p2, p3, p4, p5, p6, p7, p8, p9, p10, p11, p12]
      exact nextN (x5, (wrap64 (x6 - 1)), t18_2, t18_3, t19_1, t19_2, t19_3, y12, y13, y14) [] m16 (by omega) h (by simp only [W, p1, p2, p3, p4, p5, p6, p7, p8, p9, p10, p11, p12] <;> trivial) (by simp only [W, p1, p2, p3, p4, p5, p6, p7, p8, p9, p10, p11, p12] <;> trivial) rfl
    · cases h
      try simp only [W, c15, c17, p1, p2, p3, p4, p5, p6, p7, p8, p9, p10, p11, p12]
  · rcases n1 with _ | m16; · cases h
    rw [spec_l12Maze.j1] at h
    rw [if_neg (by decide)] at h
    cases h
    try simp only [W, c15, p1, p2, p3, p4, p5, p6, p7, p8, p9, p10, p11, p12]
end Go.Proofs.YtkindoepnganmaaGreat.F
end

section
namespace Go.Proofs.YtkindoepnganmaaGreat.F
open Go.RowKit Go.Proofs.YtkindoepnganmaaGreatW.PrintWords Go.Proofs.YtkindoepnganmaaGreatW.PrintLast Go.Proofs.YtkindoepnganmaaGreatW.PrintMore
set_option linter.unusedVariables false
set_option linter.unusedSimpArgs false
attribute [local go_sem] max2_int min2_int max_two min_two
set_option maxRecDepth 20000
set_option maxHeartbeats 4000000
open Nat renaming reduceAdd → p1, reduceSub → p2, reduceMul → p3, reduceDiv → p4, reduceBNe → p5, reduceBEq → p6, reduceEqDiff → p7, reduceLeDiff → p8, reduceLT → p9
open Int renaming reduceLE → p10, reduceLT → p11, reduceEq → p12
theorem spec_NewGarden.ctr {k : Nat} {a0_0 : Int} {a0_1 : Int} {a0_2 : Int} {a1 : Int} {a2 : Int} {r1 : Int} {r2 : Int} {r3 : Int} {r4 : List Int} {r5 : Int} {r6 : Int} {r7 : List Int} {r8 : Int} {r9 : Bool} (h : spec_NewGarden.f k a0_0 a0_1 a0_2 a1 a2 = some (r1, r2, r3, r4, r5, r6, r7, r8, r9)) : Ctr Tryz.prog 128 [.ag [.v (.int .i64 a0_0), .v (.int .i64 a0_1), .v (.int .i64 a0_2)], .v (.int .i64 a1), .v (.int .i64 a2)] (.tu [.ag [.v (.int .i64 r1), .v (.int .i64 r2), .v (.int .i64 r3), .ow 3 1 (r4.map eI), .v (.int .i64 r5), .v (.int .i64 r6), .ow 3 1 (r7.map eI), .v (.int .i64 r8)], .v (.bool r9)]) := by
  refine Ctr_of tyOk hm Tryz.func128 rfl rfl (by kernel_rfl) (n := 26) (rv := [.cell 6 38, .tmp 7]) rfl rfl ?_
  simp only [W, List.replicate]
  unfold spec_NewGarden.f at h
  replace h := bnd h; obtain ⟨t1, A, h⟩ := h
  try simp only [W, p1, p2, p3, p4, p5, p6, p7, p8, p9, p10, p11, p12]
  refine callR (spec_MazeOk.ctr A) ?_
  replace h := ifT h; rcases h with ⟨rfl, h⟩ | ⟨rfl, h⟩
  · replace h := bnd h; obtain ⟨t3, A, h⟩ := h
    try simp only [W, p1, p2, p3, p4, p5, p6, p7, p8, p9, p10, p11, p12]
    refine callR (spec_CountGaps.ctr A) ?_
    replace h := ifN h; obtain ⟨c4, h⟩ := h
    replace h := ifN h; obtain ⟨c5, h⟩ := h
    rw [Option.bind_some] at h
    replace h := bnd h; obtain ⟨t6, A, h⟩ := h
    try simp only [W, c4, c5, p1, p2, p3, p4, p5, p6, p7, p8, p9, p10, p11, p12]
    refine callR (spec_GardenOk.ctr A) ?_
    replace h := ifT h; rcases h with ⟨rfl, h⟩ | ⟨rfl, h⟩
    · cases h
      try simp only [W, c4, c5, p1, p2, p3, p4, p5, p6, p7, p8, p9, p10, p11, p12]
    · cases h
      try simp only [W, c4, c5, p1, p2, p3, p4, p5, p6, p7, p8, p9, p10, p11, p12]
  · cases h
    try simp only [W, p1, p2, p3, p4, p5, p6, p7, p8, p9, p10, p11, p12]
theorem spec_l01Once.mark {s0_0 : List Int} {s0_1 : Int} {s0_2 : Int} {a1 : Int} {r1 : Bool} {r2 : Int} {r3 : Int} {i : Nat} (h : spec_l01Once.f s0_0 s0_1 s0_2 a1 = some (r1, r2, r3)) : CtrB Tryz.prog 130 [.bp i 0, .v (.int .i64 a1)] [(i, .box 127 [.pr 1 (s0_0.map eU8), .v (.int .i64 s0_1), .v (.int .i64 s0_2)])] (.v (.bool r1)) [(i, .box 127 [.pr 1 (s0_0.map eU8), .v (.int .i64 r2), .v (.int .i64 r3)])] := by
  refine CtrB_ren (CtrB_of tyOk hm Tryz.func130 rfl rfl (by kernel_rfl) (args := [.bp 15 0, .v (.int .i64 a1)]) (n := 7) (rv := [.tmp 4]) rfl rfl rfl rfl (by simp) rfl ?_) rfl rfl rfl
  simp only [W, List.replicate]
  unfold spec_l01Once.f at h
  replace h := bnd h; obtain ⟨⟨t1_1, t1_2, t1_3⟩, A, h⟩ := h
  dsimp only at h
  try simp only [W, p1, p2, p3, p4, p5, p6, p7, p8, p9, p10, p11, p12]
  refine callM (spec_l01Below.mark A) (by first | exact .inl rfl | exact .inr rfl) (by simp only [W, p1, p2, p3, p4, p5, p6, p7, p8, p9, p10, p11, p12] <;> trivial) ?_
  try simp only [W, p1, p2, p3, p4, p5, p6, p7, p8, p9, p10, p11, p12]
  cases h
  try simp only [W, p1, p2, p3, p4, p5, p6, p7, p8, p9, p10, p11, p12]
end Go.Proofs.YtkindoepnganmaaGreat.F
end

section
namespace Go.Proofs.YtkindoepnganmaaGreat.F
open Go.RowKit Go.Proofs.YtkindoepnganmaaGreatW.PrintWords Go.Proofs.YtkindoepnganmaaGreatW.PrintLast Go.Proofs.YtkindoepnganmaaGreatW.PrintMore
set_option linter.unusedVariables false
set_option linter.unusedSimpArgs false
attribute [local go_sem] max2_int min2_int max_two min_two
set_option maxRecDepth 20000 in set_option maxHeartbeats 4000000 in open Nat renaming reduceAdd → p1, reduceSub → p2, reduceMul → p3, reduceDiv → p4, reduceBNe → p5, reduceBEq → p6, reduceEqDiff → p7, reduceLeDiff → p8, reduceLT → p9 in open Int renaming reduceLE → p10, reduceLT → p11, reduceEq → p12 in
theorem spec_MoveOne.ctr {k : Nat} {a0_0 : Int} {a0_1 : Int} {a0_2 : Int} {l1 : List Int} {a2 : Int} {a3 : Int} {r1 : List Int} {r2 : Bool} (h : spec_MoveOne.f k a0_0 a0_1 a0_2 l1 a2 a3 = some (r1, r2)) : Ctr Tryz.prog 71 [.ag [.v (.int .i64 a0_0), .v (.int .i64 a0_1), .v (.int .i64 a0_2)], .pr 1 (l1.map eI), .v (.int .i64 a2), .v (.int .i64 a3)] (.tu [.ow 3 1 (r1.map eI), .v (.bool r2)]) := by
  refine Ctr_of tyOk hm Tryz.func71 rfl rfl (by kernel_rfl) (n := 43) (rv := [.tmp 8, .tmp 9]) rfl rfl ?_
  simp only [W, List.replicate]
  unfold spec_MoveOne.f at h
  replace h := bnd h; obtain ⟨t1, A, h⟩ := h
  try simp only [W, p1, p2, p3, p4, p5, p6, p7, p8, p9, p10, p11, p12]
  refine callR (spec_l28Copy.ctr A) ?_
  replace h := bnd h; obtain ⟨t2, A, h⟩ := h
  try simp only [W, p1, p2, p3, p4, p5, p6, p7, p8, p9, p10, p11, p12]
  refine callR (spec_CrowdOk.ctr A) ?_
  replace h := ifT h; rcases h with ⟨rfl, h⟩ | ⟨rfl, h⟩
  · replace h := bnd h; obtain ⟨t4, A, h⟩ := h
    try simp only [W, p1, p2, p3, p4, p5, p6, p7, p8, p9, p10, p11, p12]
    refine callR (spec_l01In.ctr A) ?_
    rcases k with _ | m5; · cases h
    rw [spec_MoveOne.j0] at h
    replace h := ifT h; rcases h with ⟨c6, h⟩ | ⟨c6, h⟩
    · cases h
      try simp only [W, c6, p1, p2, p3, p4, p5, p6, p7, p8, p9, p10, p11, p12]
    · replace h := ifN h; obtain ⟨c7, h⟩ := h
      replace h := ifN h; obtain ⟨c8, h⟩ := h
      replace h := bnd h; obtain ⟨t9, A, h⟩ := h
      try simp only [W, c6, c7, c8, p1, p2, p3, p4, p5, p6, p7, p8, p9, p10, p11, p12]
      refine callR (spec_Step.ctr A) ?_
      replace h := ifS h; rcases h with ⟨c10, h⟩ | ⟨c10, h⟩
      · cases h
        try simp only [W, c6, c7, c8, c10, p1, p2, p3, p4, p5, p6, p7, p8, p9, p10, p11, p12]
      · replace h := bnd h; obtain ⟨t11, A, h⟩ := h
        try simp only [W, c6, c7, c8, c10, p1, p2, p3, p4, p5, p6, p7, p8, p9, p10, p11, p12]
        refine callR (spec_l07In.ctr A) ?_
        replace h := ifT h; rcases h with ⟨rfl, h⟩ | ⟨rfl, h⟩
        · cases h
          try simp only [W, c6, c7, c8, c10, p1, p2, p3, p4, p5, p6, p7, p8, p9, p10, p11, p12]
        · replace h := ifN h; obtain ⟨c13, h⟩ := h
          cases h
          try simp only [W, c6, c7, c8, c10, c13, p1, p2, p3, p4, p5, p6, p7, p8, p9, p10, p11, p12]
  · rcases k with _ | m14; · cases h
    rw [spec_MoveOne.j0] at h
    rw [if_pos rfl] at h
    cases h
    try simp only [W, p1, p2, p3, p4, p5, p6, p7, p8, p9, p10, p11, p12]
end Go.Proofs.YtkindoepnganmaaGreat.F
end

section
namespace Go.Proofs.YtkindoepnganmaaGreat.F
open Go.RowKit Go.Proofs.YtkindoepnganmaaGreatW.PrintWords Go.Proofs.YtkindoepnganmaaGreatW.PrintLast Go.Proofs.YtkindoepnganmaaGreatW.PrintMore
set_option linter.unusedVariables false
set_option linter.unusedSimpArgs false
attribute [local go_sem] max2_int min2_int max_two min_two
set_option maxRecDepth 20000
set_option maxHeartbeats 4000000
open Nat renaming reduceAdd → p1, reduceSub → p2, reduceMul → p3, reduceDiv → p4, reduceBNe → p5, reduceBEq → p6, reduceEqDiff → p7, reduceLeDiff → p8, reduceLT → p9
open Int renaming reduceLE → p10, reduceLT → p11, reduceEq → p12
theorem spec_WalkIn.ctr {k : Nat} {a0_0 : Int} {a0_1 : Int} {a0_2 : Int} {l0_3 : List Int} {a0_4 : Int} {a0_5 : Int} {l0_6 : List Int} {a0_7 : Int} {a1 : Int} {a2 : Int} {r1 : Int} {r2 : Int} {r3 : Int} {r4 : List Int} {r5 : Int} {r6 : Int} {r7 : List Int} {r8 : Int} {r9 : Bool} (h : spec_WalkIn.f k a0_0 a0_1 a0_2 l0_3 a0_4 a0_5 l0_6 a0_7 a1 a2 = some (r1, r2, r3, r4, r5, r6, r7, r8, r9)) : Ctr Tryz.prog 24 [.ag [.v (.int .i64 a0_0), .v (.int .i64 a0_1), .v (.int .i64 a0_2), .pr 1 (l0_3.map eI), .v (.int .i64 a0_4), .v (.int .i64 a0_5), .pr 1 (l0_6.map eI), .v (.int .i64 a0_7)], .v (.int .i64 a1), .v (.int .i64 a2)] (.tu [.ag [.v (.int .i64 r1), .v (.int .i64 r2), .v (.int .i64 r3), .ow 3 1 (r4.map eI), .v (.int .i64 r5), .v (.int .i64 r6), .ow 3 1 (r7.map eI), .v (.int .i64 r8)], .v (.bool r9)]) := by
  refine Ctr_of tyOk hm Tryz.func24 rfl rfl (by kernel_rfl) (n := 29) (rv := [.cell 6 38, .tmp 7]) rfl rfl ?_
  simp only [W, List.replicate]
  unfold spec_WalkIn.f at h
  replace h := bnd h; obtain ⟨⟨t1_1, t1_2, t1_3, t1_4, t1_5, t1_6, t1_7, t1_8⟩, A, h⟩ := h
  dsimp only at h
  try simp only [W, p1, p2, p3, p4, p5, p6, p7, p8, p9, p10, p11, p12]
  refine callR (spec_l38Copy.ctr A) ?_
  replace h := bnd h; obtain ⟨t2, A, h⟩ := h
  try simp only [W, p1, p2, p3, p4, p5, p6, p7, p8, p9, p10, p11, p12]
  refine callR (spec_GardenOk.ctr A) ?_
  replace h := ifT h; rcases h with ⟨rfl, h⟩ | ⟨rfl, h⟩
  · replace h := bnd h; obtain ⟨⟨t4_1, t4_2, t4_3⟩, A, h⟩ := h
    dsimp only at h
    try simp only [W, p1, p2, p3, p4, p5, p6, p7, p8, p9, p10, p11, p12]
    refine callR (spec_OpenNow.ctr A) ?_
    replace h := bnd h; obtain ⟨⟨t5_1, t5_2⟩, A, h⟩ := h
    dsimp only at h
    try simp only [W, p1, p2, p3, p4, p5, p6, p7, p8, p9, p10, p11, p12]
    refine callR (spec_MoveOne.ctr A) ?_
    cases h
    try simp only [W, p1, p2, p3, p4, p5, p6, p7, p8, p9, p10, p11, p12]
  · cases h
    try simp only [W, p1, p2, p3, p4, p5, p6, p7, p8, p9, p10, p11, p12]
theorem slices_Contains_int.ctr {k : Nat} {l0 : List Int} {a1 : Int} {r : Bool} (h : slices_Contains_int.f k l0 a1 = some r) : Ctr Tryz.prog 118 [.pr 1 (l0.map eI), .v (.int .i64 a1)] (.v (.bool r)) := by
  refine Ctr_of tyOk hm Tryz.func118 rfl rfl (by kernel_rfl) (n := 7) (rv := [.tmp 4]) rfl rfl ?_
  simp only [W, List.replicate]
  unfold slices_Contains_int.f at h
  replace h := bnd h; obtain ⟨t1, A, h⟩ := h
  try simp only [W, p1, p2, p3, p4, p5, p6, p7, p8, p9, p10, p11, p12]
  refine callR (slices_Index_int.ctr A) ?_
  cases h
  try simp only [W, p1, p2, p3, p4, p5, p6, p7, p8, p9, p10, p11, p12]
end Go.Proofs.YtkindoepnganmaaGreat.F
end

section
namespace Go.Proofs.YtkindoepnganmaaGreat.F
open Go.RowKit Go.Proofs.YtkindoepnganmaaGreatW.PrintWords Go.Proofs.YtkindoepnganmaaGreatW.PrintLast Go.Proofs.YtkindoepnganmaaGreatW.PrintMore
set_option linter.unusedVariables false
set_option linter.unusedSimpArgs false
attribute [local go_sem] max2_int min2_int max_two min_two
set_option maxRecDepth 20000 in set_option maxHeartbeats 4000000 in open Nat renaming reduceAdd → p1, reduceSub → p2, reduceMul → p3, reduceDiv → p4, reduceBNe → p5, reduceBEq → p6, reduceEqDiff → p7, reduceLeDiff → p8, reduceLT → p9 in open Int renaming reduceLE → p10, reduceLT → p11, reduceEq → p12 in
theorem spec_Enter.ctr {k : Nat} {a0_0 : Int} {a0_1 : Int} {a0_2 : Int} {l0_3 : List Int} {a0_4 : Int} {a0_5 : Int} {l0_6 : List Int} {a0_7 : Int} {r1 : Int} {r2 : Int} {r3 : Int} {r4 : List Int} {r5 : Int} {r6 : Int} {r7 : List Int} {r8 : Int} {r9 : Bool} (h : spec_Enter.f k a0_0 a0_1 a0_2 l0_3 a0_4 a0_5 l0_6 a0_7 = some (r1, r2, r3, r4, r5, r6, r7, r8, r9)) : Ctr Tryz.prog 16 [.ag [.v (.int .i64 a0_0), .v (.int .i64 a0_1), .v (.int .i64 a0_2), .pr 1 (l0_3.map eI), .v (.int .i64 a0_4), .v (.int .i64 a0_5), .pr 1 (l0_6.map eI), .v (.int .i64 a0_7)]] (.tu [.ag [.v (.int .i64 r1), .v (.int .i64 r2), .v (.int .i64 r3), .ow 3 1 (r4.map eI), .v (.int .i64 r5), .v (.int .i64 r6), .ow 3 1 (r7.map eI), .v (.int .i64 r8)], .v (.bool r9)]) := by
  refine Ctr_of tyOk hm Tryz.func16 rfl rfl (by kernel_rfl) (n := 24) (rv := [.cell 2 38, .tmp 3]) rfl rfl ?_
  simp only [W, List.replicate]
  unfold spec_Enter.f at h
  replace h := bnd h; obtain ⟨⟨t1_1, t1_2, t1_3, t1_4, t1_5, t1_6, t1_7, t1_8⟩, A, h⟩ := h
  dsimp only at h
  try simp only [W, p1, p2, p3, p4, p5, p6, p7, p8, p9, p10, p11, p12]
  refine callR (spec_l38Copy.ctr A) ?_
  replace h := ifN h; obtain ⟨c2, h⟩ := h
  rw [Option.bind_some] at h
  replace h := bnd h; obtain ⟨t3, A, h⟩ := h
  try simp only [W, c2, p1, p2, p3, p4, p5, p6, p7, p8, p9, p10, p11, p12]
  refine callR (spec_GardenOk.ctr A) ?_
  replace h := ifT h; rcases h with ⟨rfl, h⟩ | ⟨rfl, h⟩
  · replace h := bnd h; obtain ⟨t5, A, h⟩ := h
    try simp only [W, c2, p1, p2, p3, p4, p5, p6, p7, p8, p9, p10, p11, p12]
    refine callR (spec_GardenOk.ctr A) ?_
    replace h := ifT h; rcases h with ⟨rfl, h⟩ | ⟨rfl, h⟩
    · cases h
      try simp only [W, c2, p1, p2, p3, p4, p5, p6, p7, p8, p9, p10, p11, p12]
    · replace h := bnd h; obtain ⟨⟨t7_1, t7_2, t7_3, t7_4, t7_5, t7_6, t7_7, t7_8⟩, A, h⟩ := h
      dsimp only at h
      try simp only [W, c2, p1, p2, p3, p4, p5, p6, p7, p8, p9, p10, p11, p12]
      refine callR (spec_l38Copy.ctr A) ?_
      cases h
      try simp only [W, c2, p1, p2, p3, p4, p5, p6, p7, p8, p9, p10, p11, p12]
  · replace h := bnd h; obtain ⟨⟨t8_1, t8_2, t8_3, t8_4, t8_5, t8_6, t8_7, t8_8⟩, A, h⟩ := h
    dsimp only at h
    try simp only [W, c2, p1, p2, p3, p4, p5, p6, p7, p8, p9, p10, p11, p12]
    refine callR (spec_l38Copy.ctr A) ?_
    cases h
    try simp only [W, c2, p1, p2, p3, p4, p5, p6, p7, p8, p9, p10, p11, p12]
end Go.Proofs.YtkindoepnganmaaGreat.F
end

section
namespace Go.Proofs.YtkindoepnganmaaGreat.F
open Go.RowKit Go.Proofs.YtkindoepnganmaaGreatW.PrintWords Go.Proofs.YtkindoepnganmaaGreatW.PrintLast Go.Proofs.YtkindoepnganmaaGreatW.PrintMore
set_option linter.unusedVariables false
set_option linter.unusedSimpArgs false
attribute [local go_sem] max2_int min2_int max_two min_two
set_option maxRecDepth 20000 in set_option maxHeartbeats 4000000 in open Nat renaming reduceAdd → p1, reduceSub → p2, reduceMul → p3, reduceDiv → p4, reduceBNe → p5, reduceBEq → p6, reduceEqDiff → p7, reduceLeDiff → p8, reduceLT → p9 in open Int renaming reduceLE → p10, reduceLT → p11, reduceEq → p12 in
theorem spec_GrowHedge.ctr {k : Nat} {a0_0 : Int} {a0_1 : Int} {a0_2 : Int} {l0_3 : List Int} {a0_4 : Int} {a1 : Int} {r1 : Int} {r2 : Int} {r3 : Int} {r4 : List Int} {r5 : Int} {r6 : Bool} (h : spec_GrowHedge.f k a0_0 a0_1 a0_2 l0_3 a0_4 a1 = some (r1, r2, r3, r4, r5, r6)) : Ctr Tryz.prog 74 [.ag [.v (.int .i64 a0_0), .v (.int .i64 a0_1), .v (.int .i64 a0_2), .pr 1 (l0_3.map eI), .v (.int .i64 a0_4)], .v (.int .i64 a1)] (.tu [.ag [.v (.int .i64 r1), .v (.int .i64 r2), .v (.int .i64 r3), .ow 3 1 (r4.map eI), .v (.int .i64 r5)], .v (.bool r6)]) := by
  refine Ctr_of tyOk hm Tryz.func74 rfl rfl (by kernel_rfl) (n := 37) (rv := [.cell 4 36, .tmp 5]) rfl rfl ?_
  simp only [W, List.replicate]
  unfold spec_GrowHedge.f at h
  replace h := bnd h; obtain ⟨⟨t1_1, t1_2, t1_3, t1_4, t1_5⟩, A, h⟩ := h
  dsimp only at h
  try simp only [W, p1, p2, p3, p4, p5, p6, p7, p8, p9, p10, p11, p12]
  refine callR (spec_l30Copy.ctr A) ?_
  replace h := bnd h; obtain ⟨t2, A, h⟩ := h
  try simp only [W, p1, p2, p3, p4, p5, p6, p7, p8, p9, p10, p11, p12]
  refine callR (spec_HedgeOk.ctr A) ?_
  replace h := ifT h; rcases h with ⟨rfl, h⟩ | ⟨rfl, h⟩
  · replace h := bnd h; obtain ⟨t4, A, h⟩ := h
    try simp only [W, p1, p2, p3, p4, p5, p6, p7, p8, p9, p10, p11, p12]
    refine callR (spec_l01In.ctr A) ?_
    rcases k with _ | m5; · cases h
    rw [spec_GrowHedge.j0] at h
    replace h := ifT h; rcases h with ⟨c6, h⟩ | ⟨c6, h⟩
    · cases h
      try simp only [W, c6, p1, p2, p3, p4, p5, p6, p7, p8, p9, p10, p11, p12]
    · try simp only [W, c6, p1, p2, p3, p4, p5, p6, p7, p8, p9, p10, p11, p12]
      refine loopN (fun x : Int × Int × Int × Int × Int × List Int × Int × Int × Int × Int × List Int × Int × Int × Int × Int × Int => [.u, .v (.int .i64 x.1), .bp 32 0, .u, .bp 64 0, .u, .bp 96 0, .v (.int .i64 x.2.1), .u, .u, .u, .u, .u, .u, .u, .u, .u, .u, .u, .u, .u, .u, .u, .u, .u, .u, .u, .u, .u, .u, .u, .u, .u, .u, .u, .u, .u, .u, .u]) (fun x => [(32, .box 36 [.v (.int .i64 x.2.2.2.2.2.2.2.1), .v (.int .i64 x.2.2.2.2.2.2.2.2.1), .v (.int .i64 x.2.2.2.2.2.2.2.2.2.1), .pr 1 (List.map eI x.2.2.2.2.2.2.2.2.2.2.1), .v (.int .i64 x.2.2.2.2.2.2.2.2.2.2.2.1)]), (64, .box 36 [.v (.int .i64 x.2.2.2.2.2.2.2.2.2.2.2.2.1), .v (.int .i64 x.2.2.2.2.2.2.2.2.2.2.2.2.2.1), .v (.int .i64 x.2.2.2.2.2.2.2.2.2.2.2.2.2.2.1), .v (Value.slice none 0 0), .v (.int .i64 x.2.2.2.2.2.2.2.2.2.2.2.2.2.2.2)]), (96, .box 36 [.v (.int .i64 x.2.2.1), .v (.int .i64 x.2.2.2.1), .v (.int .i64 x.2.2.2.2.1), .lo 144, .v (.int .i64 x.2.2.2.2.2.2.1)]), (144, .row 3 1 (List.map eI x.2.2.2.2.2.1))]) (fun n x => spec_GrowHedge.l0 n x.1 x.2.1 x.2.2.1 x.2.2.2.1 x.2.2.2.2.1 x.2.2.2.2.2.1 x.2.2.2.2.2.2.1 = some (r1, r2, r3, r4, r5, r6)) (a1, 0, t1_1, t1_2, t1_3, t1_4, t1_5, a0_0, a0_1, a0_2, (l0_3), a0_4, 0, 0, 0, 0) [] h (by simp only [W, p1, p2, p3, p4, p5, p6, p7, p8, p9, p10, p11, p12] <;> trivial) (by simp only [W, p1, p2, p3, p4, p5, p6, p7, p8, p9, p10, p11, p12] <;> trivial) rfl (fun _ h => by cases h) ?_
      intro n1 ⟨x7, x8, x9, x10, x11, x12, x13, y14, y15, y16, y17, y18, y19, y20, y21, y22⟩ _ h
      simp only [spec_GrowHedge.l0] at h
      replace h := ifS h; rcases h with ⟨c23, h⟩ | ⟨c23, h⟩
      · replace h := ifN h; obtain ⟨c24, h⟩ := h
        try simp only [W, c23, c24, p1, p2, p3, p4, p5, p6, p7, p8, p9, p10, p11, p12]
        exact nextN (x7, (wrap64 (x8 + 1)), x9, x10, x11, (x12.set (x8 : Int).toNat (mn 1000 (wrap64 ((rd x12 x8) + x7)))), x13, y14, y15, y16, (y17), y18, y19, y20, y21, y22) [] n1 (by omega) h (by simp only [W, p1, p2, p3, p4, p5, p6, p7, p8, p9, p10, p11, p12] <;> trivial) (by simp only [W, p1, p2, p3, p4, p5, p6, p7, p8, p9, p10, p11, p12] <;> trivial) rfl
      · cases h
        try simp only [W, c23, p1, p2, p3, p4, p5, p6, p7, p8, p9, p10, p11, p12]
  · rcases k with _ | m25; · cases h
    rw [spec_GrowHedge.j0] at h
    rw [if_pos rfl] at h
    cases h
    try simp only [W, p1, p2, p3, p4, p5, p6, p7, p8, p9, p10, p11, p12]
end Go.Proofs.YtkindoepnganmaaGreat.F
end

section
namespace Go.Proofs.YtkindoepnganmaaGreat.F
open Go.RowKit Go.Proofs.YtkindoepnganmaaGreatW.PrintWords Go.Proofs.YtkindoepnganmaaGreatW.PrintLast Go.Proofs.YtkindoepnganmaaGreatW.PrintMore
set_option linter.unusedVariables false
set_option linter.unusedSimpArgs false
attribute [local go_sem] max2_int min2_int max_two min_two
set_option maxRecDepth 20000
set_option maxHeartbeats 4000000
open Nat renaming reduceAdd → p1, reduceSub → p2, reduceMul → p3, reduceDiv → p4, reduceBNe → p5, reduceBEq → p6, reduceEqDiff → p7, reduceLeDiff → p8, reduceLT → p9
open Int renaming reduceLE → p10, reduceLT → p11, reduceEq → p12
theorem spec_CutHedge.ctr {k : Nat} {a0_0 : Int} {a0_1 : Int} {a0_2 : Int} {l0_3 : List Int} {a0_4 : Int} {a1 : Int} {r1 : Int} {r2 : Int} {r3 : Int} {r4 : List Int} {r5 : Int} {r6 : Bool} (h : spec_CutHedge.f k a0_0 a0_1 a0_2 l0_3 a0_4 a1 = some (r1, r2, r3, r4, r5, r6)) : Ctr Tryz.prog 76 [.ag [.v (.int .i64 a0_0), .v (.int .i64 a0_1), .v (.int .i64 a0_2), .pr 1 (l0_3.map eI), .v (.int .i64 a0_4)], .v (.int .i64 a1)] (.tu [.ag [.v (.int .i64 r1), .v (.int .i64 r2), .v (.int .i64 r3), .ow 3 1 (r4.map eI), .v (.int .i64 r5)], .v (.bool r6)]) := by
  refine Ctr_of tyOk hm Tryz.func76 rfl rfl (by kernel_rfl) (n := 25) (rv := [.cell 4 36, .tmp 5]) rfl rfl ?_
  simp only [W, List.replicate]
  unfold spec_CutHedge.f at h
  replace h := bnd h; obtain ⟨⟨t1_1, t1_2, t1_3, t1_4, t1_5⟩, A, h⟩ := h
  dsimp only at h
  try simp only [W, p1, p2, p3, p4, p5, p6, p7, p8, p9, p10, p11, p12]
  refine callR (spec_l30Copy.ctr A) ?_
  replace h := bnd h; obtain ⟨t2, A, h⟩ := h
  try simp only [W, p1, p2, p3, p4, p5, p6, p7, p8, p9, p10, p11, p12]
  refine callR (spec_HedgeOk.ctr A) ?_
  replace h := ifT h; rcases h with ⟨rfl, h⟩ | ⟨rfl, h⟩
  · replace h := bnd h; obtain ⟨t4, A, h⟩ := h
    try simp only [W, p1, p2, p3, p4, p5, p6, p7, p8, p9, p10, p11, p12]
    refine callR (spec_l01In.ctr A) ?_
    replace h := ifT h; rcases h with ⟨rfl, h⟩ | ⟨rfl, h⟩
    · replace h := ifN h; obtain ⟨c6, h⟩ := h
      replace h := ifN h; obtain ⟨c7, h⟩ := h
      cases h
      try simp only [W, c6, c7, p1, p2, p3, p4, p5, p6, p7, p8, p9, p10, p11, p12]
    · cases h
      try simp only [W, p1, p2, p3, p4, p5, p6, p7, p8, p9, p10, p11, p12]
  · cases h
    try simp only [W, p1, p2, p3, p4, p5, p6, p7, p8, p9, p10, p11, p12]
theorem spec_NextToCut.ctr {k : Nat} {a0_0 : Int} {a0_1 : Int} {a0_2 : Int} {l0_3 : List Int} {a0_4 : Int} {r : Int} (h : spec_NextToCut.f k a0_0 a0_1 a0_2 l0_3 a0_4 = some r) : Ctr Tryz.prog 77 [.ag [.v (.int .i64 a0_0), .v (.int .i64 a0_1), .v (.int .i64 a0_2), .pr 1 (l0_3.map eI), .v (.int .i64 a0_4)]] (.v (.int .i64 r)) := by
  refine Ctr_of tyOk hm Tryz.func77 rfl rfl (by kernel_rfl) (n := 39) (rv := [.tmp 2]) rfl rfl ?_
  simp only [W, List.replicate]
  unfold spec_NextToCut.f at h
  try simp only [W, p1, p2, p3, p4, p5, p6, p7, p8, p9, p10, p11, p12]
  refine loopN (fun x : Int × Int × Int × Int × Int × List Int × Int => [.u, .bp 16 0, .u, .v (.int .i64 x.1), .v (.int .i64 x.2.1), .u, .u, .u, .u, .u, .u, .u, .u, .u, .u, .u, .u, .u, .u, .u, .u, .u, .u, .u, .u, .u, .u, .u, .u, .u, .u, .u, .u, .u, .u, .u, .u, .u, .u, .u]) (fun x => [(16, .box 36 [.v (.int .i64 x.2.2.1), .v (.int .i64 x.2.2.2.1), .v (.int .i64 x.2.2.2.2.1), .pr 1 (List.map eI x.2.2.2.2.2.1), .v (.int .i64 x.2.2.2.2.2.2)])]) (fun n x => spec_NextToCut.l0 n x.1 x.2.1 x.2.2.1 x.2.2.2.1 x.2.2.2.2.1 x.2.2.2.2.2.1 x.2.2.2.2.2.2 = some r) ((-1), 0, a0_0, a0_1, a0_2, l0_3, a0_4) [] h (by simp only [W, p1, p2, p3, p4, p5, p6, p7, p8, p9, p10, p11, p12] <;> trivial) (by simp only [W, p1, p2, p3, p4, p5, p6, p7, p8, p9, p10, p11, p12] <;> trivial) rfl (fun _ h => by cases h) ?_
  intro n1 ⟨x1, x2, x3, x4, x5, x6, x7⟩ _ h
  simp only [spec_NextToCut.l0] at h
  replace h := ifS h; rcases h with ⟨c8, h⟩ | ⟨c8, h⟩
  · replace h := bnd h; obtain ⟨t9, A, h⟩ := h
    try simp only [W, c8, p1, p2, p3, p4, p5, p6, p7, p8, p9, p10, p11, p12]
    refine callR (spec_HedgeOk.ctr A) ?_
    rcases n1 with _ | m10; · cases h
    rw [spec_NextToCut.j1] at h
    replace h := ifT h; rcases h with ⟨rfl, h⟩ | ⟨rfl, h⟩
    · replace h := bnd h; obtain ⟨t12, A, h⟩ := h
      try simp only [W, c8, p1, p2, p3, p4, p5, p6, p7, p8, p9, p10, p11, p12]
      refine callR (spec_l03Bit.ctr A) ?_
      replace h := ifT h; rcases h with ⟨rfl, h⟩ | ⟨rfl, h⟩
      · replace h := ifS h; rcases h with ⟨c14, h⟩ | ⟨c14, h⟩
        · try simp only [W, c8, c14, p1, p2, p3, p4, p5, p6, p7, p8, p9, p10, p11, p12]
          exact nextN (x2, (wrap64 (x2 + 1)), x3, x4, x5, x6, x7) [] m10 (by omega) h (by simp only [W, p1, p2, p3, p4, p5, p6, p7, p8, p9, p10, p11, p12] <;> trivial) (by simp only [W, p1, p2, p3, p4, p5, p6, p7, p8, p9, p10, p11, p12] <;> trivial) rfl
        · replace h := ifN h; obtain ⟨c15, h⟩ := h
          replace h := ifN h; obtain ⟨c16, h⟩ := h
          replace h := ifN h; obtain ⟨c17, h⟩ := h
          replace h := ifN h; obtain ⟨c18, h⟩ := h
          replace h := ifS h; rcases h with ⟨c19, h⟩ | ⟨c19, h⟩
          · try simp only [W, c8, c14, c15, c16, c17, c18, c19, p1, p2, p3, p4, p5, p6, p7, p8, p9, p10, p11, p12]
            exact nextN (x2, (wrap64 (x2 + 1)), x3, x4, x5, x6, x7) [] m10 (by omega) h (by simp only [W, p1, p2, p3, p4, p5, p6, p7, p8, p9, p10, p11, p12] <;> trivial) (by simp only [W, p1, p2, p3, p4, p5, p6, p7, p8, p9, p10, p11, p12] <;> trivial) rfl
          · try simp only [W, c8, c14, c15, c16, c17, c18, c19, p1, p2, p3, p4, p5, p6, p7, p8, p9, p10, p11, p12]
            exact nextN (x1, (wrap64 (x2 + 1)), x3, x4, x5, x6, x7) [] m10 (by omega) h (by simp only [W, p1, p2, p3, p4, p5, p6, p7, p8, p9, p10, p11, p12] <;> trivial) (by simp only [W, p1, p2, p3, p4, p5, p6, p7, p8, p9, p10, p11, p12] <;> trivial) rfl
      · try simp only [W, c8, p1, p2, p3, p4, p5, p6, p7, p8, p9, p10, p11, p12]
        exact nextN (x1, (wrap64 (x2 + 1)), x3, x4, x5, x6, x7) [] m10 (by omega) h (by simp only [W, p1, p2, p3, p4, p5, p6, p7, p8, p9, p10, p11, p12] <;> trivial) (by simp only [W, p1, p2, p3, p4, p5, p6, p7, p8, p9, p10, p11, p12] <;> trivial) rfl
    · cases h
      try simp only [W, c8, p1, p2, p3, p4, p5, p6, p7, p8, p9, p10, p11, p12]
  · rcases n1 with _ | m20; · cases h
    rw [spec_NextToCut.j1] at h
    rw [if_neg (by decide)] at h
    cases h
    try simp only [W, c8, p1, p2, p3, p4, p5, p6, p7, p8, p9, p10, p11, p12]
end Go.Proofs.YtkindoepnganmaaGreat.F
end

section
namespace Go.Proofs.YtkindoepnganmaaGreat.F
open Go.RowKit Go.Proofs.YtkindoepnganmaaGreatW.PrintWords Go.Proofs.YtkindoepnganmaaGreatW.PrintLast Go.Proofs.YtkindoepnganmaaGreatW.PrintMore
set_option linter.unusedVariables false
set_option linter.unusedSimpArgs false
attribute [local go_sem] max2_int min2_int max_two min_two
set_option maxRecDepth 20000 in set_option maxHeartbeats 4000000 in open Nat renaming reduceAdd → p1, reduceSub → p2, reduceMul → p3, reduceDiv → p4, reduceBNe → p5, reduceBEq → p6, reduceEqDiff → p7, reduceLeDiff → p8, reduceLT → p9 in open Int renaming reduceLE → p10, reduceLT → p11, reduceEq → p12 in
theorem spec_NextDay.ctr {k : Nat} {a0_0 : Int} {a0_1 : Int} {a0_2 : Int} {l0_3 : List Int} {a0_4 : Int} {a0_5 : Int} {l0_6 : List Int} {a0_7 : Int} {a1 : Int} {r1 : Int} {r2 : Int} {r3 : Int} {r4 : List Int} {r5 : Int} {r6 : Int} {r7 : List Int} {r8 : Int} {r9 : Bool} (h : spec_NextDay.f k a0_0 a0_1 a0_2 l0_3 a0_4 a0_5 l0_6 a0_7 a1 = some (r1, r2, r3, r4, r5, r6, r7, r8, r9)) : Ctr Tryz.prog 26 [.ag [.v (.int .i64 a0_0), .v (.int .i64 a0_1), .v (.int .i64 a0_2), .pr 1 (l0_3.map eI), .v (.int .i64 a0_4), .v (.int .i64 a0_5), .pr 1 (l0_6.map eI), .v (.int .i64 a0_7)], .v (.int .i64 a1)] (.tu [.ag [.v (.int .i64 r1), .v (.int .i64 r2), .v (.int .i64 r3), .ow 3 1 (r4.map eI), .v (.int .i64 r5), .v (.int .i64 r6), .ow 3 1 (r7.map eI), .v (.int .i64 r8)], .v (.bool r9)]) := by
  refine Ctr_of tyOk hm Tryz.func26 rfl rfl (by kernel_rfl) (n := 49) (rv := [.cell 4 38, .tmp 5]) rfl rfl ?_
  simp only [W, List.replicate]
  unfold spec_NextDay.f at h
  replace h := bnd h; obtain ⟨⟨t1_1, t1_2, t1_3, t1_4, t1_5, t1_6, t1_7, t1_8⟩, A, h⟩ := h
  dsimp only at h
  try simp only [W, p1, p2, p3, p4, p5, p6, p7, p8, p9, p10, p11, p12]
  refine callR (spec_l38Copy.ctr A) ?_
  replace h := bnd h; obtain ⟨t2, A, h⟩ := h
  try simp only [W, p1, p2, p3, p4, p5, p6, p7, p8, p9, p10, p11, p12]
  refine callR (spec_GardenOk.ctr A) ?_
  replace h := ifT h; rcases h with ⟨rfl, h⟩ | ⟨rfl, h⟩
  · replace h := bnd h; obtain ⟨t4, A, h⟩ := h
    try simp only [W, p1, p2, p3, p4, p5, p6, p7, p8, p9, p10, p11, p12]
    refine callR (spec_l01In.ctr A) ?_
    replace h := ifT h; rcases h with ⟨rfl, h⟩ | ⟨rfl, h⟩
    · rcases k with _ | m6; · cases h
      rw [spec_NextDay.j0] at h
      replace h := ifT h; rcases h with ⟨c7, h⟩ | ⟨c7, h⟩
      · cases h
        try simp only [W, c7, p1, p2, p3, p4, p5, p6, p7, p8, p9, p10, p11, p12]
      · replace h := bnd h; obtain ⟨⟨t8_1, t8_2, t8_3, t8_4, t8_5, t8_6⟩, A, h⟩ := h
        dsimp only at h
        try simp only [W, c7, p1, p2, p3, p4, p5, p6, p7, p8, p9, p10, p11, p12]
        refine callR (spec_GrowHedge.ctr A) ?_
        try simp only [W, c7, p1, p2, p3, p4, p5, p6, p7, p8, p9, p10, p11, p12]
        refine loopN (fun x : Int × Int × Int × List Int × Int × Int × List Int × Int × Int × Int × Int × List Int × Int × Int × List Int × Int × Int × Int × Int × Int × Int × Int => [.u, .u, .bp 32 0, .u, .bp 64 0, .u, .bp 96 0, .u, .u, .u, .u, .u, .u, .u, .u, .u, .u, .u, .bp 32 7, .u, .u, .u, .u, .u, .bp 32 0, .u, .u, .u, .u, .u, .bp 96 0, .u, .u, .u, .u, .u, .u, .u, .u, .u, .u, .u, .u, .u, .u, .u, .u, .u, .u, .u, .u]) (fun x => [(32, .box 38 [.v (.int .i64 x.1), .v (.int .i64 x.2.1), .v (.int .i64 x.2.2.1), .pr 1 (List.map eI x.2.2.2.1), .v (.int .i64 x.2.2.2.2.1), .v (.int .i64 x.2.2.2.2.2.1), .pr 1 (List.map eI x.2.2.2.2.2.2.1), .v (.int .i64 x.2.2.2.2.2.2.2.1)]), (64, .box 38 [.v (.int .i64 x.2.2.2.2.2.2.2.2.2.2.2.2.2.2.2.2.1), .v (.int .i64 x.2.2.2.2.2.2.2.2.2.2.2.2.2.2.2.2.2.1), .v (.int .i64 x.2.2.2.2.2.2.2.2.2.2.2.2.2.2.2.2.2.2.1), .v (Value.slice none 0 0), .v (.int .i64 x.2.2.2.2.2.2.2.2.2.2.2.2.2.2.2.2.2.2.2.1), .v (.int .i64 x.2.2.2.2.2.2.2.2.2.2.2.2.2.2.2.2.2.2.2.2.1), .v (Value.slice none 0 0), .v (.int .i64 x.2.2.2.2.2.2.2.2.2.2.2.2.2.2.2.2.2.2.2.2.2)]), (96, .box 38 [.v (.int .i64 x.2.2.2.2.2.2.2.2.1), .v (.int .i64 x.2.2.2.2.2.2.2.2.2.1), .v (.int .i64 x.2.2.2.2.2.2.2.2.2.2.1), .lo 432, .v (.int .i64 x.2.2.2.2.2.2.2.2.2.2.2.2.1), .v (.int .i64 x.2.2.2.2.2.2.2.2.2.2.2.2.2.1), .lo 129, .v (.int .i64 x.2.2.2.2.2.2.2.2.2.2.2.2.2.2.2.1)]), (129, .row 3 1 (List.map eI x.2.2.2.2.2.2.2.2.2.2.2.2.2.2.1)), (432, .row 3 1 (List.map eI x.2.2.2.2.2.2.2.2.2.2.2.1))]) (fun n x => spec_NextDay.l0 n x.1 x.2.1 x.2.2.1 x.2.2.2.1 x.2.2.2.2.1 x.2.2.2.2.2.1 x.2.2.2.2.2.2.1 x.2.2.2.2.2.2.2.1 x.2.2.2.2.2.2.2.2.1 x.2.2.2.2.2.2.2.2.2.1 x.2.2.2.2.2.2.2.2.2.2.1 x.2.2.2.2.2.2.2.2.2.2.2.1 x.2.2.2.2.2.2.2.2.2.2.2.2.1 x.2.2.2.2.2.2.2.2.2.2.2.2.2.1 x.2.2.2.2.2.2.2.2.2.2.2.2.2.2.1 x.2.2.2.2.2.2.2.2.2.2.2.2.2.2.2.1 = some (r1, r2, r3, r4, r5, r6, r7, r8, r9)) (a0_0, a0_1, a0_2, l0_3, a0_4, a0_5, l0_6, a0_7, t8_1, t8_2, t8_3, t8_4, t8_5, t1_6, t1_7, t1_8, 0, 0, 0, 0, 0, 0) [] h (by simp only [W, p1, p2, p3, p4, p5, p6, p7, p8, p9, p10, p11, p12] <;> trivial) (by simp only [W, p1, p2, p3, p4, p5, p6, p7, p8, p9, p10, p11, p12] <;> trivial) rfl (fun _ h => by cases h) ?_
        intro n1 ⟨x9, x10, x11, x12, x13, x14, x15, x16, x17, x18, x19, x20, x21, x22, x23, x24, y25, y26, y27, y28, y29, y30⟩ _ h
        simp only [spec_NextDay.l0] at h
        replace h := bnd h; obtain ⟨⟨t31_1, t31_2, t31_3⟩, A, h⟩ := h
        dsimp only at h
        try simp only [W, p1, p2, p3, p4, p5, p6, p7, p8, p9, p10, p11, p12]
        refine callR (spec_OpenNow.ctr A) ?_
        replace h := bnd h; obtain ⟨t32, A, h⟩ := h
        try simp only [W, p1, p2, p3, p4, p5, p6, p7, p8, p9, p10, p11, p12]
        refine callR (spec_IsConnected.ctr A) ?_
        replace h := ifT h; rcases h with ⟨rfl, h⟩ | ⟨rfl, h⟩
        · cases h
          try simp only [W, p1, p2, p3, p4, p5, p6, p7, p8, p9, p10, p11, p12]
        · replace h := bnd h; obtain ⟨t34, A, h⟩ := h
          try simp only [W, p1, p2, p3, p4, p5, p6, p7, p8, p9, p10, p11, p12]
          refine callR (spec_NextToCut.ctr A) ?_
          replace h := bnd h; obtain ⟨⟨t35_1, t35_2, t35_3, t35_4, t35_5, t35_6⟩, A, h⟩ := h
          dsimp only at h
          try simp only [W, p1, p2, p3, p4, p5, p6, p7, p8, p9, p10, p11, p12]
          refine callR (spec_CutHedge.ctr A) ?_
          try simp only [W, p1, p2, p3, p4, p5, p6, p7, p8, p9, p10, p11, p12]
          exact nextN (x9, x10, x11, x12, x13, x14, x15, x16, t35_1, t35_2, t35_3, t35_4, t35_5, x22, x23, x24, y25, y26, y27, y28, y29, y30) [(432, 672)] n1 (by omega) h (by simp only [W, p1, p2, p3, p4, p5, p6, p7, p8, p9, p10, p11, p12] <;> trivial) (by simp only [W, p1, p2, p3, p4, p5, p6, p7, p8, p9, p10, p11, p12] <;> trivial) rfl
    · rcases k with _ | m36; · cases h
      rw [spec_NextDay.j0] at h
      rw [if_pos rfl] at h
      cases h
      try simp only [W, p1, p2, p3, p4, p5, p6, p7, p8, p9, p10, p11, p12]
  · rcases k with _ | m38; · cases h
    rw [spec_NextDay.j0] at h
    rw [if_pos rfl] at h
    cases h
    try simp only [W, p1, p2, p3, p4, p5, p6, p7, p8, p9, p10, p11, p12]
end Go.Proofs.YtkindoepnganmaaGreat.F
end

section
namespace Go.Proofs.YtkindoepnganmaaGreat.F
open Go.RowKit Go.Proofs.YtkindoepnganmaaGreatW.PrintWords Go.Proofs.YtkindoepnganmaaGreatW.PrintLast Go.Proofs.YtkindoepnganmaaGreatW.PrintMore
set_option linter.unusedVariables false
set_option linter.unusedSimpArgs false
attribute [local go_sem] max2_int min2_int max_two min_two
set_option maxRecDepth 20000 in set_option maxHeartbeats 4000000 in open Nat renaming reduceAdd → p1, reduceSub → p2, reduceMul → p3, reduceDiv → p4, reduceBNe → p5, reduceBEq → p6, reduceEqDiff → p7, reduceLeDiff → p8, reduceLT → p9 in open Int renaming reduceLE → p10, reduceLT → p11, reduceEq → p12 in
theorem spec_l38Garden.mark {k : Nat} {s0_0 : List Int} {s0_1 : Int} {s0_2 : Int} {r1 : Int} {r2 : Int} {r3 : Int} {r4 : List Int} {r5 : Int} {r6 : Int} {r7 : List Int} {r8 : Int} {r9 : Int} {r10 : Int} {i : Nat} (h : spec_l38Garden.f k s0_0 s0_1 s0_2 = some (r1, r2, r3, r4, r5, r6, r7, r8, r9, r10)) : CtrB Tryz.prog 91 [.bp i 0] [(i, .box 127 [.pr 1 (s0_0.map eU8), .v (.int .i64 s0_1), .v (.int .i64 s0_2)])] (.ag [.v (.int .i64 r1), .v (.int .i64 r2), .v (.int .i64 r3), .ow 3 1 (r4.map eI), .v (.int .i64 r5), .v (.int .i64 r6), .ow 3 1 (r7.map eI), .v (.int .i64 r8)]) [(i, .box 127 [.pr 1 (s0_0.map eU8), .v (.int .i64 r9), .v (.int .i64 r10)])] := by
  refine CtrB_ren (CtrB_of tyOk hm Tryz.func91 rfl rfl (by kernel_rfl) (args := [.bp 15 0]) (n := 75) (rv := [.cell 2 38]) rfl rfl (by simp) rfl (by simp) rfl ?_) rfl rfl rfl
  simp only [W, List.replicate]
  unfold spec_l38Garden.f at h
  replace h := bnd h; obtain ⟨⟨t1_1, t1_2, t1_3, t1_4, t1_5⟩, A, h⟩ := h
  dsimp only at h
  try simp only [W, p1, p2, p3, p4, p5, p6, p7, p8, p9, p10, p11, p12]
  try refine ⟨(by kernel_rfl : rchk _ _ _ = true), ?_⟩
  refine callM (spec_l12Maze.mark A) (by first | exact .inl rfl | exact .inr rfl) (by simp only [W, p1, p2, p3, p4, p5, p6, p7, p8, p9, p10, p11, p12] <;> trivial) ?_
  try simp only [W, p1, p2, p3, p4, p5, p6, p7, p8, p9, p10, p11, p12]
  replace h := bnd h; obtain ⟨t2, A, h⟩ := h
  try simp only [W, p1, p2, p3, p4, p5, p6, p7, p8, p9, p10, p11, p12]
  try refine ⟨(by kernel_rfl : rchk _ _ _ = true), ?_⟩
  refine callR (spec_IsConnected.ctr A) ?_
  replace h := ifT h; rcases h with ⟨rfl, h⟩ | ⟨rfl, h⟩
  · rcases k with _ | m4; · cases h
    rw [spec_l38Garden.j0] at h
    replace h := bnd h; obtain ⟨t5, A, h⟩ := h
    try simp only [W, p1, p2, p3, p4, p5, p6, p7, p8, p9, p10, p11, p12]
    try refine ⟨(by kernel_rfl : rchk _ _ _ = true), ?_⟩
    refine callR (spec_CountCells.ctr A) ?_
    replace h := bnd h; obtain ⟨⟨t6_1, t6_2, t6_3⟩, A, h⟩ := h
    dsimp only at h
    try simp only [W, p1, p2, p3, p4, p5, p6, p7, p8, p9, p10, p11, p12]
    try refine ⟨(by kernel_rfl : rchk _ _ _ = true), ?_⟩
    refine callM (spec_l01Below.mark A) (by first | exact .inl rfl | exact .inr rfl) (by simp only [W, p1, p2, p3, p4, p5, p6, p7, p8, p9, p10, p11, p12] <;> trivial) ?_
    try simp only [W, p1, p2, p3, p4, p5, p6, p7, p8, p9, p10, p11, p12]
    replace h := bnd h; obtain ⟨⟨t7_1, t7_2, t7_3⟩, A, h⟩ := h
    dsimp only at h
    try simp only [W, p1, p2, p3, p4, p5, p6, p7, p8, p9, p10, p11, p12]
    try refine ⟨(by kernel_rfl : rchk _ _ _ = true), ?_⟩
    refine callM (spec_l01Below.mark A) (by first | exact .inl rfl | exact .inr rfl) (by simp only [W, p1, p2, p3, p4, p5, p6, p7, p8, p9, p10, p11, p12] <;> trivial) ?_
    try simp only [W, p1, p2, p3, p4, p5, p6, p7, p8, p9, p10, p11, p12]
    replace h := bnd h; obtain ⟨⟨t8_1, t8_2, t8_3, t8_4, t8_5, t8_6, t8_7, t8_8, t8_9⟩, A, h⟩ := h
    dsimp only at h
    try simp only [W, p1, p2, p3, p4, p5, p6, p7, p8, p9, p10, p11, p12]
    try refine ⟨(by kernel_rfl : rchk _ _ _ = true), ?_⟩
    refine callR (spec_NewGarden.ctr A) ?_
    replace h := bnd h; obtain ⟨⟨t9_1, t9_2, t9_3⟩, A, h⟩ := h
    dsimp only at h
    try simp only [W, p1, p2, p3, p4, p5, p6, p7, p8, p9, p10, p11, p12]
    try refine ⟨(by kernel_rfl : rchk _ _ _ = true), ?_⟩
    refine callM (spec_l01Below.mark A) (by first | exact .inl rfl | exact .inr rfl) (by simp only [W, p1, p2, p3, p4, p5, p6, p7, p8, p9, p10, p11, p12] <;> trivial) ?_
    try simp only [W, p1, p2, p3, p4, p5, p6, p7, p8, p9, p10, p11, p12]
    try simp only [W, p1, p2, p3, p4, p5, p6, p7, p8, p9, p10, p11, p12]
    refine loopN (fun x : Int × Int × Int × Int × Int × Int × Int × List Int × Int × Int × List Int × Int × Int × Int × Int × Int × Int × Int × Int × Int × Int => [.bp 15 0, .u, .bp 32 0, .bp 48 0, .bp 64 0, .u, .v (.int .i64 x.1), .v (.int .i64 x.2.1), .u, .bp 15 0, .u, .u, .u, .u, .u, .u, .u, .u, .u, .bp 15 0, .bp 48 0, .u, .u, .u, .bp 15 0, .u, .u, .u, .u, .u, .bp 15 0, .u, .u, .u, .u, .u, .u, .u, .u, .u, .u, .u, .u, .u, .u, .u, .u, .u, .u, .u, .u, .u, .u, .u, .u, .u, .u, .u, .u, .u, .u, .u, .u, .u, .u, .u, .u, .u, .u, .u, .u, .u, .u, .u, .u, .u]) (fun x => [(15, .box 127 [.pr 1 (List.map eU8 s0_0), .v (.int .i64 x.2.2.1), .v (.int .i64 x.2.2.2.1)]), (32, .box 38 [.v (.int .i64 x.2.2.2.2.2.2.2.2.2.2.2.2.1), .v (.int .i64 x.2.2.2.2.2.2.2.2.2.2.2.2.2.1), .v (.int .i64 x.2.2.2.2.2.2.2.2.2.2.2.2.2.2.1), .v (Value.slice none 0 0), .v (.int .i64 x.2.2.2.2.2.2.2.2.2.2.2.2.2.2.2.1), .v (.int .i64 x.2.2.2.2.2.2.2.2.2.2.2.2.2.2.2.2.1), .v (Value.slice none 0 0), .v (.int .i64 x.2.2.2.2.2.2.2.2.2.2.2.2.2.2.2.2.2.1)]), (48, .box 34 [.v (.int .i64 x.2.2.2.2.2.2.2.2.2.2.2.2.2.2.2.2.2.2.1), .v (.int .i64 x.2.2.2.2.2.2.2.2.2.2.2.2.2.2.2.2.2.2.2.1), .v (.int .i64 x.2.2.2.2.2.2.2.2.2.2.2.2.2.2.2.2.2.2.2.2)]), (64, .box 38 [.v (.int .i64 x.2.2.2.2.1), .v (.int .i64 x.2.2.2.2.2.1), .v (.int .i64 x.2.2.2.2.2.2.1), .lo 432, .v (.int .i64 x.2.2.2.2.2.2.2.2.1), .v (.int .i64 x.2.2.2.2.2.2.2.2.2.1), .lo 433, .v (.int .i64 x.2.2.2.2.2.2.2.2.2.2.2.1)]), (432, .row 3 1 (List.map eI x.2.2.2.2.2.2.2.1)), (433, .row 3 1 (List.map eI x.2.2.2.2.2.2.2.2.2.2.1))]) (fun n x => spec_l38Garden.l0 n x.1 x.2.1 s0_0 x.2.2.1 x.2.2.2.1 x.2.2.2.2.1 x.2.2.2.2.2.1 x.2.2.2.2.2.2.1 x.2.2.2.2.2.2.2.1 x.2.2.2.2.2.2.2.2.1 x.2.2.2.2.2.2.2.2.2.1 x.2.2.2.2.2.2.2.2.2.2.1 x.2.2.2.2.2.2.2.2.2.2.2.1 = some (r1, r2, r3, r4, r5, r6, r7, r8, r9, r10)) (t9_1, 0, t9_2, t9_3, t8_1, t8_2, t8_3, t8_4, t8_5, t8_6, t8_7, t8_8, 0, 0, 0, 0, 0, 0, t1_1, t1_2, t1_3) [] h (by simp only [W, p1, p2, p3, p4, p5, p6, p7, p8, p9, p10, p11, p12] <;> trivial) (by simp only [W, p1, p2, p3, p4, p5, p6, p7, p8, p9, p10, p11, p12] <;> trivial) rfl (fun _ h => by cases h) ?_
    intro n1 ⟨x10, x11, x12, x13, x14, x15, x16, x17, x18, x19, x20, x21, y22, y23, y24, y25, y26, y27, y28, y29, y30⟩ _ h
    simp only [spec_l38Garden.l0] at h
    replace h := ifS h; rcases h with ⟨c31, h⟩ | ⟨c31, h⟩
    · replace h := bnd h; obtain ⟨⟨t32_1, t32_2, t32_3⟩, A, h⟩ := h
      dsimp only at h
      try simp only [W, c31, p1, p2, p3, p4, p5, p6, p7, p8, p9, p10, p11, p12]
      try refine ⟨(by kernel_rfl : rchk _ _ _ = true), ?_⟩
      refine callM (spec_l01Below.mark A) (by first | exact .inl rfl | exact .inr rfl) (by simp only [W, p1, p2, p3, p4, p5, p6, p7, p8, p9, p10, p11, p12] <;> trivial) ?_
      try simp only [W, c31, p1, p2, p3, p4, p5, p6, p7, p8, p9, p10, p11, p12]
      replace h := ifS h; rcases h with ⟨c33, h⟩ | ⟨c33, h⟩
      · replace h := bnd h; obtain ⟨⟨t34_1, t34_2, t34_3⟩, A, h⟩ := h
        dsimp only at h
        try simp only [W, c31, eq_true c33, p1, p2, p3, p4, p5, p6, p7, p8, p9, p10, p11, p12]
        try refine ⟨(by kernel_rfl : rchk _ _ _ = true), ?_⟩
        refine callM (spec_l01Below.mark A) (by first | exact .inl rfl | exact .inr rfl) (by simp only [W, p1, p2, p3, p4, p5, p6, p7, p8, p9, p10, p11, p12] <;> trivial) ?_
        try simp only [W, c31, eq_true c33, p1, p2, p3, p4, p5, p6, p7, p8, p9, p10, p11, p12]
        replace h := bnd h; obtain ⟨⟨t35_1, t35_2, t35_3, t35_4, t35_5, t35_6, t35_7, t35_8, t35_9⟩, A, h⟩ := h
        dsimp only at h
        try simp only [W, c31, eq_true c33, p1, p2, p3, p4, p5, p6, p7, p8, p9, p10, p11, p12]
        try refine ⟨(by kernel_rfl : rchk _ _ _ = true), ?_⟩
        refine callR (spec_NextDay.ctr A) ?_
        try simp only [W, c31, eq_true c33, p1, p2, p3, p4, p5, p6, p7, p8, p9, p10, p11, p12]
        exact nextN (x10, (wrap64 (x11 + 1)), t34_2, t34_3, t35_1, t35_2, t35_3, t35_4, t35_5, t35_6, t35_7, t35_8, y22, y23, y24, y25, y26, y27, y28, y29, y30) [(432, 896), (433, 897)] n1 (by omega) h (by simp only [W, p1, p2, p3, p4, p5, p6, p7, p8, p9, p10, p11, p12] <;> trivial) (by simp only [W, p1, p2, p3, p4, p5, p6, p7, p8, p9, p10, p11, p12] <;> trivial) rfl
      · replace h := ifS h; rcases h with ⟨c34, h⟩ | ⟨c34, h⟩
        · replace h := bnd h; obtain ⟨⟨t35_1, t35_2, t35_3, t35_4, t35_5, t35_6, t35_7, t35_8, t35_9⟩, A, h⟩ := h
          dsimp only at h
          try simp only [W, c31, c33, eq_true c34, p1, p2, p3, p4, p5, p6, p7, p8, p9, p10, p11, p12]
          try refine ⟨(by kernel_rfl : rchk _ _ _ = true), ?_⟩
          refine callR (spec_Enter.ctr A) ?_
          try simp only [W, c31, c33, eq_true c34, p1, p2, p3, p4, p5, p6, p7, p8, p9, p10, p11, p12]
          exact nextN (x10, (wrap64 (x11 + 1)), t32_2, t32_3, t35_1, t35_2, t35_3, t35_4, t35_5, t35_6, t35_7, t35_8, y22, y23, y24, y25, y26, y27, y28, y29, y30) [(432, 1008), (433, 1009)] n1 (by omega) h (by simp only [W, p1, p2, p3, p4, p5, p6, p7, p8, p9, p10, p11, p12] <;> trivial) (by simp only [W, p1, p2, p3, p4, p5, p6, p7, p8, p9, p10, p11, p12] <;> trivial) rfl
        · replace h := ifS h; rcases h with ⟨c35, h⟩ | ⟨c35, h⟩
          · replace h := bnd h; obtain ⟨⟨t36_1, t36_2, t36_3⟩, A, h⟩ := h
            dsimp only at h
            try simp only [W, c31, c33, c34, eq_true c35, p1, p2, p3, p4, p5, p6, p7, p8, p9, p10, p11, p12]
            try refine ⟨(by kernel_rfl : rchk _ _ _ = true), ?_⟩
            refine callM (spec_l01Once.mark A) (by first | exact .inl rfl | exact .inr rfl) (by simp only [W, p1, p2, p3, p4, p5, p6, p7, p8, p9, p10, p11, p12] <;> trivial) ?_
            try simp only [W, c31, c33, c34, eq_true c35, p1, p2, p3, p4, p5, p6, p7, p8, p9, p10, p11, p12]
            replace h := ifT h; rcases h with ⟨rfl, h⟩ | ⟨rfl, h⟩
            · replace h := bnd h; obtain ⟨⟨t38_1, t38_2, t38_3, t38_4, t38_5, t38_6, t38_7, t38_8, t38_9⟩, A, h⟩ := h
              dsimp only at h
              try simp only [W, c31, c33, c34, eq_true c35, p1, p2, p3, p4, p5, p6, p7, p8, p9, p10, p11, p12]
              try refine ⟨(by kernel_rfl : rchk _ _ _ = true), ?_⟩
              refine callR (spec_Leave.ctr A) ?_
              try simp only [W, c31, c33, c34, eq_true c35, p1, p2, p3, p4, p5, p6, p7, p8, p9, p10, p11, p12]
              exact nextN (x10, (wrap64 (x11 + 1)), t36_2, t36_3, t38_1, t38_2, t38_3, t38_4, t38_5, t38_6, t38_7, t38_8, y22, y23, y24, y25, y26, y27, y28, y29, y30) [(432, 1152), (433, 1153)] n1 (by omega) h (by simp only [W, p1, p2, p3, p4, p5, p6, p7, p8, p9, p10, p11, p12] <;> trivial) (by simp only [W, p1, p2, p3, p4, p5, p6, p7, p8, p9, p10, p11, p12] <;> trivial) rfl
            · try simp only [W, c31, c33, c34, eq_true c35, p1, p2, p3, p4, p5, p6, p7, p8, p9, p10, p11, p12]
              exact nextN (x10, (wrap64 (x11 + 1)), t36_2, t36_3, x14, x15, x16, x17, x18, x19, x20, x21, y22, y23, y24, y25, y26, y27, y28, y29, y30) [] n1 (by omega) h (by simp only [W, p1, p2, p3, p4, p5, p6, p7, p8, p9, p10, p11, p12] <;> trivial) (by simp only [W, p1, p2, p3, p4, p5, p6, p7, p8, p9, p10, p11, p12] <;> trivial) rfl
          · replace h := bnd h; obtain ⟨⟨t36_1, t36_2, t36_3⟩, A, h⟩ := h
            dsimp only at h
            try simp only [W, c31, c33, c34, c35, p1, p2, p3, p4, p5, p6, p7, p8, p9, p10, p11, p12]
            try refine ⟨(by kernel_rfl : rchk _ _ _ = true), ?_⟩
            refine callM (spec_l01Below.mark A) (by first | exact .inl rfl | exact .inr rfl) (by simp only [W, p1, p2, p3, p4, p5, p6, p7, p8, p9, p10, p11, p12] <;> trivial) ?_
            try simp only [W, c31, c33, c34, c35, p1, p2, p3, p4, p5, p6, p7, p8, p9, p10, p11, p12]
            replace h := bnd h; obtain ⟨⟨t37_1, t37_2, t37_3⟩, A, h⟩ := h
            dsimp only at h
            try simp only [W, c31, c33, c34, c35, p1, p2, p3, p4, p5, p6, p7, p8, p9, p10, p11, p12]
            try refine ⟨(by kernel_rfl : rchk _ _ _ = true), ?_⟩
            refine callM (spec_l01Below.mark A) (by first | exact .inl rfl | exact .inr rfl) (by simp only [W, p1, p2, p3, p4, p5, p6, p7, p8, p9, p10, p11, p12] <;> trivial) ?_
            try simp only [W, c31, c33, c34, c35, p1, p2, p3, p4, p5, p6, p7, p8, p9, p10, p11, p12]
            replace h := bnd h; obtain ⟨⟨t38_1, t38_2, t38_3, t38_4, t38_5, t38_6, t38_7, t38_8, t38_9⟩, A, h⟩ := h
            dsimp only at h
            try simp only [W, c31, c33, c34, c35, p1, p2, p3, p4, p5, p6, p7, p8, p9, p10, p11, p12]
            try refine ⟨(by kernel_rfl : rchk _ _ _ = true), ?_⟩
            refine callR (spec_WalkIn.ctr A) ?_
            try simp only [W, c31, c33, c34, c35, p1, p2, p3, p4, p5, p6, p7, p8, p9, p10, p11, p12]
            exact nextN (x10, (wrap64 (x11 + 1)), t37_2, t37_3, t38_1, t38_2, t38_3, t38_4, t38_5, t38_6, t38_7, t38_8, y22, y23, y24, y25, y26, y27, y28, y29, y30) [(432, 736), (433, 737)] n1 (by omega) h (by simp only [W, p1, p2, p3, p4, p5, p6, p7, p8, p9, p10, p11, p12] <;> trivial) (by simp only [W, p1, p2, p3, p4, p5, p6, p7, p8, p9, p10, p11, p12] <;> trivial) rfl
    · cases h
      try simp only [W, c31, p1, p2, p3, p4, p5, p6, p7, p8, p9, p10, p11, p12]
  · replace h := bnd h; obtain ⟨⟨t4_1, t4_2, t4_3⟩, A, h⟩ := h
    dsimp only at h
    try simp only [W, p1, p2, p3, p4, p5, p6, p7, p8, p9, p10, p11, p12]
    try refine ⟨(by kernel_rfl : rchk _ _ _ = true), ?_⟩
    refine callR (spec_FullMaze.ctr A) ?_
    rcases k with _ | m5; · cases h
    rw [spec_l38Garden.j0] at h
    replace h := bnd h; obtain ⟨t6, A, h⟩ := h
    try simp only [W, p1, p2, p3, p4, p5, p6, p7, p8, p9, p10, p11, p12]
    try refine ⟨(by kernel_rfl : rchk _ _ _ = true), ?_⟩
    refine callR (spec_CountCells.ctr A) ?_
    replace h := bnd h; obtain ⟨⟨t7_1, t7_2, t7_3⟩, A, h⟩ := h
    dsimp only at h
    try simp only [W, p1, p2, p3, p4, p5, p6, p7, p8, p9, p10, p11, p12]
    try refine ⟨(by kernel_rfl : rchk _ _ _ = true), ?_⟩
    refine callM (spec_l01Below.mark A) (by first | exact .inl rfl | exact .inr rfl) (by simp only [W, p1, p2, p3, p4, p5, p6, p7, p8, p9, p10, p11, p12] <;> trivial) ?_
    try simp only [W, p1, p2, p3, p4, p5, p6, p7, p8, p9, p10, p11, p12]
    replace h := bnd h; obtain ⟨⟨t8_1, t8_2, t8_3⟩, A, h⟩ := h
    dsimp only at h
    try simp only [W, p1, p2, p3, p4, p5, p6, p7, p8, p9, p10, p11, p12]
    try refine ⟨(by kernel_rfl : rchk _ _ _ = true), ?_⟩
    refine callM (spec_l01Below.mark A) (by first | exact .inl rfl | exact .inr rfl) (by simp only [W, p1, p2, p3, p4, p5, p6, p7, p8, p9, p10, p11, p12] <;> trivial) ?_
    try simp only [W, p1, p2, p3, p4, p5, p6, p7, p8, p9, p10, p11, p12]
    replace h := bnd h; obtain ⟨⟨t9_1, t9_2, t9_3, t9_4, t9_5, t9_6, t9_7, t9_8, t9_9⟩, A, h⟩ := h
    dsimp only at h
    try simp only [W, p1, p2, p3, p4, p5, p6, p7, p8, p9, p10, p11, p12]
    try refine ⟨(by kernel_rfl : rchk _ _ _ = true), ?_⟩
    refine callR (spec_NewGarden.ctr A) ?_
    replace h := bnd h; obtain ⟨⟨t10_1, t10_2, t10_3⟩, A, h⟩ := h
    dsimp only at h
    try simp only [W, p1, p2, p3, p4, p5, p6, p7, p8, p9, p10, p11, p12]
    try refine ⟨(by kernel_rfl : rchk _ _ _ = true), ?_⟩
    refine callM (spec_l01Below.mark A) (by first | exact .inl rfl | exact .inr rfl) (by simp only [W, p1, p2, p3, p4, p5, p6, p7, p8, p9, p10, p11, p12] <;> trivial) ?_
    try simp only [W, p1, p2, p3, p4, p5, p6, p7, p8, p9, p10, p11, p12]
    try simp only [W, p1, p2, p3, p4, p5, p6, p7, p8, p9, p10, p11, p12]
    refine loopN (fun x : Int × Int × Int × Int × Int × Int × Int × List Int × Int × Int × List Int × Int × Int × Int × Int × Int × Int × Int × Int × Int × Int => [.bp 15 0, .u, .bp 32 0, .bp 48 0, .bp 64 0, .u, .v (.int .i64 x.1), .v (.int .i64 x.2.1), .u, .bp 15 0, .u, .u, .u, .u, .bp 48 0, .u, .u, .u, .u, .bp 15 0, .bp 48 0, .u, .u, .u, .bp 15 0, .u, .u, .u, .u, .u, .bp 15 0, .u, .u, .u, .u, .u, .u, .u, .u, .u, .u, .u, .u, .u, .u, .u, .u, .u, .u, .u, .u, .u, .u, .u, .u, .u, .u, .u, .u, .u, .u, .u, .u, .u, .u, .u, .u, .u, .u, .u, .u, .u, .u, .u, .u, .u]) (fun x => [(15, .box 127 [.pr 1 (List.map eU8 s0_0), .v (.int .i64 x.2.2.1), .v (.int .i64 x.2.2.2.1)]), (32, .box 38 [.v (.int .i64 x.2.2.2.2.2.2.2.2.2.2.2.2.1), .v (.int .i64 x.2.2.2.2.2.2.2.2.2.2.2.2.2.1), .v (.int .i64 x.2.2.2.2.2.2.2.2.2.2.2.2.2.2.1), .v (Value.slice none 0 0), .v (.int .i64 x.2.2.2.2.2.2.2.2.2.2.2.2.2.2.2.1), .v (.int .i64 x.2.2.2.2.2.2.2.2.2.2.2.2.2.2.2.2.1), .v (Value.slice none 0 0), .v (.int .i64 x.2.2.2.2.2.2.2.2.2.2.2.2.2.2.2.2.2.1)]), (48, .box 34 [.v (.int .i64 x.2.2.2.2.2.2.2.2.2.2.2.2.2.2.2.2.2.2.1), .v (.int .i64 x.2.2.2.2.2.2.2.2.2.2.2.2.2.2.2.2.2.2.2.1), .v (.int .i64 x.2.2.2.2.2.2.2.2.2.2.2.2.2.2.2.2.2.2.2.2)]), (64, .box 38 [.v (.int .i64 x.2.2.2.2.1), .v (.int .i64 x.2.2.2.2.2.1), .v (.int .i64 x.2.2.2.2.2.2.1), .lo 432, .v (.int .i64 x.2.2.2.2.2.2.2.2.1), .v (.int .i64 x.2.2.2.2.2.2.2.2.2.1), .lo 433, .v (.int .i64 x.2.2.2.2.2.2.2.2.2.2.2.1)]), (432, .row 3 1 (List.map eI x.2.2.2.2.2.2.2.1)), (433, .row 3 1 (List.map eI x.2.2.2.2.2.2.2.2.2.2.1))]) (fun n x => spec_l38Garden.l0 n x.1 x.2.1 s0_0 x.2.2.1 x.2.2.2.1 x.2.2.2.2.1 x.2.2.2.2.2.1 x.2.2.2.2.2.2.1 x.2.2.2.2.2.2.2.1 x.2.2.2.2.2.2.2.2.1 x.2.2.2.2.2.2.2.2.2.1 x.2.2.2.2.2.2.2.2.2.2.1 x.2.2.2.2.2.2.2.2.2.2.2.1 = some (r1, r2, r3, r4, r5, r6, r7, r8, r9, r10)) (t10_1, 0, t10_2, t10_3, t9_1, t9_2, t9_3, t9_4, t9_5, t9_6, t9_7, t9_8, 0, 0, 0, 0, 0, 0, t4_1, t4_2, t4_3) [] h (by simp only [W, p1, p2, p3, p4, p5, p6, p7, p8, p9, p10, p11, p12] <;> trivial) (by simp only [W, p1, p2, p3, p4, p5, p6, p7, p8, p9, p10, p11, p12] <;> trivial) rfl (fun _ h => by cases h) ?_
    intro n1 ⟨x11, x12, x13, x14, x15, x16, x17, x18, x19, x20, x21, x22, y23, y24, y25, y26, y27, y28, y29, y30, y31⟩ _ h
    simp only [spec_l38Garden.l0] at h
    replace h := ifS h; rcases h with ⟨c32, h⟩ | ⟨c32, h⟩
    · replace h := bnd h; obtain ⟨⟨t33_1, t33_2, t33_3⟩, A, h⟩ := h
      dsimp only at h
      try simp only [W, c32, p1, p2, p3, p4, p5, p6, p7, p8, p9, p10, p11, p12]
      try refine ⟨(by kernel_rfl : rchk _ _ _ = true), ?_⟩
      refine callM (spec_l01Below.mark A) (by first | exact .inl rfl | exact .inr rfl) (by simp only [W, p1, p2, p3, p4, p5, p6, p7, p8, p9, p10, p11, p12] <;> trivial) ?_
      try simp only [W, c32, p1, p2, p3, p4, p5, p6, p7, p8, p9, p10, p11, p12]
      replace h := ifS h; rcases h with ⟨c34, h⟩ | ⟨c34, h⟩
      · replace h := bnd h; obtain ⟨⟨t35_1, t35_2, t35_3⟩, A, h⟩ := h
        dsimp only at h
        try simp only [W, c32, eq_true c34, p1, p2, p3, p4, p5, p6, p7, p8, p9, p10, p11, p12]
        try refine ⟨(by kernel_rfl : rchk _ _ _ = true), ?_⟩
        refine callM (spec_l01Below.mark A) (by first | exact .inl rfl | exact .inr rfl) (by simp only [W, p1, p2, p3, p4, p5, p6, p7, p8, p9, p10, p11, p12] <;> trivial) ?_
        try simp only [W, c32, eq_true c34, p1, p2, p3, p4, p5, p6, p7, p8, p9, p10, p11, p12]
        replace h := bnd h; obtain ⟨⟨t36_1, t36_2, t36_3, t36_4, t36_5, t36_6, t36_7, t36_8, t36_9⟩, A, h⟩ := h
        dsimp only at h
        try simp only [W, c32, eq_true c34, p1, p2, p3, p4, p5, p6, p7, p8, p9, p10, p11, p12]
        try refine ⟨(by kernel_rfl : rchk _ _ _ = true), ?_⟩
        refine callR (spec_NextDay.ctr A) ?_
        try simp only [W, c32, eq_true c34, p1, p2, p3, p4, p5, p6, p7, p8, p9, p10, p11, p12]
        exact nextN (x11, (wrap64 (x12 + 1)), t35_2, t35_3, t36_1, t36_2, t36_3, t36_4, t36_5, t36_6, t36_7, t36_8, y23, y24, y25, y26, y27, y28, y29, y30, y31) [(432, 896), (433, 897)] n1 (by omega) h (by simp only [W, p1, p2, p3, p4, p5, p6, p7, p8, p9, p10, p11, p12] <;> trivial) (by simp only [W, p1, p2, p3, p4, p5, p6, p7, p8, p9, p10, p11, p12] <;> trivial) rfl
      · replace h := ifS h; rcases h with ⟨c35, h⟩ | ⟨c35, h⟩
        · replace h := bnd h; obtain ⟨⟨t36_1, t36_2, t36_3, t36_4, t36_5, t36_6, t36_7, t36_8, t36_9⟩, A, h⟩ := h
          dsimp only at h
          try simp only [W, c32, c34, eq_true c35, p1, p2, p3, p4, p5, p6, p7, p8, p9, p10, p11, p12]
          try refine ⟨(by kernel_rfl : rchk _ _ _ = true), ?_⟩
          refine callR (spec_Enter.ctr A) ?_
          try simp only [W, c32, c34, eq_true c35, p1, p2, p3, p4, p5, p6, p7, p8, p9, p10, p11, p12]
          exact nextN (x11, (wrap64 (x12 + 1)), t33_2, t33_3, t36_1, t36_2, t36_3, t36_4, t36_5, t36_6, t36_7, t36_8, y23, y24, y25, y26, y27, y28, y29, y30, y31) [(432, 1008), (433, 1009)] n1 (by omega) h (by simp only [W, p1, p2, p3, p4, p5, p6, p7, p8, p9, p10, p11, p12] <;> trivial) (by simp only [W, p1, p2, p3, p4, p5, p6, p7, p8, p9, p10, p11, p12] <;> trivial) rfl
        · replace h := ifS h; rcases h with ⟨c36, h⟩ | ⟨c36, h⟩
          · replace h := bnd h; obtain ⟨⟨t37_1, t37_2, t37_3⟩, A, h⟩ := h
            dsimp only at h
            try simp only [W, c32, c34, c35, eq_true c36, p1, p2, p3, p4, p5, p6, p7, p8, p9, p10, p11, p12]
            try refine ⟨(by kernel_rfl : rchk _ _ _ = true), ?_⟩
            refine callM (spec_l01Once.mark A) (by first | exact .inl rfl | exact .inr rfl) (by simp only [W, p1, p2, p3, p4, p5, p6, p7, p8, p9, p10, p11, p12] <;> trivial) ?_
            try simp only [W, c32, c34, c35, eq_true c36, p1, p2, p3, p4, p5, p6, p7, p8, p9, p10, p11, p12]
            replace h := ifT h; rcases h with ⟨rfl, h⟩ | ⟨rfl, h⟩
            · replace h := bnd h; obtain ⟨⟨t39_1, t39_2, t39_3, t39_4, t39_5, t39_6, t39_7, t39_8, t39_9⟩, A, h⟩ := h
              dsimp only at h
              try simp only [W, c32, c34, c35, eq_true c36, p1, p2, p3, p4, p5, p6, p7, p8, p9, p10, p11, p12]
              try refine ⟨(by kernel_rfl : rchk _ _ _ = true), ?_⟩
              refine callR (spec_Leave.ctr A) ?_
              try simp only [W, c32, c34, c35, eq_true c36, p1, p2, p3, p4, p5, p6, p7, p8, p9, p10, p11, p12]
              exact nextN (x11, (wrap64 (x12 + 1)), t37_2, t37_3, t39_1, t39_2, t39_3, t39_4, t39_5, t39_6, t39_7, t39_8, y23, y24, y25, y26, y27, y28, y29, y30, y31) [(432, 1152), (433, 1153)] n1 (by omega) h (by simp only [W, p1, p2, p3, p4, p5, p6, p7, p8, p9, p10, p11, p12] <;> trivial) (by simp only [W, p1, p2, p3, p4, p5, p6, p7, p8, p9, p10, p11, p12] <;> trivial) rfl
            · try simp only [W, c32, c34, c35, eq_true c36, p1, p2, p3, p4, p5, p6, p7, p8, p9, p10, p11, p12]
              exact nextN (x11, (wrap64 (x12 + 1)), t37_2, t37_3, x15, x16, x17, x18, x19, x20, x21, x22, y23, y24, y25, y26, y27, y28, y29, y30, y31) [] n1 (by omega) h (by simp only [W, p1, p2, p3, p4, p5, p6, p7, p8, p9, p10, p11, p12] <;> trivial) (by simp only [W, p1, p2, p3, p4, p5, p6, p7, p8, p9, p10, p11, p12] <;> trivial) rfl
          · replace h := bnd h; obtain ⟨⟨t37_1, t37_2, t37_3⟩, A, h⟩ := h
            dsimp only at h
            try simp only [W, c32, c34, c35, c36, p1, p2, p3, p4, p5, p6, p7, p8, p9, p10, p11, p12]
            try refine ⟨(by kernel_rfl : rchk _ _ _ = true), ?_⟩
            refine callM (spec_l01Below.mark A) (by first | exact .inl rfl | exact .inr rfl) (by simp only [W, p1, p2, p3, p4, p5, p6, p7, p8, p9, p10, p11, p12] <;> trivial) ?_
            try simp only [W, c32, c34, c35, c36, p1, p2, p3, p4, p5, p6, p7, p8, p9, p10, p11, p12]
            replace h := bnd h; obtain ⟨⟨t38_1, t38_2, t38_3⟩, A, h⟩ := h
            dsimp only at h
            try simp only [W, c32, c34, c35, c36, p1, p2, p3, p4, p5, p6, p7, p8, p9, p10, p11, p12]
            try refine ⟨(by kernel_rfl : rchk _ _ _ = true), ?_⟩
            refine callM (spec_l01Below.mark A) (by first | exact .inl rfl | exact .inr rfl) (by simp only [W, p1, p2, p3, p4, p5, p6, p7, p8, p9, p10, p11, p12] <;> trivial) ?_
            try simp only [W, c32, c34, c35, c36, p1, p2, p3, p4, p5, p6, p7, p8, p9, p10, p11, p12]
            replace h := bnd h; obtain ⟨⟨t39_1, t39_2, t39_3, t39_4, t39_5, t39_6, t39_7, t39_8, t39_9⟩, A, h⟩ := h
            dsimp only at h
            try simp only [W, c32, c34, c35, c36, p1, p2, p3, p4, p5, p6, p7, p8, p9, p10, p11, p12]
            try refine ⟨(by kernel_rfl : rchk _ _ _ = true), ?_⟩
            refine callR (spec_WalkIn.ctr A) ?_
            try simp only [W, c32, c34, c35, c36, p1, p2, p3, p4, p5, p6, p7, p8, p9, p10, p11, p12]
            exact nextN (x11, (wrap64 (x12 + 1)), t38_2, t38_3, t39_1, t39_2, t39_3, t39_4, t39_5, t39_6, t39_7, t39_8, y23, y24, y25, y26, y27, y28, y29, y30, y31) [(432, 736), (433, 737)] n1 (by omega) h (by simp only [W, p1, p2, p3, p4, p5, p6, p7, p8, p9, p10, p11, p12] <;> trivial) (by simp only [W, p1, p2, p3, p4, p5, p6, p7, p8, p9, p10, p11, p12] <;> trivial) rfl
    · cases h
      try simp only [W, c32, p1, p2, p3, p4, p5, p6, p7, p8, p9, p10, p11, p12]
end Go.Proofs.YtkindoepnganmaaGreat.F
end

section
namespace Go.Proofs.YtkindoepnganmaaGreat.F
open Go.RowKit Go.Proofs.YtkindoepnganmaaGreatW.PrintWords Go.Proofs.YtkindoepnganmaaGreatW.PrintLast Go.Proofs.YtkindoepnganmaaGreatW.PrintMore
set_option linter.unusedVariables false
set_option linter.unusedSimpArgs false
attribute [local go_sem] max2_int min2_int max_two min_two
set_option maxRecDepth 20000
set_option maxHeartbeats 4000000
open Nat renaming reduceAdd → p1, reduceSub → p2, reduceMul → p3, reduceDiv → p4, reduceBNe → p5, reduceBEq → p6, reduceEqDiff → p7, reduceLeDiff → p8, reduceLT → p9
open Int renaming reduceLE → p10, reduceLT → p11, reduceEq → p12
theorem spec_l01New.new {k : Nat} {l0 : List Int} {r1 : List Int} {r2 : Int} {r3 : Int} (h : spec_l01New.f k l0 = some (r1, r2, r3)) : CtrN Tryz.prog 92 [.pr 1 (l0.map eU8)] 127 [.pr 1 (r1.map eU8), .v (.int .i64 r2), .v (.int .i64 r3)] := by
  refine CtrN_of tyOk hm Tryz.func92 rfl rfl (by kernel_rfl) (n := 31) (rv := [.tmp 2]) rfl rfl rfl ?_
  simp only [W, List.replicate]
  unfold spec_l01New.f at h
  try simp only [W, p1, p2, p3, p4, p5, p6, p7, p8, p9, p10, p11, p12]
  refine loopN (fun x : List Int × Int × Int => [.pr 1 (List.map eU8 x.1), .u, .u, .v (.int .i64 x.2.1), .v (.int .i64 x.2.2), .u, .u, .u, .u, .u, .u, .u, .u, .u, .u, .u, .u, .u, .u, .u, .u, .u, .u, .u, .u, .u, .u, .u, .u, .u, .u, .u]) (fun x => []) (fun n x => spec_l01New.l0 n x.1 x.2.1 x.2.2 = some (r1, r2, r3)) (l0, (wrap64 (99041 + (l0.length : Int))), 0) [] h (by simp only [W, p1, p2, p3, p4, p5, p6, p7, p8, p9, p10, p11, p12] <;> trivial) (by simp only [W, p1, p2, p3, p4, p5, p6, p7, p8, p9, p10, p11, p12] <;> trivial) rfl (fun _ h => by cases h) ?_
  intro n1 ⟨x1, x2, x3⟩ _ h
  simp only [spec_l01New.l0] at h
  replace h := ifS h; rcases h with ⟨c4, h⟩ | ⟨c4, h⟩
  · replace h := ifS h; rcases h with ⟨c5, h⟩ | ⟨c5, h⟩
    · replace h := ifN h; obtain ⟨c6, h⟩ := h
      try simp only [W, c4, c5, c6, p1, p2, p3, p4, p5, p6, p7, p8, p9, p10, p11, p12]
      exact nextN (x1, (Go.bits .and .i64 (wrap64 ((wrap64 ((wrap64 (x2 * 131)) + (wrap64 (rd x1 x3)))) + 7)) 1073741823), (wrap64 (x3 + 1))) [] n1 (by omega) h (by simp only [W, p1, p2, p3, p4, p5, p6, p7, p8, p9, p10, p11, p12] <;> trivial) (by simp only [W, p1, p2, p3, p4, p5, p6, p7, p8, p9, p10, p11, p12] <;> trivial) rfl
    · cases h
      try simp only [W, c4, c5, p1, p2, p3, p4, p5, p6, p7, p8, p9, p10, p11, p12]
  · cases h
    try simp only [W, c4, p1, p2, p3, p4, p5, p6, p7, p8, p9, p10, p11, p12]
theorem spec_DrawGarden.ctr {k : Nat} {l0 : List Int} {r1 : Int} {r2 : Int} {r3 : Int} {r4 : List Int} {r5 : Int} {r6 : Int} {r7 : List Int} {r8 : Int} (h : spec_DrawGarden.f k l0 = some (r1, r2, r3, r4, r5, r6, r7, r8)) : Ctr Tryz.prog 46 [.pr 1 (l0.map eU8)] (.ag [.v (.int .i64 r1), .v (.int .i64 r2), .v (.int .i64 r3), .ow 3 1 (r4.map eI), .v (.int .i64 r5), .v (.int .i64 r6), .ow 3 1 (r7.map eI), .v (.int .i64 r8)]) := by
  refine Ctr_of tyOk hm Tryz.func46 rfl rfl (by kernel_rfl) (n := 5) (rv := [.cell 2 38]) rfl rfl ?_
  simp only [W, List.replicate]
  unfold spec_DrawGarden.f at h
  replace h := bnd h; obtain ⟨⟨t1_1, t1_2, t1_3⟩, A, h⟩ := h
  dsimp only at h
  try simp only [W, p1, p2, p3, p4, p5, p6, p7, p8, p9, p10, p11, p12]
  refine callN (spec_l01New.new A) rfl ?_
  try simp only [W, p1, p2, p3, p4, p5, p6, p7, p8, p9, p10, p11, p12]
  replace h := bnd h; obtain ⟨⟨t2_1, t2_2, t2_3, t2_4, t2_5, t2_6, t2_7, t2_8, t2_9, t2_10⟩, A, h⟩ := h
  dsimp only at h
  try simp only [W, p1, p2, p3, p4, p5, p6, p7, p8, p9, p10, p11, p12]
  refine callM (spec_l38Garden.mark A) (by first | exact .inl rfl | exact .inr rfl) (by simp only [W, p1, p2, p3, p4, p5, p6, p7, p8, p9, p10, p11, p12] <;> trivial) ?_
  try simp only [W, p1, p2, p3, p4, p5, p6, p7, p8, p9, p10, p11, p12]
  cases h
  try simp only [W, p1, p2, p3, p4, p5, p6, p7, p8, p9, p10, p11, p12]
theorem laws_at.ctr {l0 : List Int} {a1 : Int} {r : Int} (h : laws_at.f l0 a1 = some r) : Ctr Tryz.prog 47 [.pr 1 (l0.map eU8), .v (.int .i64 a1)] (.v (.int .i64 r)) := by
  refine Ctr_of tyOk hm Tryz.func47 rfl rfl (by kernel_rfl) (n := 16) (rv := [.tmp 4]) rfl rfl ?_
  simp only [W, List.replicate]
  unfold laws_at.f at h
  replace h := ifS h; rcases h with ⟨c1, h⟩ | ⟨c1, h⟩
  · cases h
    try simp only [W, eq_true c1, p1, p2, p3, p4, p5, p6, p7, p8, p9, p10, p11, p12]
  · replace h := ifN h; obtain ⟨c2, h⟩ := h
    replace h := ifN h; obtain ⟨c3, h⟩ := h
    cases h
    try simp only [W, c1, c2, c3, p1, p2, p3, p4, p5, p6, p7, p8, p9, p10, p11, p12]
theorem laws_sameInts.ctr {k : Nat} {l0 : List Int} {l1 : List Int} {r : Bool} (h : laws_sameInts.f k l0 l1 = some r) : Ctr Tryz.prog 51 [.pr 1 (l0.map eI), .pr 1 (l1.map eI)] (.v (.bool r)) := by
  refine Ctr_of tyOk hm Tryz.func51 rfl rfl (by kernel_rfl) (n := 24) (rv := [.tmp 4]) rfl rfl ?_
  simp only [W, List.replicate]
  unfold laws_sameInts.f at h
  replace h := ifS h; rcases h with ⟨c1, h⟩ | ⟨c1, h⟩
  · try simp only [W, eq_true c1, p1, p2, p3, p4, p5, p6, p7, p8, p9, p10, p11, p12]
    refine loopN (fun x : List Int × List Int × Int => [.pr 1 (List.map eI x.1), .pr 1 (List.map eI x.2.1), .u, .u, .u, .v (.int .i64 x.2.2), .u, .u, .u, .u, .u, .u, .u, .u, .u, .u, .u, .u, .u, .u, .u, .u, .u, .u, .u, .u]) (fun x => []) (fun n x => laws_sameInts.l0 n x.1 x.2.1 x.2.2 = some r) (l0, l1, 0) [] h (by simp only [W, p1, p2, p3, p4, p5, p6, p7, p8, p9, p10, p11, p12] <;> trivial) (by simp only [W, p1, p2, p3, p4, p5, p6, p7, p8, p9, p10, p11, p12] <;> trivial) rfl (fun _ h => by cases h) ?_
    intro n1 ⟨x2, x3, x4⟩ _ h
    simp only [laws_sameInts.l0] at h
    replace h := ifS h; rcases h with ⟨c5, h⟩ | ⟨c5, h⟩
    · replace h := ifN h; obtain ⟨c6, h⟩ := h
      replace h := ifN h; obtain ⟨c7, h⟩ := h
      replace h := ifS h; rcases h with ⟨c8, h⟩ | ⟨c8, h⟩
      · try simp only [W, c5, c6, c7, eq_true c8, p1, p2, p3, p4, p5, p6, p7, p8, p9, p10, p11, p12]
        exact nextN (x2, x3, (wrap64 (x4 + 1))) [] n1 (by omega) h (by simp only [W, p1, p2, p3, p4, p5, p6, p7, p8, p9, p10, p11, p12] <;> trivial) (by simp only [W, p1, p2, p3, p4, p5, p6, p7, p8, p9, p10, p11, p12] <;> trivial) rfl
      · cases h
        try simp only [W, c5, c6, c7, c8, p1, p2, p3, p4, p5, p6, p7, p8, p9, p10, p11, p12]
    · cases h
      try simp only [W, c5, p1, p2, p3, p4, p5, p6, p7, p8, p9, p10, p11, p12]
  · cases h
    try simp only [W, c1, p1, p2, p3, p4, p5, p6, p7, p8, p9, p10, p11, p12]
theorem laws_has.ctr {k : Nat} {l0 : List Int} {a1 : Int} {r : Bool} (h : laws_has.f k l0 a1 = some r) : Ctr Tryz.prog 52 [.pr 1 (l0.map eI), .v (.int .i64 a1)] (.v (.bool r)) := by
  refine Ctr_of tyOk hm Tryz.func52 rfl rfl (by kernel_rfl) (n := 16) (rv := [.tmp 4]) rfl rfl ?_
  simp only [W, List.replicate]
  unfold laws_has.f at h
  try simp only [W, p1, p2, p3, p4, p5, p6, p7, p8, p9, p10, p11, p12]
  refine loopN (fun x : List Int × Int × Int => [.pr 1 (List.map eI x.1), .v (.int .i64 x.2.1), .u, .u, .u, .v (.int .i64 x.2.2), .u, .u, .u, .u, .u, .u, .u, .u, .u, .u, .u, .u]) (fun x => []) (fun n x => laws_has.l0 n x.1 x.2.1 x.2.2 = some r) (l0, a1, 0) [] h (by simp only [W, p1, p2, p3, p4, p5, p6, p7, p8, p9, p10, p11, p12] <;> trivial) (by simp only [W, p1, p2, p3, p4, p5, p6, p7, p8, p9, p10, p11, p12] <;> trivial) rfl (fun _ h => by cases h) ?_
  intro n1 ⟨x1, x2, x3⟩ _ h
  simp only [laws_has.l0] at h
  replace h := ifS h; rcases h with ⟨c4, h⟩ | ⟨c4, h⟩
  · replace h := ifN h; obtain ⟨c5, h⟩ := h
    replace h := ifS h; rcases h with ⟨c6, h⟩ | ⟨c6, h⟩
    · cases h
      try simp only [W, c4, c5, eq_true c6, p1, p2, p3, p4, p5, p6, p7, p8, p9, p10, p11, p12]
    · try simp only [W, c4, c5, c6, p1, p2, p3, p4, p5, p6, p7, p8, p9, p10, p11, p12]
      exact nextN (x1, x2, (wrap64 (x3 + 1))) [] n1 (by omega) h (by simp only [W, p1, p2, p3, p4, p5, p6, p7, p8, p9, p10, p11, p12] <;> trivial) (by simp only [W, p1, p2, p3, p4, p5, p6, p7, p8, p9, p10, p11, p12] <;> trivial) rfl
  · cases h
    try simp only [W, c4, p1, p2, p3, p4, p5, p6, p7, p8, p9, p10, p11, p12]
end Go.Proofs.YtkindoepnganmaaGreat.F
end
