/- Packed by a program of the session (wip/tools/pack.py): what the claim's theorem reaches, of the texts that wip/ and the kit's printer lay. -/
import Derived.Test.YtdjdleldocfpaaaDoorPkFnCrowds8
import Derived.Test.YtdjdleldocfpaaaDoorPkFnCrowds9
import Derived.Shelf.Sort.Plain
import Derived.Shelf.Slices.CompactI
import Derived.Shelf.Slices.In.SortNone
import Derived.Sort.OwnSortedInts
import Derived.Test.YtdjdleldocfpaaaDoorProg
import Derived.Lib.ItoaNum
import Derived.Lib.AtoiAll
import Derived.Lib.Split
import Derived.Deep.RegionHeld3
section
namespace Go.Proofs
def Tryd.lays189_ren : Go.Shelf.Ren := ⟨fun | 189 => 112 | 125 => 129 | 257 => 128 | 128 => 151 | 129 => 152 | 294 => 142 | 295 => 143 | 296 => 144 | 297 => 145 | 298 => 146 | 299 => 147 | 216 => 148 | 300 => 149 | 301 => 150 | 328 => 160 | 329 => 161 | 330 => 162 | 331 => 163 | 332 => 164 | 215 => 165 | 343 => 170 | n => n, fun | 28 => 42 | 3 => 3 | 46 => 144 | 0 => 0 | 51 => 171 | 53 => 158 | 4 => 4 | 183 => 165 | 182 => 164 | 131 => 77 | 5 => 5 | 9 => 9 | 218 => 182 | 222 => 186 | 228 => 193 | 229 => 132 | n => n, fun  | n => n⟩
theorem Tryd.lays189 : Lays.n189 Tryd.prog Tryd.lays189_ren := { mixed := by kernel_rfl, f125 := Tryd.func129.trans (congrArg some (by kernel_rfl)), f128 := Tryd.func151.trans (congrArg some (by kernel_rfl)), f129 := Tryd.func152.trans (congrArg some (by kernel_rfl)), f189 := Tryd.func112.trans (congrArg some (by kernel_rfl)), f215 := Tryd.func165.trans (congrArg some (by kernel_rfl)), f216 := Tryd.func148.trans (congrArg some (by kernel_rfl)), f257 := Tryd.func128.trans (congrArg some (by kernel_rfl)), f294 := Tryd.func142.trans (congrArg some (by kernel_rfl)), f295 := Tryd.func143.trans (congrArg some (by kernel_rfl)), f296 := Tryd.func144.trans (congrArg some (by kernel_rfl)), f297 := Tryd.func145.trans (congrArg some (by kernel_rfl)), f298 := Tryd.func146.trans (congrArg some (by kernel_rfl)), f299 := Tryd.func147.trans (congrArg some (by kernel_rfl)), f300 := Tryd.func149.trans (congrArg some (by kernel_rfl)), f301 := Tryd.func150.trans (congrArg some (by kernel_rfl)), f328 := Tryd.func160.trans (congrArg some (by kernel_rfl)), f329 := Tryd.func161.trans (congrArg some (by kernel_rfl)), f330 := Tryd.func162.trans (congrArg some (by kernel_rfl)), f331 := Tryd.func163.trans (congrArg some (by kernel_rfl)), f332 := Tryd.func164.trans (congrArg some (by kernel_rfl)), f343 := Tryd.func170.trans (congrArg some (by kernel_rfl)), t0 := Tryd.underlying0, a0 := Tryd.isAgg0, z0 := Tryd.sizeOf0, v0 := Tryd.zeroValue0, t3 := Tryd.underlying3, a3 := Tryd.isAgg3, z3 := Tryd.sizeOf3, v3 := Tryd.zeroValue3, t4 := Tryd.underlying4, a4 := Tryd.isAgg4, z4 := Tryd.sizeOf4, v4 := Tryd.zeroValue4, t5 := Tryd.underlying5, a5 := Tryd.isAgg5, z5 := Tryd.sizeOf5, v5 := Tryd.zeroValue5, t9 := Tryd.underlying9, a9 := Tryd.isAgg9, z9 := Tryd.sizeOf9, v9 := Tryd.zeroValue9, t28 := Tryd.underlying42, a28 := Tryd.isAgg42, z28 := Tryd.sizeOf42, v28 := Tryd.zeroValue42, t46 := Tryd.underlying144, a46 := Tryd.isAgg144, z46 := Tryd.sizeOf144, v46 := Tryd.zeroValue144, t51 := Tryd.underlying171, a51 := Tryd.isAgg171, z51 := Tryd.sizeOf171, v51 := Tryd.zeroValue171, t53 := Tryd.underlying158, a53 := Tryd.isAgg158, z53 := Tryd.sizeOf158, v53 := Tryd.zeroValue158, t131 := Tryd.underlying77, a131 := Tryd.isAgg77, z131 := Tryd.sizeOf77, v131 := Tryd.zeroValue77, t182 := Tryd.underlying164, a182 := Tryd.isAgg164, z182 := Tryd.sizeOf164, v182 := Tryd.zeroValue164, t183 := Tryd.underlying165, a183 := Tryd.isAgg165, z183 := Tryd.sizeOf165, v183 := Tryd.zeroValue165, t218 := Tryd.underlying182, a218 := Tryd.isAgg182, z218 := Tryd.sizeOf182, v218 := Tryd.zeroValue182, t222 := Tryd.underlying186, a222 := Tryd.isAgg186, z222 := Tryd.sizeOf186, v222 := Tryd.zeroValue186, t228 := Tryd.underlying193, a228 := Tryd.isAgg193, z228 := Tryd.sizeOf193, v228 := Tryd.zeroValue193, t229 := Tryd.underlying132, a229 := Tryd.isAgg132, z229 := Tryd.sizeOf132, v229 := Tryd.zeroValue132 }
def Tryd.lays2020_ren : Go.Shelf.Ren := ⟨fun | 20 => 113 | n => n, fun | 22 => 42 | 3 => 3 | 4 => 4 | 0 => 0 | n => n, fun  | n => n⟩
theorem Tryd.lays2020 : Lays2.n20 Tryd.prog Tryd.lays2020_ren := { mixed := by kernel_rfl, f20 := Tryd.func113.trans (congrArg some (by kernel_rfl)), t0 := Tryd.underlying0, a0 := Tryd.isAgg0, z0 := Tryd.sizeOf0, v0 := Tryd.zeroValue0, t3 := Tryd.underlying3, a3 := Tryd.isAgg3, z3 := Tryd.sizeOf3, v3 := Tryd.zeroValue3, t4 := Tryd.underlying4, a4 := Tryd.isAgg4, z4 := Tryd.sizeOf4, v4 := Tryd.zeroValue4, t22 := Tryd.underlying42, a22 := Tryd.isAgg42, z22 := Tryd.sizeOf42, v22 := Tryd.zeroValue42, i3 := by kernel_rfl }
end Go.Proofs
end

section
namespace Go.Proofs.YtdjdleldocfpaaaDoor.F
open Go.RowKit Go.Proofs.YtdjdleldocfpaaaDoorW.PrintWords Go.Proofs.YtdjdleldocfpaaaDoorW.PrintLast Go.Proofs.YtdjdleldocfpaaaDoorW.PrintMore
set_option linter.unusedVariables false
set_option linter.unusedSimpArgs false
attribute [local go_sem] max2_int min2_int max_two min_two
set_option maxHeartbeats 4000000 in
set_option maxRecDepth 100000 in
theorem slices_Clone_int.calls (A0 : Option Addr) (c0 : Nat) (l0 : List Int) (r : List Int) (w : World) (hr0 : Kd.C (Kd.int .i64) w A0 l0.length l0) (hc0 : l0.length ≤ c0) (h : slices_Clone_int.f l0 = some r) :
  Calls Tryd.prog 51 #[.slice A0 l0.length c0] w fun e w' => ∃ v0_ : Value, e = .returned (v0_) ∧ Kd.R (Kd.int .i64) 3 w' w.heap.size (fun _ => True) v0_ r ∧ Below w.heap.size w w' := by
 unfold slices_Clone_int.f at h
 by_cases hl : l0.length < 17592186044416
 ·rw [if_pos hl] at h
  obtain rfl := Option.some.inj h
  have hle := aK (show (([] : List Int).length + l0.length) * 8 ≤ 140737488355328 by simp; omega)
  clear h hl hc0
  have hnil : ∀ (w : World) (a : Option Addr) (n c n' c' : Nat), (binOp .eql 42 (.slice a n c) (.slice none n' c')).run Tryd.prog w = .ok (.bool a.isNone) w := fun w a n c n' c' => Go.Lib.run_eql_slice_nil w _ _ a n c n' c' Tryd.underlying42
  cases A0 with
  | none =>
   have h0 : l0 = [] := by
    rcases Nat.eq_zero_or_pos l0.length with h0 | h0
    ·exact List.eq_nil_of_length_eq_zero h0
    ·obtain ⟨ad, e, _⟩ := hr0.2.2 h0
     cases e
   subst h0
   clear hr0
   go_enter Tryd.func51, Tryd.ntmps51
   go_wp2
   go_ret
   exact ⟨_, rfl, Kd.R_nil _ _ _ _ _, Below.refl _ _⟩
  | some ad =>
   have HR := aK hr0
   clear hr0
   go_enter Tryd.func51, Tryd.ntmps51
   go_wp2_with (first | ((with_reducible refine gate_dst (N := 5) rfl ?_); refine Kd.R_lit (Kd.int .i64) (w0 := w) w.heap.size 3 ?hg (N := 5) ?hd (xs := ([] : List Int)) (inner := []) (ok := fun _ => True) (okp := fun _ => True) ?hr ?hp (fun _ hk => hk) trivial (Below.refl _ _) (Nat.le_refl _) (by simp) ?_; (case hd => rfl); (case hg => rfl); (case hr => first | (go_simp; done) | (go_simp; rfl)); (case hp => exact (Reps.none _ _)); intro v1 w1 ho hb hg_ hnew_; have HO := aK ho; have HB := aK hb; have HV := aK hnew_; clear hg_ hnew_ ho hb) | (at_builtin; refine Kd.R_append_rows (Kd.int .i64) (w0 := w) w.heap.size rfl (.tmp 5) (.tmp 6) 42 3 (.int .i64 0) 8 rfl Tryd.underlying42 info3 rfl (by decide) (by omega) v1 [] l0 (some ad) l0.length c0 (fun _ => True) (fun _ => False) rfl rfl HO.out (Kd.C_below HR.out HB.out) (fun _ _ h => h) (fun _ h => h.elim) (fun _ _ => trivial) HB.out HB.out.size hle.out ?_; intro v2 w2 ho2 hb2 hg2 hat2; rw [List.nil_append] at ho2; have HO2 := aK ho2; have HB2 := aK hb2; clear ho2 hb2 hg2 hat2))
   go_ret
   exact ⟨_, rfl, HO2.out, HB2.out⟩
 ·rw [if_neg hl] at h
  exact absurd h (by simp)
theorem slices_Clone_int.ctr {l0 : List Int} {r : List Int} (h : slices_Clone_int.f l0 = some r) : Ctr Tryd.prog 51 [.pr 1 (l0.map eI)] (.ow 3 1 (r.map eI)) := by
  refine ⟨enters_of Tryd.func51 rfl rfl, fun w ys _ hys => ?_⟩
  simp only [RepL, Rep] at hys
  obtain ⟨_, _, rfl, q1, rfl⟩ := hys
  obtain ⟨_, _, rfl, hr1, hc1⟩ := C_of_at E_eI q1
  refine (slices_Clone_int.calls _ _ _ _ w hr1 hc1 h).mono ?_
  rintro _ _ ⟨v, rfl, hv, hb⟩
  exact ⟨v, (bk v).toList, rfl, by simp only [RepR]; exact ⟨row_of_R E_eI hv, E_eI.row _, E_eI.pos, trivial⟩, by cases bk v <;> simp, (by first | exact hb | exact hb.below)⟩
set_option maxRecDepth 20000
set_option maxHeartbeats 4000000
open Nat renaming reduceAdd → p1, reduceSub → p2, reduceMul → p3, reduceDiv → p4, reduceBNe → p5, reduceBEq → p6, reduceEqDiff → p7, reduceLeDiff → p8, reduceLT → p9
open Int renaming reduceLE → p10, reduceLT → p11, reduceEq → p12
theorem impl_GridOk.ctr {a0_0 : Int} {a0_1 : Int} {r : Bool} (h : impl_GridOk.f a0_0 a0_1 = some r) : Ctr Tryd.prog 106 [.ag [.v (.int .i64 a0_0), .v (.int .i64 a0_1)]] (.v (.bool r)) := by
  refine Ctr_of tyOk hm Tryd.func106 rfl rfl (by kernel_rfl) (n := 20) (rv := [.tmp 2]) rfl rfl ?_
  simp only [W, List.replicate]
  unfold impl_GridOk.f at h
  replace h := ifS h; rcases h with ⟨c1, h⟩ | ⟨c1, h⟩
  · replace h := ifS h; rcases h with ⟨c2, h⟩ | ⟨c2, h⟩
    · replace h := ifS h; rcases h with ⟨c3, h⟩ | ⟨c3, h⟩
      · cases h
        try simp only [W, c1, c2, c3, p1, p2, p3, p4, p5, p6, p7, p8, p9, p10, p11, p12]
      · cases h
        try simp only [W, c1, c2, c3, p1, p2, p3, p4, p5, p6, p7, p8, p9, p10, p11, p12]
    · cases h
      try simp only [W, c1, c2, p1, p2, p3, p4, p5, p6, p7, p8, p9, p10, p11, p12]
  · cases h
    try simp only [W, c1, p1, p2, p3, p4, p5, p6, p7, p8, p9, p10, p11, p12]
set_option maxHeartbeats 8000000 in
set_option maxRecDepth 100000 in
theorem impl_GridOk.calls (a0_0 : Int) (a0_1 : Int) (r : Bool) (w : World) (h : impl_GridOk.f a0_0 a0_1 = some r) :
  Calls Tryd.prog 106 #[.agg #[.int .i64 a0_0, .int .i64 a0_1]] w fun e w' => e = .returned (.bool r) ∧ Below w.heap.size w w' := by
 have hu39 := Tryd.underlying39
 have HB := aK (Below.refl w.heap.size w)
 have H : (if a0_0 ≥ 1 then (if a0_0 ≤ 4 then (if a0_1 ≥ 1 then (some (decide (a0_1 ≤ 4))) else (some false)) else (some false)) else (some false)) = some r := h
 clear h
 by_cases c2 : a0_0 ≥ 1
 ·rw [if_pos c2] at H
  have c2b0 : decide (1 ≤ a0_0) = true := decide_eq_true c2
  clear c2
  by_cases c3 : a0_0 ≤ 4
  ·rw [if_pos c3] at H
   have c3b0 : decide (a0_0 ≤ 4) = true := decide_eq_true c3
   clear c3
   by_cases c4 : a0_1 ≥ 1
   ·rw [if_pos c4] at H
    have c4b0 : decide (1 ≤ a0_1) = true := decide_eq_true c4
    clear c4
    obtain rfl := Option.some.inj H
    go_enter Tryd.func106, Tryd.ntmps106
    go_wp2_with (first | ((with_reducible refine gate_dst (N := 1) rfl ?_); refine box_event ?hg (N := 1) ?hd (cs := #[.int .i64 a0_0, .int .i64 a0_1]) (t := 39) ?hr ?_; (case hd => rfl); (case hg => rfl); (case hr => first | (go_simp; done) | (go_simp; rfl)); intro gb950 hg w5 hbox hb; have BK950 := aK (hbox); have GW950 := aK ((by rw [hg]; exact (bSz (zH0 HB)) : w.heap.size ≤ gb950)); replace HB := aK (bSp (zH0 HB) hb); have GE950 := GW950; clear hb hbox hg; obtain ⟨hcz6_0, hcz6_1, hfz6_0, hfz6_1⟩ := cl2 BK950.out))
    go_ret
    exact ⟨by first | rfl | (simp [errW_none, errW_some] <;> rfl) | (simp [*, errW_none, errW_some] <;> rfl), by repeat (first | (with_reducible first | exact HB.out | apply bAl | apply bDN | apply bD1 | refine bSt ?_ GE950.out) | exact HB.out)⟩
   ·rw [if_neg c4] at H
    have c4b0 : decide (1 ≤ a0_1) = false := decide_eq_false c4
    clear c4
    obtain rfl := Option.some.inj H
    go_enter Tryd.func106, Tryd.ntmps106
    go_wp2_with (first | ((with_reducible refine gate_dst (N := 1) rfl ?_); refine box_event ?hg (N := 1) ?hd (cs := #[.int .i64 a0_0, .int .i64 a0_1]) (t := 39) ?hr ?_; (case hd => rfl); (case hg => rfl); (case hr => first | (go_simp; done) | (go_simp; rfl)); intro gb950 hg w7 hbox hb; have BK950 := aK (hbox); have GW950 := aK ((by rw [hg]; exact (bSz (zH0 HB)) : w.heap.size ≤ gb950)); replace HB := aK (bSp (zH0 HB) hb); have GE950 := GW950; clear hb hbox hg; obtain ⟨hcz8_0, hcz8_1, hfz8_0, hfz8_1⟩ := cl2 BK950.out))
    go_ret
    exact ⟨by first | rfl | (simp [errW_none, errW_some] <;> rfl) | (simp [*, errW_none, errW_some] <;> rfl), by repeat (first | (with_reducible first | exact HB.out | apply bAl | apply bDN | apply bD1 | refine bSt ?_ GE950.out) | exact HB.out)⟩
  ·rw [if_neg c3] at H
   have c3b0 : decide (a0_0 ≤ 4) = false := decide_eq_false c3
   clear c3
   obtain rfl := Option.some.inj H
   go_enter Tryd.func106, Tryd.ntmps106
   go_wp2_with (first | ((with_reducible refine gate_dst (N := 1) rfl ?_); refine box_event ?hg (N := 1) ?hd (cs := #[.int .i64 a0_0, .int .i64 a0_1]) (t := 39) ?hr ?_; (case hd => rfl); (case hg => rfl); (case hr => first | (go_simp; done) | (go_simp; rfl)); intro gb950 hg w9 hbox hb; have BK950 := aK (hbox); have GW950 := aK ((by rw [hg]; exact (bSz (zH0 HB)) : w.heap.size ≤ gb950)); replace HB := aK (bSp (zH0 HB) hb); have GE950 := GW950; clear hb hbox hg; obtain ⟨hcz10_0, hcz10_1, hfz10_0, hfz10_1⟩ := cl2 BK950.out))
   go_ret
   exact ⟨by first | rfl | (simp [errW_none, errW_some] <;> rfl) | (simp [*, errW_none, errW_some] <;> rfl), by repeat (first | (with_reducible first | exact HB.out | apply bAl | apply bDN | apply bD1 | refine bSt ?_ GE950.out) | exact HB.out)⟩
 ·rw [if_neg c2] at H
  have c2b0 : decide (1 ≤ a0_0) = false := decide_eq_false c2
  clear c2
  obtain rfl := Option.some.inj H
  go_enter Tryd.func106, Tryd.ntmps106
  go_wp2_with (first | ((with_reducible refine gate_dst (N := 1) rfl ?_); refine box_event ?hg (N := 1) ?hd (cs := #[.int .i64 a0_0, .int .i64 a0_1]) (t := 39) ?hr ?_; (case hd => rfl); (case hg => rfl); (case hr => first | (go_simp; done) | (go_simp; rfl)); intro gb950 hg w11 hbox hb; have BK950 := aK (hbox); have GW950 := aK ((by rw [hg]; exact (bSz (zH0 HB)) : w.heap.size ≤ gb950)); replace HB := aK (bSp (zH0 HB) hb); have GE950 := GW950; clear hb hbox hg; obtain ⟨hcz12_0, hcz12_1, hfz12_0, hfz12_1⟩ := cl2 BK950.out))
  go_ret
  exact ⟨by first | rfl | (simp [errW_none, errW_some] <;> rfl) | (simp [*, errW_none, errW_some] <;> rfl), by repeat (first | (with_reducible first | exact HB.out | apply bAl | apply bDN | apply bD1 | refine bSt ?_ GE950.out) | exact HB.out)⟩
theorem impl_CountGaps.ctr {a0_0 : Int} {a0_1 : Int} {r : Int} (h : impl_CountGaps.f a0_0 a0_1 = some r) : Ctr Tryd.prog 110 [.ag [.v (.int .i64 a0_0), .v (.int .i64 a0_1)]] (.v (.int .i64 r)) := by
  refine Ctr_of tyOk hm Tryd.func110 rfl rfl (by kernel_rfl) (n := 18) (rv := [.tmp 2]) rfl rfl ?_
  simp only [W, List.replicate]
  unfold impl_CountGaps.f at h
  replace h := bnd h; obtain ⟨t1, A, h⟩ := h
  try simp only [W, p1, p2, p3, p4, p5, p6, p7, p8, p9, p10, p11, p12]
  refine callR (impl_GridOk.ctr A) ?_
  replace h := ifT h; rcases h with ⟨rfl, h⟩ | ⟨rfl, h⟩
  · cases h
    try simp only [W, p1, p2, p3, p4, p5, p6, p7, p8, p9, p10, p11, p12]
  · cases h
    try simp only [W, p1, p2, p3, p4, p5, p6, p7, p8, p9, p10, p11, p12]
set_option maxHeartbeats 8000000 in
set_option maxRecDepth 100000 in
theorem impl_CountGaps.calls (a0_0 : Int) (a0_1 : Int) (r : Int) (w : World) (h : impl_CountGaps.f a0_0 a0_1 = some r) :
  Calls Tryd.prog 110 #[.agg #[.int .i64 a0_0, .int .i64 a0_1]] w fun e w' => e = .returned (.int .i64 r) ∧ Below w.heap.size w w' := by
 have hu39 := Tryd.underlying39
 have HB := aK (Below.refl w.heap.size w)
 have H : ((impl_GridOk.f a0_0 a0_1).bind fun t952 => (if t952 = true then (some (wrap64 ((wrap64 ((wrap64 (a0_0 - 1)) * a0_1)) + (wrap64 (a0_0 * (wrap64 (a0_1 - 1))))))) else (some 0))) = some r := h
 clear h
 replace H := Option.bind_eq_some_iff.mp H
 obtain ⟨t952, A20, H⟩ := H
 replace H : (if t952 = true then (some (wrap64 ((wrap64 ((wrap64 (a0_0 - 1)) * a0_1)) + (wrap64 (a0_0 * (wrap64 (a0_1 - 1))))))) else (some 0)) = some r := H
 have A2 := aK A20
 clear A20
 by_cases c3 : t952 = true
 ·subst c3
  have H1 : (some (wrap64 ((wrap64 ((wrap64 (a0_0 - 1)) * a0_1)) + (wrap64 (a0_0 * (wrap64 (a0_1 - 1))))))) = some r := by rw [if_pos rfl] at H; exact H
  clear H
  have H := H1
  clear H1
  obtain rfl := Option.some.inj H
  go_enter Tryd.func110, Tryd.ntmps110
  go_wp2_with (first | ((with_reducible refine gate_dst (N := 1) rfl ?_); refine box_event ?hg (N := 1) ?hd (cs := #[.int .i64 a0_0, .int .i64 a0_1]) (t := 39) ?hr ?_; (case hd => rfl); (case hg => rfl); (case hr => first | (go_simp; done) | (go_simp; rfl)); intro gb951 hg w4 hbox hb; have BK951 := aK (hbox); have GW951 := aK ((by rw [hg]; exact (bSz (zH0 HB)) : w.heap.size ≤ gb951)); replace HB := aK (bSp (zH0 HB) hb); have GE951 := GW951; clear hb hbox hg; obtain ⟨hcz5_0, hcz5_1, hfz5_0, hfz5_1⟩ := cl2 BK951.out) | ((with_reducible refine gate_callee (f := 106) rfl ?_); refine goesL_ (some 4) rfl rfl Tryd.func106 (by kernel_rfl) rfl #[.agg #[.int .i64 a0_0, .int .i64 a0_1]] rfl zD ?_; (with_reducible refine (impl_GridOk.calls a0_0 a0_1 true _ A2.out).mono ?_); rintro e w6 ⟨rfl, hb⟩; refine ⟨_, rfl, ?_⟩; replace BK951 := zB BK951 hb; replace HB := aK (bSp (zH1 HB GE951) hb); (try clear hb); (try clear hb2); (try clear hk); (try clear hi); obtain ⟨hcz7_0, hcz7_1, hfz7_0, hfz7_1⟩ := cl2 BK951.out))
  go_ret
  exact ⟨by first | rfl | (simp [errW_none, errW_some] <;> rfl) | (simp [*, errW_none, errW_some] <;> rfl), by repeat (first | (with_reducible first | exact HB.out | apply bAl | apply bDN | apply bD1 | refine bSt ?_ GE951.out) | exact HB.out)⟩
 ·replace c3 := Bool.eq_false_iff.mpr c3
  subst c3
  have H1 : (some 0) = some r := by rw [if_neg (show ¬ (false = true) by decide)] at H; exact H
  clear H
  have H := H1
  clear H1
  obtain rfl := Option.some.inj H
  go_enter Tryd.func110, Tryd.ntmps110
  go_wp2_with (first | ((with_reducible refine gate_dst (N := 1) rfl ?_); refine box_event ?hg (N := 1) ?hd (cs := #[.int .i64 a0_0, .int .i64 a0_1]) (t := 39) ?hr ?_; (case hd => rfl); (case hg => rfl); (case hr => first | (go_simp; done) | (go_simp; rfl)); intro gb951 hg w8 hbox hb; have BK951 := aK (hbox); have GW951 := aK ((by rw [hg]; exact (bSz (zH0 HB)) : w.heap.size ≤ gb951)); replace HB := aK (bSp (zH0 HB) hb); have GE951 := GW951; clear hb hbox hg; obtain ⟨hcz9_0, hcz9_1, hfz9_0, hfz9_1⟩ := cl2 BK951.out) | ((with_reducible refine gate_callee (f := 106) rfl ?_); refine goesL_ (some 4) rfl rfl Tryd.func106 (by kernel_rfl) rfl #[.agg #[.int .i64 a0_0, .int .i64 a0_1]] rfl zD ?_; (with_reducible refine (impl_GridOk.calls a0_0 a0_1 false _ A2.out).mono ?_); rintro e w10 ⟨rfl, hb⟩; refine ⟨_, rfl, ?_⟩; replace BK951 := zB BK951 hb; replace HB := aK (bSp (zH1 HB GE951) hb); (try clear hb); (try clear hb2); (try clear hk); (try clear hi)))
  go_ret
  exact ⟨by first | rfl | (simp [errW_none, errW_some] <;> rfl) | (simp [*, errW_none, errW_some] <;> rfl), by repeat (first | (with_reducible first | exact HB.out | apply bAl | apply bDN | apply bD1 | refine bSt ?_ GE951.out) | exact HB.out)⟩
def impl_MazeOk.T1 : Bool × List (List Nat × List Nat) := (true, [([], []), ([0], [0]), ([1], [1]), ([2, 2], [2]), ([3], [3]), ([4, 3], [3, 4]), ([5, 3], [3, 5]), ([3, 6], [3, 6]), ([7, 3], [7]), ([8], [8]), ([9, 8], [8, 9]), ([8], [8]), ([11, 8], [8, 11]), ([12, 8, 8], [8, 12]), ([13, 8], [8, 13]), ([10, 14, 8], [8, 10, 14]), ([8, 15], [8, 15]), ([16, 13, 0, 1, 2, 3, 4, 5, 6, 7, 8, 9, 10, 11, 12, 13, 14, 15, 16], [16])])
def impl_MazeOk.B1 : List Nat := [0, 1, 3, 7, 15, 31, 63, 127, 255, 511, 1023, 511, 2559, 6655, 14847, 32767, 65535, 131071]
theorem impl_MazeOk.tab1 : rtab .any (opsOf Tryd.f82 1) = impl_MazeOk.T1 := by kernel_rfl
theorem impl_MazeOk.bits1 : waitsOk impl_MazeOk.T1.2 impl_MazeOk.B1 = true := by kernel_rfl
theorem impl_MazeOk.ctr {a0_0 : Int} {a0_1 : Int} {a0_2 : Int} {r : Bool} (h : impl_MazeOk.f a0_0 a0_1 a0_2 = some r) : Ctr Tryd.prog 82 [.ag [.v (.int .i64 a0_0), .v (.int .i64 a0_1), .v (.int .i64 a0_2)]] (.v (.bool r)) := by
  refine Ctr_of tyOk hm Tryd.func82 rfl rfl (by kernel_rfl) (n := 19) (rv := [.tmp 2]) rfl rfl ?_
  simp only [W, List.replicate]
  unfold impl_MazeOk.f at h
  replace h := bnd h; obtain ⟨t1, A, h⟩ := h
  try simp only [W, p1, p2, p3, p4, p5, p6, p7, p8, p9, p10, p11, p12]
  refine callR (impl_GridOk.ctr A) ?_
  replace h := ifT h; rcases h with ⟨rfl, h⟩ | ⟨rfl, h⟩
  · replace h := ifS h; rcases h with ⟨c3, h⟩ | ⟨c3, h⟩
    · replace h := bnd h; obtain ⟨t4, A, h⟩ := h
      try simp only [W, c3, p1, p2, p3, p4, p5, p6, p7, p8, p9, p10, p11, p12]
      refine callR (impl_CountGaps.ctr A) ?_
      replace h := ifN h; obtain ⟨c5, h⟩ := h
      cases h
      try simp only [W, c3, c5, p1, p2, p3, p4, p5, p6, p7, p8, p9, p10, p11, p12]
    · cases h
      try simp only [W, c3, p1, p2, p3, p4, p5, p6, p7, p8, p9, p10, p11, p12]
  · cases h
    try simp only [W, p1, p2, p3, p4, p5, p6, p7, p8, p9, p10, p11, p12]
set_option maxHeartbeats 8000000 in
set_option maxRecDepth 100000 in
theorem impl_MazeOk.calls (a0_0 : Int) (a0_1 : Int) (a0_2 : Int) (r : Bool) (w : World) (h : impl_MazeOk.f a0_0 a0_1 a0_2 = some r) :
  Calls Tryd.prog 82 #[.agg #[.int .i64 a0_0, .int .i64 a0_1, .int .i64 a0_2]] w fun e w' => e = .returned (.bool r) ∧ Below w.heap.size w w' := by
 have hu41 := Tryd.underlying41
 have hu39 := Tryd.underlying39
 have HB := aK (Below.refl w.heap.size w)
 have H : ((impl_GridOk.f a0_0 a0_1).bind fun t954 => (if t954 = true then (if a0_2 ≥ 0 then ((impl_CountGaps.f a0_0 a0_1).bind fun t955 => (if 0 ≤ t955 then (some (decide (a0_2 < (shl .i64 1 t955)))) else (none))) else (some false)) else (some false))) = some r := h
 clear h
 replace H := Option.bind_eq_some_iff.mp H
 obtain ⟨t954, A20, H⟩ := H
 replace H : (if t954 = true then (if a0_2 ≥ 0 then ((impl_CountGaps.f a0_0 a0_1).bind fun t955 => (if 0 ≤ t955 then (some (decide (a0_2 < (shl .i64 1 t955)))) else (none))) else (some false)) else (some false)) = some r := H
 have A2 := aK A20
 clear A20
 by_cases c3 : t954 = true
 ·subst c3
  have H1 : (if a0_2 ≥ 0 then ((impl_CountGaps.f a0_0 a0_1).bind fun t955 => (if 0 ≤ t955 then (some (decide (a0_2 < (shl .i64 1 t955)))) else (none))) else (some false)) = some r := by rw [if_pos rfl] at H; exact H
  clear H
  have H := H1
  clear H1
  by_cases c4 : a0_2 ≥ 0
  ·rw [if_pos c4] at H
   have c4b0 : decide (0 ≤ a0_2) = true := decide_eq_true c4
   clear c4
   replace H := Option.bind_eq_some_iff.mp H
   obtain ⟨t955, A50, H⟩ := H
   replace H : (if 0 ≤ t955 then (some (decide (a0_2 < (shl .i64 1 t955)))) else (none)) = some r := H
   have A5 := aK A50
   clear A50
   by_cases c6 : 0 ≤ t955
   ·rw [if_pos c6] at H
    have c6b0 := eq_true c6
    have c6b1 : decide (0 ≤ t955) = true := decide_eq_true c6
    clear c6
    obtain ⟨ji7, hji7⟩ : ∃ j_ : Int, (shl .i64 1 t955) = j_ := ⟨_, rfl⟩
    replace H : (some (decide (a0_2 < (ji7)))) = some r := by first | (rw [hji7] at H; exact H) | (simp only [hji7] at H ⊢; exact H)
    (try rw [hji7] at A2)
    (try rw [hji7] at A5)
    have hji7_ : (IntKind.i64.wrap (1 * 2 ^ min t955.toNat 64)) = ji7 := hji7
    have hji7z : t955 ≤ 64 → (IntKind.i64.wrap (1 * 2 ^ t955.toNat)) = ji7 := shl_small hji7
    have hji7u : (IntKind.i64.wrap (2 ^ min t955.toNat 64)) = ji7 := by have h_ := hji7_; rw [Int.one_mul] at h_; exact h_
    have hji7v : t955 ≤ 64 → (IntKind.i64.wrap (2 ^ t955.toNat)) = ji7 := fun hle_ => by have h_ := hji7z hle_; rw [Int.one_mul] at h_; exact h_
    have hji7y : (wrap64 (1 * 2 ^ min t955.toNat 64)) = ji7 := (i64_w _).symm.trans hji7_
    have hji7x : t955 ≤ 64 → (wrap64 (1 * 2 ^ t955.toNat)) = ji7 := fun h_ => (i64_w _).symm.trans (hji7z h_)
    obtain rfl := Option.some.inj H
    go_enter Tryd.func82, Tryd.ntmps82
    try go_wp2_with (first | ((with_reducible refine gate_dst (N := 1) rfl ?_); refine box_event ?hg (N := 1) ?hd (cs := #[.int .i64 a0_0, .int .i64 a0_1, .int .i64 a0_2]) (t := 41) ?hr ?_; (case hd => rfl); (case hg => rfl); (case hr => first | (go_simp; done) | (go_simp; rfl)); intro gb953 hg w8 hbox hb; have BK953 := aK (hbox); have GW953 := aK ((by rw [hg]; exact (bSz (zH0 HB)) : w.heap.size ≤ gb953)); replace HB := aK (bSp (zH0 HB) hb); have GE953 := GW953; clear hb hbox hg))
    have n0_ := aK (kD BK953.out)
    have n1_ := aK (bD1 HB.out)
    clear BK953
    clear HB
    have BK953 := n0_
    have HB := n1_
    clear n0_ n1_
    refine start_ (n := 18) (S := fun w' => w'.cell? ⟨gb953, 0, none⟩ = some (.int .i64 a0_0) ∧ w'.cell? ⟨gb953, 1, none⟩ = some (.int .i64 a0_1) ∧ w'.cell? ⟨gb953, 2, none⟩ = some (.int .i64 a0_2)) (ds := []) #[bN,bN,bN,bN,bN,bN,bN,bN,bN,bN,bN,bN,bN,bN,bN,bN,bN,bN] (by kernel_rfl) rfl rfl ⟨zQ BK953 0, zQ BK953 1, zQ BK953 2⟩ (fun hHeld => ?_); refine with_tabW impl_MazeOk.tab1 impl_MazeOk.bits1 (fun HT_ HW_ => ?_)
    generalize w8.drew = w9 at BK953 HB hHeld ⊢
    refine pure_ (i := 0) (N := some 3) (v := ?_) (a' := ?_) #[bY,bN,bN,bN,bN,bN,bN,bN,bN,bN,bN,bN,bN,bN,bN,bN,bN,bN] rfl rfl (any_of HT_.out (by kernel_rfl)) (fun _ _ _ h => h) (Or.inl ⟨by rfl, ?_⟩) ?_ ?_
    rotate_left
    ·intro w'
     go_simp
     with_reducible rfl
    rotate_left
    ·simp only [Act.put, sTA, sZ, sS, i64_w, i32_w]
     rfl
    refine take_ (i := 1) (N := some 4) (v := ?_) (a' := ?_) #[bY,bY,bN,bN,bN,bN,bN,bN,bN,bN,bN,bN,bN,bN,bN,bN,bN,bN] rfl rfl (take_ofW HT_.out HW_.out (by kernel_rfl)) (fun _ _ _ h => h) (Or.inl ⟨by rfl, ?_⟩) hHeld ?_ ?_
    rotate_left
    ·rintro w' ⟨s0, s1, s2⟩
     go_simp
     with_reducible rfl
    rotate_left
    ·simp only [Act.put, sTA, sZ, sS, i64_w, i32_w]
     rfl
    refine one_ (i := 2) (N := some 5) #[bY,bY,bY,bN,bN,bN,bN,bN,bN,bN,bN,bN,bN,bN,bN,bN,bN,bN] rfl rfl (one_of HT_.out (by kernel_rfl)) (by decide) (fun K hK => ?_)
    refine goes_ Tryd.func106 (by kernel_rfl) rfl #[.agg #[.int .i64 a0_0, .int .i64 a0_1]] (by rfl) rfl rfl zD ?_
    with_reducible refine (impl_GridOk.calls a0_0 a0_1 true _ A2.out).mono ?_
    rintro e w10 ⟨rfl, hb⟩
    refine ⟨_, rfl, ?_⟩
    have n0_ := zB BK953 hb
    have n1_ := aK (bSp (zH1 HB GE953) hb)
    clear BK953
    clear HB
    have BK953 := n0_
    have HB := n1_
    clear n0_ n1_
    (try clear hb)
    (try clear hb2)
    (try clear hk)
    (try clear hi)
    refine hK.out _ _ ⟨zQ BK953 0, zQ BK953 1, zQ BK953 2⟩ (fun hHeld => ?_)
    clear hK K
    refine norm_ (a' := ?_) ?_ ?_
    rotate_left
    ·show Act.put _ (some 5) _ = _
     simp only [Act.put, sTA, sZ, sS, i64_w, i32_w]
     rfl
    refine pure_ (i := 3) (N := some 6) (v := ?_) (a' := ?_) #[bY,bY,bY,bY,bN,bN,bN,bN,bN,bN,bN,bN,bN,bN,bN,bN,bN,bN] rfl rfl (any_of HT_.out (by kernel_rfl)) (fun _ _ _ h => h) (Or.inl ⟨by rfl, ?_⟩) ?_ ?_
    rotate_left
    ·intro w'
     go_simp
     with_reducible rfl
    rotate_left
    ·simp only [Act.put, sTA, sZ, sS, i64_w, i32_w]
     rfl
    refine pure_ (i := 4) (N := some 7) (v := ?_) (a' := ?_) #[bY,bY,bY,bY,bY,bN,bN,bN,bN,bN,bN,bN,bN,bN,bN,bN,bN,bN] rfl rfl (any_of HT_.out (by kernel_rfl)) (fun _ _ _ h => h) (Or.inl ⟨by rfl, ?_⟩) ?_ ?_
    rotate_left
    ·intro w'
     go_simp
     with_reducible rfl
    rotate_left
    ·simp only [Act.put, sTA, sZ, sS, i64_w, i32_w]
     rfl
    refine take_ (i := 5) (N := some 8) (v := ?_) (a' := ?_) #[bY,bY,bY,bY,bY,bY,bN,bN,bN,bN,bN,bN,bN,bN,bN,bN,bN,bN] rfl rfl (take_ofW HT_.out HW_.out (by kernel_rfl)) (fun _ _ _ h => h) (Or.inl ⟨by rfl, ?_⟩) hHeld ?_ ?_
    rotate_left
    ·rintro w' ⟨s0, s1, s2⟩
     go_simp
     with_reducible rfl
    rotate_left
    ·simp only [Act.put, sTA, sZ, sS, i64_w, i32_w]
     rfl
    refine pure_ (i := 6) (N := some 9) (v := ?_) (a' := ?_) #[bY,bY,bY,bY,bY,bY,bY,bN,bN,bN,bN,bN,bN,bN,bN,bN,bN,bN] rfl rfl (any_of HT_.out (by kernel_rfl)) (fun _ _ _ h => h) (Or.inl ⟨by rfl, ?_⟩) ?_ ?_
    rotate_left
    ·intro w'
     go_simp
     with_reducible rfl
    rotate_left
    ·simp only [Act.put, sTA, sZ, sS, i64_w, i32_w]
     rfl
    refine pure_ (i := 7) (N := some 10) (v := ?_) (a' := ?_) #[bY,bY,bY,bY,bY,bY,bY,bY,bN,bN,bN,bN,bN,bN,bN,bN,bN,bN] rfl rfl (any_of HT_.out (by kernel_rfl)) (fun _ _ _ h => h) (Or.inl ⟨by rfl, ?_⟩) ?_ ?_
    rotate_left
    ·intro w'
     go_simp
     with_reducible rfl
    rotate_left
    ·simp only [Act.put, sTA, sZ, sS, i64_w, i32_w]
     rfl
    refine pure_ (i := 8) (N := some 11) (v := ?_) (a' := ?_) #[bY,bY,bY,bY,bY,bY,bY,bY,bY,bN,bN,bN,bN,bN,bN,bN,bN,bN] rfl rfl (any_of HT_.out (by kernel_rfl)) (fun _ _ _ h => h) (Or.inl ⟨by rfl, ?_⟩) ?_ ?_
    rotate_left
    ·intro w'
     go_simp
     with_reducible rfl
    rotate_left
    ·simp only [Act.put, sTA, sZ, sS, i64_w, i32_w]
     rfl
    refine pure_ (i := 9) (N := some 12) (v := ?_) (a' := ?_) #[bY,bY,bY,bY,bY,bY,bY,bY,bY,bY,bN,bN,bN,bN,bN,bN,bN,bN] rfl rfl (any_of HT_.out (by kernel_rfl)) (fun _ _ _ h => h) (Or.inl ⟨by rfl, ?_⟩) ?_ ?_
    rotate_left
    ·intro w'
     go_simp
     with_reducible rfl
    rotate_left
    ·simp only [Act.put, sTA, sZ, sS, i64_w, i32_w]
     rfl
    refine pure_ (i := 11) (N := some 14) (v := ?_) (a' := ?_) #[bY,bY,bY,bY,bY,bY,bY,bY,bY,bY,bN,bY,bN,bN,bN,bN,bN,bN] rfl rfl (any_of HT_.out (by kernel_rfl)) (fun _ _ _ h => h) (Or.inl ⟨by rfl, ?_⟩) ?_ ?_
    rotate_left
    ·intro w'
     go_simp
     with_reducible rfl
    rotate_left
    ·simp only [Act.put, sTA, sZ, sS, i64_w, i32_w]
     rfl
    refine take_ (i := 10) (N := some 13) (v := ?_) (a' := ?_) #[bY,bY,bY,bY,bY,bY,bY,bY,bY,bY,bY,bY,bN,bN,bN,bN,bN,bN] rfl rfl (take_ofW HT_.out HW_.out (by kernel_rfl)) (fun _ _ _ h => h) (Or.inl ⟨by rfl, ?_⟩) hHeld ?_ ?_
    rotate_left
    ·rintro w' ⟨s0, s1, s2⟩
     go_simp
     with_reducible rfl
    rotate_left
    ·simp only [Act.put, sTA, sZ, sS, i64_w, i32_w]
     rfl
    refine take_ (i := 12) (N := some 15) (v := ?_) (a' := ?_) #[bY,bY,bY,bY,bY,bY,bY,bY,bY,bY,bY,bY,bY,bN,bN,bN,bN,bN] rfl rfl (take_ofW HT_.out HW_.out (by kernel_rfl)) (fun _ _ _ h => h) (Or.inl ⟨by rfl, ?_⟩) hHeld ?_ ?_
    rotate_left
    ·rintro w' ⟨s0, s1, s2⟩
     go_simp
     with_reducible rfl
    rotate_left
    ·simp only [Act.put, sTA, sZ, sS, i64_w, i32_w]
     rfl
    refine one_ (i := 13) (N := some 16) #[bY,bY,bY,bY,bY,bY,bY,bY,bY,bY,bY,bY,bY,bY,bN,bN,bN,bN] rfl rfl (one_of HT_.out (by kernel_rfl)) (by decide) (fun K hK => ?_)
    refine goes_ Tryd.func110 (by kernel_rfl) rfl #[.agg #[.int .i64 a0_0, .int .i64 a0_1]] (by rfl) rfl rfl zD ?_
    with_reducible refine (impl_CountGaps.calls a0_0 a0_1 t955 _ A5.out).mono ?_
    rintro e w11 ⟨rfl, hb⟩
    refine ⟨_, rfl, ?_⟩
    have n0_ := zB BK953 hb
    have n1_ := aK (bSp (zH1 HB GE953) hb)
    clear BK953
    clear HB
    have BK953 := n0_
    have HB := n1_
    clear n0_ n1_
    (try clear hb)
    (try clear hb2)
    (try clear hk)
    (try clear hi)
    refine hK.out _ _ ⟨zQ BK953 0, zQ BK953 1, zQ BK953 2⟩ (fun hHeld => ?_)
    clear hK K
    refine norm_ (a' := ?_) ?_ ?_
    rotate_left
    ·show Act.put _ (some 16) _ = _
     simp only [Act.put, sTA, sZ, sS, i64_w, i32_w]
     rfl
    refine pure_ (i := 14) (N := some 17) (v := ?_) (a' := ?_) #[bY,bY,bY,bY,bY,bY,bY,bY,bY,bY,bY,bY,bY,bY,bY,bN,bN,bN] rfl rfl (any_of HT_.out (by kernel_rfl)) (fun _ _ _ h => h) (Or.inl ⟨by rfl, ?_⟩) ?_ ?_
    rotate_left
    ·intro w'
     go_simp
     with_reducible rfl
    rotate_left
    ·simp only [Act.put, sTA, sZ, sS, i64_w, i32_w]
     rfl
    refine pure_ (i := 15) (N := some 18) (v := ?_) (a' := ?_) #[bY,bY,bY,bY,bY,bY,bY,bY,bY,bY,bY,bY,bY,bY,bY,bY,bN,bN] rfl rfl (any_of HT_.out (by kernel_rfl)) (fun _ _ _ h => h) (Or.inl ⟨by rfl, ?_⟩) ?_ ?_
    rotate_left
    ·intro w'
     go_simp
     with_reducible rfl
    rotate_left
    ·simp only [Act.put, sTA, sZ, sS, i64_w, i32_w]
     rfl
    refine pure_ (i := 16) (N := some 19) (v := ?_) (a' := ?_) #[bY,bY,bY,bY,bY,bY,bY,bY,bY,bY,bY,bY,bY,bY,bY,bY,bY,bN] rfl rfl (any_of HT_.out (by kernel_rfl)) (fun _ _ _ h => h) (Or.inl ⟨by rfl, ?_⟩) ?_ ?_
    rotate_left
    ·intro w'
     go_simp
     with_reducible rfl
    rotate_left
    ·simp only [Act.put, sTA, sZ, sS, i64_w, i32_w]
     rfl
    refine pure_ (i := 17) (N := some 2) (v := ?_) (a' := ?_) #[bY,bY,bY,bY,bY,bY,bY,bY,bY,bY,bY,bY,bY,bY,bY,bY,bY,bY] rfl rfl (any_of HT_.out (by kernel_rfl)) (fun _ _ _ h => h) (Or.inl ⟨by rfl, ?_⟩) ?_ ?_
    rotate_left
    ·intro w'
     go_simp
     with_reducible rfl
    rotate_left
    ·simp only [Act.put, sTA, sZ, sS, i64_w, i32_w]
     rfl
    refine done_ (done_of HT_.out (by kernel_rfl)) ?_
    try go_wp2
    go_ret
    exact ⟨by first | rfl | (simp [errW_none, errW_some] <;> rfl) | (simp only [← hji7]; first | rfl | (simp [errW_none, errW_some] <;> rfl)) | (simp [*, errW_none, errW_some] <;> rfl), by repeat (first | (with_reducible first | exact HB.out | apply bAl | apply bDN | apply bD1 | refine bSt ?_ GE953.out) | exact HB.out)⟩
   ·rw [if_neg c6] at H
    exact absurd H (by simp)
  ·rw [if_neg c4] at H
   have c4b0 : decide (0 ≤ a0_2) = false := decide_eq_false c4
   clear c4
   obtain rfl := Option.some.inj H
   go_enter Tryd.func82, Tryd.ntmps82
   try go_wp2_with (first | ((with_reducible refine gate_dst (N := 1) rfl ?_); refine box_event ?hg (N := 1) ?hd (cs := #[.int .i64 a0_0, .int .i64 a0_1, .int .i64 a0_2]) (t := 41) ?hr ?_; (case hd => rfl); (case hg => rfl); (case hr => first | (go_simp; done) | (go_simp; rfl)); intro gb953 hg w12 hbox hb; have BK953 := aK (hbox); have GW953 := aK ((by rw [hg]; exact (bSz (zH0 HB)) : w.heap.size ≤ gb953)); replace HB := aK (bSp (zH0 HB) hb); have GE953 := GW953; clear hb hbox hg))
   have n0_ := aK (kD BK953.out)
   have n1_ := aK (bD1 HB.out)
   clear BK953
   clear HB
   have BK953 := n0_
   have HB := n1_
   clear n0_ n1_
   refine start_ (n := 18) (S := fun w' => w'.cell? ⟨gb953, 0, none⟩ = some (.int .i64 a0_0) ∧ w'.cell? ⟨gb953, 1, none⟩ = some (.int .i64 a0_1) ∧ w'.cell? ⟨gb953, 2, none⟩ = some (.int .i64 a0_2)) (ds := []) #[bN,bN,bN,bN,bN,bN,bN,bN,bN,bN,bN,bN,bN,bN,bN,bN,bN,bN] (by kernel_rfl) rfl rfl ⟨zQ BK953 0, zQ BK953 1, zQ BK953 2⟩ (fun hHeld => ?_); refine with_tabW impl_MazeOk.tab1 impl_MazeOk.bits1 (fun HT_ HW_ => ?_)
   generalize w12.drew = w13 at BK953 HB hHeld ⊢
   refine pure_ (i := 0) (N := some 3) (v := ?_) (a' := ?_) #[bY,bN,bN,bN,bN,bN,bN,bN,bN,bN,bN,bN,bN,bN,bN,bN,bN,bN] rfl rfl (any_of HT_.out (by kernel_rfl)) (fun _ _ _ h => h) (Or.inl ⟨by rfl, ?_⟩) ?_ ?_
   rotate_left
   ·intro w'
    go_simp
    with_reducible rfl
   rotate_left
   ·simp only [Act.put, sTA, sZ, sS, i64_w, i32_w]
    rfl
   refine take_ (i := 1) (N := some 4) (v := ?_) (a' := ?_) #[bY,bY,bN,bN,bN,bN,bN,bN,bN,bN,bN,bN,bN,bN,bN,bN,bN,bN] rfl rfl (take_ofW HT_.out HW_.out (by kernel_rfl)) (fun _ _ _ h => h) (Or.inl ⟨by rfl, ?_⟩) hHeld ?_ ?_
   rotate_left
   ·rintro w' ⟨s0, s1, s2⟩
    go_simp
    with_reducible rfl
   rotate_left
   ·simp only [Act.put, sTA, sZ, sS, i64_w, i32_w]
    rfl
   refine one_ (i := 2) (N := some 5) #[bY,bY,bY,bN,bN,bN,bN,bN,bN,bN,bN,bN,bN,bN,bN,bN,bN,bN] rfl rfl (one_of HT_.out (by kernel_rfl)) (by decide) (fun K hK => ?_)
   refine goes_ Tryd.func106 (by kernel_rfl) rfl #[.agg #[.int .i64 a0_0, .int .i64 a0_1]] (by rfl) rfl rfl zD ?_
   with_reducible refine (impl_GridOk.calls a0_0 a0_1 true _ A2.out).mono ?_
   rintro e w14 ⟨rfl, hb⟩
   refine ⟨_, rfl, ?_⟩
   have n0_ := zB BK953 hb
   have n1_ := aK (bSp (zH1 HB GE953) hb)
   clear BK953
   clear HB
   have BK953 := n0_
   have HB := n1_
   clear n0_ n1_
   (try clear hb)
   (try clear hb2)
   (try clear hk)
   (try clear hi)
   refine hK.out _ _ ⟨zQ BK953 0, zQ BK953 1, zQ BK953 2⟩ (fun hHeld => ?_)
   clear hK K
   refine norm_ (a' := ?_) ?_ ?_
   rotate_left
   ·show Act.put _ (some 5) _ = _
    simp only [Act.put, sTA, sZ, sS, i64_w, i32_w]
    rfl
   refine pure_ (i := 3) (N := some 6) (v := ?_) (a' := ?_) #[bY,bY,bY,bY,bN,bN,bN,bN,bN,bN,bN,bN,bN,bN,bN,bN,bN,bN] rfl rfl (any_of HT_.out (by kernel_rfl)) (fun _ _ _ h => h) (Or.inl ⟨by rfl, ?_⟩) ?_ ?_
   rotate_left
   ·intro w'
    go_simp
    with_reducible rfl
   rotate_left
   ·simp only [Act.put, sTA, sZ, sS, i64_w, i32_w]
    rfl
   refine pure_ (i := 4) (N := some 7) (v := ?_) (a' := ?_) #[bY,bY,bY,bY,bY,bN,bN,bN,bN,bN,bN,bN,bN,bN,bN,bN,bN,bN] rfl rfl (any_of HT_.out (by kernel_rfl)) (fun _ _ _ h => h) (Or.inl ⟨by rfl, ?_⟩) ?_ ?_
   rotate_left
   ·intro w'
    go_simp
    with_reducible rfl
   rotate_left
   ·simp only [Act.put, sTA, sZ, sS, i64_w, i32_w]
    rfl
   refine take_ (i := 5) (N := some 8) (v := ?_) (a' := ?_) #[bY,bY,bY,bY,bY,bY,bN,bN,bN,bN,bN,bN,bN,bN,bN,bN,bN,bN] rfl rfl (take_ofW HT_.out HW_.out (by kernel_rfl)) (fun _ _ _ h => h) (Or.inl ⟨by rfl, ?_⟩) hHeld ?_ ?_
   rotate_left
   ·rintro w' ⟨s0, s1, s2⟩
    go_simp
    with_reducible rfl
   rotate_left
   ·simp only [Act.put, sTA, sZ, sS, i64_w, i32_w]
    rfl
   refine pure_ (i := 6) (N := some 9) (v := ?_) (a' := ?_) #[bY,bY,bY,bY,bY,bY,bY,bN,bN,bN,bN,bN,bN,bN,bN,bN,bN,bN] rfl rfl (any_of HT_.out (by kernel_rfl)) (fun _ _ _ h => h) (Or.inl ⟨by rfl, ?_⟩) ?_ ?_
   rotate_left
   ·intro w'
    go_simp
    with_reducible rfl
   rotate_left
   ·simp only [Act.put, sTA, sZ, sS, i64_w, i32_w]
    rfl
   refine pure_ (i := 7) (N := some 10) (v := ?_) (a' := ?_) #[bY,bY,bY,bY,bY,bY,bY,bY,bN,bN,bN,bN,bN,bN,bN,bN,bN,bN] rfl rfl (any_of HT_.out (by kernel_rfl)) (fun _ _ _ h => h) (Or.inl ⟨by rfl, ?_⟩) ?_ ?_
   rotate_left
   ·intro w'
    go_simp
    with_reducible rfl
   rotate_left
   ·simp only [Act.put, sTA, sZ, sS, i64_w, i32_w]
    rfl
   refine pure_ (i := 8) (N := some 11) (v := ?_) (a' := ?_) #[bY,bY,bY,bY,bY,bY,bY,bY,bY,bN,bN,bN,bN,bN,bN,bN,bN,bN] rfl rfl (any_of HT_.out (by kernel_rfl)) (fun _ _ _ h => h) (Or.inl ⟨by rfl, ?_⟩) ?_ ?_
   rotate_left
   ·intro w'
    go_simp
    with_reducible rfl
   rotate_left
   ·simp only [Act.put, sTA, sZ, sS, i64_w, i32_w]
    rfl
   refine pure_ (i := 9) (N := some 12) (v := undef) (a' := ?_) #[bY,bY,bY,bY,bY,bY,bY,bY,bY,bY,bN,bN,bN,bN,bN,bN,bN,bN] rfl rfl (any_of HT_.out (by kernel_rfl)) (fun _ _ _ h => h) (Or.inr ⟨by rfl, rfl⟩) ?_ ?_
   rotate_left
   ·simp only [Act.put, sTA, sZ, sS, i64_w, i32_w]
    rfl
   refine pure_ (i := 10) (N := some 13) (v := undef) (a' := ?_) #[bY,bY,bY,bY,bY,bY,bY,bY,bY,bY,bY,bN,bN,bN,bN,bN,bN,bN] rfl rfl (any_of HT_.out (by kernel_rfl)) (fun _ _ _ h => h) (Or.inr ⟨by rfl, rfl⟩) ?_ ?_
   rotate_left
   ·simp only [Act.put, sTA, sZ, sS, i64_w, i32_w]
    rfl
   refine pure_ (i := 11) (N := some 14) (v := undef) (a' := ?_) #[bY,bY,bY,bY,bY,bY,bY,bY,bY,bY,bY,bY,bN,bN,bN,bN,bN,bN] rfl rfl (any_of HT_.out (by kernel_rfl)) (fun _ _ _ h => h) (Or.inr ⟨by rfl, rfl⟩) ?_ ?_
   rotate_left
   ·simp only [Act.put, sTA, sZ, sS, i64_w, i32_w]
    rfl
   refine pure_ (i := 12) (N := some 15) (v := undef) (a' := ?_) #[bY,bY,bY,bY,bY,bY,bY,bY,bY,bY,bY,bY,bY,bN,bN,bN,bN,bN] rfl rfl (any_of HT_.out (by kernel_rfl)) (fun _ _ _ h => h) (Or.inr ⟨by rfl, rfl⟩) ?_ ?_
   rotate_left
   ·simp only [Act.put, sTA, sZ, sS, i64_w, i32_w]
    rfl
   refine pure_ (i := 13) (N := some 16) (v := undef) (a' := ?_) #[bY,bY,bY,bY,bY,bY,bY,bY,bY,bY,bY,bY,bY,bY,bN,bN,bN,bN] rfl rfl (any_of HT_.out (by kernel_rfl)) (fun _ _ _ h => h) (Or.inr ⟨by rfl, rfl⟩) ?_ ?_
   rotate_left
   ·simp only [Act.put, sTA, sZ, sS, i64_w, i32_w]
    rfl
   refine pure_ (i := 14) (N := some 17) (v := undef) (a' := ?_) #[bY,bY,bY,bY,bY,bY,bY,bY,bY,bY,bY,bY,bY,bY,bY,bN,bN,bN] rfl rfl (any_of HT_.out (by kernel_rfl)) (fun _ _ _ h => h) (Or.inr ⟨by rfl, rfl⟩) ?_ ?_
   rotate_left
   ·simp only [Act.put, sTA, sZ, sS, i64_w, i32_w]
    rfl
   refine pure_ (i := 15) (N := some 18) (v := undef) (a' := ?_) #[bY,bY,bY,bY,bY,bY,bY,bY,bY,bY,bY,bY,bY,bY,bY,bY,bN,bN] rfl rfl (any_of HT_.out (by kernel_rfl)) (fun _ _ _ h => h) (Or.inr ⟨by rfl, rfl⟩) ?_ ?_
   rotate_left
   ·simp only [Act.put, sTA, sZ, sS, i64_w, i32_w]
    rfl
   refine pure_ (i := 16) (N := some 19) (v := ?_) (a' := ?_) #[bY,bY,bY,bY,bY,bY,bY,bY,bY,bY,bY,bY,bY,bY,bY,bY,bY,bN] rfl rfl (any_of HT_.out (by kernel_rfl)) (fun _ _ _ h => h) (Or.inl ⟨by rfl, ?_⟩) ?_ ?_
   rotate_left
   ·intro w'
    go_simp
    with_reducible rfl
   rotate_left
   ·simp only [Act.put, sTA, sZ, sS, i64_w, i32_w]
    rfl
   refine pure_ (i := 17) (N := some 2) (v := ?_) (a' := ?_) #[bY,bY,bY,bY,bY,bY,bY,bY,bY,bY,bY,bY,bY,bY,bY,bY,bY,bY] rfl rfl (any_of HT_.out (by kernel_rfl)) (fun _ _ _ h => h) (Or.inl ⟨by rfl, ?_⟩) ?_ ?_
   rotate_left
   ·intro w'
    go_simp
    with_reducible rfl
   rotate_left
   ·simp only [Act.put, sTA, sZ, sS, i64_w, i32_w]
    rfl
   refine done_ (done_of HT_.out (by kernel_rfl)) ?_
   try go_wp2
   go_ret
   exact ⟨by first | rfl | (simp [errW_none, errW_some] <;> rfl) | (simp [*, errW_none, errW_some] <;> rfl), by repeat (first | (with_reducible first | exact HB.out | apply bAl | apply bDN | apply bD1 | refine bSt ?_ GE953.out) | exact HB.out)⟩
 ·replace c3 := Bool.eq_false_iff.mpr c3
  subst c3
  have H1 : (some false) = some r := by rw [if_neg (show ¬ (false = true) by decide)] at H; exact H
  clear H
  have H := H1
  clear H1
  obtain rfl := Option.some.inj H
  go_enter Tryd.func82, Tryd.ntmps82
  try go_wp2_with (first | ((with_reducible refine gate_dst (N := 1) rfl ?_); refine box_event ?hg (N := 1) ?hd (cs := #[.int .i64 a0_0, .int .i64 a0_1, .int .i64 a0_2]) (t := 41) ?hr ?_; (case hd => rfl); (case hg => rfl); (case hr => first | (go_simp; done) | (go_simp; rfl)); intro gb953 hg w15 hbox hb; have BK953 := aK (hbox); have GW953 := aK ((by rw [hg]; exact (bSz (zH0 HB)) : w.heap.size ≤ gb953)); replace HB := aK (bSp (zH0 HB) hb); have GE953 := GW953; clear hb hbox hg))
  have n0_ := aK (kD BK953.out)
  have n1_ := aK (bD1 HB.out)
  clear BK953
  clear HB
  have BK953 := n0_
  have HB := n1_
  clear n0_ n1_
  refine start_ (n := 18) (S := fun w' => w'.cell? ⟨gb953, 0, none⟩ = some (.int .i64 a0_0) ∧ w'.cell? ⟨gb953, 1, none⟩ = some (.int .i64 a0_1) ∧ w'.cell? ⟨gb953, 2, none⟩ = some (.int .i64 a0_2)) (ds := []) #[bN,bN,bN,bN,bN,bN,bN,bN,bN,bN,bN,bN,bN,bN,bN,bN,bN,bN] (by kernel_rfl) rfl rfl ⟨zQ BK953 0, zQ BK953 1, zQ BK953 2⟩ (fun hHeld => ?_); refine with_tabW impl_MazeOk.tab1 impl_MazeOk.bits1 (fun HT_ HW_ => ?_)
  generalize w15.drew = w16 at BK953 HB hHeld ⊢
  refine pure_ (i := 0) (N := some 3) (v := ?_) (a' := ?_) #[bY,bN,bN,bN,bN,bN,bN,bN,bN,bN,bN,bN,bN,bN,bN,bN,bN,bN] rfl rfl (any_of HT_.out (by kernel_rfl)) (fun _ _ _ h => h) (Or.inl ⟨by rfl, ?_⟩) ?_ ?_
  rotate_left
  ·intro w'
   go_simp
   with_reducible rfl
  rotate_left
  ·simp only [Act.put, sTA, sZ, sS, i64_w, i32_w]
   rfl
  refine take_ (i := 1) (N := some 4) (v := ?_) (a' := ?_) #[bY,bY,bN,bN,bN,bN,bN,bN,bN,bN,bN,bN,bN,bN,bN,bN,bN,bN] rfl rfl (take_ofW HT_.out HW_.out (by kernel_rfl)) (fun _ _ _ h => h) (Or.inl ⟨by rfl, ?_⟩) hHeld ?_ ?_
  rotate_left
  ·rintro w' ⟨s0, s1, s2⟩
   go_simp
   with_reducible rfl
  rotate_left
  ·simp only [Act.put, sTA, sZ, sS, i64_w, i32_w]
   rfl
  refine one_ (i := 2) (N := some 5) #[bY,bY,bY,bN,bN,bN,bN,bN,bN,bN,bN,bN,bN,bN,bN,bN,bN,bN] rfl rfl (one_of HT_.out (by kernel_rfl)) (by decide) (fun K hK => ?_)
  refine goes_ Tryd.func106 (by kernel_rfl) rfl #[.agg #[.int .i64 a0_0, .int .i64 a0_1]] (by rfl) rfl rfl zD ?_
  with_reducible refine (impl_GridOk.calls a0_0 a0_1 false _ A2.out).mono ?_
  rintro e w17 ⟨rfl, hb⟩
  refine ⟨_, rfl, ?_⟩
  have n0_ := zB BK953 hb
  have n1_ := aK (bSp (zH1 HB GE953) hb)
  clear BK953
  clear HB
  have BK953 := n0_
  have HB := n1_
  clear n0_ n1_
  (try clear hb)
  (try clear hb2)
  (try clear hk)
  (try clear hi)
  refine hK.out _ _ ⟨zQ BK953 0, zQ BK953 1, zQ BK953 2⟩ (fun hHeld => ?_)
  clear hK K
  refine norm_ (a' := ?_) ?_ ?_
  rotate_left
  ·show Act.put _ (some 5) _ = _
   simp only [Act.put, sTA, sZ, sS, i64_w, i32_w]
   rfl
  refine pure_ (i := 3) (N := some 6) (v := ?_) (a' := ?_) #[bY,bY,bY,bY,bN,bN,bN,bN,bN,bN,bN,bN,bN,bN,bN,bN,bN,bN] rfl rfl (any_of HT_.out (by kernel_rfl)) (fun _ _ _ h => h) (Or.inl ⟨by rfl, ?_⟩) ?_ ?_
  rotate_left
  ·intro w'
   go_simp
   with_reducible rfl
  rotate_left
  ·simp only [Act.put, sTA, sZ, sS, i64_w, i32_w]
   rfl
  refine pure_ (i := 4) (N := some 7) (v := undef) (a' := ?_) #[bY,bY,bY,bY,bY,bN,bN,bN,bN,bN,bN,bN,bN,bN,bN,bN,bN,bN] rfl rfl (any_of HT_.out (by kernel_rfl)) (fun _ _ _ h => h) (Or.inr ⟨by rfl, rfl⟩) ?_ ?_
  rotate_left
  ·simp only [Act.put, sTA, sZ, sS, i64_w, i32_w]
   rfl
  refine pure_ (i := 5) (N := some 8) (v := undef) (a' := ?_) #[bY,bY,bY,bY,bY,bY,bN,bN,bN,bN,bN,bN,bN,bN,bN,bN,bN,bN] rfl rfl (any_of HT_.out (by kernel_rfl)) (fun _ _ _ h => h) (Or.inr ⟨by rfl, rfl⟩) ?_ ?_
  rotate_left
  ·simp only [Act.put, sTA, sZ, sS, i64_w, i32_w]
   rfl
  refine pure_ (i := 6) (N := some 9) (v := undef) (a' := ?_) #[bY,bY,bY,bY,bY,bY,bY,bN,bN,bN,bN,bN,bN,bN,bN,bN,bN,bN] rfl rfl (any_of HT_.out (by kernel_rfl)) (fun _ _ _ h => h) (Or.inr ⟨by rfl, rfl⟩) ?_ ?_
  rotate_left
  ·simp only [Act.put, sTA, sZ, sS, i64_w, i32_w]
   rfl
  refine pure_ (i := 7) (N := some 10) (v := ?_) (a' := ?_) #[bY,bY,bY,bY,bY,bY,bY,bY,bN,bN,bN,bN,bN,bN,bN,bN,bN,bN] rfl rfl (any_of HT_.out (by kernel_rfl)) (fun _ _ _ h => h) (Or.inl ⟨by rfl, ?_⟩) ?_ ?_
  rotate_left
  ·intro w'
   go_simp
   with_reducible rfl
  rotate_left
  ·simp only [Act.put, sTA, sZ, sS, i64_w, i32_w]
   rfl
  refine pure_ (i := 8) (N := some 11) (v := ?_) (a' := ?_) #[bY,bY,bY,bY,bY,bY,bY,bY,bY,bN,bN,bN,bN,bN,bN,bN,bN,bN] rfl rfl (any_of HT_.out (by kernel_rfl)) (fun _ _ _ h => h) (Or.inl ⟨by rfl, ?_⟩) ?_ ?_
  rotate_left
  ·intro w'
   go_simp
   with_reducible rfl
  rotate_left
  ·simp only [Act.put, sTA, sZ, sS, i64_w, i32_w]
   rfl
  refine pure_ (i := 9) (N := some 12) (v := undef) (a' := ?_) #[bY,bY,bY,bY,bY,bY,bY,bY,bY,bY,bN,bN,bN,bN,bN,bN,bN,bN] rfl rfl (any_of HT_.out (by kernel_rfl)) (fun _ _ _ h => h) (Or.inr ⟨by rfl, rfl⟩) ?_ ?_
  rotate_left
  ·simp only [Act.put, sTA, sZ, sS, i64_w, i32_w]
   rfl
  refine pure_ (i := 10) (N := some 13) (v := undef) (a' := ?_) #[bY,bY,bY,bY,bY,bY,bY,bY,bY,bY,bY,bN,bN,bN,bN,bN,bN,bN] rfl rfl (any_of HT_.out (by kernel_rfl)) (fun _ _ _ h => h) (Or.inr ⟨by rfl, rfl⟩) ?_ ?_
  rotate_left
  ·simp only [Act.put, sTA, sZ, sS, i64_w, i32_w]
   rfl
  refine pure_ (i := 11) (N := some 14) (v := undef) (a' := ?_) #[bY,bY,bY,bY,bY,bY,bY,bY,bY,bY,bY,bY,bN,bN,bN,bN,bN,bN] rfl rfl (any_of HT_.out (by kernel_rfl)) (fun _ _ _ h => h) (Or.inr ⟨by rfl, rfl⟩) ?_ ?_
  rotate_left
  ·simp only [Act.put, sTA, sZ, sS, i64_w, i32_w]
   rfl
  refine pure_ (i := 12) (N := some 15) (v := undef) (a' := ?_) #[bY,bY,bY,bY,bY,bY,bY,bY,bY,bY,bY,bY,bY,bN,bN,bN,bN,bN] rfl rfl (any_of HT_.out (by kernel_rfl)) (fun _ _ _ h => h) (Or.inr ⟨by rfl, rfl⟩) ?_ ?_
  rotate_left
  ·simp only [Act.put, sTA, sZ, sS, i64_w, i32_w]
   rfl
  refine pure_ (i := 13) (N := some 16) (v := undef) (a' := ?_) #[bY,bY,bY,bY,bY,bY,bY,bY,bY,bY,bY,bY,bY,bY,bN,bN,bN,bN] rfl rfl (any_of HT_.out (by kernel_rfl)) (fun _ _ _ h => h) (Or.inr ⟨by rfl, rfl⟩) ?_ ?_
  rotate_left
  ·simp only [Act.put, sTA, sZ, sS, i64_w, i32_w]
   rfl
  refine pure_ (i := 14) (N := some 17) (v := undef) (a' := ?_) #[bY,bY,bY,bY,bY,bY,bY,bY,bY,bY,bY,bY,bY,bY,bY,bN,bN,bN] rfl rfl (any_of HT_.out (by kernel_rfl)) (fun _ _ _ h => h) (Or.inr ⟨by rfl, rfl⟩) ?_ ?_
  rotate_left
  ·simp only [Act.put, sTA, sZ, sS, i64_w, i32_w]
   rfl
  refine pure_ (i := 15) (N := some 18) (v := undef) (a' := ?_) #[bY,bY,bY,bY,bY,bY,bY,bY,bY,bY,bY,bY,bY,bY,bY,bY,bN,bN] rfl rfl (any_of HT_.out (by kernel_rfl)) (fun _ _ _ h => h) (Or.inr ⟨by rfl, rfl⟩) ?_ ?_
  rotate_left
  ·simp only [Act.put, sTA, sZ, sS, i64_w, i32_w]
   rfl
  refine pure_ (i := 16) (N := some 19) (v := ?_) (a' := ?_) #[bY,bY,bY,bY,bY,bY,bY,bY,bY,bY,bY,bY,bY,bY,bY,bY,bY,bN] rfl rfl (any_of HT_.out (by kernel_rfl)) (fun _ _ _ h => h) (Or.inl ⟨by rfl, ?_⟩) ?_ ?_
  rotate_left
  ·intro w'
   go_simp
   with_reducible rfl
  rotate_left
  ·simp only [Act.put, sTA, sZ, sS, i64_w, i32_w]
   rfl
  refine pure_ (i := 17) (N := some 2) (v := ?_) (a' := ?_) #[bY,bY,bY,bY,bY,bY,bY,bY,bY,bY,bY,bY,bY,bY,bY,bY,bY,bY] rfl rfl (any_of HT_.out (by kernel_rfl)) (fun _ _ _ h => h) (Or.inl ⟨by rfl, ?_⟩) ?_ ?_
  rotate_left
  ·intro w'
   go_simp
   with_reducible rfl
  rotate_left
  ·simp only [Act.put, sTA, sZ, sS, i64_w, i32_w]
   rfl
  refine done_ (done_of HT_.out (by kernel_rfl)) ?_
  try go_wp2
  go_ret
  exact ⟨by first | rfl | (simp [errW_none, errW_some] <;> rfl) | (simp [*, errW_none, errW_some] <;> rfl), by repeat (first | (with_reducible first | exact HB.out | apply bAl | apply bDN | apply bD1 | refine bSt ?_ GE953.out) | exact HB.out)⟩
set_option maxHeartbeats 2000000 in
theorem slices_IndexFunc_int.calls (p : Int → Bool) (g : Nat) (lb : Array Value) (eg : ∀ args w, (callFunc g args).run Tryd.prog w = .ok (.enter g args) w) (A0 : Option Addr) (c0 : Nat) (l0 : List Int) (w : World) (hr0 : Kd.C (Kd.int .i64) w A0 l0.length l0)
  (hp : ∀ (W : World) (x : Int), x ∈ l0 → Below w.heap.size w W → Calls Tryd.prog g (#[.int .i64 x] ++ lb) W fun e w' => e = .returned (.bool (p x)) ∧ Below w.heap.size w w') :
  Calls Tryd.prog 111 #[.slice A0 l0.length c0, .func (.func g) #[] lb] w fun e w' => e = .returned (.int .i64 (idxF p l0)) ∧ Below w.heap.size w w' := by
 have hn : l0.length ≤ 9223372036854775807 := hr0.2.1
 go_enter Tryd.func111, Tryd.ntmps111
 go_wp2
 go_loopg [5, 8] l0.length (fun gg _ s8 wr => ∃ kk : Nat, kk ≤ l0.length ∧ l0.length - kk ≤ gg ∧ s8 = .int .i64 kk ∧ Aside0 (Below w.heap.size w wr) ∧ Aside0 (∀ j, j < kk → p (rd l0 (j : Int)) = false))
 case atStart => exact ⟨0, Nat.zero_le _, by omega, rfl, ⟨Below.refl _ w⟩, ⟨fun j hj => absurd hj (Nat.not_lt_zero _)⟩⟩
 case round =>
  obtain ⟨kk, hkk, hg, rfl, BW, Av⟩ := hrel
  by_cases hlt : kk < l0.length
  ·have hltz : (kk : Int) < (l0.length : Int) := by omega
   have hz : (0 : Int) ≤ (kk : Int) := by omega
   obtain ⟨ad, rfl, hx⟩ := Kd.at_int (Kd.C_below hr0 BW.out) (kk : Int) hz hltz
   rw [Int.toNat_natCast] at hx
   have hmem : rd l0 (kk : Int) ∈ l0 := rd_mem hlt
   have hcall := hp wr (rd l0 (kk : Int)) hmem BW.out
   have HM := aK hmem
   clear hmem hp
   generalize hy : rd l0 (kk : Int) = y at hx hcall
   have HY := aK hy
   clear hy
   cases hq : p y with
   | true =>
    rw [hq] at hcall
    have HQ := aK hq
    clear hq
    go_wp2_with (go_at_fn g; refine hcall.mono ?_; rintro e w' ⟨rfl, hb'⟩)
    go_ret
    refine ⟨?_, hb'⟩
    rw [idxF_hit p l0 kk hlt (by rw [rd_nat l0 kk] at HY; rw [HY.out]; exact HQ.out) (fun j hj => by have := Av.out j hj; rwa [rd_nat l0 j] at this)]
    all_goals rfl
   | false =>
    rw [hq] at hcall
    have HQ := aK hq
    clear hq
    go_wp2_with (go_at_fn g; refine hcall.mono ?_; rintro e w' ⟨rfl, hb'⟩)
    go_roundg (l0.length - (kk + 1))
    case measure => omega
    case rel =>
     refine ⟨kk + 1, by omega, by omega, by go_num, ⟨hb'⟩, ⟨fun j hj => ?_⟩⟩
     by_cases e : j = kk
     ·subst e
      rw [HY.out]; exact HQ.out
     ·exact Av.out j (by omega)
  ·have hltz : ¬ (kk : Int) < (l0.length : Int) := by omega
   have : kk = l0.length := by omega
   subst this
   go_wp2
   go_ret
   refine ⟨?_, BW.out⟩
   rw [idxF_miss p l0 (fun j hj => by have := Av.out j hj; rwa [rd_nat l0 j] at this)]
   all_goals rfl
set_option maxHeartbeats 2000000 in
theorem slices_ContainsFunc_int.calls (p : Int → Bool) (g : Nat) (lb : Array Value) (eg : ∀ args w, (callFunc g args).run Tryd.prog w = .ok (.enter g args) w) (A0 : Option Addr) (c0 : Nat) (l0 : List Int) (w : World) (hr0 : Kd.C (Kd.int .i64) w A0 l0.length l0)
  (hp : ∀ (W : World) (x : Int), x ∈ l0 → Below w.heap.size w W → Calls Tryd.prog g (#[.int .i64 x] ++ lb) W fun e w' => e = .returned (.bool (p x)) ∧ Below w.heap.size w w') :
  Calls Tryd.prog 87 #[.slice A0 l0.length c0, .func (.func g) #[] lb] w fun e w' => e = .returned (.bool (l0.any p)) ∧ Below w.heap.size w w' := by
 rw [show l0.any p = decide (0 ≤ idxF p l0) from (idxF_any p l0).symm]
 go_enter Tryd.func87, Tryd.ntmps87
 go_wp2_with (go_at_call 111; refine (slices_IndexFunc_int.calls p g lb eg A0 c0 l0 _ hr0 hp).mono ?_; rintro e w' ⟨rfl, hb'⟩)
 go_ret
 exact ⟨rfl, hb'⟩
theorem impl_CountCells.ctr {a0_0 : Int} {a0_1 : Int} {r : Int} (h : impl_CountCells.f a0_0 a0_1 = some r) : Ctr Tryd.prog 78 [.ag [.v (.int .i64 a0_0), .v (.int .i64 a0_1)]] (.v (.int .i64 r)) := by
  refine Ctr_of tyOk hm Tryd.func78 rfl rfl (by kernel_rfl) (n := 10) (rv := [.tmp 2]) rfl rfl ?_
  simp only [W, List.replicate]
  unfold impl_CountCells.f at h
  replace h := bnd h; obtain ⟨t1, A, h⟩ := h
  try simp only [W, p1, p2, p3, p4, p5, p6, p7, p8, p9, p10, p11, p12]
  refine callR (impl_GridOk.ctr A) ?_
  replace h := ifT h; rcases h with ⟨rfl, h⟩ | ⟨rfl, h⟩
  · cases h
    try simp only [W, p1, p2, p3, p4, p5, p6, p7, p8, p9, p10, p11, p12]
  · cases h
    try simp only [W, p1, p2, p3, p4, p5, p6, p7, p8, p9, p10, p11, p12]
theorem impl_CountCells.callsG (a0_0 : Int) (a0_1 : Int) (r : Int) (w : World) (hgl : Gl w) (h : impl_CountCells.f a0_0 a0_1 = some r) :
    Calls Tryd.prog 78 #[.agg #[.int .i64 a0_0, .int .i64 a0_1]] w fun e w' => e = .returned (.int .i64 r) ∧ Below w.heap.size w w' := by
  refine ((impl_CountCells.ctr h).2 w [.agg #[.int .i64 a0_0, .int .i64 a0_1]] hgl (by simp only [RepL, Rep]; exact ⟨_, _, rfl, ⟨_, rfl, _, _, rfl, rfl, _, _, rfl, rfl, rfl⟩, rfl⟩)).mono ?_
  rintro _ _ ⟨y, L, rfl, hR, _, hb⟩
  exact ⟨congrArg Ending.returned (RepR_pln rfl hR).1, hb⟩
set_option maxHeartbeats 8000000 in
set_option maxRecDepth 100000 in
theorem impl_CountCells.calls (a0_0 : Int) (a0_1 : Int) (r : Int) (w : World) (h : impl_CountCells.f a0_0 a0_1 = some r) :
  Calls Tryd.prog 78 #[.agg #[.int .i64 a0_0, .int .i64 a0_1]] w fun e w' => e = .returned (.int .i64 r) ∧ Below w.heap.size w w' := by
 have hu39 := Tryd.underlying39
 have HB := aK (Below.refl w.heap.size w)
 have H : ((impl_GridOk.f a0_0 a0_1).bind fun t957 => (if t957 = true then (some (wrap64 (a0_0 * a0_1))) else (some 0))) = some r := h
 clear h
 replace H := Option.bind_eq_some_iff.mp H
 obtain ⟨t957, A20, H⟩ := H
 replace H : (if t957 = true then (some (wrap64 (a0_0 * a0_1))) else (some 0)) = some r := H
 have A2 := aK A20
 clear A20
 by_cases c3 : t957 = true
 ·subst c3
  have H1 : (some (wrap64 (a0_0 * a0_1))) = some r := by rw [if_pos rfl] at H; exact H
  clear H
  have H := H1
  clear H1
  obtain rfl := Option.some.inj H
  go_enter Tryd.func78, Tryd.ntmps78
  go_wp2_with (first | ((with_reducible refine gate_dst (N := 1) rfl ?_); refine box_event ?hg (N := 1) ?hd (cs := #[.int .i64 a0_0, .int .i64 a0_1]) (t := 39) ?hr ?_; (case hd => rfl); (case hg => rfl); (case hr => first | (go_simp; done) | (go_simp; rfl)); intro gb956 hg w4 hbox hb; have BK956 := aK (hbox); have GW956 := aK ((by rw [hg]; exact (bSz (zH0 HB)) : w.heap.size ≤ gb956)); replace HB := aK (bSp (zH0 HB) hb); have GE956 := GW956; clear hb hbox hg; obtain ⟨hcz5_0, hcz5_1, hfz5_0, hfz5_1⟩ := cl2 BK956.out) | ((with_reducible refine gate_callee (f := 106) rfl ?_); refine goesL_ (some 4) rfl rfl Tryd.func106 (by kernel_rfl) rfl #[.agg #[.int .i64 a0_0, .int .i64 a0_1]] rfl zD ?_; (with_reducible refine (impl_GridOk.calls a0_0 a0_1 true _ A2.out).mono ?_); rintro e w6 ⟨rfl, hb⟩; refine ⟨_, rfl, ?_⟩; replace BK956 := zB BK956 hb; replace HB := aK (bSp (zH1 HB GE956) hb); (try clear hb); (try clear hb2); (try clear hk); (try clear hi); obtain ⟨hcz7_0, hcz7_1, hfz7_0, hfz7_1⟩ := cl2 BK956.out))
  go_ret
  exact ⟨by first | rfl | (simp [errW_none, errW_some] <;> rfl) | (simp [*, errW_none, errW_some] <;> rfl), by repeat (first | (with_reducible first | exact HB.out | apply bAl | apply bDN | apply bD1 | refine bSt ?_ GE956.out) | exact HB.out)⟩
 ·replace c3 := Bool.eq_false_iff.mpr c3
  subst c3
  have H1 : (some 0) = some r := by rw [if_neg (show ¬ (false = true) by decide)] at H; exact H
  clear H
  have H := H1
  clear H1
  obtain rfl := Option.some.inj H
  go_enter Tryd.func78, Tryd.ntmps78
  go_wp2_with (first | ((with_reducible refine gate_dst (N := 1) rfl ?_); refine box_event ?hg (N := 1) ?hd (cs := #[.int .i64 a0_0, .int .i64 a0_1]) (t := 39) ?hr ?_; (case hd => rfl); (case hg => rfl); (case hr => first | (go_simp; done) | (go_simp; rfl)); intro gb956 hg w8 hbox hb; have BK956 := aK (hbox); have GW956 := aK ((by rw [hg]; exact (bSz (zH0 HB)) : w.heap.size ≤ gb956)); replace HB := aK (bSp (zH0 HB) hb); have GE956 := GW956; clear hb hbox hg; obtain ⟨hcz9_0, hcz9_1, hfz9_0, hfz9_1⟩ := cl2 BK956.out) | ((with_reducible refine gate_callee (f := 106) rfl ?_); refine goesL_ (some 4) rfl rfl Tryd.func106 (by kernel_rfl) rfl #[.agg #[.int .i64 a0_0, .int .i64 a0_1]] rfl zD ?_; (with_reducible refine (impl_GridOk.calls a0_0 a0_1 false _ A2.out).mono ?_); rintro e w10 ⟨rfl, hb⟩; refine ⟨_, rfl, ?_⟩; replace BK956 := zB BK956 hb; replace HB := aK (bSp (zH1 HB GE956) hb); (try clear hb); (try clear hb2); (try clear hk); (try clear hi)))
  go_ret
  exact ⟨by first | rfl | (simp [errW_none, errW_some] <;> rfl) | (simp [*, errW_none, errW_some] <;> rfl), by repeat (first | (with_reducible first | exact HB.out | apply bAl | apply bDN | apply bD1 | refine bSt ?_ GE956.out) | exact HB.out)⟩
theorem impl_isCell.ctr {a0_0 : Int} {a0_1 : Int} {a1 : Int} {r : Bool} (h : impl_isCell.f a0_0 a0_1 a1 = some r) : Ctr Tryd.prog 89 [.ag [.v (.int .i64 a0_0), .v (.int .i64 a0_1)], .v (.int .i64 a1)] (.v (.bool r)) := by
  refine Ctr_of tyOk hm Tryd.func89 rfl rfl (by kernel_rfl) (n := 11) (rv := [.tmp 4]) rfl rfl ?_
  simp only [W, List.replicate]
  unfold impl_isCell.f at h
  replace h := ifS h; rcases h with ⟨c1, h⟩ | ⟨c1, h⟩
  · replace h := bnd h; obtain ⟨t2, A, h⟩ := h
    try simp only [W, c1, p1, p2, p3, p4, p5, p6, p7, p8, p9, p10, p11, p12]
    refine callR (impl_CountCells.ctr A) ?_
    cases h
    try simp only [W, c1, p1, p2, p3, p4, p5, p6, p7, p8, p9, p10, p11, p12]
  · cases h
    try simp only [W, c1, p1, p2, p3, p4, p5, p6, p7, p8, p9, p10, p11, p12]
set_option maxHeartbeats 8000000 in
set_option maxRecDepth 100000 in
theorem impl_isCell.calls (a0_0 : Int) (a0_1 : Int) (a1 : Int) (r : Bool) (w : World) (h : impl_isCell.f a0_0 a0_1 a1 = some r) :
  Calls Tryd.prog 89 #[.agg #[.int .i64 a0_0, .int .i64 a0_1], .int .i64 a1] w fun e w' => e = .returned (.bool r) ∧ Below w.heap.size w w' := by
 have hu39 := Tryd.underlying39
 have HB := aK (Below.refl w.heap.size w)
 have H : (if a1 ≥ 0 then ((impl_CountCells.f a0_0 a0_1).bind fun t959 => (some (decide (a1 < t959)))) else (some false)) = some r := h
 clear h
 by_cases c3 : a1 ≥ 0
 ·rw [if_pos c3] at H
  have c3b0 : decide (0 ≤ a1) = true := decide_eq_true c3
  clear c3
  replace H := Option.bind_eq_some_iff.mp H
  obtain ⟨t959, A40, H⟩ := H
  replace H : (some (decide (a1 < t959))) = some r := H
  have A4 := aK A40
  clear A40
  obtain rfl := Option.some.inj H
  go_enter Tryd.func89, Tryd.ntmps89
  go_wp2_with (first | ((with_reducible refine gate_dst (N := 2) rfl ?_); refine box_event ?hg (N := 2) ?hd (cs := #[.int .i64 a0_0, .int .i64 a0_1]) (t := 39) ?hr ?_; (case hd => rfl); (case hg => rfl); (case hr => first | (go_simp; done) | (go_simp; rfl)); intro gb958 hg w5 hbox hb; have BK958 := aK (hbox); have GW958 := aK ((by rw [hg]; exact (bSz (zH0 HB)) : w.heap.size ≤ gb958)); replace HB := aK (bSp (zH0 HB) hb); have GE958 := GW958; clear hb hbox hg; obtain ⟨hcz6_0, hcz6_1, hfz6_0, hfz6_1⟩ := cl2 BK958.out) | (go_at_call 78; (with_reducible refine (impl_CountCells.calls a0_0 a0_1 t959 _ A4.out).mono ?_); rintro e w7 ⟨rfl, hb⟩; replace BK958 := zB BK958 hb; replace HB := aK (bSp (zH1 HB GE958) hb); (try clear hb); (try clear hb2); (try clear hk); (try clear hi)))
  go_ret
  exact ⟨by first | rfl | (simp [errW_none, errW_some] <;> rfl) | (simp [*, errW_none, errW_some] <;> rfl), by repeat (first | (with_reducible first | exact HB.out | apply bAl | apply bDN | apply bD1 | refine bSt ?_ GE958.out) | exact HB.out)⟩
 ·rw [if_neg c3] at H
  have c3b0 : decide (0 ≤ a1) = false := decide_eq_false c3
  clear c3
  obtain rfl := Option.some.inj H
  go_enter Tryd.func89, Tryd.ntmps89
  go_wp2_with (first | ((with_reducible refine gate_dst (N := 2) rfl ?_); refine box_event ?hg (N := 2) ?hd (cs := #[.int .i64 a0_0, .int .i64 a0_1]) (t := 39) ?hr ?_; (case hd => rfl); (case hg => rfl); (case hr => first | (go_simp; done) | (go_simp; rfl)); intro gb958 hg w8 hbox hb; have BK958 := aK (hbox); have GW958 := aK ((by rw [hg]; exact (bSz (zH0 HB)) : w.heap.size ≤ gb958)); replace HB := aK (bSp (zH0 HB) hb); have GE958 := GW958; clear hb hbox hg))
  go_ret
  exact ⟨by first | rfl | (simp [errW_none, errW_some] <;> rfl) | (simp [*, errW_none, errW_some] <;> rfl), by repeat (first | (with_reducible first | exact HB.out | apply bAl | apply bDN | apply bD1 | refine bSt ?_ GE958.out) | exact HB.out)⟩
set_option maxHeartbeats 2000000 in
theorem impl_isIn_1.calls (a b o : Int) (B : Nat) (W : World) (hB : W.heap[B]? = some (.cells #[.int .i64 a, .int .i64 b, .int .i64 o] 41 (0, 0))) (x : Int) (r : Bool) (h : impl_isCell.f a b x = some r) :
  Calls Tryd.prog 88 #[.int .i64 x, .pointer (some ⟨B, 0, none⟩)] W fun e w' => e = .returned (.bool (!r)) ∧ Below W.heap.size W w' := by
 have hu := Tryd.underlying41
 have hug := Tryd.underlying39
 have h0 : W.cell? ⟨B, 0, none⟩ = some (.int .i64 a) := (kC hB 0).trans rfl
 have h1 : W.cell? ⟨B, 1, none⟩ = some (.int .i64 b) := (kC hB 1).trans rfl
 have h2 : W.cell? ⟨B, 2, none⟩ = some (.int .i64 o) := (kC hB 2).trans rfl
 clear hB
 go_enter Tryd.func88, Tryd.ntmps88
 go_wp2_with (go_at_call 89; refine (impl_isCell.calls a b x r _ h).mono ?_; rintro e w' ⟨rfl, hb⟩)
 go_ret
 exact ⟨rfl, hb⟩
set_option maxHeartbeats 4000000 in
theorem impl_isIn.calls (a0_0 : Int) (a0_1 : Int) (a0_2 : Int) (A1 : Option Addr) (c1 : Nat) (l1 : List Int) (r : Bool) (w : World) (hr1 : Kd.C (Kd.int .i64) w A1 l1.length l1) (hc1 : l1.length ≤ c1) (h : impl_isIn.f a0_0 a0_1 a0_2 l1 = some r) :
  Calls Tryd.prog 57 #[.agg #[.int .i64 a0_0, .int .i64 a0_1, .int .i64 a0_2], .slice A1 l1.length c1] w fun e w' => e = .returned (.bool r) ∧ Below w.heap.size w w' := by
 have hu := Tryd.underlying41
 obtain ⟨b, hm, H⟩ := Option.bind_eq_some_iff.mp h
 clear h
 cases b with
 | false =>
  rw [if_neg Bool.false_ne_true] at H
  obtain rfl := Option.some.inj H
  go_enter Tryd.func57, Tryd.ntmps57
  go_wp2_with (go_at_call 82; refine (impl_MazeOk.calls a0_0 a0_1 a0_2 false _ hm).mono ?_; rintro e w' ⟨rfl, hb⟩)
  go_ret
  exact ⟨rfl, ((Below.refl _ w).alloc (Nat.le_refl _) _).trans (hb.mono (by simp))⟩
 | true =>
  rw [if_pos rfl] at H
  obtain ⟨hx, hv⟩ := allO_some H
  have eg : ∀ args w, (callFunc 88 args).run Tryd.prog w = .ok (.enter 88 args) w := enters_of Tryd.func88 (by kernel_rfl) rfl
  have hcon := fun (W : World) (hb : Below (w.heap.size + 1) (w.alloc (.cells #[.int .i64 a0_0, .int .i64 a0_1, .int .i64 a0_2] 41)) W) =>
   slices_ContainsFunc_int.calls (fun x => !((impl_isCell.f a0_0 a0_1 x).getD false)) 88 #[.pointer (some ⟨w.heap.size, 0, none⟩)] eg A1 c1 l1 W (Kd.C_below hr1 (((Below.refl _ w).alloc (Nat.le_refl _) _).trans (hb.mono (by simp)))) (fun W' x hxm hb' => by
    have hW := hb.trans (hb'.mono (by have := hb.size; simpa using this))
    obtain ⟨v, hv'⟩ := hx x hxm
    have hB : W'.heap[w.heap.size]? = some (.cells #[.int .i64 a0_0, .int .i64 a0_1, .int .i64 a0_2] 41 (0, 0)) := (hW.block w.heap.size (by omega)).trans (heap_alloc_new w _)
    refine (impl_isIn_1.calls a0_0 a0_1 a0_2 w.heap.size W' hB x v hv').mono ?_
    rintro e w' ⟨rfl, hb2⟩
    exact ⟨by rw [hv']; rfl, hb'.trans (hb2.mono hb'.size)⟩)
  clear hr1
  rw [hv]
  clear hv H
  generalize hg : (l1.any fun x => !((impl_isCell.f a0_0 a0_1 x).getD false)) = q at hcon ⊢
  clear hg hx eg
  go_enter Tryd.func57, Tryd.ntmps57
  go_wp2_with (first | (go_at_call 82; refine (impl_MazeOk.calls a0_0 a0_1 a0_2 true _ hm).mono ?_; rintro e w' ⟨rfl, hb⟩) | (go_at_call 87; refine (hcon _ (by simpa using hb)).mono ?_; rintro e w2 ⟨rfl, hb2⟩))
  go_ret
  exact ⟨rfl, (((Below.refl _ w).alloc (Nat.le_refl _) _).trans (hb.mono (by simp))).trans (hb2.mono (by have := hb.size; simp at this; omega))⟩
theorem impl_isIn.ctr {a0_0 : Int} {a0_1 : Int} {a0_2 : Int} {l1 : List Int} {r : Bool} (h : impl_isIn.f a0_0 a0_1 a0_2 l1 = some r) : Ctr Tryd.prog 57 [.ag [.v (.int .i64 a0_0), .v (.int .i64 a0_1), .v (.int .i64 a0_2)], .pr 1 (l1.map eI)] (.v (.bool r)) := by
  refine ⟨enters_of Tryd.func57 rfl rfl, fun w ys _ hys => ?_⟩
  simp only [RepL, Rep] at hys
  obtain ⟨_, _, rfl, ⟨_, rfl, _, _, rfl, rfl, _, _, rfl, rfl, _, _, rfl, rfl, rfl⟩, _, _, rfl, q1, rfl⟩ := hys
  obtain ⟨_, _, rfl, hr1, hc1⟩ := C_of_at E_eI q1
  refine (impl_isIn.calls _ _ _ _ _ _ _ w hr1 hc1 h).mono ?_
  rintro _ _ ⟨rfl, hb⟩
  exact ⟨_, [], rfl, (by first | (simp [RepR, RepRL]; done) | exact repR_vlu _ _ _ rfl), List.nodup_nil, (by first | exact hb | exact hb.below)⟩
theorem grownBy_two {w w1 w2 : World} {g : Option Nat} (h : w.grownBy w1 g) (k : w1.grownBy w2 g) : w.grownBy w2 g :=
  ⟨k.os.trans h.os, k.tape.trans h.tape, k.output.trans h.output, Nat.le_trans h.size k.size, fun i hi hn => (k.block i (Nat.lt_of_lt_of_le hi h.size) hn).trans (h.block i hi hn)⟩
theorem flat_eI (l : List Int) : (l.map eI).flatten = l.map (Value.int .i64) := by
  induction l with
  | nil => rfl
  | cons x l ih => rw [List.map_cons, List.flatten_cons, ih]; rfl
theorem compact_le (zs : List Int) : (Go.Lib.compact zs).length ≤ zs.length := by
  unfold Go.Lib.compact Go.Lib.compactUpTo
  rw [List.length_map]
  exact Nat.le_trans (List.length_filter_le _ _) (by simp)
set_option maxHeartbeats 4000000 in
open Go.Sort in
theorem impl_ordered.turn {l0 r : List Int} (h : impl_ordered.f l0 = some r) : CtrT Tryd.prog 90 3 1 (l0.map eI) [] (r.map eI) := by
 unfold impl_ordered.f at h
 obtain ⟨hl, hr⟩ := ifN h
 injection hr with hr
 refine ⟨enters_of Tryd.func90 rfl rfl, fun x hx => ?_, fun w B y hB ho => ?_⟩
 ·obtain ⟨z, _, rfl⟩ := List.mem_map.1 hx
  exact ⟨rfl, fun u hu => by simp [eI] at hu; subst hu; rfl⟩
 simp only [vluL]
 rw [List.length_map, flat_eI] at ho
 rw [List.length_map, flat_eI]
 generalize hm : l0.mergeSort (fun x y => decide (x ≤ y)) = ms at hr
 have hml : ms.length = l0.length := by rw [← hm]; exact List.length_mergeSort l0
 rcases ho.2 with ⟨rfl, h0⟩ | ⟨g, cap, cur, rfl, h1, h2, h3, h4, h5, h6⟩
 ·obtain rfl : l0 = [] := List.eq_nil_of_length_eq_zero h0
  obtain rfl : ms = [] := List.eq_nil_of_length_eq_zero hml
  obtain rfl : r = [] := by rw [← hr]; rfl
  clear h hm ho hl
  go_enter Tryd.func90, Tryd.ntmps90
  go_wp2_with (first | (go_at_call 112; refine (Any.slices_Sort_int_none Tryd.lays189 none 0 _).mono ?_; rintro e w' ⟨rfl, rfl⟩) | (go_at_call 113; refine (Any.slices_Compact_int_empty Tryd.lays2020 none 0 _).mono ?_; rintro e w' ⟨rfl, rfl⟩))
  go_ret
  exact ⟨_, rfl, World.ownsRow_nil _ _ _ _, World.grownBy.refl _ _, fun k hk => by cases hk⟩
 ·rw [Nat.mul_one] at h6
  have hg : g < w.heap.size := (Array.getElem?_eq_some_iff.1 h2).1
  have hS := Any.slices_Sort_int Tryd.lays189 g 0 cap l0 w (holds_of_blockI h2 h6) hg hl
  rw [hm] at hS
  have hsz : ms.length ≤ cur.size := by rw [hml, h5, Nat.mul_one]; exact h3
  have hC : ∀ n os, Calls Tryd.prog 113 #[.slice (some ⟨g, 0, none⟩) l0.length cap] (grow (putRow (Value.int .i64) (Sort.ahead w n) g 0 ms.toArray) os) fun e w' => e = .returned (.slice (some ⟨g, 0, none⟩) r.length cap) ∧ w'.ownsRow B 3 1 (.slice (some ⟨g, 0, none⟩) r.length cap) r.length (r.map (Value.int .i64)) ∧ w.grownBy w' (some g) := by
   intro n os
   have hb := heap_sortedI (w := w) (g := g) (n := n) (os := os) ms.toArray h2
   have hk := Any.slices_Compact_int Tryd.lays2020 g 0 cap ms _ (holds_of_blockI hb (take_putCellsI cur ms hsz)) (by rw [hml]; omega) (by rw [hml]; exact h3)
   rw [hr, hml] at hk
   refine hk.mono ?_
   rintro e w' ⟨rfl, q, rfl⟩
   have hrl : r.length ≤ l0.length := by rw [← hr, ← hml]; exact compact_le ms
   have hg0 : ∀ (w : World) d, w.grownBy (putRow (Value.int .i64) (Sort.ahead w q) g 0 d) (some g) := fun w d => by
    have := grownBy_sortedI (w := w) (g := g) (n := q) (os := #[]) d
    rwa [grow_empty] at this
   refine ⟨rfl, ⟨by simp, .inr ⟨g, cap, _, rfl, h1, by have := heap_sortedI (n := q) (os := #[]) (r ++ List.replicate (l0.length - r.length) 0).toArray hb; rwa [grow_empty] at this, Nat.le_trans hrl h3, h4, by simp [putCells, h5], ?_⟩⟩, grownBy_two (grownBy_sortedI _) (hg0 _ _)⟩
   have ht := take_putCellsI (putCells (Value.int .i64) 0 ms.toArray cur) (r ++ List.replicate (l0.length - r.length) 0) (by simp [putCells]; omega)
   rw [Nat.mul_one]
   have h7 := congrArg (List.take r.length) ht
   rw [List.take_take, Nat.min_eq_left (by simp), List.map_append, List.take_append_of_le_length (by simp), List.take_of_length_le (l := List.map (Value.int .i64) r) (by simp)] at h7
   exact h7
  clear h hr h6 h5 ho
  go_enter Tryd.func90, Tryd.ntmps90
  go_wp2_with (first | (go_at_call 112; refine hS.mono ?_; rintro e w' ⟨rfl, n, os, rfl⟩) | (go_at_call 113; refine (hC n os).mono ?_; rintro e w' ⟨rfl, HO, HG⟩))
  go_ret
  exact ⟨_, rfl, HO, HG, fun k hk => .inl hk⟩
theorem impl_IsSimple.ctr {l0 : List Int} {r : Bool} (h : impl_IsSimple.f l0 = some r) : Ctr Tryd.prog 58 [.pr 1 (l0.map eI)] (.v (.bool r)) := by
  refine Ctr_of tyOk hm Tryd.func58 rfl rfl (by kernel_rfl) (n := 9) (rv := [.tmp 2]) rfl rfl ?_
  simp only [W, List.replicate]
  unfold impl_IsSimple.f at h
  replace h := bnd h; obtain ⟨t1, A, h⟩ := h
  try simp only [W, p1, p2, p3, p4, p5, p6, p7, p8, p9, p10, p11, p12]
  refine callR (slices_Clone_int.ctr A) ?_
  replace h := bnd h; obtain ⟨t2, A, h⟩ := h
  try simp only [W, p1, p2, p3, p4, p5, p6, p7, p8, p9, p10, p11, p12]
  refine callT (by simp only [W, p1, p2, p3, p4, p5, p6, p7, p8, p9, p10, p11, p12]) rfl (impl_ordered.turn A) ⟨_, rfl, ?_⟩
  cases h
  try simp only [W, p1, p2, p3, p4, p5, p6, p7, p8, p9, p10, p11, p12]
theorem impl_CrowdOk.ctr {a0_0 : Int} {a0_1 : Int} {a0_2 : Int} {l1 : List Int} {r : Bool} (h : impl_CrowdOk.f a0_0 a0_1 a0_2 l1 = some r) : Ctr Tryd.prog 29 [.ag [.v (.int .i64 a0_0), .v (.int .i64 a0_1), .v (.int .i64 a0_2)], .pr 1 (l1.map eI)] (.v (.bool r)) := by
  refine Ctr_of tyOk hm Tryd.func29 rfl rfl (by kernel_rfl) (n := 15) (rv := [.tmp 4]) rfl rfl ?_
  simp only [W, List.replicate]
  unfold impl_CrowdOk.f at h
  replace h := ifS h; rcases h with ⟨c1, h⟩ | ⟨c1, h⟩
  · replace h := bnd h; obtain ⟨t2, A, h⟩ := h
    try simp only [W, c1, p1, p2, p3, p4, p5, p6, p7, p8, p9, p10, p11, p12]
    refine callR (impl_isIn.ctr A) ?_
    replace h := ifT h; rcases h with ⟨rfl, h⟩ | ⟨rfl, h⟩
    · replace h := bnd h; obtain ⟨t4, A, h⟩ := h
      try simp only [W, c1, p1, p2, p3, p4, p5, p6, p7, p8, p9, p10, p11, p12]
      refine callR (impl_IsSimple.ctr A) ?_
      cases h
      try simp only [W, c1, p1, p2, p3, p4, p5, p6, p7, p8, p9, p10, p11, p12]
    · cases h
      try simp only [W, c1, p1, p2, p3, p4, p5, p6, p7, p8, p9, p10, p11, p12]
  · cases h
    try simp only [W, c1, p1, p2, p3, p4, p5, p6, p7, p8, p9, p10, p11, p12]
theorem impl_CrowdOk.callsG (a0_0 : Int) (a0_1 : Int) (a0_2 : Int) (A1 : Option Addr) (c1 : Nat) (l1 : List Int) (r : Bool) (w : World) (hgl : Gl w) (hr1 : Kd.C (Kd.int .i64) w A1 l1.length l1) (hc1 : l1.length ≤ c1) (h : impl_CrowdOk.f a0_0 a0_1 a0_2 l1 = some r) :
    Calls Tryd.prog 29 #[.agg #[.int .i64 a0_0, .int .i64 a0_1, .int .i64 a0_2], .slice A1 l1.length c1] w fun e w' => e = .returned (.bool r) ∧ Below w.heap.size w w' := by
  refine ((impl_CrowdOk.ctr h).2 w [.agg #[.int .i64 a0_0, .int .i64 a0_1, .int .i64 a0_2], .slice A1 l1.length c1] hgl (by simp only [RepL, Rep]; exact ⟨_, _, rfl, ⟨_, rfl, _, _, rfl, rfl, _, _, rfl, rfl, _, _, rfl, rfl, rfl⟩, _, _, rfl, at_of_C E_eI hr1 hc1, rfl⟩)).mono ?_
  rintro _ _ ⟨y, L, rfl, hR, _, hb⟩
  exact ⟨congrArg Ending.returned (RepR_pln rfl hR).1, hb⟩
theorem impl_isOpen.ctr {a0_0 : Int} {a0_1 : Int} {a0_2 : Int} {a1 : Int} {r : Bool} (h : impl_isOpen.f a0_0 a0_1 a0_2 a1 = some r) : Ctr Tryd.prog 83 [.ag [.v (.int .i64 a0_0), .v (.int .i64 a0_1), .v (.int .i64 a0_2)], .v (.int .i64 a1)] (.v (.bool r)) := by
  refine Ctr_of tyOk hm Tryd.func83 rfl rfl (by kernel_rfl) (n := 13) (rv := [.tmp 4]) rfl rfl ?_
  simp only [W, List.replicate]
  unfold impl_isOpen.f at h
  replace h := ifS h; rcases h with ⟨c1, h⟩ | ⟨c1, h⟩
  · replace h := ifN h; obtain ⟨c2, h⟩ := h
    cases h
    try simp only [W, c1, c2, p1, p2, p3, p4, p5, p6, p7, p8, p9, p10, p11, p12]
  · cases h
    try simp only [W, c1, p1, p2, p3, p4, p5, p6, p7, p8, p9, p10, p11, p12]
end Go.Proofs.YtdjdleldocfpaaaDoor.F
end

section
namespace Go.Proofs.YtdjdleldocfpaaaDoor.F
open Go.RowKit Go.Proofs.YtdjdleldocfpaaaDoorW.PrintWords Go.Proofs.YtdjdleldocfpaaaDoorW.PrintLast Go.Proofs.YtdjdleldocfpaaaDoorW.PrintMore
set_option linter.unusedVariables false
set_option linter.unusedSimpArgs false
attribute [local go_sem] max2_int min2_int max_two min_two
set_option maxRecDepth 20000
set_option maxHeartbeats 4000000
open Nat renaming reduceAdd → p1, reduceSub → p2, reduceMul → p3, reduceDiv → p4, reduceBNe → p5, reduceBEq → p6, reduceEqDiff → p7, reduceLeDiff → p8, reduceLT → p9
open Int renaming reduceLE → p10, reduceLT → p11, reduceEq → p12
theorem impl_Neighbor.ctr {k : Nat} {a0_0 : Int} {a0_1 : Int} {a1 : Int} {a2 : Int} {r : Int} (h : impl_Neighbor.f k a0_0 a0_1 a1 a2 = some r) : Ctr Tryd.prog 85 [.ag [.v (.int .i64 a0_0), .v (.int .i64 a0_1)], .v (.int .i64 a1), .v (.int .i64 a2)] (.v (.int .i64 r)) := by
  refine Ctr_of tyOk hm Tryd.func85 rfl rfl (by kernel_rfl) (n := 64) (rv := [.tmp 6]) rfl rfl ?_
  simp only [W, List.replicate]
  unfold impl_Neighbor.f at h
  replace h := bnd h; obtain ⟨t1, A, h⟩ := h
  try simp only [W, p1, p2, p3, p4, p5, p6, p7, p8, p9, p10, p11, p12]
  refine callR (impl_isCell.ctr A) ?_
  replace h := ifT h; rcases h with ⟨rfl, h⟩ | ⟨rfl, h⟩
  · replace h := ifM h; obtain ⟨c3, h⟩ := h
    replace h := ifS h; rcases h with ⟨c4, h⟩ | ⟨c4, h⟩
    · rcases k with _ | m5; · cases h
      rw [impl_Neighbor.j0] at h
      replace h := ifT h; rcases h with ⟨c6, h⟩ | ⟨c6, h⟩
      · cases h
        try simp only [W, c3, eq_true c4, c6, p1, p2, p3, p4, p5, p6, p7, p8, p9, p10, p11, p12]
      · replace h := ifS h; rcases h with ⟨c7, h⟩ | ⟨c7, h⟩
        · rcases m5 with _ | m8; · cases h
          rw [impl_Neighbor.j1] at h
          replace h := ifT h; rcases h with ⟨c9, h⟩ | ⟨c9, h⟩
          · cases h
            try simp only [W, c3, eq_true c4, c6, eq_true c7, c9, p1, p2, p3, p4, p5, p6, p7, p8, p9, p10, p11, p12]
          · replace h := ifS h; rcases h with ⟨c10, h⟩ | ⟨c10, h⟩
            · rcases m8 with _ | m11; · cases h
              rw [impl_Neighbor.j2] at h
              replace h := ifT h; rcases h with ⟨c12, h⟩ | ⟨c12, h⟩
              · cases h
                try simp only [W, c3, eq_true c4, c6, eq_true c7, c9, eq_true c10, c12, p1, p2, p3, p4, p5, p6, p7, p8, p9, p10, p11, p12]
              · replace h := ifS h; rcases h with ⟨c13, h⟩ | ⟨c13, h⟩
                · replace h := ifS h; rcases h with ⟨c14, h⟩ | ⟨c14, h⟩
                  · cases h
                    try simp only [W, c3, eq_true c4, c6, eq_true c7, c9, eq_true c10, c12, eq_true c13, c14, p1, p2, p3, p4, p5, p6, p7, p8, p9, p10, p11, p12]
                  · cases h
                    try simp only [W, c3, eq_true c4, c6, eq_true c7, c9, eq_true c10, c12, eq_true c13, c14, p1, p2, p3, p4, p5, p6, p7, p8, p9, p10, p11, p12]
                · cases h
                  try simp only [W, c3, eq_true c4, c6, eq_true c7, c9, eq_true c10, c12, c13, p1, p2, p3, p4, p5, p6, p7, p8, p9, p10, p11, p12]
            · rcases m8 with _ | m11; · cases h
              rw [impl_Neighbor.j2] at h
              rw [if_neg (by decide)] at h
              replace h := ifS h; rcases h with ⟨c13, h⟩ | ⟨c13, h⟩
              · replace h := ifS h; rcases h with ⟨c14, h⟩ | ⟨c14, h⟩
                · cases h
                  try simp only [W, c3, eq_true c4, c6, eq_true c7, c9, c10, eq_true c13, c14, p1, p2, p3, p4, p5, p6, p7, p8, p9, p10, p11, p12]
                · cases h
                  try simp only [W, c3, eq_true c4, c6, eq_true c7, c9, c10, eq_true c13, c14, p1, p2, p3, p4, p5, p6, p7, p8, p9, p10, p11, p12]
              · cases h
                try simp only [W, c3, eq_true c4, c6, eq_true c7, c9, c10, c13, p1, p2, p3, p4, p5, p6, p7, p8, p9, p10, p11, p12]
        · rcases m5 with _ | m8; · cases h
          rw [impl_Neighbor.j1] at h
          rw [if_neg (by decide)] at h
          replace h := ifS h; rcases h with ⟨c10, h⟩ | ⟨c10, h⟩
          · rcases m8 with _ | m11; · cases h
            rw [impl_Neighbor.j2] at h
            replace h := ifT h; rcases h with ⟨c12, h⟩ | ⟨c12, h⟩
            · cases h
              try simp only [W, c3, eq_true c4, c6, c7, eq_true c10, c12, p1, p2, p3, p4, p5, p6, p7, p8, p9, p10, p11, p12]
            · replace h := ifS h; rcases h with ⟨c13, h⟩ | ⟨c13, h⟩
              · replace h := ifS h; rcases h with ⟨c14, h⟩ | ⟨c14, h⟩
                · cases h
                  try simp only [W, c3, eq_true c4, c6, c7, eq_true c10, c12, eq_true c13, c14, p1, p2, p3, p4, p5, p6, p7, p8, p9, p10, p11, p12]
                · cases h
                  try simp only [W, c3, eq_true c4, c6, c7, eq_true c10, c12, eq_true c13, c14, p1, p2, p3, p4, p5, p6, p7, p8, p9, p10, p11, p12]
              · cases h
                try simp only [W, c3, eq_true c4, c6, c7, eq_true c10, c12, c13, p1, p2, p3, p4, p5, p6, p7, p8, p9, p10, p11, p12]
          · rcases m8 with _ | m11; · cases h
            rw [impl_Neighbor.j2] at h
            rw [if_neg (by decide)] at h
            replace h := ifS h; rcases h with ⟨c13, h⟩ | ⟨c13, h⟩
            · replace h := ifS h; rcases h with ⟨c14, h⟩ | ⟨c14, h⟩
              · cases h
                try simp only [W, c3, eq_true c4, c6, c7, c10, eq_true c13, c14, p1, p2, p3, p4, p5, p6, p7, p8, p9, p10, p11, p12]
              · cases h
                try simp only [W, c3, eq_true c4, c6, c7, c10, eq_true c13, c14, p1, p2, p3, p4, p5, p6, p7, p8, p9, p10, p11, p12]
            · cases h
              try simp only [W, c3, eq_true c4, c6, c7, c10, c13, p1, p2, p3, p4, p5, p6, p7, p8, p9, p10, p11, p12]
    · rcases k with _ | m5; · cases h
      rw [impl_Neighbor.j0] at h
      rw [if_neg (by decide)] at h
      replace h := ifS h; rcases h with ⟨c7, h⟩ | ⟨c7, h⟩
      · rcases m5 with _ | m8; · cases h
        rw [impl_Neighbor.j1] at h
        replace h := ifT h; rcases h with ⟨c9, h⟩ | ⟨c9, h⟩
        · cases h
          try simp only [W, c3, c4, eq_true c7, c9, p1, p2, p3, p4, p5, p6, p7, p8, p9, p10, p11, p12]
        · replace h := ifS h; rcases h with ⟨c10, h⟩ | ⟨c10, h⟩
          · rcases m8 with _ | m11; · cases h
            rw [impl_Neighbor.j2] at h
            replace h := ifT h; rcases h with ⟨c12, h⟩ | ⟨c12, h⟩
            · cases h
              try simp only [W, c3, c4, eq_true c7, c9, eq_true c10, c12, p1, p2, p3, p4, p5, p6, p7, p8, p9, p10, p11, p12]
            · replace h := ifS h; rcases h with ⟨c13, h⟩ | ⟨c13, h⟩
              · replace h := ifS h; rcases h with ⟨c14, h⟩ | ⟨c14, h⟩
                · cases h
                  try simp only [W, c3, c4, eq_true c7, c9, eq_true c10, c12, eq_true c13, c14, p1, p2, p3, p4, p5, p6, p7, p8, p9, p10, p11, p12]
                · cases h
                  try simp only [W, c3, c4, eq_true c7, c9, eq_true c10, c12, eq_true c13, c14, p1, p2, p3, p4, p5, p6, p7, p8, p9, p10, p11, p12]
              · cases h
                try simp only [W, c3, c4, eq_true c7, c9, eq_true c10, c12, c13, p1, p2, p3, p4, p5, p6, p7, p8, p9, p10, p11, p12]
          · rcases m8 with _ | m11; · cases h
            rw [impl_Neighbor.j2] at h
            rw [if_neg (by decide)] at h
            replace h := ifS h; rcases h with ⟨c13, h⟩ | ⟨c13, h⟩
            · replace h := ifS h; rcases h with ⟨c14, h⟩ | ⟨c14, h⟩
              · cases h
                try simp only [W, c3, c4, eq_true c7, c9, c10, eq_true c13, c14, p1, p2, p3, p4, p5, p6, p7, p8, p9, p10, p11, p12]
              · cases h
                try simp only [W, c3, c4, eq_true c7, c9, c10, eq_true c13, c14, p1, p2, p3, p4, p5, p6, p7, p8, p9, p10, p11, p12]
            · cases h
              try simp only [W, c3, c4, eq_true c7, c9, c10, c13, p1, p2, p3, p4, p5, p6, p7, p8, p9, p10, p11, p12]
      · rcases m5 with _ | m8; · cases h
        rw [impl_Neighbor.j1] at h
        rw [if_neg (by decide)] at h
        replace h := ifS h; rcases h with ⟨c10, h⟩ | ⟨c10, h⟩
        · rcases m8 with _ | m11; · cases h
          rw [impl_Neighbor.j2] at h
          replace h := ifT h; rcases h with ⟨c12, h⟩ | ⟨c12, h⟩
          · cases h
            try simp only [W, c3, c4, c7, eq_true c10, c12, p1, p2, p3, p4, p5, p6, p7, p8, p9, p10, p11, p12]
          · replace h := ifS h; rcases h with ⟨c13, h⟩ | ⟨c13, h⟩
            · replace h := ifS h; rcases h with ⟨c14, h⟩ | ⟨c14, h⟩
              · cases h
                try simp only [W, c3, c4, c7, eq_true c10, c12, eq_true c13, c14, p1, p2, p3, p4, p5, p6, p7, p8, p9, p10, p11, p12]
              · cases h
                try simp only [W, c3, c4, c7, eq_true c10, c12, eq_true c13, c14, p1, p2, p3, p4, p5, p6, p7, p8, p9, p10, p11, p12]
            · cases h
              try simp only [W, c3, c4, c7, eq_true c10, c12, c13, p1, p2, p3, p4, p5, p6, p7, p8, p9, p10, p11, p12]
        · rcases m8 with _ | m11; · cases h
          rw [impl_Neighbor.j2] at h
          rw [if_neg (by decide)] at h
          replace h := ifS h; rcases h with ⟨c13, h⟩ | ⟨c13, h⟩
          · replace h := ifS h; rcases h with ⟨c14, h⟩ | ⟨c14, h⟩
            · cases h
              try simp only [W, c3, c4, c7, c10, eq_true c13, c14, p1, p2, p3, p4, p5, p6, p7, p8, p9, p10, p11, p12]
            · cases h
              try simp only [W, c3, c4, c7, c10, eq_true c13, c14, p1, p2, p3, p4, p5, p6, p7, p8, p9, p10, p11, p12]
          · cases h
            try simp only [W, c3, c4, c7, c10, c13, p1, p2, p3, p4, p5, p6, p7, p8, p9, p10, p11, p12]
  · cases h
    try simp only [W, p1, p2, p3, p4, p5, p6, p7, p8, p9, p10, p11, p12]
theorem impl_GapAt.ctr {k : Nat} {a0_0 : Int} {a0_1 : Int} {a1 : Int} {a2 : Int} {r : Int} (h : impl_GapAt.f k a0_0 a0_1 a1 a2 = some r) : Ctr Tryd.prog 84 [.ag [.v (.int .i64 a0_0), .v (.int .i64 a0_1)], .v (.int .i64 a1), .v (.int .i64 a2)] (.v (.int .i64 r)) := by
  refine Ctr_of tyOk hm Tryd.func84 rfl rfl (by kernel_rfl) (n := 42) (rv := [.tmp 6]) rfl rfl ?_
  simp only [W, List.replicate]
  unfold impl_GapAt.f at h
  replace h := bnd h; obtain ⟨t1, A, h⟩ := h
  try simp only [W, p1, p2, p3, p4, p5, p6, p7, p8, p9, p10, p11, p12]
  refine callR (impl_Neighbor.ctr A) ?_
  replace h := ifS h; rcases h with ⟨c2, h⟩ | ⟨c2, h⟩
  · cases h
    try simp only [W, c2, p1, p2, p3, p4, p5, p6, p7, p8, p9, p10, p11, p12]
  · replace h := ifS h; rcases h with ⟨c3, h⟩ | ⟨c3, h⟩
    · replace h := ifM h; obtain ⟨c4, h⟩ := h
      cases h
      try simp only [W, c2, eq_true c3, c4, p1, p2, p3, p4, p5, p6, p7, p8, p9, p10, p11, p12]
    · replace h := ifS h; rcases h with ⟨c4, h⟩ | ⟨c4, h⟩
      · replace h := ifM h; obtain ⟨c5, h⟩ := h
        cases h
        try simp only [W, c2, c3, eq_true c4, c5, p1, p2, p3, p4, p5, p6, p7, p8, p9, p10, p11, p12]
      · cases h
        try simp only [W, c2, c3, c4, p1, p2, p3, p4, p5, p6, p7, p8, p9, p10, p11, p12]
theorem impl_Step.ctr {k : Nat} {a0_0 : Int} {a0_1 : Int} {a0_2 : Int} {a1 : Int} {a2 : Int} {r : Int} (h : impl_Step.f k a0_0 a0_1 a0_2 a1 a2 = some r) : Ctr Tryd.prog 55 [.ag [.v (.int .i64 a0_0), .v (.int .i64 a0_1), .v (.int .i64 a0_2)], .v (.int .i64 a1), .v (.int .i64 a2)] (.v (.int .i64 r)) := by
  refine Ctr_of tyOk hm Tryd.func55 rfl rfl (by kernel_rfl) (n := 22) (rv := [.tmp 6]) rfl rfl ?_
  simp only [W, List.replicate]
  unfold impl_Step.f at h
  replace h := bnd h; obtain ⟨t1, A, h⟩ := h
  try simp only [W, p1, p2, p3, p4, p5, p6, p7, p8, p9, p10, p11, p12]
  refine callR (impl_MazeOk.ctr A) ?_
  replace h := ifT h; rcases h with ⟨rfl, h⟩ | ⟨rfl, h⟩
  · replace h := bnd h; obtain ⟨t3, A, h⟩ := h
    try simp only [W, p1, p2, p3, p4, p5, p6, p7, p8, p9, p10, p11, p12]
    refine callR (impl_GapAt.ctr A) ?_
    replace h := bnd h; obtain ⟨t4, A, h⟩ := h
    try simp only [W, p1, p2, p3, p4, p5, p6, p7, p8, p9, p10, p11, p12]
    refine callR (impl_isOpen.ctr A) ?_
    replace h := ifT h; rcases h with ⟨rfl, h⟩ | ⟨rfl, h⟩
    · replace h := bnd h; obtain ⟨t6, A, h⟩ := h
      try simp only [W, p1, p2, p3, p4, p5, p6, p7, p8, p9, p10, p11, p12]
      refine callR (impl_Neighbor.ctr A) ?_
      cases h
      try simp only [W, p1, p2, p3, p4, p5, p6, p7, p8, p9, p10, p11, p12]
    · cases h
      try simp only [W, p1, p2, p3, p4, p5, p6, p7, p8, p9, p10, p11, p12]
  · cases h
    try simp only [W, p1, p2, p3, p4, p5, p6, p7, p8, p9, p10, p11, p12]
theorem slices_Index_int.ctr {k : Nat} {l0 : List Int} {a1 : Int} {r : Int} (h : slices_Index_int.f k l0 a1 = some r) : Ctr Tryd.prog 86 [.pr 1 (l0.map eI), .v (.int .i64 a1)] (.v (.int .i64 r)) := by
  refine Ctr_of tyOk hm Tryd.func86 rfl rfl (by kernel_rfl) (n := 17) (rv := [.tmp 4]) rfl rfl ?_
  simp only [W, List.replicate]
  unfold slices_Index_int.f at h
  try simp only [W, p1, p2, p3, p4, p5, p6, p7, p8, p9, p10, p11, p12]
  refine loopN (fun x : List Int × Int × Int × Int => [.pr 1 (List.map eI x.1), .v (.int .i64 x.2.1), .u, .u, .u, .u, .u, .v (.int .i64 x.2.2.1), .v (.int .i64 x.2.2.2), .u, .u, .u, .u, .u, .u, .u, .u, .u, .u]) (fun x => []) (fun n x => slices_Index_int.l0 n x.1 x.2.1 x.2.2.1 x.2.2.2 = some r) (l0, a1, (l0.length : Int), 0) [] h (by simp only [W, p1, p2, p3, p4, p5, p6, p7, p8, p9, p10, p11, p12] <;> trivial) (by simp only [W, p1, p2, p3, p4, p5, p6, p7, p8, p9, p10, p11, p12] <;> trivial) rfl (fun _ h => by cases h) ?_
  intro n1 ⟨x1, x2, x3, x4⟩ _ h
  simp only [slices_Index_int.l0] at h
  replace h := ifS h; rcases h with ⟨c5, h⟩ | ⟨c5, h⟩
  · replace h := ifN h; obtain ⟨c6, h⟩ := h
    replace h := ifN h; obtain ⟨c7, h⟩ := h
    replace h := ifS h; rcases h with ⟨c8, h⟩ | ⟨c8, h⟩
    · cases h
      try simp only [W, c5, c6, c7, eq_true c8, p1, p2, p3, p4, p5, p6, p7, p8, p9, p10, p11, p12]
    · try simp only [W, c5, c6, c7, c8, p1, p2, p3, p4, p5, p6, p7, p8, p9, p10, p11, p12]
      exact nextN (x1, x2, x3, (wrap64 (x4 + 1))) [] n1 (by omega) h (by simp only [W, p1, p2, p3, p4, p5, p6, p7, p8, p9, p10, p11, p12] <;> trivial) (by simp only [W, p1, p2, p3, p4, p5, p6, p7, p8, p9, p10, p11, p12] <;> trivial) rfl
  · cases h
    try simp only [W, c5, p1, p2, p3, p4, p5, p6, p7, p8, p9, p10, p11, p12]
theorem slices_Contains_int.ctr {k : Nat} {l0 : List Int} {a1 : Int} {r : Bool} (h : slices_Contains_int.f k l0 a1 = some r) : Ctr Tryd.prog 56 [.pr 1 (l0.map eI), .v (.int .i64 a1)] (.v (.bool r)) := by
  refine Ctr_of tyOk hm Tryd.func56 rfl rfl (by kernel_rfl) (n := 7) (rv := [.tmp 4]) rfl rfl ?_
  simp only [W, List.replicate]
  unfold slices_Contains_int.f at h
  replace h := bnd h; obtain ⟨t1, A, h⟩ := h
  try simp only [W, p1, p2, p3, p4, p5, p6, p7, p8, p9, p10, p11, p12]
  refine callR (slices_Index_int.ctr A) ?_
  cases h
  try simp only [W, p1, p2, p3, p4, p5, p6, p7, p8, p9, p10, p11, p12]
end Go.Proofs.YtdjdleldocfpaaaDoor.F
end

section
namespace Go.Proofs.YtdjdleldocfpaaaDoor.F
open Go.RowKit Go.Proofs.YtdjdleldocfpaaaDoorW.PrintWords Go.Proofs.YtdjdleldocfpaaaDoorW.PrintLast Go.Proofs.YtdjdleldocfpaaaDoorW.PrintMore
set_option linter.unusedVariables false
set_option linter.unusedSimpArgs false
attribute [local go_sem] max2_int min2_int max_two min_two
set_option maxRecDepth 20000
set_option maxHeartbeats 4000000
open Nat renaming reduceAdd → p1, reduceSub → p2, reduceMul → p3, reduceDiv → p4, reduceBNe → p5, reduceBEq → p6, reduceEqDiff → p7, reduceLeDiff → p8, reduceLT → p9
open Int renaming reduceLE → p10, reduceLT → p11, reduceEq → p12
theorem impl_MoveOne.ctr {k : Nat} {a0_0 : Int} {a0_1 : Int} {a0_2 : Int} {l1 : List Int} {a2 : Int} {a3 : Int} {r1 : List Int} {r2 : Bool} (h : impl_MoveOne.f k a0_0 a0_1 a0_2 l1 a2 a3 = some (r1, r2)) : Ctr Tryd.prog 27 [.ag [.v (.int .i64 a0_0), .v (.int .i64 a0_1), .v (.int .i64 a0_2)], .pr 1 (l1.map eI), .v (.int .i64 a2), .v (.int .i64 a3)] (.tu [.ow 3 1 (r1.map eI), .v (.bool r2)]) := by
  refine Ctr_of tyOk hm Tryd.func27 rfl rfl (by kernel_rfl) (n := 45) (rv := [.tmp 8, .tmp 9]) rfl rfl ?_
  simp only [W, List.replicate]
  unfold impl_MoveOne.f at h
  replace h := bnd h; obtain ⟨t1, A, h⟩ := h
  try simp only [W, p1, p2, p3, p4, p5, p6, p7, p8, p9, p10, p11, p12]
  refine callR (slices_Clone_int.ctr A) ?_
  replace h := bnd h; obtain ⟨t2, A, h⟩ := h
  try simp only [W, p1, p2, p3, p4, p5, p6, p7, p8, p9, p10, p11, p12]
  refine callR (impl_CrowdOk.ctr A) ?_
  replace h := ifT h; rcases h with ⟨rfl, h⟩ | ⟨rfl, h⟩
  · replace h := ifS h; rcases h with ⟨c4, h⟩ | ⟨c4, h⟩
    · rcases k with _ | m5; · cases h
      rw [impl_MoveOne.j0] at h
      rw [if_pos rfl] at h
      cases h
      try simp only [W, c4, p1, p2, p3, p4, p5, p6, p7, p8, p9, p10, p11, p12]
    · rcases k with _ | m5; · cases h
      rw [impl_MoveOne.j0] at h
      replace h := ifT h; rcases h with ⟨c6, h⟩ | ⟨c6, h⟩
      · cases h
        try simp only [W, c4, c6, p1, p2, p3, p4, p5, p6, p7, p8, p9, p10, p11, p12]
      · replace h := ifN h; obtain ⟨c7, h⟩ := h
        replace h := ifN h; obtain ⟨c8, h⟩ := h
        replace h := bnd h; obtain ⟨t9, A, h⟩ := h
        try simp only [W, c4, c6, c7, c8, p1, p2, p3, p4, p5, p6, p7, p8, p9, p10, p11, p12]
        refine callR (impl_Step.ctr A) ?_
        replace h := ifS h; rcases h with ⟨c10, h⟩ | ⟨c10, h⟩
        · cases h
          try simp only [W, c4, c6, c7, c8, c10, p1, p2, p3, p4, p5, p6, p7, p8, p9, p10, p11, p12]
        · replace h := bnd h; obtain ⟨t11, A, h⟩ := h
          try simp only [W, c4, c6, c7, c8, c10, p1, p2, p3, p4, p5, p6, p7, p8, p9, p10, p11, p12]
          refine callR (slices_Contains_int.ctr A) ?_
          replace h := ifT h; rcases h with ⟨rfl, h⟩ | ⟨rfl, h⟩
          · cases h
            try simp only [W, c4, c6, c7, c8, c10, p1, p2, p3, p4, p5, p6, p7, p8, p9, p10, p11, p12]
          · replace h := ifN h; obtain ⟨c13, h⟩ := h
            cases h
            try simp only [W, c4, c6, c7, c8, c10, c13, p1, p2, p3, p4, p5, p6, p7, p8, p9, p10, p11, p12]
  · rcases k with _ | m4; · cases h
    rw [impl_MoveOne.j0] at h
    rw [if_pos rfl] at h
    cases h
    try simp only [W, p1, p2, p3, p4, p5, p6, p7, p8, p9, p10, p11, p12]
theorem impl_MoveOne.callsG (k : Nat) (a0_0 : Int) (a0_1 : Int) (a0_2 : Int) (A1 : Option Addr) (c1 : Nat) (l1 : List Int) (a2 : Int) (a3 : Int) (r1 : List Int) (r2 : Bool) (w : World) (hgl : Gl w) (hr1 : Kd.C (Kd.int .i64) w A1 l1.length l1) (hc1 : l1.length ≤ c1) (h : impl_MoveOne.f k a0_0 a0_1 a0_2 l1 a2 a3 = some (r1, r2)) :
    Calls Tryd.prog 27 #[.agg #[.int .i64 a0_0, .int .i64 a0_1, .int .i64 a0_2], .slice A1 l1.length c1, .int .i64 a2, .int .i64 a3] w fun e w' => ∃ v0_ : Value, e = .returned (.tuple #[v0_, .bool r2]) ∧ Kd.R (Kd.int .i64) 3 w' w.heap.size (fun _ => True) v0_ r1 ∧ Below w.heap.size w w' := by
  refine ((impl_MoveOne.ctr h).2 w [.agg #[.int .i64 a0_0, .int .i64 a0_1, .int .i64 a0_2], .slice A1 l1.length c1, .int .i64 a2, .int .i64 a3] hgl (by simp only [RepL, Rep]; exact ⟨_, _, rfl, ⟨_, rfl, _, _, rfl, rfl, _, _, rfl, rfl, _, _, rfl, rfl, rfl⟩, _, _, rfl, at_of_C E_eI hr1 hc1, _, _, rfl, rfl, _, _, rfl, rfl, rfl⟩)).mono ?_
  rintro _ _ ⟨y, L, rfl, hR, _, hb⟩
  simp only [RepR, RepRL] at hR
  obtain ⟨_, rfl, y1_, _, _, _, rfl, rfl, ⟨o1, _, _, rfl⟩, _, _, _, _, rfl, rfl, ⟨rfl, rfl⟩, rfl, rfl⟩ := hR
  exact ⟨y1_, rfl, R_of_row E_eI o1, hb⟩
theorem impl_keyOf.ctr {k : Nat} {l0 : List Int} {r : ByteArray} (h : impl_keyOf.f k l0 = some r) : Ctr Tryd.prog 53 [.pr 1 (l0.map eI)] (.v (.string r)) := by
  refine Ctr_of tyOk hm Tryd.func53 rfl rfl (by kernel_rfl) (n := 18) (rv := [.tmp 2]) rfl rfl ?_
  simp only [W, List.replicate]
  unfold impl_keyOf.f at h
  try simp only [W, p1, p2, p3, p4, p5, p6, p7, p8, p9, p10, p11, p12]
  refine loopN (fun x : ByteArray × List Int × Int × Int => [.u, .u, .u, .v (.string x.1), .u, .u, .pr 1 (List.map eI x.2.1), .v (.int .i64 x.2.2.1), .v (.int .i64 x.2.2.2), .u, .u, .u, .u, .u, .u, .u, .u, .u, .u]) (fun x => []) (fun n x => impl_keyOf.l0 n x.1 x.2.1 x.2.2.1 x.2.2.2 = some r) ((⟨#[]⟩ : ByteArray), l0, (l0.length : Int), 0) [] h (by simp only [W, p1, p2, p3, p4, p5, p6, p7, p8, p9, p10, p11, p12] <;> trivial) (by simp only [W, p1, p2, p3, p4, p5, p6, p7, p8, p9, p10, p11, p12] <;> trivial) rfl (fun _ h => by cases h) ?_
  intro n1 ⟨x1, x2, x3, x4⟩ _ h
  simp only [impl_keyOf.l0] at h
  replace h := ifS h; rcases h with ⟨c5, h⟩ | ⟨c5, h⟩
  · replace h := ifN h; obtain ⟨c6, h⟩ := h
    replace h := ifN h; obtain ⟨c7, h⟩ := h
    replace h := bnd h; obtain ⟨t8, A, h⟩ := h
    try simp only [W, c5, c6, c7, p1, p2, p3, p4, p5, p6, p7, p8, p9, p10, p11, p12]
    refine callR (impl_FormatInt.ctr A) ?_
    replace h := ifN h; obtain ⟨c9, h⟩ := h
    replace h := ifN h; obtain ⟨c10, h⟩ := h
    try simp only [W, c5, c6, c7, c9, c10, p1, p2, p3, p4, p5, p6, p7, p8, p9, p10, p11, p12]
    exact nextN ((x1 ++ (t8 ++ (⟨#[32]⟩ : ByteArray))), x2, x3, (wrap64 (x4 + 1))) [] n1 (by omega) h (by simp only [W, p1, p2, p3, p4, p5, p6, p7, p8, p9, p10, p11, p12] <;> trivial) (by simp only [W, p1, p2, p3, p4, p5, p6, p7, p8, p9, p10, p11, p12] <;> trivial) rfl
  · cases h
    try simp only [W, c5, p1, p2, p3, p4, p5, p6, p7, p8, p9, p10, p11, p12]
theorem impl_keyOf.callsG (k : Nat) (A0 : Option Addr) (c0 : Nat) (l0 : List Int) (r : ByteArray) (w : World) (hgl : Gl w) (hr0 : Kd.C (Kd.int .i64) w A0 l0.length l0) (hc0 : l0.length ≤ c0) (h : impl_keyOf.f k l0 = some r) :
    Calls Tryd.prog 53 #[.slice A0 l0.length c0] w fun e w' => e = .returned (.string r) ∧ Below w.heap.size w w' := by
  refine ((impl_keyOf.ctr h).2 w [.slice A0 l0.length c0] hgl (by simp only [RepL, Rep]; exact ⟨_, _, rfl, at_of_C E_eI hr0 hc0, rfl⟩)).mono ?_
  rintro _ _ ⟨y, L, rfl, hR, _, hb⟩
  exact ⟨congrArg Ending.returned (RepR_pln rfl hR).1, hb⟩
theorem boolZeroS (w : World) : (zeroValue 4).run Tryd.prog w = .ok (.bool false) w := by kernel_rfl
set_option maxHeartbeats 4000000 in
set_option maxRecDepth 100000 in
theorem impl_lists.calls (a0_0 a0_1 a0_2 : Int) (A1 : Option Addr) (c1 : Nat) (l1 : List Int) (r : List ByteArray) (w : World) (hgl : Gl w) (hr1 : Kd.C (Kd.int .i64) w A1 l1.length l1) (hc1 : l1.length ≤ c1) (h : impl_lists.f a0_0 a0_1 a0_2 l1 = some r) :
  Calls Tryd.prog 52 #[.agg #[.int .i64 a0_0, .int .i64 a0_1, .int .i64 a0_2], .slice A1 l1.length c1] w fun e w' => ∃ v : Value, e = .returned v ∧ MapKs Tryd.prog 9 4 w' v r ∧ Below w.heap.size w w' := by
 have hu := Tryd.underlying41
 have hug := Tryd.underlying39
 have hmm := @run_makeMap Tryd.prog
 unfold impl_lists.f at h
 obtain ⟨b, hm, H⟩ := Option.bind_eq_some_iff.mp h
 clear h
 obtain ⟨w0, hw0⟩ : ∃ w0 : World, w0 = w.alloc (.cells #[.int .i64 a0_0, .int .i64 a0_1, .int .i64 a0_2] 41) := ⟨_, rfl⟩
 have HB0 := aK (show Below w.heap.size w w0 by rw [hw0]; exact (Below.refl _ w).alloc (Nat.le_refl _) _)
 have K0 := aK (show w0.heap[w.heap.size]? = some (.cells #[.int .i64 a0_0, .int .i64 a0_1, .int .i64 a0_2] 41 (0, 0)) by rw [hw0]; exact heap_alloc_new w _)
 have HSZ0 := aK (show w0.heap.size = w.heap.size + 1 by rw [hw0]; simp)
 have HW := aK hw0
 clear hw0
 have HCL := aK (show ∀ W : World, W.heap[w.heap.size]? = some (.cells #[.int .i64 a0_0, .int .i64 a0_1, .int .i64 a0_2] 41 (0, 0)) → W.cell? ⟨w.heap.size, 0, none⟩ = some (.int .i64 a0_0) ∧ W.cell? ⟨w.heap.size, 1, none⟩ = some (.int .i64 a0_1) ∧ W.cell? ⟨w.heap.size, 2, none⟩ = some (.int .i64 a0_2) from fun W hb => ⟨(kC hb 0).trans rfl, (kC hb 1).trans rfl, (kC hb 2).trans rfl⟩)
 have HGL := aK (fun (W : World) (hb : Below w.heap.size w W) => Gl_below hb hgl)
 have HR := aK (fun (W : World) (hb : Below w.heap.size w W) => Kd.C_below hr1 hb)
 have HRQ := aK (fun (W : World) (hb : Below w.heap.size w W) => (RowQ.ofC (e := 3) hr1 hc1).below hb)
 have HC1 := aK hc1
 have HM := aK hm
 clear hgl hr1 hc1 hm
 obtain ⟨k0, k1, k2⟩ := HCL.out w0 K0.out
 rw [HW.out] at k0 k1 k2
 cases b with
 | false =>
  rw [if_neg Bool.false_ne_true] at H
  obtain rfl := Option.some.inj H
  go_enter Tryd.func52, Tryd.ntmps52
  go_wp2_with (go_at_call 29; rw [← HW.out]; refine (impl_CrowdOk.callsG a0_0 a0_1 a0_2 A1 c1 l1 false _ (HGL.out _ HB0.out) (HR.out _ HB0.out) HC1.out HM.out).mono ?_; rintro e w1 ⟨rfl, hb⟩; have HB1 := aK (HB0.out.trans (hb.mono HB0.out.size)); clear hb)
  go_ret
  exact ⟨_, rfl, Or.inl ⟨rfl, rfl⟩, HB1.out⟩
 | true =>
  rw [if_pos rfl] at H
  by_cases h3 : l1.length ≤ 3
  ·rw [if_pos h3] at H
   have h3b : decide ((l1.length : Int) > 3) = false := decide_eq_false (by omega)
   have H3 := aK h3
   clear h3
   obtain ⟨n, hn, H⟩ := Option.bind_eq_some_iff.mp H
   have HN := aK hn
   clear hn
   by_cases h9 : n > 9
   ·rw [if_pos h9] at H
    obtain rfl := Option.some.inj H
    have h9b : decide (n > 9) = true := decide_eq_true h9
    clear h9
    go_enter Tryd.func52, Tryd.ntmps52
    go_wp2_with (first | (go_at_call 29; rw [← HW.out]; refine (impl_CrowdOk.callsG a0_0 a0_1 a0_2 A1 c1 l1 true _ (HGL.out _ HB0.out) (HR.out _ HB0.out) HC1.out HM.out).mono ?_; rintro e w1 ⟨rfl, hb⟩; have HB1 := aK (HB0.out.trans (hb.mono HB0.out.size)); obtain ⟨j0, j1, j2⟩ := HCL.out w1 ((hb.block _ (blk_lt K0.out)).trans K0.out); clear hb) | (go_at_call 78; refine (impl_CountCells.callsG a0_0 a0_1 n _ (HGL.out _ HB1.out) HN.out).mono ?_; rintro e w2 ⟨rfl, hb⟩; have HB2 := aK (HB1.out.trans (hb.mono HB1.out.size)); clear hb))
    go_ret
    exact ⟨_, rfl, Or.inl ⟨rfl, rfl⟩, HB2.out⟩
   ·rw [if_neg h9] at H
    have h9b : decide (n > 9) = false := decide_eq_false h9
    clear h9
    obtain ⟨s, hs, H⟩ := Option.bind_eq_some_iff.mp H
    have HS := aK hs
    clear hs
    by_cases h10 : s.size ≤ 1000
    ·rw [if_pos h10] at H
     have H10 := aK h10
     have H' := aK H
     clear H h10
     go_enter Tryd.func52, Tryd.ntmps52
     go_wp2_with (first | (go_at_call 29; rw [← HW.out]; refine (impl_CrowdOk.callsG a0_0 a0_1 a0_2 A1 c1 l1 true _ (HGL.out _ HB0.out) (HR.out _ HB0.out) HC1.out HM.out).mono ?_; rintro e w1 ⟨rfl, hb⟩; have HB1 := aK (HB0.out.trans (hb.mono HB0.out.size)); have K1 := aK ((hb.block _ (blk_lt K0.out)).trans K0.out); obtain ⟨j0, j1, j2⟩ := HCL.out w1 K1.out; clear hb) | (go_at_call 78; refine (impl_CountCells.callsG a0_0 a0_1 n _ (HGL.out _ HB1.out) HN.out).mono ?_; rintro e w2 ⟨rfl, hb⟩; have HB2 := aK (HB1.out.trans (hb.mono HB1.out.size)); have K2 := aK ((hb.block _ (blk_lt K1.out)).trans K1.out); clear hb) | (go_at_call 53; refine (impl_keyOf.callsG 1000 A1 c1 l1 s _ (HGL.out _ (HB2.out.alloc HB2.out.size _)) (HR.out _ (HB2.out.alloc HB2.out.size _)) HC1.out HS.out).mono ?_; rintro e w3 ⟨rfl, hb⟩; have HB3 := aK ((HB2.out.alloc HB2.out.size _).trans (hb.mono (by have := HB2.out.size; simp; omega))); have K3 := aK ((hb.block _ (blk_lt (kA K2.out _))).trans (kA K2.out _)); have HS3 := aK ((str_made Tryd.prog 9 4 w2).below hb); clear hb) | (refine wp_str_ins _ rfl _ _ _ 90 rfl 9 4 Tryd.underlying9 Tryd.underlying4 Tryd.underlying90 w2.heap.size [] rfl HS3.out (by decide) s rfl rfl (Nat.le_trans H10.out (by decide)) List.not_mem_nil ?_; intro w4 hs4 hg4; have HS4 := aK hs4; have HB4 := aK (HB3.out.grown hg4 HB3.out.size (fun j hj => by cases hj; exact HB2.out.size)); have K4 := aK (blk_grownM K3.out HS3.out hg4); clear hs4 hg4))
     have HQ0 := aK (QAt.one (e := 42) (HRQ.out _ HB4.out) HB4.out.size)
     have HS5 := aK (HS4.out.alloc (.cells #[.slice A1 l1.length c1] 42))
     have K5 := aK (kA K4.out (.cells #[.slice A1 l1.length c1] 42))
     have HB5 := aK (HB4.out.alloc HB4.out.size (.cells #[.slice A1 l1.length c1] 42))
     have BM := aK HB2.out.size
     clear HB0 K0 HSZ0 HW k0 k1 k2 j0 j1 j2 HB1 K1 HB2 K2 HB3 K3 HS3 HS4 HB4 K4 hmm
     go_loopg [6] 8200 (fun kq v6 wr => ∃ (Q : List (List Int)) (K : List ByteArray), Aside0 (impl_lists.l0 a0_0 a0_1 a0_2 (4 * l1.length) kq Q K = some r) ∧ Aside0 (kq ≤ 8200) ∧ Aside0 (QAt 3 42 w.heap.size wr v6 Q) ∧ Aside0 (StrAt Tryd.prog 9 4 wr w2.heap.size K) ∧ Aside0 (wr.heap[w.heap.size]? = some (.cells #[.int .i64 a0_0, .int .i64 a0_1, .int .i64 a0_2] 41 (0, 0))) ∧ Aside0 (Below w.heap.size w wr))
     case atStart => exact ⟨[l1], [s], H', ⟨Nat.le_refl _⟩, HQ0, HS5, K5, HB5⟩
     case round =>
      clear H' HQ0 HS5 K5 HB5
      obtain ⟨Q, K, HA, HK, HQ, HSt, HKb, HB⟩ := hrel
      cases gk with
      | zero => exact absurd HA.out (by cases Q <;> simp [impl_lists.l0])
      | succ kq1 =>
       have H := HA.out
       clear HA
       cases Q with
       | nil =>
        have H : some K = some r := H
        obtain rfl := Option.some.inj H
        obtain ⟨ad, cap, hv6⟩ := HQ.out.form
        subst hv6
        go_wp2
        go_ret
        exact ⟨_, rfl, Or.inr ⟨_, rfl, HSt.out⟩, HB.out⟩
       | cons V Q1 =>
        simp only [impl_lists.l0] at H
        obtain ⟨⟨Q2, K2⟩, hl1, H2⟩ := Option.bind_eq_some_iff.mp H
        have H2' := aK H2
        have HL1 := aK hl1
        clear H H2 hl1
        obtain ⟨g_, off_, cap, _, _, hv6, _⟩ := HQ.out.head
        subst hv6
        have hq1 : decide (((Q1.length + 1 : Nat) : Int) > 0) = true := decide_eq_true (by omega)
        go_wp2
        go_loopg [6, 7] (4 * l1.length) (fun gq v6 v7 wr2 => ∃ (i : Nat) (Qc : List (List Int)) (Kc : List ByteArray), v7 = .int .i64 (i : Int) ∧ Aside0 (i + gq = 4 * l1.length) ∧ Aside0 (impl_lists.l1 a0_0 a0_1 a0_2 V gq i (V :: Qc) Kc = some (Q2, K2)) ∧ Aside0 (QAt 3 42 w.heap.size wr2 v6 (V :: Qc)) ∧ Aside0 (StrAt Tryd.prog 9 4 wr2 w2.heap.size Kc) ∧ Aside0 (wr2.heap[w.heap.size]? = some (.cells #[.int .i64 a0_0, .int .i64 a0_1, .int .i64 a0_2] 41 (0, 0))) ∧ Aside0 (Below w.heap.size w wr2))
        case atStart => exact ⟨0, Q1, K, by first | rfl | simp, ⟨by omega⟩, HL1, HQ, HSt, HKb, HB⟩
        case round =>
         clear HL1 HQ HSt HKb HB hq1
         obtain ⟨i, Qc, Kc, rfl, HI, HL, HQ, HSt, HKb, HB⟩ := hrel
         obtain ⟨g, off, cap2, Au, cu, hv6, hcap2, hcu, hru⟩ := HQ.out.head
         subst hv6
         have e4 : wrap64 (4 * (l1.length : Int)) = ((4 * l1.length : Nat) : Int) := by have := H3.out; unfold wrap64; omega
         cases gk with
         | zero =>
          have H := HL.out
          simp only [impl_lists.l1, Option.some.injEq, Prod.mk.injEq] at H
          obtain ⟨rfl, rfl⟩ := H
          have hi4 : decide ((i : Int) < 4 * (l1.length : Int)) = false := decide_eq_false (by have := HI.out; omega)
          obtain ⟨inf, hinf, hie⟩ := Option.map_eq_some_iff.1 info42
          have hsl := cut_from (P := Tryd.prog) 86 42 .i64 Tryd.underlying86 hinf 1 (by injection hie with _ q; injection q) (some ⟨g, off, none⟩) (Qc.length + 1) cap2 1 (by decide) (by omega)
          clear hinf hie
          have QT := aK HQ.out.tail
          clear hcu hru
          go_wp2
          ·go_roundg kq1
           case measure => have := HK.out; omega
           case rel => exact ⟨Qc, Kc, H2', ⟨by have := HK.out; omega⟩, ⟨by have := QT.out.1 (by first | rfl | assumption); simpa using this⟩, HSt, HKb, HB⟩
          ·go_roundg kq1
           case measure => have := HK.out; omega
           case rel => exact ⟨Qc, Kc, H2', ⟨by have := HK.out; omega⟩, ⟨QT.out.2 (by assumption)⟩, HSt, HKb, HB⟩
         | succ g1 =>
          have H := HL.out
          clear HL
          simp only [impl_lists.l1] at H
          obtain ⟨⟨m1, m2⟩, hmv, H⟩ := Option.bind_eq_some_iff.mp H
          have HMV := aK hmv
          have H' := aK H
          clear hmv H
          have hi4 : decide ((i : Int) < 4 * (l1.length : Int)) = true := decide_eq_true (by have := HI.out; omega)
          have HCU := aK hcu
          have HRU := aK hru
          obtain ⟨b0, b1, b2⟩ := HCL.out _ HKb.out
          go_wp2
          have eq4 : IntKind.i64.wrap ((i : Int) / 4) = ((i / 4 : Nat) : Int) := by rw [IntKind.wrap_i64]; have := HI.out; have := H3.out; omega
          have er4 : Int.tmod (i : Int) 4 = ((i % 4 : Nat) : Int) := by rw [Int.tmod_eq_emod_of_nonneg (by omega)]; omega
          have EQ4 := aK eq4
          have ER4 := aK er4
          have HBD := aK (bD1 HB.out)
          have HRD := aK (HRU.out.move (w' := wr.drew) (fun k _ _ => rfl)).C
          clear eq4 er4
          go_region_held3 (fun w' => w'.cell? ⟨w.heap.size, 0, none⟩ = some (.int .i64 a0_0) ∧ w'.cell? ⟨w.heap.size, 1, none⟩ = some (.int .i64 a0_1) ∧ w'.cell? ⟨w.heap.size, 2, none⟩ = some (.int .i64 a0_2) ∧ w'.cell? ⟨g, off, none⟩ = some (.slice Au V.length cu)) (first | go_keep | exact ⟨b0, b1, b2, HCU.out⟩ | exact ⟨d0, d1, d2, hcu5⟩) (first | (go_at_call 27; rw [EQ4.out, ER4.out]; refine (impl_MoveOne.callsG 1000 a0_0 a0_1 a0_2 Au cu V ((i / 4 : Nat) : Int) ((i % 4 : Nat) : Int) m1 m2 _ (HGL.out _ HBD.out) HRD.out.2.2 HRD.out.2.1 HMV.out).mono ?_; rintro e w5 ⟨v5, rfl, hR5, hb5⟩; obtain ⟨A5, c5, hv5⟩ := (RowQ.ofR (base := w.heap.size) hR5).slice; subst hv5; have HR5 := aK (RowQ.ofR (base := w.heap.size) hR5); have HQ5 := aK ((HQ.out.move (w' := wr.drew) (fun k _ _ => rfl)).below hb5); have HS5 := aK (HSt.out.drew.below hb5); have K5 := aK ((hb5.block _ (blk_lt HKb.out)).trans HKb.out); have HB5 := aK (HBD.out.trans (hb5.mono HBD.out.size)); obtain ⟨d0, d1, d2⟩ := HCL.out w5 K5.out; have hcu5 := (hb5.cell (World.block_lt_of_cell? _ _ (show wr.drew.cell? ⟨g, off, none⟩ = _ from HCU.out))).trans HCU.out; clear hR5 hb5))
          clear HCU HRU HRD HBD b0 b1 b2 d0 d1 d2 hcu5 HQ HSt HKb HB HMV
          have e5 : wrap64 ((i : Int) + 1) = ((i + 1 : Nat) : Int) := by have := HI.out; have := H3.out; unfold wrap64; omega
          cases m2 with
          | false =>
           have H : impl_lists.l1 a0_0 a0_1 a0_2 V g1 (i + 1) (V :: Qc) Kc = some (Q2, K2) := by have := H'.out; simpa using this
           have H := aK H
           clear H'
           go_wp2
           go_roundg g1
           case measure => have := HI.out; omega
           case rel => exact ⟨i + 1, Qc, Kc, by first | rfl | (simp [e5]; done) | simp [e5], ⟨by have := HI.out; omega⟩, H, HQ5, HS5, K5, HB5⟩
          | true =>
           have H := H'.out
           clear H'
           simp only [if_true] at H
           obtain ⟨s5, hk5, H⟩ := Option.bind_eq_some_iff.mp H
           have HK5 := aK hk5
           clear hk5
           by_cases hz : s5.size ≤ 1000
           ·rw [if_pos hz] at H
            have HZ := aK hz
            clear hz
            by_cases ha : (Kc.any fun z => z.data.toList == s5.data.toList) = true
            ·rw [if_pos ha] at H
             have HA := aK ha
             have H := aK H
             clear ha
             go_wp2_with (first | (go_at_call 53; refine (impl_keyOf.callsG 1000 A5 c5 m1 s5 _ (HGL.out _ HB5.out) HR5.out.C.2.2 HR5.out.C.2.1 HK5.out).mono ?_; rintro e w6 ⟨rfl, hb⟩; have HS6 := aK (HS5.out.below hb); have HQ6 := aK (HQ5.out.below hb); have HR6 := aK (HR5.out.below hb); have K6 := aK ((hb.block _ (blk_lt K5.out)).trans K5.out); have HB6 := aK (HB5.out.trans (hb.mono HB5.out.size)); have hlk := run_str_look (P := Tryd.prog) w6 90 9 4 Tryd.underlying9 Tryd.underlying4 Tryd.underlying90 (boolZeroS _) w2.heap.size Kc HS6.out s5 (Nat.le_trans HZ.out (by decide)); rw [HA.out] at hlk; clear hb))
             go_roundg g1
             case measure => have := HI.out; omega
             case rel => exact ⟨i + 1, Qc, Kc, by first | rfl | (simp [e5]; done) | simp [e5], ⟨by have := HI.out; omega⟩, H, HQ6, HS6, K6, HB6⟩
            ·rw [if_neg ha] at H
             have HA := aK (Bool.eq_false_iff.2 ha)
             clear ha
             by_cases hl9 : Kc.length < 100000 ∧ (V :: Qc).length < 100000
             ·rw [if_pos hl9] at H
              have HL9 := aK hl9
              have H := aK H
              clear hl9
              obtain ⟨inf, hinf, hie⟩ := Option.map_eq_some_iff.1 info42
              have INF := aK (show Tryd.prog.info? 42 = some inf ∧ inf.zero = some (.slice none 0 0) ∧ inf.size = 1 ∧ inf.bytes ≤ 24 from ⟨hinf, (Prod.mk.inj hie).1, (Prod.mk.inj (Prod.mk.inj hie).2).1, Nat.le_of_eq (Prod.mk.inj (Prod.mk.inj hie).2).2⟩)
              clear hinf hie
              go_wp2_with (first | (go_at_call 53; refine (impl_keyOf.callsG 1000 A5 c5 m1 s5 _ (HGL.out _ HB5.out) HR5.out.C.2.2 HR5.out.C.2.1 HK5.out).mono ?_; rintro e w6 ⟨rfl, hb⟩; have HS6 := aK (HS5.out.below hb); have HQ6 := aK (HQ5.out.below hb); have HR6 := aK (HR5.out.below hb); have K6 := aK ((hb.block _ (blk_lt K5.out)).trans K5.out); have HB6 := aK (HB5.out.trans (hb.mono HB5.out.size)); have hlk := run_str_look (P := Tryd.prog) w6 90 9 4 Tryd.underlying9 Tryd.underlying4 Tryd.underlying90 (boolZeroS _) w2.heap.size Kc HS6.out s5 (Nat.le_trans HZ.out (by decide)); rw [HA.out] at hlk; clear hb) | (go_at_call 53; refine (impl_keyOf.callsG 1000 A5 c5 m1 s5 _ (HGL.out _ HB6.out) HR6.out.C.2.2 HR6.out.C.2.1 HK5.out).mono ?_; rintro e w7 ⟨rfl, hb⟩; have HS7 := aK (HS6.out.below hb); have HQ7 := aK (HQ6.out.below hb); have HR7 := aK (HR6.out.below hb); have K7 := aK ((hb.block _ (blk_lt K6.out)).trans K6.out); have HB7 := aK (HB6.out.trans (hb.mono HB6.out.size)); clear hb) | (refine wp_str_put _ rfl _ _ _ 90 rfl 9 4 Tryd.underlying9 Tryd.underlying4 Tryd.underlying90 w2.heap.size Kc rfl HS7.out (Nat.lt_of_lt_of_le HL9.out.1 (by decide)) s5 rfl rfl (Nat.le_trans HZ.out (by decide)) (fun hm => absurd ((any_iff _ _).2 hm) (by rw [HA.out]; decide)) ?_; intro w8 hs8 hg8; have HS8 := aK hs8; have HQ8 := aK (HQ7.out.grownMap HS7.out BM.out hg8); have HR8 := aK (HR7.out.grownMap HS7.out BM.out hg8); have K8 := aK (blk_grownM K7.out HS7.out hg8); have HB8 := aK (HB7.out.grown hg8 HB7.out.size (fun j hj => by cases hj; exact BM.out)); clear hs8 hg8) | (at_builtin; refine wp_q_append _ rfl _ _ 86 rfl (e3 := 3) (e := 42) (base := w.heap.size) inf _ Tryd.underlying86 INF.out.1 INF.out.2.1 INF.out.2.2.1 INF.out.2.2.2 (by decide) rfl (HQ8.out.below (bAl (Below.refl _ _) (.cells #[.slice A5 m1.length c5] 42))) ⟨w8.heap.size, 0, none⟩ 1 rfl (.slice A5 m1.length c5) (HR8.out.below (bAl (Below.refl _ _) (.cells #[.slice A5 m1.length c5] 42))) ((kC (heap_alloc_new w8 _) 0).trans rfl) HL9.out.2 (HB8.out.alloc HB8.out.size _).size (by decide) ?_; intro v9 w9 g9 hq9 hg9 hbg hc9; have HQ9 := aK hq9; have HS9 := aK ((HS8.out.alloc _).grownQ hg9 hc9); have K9 := aK (blk_grownT (kA K8.out _) hg9 hc9 (by decide)); have HB9 := aK ((HB8.out.alloc HB8.out.size _).grown hg9 (HB8.out.alloc HB8.out.size _).size (fun j hj => by cases hj; exact hbg)); clear hq9 hg9 hbg hc9))
              go_roundg g1
              case measure => have := HI.out; omega
              case rel => exact ⟨i + 1, Qc ++ [m1], Kc ++ [s5], by first | rfl | (simp [e5]; done) | simp [e5], ⟨by have := HI.out; omega⟩, H, HQ9, HS9, K9, HB9⟩
             ·rw [if_neg hl9] at H; exact absurd H (by simp)
           ·rw [if_neg hz] at H; exact absurd H (by simp)
    ·rw [if_neg h10] at H; exact absurd H (by simp)
  ·rw [if_neg h3] at H
   obtain rfl := Option.some.inj H
   have h3b : decide ((l1.length : Int) > 3) = true := decide_eq_true (by omega)
   clear h3
   go_enter Tryd.func52, Tryd.ntmps52
   go_wp2_with (go_at_call 29; rw [← HW.out]; refine (impl_CrowdOk.callsG a0_0 a0_1 a0_2 A1 c1 l1 true _ (HGL.out _ HB0.out) (HR.out _ HB0.out) HC1.out HM.out).mono ?_; rintro e w1 ⟨rfl, hb⟩; have HB1 := aK (HB0.out.trans (hb.mono HB0.out.size)); clear hb)
   go_ret
   exact ⟨_, rfl, Or.inl ⟨rfl, rfl⟩, HB1.out⟩
def impl_CanSwap.T4 : Bool × List (List Nat × List Nat) := (true, [([], []), ([], []), ([], []), ([], []), ([], []), ([], []), ([4, 5], [4, 5]), ([6], [6]), ([], []), ([], []), ([8, 9], [8, 9]), ([10], [10]), ([0, 1, 0, 1, 4, 5, 6, 7, 11], [0, 1]), ([12, 7, 0, 1, 4, 5, 6, 7, 11], [7, 12]), ([2, 3, 0, 1, 2, 3, 4, 5, 6, 7, 8, 9, 10, 11, 12, 13], [2, 3]), ([14, 11, 13, 0, 1, 2, 3, 4, 5, 6, 7, 8, 9, 10, 11, 12, 13], [11, 14])])
def impl_CanSwap.B4 : List Nat := [0, 0, 0, 0, 0, 0, 48, 112, 0, 0, 768, 1792, 4083, 8179, 16383, 32767]
theorem impl_CanSwap.tab4 : rtab .any (opsOf Tryd.f22 4) = impl_CanSwap.T4 := by kernel_rfl
theorem impl_CanSwap.bits4 : waitsOk impl_CanSwap.T4.2 impl_CanSwap.B4 = true := by kernel_rfl
set_option maxHeartbeats 8000000 in
set_option maxRecDepth 100000 in
theorem impl_CanSwap.calls (k : Nat) (a0_0 : Int) (a0_1 : Int) (a0_2 : Int) (A1 : Option Addr) (c1 : Nat) (l1 : List Int) (a2 : Int) (a3 : Int) (r : Bool) (w : World) (hgl : Gl w) (hr1 : Kd.C (Kd.int .i64) w A1 l1.length l1) (hc1 : l1.length ≤ c1) (h : impl_CanSwap.f k a0_0 a0_1 a0_2 l1 a2 a3 = some r) :
  Calls Tryd.prog 22 #[.agg #[.int .i64 a0_0, .int .i64 a0_1, .int .i64 a0_2], .slice A1 l1.length c1, .int .i64 a2, .int .i64 a3] w fun e w' => e = .returned (.bool r) ∧ Below w.heap.size w w' := by
 have hu41 := Tryd.underlying41
 have HR1 := aK hr1
 have HC1 := aK hc1
 have HGL := aK hgl
 clear hr1 hc1 hgl
 have HB := aK (Below.refl w.heap.size w)
 have H : (if a2 = a3 then (impl_CanSwap.j0 k l1 a2 a3 true a0_0 a0_1 a0_2) else (if a2 < 0 then (impl_CanSwap.j0 k l1 a2 a3 true a0_0 a0_1 a0_2) else (if a2 ≥ (l1.length : Int) then (impl_CanSwap.j0 k l1 a2 a3 true a0_0 a0_1 a0_2) else (if a3 < 0 then (impl_CanSwap.j0 k l1 a2 a3 true a0_0 a0_1 a0_2) else (impl_CanSwap.j0 k l1 a2 a3 (decide (a3 ≥ (l1.length : Int))) a0_0 a0_1 a0_2))))) = some r := h
 clear h
 have HC5 := aK H
 clear H
 go_enter Tryd.func22, Tryd.ntmps22
 go_upto_region 1 with (first | ((with_reducible refine gate_dst (N := 4) rfl ?_); (try (refine gate_guard (by rfl) ?_; dsimp only)); refine box_event ?hg (N := 4) ?hd (cs := #[.int .i64 a0_0, .int .i64 a0_1, .int .i64 a0_2]) (t := 41) ?hr ?_; (case hd => rfl); (case hg => rfl); (case hr => first | (go_simp; done) | (go_simp; rfl)); intro gb406 hg w6 hbox hb; have BK406 := aK (hbox); have GW406 := aK ((by rw [hg]; exact (bSz (zH0 HB)) : w.heap.size ≤ gb406)); replace HB := aK (bSp (zH0 HB) hb); have GE406 := GW406; clear hb hbox hg))
 (try simp only [Act.put, sTA, sZ, sS])
 go_cut [32] (fun v32 wc => ∃ (kq : Nat) (x32_4 : Bool), v32 = .bool x32_4 ∧ Aside0 (impl_CanSwap.j0 kq l1 a2 a3 x32_4 a0_0 a0_1 a0_2 = some r) ∧ Aside0 (kq ≤ k) ∧ Aside0 (wc.heap[gb406]? = some (.cells #[.int .i64 a0_0, .int .i64 a0_1, .int .i64 a0_2] 41 (0, 0))) ∧ Aside0 (Below w.heap.size w wc))
 case first =>
  have H := HC5.out
  clear HC5
  by_cases c7 : a2 = a3
  ·rw [if_pos c7] at H
   have c7b0 : (a2 == a3) = true := beq_iff_eq.mpr c7
   have c7b1 : (a2 != a3) = false := bne_eq_false_iff_eq.mpr c7
   clear c7
   (first | rw [c7b0] | (simp only [i64_w, i32_w]; rw [c7b0]) | skip)
   have H' := aK H
   clear H
   go_wp2
   go_meet
   case rel => exact ⟨_, (true), (by first | rfl | (simp; done) | (simp [*]; done)), H', ⟨by first | omega | exact Nat.le_refl _⟩, ⟨zK BK406⟩, ⟨zH1 HB GE406⟩⟩
  ·rw [if_neg c7] at H
   have c7b0 : (a2 == a3) = false := beq_eq_false_iff_ne.mpr c7
   have c7b1 : (a2 != a3) = true := bne_iff_ne.mpr c7
   (first | rw [c7b0] | (simp only [i64_w, i32_w]; rw [c7b0]) | skip)
   by_cases c8 : a2 < 0
   ·rw [if_pos c8] at H
    have c8b0 : decide (a2 < 0) = true := decide_eq_true c8
    clear c8
    have H' := aK H
    clear H
    go_wp2
    go_meet
    case rel => exact ⟨_, (true), (by first | rfl | (simp; done) | (simp [*]; done)), H', ⟨by first | omega | exact Nat.le_refl _⟩, ⟨zK BK406⟩, ⟨zH1 HB GE406⟩⟩
   ·rw [if_neg c8] at H
    have c8b0 : decide (a2 < 0) = false := decide_eq_false c8
    clear c8
    by_cases c9 : a2 ≥ (l1.length : Int)
    ·rw [if_pos c9] at H
     have c9b0 : decide ((l1.length : Int) ≤ a2) = true := decide_eq_true c9
     clear c9
     have H' := aK H
     clear H
     go_wp2
     go_meet
     case rel => exact ⟨_, (true), (by first | rfl | (simp; done) | (simp [*]; done)), H', ⟨by first | omega | exact Nat.le_refl _⟩, ⟨zK BK406⟩, ⟨zH1 HB GE406⟩⟩
    ·rw [if_neg c9] at H
     have c9b0 : decide ((l1.length : Int) ≤ a2) = false := decide_eq_false c9
     clear c9
     by_cases c10 : a3 < 0
     ·rw [if_pos c10] at H
      have c10b0 : decide (a3 < 0) = true := decide_eq_true c10
      clear c10
      have H' := aK H
      clear H
      go_wp2
      go_meet
      case rel => exact ⟨_, (true), (by first | rfl | (simp; done) | (simp [*]; done)), H', ⟨by first | omega | exact Nat.le_refl _⟩, ⟨zK BK406⟩, ⟨zH1 HB GE406⟩⟩
     ·rw [if_neg c10] at H
      have c10b0 : decide (a3 < 0) = false := decide_eq_false c10
      clear c10
      have H' := aK H
      clear H
      go_wp2
      go_meet
      case rel => exact ⟨_, (decide (a3 ≥ (l1.length : Int))), (by first | rfl | (simp; done) | (simp [*]; done)), H', ⟨by first | omega | exact Nat.le_refl _⟩, ⟨zK BK406⟩, ⟨zH1 HB GE406⟩⟩
 case rest =>
  clear HC5
  try clear c1
  try clear c2
  try clear p2
  try clear c7
  try clear c7b0
  try clear c7b1
  try clear c8
  try clear c8b0
  try clear c9
  try clear c9b0
  try clear c10
  try clear c10b0
  obtain ⟨kq, x32_4, rfl, HA, HJ4, BK406, HB⟩ := hcut
  cases kq with
  | zero => exact absurd HA.out (by simp [impl_CanSwap.j0])
  | succ kj4 =>
   have H := HA.out
   clear HA
   simp only [impl_CanSwap.j0] at H
   by_cases c11 : x32_4 = true
   ·subst c11
    have H1 : (some false) = some r := by rw [if_pos rfl] at H; exact H
    clear H
    have H := H1
    clear H1
    obtain rfl := Option.some.inj H
    go_wp2
    go_ret
    exact ⟨by first | rfl | (simp [errW_none, errW_some] <;> rfl) | (simp [*, errW_none, errW_some] <;> rfl), by repeat (first | (with_reducible first | exact HB.out | apply bAl | apply bDN | apply bD1 | refine bSt ?_ GE406.out) | exact HB.out)⟩
   ·replace c11 := Bool.eq_false_iff.mpr c11
    subst c11
    have H1 : ((slices_Clone_int.f l1).bind fun t407 => (if 0 ≤ a3 then (if a3 < (l1.length : Int) then (if 0 ≤ a2 then (if a2 < (l1.length : Int) then (if a2 < (t407.length : Int) then (if a3 < (t407.length : Int) then ((impl_lists.f a0_0 a0_1 a0_2 l1).bind fun t414 => ((impl_keyOf.f kj4 ((t407.set (a2 : Int).toNat (rd l1 a3)).set (a3 : Int).toNat (rd l1 a2))).bind fun t415 => (if t415.size ≤ 281474976710656 then (some (t414.any fun z => z.data.toList == t415.data.toList)) else (none)))) else (none)) else (none)) else (none)) else (none)) else (none)) else (none))) = some r := by rw [if_neg (show ¬ (false = true) by decide)] at H; exact H
    clear H
    have H := H1
    clear H1
    replace H := Option.bind_eq_some_iff.mp H
    obtain ⟨t407, A120, H⟩ := H
    replace H : (if 0 ≤ a3 then (if a3 < (l1.length : Int) then (if 0 ≤ a2 then (if a2 < (l1.length : Int) then (if a2 < (t407.length : Int) then (if a3 < (t407.length : Int) then ((impl_lists.f a0_0 a0_1 a0_2 l1).bind fun t414 => ((impl_keyOf.f kj4 ((t407.set (a2 : Int).toNat (rd l1 a3)).set (a3 : Int).toNat (rd l1 a2))).bind fun t415 => (if t415.size ≤ 281474976710656 then (some (t414.any fun z => z.data.toList == t415.data.toList)) else (none)))) else (none)) else (none)) else (none)) else (none)) else (none)) else (none)) = some r := H
    have A12 := aK A120
    clear A120
    by_cases c13 : 0 ≤ a3
    ·rw [if_pos c13] at H
     have c13b0 : decide (0 ≤ a3) = true := decide_eq_true c13
     clear c13
     by_cases c14 : a3 < (l1.length : Int)
     ·rw [if_pos c14] at H
      have c14b0 : decide (a3 < (l1.length : Int)) = true := decide_eq_true c14
      clear c14
      by_cases c15 : 0 ≤ a2
      ·rw [if_pos c15] at H
       have c15b0 : decide (0 ≤ a2) = true := decide_eq_true c15
       clear c15
       by_cases c16 : a2 < (l1.length : Int)
       ·rw [if_pos c16] at H
        have c16b0 : decide (a2 < (l1.length : Int)) = true := decide_eq_true c16
        clear c16
        by_cases c17 : a2 < (t407.length : Int)
        ·rw [if_pos c17] at H
         have c17b0 : decide (a2 < (t407.length : Int)) = true := decide_eq_true c17
         clear c17
         obtain ⟨y412, hy412⟩ : ∃ y_ : List Int, y_ = (t407.set (a2 : Int).toNat (rd l1 a3)) := ⟨_, rfl⟩
         replace H : (if a3 < (t407.length : Int) then ((impl_lists.f a0_0 a0_1 a0_2 l1).bind fun t414 => ((impl_keyOf.f kj4 (y412.set (a3 : Int).toNat (rd l1 a2))).bind fun t415 => (if t415.size ≤ 281474976710656 then (some (t414.any fun z => z.data.toList == t415.data.toList)) else (none)))) else (none)) = some r := by first | (rw [hy412]; with_reducible exact H) | (have H2_ := (Option.bind_some _ _).symm.trans H; rw [hy412]; with_reducible exact H2_) | (have H2_ := (Option.bind_some _ _).symm.trans H; with_reducible exact H2_) | with_reducible exact H | (rw [hy412]; exact H) | exact H
         have Ny412 := aK hy412
         clear hy412
         by_cases c19 : a3 < (t407.length : Int)
         ·rw [if_pos c19] at H
          have c19b0 : decide (a3 < (t407.length : Int)) = true := decide_eq_true c19
          clear c19
          obtain ⟨y413, hy413⟩ : ∃ y_ : List Int, y_ = (y412.set (a3 : Int).toNat (rd l1 a2)) := ⟨_, rfl⟩
          replace H : ((impl_lists.f a0_0 a0_1 a0_2 l1).bind fun t414 => ((impl_keyOf.f kj4 y413).bind fun t415 => (if t415.size ≤ 281474976710656 then (some (t414.any fun z => z.data.toList == t415.data.toList)) else (none)))) = some r := by first | (rw [hy413]; with_reducible exact H) | (have H2_ := (Option.bind_some _ _).symm.trans H; rw [hy413]; with_reducible exact H2_) | (have H2_ := (Option.bind_some _ _).symm.trans H; with_reducible exact H2_) | with_reducible exact H | (rw [hy413]; exact H) | exact H
          have Ny413 := aK hy413
          clear hy413
          replace H := Option.bind_eq_some_iff.mp H
          obtain ⟨t414, A210, H⟩ := H
          replace H : ((impl_keyOf.f kj4 y413).bind fun t415 => (if t415.size ≤ 281474976710656 then (some (t414.any fun z => z.data.toList == t415.data.toList)) else (none))) = some r := H
          have A21 := aK A210
          clear A210
          replace H := Option.bind_eq_some_iff.mp H
          obtain ⟨t415, A220, H⟩ := H
          replace H : (if t415.size ≤ 281474976710656 then (some (t414.any fun z => z.data.toList == t415.data.toList)) else (none)) = some r := H
          have A22 := aK A220
          clear A220
          by_cases csz : t415.size ≤ 281474976710656
          case neg => rw [if_neg csz] at H; exact absurd H (by simp)
          rw [if_pos csz] at H
          have CSZ := aK csz
          clear csz
          obtain rfl := Option.some.inj H
          try go_wp2_with (first | ((with_reducible refine gate_callee (f := 51) rfl ?_); refine goesL_ (some 34) rfl rfl Tryd.func51 (by kernel_rfl) rfl #[.slice A1 l1.length c1] rfl zD ?_; (with_reducible refine (slices_Clone_int.calls _ _ l1 t407 _ ?side1 ?side2 A12.out).mono ?_); (case side1 => exact zC (Kd.C_below HR1.out HB.out)); (case side2 => exact HC1.out); rintro e w23 ⟨v408, rfl, ho0, hb⟩; refine ⟨_, rfl, ?_⟩; have HO409 := aK (Kd.R_lower ho0 (bSz (zH1 HB GE406))); replace BK406 := zB BK406 hb; replace HB := aK (bSp (zH1 HB GE406) hb); (try clear hb); (try clear hb2); (try clear hk); (try clear hi); (try clear ho0)))
          have n0_ := aK (Kd.R_drew HO409.out)
          have n1_ := aK (kD BK406.out)
          have n2_ := aK (bD1 HB.out)
          clear HO409
          clear BK406
          clear HB
          have HO409 := n0_
          have BK406 := n1_
          have HB := n2_
          clear n0_ n1_ n2_
          have p410 : 0 ≤ (a3 : Int) := of_decide_eq_true (by first | (with_reducible assumption) | assumption)
          have q410 : a3 < (l1.length : Int) := of_decide_eq_true (by first | (with_reducible assumption) | assumption)
          obtain ⟨ad410, e410, hx410_0⟩ := Kd.at_int HR1.out a3 p410 q410
          have hw410_0 := hx410_0
          cases e410
          replace hx410_0 := (HB.out.cell (World.block_lt_of_cell? w _ hx410_0)).trans hx410_0
          replace p410 := eq_true p410
          replace q410 := eq_true q410
          have p411 : 0 ≤ (a2 : Int) := of_decide_eq_true (by first | (with_reducible assumption) | assumption)
          have q411 : a2 < (l1.length : Int) := of_decide_eq_true (by first | (with_reducible assumption) | assumption)
          obtain ⟨ad411, e411, hx411_0⟩ := Kd.at_int HR1.out a2 p411 q411
          have hw411_0 := hx411_0
          obtain rfl : ad410 = ad411 := (by injection e411)
          replace hx411_0 := (HB.out.cell (World.block_lt_of_cell? w _ hx411_0)).trans hx411_0
          replace p411 := eq_true p411
          replace q411 := eq_true q411
          have p18 : 0 ≤ (a2 : Int) := of_decide_eq_true (by first | (with_reducible assumption) | assumption)
          have q18 : (a2 : Int) < ((t407.length : Int) : Int) := of_decide_eq_true (by first | (with_reducible assumption) | assumption)
          obtain ⟨go18, co18, eo18, gb18, gl18, cl18, HG18⟩ := Kd.R_form HO409.out (by omega)
          (first | cases eo18 | (injection eo18 with ea_ en_ ec_; (first | subst ea_ | (injection ea_ with ea_; subst ea_)); subst ec_; clear en_))
          have GB18 := aK gb18
          have GG18 := aK HG18
          clear gb18 gl18 HG18
          obtain ⟨hx18_0, hf18_0⟩ := Kd.R_celln 0 HO409.out (a2 : Int) p18 q18
          replace p18 := eq_true p18
          replace q18 := eq_true q18
          have HP25 := Kd.R_putn HO409.out (a2 : Int) (rd l1 a3)
          rw [← Ny412.out] at HP25
          have HQ25 := aK HP25
          clear HP25
          have p20 : 0 ≤ (a3 : Int) := of_decide_eq_true (by first | (with_reducible assumption) | assumption)
          have q20 : (a3 : Int) < ((t407.length : Int) : Int) := of_decide_eq_true (by first | (with_reducible assumption) | assumption)
          obtain ⟨hx20_0, hf20_0⟩ := Kd.R_celln 0 HQ25.out (a3 : Int) p20 q20
          replace p20 := eq_true p20
          replace q20 := eq_true q20
          have HP26 := Kd.R_putn HQ25.out (a3 : Int) (rd l1 a2)
          rw [← Ny413.out] at HP26
          have HQ26 := aK HP26
          clear HP26
          refine start_ (n := 16) (S := fun w' => w'.cell? (ad410.add (a3).toNat) = some (.int .i64 (rd l1 a3)) ∧ w'.cell? (ad410.add (a2).toNat) = some (.int .i64 (rd l1 a2))) (ds := [13, 15]) #[bN,bN,bN,bN,bN,bN,bN,bN,bN,bN,bN,bN,bN,bN,bN,bN] (by kernel_rfl) rfl rfl ⟨((HB.out.cell (World.block_lt_of_cell? w _ hw410_0)).trans hw410_0), ((HB.out.cell (World.block_lt_of_cell? w _ hw411_0)).trans hw411_0)⟩ (fun hHeld => ?_); refine with_tabW impl_CanSwap.tab4 impl_CanSwap.bits4 (fun HT_ HW_ => ?_)
          generalize w23.drew = w24 at HO409 BK406 HB GG18 HQ25 HQ26 hf18_0 hf20_0 hx18_0 hx20_0 hx410_0 hx411_0 hHeld ⊢
          refine pure_ (i := 0) (N := some 35) (v := ?_) (a' := ?_) #[bY,bN,bN,bN,bN,bN,bN,bN,bN,bN,bN,bN,bN,bN,bN,bN] rfl rfl (any_of HT_.out (by kernel_rfl)) (fun _ _ _ h => h) (Or.inl ⟨by rfl, ?_⟩) ?_ ?_
          rotate_left
          ·intro w'
           go_simp
           with_reducible rfl
          rotate_left
          ·simp only [Act.put, sTA, sZ, sS, i64_w, i32_w]
           rfl
          refine pure_ (i := 1) (N := some 36) (v := ?_) (a' := ?_) #[bY,bY,bN,bN,bN,bN,bN,bN,bN,bN,bN,bN,bN,bN,bN,bN] rfl rfl (any_of HT_.out (by kernel_rfl)) (fun _ _ _ h => h) (Or.inl ⟨by rfl, ?_⟩) ?_ ?_
          rotate_left
          ·intro w'
           go_simp
           with_reducible rfl
          rotate_left
          ·simp only [Act.put, sTA, sZ, sS, i64_w, i32_w]
           rfl
          refine pure_ (i := 2) (N := some 37) (v := ?_) (a' := ?_) #[bY,bY,bY,bN,bN,bN,bN,bN,bN,bN,bN,bN,bN,bN,bN,bN] rfl rfl (any_of HT_.out (by kernel_rfl)) (fun _ _ _ h => h) (Or.inl ⟨by rfl, ?_⟩) ?_ ?_
          rotate_left
          ·intro w'
           go_simp
           with_reducible rfl
          rotate_left
          ·simp only [Act.put, sTA, sZ, sS, i64_w, i32_w]
           rfl
          refine pure_ (i := 3) (N := some 38) (v := ?_) (a' := ?_) #[bY,bY,bY,bY,bN,bN,bN,bN,bN,bN,bN,bN,bN,bN,bN,bN] rfl rfl (any_of HT_.out (by kernel_rfl)) (fun _ _ _ h => h) (Or.inl ⟨by rfl, ?_⟩) ?_ ?_
          rotate_left
          ·intro w'
           go_simp
           with_reducible rfl
          rotate_left
          ·simp only [Act.put, sTA, sZ, sS, i64_w, i32_w]
           rfl
          refine pure_ (i := 4) (N := some 39) (v := ?_) (a' := ?_) #[bY,bY,bY,bY,bY,bN,bN,bN,bN,bN,bN,bN,bN,bN,bN,bN] rfl rfl (any_of HT_.out (by kernel_rfl)) (fun _ _ _ h => h) (Or.inl ⟨by rfl, ?_⟩) ?_ ?_
          rotate_left
          ·intro w'
           go_simp
           with_reducible rfl
          rotate_left
          ·simp only [Act.put, sTA, sZ, sS, i64_w, i32_w]
           rfl
          refine pure_ (i := 5) (N := some 40) (v := ?_) (a' := ?_) #[bY,bY,bY,bY,bY,bY,bN,bN,bN,bN,bN,bN,bN,bN,bN,bN] rfl rfl (any_of HT_.out (by kernel_rfl)) (fun _ _ _ h => h) (Or.inl ⟨by rfl, ?_⟩) ?_ ?_
          rotate_left
          ·intro w'
           go_simp
           with_reducible rfl
          rotate_left
          ·simp only [Act.put, sTA, sZ, sS, i64_w, i32_w]
           rfl
          refine pure_ (i := 6) (N := some 41) (v := ?_) (a' := ?_) #[bY,bY,bY,bY,bY,bY,bY,bN,bN,bN,bN,bN,bN,bN,bN,bN] rfl rfl (any_of HT_.out (by kernel_rfl)) (fun _ _ _ h => h) (Or.inl ⟨by rfl, ?_⟩) ?_ ?_
          rotate_left
          ·intro w'
           go_simp
           with_reducible rfl
          rotate_left
          ·simp only [Act.put, sTA, sZ, sS, i64_w, i32_w]
           rfl
          refine pure_ (i := 8) (N := some 43) (v := ?_) (a' := ?_) #[bY,bY,bY,bY,bY,bY,bY,bN,bY,bN,bN,bN,bN,bN,bN,bN] rfl rfl (any_of HT_.out (by kernel_rfl)) (fun _ _ _ h => h) (Or.inl ⟨by rfl, ?_⟩) ?_ ?_
          rotate_left
          ·intro w'
           go_simp
           with_reducible rfl
          rotate_left
          ·simp only [Act.put, sTA, sZ, sS, i64_w, i32_w]
           rfl
          refine pure_ (i := 9) (N := some 44) (v := ?_) (a' := ?_) #[bY,bY,bY,bY,bY,bY,bY,bN,bY,bY,bN,bN,bN,bN,bN,bN] rfl rfl (any_of HT_.out (by kernel_rfl)) (fun _ _ _ h => h) (Or.inl ⟨by rfl, ?_⟩) ?_ ?_
          rotate_left
          ·intro w'
           go_simp
           with_reducible rfl
          rotate_left
          ·simp only [Act.put, sTA, sZ, sS, i64_w, i32_w]
           rfl
          refine pure_ (i := 10) (N := some 45) (v := ?_) (a' := ?_) #[bY,bY,bY,bY,bY,bY,bY,bN,bY,bY,bY,bN,bN,bN,bN,bN] rfl rfl (any_of HT_.out (by kernel_rfl)) (fun _ _ _ h => h) (Or.inl ⟨by rfl, ?_⟩) ?_ ?_
          rotate_left
          ·intro w'
           go_simp
           with_reducible rfl
          rotate_left
          ·simp only [Act.put, sTA, sZ, sS, i64_w, i32_w]
           rfl
          refine take_ (i := 7) (N := some 42) (v := ?_) (a' := ?_) #[bY,bY,bY,bY,bY,bY,bY,bY,bY,bY,bY,bN,bN,bN,bN,bN] rfl rfl (take_ofW HT_.out HW_.out (by kernel_rfl)) (fun _ _ _ h => h) (Or.inl ⟨by rfl, ?_⟩) hHeld ?_ ?_
          rotate_left
          ·rintro w' ⟨s0, s1⟩
           go_simp
           with_reducible rfl
          rotate_left
          ·simp only [Act.put, sTA, sZ, sS, i64_w, i32_w]
           rfl
          refine take_ (i := 11) (N := some 46) (v := ?_) (a' := ?_) #[bY,bY,bY,bY,bY,bY,bY,bY,bY,bY,bY,bY,bN,bN,bN,bN] rfl rfl (take_ofW HT_.out HW_.out (by kernel_rfl)) (fun _ _ _ h => h) (Or.inl ⟨by rfl, ?_⟩) hHeld ?_ ?_
          rotate_left
          ·rintro w' ⟨s0, s1⟩
           go_simp
           with_reducible rfl
          rotate_left
          ·simp only [Act.put, sTA, sZ, sS, i64_w, i32_w]
           rfl
          refine pure_ (i := 12) (N := some 47) (v := ?_) (a' := ?_) #[bY,bY,bY,bY,bY,bY,bY,bY,bY,bY,bY,bY,bY,bN,bN,bN] rfl rfl (any_of HT_.out (by kernel_rfl)) (fun _ _ _ h => h) (Or.inl ⟨by rfl, ?_⟩) ?_ ?_
          rotate_left
          ·intro w'
           go_simp
           with_reducible rfl
          rotate_left
          ·simp only [Act.put, sTA, sZ, sS, i64_w, i32_w]
           rfl
          refine last_ (i := 13) (N := none) #[bY,bY,bY,bY,bY,bY,bY,bY,bY,bY,bY,bY,bY,bY,bN,bN] rfl rfl (one_of HT_.out (by kernel_rfl)) (by decide) (fun K hK => ?_)
          refine skip_ (w1 := ?_) (by rfl) rfl ?_ ?_
          rotate_left
          ·go_simp
           rfl
          refine hK.out _ _ ?_
          clear hK K
          refine pure_ (i := 14) (N := some 48) (v := ?_) (a' := ?_) #[bY,bY,bY,bY,bY,bY,bY,bY,bY,bY,bY,bY,bY,bY,bY,bN] rfl rfl (any_of HT_.out (by kernel_rfl)) (fun _ _ _ h => h) (Or.inl ⟨by rfl, ?_⟩) ?_ ?_
          rotate_left
          ·intro w'
           go_simp
           with_reducible rfl
          rotate_left
          ·simp only [Act.put, sTA, sZ, sS, i64_w, i32_w]
           rfl
          refine last_ (i := 15) (N := none) #[bY,bY,bY,bY,bY,bY,bY,bY,bY,bY,bY,bY,bY,bY,bY,bY] rfl rfl (one_of HT_.out (by kernel_rfl)) (by decide) (fun K hK => ?_)
          refine skip_ (w1 := ?_) (by rfl) rfl ?_ ?_
          rotate_left
          ·go_simp
           rfl
          refine hK.out _ _ ?_
          clear hK K
          refine done_ (done_of HT_.out (by kernel_rfl)) ?_
          have BKF : ((w24.setCell ⟨go18, a2.toNat, none⟩ (.int .i64 (rd l1 a3))).setCell ⟨go18, a3.toNat, none⟩ (.int .i64 (rd l1 a2))).heap[gb406]? = some (.cells #[.int .i64 a0_0, .int .i64 a0_1, .int .i64 a0_2] 41 (0, 0)) := blk_far (blk_far BK406.out (by have h_ := Kd.R_ne HO409.out BK406.out (by decide); intro e_; exact h_ (by rw [e_]; rfl)) _) (by have h_ := Kd.R_ne HO409.out BK406.out (by decide); intro e_; exact h_ (by rw [e_]; rfl)) _
          have hcy0 : ((w24.setCell ⟨go18, a2.toNat, none⟩ (.int .i64 (rd l1 a3))).setCell ⟨go18, a3.toNat, none⟩ (.int .i64 (rd l1 a2))).cell? ⟨gb406, 0, none⟩ = some (.int .i64 a0_0) := (kC BKF 0).trans rfl
          have hcy1 : ((w24.setCell ⟨go18, a2.toNat, none⟩ (.int .i64 (rd l1 a3))).setCell ⟨go18, a3.toNat, none⟩ (.int .i64 (rd l1 a2))).cell? ⟨gb406, 1, none⟩ = some (.int .i64 a0_1) := (kC BKF 1).trans rfl
          have hcy2 : ((w24.setCell ⟨go18, a2.toNat, none⟩ (.int .i64 (rd l1 a3))).setCell ⟨go18, a3.toNat, none⟩ (.int .i64 (rd l1 a2))).cell? ⟨gb406, 2, none⟩ = some (.int .i64 a0_2) := (kC BKF 2).trans rfl
          clear BKF
          obtain ⟨hcz27_0, hcz27_1, hcz27_2, hfz27_0, hfz27_1, hfz27_2⟩ := cl3 BK406.out
          try go_wp2_with (first | ((with_reducible refine gate_callee (f := 52) rfl ?_); refine goesL_ (some 51) rfl rfl Tryd.func52 (by kernel_rfl) rfl #[.agg #[.int .i64 a0_0, .int .i64 a0_1, .int .i64 a0_2], .slice (some ad410) l1.length c1] rfl zD ?_; (with_reducible refine (impl_lists.calls a0_0 a0_1 a0_2 _ _ l1 t414 _ ?side0 ?side1 ?side2 A21.out).mono ?_); (case side0 => exact Gl_below (zH3 HB GB18 GB18 GE406) HGL.out); (case side1 => exact Kd.C_below HR1.out (zH3 HB GB18 GB18 GE406)); (case side2 => exact HC1.out); rintro e w28 ⟨v51, rfl, hm28, hb⟩; refine ⟨_, rfl, ?_⟩; have HMK := aK hm28; clear hm28; replace BK406 := aK (blk_below (g := gb406) (o := .cells #[.int .i64 a0_0, .int .i64 a0_1, .int .i64 a0_2] 41 (0, 0)) (by (with_reducible repeat (first | refine kDN ?_ _ | refine kD ?_ | refine kA ?_ _)); refine blk_far ?_ (by have h_ := Kd.R_ne HO409.out BK406.out (by decide); intro e_; exact h_ (by rw [e_]; rfl)) _; (with_reducible repeat (first | refine kDN ?_ _ | refine kD ?_ | refine kA ?_ _)); refine blk_far ?_ (by have h_ := Kd.R_ne HO409.out BK406.out (by decide); intro e_; exact h_ (by rw [e_]; rfl)) _; (with_reducible repeat (first | refine kDN ?_ _ | refine kD ?_ | refine kA ?_ _)); exact BK406.out) hb); replace HO409 := aK (Kd.R_below (zA HQ26) hb); replace HB := aK (bSp (zH3 HB GB18 GB18 GE406) hb); (try clear hb); (try clear hb2); (try clear hk); (try clear hi)) | ((with_reducible refine gate_callee (f := 53) rfl ?_); refine goesL_ (some 53) rfl rfl Tryd.func53 (by kernel_rfl) rfl #[.slice (some ⟨go18, 0, none⟩) y413.length co18] rfl (by (try simp only [List.map_toArray, List.map_cons, List.map_nil]); first | done | (rw [show y413.length = t407.length from (Kd.R_reads' HO409.out).1.symm] <;> rfl) | rfl | (simp only [List.length_drop, List.length_take]; rfl)) ?_; (with_reducible refine (impl_keyOf.callsG kj4 _ _ y413 t415 _ ?side0 ?side1 ?side2 A22.out).mono ?_); (case side0 => exact Gl_below (zH0 HB) HGL.out); (case side1 => exact zC (Kd.R_reads' HO409.out).2.2); (case side2 => rw [show y413.length = t407.length from (Kd.R_reads' HO409.out).1.symm]; exact (Kd.R_reads' HO409.out).2.1); rintro e w29 ⟨rfl, hb⟩; refine ⟨_, rfl, ?_⟩; have hlk := run_strs_look (P := Tryd.prog) w29 90 9 4 Tryd.underlying9 Tryd.underlying4 Tryd.underlying90 (boolZeroS _) t414 v51 (HMK.out.below hb) t415 (Nat.le_trans CSZ.out (by decide)); replace HO409 := aK (Kd.R_below (zA HO409) hb); replace BK406 := zB BK406 hb; replace HB := aK (bSp (zH1 HB GE406) hb); (try clear hb); (try clear hb2); (try clear hk); (try clear hi)))
          go_ret
          exact ⟨by first | rfl | (simp [errW_none, errW_some] <;> rfl) | (simp [*, errW_none, errW_some] <;> rfl), by repeat (first | (with_reducible first | exact HB.out | apply bAl | apply bDN | apply bD1 | refine bSt ?_ GE406.out) | exact HB.out)⟩
         ·rw [if_neg c19] at H
          exact absurd H (by simp)
        ·rw [if_neg c17] at H
         exact absurd H (by simp)
       ·rw [if_neg c16] at H
        exact absurd H (by simp)
      ·rw [if_neg c15] at H
       exact absurd H (by simp)
     ·rw [if_neg c14] at H
      exact absurd H (by simp)
    ·rw [if_neg c13] at H
     exact absurd H (by simp)
theorem impl_CanSwap.ctr {k : Nat} {a0_0 : Int} {a0_1 : Int} {a0_2 : Int} {l1 : List Int} {a2 : Int} {a3 : Int} {r : Bool} (h : impl_CanSwap.f k a0_0 a0_1 a0_2 l1 a2 a3 = some r) : Ctr Tryd.prog 22 [.ag [.v (.int .i64 a0_0), .v (.int .i64 a0_1), .v (.int .i64 a0_2)], .pr 1 (l1.map eI), .v (.int .i64 a2), .v (.int .i64 a3)] (.v (.bool r)) := by
  refine ⟨enters_of Tryd.func22 rfl rfl, fun w ys hgl hys => ?_⟩
  simp only [RepL, Rep] at hys
  obtain ⟨_, _, rfl, ⟨_, rfl, _, _, rfl, rfl, _, _, rfl, rfl, _, _, rfl, rfl, rfl⟩, _, _, rfl, q1, _, _, rfl, rfl, _, _, rfl, rfl, rfl⟩ := hys
  obtain ⟨_, _, rfl, hr1, hc1⟩ := C_of_at E_eI q1
  refine (impl_CanSwap.calls _ _ _ _ _ _ _ _ _ _ w hgl hr1 hc1 h).mono ?_
  rintro _ _ ⟨rfl, hb⟩
  exact ⟨_, [], rfl, (by first | (simp [RepR, RepRL]; done) | exact repR_vlu _ _ _ rfl), List.nodup_nil, (by first | exact hb | exact hb.below)⟩
end Go.Proofs.YtdjdleldocfpaaaDoor.F
end

section
namespace Go.Proofs.YtdjdleldocfpaaaDoor.F
open Go.RowKit Go.Proofs.YtdjdleldocfpaaaDoorW.PrintWords Go.Proofs.YtdjdleldocfpaaaDoorW.PrintLast Go.Proofs.YtdjdleldocfpaaaDoorW.PrintMore
set_option linter.unusedVariables false
set_option linter.unusedSimpArgs false
attribute [local go_sem] max2_int min2_int max_two min_two
theorem impl_CountReached.calls (a0_0 a0_1 a0_2 : Int) (A1 : Option Addr) (c1 : Nat) (l1 : List Int) (r : Int) (w : World) (hgl : Gl w) (hr1 : Kd.C (Kd.int .i64) w A1 l1.length l1) (hc1 : l1.length ≤ c1) (h : impl_CountReached.f a0_0 a0_1 a0_2 l1 = some r) :
  Calls Tryd.prog 25 #[.agg #[.int .i64 a0_0, .int .i64 a0_1, .int .i64 a0_2], .slice A1 l1.length c1] w fun e w' => e = .returned (.int .i64 r) ∧ Below w.heap.size w w' := by
 have hu := Tryd.underlying41
 unfold impl_CountReached.f at h
 obtain ⟨K, hK, H⟩ := Option.bind_eq_some_iff.mp h
 clear h
 by_cases c : K.length ≤ 100001
 ·rw [if_pos c] at H
  obtain rfl := Option.some.inj H
  clear H
  obtain ⟨w0, hw0⟩ : ∃ w0 : World, w0 = w.alloc (.cells #[.int .i64 a0_0, .int .i64 a0_1, .int .i64 a0_2] 41) := ⟨_, rfl⟩
  have HB0 := aK (show Below w.heap.size w w0 by rw [hw0]; exact (Below.refl _ w).alloc (Nat.le_refl _) _)
  have K0 := aK (show w0.heap[w.heap.size]? = some (.cells #[.int .i64 a0_0, .int .i64 a0_1, .int .i64 a0_2] 41 (0, 0)) by rw [hw0]; exact heap_alloc_new w _)
  have HW := aK hw0
  clear hw0
  have HC := aK (impl_lists.calls a0_0 a0_1 a0_2 A1 c1 l1 K w0 (Gl_below HB0.out hgl) (Kd.C_below hr1 HB0.out) hc1 hK)
  clear hgl hr1 hK
  have k0 : w0.cell? ⟨w.heap.size, 0, none⟩ = some (.int .i64 a0_0) := (kC K0.out 0).trans rfl
  have k1 : w0.cell? ⟨w.heap.size, 1, none⟩ = some (.int .i64 a0_1) := (kC K0.out 1).trans rfl
  have k2 : w0.cell? ⟨w.heap.size, 2, none⟩ = some (.int .i64 a0_2) := (kC K0.out 2).trans rfl
  rw [HW.out] at k0 k1 k2
  go_enter Tryd.func25, Tryd.ntmps25
  go_wp2_with (first | (go_at_call 52; rw [← HW.out]; refine HC.out.mono ?_; rintro e w1 ⟨v, rfl, hm, hb⟩; have HM := aK hm; have HB1 := aK (HB0.out.trans (hb.mono HB0.out.size)); clear hm hb) | (at_len; refine wp_strs_len _ rfl _ 90 rfl 9 4 Tryd.underlying90 K _ rfl HM.out ?_))
  go_ret
  exact ⟨rfl, HB1.out⟩
 ·rw [if_neg c] at H; exact absurd H (by simp)
theorem impl_CountReached.ctr {a0_0 : Int} {a0_1 : Int} {a0_2 : Int} {l1 : List Int} {r : Int} (h : impl_CountReached.f a0_0 a0_1 a0_2 l1 = some r) : Ctr Tryd.prog 25 [.ag [.v (.int .i64 a0_0), .v (.int .i64 a0_1), .v (.int .i64 a0_2)], .pr 1 (l1.map eI)] (.v (.int .i64 r)) := by
  refine ⟨enters_of Tryd.func25 rfl rfl, fun w ys hgl hys => ?_⟩
  simp only [RepL, Rep] at hys
  obtain ⟨_, _, rfl, ⟨_, rfl, _, _, rfl, rfl, _, _, rfl, rfl, _, _, rfl, rfl, rfl⟩, _, _, rfl, q1, rfl⟩ := hys
  obtain ⟨_, _, rfl, hr1, hc1⟩ := C_of_at E_eI q1
  refine (impl_CountReached.calls _ _ _ _ _ _ _ w hgl hr1 hc1 h).mono ?_
  rintro _ _ ⟨rfl, hb⟩
  exact ⟨_, [], rfl, (by first | (simp [RepR, RepRL]; done) | exact repR_vlu _ _ _ rfl), List.nodup_nil, (by first | exact hb | exact hb.below)⟩
set_option maxRecDepth 20000
set_option maxHeartbeats 4000000
open Nat renaming reduceAdd → p1, reduceSub → p2, reduceMul → p3, reduceDiv → p4, reduceBNe → p5, reduceBEq → p6, reduceEqDiff → p7, reduceLeDiff → p8, reduceLT → p9
open Int renaming reduceLE → p10, reduceLT → p11, reduceEq → p12
theorem impl_FreeNeighbors.ctr {k : Nat} {a0_0 : Int} {a0_1 : Int} {a0_2 : Int} {l1 : List Int} {a2 : Int} {r : List Int} (h : impl_FreeNeighbors.f k a0_0 a0_1 a0_2 l1 a2 = some r) : Ctr Tryd.prog 26 [.ag [.v (.int .i64 a0_0), .v (.int .i64 a0_1), .v (.int .i64 a0_2)], .pr 1 (l1.map eI), .v (.int .i64 a2)] (.ow 3 1 (r.map eI)) := by
  refine Ctr_of tyOk hm Tryd.func26 rfl rfl (by kernel_rfl) (n := 26) (rv := [.tmp 6]) rfl rfl ?_
  simp only [W, List.replicate]
  unfold impl_FreeNeighbors.f at h
  try simp only [W, p1, p2, p3, p4, p5, p6, p7, p8, p9, p10, p11, p12]
  refine loopN (fun x : List Int × Int × List Int × Int × Int × Int × Int => [.u, .pr 1 (List.map eI x.1), .v (.int .i64 x.2.1), .bp 48 0, .u, .u, .u, .lo 112, .v (.int .i64 x.2.2.2.1), .u, .u, .u, .u, .u, .u, .u, .u, .u, .u, .u, .u, .u, .u, .u, .u, .u, .u, .u, .u]) (fun x => [(48, .box 41 [.v (.int .i64 x.2.2.2.2.1), .v (.int .i64 x.2.2.2.2.2.1), .v (.int .i64 x.2.2.2.2.2.2)]), (112, .row 3 1 (List.map eI x.2.2.1))]) (fun n x => impl_FreeNeighbors.l0 n x.1 x.2.1 x.2.2.1 x.2.2.2.1 x.2.2.2.2.1 x.2.2.2.2.2.1 x.2.2.2.2.2.2 = some r) (l1, a2, ([] : List Int), 0, a0_0, a0_1, a0_2) [] h (by simp only [W, p1, p2, p3, p4, p5, p6, p7, p8, p9, p10, p11, p12] <;> trivial) (by simp only [W, p1, p2, p3, p4, p5, p6, p7, p8, p9, p10, p11, p12] <;> trivial) rfl (fun _ h => by cases h) ?_
  intro n1 ⟨x1, x2, x3, x4, x5, x6, x7⟩ _ h
  simp only [impl_FreeNeighbors.l0] at h
  replace h := ifS h; rcases h with ⟨c8, h⟩ | ⟨c8, h⟩
  · replace h := bnd h; obtain ⟨⟨t9_1, t9_2⟩, A, h⟩ := h
    dsimp only at h
    try simp only [W, c8, p1, p2, p3, p4, p5, p6, p7, p8, p9, p10, p11, p12]
    refine callR (impl_MoveOne.ctr A) ?_
    replace h := ifT h; rcases h with ⟨rfl, h⟩ | ⟨rfl, h⟩
    · replace h := ifN h; obtain ⟨c11, h⟩ := h
      try simp only [W, c8, c11, p1, p2, p3, p4, p5, p6, p7, p8, p9, p10, p11, p12]
      exact nextN (x1, x2, (x3 ++ [x4]), (wrap64 (x4 + 1)), x5, x6, x7) [(112, 432)] n1 (by omega) h (by simp only [W, p1, p2, p3, p4, p5, p6, p7, p8, p9, p10, p11, p12] <;> trivial) (by simp only [W, p1, p2, p3, p4, p5, p6, p7, p8, p9, p10, p11, p12] <;> trivial) rfl
    · try simp only [W, c8, p1, p2, p3, p4, p5, p6, p7, p8, p9, p10, p11, p12]
      exact nextN (x1, x2, x3, (wrap64 (x4 + 1)), x5, x6, x7) [] n1 (by omega) h (by simp only [W, p1, p2, p3, p4, p5, p6, p7, p8, p9, p10, p11, p12] <;> trivial) (by simp only [W, p1, p2, p3, p4, p5, p6, p7, p8, p9, p10, p11, p12] <;> trivial) rfl
  · cases h
    try simp only [W, c8, p1, p2, p3, p4, p5, p6, p7, p8, p9, p10, p11, p12]
theorem laws_sameInts.ctr {k : Nat} {l0 : List Int} {l1 : List Int} {r : Bool} (h : laws_sameInts.f k l0 l1 = some r) : Ctr Tryd.prog 28 [.pr 1 (l0.map eI), .pr 1 (l1.map eI)] (.v (.bool r)) := by
  refine Ctr_of tyOk hm Tryd.func28 rfl rfl (by kernel_rfl) (n := 24) (rv := [.tmp 4]) rfl rfl ?_
  simp only [W, List.replicate]
  unfold laws_sameInts.f at h
  replace h := ifS h; rcases h with ⟨c1, h⟩ | ⟨c1, h⟩
  · try simp only [W, eq_true c1, p1, p2, p3, p4, p5, p6, p7, p8, p9, p10, p11, p12]
    refine loopN (fun x : List Int × List Int × Int => [.pr 1 (List.map eI x.1), .pr 1 (List.map eI x.2.1), .u, .u, .u, .v (.int .i64 x.2.2), .u, .u, .u, .u, .u, .u, .u, .u, .u, .u, .u, .u, .u, .u, .u, .u, .u, .u, .u, .u]) (fun x => []) (fun n x => laws_sameInts.l0 n x.1 x.2.1 x.2.2 = some r) (l0, l1, 0) [] h (by simp only [W, p1, p2, p3, p4, p5, p6, p7, p8, p9, p10, p11, p12] <;> trivial) (by simp only [W, p1, p2, p3, p4, p5, p6, p7, p8, p9, p10, p11, p12] <;> trivial) rfl (fun _ h => by cases h) ?_
    intro n1 ⟨x2, x3, x4⟩ _ h
    simp only [laws_sameInts.l0] at h
    replace h := ifS h; rcases h with ⟨c5, h⟩ | ⟨c5, h⟩
    · replace h := ifN h; obtain ⟨c6, h⟩ := h
      replace h := ifN h; obtain ⟨c7, h⟩ := h
      replace h := ifS h; rcases h with ⟨c8, h⟩ | ⟨c8, h⟩
      · try simp only [W, c5, c6, c7, eq_true c8, p1, p2, p3, p4, p5, p6, p7, p8, p9, p10, p11, p12]
        exact nextN (x2, x3, (wrap64 (x4 + 1))) [] n1 (by omega) h (by simp only [W, p1, p2, p3, p4, p5, p6, p7, p8, p9, p10, p11, p12] <;> trivial) (by simp only [W, p1, p2, p3, p4, p5, p6, p7, p8, p9, p10, p11, p12] <;> trivial) rfl
      · cases h
        try simp only [W, c5, c6, c7, c8, p1, p2, p3, p4, p5, p6, p7, p8, p9, p10, p11, p12]
    · cases h
      try simp only [W, c5, p1, p2, p3, p4, p5, p6, p7, p8, p9, p10, p11, p12]
  · cases h
    try simp only [W, c1, p1, p2, p3, p4, p5, p6, p7, p8, p9, p10, p11, p12]
theorem spec_WaysFrom.ctr {k : Nat} {a0_0 : Int} {a0_1 : Int} {a0_2 : Int} {a1 : Int} {r : List Int} (h : spec_WaysFrom.f k a0_0 a0_1 a0_2 a1 = some r) : Ctr Tryd.prog 60 [.ag [.v (.int .i64 a0_0), .v (.int .i64 a0_1), .v (.int .i64 a0_2)], .v (.int .i64 a1)] (.ow 3 1 (r.map eI)) := by
  refine Ctr_of tyOk hm Tryd.func60 rfl rfl (by kernel_rfl) (n := 20) (rv := [.tmp 4]) rfl rfl ?_
  simp only [W, List.replicate]
  unfold spec_WaysFrom.f at h
  try simp only [W, p1, p2, p3, p4, p5, p6, p7, p8, p9, p10, p11, p12]
  refine loopN (fun x : Int × List Int × Int × Int × Int × Int => [.u, .v (.int .i64 x.1), .bp 32 0, .u, .u, .lo 112, .v (.int .i64 x.2.2.1), .u, .u, .u, .u, .u, .u, .u, .u, .u, .u, .u, .u, .u, .u, .u]) (fun x => [(32, .box 41 [.v (.int .i64 x.2.2.2.1), .v (.int .i64 x.2.2.2.2.1), .v (.int .i64 x.2.2.2.2.2)]), (112, .row 3 1 (List.map eI x.2.1))]) (fun n x => spec_WaysFrom.l0 n x.1 x.2.1 x.2.2.1 x.2.2.2.1 x.2.2.2.2.1 x.2.2.2.2.2 = some r) (a1, (([] : List Int)), 0, a0_0, a0_1, a0_2) [] h (by simp only [W, p1, p2, p3, p4, p5, p6, p7, p8, p9, p10, p11, p12] <;> trivial) (by simp only [W, p1, p2, p3, p4, p5, p6, p7, p8, p9, p10, p11, p12] <;> trivial) rfl (fun _ h => by cases h) ?_
  intro n1 ⟨x1, x2, x3, x4, x5, x6⟩ _ h
  simp only [spec_WaysFrom.l0] at h
  replace h := ifS h; rcases h with ⟨c7, h⟩ | ⟨c7, h⟩
  · replace h := bnd h; obtain ⟨t8, A, h⟩ := h
    try simp only [W, c7, p1, p2, p3, p4, p5, p6, p7, p8, p9, p10, p11, p12]
    refine callR (spec_Step.ctr A) ?_
    replace h := ifS h; rcases h with ⟨c9, h⟩ | ⟨c9, h⟩
    · replace h := ifN h; obtain ⟨c10, h⟩ := h
      try simp only [W, c7, c9, c10, p1, p2, p3, p4, p5, p6, p7, p8, p9, p10, p11, p12]
      exact nextN (x1, (x2 ++ [x3]), (wrap64 (x3 + 1)), x4, x5, x6) [(112, 320)] n1 (by omega) h (by simp only [W, p1, p2, p3, p4, p5, p6, p7, p8, p9, p10, p11, p12] <;> trivial) (by simp only [W, p1, p2, p3, p4, p5, p6, p7, p8, p9, p10, p11, p12] <;> trivial) rfl
    · try simp only [W, c7, c9, p1, p2, p3, p4, p5, p6, p7, p8, p9, p10, p11, p12]
      exact nextN (x1, x2, (wrap64 (x3 + 1)), x4, x5, x6) [] n1 (by omega) h (by simp only [W, p1, p2, p3, p4, p5, p6, p7, p8, p9, p10, p11, p12] <;> trivial) (by simp only [W, p1, p2, p3, p4, p5, p6, p7, p8, p9, p10, p11, p12] <;> trivial) rfl
  · cases h
    try simp only [W, c7, p1, p2, p3, p4, p5, p6, p7, p8, p9, p10, p11, p12]
theorem spec_Junctions.ctr {k : Nat} {a0_0 : Int} {a0_1 : Int} {a0_2 : Int} {r : List Int} (h : spec_Junctions.f k a0_0 a0_1 a0_2 = some r) : Ctr Tryd.prog 30 [.ag [.v (.int .i64 a0_0), .v (.int .i64 a0_1), .v (.int .i64 a0_2)]] (.ow 3 1 (r.map eI)) := by
  refine Ctr_of tyOk hm Tryd.func30 rfl rfl (by kernel_rfl) (n := 26) (rv := [.tmp 2]) rfl rfl ?_
  simp only [W, List.replicate]
  unfold spec_Junctions.f at h
  try simp only [W, p1, p2, p3, p4, p5, p6, p7, p8, p9, p10, p11, p12]
  refine loopN (fun x : List Int × Int × Int × Int × Int => [.u, .bp 16 0, .u, .lo 80, .v (.int .i64 x.2.1), .u, .u, .u, .u, .u, .u, .u, .u, .u, .u, .u, .u, .u, .u, .u, .u, .u, .u, .u, .u, .u, .u]) (fun x => [(16, .box 41 [.v (.int .i64 x.2.2.1), .v (.int .i64 x.2.2.2.1), .v (.int .i64 x.2.2.2.2)]), (80, .row 3 1 (List.map eI x.1))]) (fun n x => spec_Junctions.l0 n x.1 x.2.1 x.2.2.1 x.2.2.2.1 x.2.2.2.2 = some r) ((([] : List Int)), 0, a0_0, a0_1, a0_2) [] h (by simp only [W, p1, p2, p3, p4, p5, p6, p7, p8, p9, p10, p11, p12] <;> trivial) (by simp only [W, p1, p2, p3, p4, p5, p6, p7, p8, p9, p10, p11, p12] <;> trivial) rfl (fun _ h => by cases h) ?_
  intro n1 ⟨x1, x2, x3, x4, x5⟩ _ h
  simp only [spec_Junctions.l0] at h
  replace h := bnd h; obtain ⟨t6, A, h⟩ := h
  try simp only [W, p1, p2, p3, p4, p5, p6, p7, p8, p9, p10, p11, p12]
  refine callR (spec_CountCells.ctr A) ?_
  replace h := ifS h; rcases h with ⟨c7, h⟩ | ⟨c7, h⟩
  · replace h := bnd h; obtain ⟨t8, A, h⟩ := h
    try simp only [W, c7, p1, p2, p3, p4, p5, p6, p7, p8, p9, p10, p11, p12]
    refine callR (spec_MazeOk.ctr A) ?_
    rcases n1 with _ | m9; · cases h
    rw [spec_Junctions.j1] at h
    replace h := ifT h; rcases h with ⟨rfl, h⟩ | ⟨rfl, h⟩
    · replace h := bnd h; obtain ⟨t11, A, h⟩ := h
      try simp only [W, c7, p1, p2, p3, p4, p5, p6, p7, p8, p9, p10, p11, p12]
      refine callR (spec_WaysFrom.ctr A) ?_
      replace h := ifS h; rcases h with ⟨c12, h⟩ | ⟨c12, h⟩
      · replace h := ifN h; obtain ⟨c13, h⟩ := h
        try simp only [W, c7, c12, c13, p1, p2, p3, p4, p5, p6, p7, p8, p9, p10, p11, p12]
        exact nextN ((x1 ++ [x2]), (wrap64 (x2 + 1)), x3, x4, x5) [(80, 400)] m9 (by omega) h (by simp only [W, p1, p2, p3, p4, p5, p6, p7, p8, p9, p10, p11, p12] <;> trivial) (by simp only [W, p1, p2, p3, p4, p5, p6, p7, p8, p9, p10, p11, p12] <;> trivial) rfl
      · try simp only [W, c7, c12, p1, p2, p3, p4, p5, p6, p7, p8, p9, p10, p11, p12]
        exact nextN (x1, (wrap64 (x2 + 1)), x3, x4, x5) [] m9 (by omega) h (by simp only [W, p1, p2, p3, p4, p5, p6, p7, p8, p9, p10, p11, p12] <;> trivial) (by simp only [W, p1, p2, p3, p4, p5, p6, p7, p8, p9, p10, p11, p12] <;> trivial) rfl
    · cases h
      try simp only [W, c7, p1, p2, p3, p4, p5, p6, p7, p8, p9, p10, p11, p12]
  · rcases n1 with _ | m8; · cases h
    rw [spec_Junctions.j1] at h
    rw [if_neg (by decide)] at h
    cases h
    try simp only [W, c7, p1, p2, p3, p4, p5, p6, p7, p8, p9, p10, p11, p12]
theorem spec_CountPassages.ctr {k : Nat} {a0_0 : Int} {a0_1 : Int} {a0_2 : Int} {r : Int} (h : spec_CountPassages.f k a0_0 a0_1 a0_2 = some r) : Ctr Tryd.prog 61 [.ag [.v (.int .i64 a0_0), .v (.int .i64 a0_1), .v (.int .i64 a0_2)]] (.v (.int .i64 r)) := by
  refine Ctr_of tyOk hm Tryd.func61 rfl rfl (by kernel_rfl) (n := 22) (rv := [.tmp 2]) rfl rfl ?_
  simp only [W, List.replicate]
  unfold spec_CountPassages.f at h
  try simp only [W, p1, p2, p3, p4, p5, p6, p7, p8, p9, p10, p11, p12]
  refine loopN (fun x : Int × Int × Int × Int × Int => [.u, .bp 16 0, .u, .v (.int .i64 x.1), .v (.int .i64 x.2.1), .u, .u, .u, .u, .u, .u, .u, .u, .u, .u, .u, .u, .u, .u, .u, .u, .u, .u]) (fun x => [(16, .box 41 [.v (.int .i64 x.2.2.1), .v (.int .i64 x.2.2.2.1), .v (.int .i64 x.2.2.2.2)])]) (fun n x => spec_CountPassages.l0 n x.1 x.2.1 x.2.2.1 x.2.2.2.1 x.2.2.2.2 = some r) (0, 0, a0_0, a0_1, a0_2) [] h (by simp only [W, p1, p2, p3, p4, p5, p6, p7, p8, p9, p10, p11, p12] <;> trivial) (by simp only [W, p1, p2, p3, p4, p5, p6, p7, p8, p9, p10, p11, p12] <;> trivial) rfl (fun _ h => by cases h) ?_
  intro n1 ⟨x1, x2, x3, x4, x5⟩ _ h
  simp only [spec_CountPassages.l0] at h
  replace h := bnd h; obtain ⟨t6, A, h⟩ := h
  try simp only [W, p1, p2, p3, p4, p5, p6, p7, p8, p9, p10, p11, p12]
  refine callR (spec_CountGaps.ctr A) ?_
  replace h := ifS h; rcases h with ⟨c7, h⟩ | ⟨c7, h⟩
  · replace h := bnd h; obtain ⟨t8, A, h⟩ := h
    try simp only [W, c7, p1, p2, p3, p4, p5, p6, p7, p8, p9, p10, p11, p12]
    refine callR (spec_MazeOk.ctr A) ?_
    rcases n1 with _ | m9; · cases h
    rw [spec_CountPassages.j1] at h
    replace h := ifT h; rcases h with ⟨rfl, h⟩ | ⟨rfl, h⟩
    · replace h := bnd h; obtain ⟨t11, A, h⟩ := h
      try simp only [W, c7, p1, p2, p3, p4, p5, p6, p7, p8, p9, p10, p11, p12]
      refine callR (spec_l03Bit.ctr A) ?_
      replace h := ifT h; rcases h with ⟨rfl, h⟩ | ⟨rfl, h⟩
      · try simp only [W, c7, p1, p2, p3, p4, p5, p6, p7, p8, p9, p10, p11, p12]
        exact nextN ((wrap64 (x1 + 1)), (wrap64 (x2 + 1)), x3, x4, x5) [] m9 (by omega) h (by simp only [W, p1, p2, p3, p4, p5, p6, p7, p8, p9, p10, p11, p12] <;> trivial) (by simp only [W, p1, p2, p3, p4, p5, p6, p7, p8, p9, p10, p11, p12] <;> trivial) rfl
      · try simp only [W, c7, p1, p2, p3, p4, p5, p6, p7, p8, p9, p10, p11, p12]
        exact nextN (x1, (wrap64 (x2 + 1)), x3, x4, x5) [] m9 (by omega) h (by simp only [W, p1, p2, p3, p4, p5, p6, p7, p8, p9, p10, p11, p12] <;> trivial) (by simp only [W, p1, p2, p3, p4, p5, p6, p7, p8, p9, p10, p11, p12] <;> trivial) rfl
    · cases h
      try simp only [W, c7, p1, p2, p3, p4, p5, p6, p7, p8, p9, p10, p11, p12]
  · rcases n1 with _ | m8; · cases h
    rw [spec_CountPassages.j1] at h
    rw [if_neg (by decide)] at h
    cases h
    try simp only [W, c7, p1, p2, p3, p4, p5, p6, p7, p8, p9, p10, p11, p12]
theorem spec_CountLoops.ctr {k : Nat} {a0_0 : Int} {a0_1 : Int} {a0_2 : Int} {r : Int} (h : spec_CountLoops.f k a0_0 a0_1 a0_2 = some r) : Ctr Tryd.prog 31 [.ag [.v (.int .i64 a0_0), .v (.int .i64 a0_1), .v (.int .i64 a0_2)]] (.v (.int .i64 r)) := by
  refine Ctr_of tyOk hm Tryd.func31 rfl rfl (by kernel_rfl) (n := 14) (rv := [.tmp 2]) rfl rfl ?_
  simp only [W, List.replicate]
  unfold spec_CountLoops.f at h
  replace h := bnd h; obtain ⟨t1, A, h⟩ := h
  try simp only [W, p1, p2, p3, p4, p5, p6, p7, p8, p9, p10, p11, p12]
  refine callR (spec_MazeOk.ctr A) ?_
  replace h := ifT h; rcases h with ⟨rfl, h⟩ | ⟨rfl, h⟩
  · replace h := bnd h; obtain ⟨t3, A, h⟩ := h
    try simp only [W, p1, p2, p3, p4, p5, p6, p7, p8, p9, p10, p11, p12]
    refine callR (spec_CountPassages.ctr A) ?_
    replace h := bnd h; obtain ⟨t4, A, h⟩ := h
    try simp only [W, p1, p2, p3, p4, p5, p6, p7, p8, p9, p10, p11, p12]
    refine callR (spec_CountCells.ctr A) ?_
    replace h := bnd h; obtain ⟨t5, A, h⟩ := h
    try simp only [W, p1, p2, p3, p4, p5, p6, p7, p8, p9, p10, p11, p12]
    refine callR (spec_CountParts.ctr A) ?_
    cases h
    try simp only [W, p1, p2, p3, p4, p5, p6, p7, p8, p9, p10, p11, p12]
  · cases h
    try simp only [W, p1, p2, p3, p4, p5, p6, p7, p8, p9, p10, p11, p12]
end Go.Proofs.YtdjdleldocfpaaaDoor.F
end

section
namespace Go.Proofs.YtdjdleldocfpaaaDoor.F
open Go.RowKit Go.Proofs.YtdjdleldocfpaaaDoorW.PrintWords Go.Proofs.YtdjdleldocfpaaaDoorW.PrintLast Go.Proofs.YtdjdleldocfpaaaDoorW.PrintMore
set_option linter.unusedVariables false
set_option linter.unusedSimpArgs false
mutual
def laws_FnCrowds.l0 : Nat → List Int → Int → Int → Int → Int → Int → Int → Option (Bool)
  | 0, _, _, _, _, _, _, _ => none
  | k + 1, x4, x5, x6, x7, x1271000, x1271001, x1271002 => if x7 < (x4.length : Int) then ((impl_FreeNeighbors.f k x1271000 x1271001 x1271002 x4 x7).bind fun t1272 => (laws_FnCrowds.l1 k x4 x5 (wrap64 (x6 + (t1272.length : Int))) x7 t1272 0 x1271000 x1271001 x1271002)) else (if x5 < 1 then (laws_FnCrowds.j2 k x4 true x1271000 x1271001 x1271002) else (laws_FnCrowds.j2 k x4 ((x5 == 1) != (x6 == 0)) x1271000 x1271001 x1271002))
def laws_FnCrowds.l1 : Nat → List Int → Int → Int → Int → List Int → Int → Int → Int → Int → Option (Bool)
  | 0, _, _, _, _, _, _, _, _, _ => none
  | k + 1, x4, x5, x6, x7, x8, x9, x1271000, x1271001, x1271002 => if x9 < (x8.length : Int) then (if 0 ≤ x9 then ((impl_MoveOne.f k x1271000 x1271001 x1271002 x4 x7 (rd x8 x9)).bind fun bt1276 => ((impl_MoveOne.f k x1271000 x1271001 x1271002 bt1276.1 x7 (Int.tmod (wrap64 ((rd x8 x9) + 2)) 4)).bind fun bt1281 => (if bt1276.2 = true then (if bt1281.2 = true then ((laws_sameInts.f k bt1281.1 x4).bind fun t1285 => (if t1285 = true then ((impl_CrowdOk.f x1271000 x1271001 x1271002 bt1276.1).bind fun t1286 => (if t1286 = true then ((impl_CountReached.f x1271000 x1271001 x1271002 bt1276.1).bind fun t1287 => (if t1287 = x5 then (laws_FnCrowds.l1 k x4 x5 x6 x7 x8 (wrap64 (x9 + 1)) x1271000 x1271001 x1271002) else (some false))) else (some false))) else (some false))) else (some false)) else (some false)))) else (none)) else (laws_FnCrowds.l0 k x4 x5 x6 (wrap64 (x7 + 1)) x1271000 x1271001 x1271002)
def laws_FnCrowds.j2 : Nat → List Int → Bool → Int → Int → Int → Option (Bool)
  | 0, _, _, _, _, _ => none
  | k + 1, x4, x101, x1271000, x1271001, x1271002 => if x101 = true then (some false) else (if (x4.length : Int) < 2 then (laws_FnCrowds.j3 k x4 true x1271000 x1271001 x1271002) else ((impl_CanSwap.f k x1271000 x1271001 x1271002 x4 0 1).bind fun t1288 => ((impl_CanSwap.f k x1271000 x1271001 x1271002 x4 1 0).bind fun t1289 => (laws_FnCrowds.j3 k x4 (t1288 != t1289) x1271000 x1271001 x1271002))))
def laws_FnCrowds.j3 : Nat → List Int → Bool → Int → Int → Int → Option (Bool)
  | 0, _, _, _, _, _ => none
  | k + 1, x4, x113, x1271000, x1271001, x1271002 => if x113 = true then (some (decide ((x4.length : Int) < 2))) else ((spec_Junctions.f k x1271000 x1271001 x1271002).bind fun t1290 => (if (t1290.length : Int) > 0 then (some true) else ((spec_CountLoops.f k x1271000 x1271001 x1271002).bind fun t1293 => (if t1293 > 0 then (some true) else ((impl_CanSwap.f k x1271000 x1271001 x1271002 x4 0 1).bind fun t1294 => (some (!t1294)))))))
end
def laws_FnCrowds.f (k : Nat) (l0 : List Int) : Option (Bool) := (laws_big.f l0).bind fun t1263 => (if t1263 = true then (some true) else ((spec_DrawCrowd.f k l0).bind fun bt1264 => ((impl_CountReached.f bt1264.1 bt1264.2.1 bt1264.2.2.1 bt1264.2.2.2).bind fun t1271 => (laws_FnCrowds.l0 k bt1264.2.2.2 t1271 0 0 bt1264.1 bt1264.2.1 bt1264.2.2.1))))
end Go.Proofs.YtdjdleldocfpaaaDoor.F
end

section
namespace Go.Proofs.YtdjdleldocfpaaaDoor.F
open Go.RowKit Go.Proofs.YtdjdleldocfpaaaDoorW.PrintWords Go.Proofs.YtdjdleldocfpaaaDoorW.PrintLast Go.Proofs.YtdjdleldocfpaaaDoorW.PrintMore
set_option linter.unusedVariables false
set_option linter.unusedSimpArgs false
attribute [local go_sem] max2_int min2_int max_two min_two
set_option maxRecDepth 20000 in set_option maxHeartbeats 4000000 in open Nat renaming reduceAdd → p1, reduceSub → p2, reduceMul → p3, reduceDiv → p4, reduceBNe → p5, reduceBEq → p6, reduceEqDiff → p7, reduceLeDiff → p8, reduceLT → p9 in open Int renaming reduceLE → p10, reduceLT → p11, reduceEq → p12 in
theorem laws_FnCrowds.ctr {k : Nat} {l0 : List Int} {r : Bool} (h : laws_FnCrowds.f k l0 = some r) : Ctr Tryd.prog 7 [.pr 1 (l0.map eU8)] (.v (.bool r)) := by
  refine Ctr_of tyOk hm Tryd.func7 rfl rfl (by kernel_rfl) (n := 131) (rv := [.tmp 2]) rfl rfl ?_
  simp only [W, List.replicate]
  unfold laws_FnCrowds.f at h
  replace h := bnd h; obtain ⟨t1, A, h⟩ := h
  try simp only [W, p1, p2, p3, p4, p5, p6, p7, p8, p9, p10, p11, p12]
  refine callR (laws_big.ctr A) ?_
  replace h := ifT h; rcases h with ⟨rfl, h⟩ | ⟨rfl, h⟩
  · cases h
    try simp only [W, p1, p2, p3, p4, p5, p6, p7, p8, p9, p10, p11, p12]
  · replace h := bnd h; obtain ⟨⟨t3_1, t3_2, t3_3, t3_4⟩, A, h⟩ := h
    dsimp only at h
    try simp only [W, p1, p2, p3, p4, p5, p6, p7, p8, p9, p10, p11, p12]
    refine callR (spec_DrawCrowd.ctr A) ?_
    replace h := bnd h; obtain ⟨t4, A, h⟩ := h
    try simp only [W, p1, p2, p3, p4, p5, p6, p7, p8, p9, p10, p11, p12]
    refine callR (impl_CountReached.ctr A) ?_
    try simp only [W, p1, p2, p3, p4, p5, p6, p7, p8, p9, p10, p11, p12]
    refine loopN (fun x : List Int × Int × Int × Int × Int × Int × Int => [.u, .u, .u, .bp 48 0, .lo 288, .v (.int .i64 x.2.1), .v (.int .i64 x.2.2.1), .v (.int .i64 x.2.2.2.1), .u, .u, .u, .u, .u, .u, .u, .u, .u, .u, .u, .u, .u, .u, .u, .u, .u, .u, .u, .u, .u, .u, .u, .u, .u, .u, .u, .u, .u, .u, .u, .u, .u, .u, .u, .u, .u, .u, .u, .u, .u, .u, .u, .u, .u, .u, .u, .u, .u, .u, .u, .u, .u, .u, .u, .u, .u, .u, .u, .u, .u, .u, .u, .u, .u, .u, .u, .u, .u, .u, .u, .u, .u, .u, .u, .u, .u, .u, .u, .u, .u, .u, .u, .u, .u, .u, .u, .u, .u, .u, .u, .u, .u, .u, .u, .u, .u, .u, .u, .u, .u, .u, .u, .u, .u, .u, .u, .u, .u, .u, .u, .u, .u, .u, .u, .u, .u, .u, .u, .u, .u, .u, .u, .u]) (fun x => [(48, .box 41 [.v (.int .i64 x.2.2.2.2.1), .v (.int .i64 x.2.2.2.2.2.1), .v (.int .i64 x.2.2.2.2.2.2)]), (288, .row 3 1 (List.map eI x.1))]) (fun n x => laws_FnCrowds.l0 n x.1 x.2.1 x.2.2.1 x.2.2.2.1 x.2.2.2.2.1 x.2.2.2.2.2.1 x.2.2.2.2.2.2 = some r) (t3_4, t4, 0, 0, t3_1, t3_2, t3_3) [] h (by simp only [W, p1, p2, p3, p4, p5, p6, p7, p8, p9, p10, p11, p12] <;> trivial) (by simp only [W, p1, p2, p3, p4, p5, p6, p7, p8, p9, p10, p11, p12] <;> trivial) rfl (fun _ h => by cases h) ?_
    intro n1 ⟨x5, x6, x7, x8, x9, x10, x11⟩ _ h
    simp only [laws_FnCrowds.l0] at h
    replace h := ifS h; rcases h with ⟨c12, h⟩ | ⟨c12, h⟩
    · replace h := bnd h; obtain ⟨t13, A, h⟩ := h
      try simp only [W, c12, p1, p2, p3, p4, p5, p6, p7, p8, p9, p10, p11, p12]
      refine callR (impl_FreeNeighbors.ctr A) ?_
      try simp only [W, c12, p1, p2, p3, p4, p5, p6, p7, p8, p9, p10, p11, p12]
      refine loopN (fun x : List Int × Int × Int × Int × List Int × Int × Int × Int × Int => [.u, .u, .u, .bp 48 0, .lo 288, .v (.int .i64 x.2.1), .v (.int .i64 x.2.2.1), .v (.int .i64 x.2.2.2.1), .lo 528, .v (.int .i64 x.2.2.2.2.2.1), .u, .u, .u, .u, .u, .u, .u, .u, .u, .u, .u, .u, .u, .u, .u, .u, .u, .u, .u, .u, .u, .u, .u, .u, .u, .u, .u, .u, .u, .u, .u, .u, .u, .u, .u, .u, .u, .u, .u, .u, .u, .u, .u, .u, .u, .u, .u, .u, .u, .u, .u, .u, .u, .u, .u, .u, .u, .u, .u, .u, .u, .u, .u, .u, .u, .u, .u, .u, .u, .u, .u, .u, .u, .u, .u, .u, .u, .u, .u, .u, .u, .u, .u, .u, .u, .u, .u, .u, .u, .u, .u, .u, .u, .u, .u, .u, .u, .u, .u, .u, .u, .u, .u, .u, .u, .u, .u, .u, .u, .u, .u, .u, .u, .u, .u, .u, .u, .u, .u, .u, .u, .u]) (fun x => [(48, .box 41 [.v (.int .i64 x.2.2.2.2.2.2.1), .v (.int .i64 x.2.2.2.2.2.2.2.1), .v (.int .i64 x.2.2.2.2.2.2.2.2)]), (288, .row 3 1 (List.map eI x.1)), (528, .row 3 1 (List.map eI x.2.2.2.2.1))]) (fun n x => laws_FnCrowds.l1 n x.1 x.2.1 x.2.2.1 x.2.2.2.1 x.2.2.2.2.1 x.2.2.2.2.2.1 x.2.2.2.2.2.2.1 x.2.2.2.2.2.2.2.1 x.2.2.2.2.2.2.2.2 = some r) (x5, x6, (wrap64 (x7 + (t13.length : Int))), x8, t13, 0, x9, x10, x11) [] h (by simp only [W, p1, p2, p3, p4, p5, p6, p7, p8, p9, p10, p11, p12] <;> trivial) (by simp only [W, p1, p2, p3, p4, p5, p6, p7, p8, p9, p10, p11, p12] <;> trivial) rfl (fun _ h => by cases h) ?_
      intro n2 ⟨x14, x15, x16, x17, x18, x19, x20, x21, x22⟩ _ h
      simp only [laws_FnCrowds.l1] at h
      replace h := ifS h; rcases h with ⟨c23, h⟩ | ⟨c23, h⟩
      · replace h := ifN h; obtain ⟨c24, h⟩ := h
        replace h := bnd h; obtain ⟨⟨t25_1, t25_2⟩, A, h⟩ := h
        dsimp only at h
        try simp only [W, c23, c24, p1, p2, p3, p4, p5, p6, p7, p8, p9, p10, p11, p12]
        refine callR (impl_MoveOne.ctr A) ?_
        replace h := bnd h; obtain ⟨⟨t26_1, t26_2⟩, A, h⟩ := h
        dsimp only at h
        try simp only [W, c23, c24, p1, p2, p3, p4, p5, p6, p7, p8, p9, p10, p11, p12]
        refine callR (impl_MoveOne.ctr A) ?_
        replace h := ifT h; rcases h with ⟨rfl, h⟩ | ⟨rfl, h⟩
        · replace h := ifT h; rcases h with ⟨rfl, h⟩ | ⟨rfl, h⟩
          · replace h := bnd h; obtain ⟨t29, A, h⟩ := h
            try simp only [W, c23, c24, p1, p2, p3, p4, p5, p6, p7, p8, p9, p10, p11, p12]
            refine callR (laws_sameInts.ctr A) ?_
            replace h := ifT h; rcases h with ⟨rfl, h⟩ | ⟨rfl, h⟩
            · replace h := bnd h; obtain ⟨t31, A, h⟩ := h
              try simp only [W, c23, c24, p1, p2, p3, p4, p5, p6, p7, p8, p9, p10, p11, p12]
              refine callR (impl_CrowdOk.ctr A) ?_
              replace h := ifT h; rcases h with ⟨rfl, h⟩ | ⟨rfl, h⟩
              · replace h := bnd h; obtain ⟨t33, A, h⟩ := h
                try simp only [W, c23, c24, p1, p2, p3, p4, p5, p6, p7, p8, p9, p10, p11, p12]
                refine callR (impl_CountReached.ctr A) ?_
                replace h := ifS h; rcases h with ⟨c34, h⟩ | ⟨c34, h⟩
                · try simp only [W, c23, c24, eq_true c34, p1, p2, p3, p4, p5, p6, p7, p8, p9, p10, p11, p12]
                  exact nextN (x14, x15, x16, x17, x18, (wrap64 (x19 + 1)), x20, x21, x22) [] n2 (by omega) h (by simp only [W, p1, p2, p3, p4, p5, p6, p7, p8, p9, p10, p11, p12] <;> trivial) (by simp only [W, p1, p2, p3, p4, p5, p6, p7, p8, p9, p10, p11, p12] <;> trivial) rfl
                · cases h
                  try simp only [W, c23, c24, c34, p1, p2, p3, p4, p5, p6, p7, p8, p9, p10, p11, p12]
              · cases h
                try simp only [W, c23, c24, p1, p2, p3, p4, p5, p6, p7, p8, p9, p10, p11, p12]
            · cases h
              try simp only [W, c23, c24, p1, p2, p3, p4, p5, p6, p7, p8, p9, p10, p11, p12]
          · cases h
            try simp only [W, c23, c24, p1, p2, p3, p4, p5, p6, p7, p8, p9, p10, p11, p12]
        · cases h
          try simp only [W, c23, c24, p1, p2, p3, p4, p5, p6, p7, p8, p9, p10, p11, p12]
      · try simp only [W, c23, p1, p2, p3, p4, p5, p6, p7, p8, p9, p10, p11, p12]
        exact nextN (x14, x15, x16, (wrap64 (x17 + 1)), x20, x21, x22) [] n2 (by omega) h (by simp only [W, p1, p2, p3, p4, p5, p6, p7, p8, p9, p10, p11, p12] <;> trivial) (by simp only [W, p1, p2, p3, p4, p5, p6, p7, p8, p9, p10, p11, p12] <;> trivial) rfl
    · replace h := ifS h; rcases h with ⟨c13, h⟩ | ⟨c13, h⟩
      · rcases n1 with _ | m14; · cases h
        rw [laws_FnCrowds.j2] at h
        rw [if_pos rfl] at h
        cases h
        try simp only [W, c12, c13, p1, p2, p3, p4, p5, p6, p7, p8, p9, p10, p11, p12]
      · rcases n1 with _ | m14; · cases h
        rw [laws_FnCrowds.j2] at h
        replace h := ifT h; rcases h with ⟨c15, h⟩ | ⟨c15, h⟩ <;> try simp only [bEq] at c15
        · cases h
          try simp only [W, c12, c13, c15, p1, p2, p3, p4, p5, p6, p7, p8, p9, p10, p11, p12]
        · replace h := ifS h; rcases h with ⟨c16, h⟩ | ⟨c16, h⟩
          · rcases m14 with _ | m17; · cases h
            rw [laws_FnCrowds.j3] at h
            rw [if_pos rfl] at h
            cases h
            try simp only [W, c12, c13, c15, c16, p1, p2, p3, p4, p5, p6, p7, p8, p9, p10, p11, p12]
          · replace h := bnd h; obtain ⟨t17, A, h⟩ := h
            try simp only [W, c12, c13, c15, c16, p1, p2, p3, p4, p5, p6, p7, p8, p9, p10, p11, p12]
            refine callR (impl_CanSwap.ctr A) ?_
            replace h := bnd h; obtain ⟨t18, A, h⟩ := h
            try simp only [W, c12, c13, c15, c16, p1, p2, p3, p4, p5, p6, p7, p8, p9, p10, p11, p12]
            refine callR (impl_CanSwap.ctr A) ?_
            rcases m14 with _ | m19; · cases h
            rw [laws_FnCrowds.j3] at h
            replace h := ifT h; rcases h with ⟨c20, h⟩ | ⟨c20, h⟩ <;> try simp only [bEq] at c20
            · cases h
              try simp only [W, c12, c13, c15, c16, c20, p1, p2, p3, p4, p5, p6, p7, p8, p9, p10, p11, p12]
            · replace h := bnd h; obtain ⟨t21, A, h⟩ := h
              try simp only [W, c12, c13, c15, c16, c20, p1, p2, p3, p4, p5, p6, p7, p8, p9, p10, p11, p12]
              refine callR (spec_Junctions.ctr A) ?_
              replace h := ifS h; rcases h with ⟨c22, h⟩ | ⟨c22, h⟩
              · cases h
                try simp only [W, c12, c13, c15, c16, c20, c22, p1, p2, p3, p4, p5, p6, p7, p8, p9, p10, p11, p12]
              · replace h := bnd h; obtain ⟨t23, A, h⟩ := h
                try simp only [W, c12, c13, c15, c16, c20, c22, p1, p2, p3, p4, p5, p6, p7, p8, p9, p10, p11, p12]
                refine callR (spec_CountLoops.ctr A) ?_
                replace h := ifS h; rcases h with ⟨c24, h⟩ | ⟨c24, h⟩
                · cases h
                  try simp only [W, c12, c13, c15, c16, c20, c22, c24, p1, p2, p3, p4, p5, p6, p7, p8, p9, p10, p11, p12]
                · replace h := bnd h; obtain ⟨t25, A, h⟩ := h
                  try simp only [W, c12, c13, c15, c16, c20, c22, c24, p1, p2, p3, p4, p5, p6, p7, p8, p9, p10, p11, p12]
                  refine callR (impl_CanSwap.ctr A) ?_
                  cases h
                  try simp only [W, c12, c13, c15, c16, c20, c22, c24, p1, p2, p3, p4, p5, p6, p7, p8, p9, p10, p11, p12]
theorem laws_FnCrowds.calls (k : Nat) (A0 : Option Addr) (c0 : Nat) (l0 : List Int) (w : World) (hgl : Gl w) (hr0 : Kd.C (Kd.int .u8) w A0 l0.length l0) (hc0 : l0.length ≤ c0) (h : laws_FnCrowds.f k l0 = some true) :
    Calls Tryd.prog 7 #[.slice A0 l0.length c0] w fun e w' => e = .returned (.bool true) ∧ Below w.heap.size w w' := by
  refine ((laws_FnCrowds.ctr h).2 w [.slice A0 l0.length c0] hgl (by simp only [RepL, Rep]; exact ⟨_, _, rfl, at_of_C E_eU8 hr0 hc0, rfl⟩)).mono ?_
  rintro _ _ ⟨y, L, rfl, hR, _, hb⟩
  exact ⟨congrArg Ending.returned (RepR_pln rfl hR).1, hb⟩
end Go.Proofs.YtdjdleldocfpaaaDoor.F
end

section
namespace Go.Proofs.YtdjdleldocfpaaaDoor.F
open Go.RowKit Go.Proofs.YtdjdleldocfpaaaDoorW.PrintWords Go.Proofs.YtdjdleldocfpaaaDoorW.PrintLast Go.Proofs.YtdjdleldocfpaaaDoorW.PrintMore
set_option linter.unusedVariables false
set_option linter.unusedSimpArgs false
theorem w64 {x : Int} (h1 : -9223372036854775808 ≤ x) (h2 : x ≤ 9223372036854775807) : wrap64 x = x := by unfold wrap64; omega
theorem wrapi_nat {n : Nat} (h : n < 9223372036854775808) : IntKind.i64.wrap (n : Int) = (n : Int) := by rw [IntKind.wrap_i64]; omega
theorem bits_and_i {a b : Nat} (ha : a < 2 ^ 63) (hb : b < 2 ^ 63) : Go.bits .and .i64 (a : Int) (b : Int) = ((a &&& b : Nat) : Int) :=
  (bits_nat .i64 63 (by decide) (fun n h0 h1 => by rw [IntKind.wrap_i64]; omega) a b ha hb).1
theorem bits_or_i {a b : Nat} (ha : a < 2 ^ 63) (hb : b < 2 ^ 63) : Go.bits .or .i64 (a : Int) (b : Int) = ((a ||| b : Nat) : Int) :=
  (bits_nat .i64 63 (by decide) (fun n h0 h1 => by rw [IntKind.wrap_i64]; omega) a b ha hb).2
theorem bits_xor_i {a b : Nat} (ha : a < 2 ^ 63) (hb : b < 2 ^ 63) : Go.bits .xor .i64 (a : Int) (b : Int) = ((a ^^^ b : Nat) : Int) := by
  have ha' : a % 2 ^ 64 = a := Nat.mod_eq_of_lt (by omega)
  have hb' : b % 2 ^ 64 = b := Nat.mod_eq_of_lt (by omega)
  have hx := Nat.xor_lt_two_pow ha hb
  show IntKind.i64.wrap (((BitVec.ofInt 64 (a : Int) ^^^ BitVec.ofInt 64 (b : Int)).toNat : Nat) : Int) = _
  rw [BitVec.ofInt_natCast, BitVec.ofInt_natCast, BitVec.toNat_xor, BitVec.toNat_ofNat, BitVec.toNat_ofNat, ha', hb']
  exact wrapi_nat (by omega)
theorem shl_one {g : Nat} (h : g < 63) : shl .i64 1 (g : Int) = ((2 ^ g : Nat) : Int) := by
  unfold shl
  have : min ((g : Int).toNat) IntKind.i64.bits = g := by simp [IntKind.bits]; omega
  rw [this, Int.one_mul]
  have hp : (2 : Nat) ^ g ≤ 2 ^ 62 := Nat.pow_le_pow_right (by decide) (by omega)
  have : ((2 : Int) ^ g) = ((2 ^ g : Nat) : Int) := by simp
  rw [this]
  exact wrapi_nat (by omega)
theorem shr_nat {a g : Nat} (ha : a < 2 ^ 63) : shr .i64 (a : Int) (g : Int) = ((a >>> g : Nat) : Int) := by
  unfold shr
  rw [Nat.shiftRight_eq_div_pow]
  by_cases hg : g ≤ 64
  · have : min ((g : Int).toNat) IntKind.i64.bits = g := by simp [IntKind.bits]; omega
    rw [this]
    have : ((2 : Int) ^ g) = ((2 ^ g : Nat) : Int) := by simp
    rw [this]
    omega
  · have : min ((g : Int).toNat) IntKind.i64.bits = 64 := by simp [IntKind.bits]; omega
    rw [this]
    have hp : (2 : Nat) ^ 64 ≤ 2 ^ g := Nat.pow_le_pow_right (by decide) (by omega)
    rw [Nat.div_eq_of_lt (by omega)]
    have : (a : Int) / 2 ^ 64 = 0 := by omega
    simpa using this
def opn (o g : Int) : Bool := o.toNat.testBit g.toNat
theorem bit_test {o g : Int} (ho : 0 ≤ o) (ho2 : o < 9223372036854775808) (hg : 0 ≤ g) : (Go.bits .and .i64 (shr .i64 o g) 1 == 1) = opn o g := by
  obtain ⟨a, rfl⟩ := Int.eq_ofNat_of_zero_le ho
  obtain ⟨n, rfl⟩ := Int.eq_ofNat_of_zero_le hg
  have ha : a < 2 ^ 63 := by omega
  rw [shr_nat ha]
  have h2 : a >>> n < 2 ^ 63 := Nat.lt_of_le_of_lt (by rw [Nat.shiftRight_eq_div_pow]; exact Nat.div_le_self _ _) ha
  unfold opn
  simp only [Int.toNat_natCast]
  rw [show ((1 : Int)) = ((1 : Nat) : Int) from rfl, bits_and_i h2 (by decide), Nat.testBit, Nat.and_one_is_mod, Nat.one_and_eq_mod_two]
  rcases Nat.mod_two_eq_zero_or_one (a >>> n) with h | h <;> simp [h]
theorem fold_loop {σ ρ : Type} {F : Nat → σ → Int → Option ρ} {n c : Nat} {step : σ → Nat → σ} {fin : σ → ρ} {I : σ → Nat → Prop}
    (hF : ∀ k s (i : Nat), c ≤ k → i < n → I s i → F (k + 1) s (i : Int) = F k (step s i) ((i : Int) + 1)) (hI : ∀ s i, i < n → I s i → I (step s i) (i + 1))
    (hE : ∀ k s, c ≤ k → I s n → F (k + 1) s (n : Int) = some (fin s)) :
    ∀ (d i : Nat) (k : Nat) (s : σ), i + d = n → d + c + 1 ≤ k → I s i → F k s (i : Int) = some (fin ((List.range' i d).foldl step s))
  | 0, i, k, s, hi, hk, h => by
    obtain ⟨m, rfl⟩ : ∃ m, k = m + 1 := ⟨k - 1, by omega⟩
    obtain rfl : i = n := by omega
    simpa using hE m s (by omega) h
  | d + 1, i, k, s, hi, hk, h => by
    obtain ⟨m, rfl⟩ : ∃ m, k = m + 1 := ⟨k - 1, by omega⟩
    rw [hF m s i (by omega) (by omega) h, List.range'_succ, List.foldl_cons]
    have := fold_loop (c := c) (step := step) (fin := fin) hF hI hE d (i + 1) m (step s i) (by omega) (by omega) (hI s i (by omega) h)
    rwa [Int.natCast_add] at this
theorem inv_loop {σ ρ : Type} {F : Nat → σ → Int → Option ρ} {n c : Nat} {fin : σ → ρ} {I : σ → Nat → Prop}
    (hF : ∀ k s (i : Nat), c ≤ k → i < n → I s i → ∃ s', I s' (i + 1) ∧ F (k + 1) s (i : Int) = F k s' ((i : Int) + 1))
    (hE : ∀ k s, c ≤ k → I s n → F (k + 1) s (n : Int) = some (fin s)) :
    ∀ (d i : Nat) (k : Nat) (s : σ), i + d = n → d + c + 1 ≤ k → I s i → ∃ s', I s' n ∧ F k s (i : Int) = some (fin s')
  | 0, i, k, s, hi, hk, h => by
    obtain ⟨m, rfl⟩ : ∃ m, k = m + 1 := ⟨k - 1, by omega⟩
    obtain rfl : i = n := by omega
    exact ⟨s, h, hE m s (by omega) h⟩
  | d + 1, i, k, s, hi, hk, h => by
    obtain ⟨m, rfl⟩ : ∃ m, k = m + 1 := ⟨k - 1, by omega⟩
    obtain ⟨s', h', e⟩ := hF m s i (by omega) (by omega) h
    obtain ⟨s2, h2, e2⟩ := inv_loop (c := c) (fin := fin) hF hE d (i + 1) m s' (by omega) (by omega) h'
    rw [Int.natCast_add] at e2
    exact ⟨s2, h2, e.trans e2⟩
theorem all_loop {α : Type} (z : α) {F : Nat → Int → Option Bool} {l : List α} {p : α → Bool} {c : Nat} {b : Bool}
    (hF : ∀ k (i : Nat), c ≤ k → i < l.length → F (k + 1) (i : Int) = if p (l.getD i z) = true then F k ((i : Int) + 1) else some false) (hE : ∀ k, c ≤ k → F (k + 1) (l.length : Int) = some b) {k : Nat} (hk : l.length + c + 1 ≤ k) :
    F k 0 = some (l.all p && b) := by
  have key : ∀ (d i : Nat) (k : Nat), i + d = l.length → d + c + 1 ≤ k → F k (i : Int) = some ((l.drop i).all p && b) := by
    intro d
    induction d with
    | zero =>
      intro i k hi hk
      obtain ⟨m, rfl⟩ : ∃ m, k = m + 1 := ⟨k - 1, by omega⟩
      obtain rfl : i = l.length := by omega
      rw [hE m (by omega), List.drop_of_length_le (by omega)]
      simp
    | succ d ih =>
      intro i k hi hk
      obtain ⟨m, rfl⟩ : ∃ m, k = m + 1 := ⟨k - 1, by omega⟩
      have hil : i < l.length := by omega
      rw [hF m i (by omega) hil, List.drop_eq_getElem_cons hil, List.all_cons]
      have e : l.getD i z = l[i] := by rw [List.getD_eq_getElem?_getD, List.getElem?_eq_getElem hil]; rfl
      rw [e]
      have := ih (i + 1) m (by omega) (by omega)
      rw [Int.natCast_add] at this
      by_cases h : p l[i] = true
      · rw [if_pos h, h]
        simpa using this
      · rw [if_neg h]
        simp at h
        simp [h]
  have := key l.length 0 k (by omega) (by omega)
  simpa using this
theorem w64_succ {i n : Nat} (h : i < n) (hn : n ≤ 9223372036854775807) : wrap64 ((i : Int) + 1) = (i : Int) + 1 := w64 (by omega) (by omega)
end Go.Proofs.YtdjdleldocfpaaaDoor.F
end

section
namespace Go.Proofs.YtdjdleldocfpaaaDoor.F
open Go.RowKit Go.Proofs.YtdjdleldocfpaaaDoorW.PrintWords Go.Proofs.YtdjdleldocfpaaaDoorW.PrintLast Go.Proofs.YtdjdleldocfpaaaDoorW.PrintMore
set_option linter.unusedVariables false
set_option linter.unusedSimpArgs false
section
variable {α : Type}
inductive Rch (nx : α → List α) (a : α) : α → Prop
  | refl : Rch nx a a
  | step {x y : α} : Rch nx a x → y ∈ nx x → Rch nx a y
theorem Rch.trans {nx : α → List α} {a b c : α} (h : Rch nx a b) (g : Rch nx b c) : Rch nx a c := by
  induction g with
  | refl => exact h
  | step _ hy ih => exact ih.step hy
theorem Rch.sym {nx : α → List α} {ok : α → Prop} (hok : ∀ x y, ok x → y ∈ nx x → ok y) (hs : ∀ x y, ok x → y ∈ nx x → x ∈ nx y) {a b : α} (ha : ok a) (h : Rch nx a b) : ok b ∧ Rch nx b a := by
  induction h with
  | refl => exact ⟨ha, .refl⟩
  | step hx hy ih => exact ⟨hok _ _ ih.1 hy, (Rch.step .refl (hs _ _ ih.1 hy)).trans ih.2⟩
theorem Rch.inv {nx : α → List α} {ok : α → Prop} (hok : ∀ x y, ok x → y ∈ nx x → ok y) {a b : α} (ha : ok a) (h : Rch nx a b) : ok b := by
  induction h with
  | refl => exact ha
  | step hx hy ih => exact hok _ _ ih hy
structure SInv (nx : α → List α) (a : α) (L : List α) (k : Nat) : Prop where
  start : a ∈ L
  nodup : L.Nodup
  rch : ∀ x ∈ L, Rch nx a x
  closed : ∀ j x, j < k → L[j]? = some x → ∀ y ∈ nx x, y ∈ L
  le : k ≤ L.length
theorem SInv.init (nx : α → List α) (a : α) : SInv nx a [a] 0 := ⟨by simp, by simp, fun x hx => by rw [List.mem_singleton.1 hx]; exact .refl, fun j x hj => by omega, by simp⟩
theorem SInv.all {nx : α → List α} {a : α} {L : List α} {k : Nat} (h : SInv nx a L k) (e : L.length ≤ k) {x : α} (hx : Rch nx a x) : x ∈ L := by
  induction hx with
  | refl => exact h.start
  | step _ hy ih =>
    obtain ⟨j, hj, rfl⟩ := List.mem_iff_getElem.1 ih
    exact h.closed j _ (by omega) (List.getElem?_eq_getElem hj) _ hy
end
section
variable {α : Type} [DecidableEq α]
def addN (L : List α) (x : α) : List α := if x ∈ L then L else L ++ [x]
def srch (nx : α → List α) : Nat → List α → Nat → List α
  | 0, L, _ => L
  | f + 1, L, k => match L[k]? with
    | none => L
    | some x => srch nx f ((nx x).foldl addN L) (k + 1)
theorem mem_addN {L : List α} {x y : α} : y ∈ addN L x ↔ y ∈ L ∨ y = x := by
  unfold addN
  split
  · rename_i h
    exact ⟨Or.inl, fun q => q.elim id fun e => e ▸ h⟩
  · simp
theorem addN_nodup {L : List α} {x : α} (h : L.Nodup) : (addN L x).Nodup := by
  unfold addN
  split
  · exact h
  · rename_i n
    rw [List.nodup_append]
    refine ⟨h, by simp, ?_⟩
    intro a ha b hb e
    rw [List.mem_singleton.1 hb] at e
    exact n (e ▸ ha)
theorem addN_at {L : List α} {x y : α} {j : Nat} (h : L[j]? = some y) : (addN L x)[j]? = some y := by
  unfold addN
  split
  · exact h
  · rw [List.getElem?_append_left (List.getElem?_eq_some_iff.1 h).1]; exact h
theorem addN_len {L : List α} {x : α} : L.length ≤ (addN L x).length ∧ (addN L x).length ≤ L.length + 1 := by
  unfold addN
  split <;> simp
theorem fold_mem : ∀ (l L : List α) (y : α), y ∈ l.foldl addN L ↔ y ∈ L ∨ y ∈ l
  | [], L, y => by simp
  | x :: l, L, y => by rw [List.foldl_cons, fold_mem l, mem_addN, List.mem_cons, or_assoc]
theorem fold_nodup : ∀ (l L : List α), L.Nodup → (l.foldl addN L).Nodup
  | [], L, h => h
  | x :: l, L, h => fold_nodup l _ (addN_nodup h)
theorem fold_at : ∀ (l L : List α) {y : α} {j : Nat}, L[j]? = some y → (l.foldl addN L)[j]? = some y
  | [], L, _, _, h => h
  | x :: l, L, _, _, h => fold_at l _ (addN_at h)
theorem fold_len : ∀ (l L : List α), L.length ≤ (l.foldl addN L).length
  | [], L => Nat.le_refl _
  | x :: l, L => Nat.le_trans addN_len.1 (fold_len l _)
theorem SInv.next {nx : α → List α} {a x : α} {L : List α} {k : Nat} (h : SInv nx a L k) (e : L[k]? = some x) : SInv nx a ((nx x).foldl addN L) (k + 1) where
  start := (fold_mem _ _ _).2 (Or.inl h.start)
  nodup := fold_nodup _ _ h.nodup
  rch := fun y hy => ((fold_mem _ _ _).1 hy).elim (h.rch y) fun q => (h.rch x (List.mem_of_getElem? e)).step q
  closed := fun j y hj hy z hz => by
    have hlt : k < L.length := (List.getElem?_eq_some_iff.1 e).1
    refine (fold_mem _ _ _).2 ?_
    by_cases c : j = k
    · subst c
      rw [fold_at _ _ e] at hy
      obtain rfl := Option.some.inj hy
      exact Or.inr hz
    · have : L[j]? = some (L[j]'(by omega)) := List.getElem?_eq_getElem (by omega)
      rw [fold_at _ _ this] at hy
      rw [hy] at this
      exact Or.inl (h.closed j y (by omega) this z hz)
  le := by
    have hlt : k < L.length := (List.getElem?_eq_some_iff.1 e).1
    have := fold_len (nx x) L
    omega
theorem srch_spec {nx : α → List α} {a : α} {U : Nat} (hU : ∀ L : List α, L.Nodup → (∀ x ∈ L, Rch nx a x) → L.length ≤ U) : ∀ (f : Nat) (L : List α) (k : Nat), SInv nx a L k → U + 1 ≤ f + k → (srch nx f L k).Nodup ∧ ∀ x, x ∈ srch nx f L k ↔ Rch nx a x
  | 0, L, k, h, hf => by
    have := hU L h.nodup h.rch
    have := h.le
    omega
  | f + 1, L, k, h, hf => by
    unfold srch
    cases e : L[k]? with
    | none => exact ⟨h.nodup, fun x => ⟨h.rch x, h.all (List.getElem?_eq_none_iff.1 e)⟩⟩
    | some x => exact srch_spec hU f _ _ (h.next e) (by omega)
theorem nodup_leG : ∀ {l L : List α}, l.Nodup → (∀ x ∈ l, x ∈ L) → l.length ≤ L.length
  | [], _, _, _ => Nat.zero_le _
  | x :: l, L, hn, hs => by
    obtain ⟨h1, h2⟩ := List.nodup_cons.1 hn
    have hx : x ∈ L := hs x (by simp)
    have := nodup_leG (l := l) (L := L.erase x) h2 (fun y hy => (List.mem_erase_of_ne (fun e => h1 (by rw [← e]; exact hy))).2 (hs y (by simp [hy])))
    rw [List.length_erase_of_mem hx] at this
    have := List.length_pos_of_mem hx
    simp only [List.length_cons]
    omega
theorem same_len {l L : List α} (hl : l.Nodup) (hL : L.Nodup) (h : ∀ x, x ∈ l ↔ x ∈ L) : l.length = L.length :=
  Nat.le_antisymm (nodup_leG hl fun x hx => (h x).1 hx) (nodup_leG hL fun x hx => (h x).2 hx)
end
def kf : Int → List Int → Int
  | n, [] => n
  | n, c :: l => kf (n * 16 + c) l
def c16 (c : Int) : Prop := 0 ≤ c ∧ c ≤ 15
theorem kf_inj : ∀ (V W : List Int) (n m : Int), V.length = W.length → (∀ c ∈ V, c16 c) → (∀ c ∈ W, c16 c) → kf n V = kf m W → n = m ∧ V = W
  | [], [], n, m, _, _, _, h => ⟨h, rfl⟩
  | [], _ :: _, _, _, h, _, _, _ => by simp at h
  | _ :: _, [], _, _, h, _, _, _ => by simp at h
  | c :: V, d :: W, n, m, hl, hV, hW, h => by
    obtain ⟨e1, e2⟩ := kf_inj V W _ _ (by simpa using hl) (fun x hx => hV x (by simp [hx])) (fun x hx => hW x (by simp [hx])) h
    have h1 := hV c (by simp)
    have h2 := hW d (by simp)
    unfold c16 at h1 h2
    obtain rfl : n = m := by omega
    obtain rfl : c = d := by omega
    exact ⟨rfl, by rw [e2]⟩
theorem kf_bd : ∀ (V : List Int) (n : Int), 0 ≤ n → (∀ c ∈ V, c16 c) → n ≤ kf n V ∧ kf n V < (n + 1) * ((16 ^ V.length : Nat) : Int)
  | [], n, h, _ => by simp [kf]; omega
  | c :: V, n, h, hV => by
    have h1 := hV c (by simp)
    unfold c16 at h1
    obtain ⟨a, b⟩ := kf_bd V (n * 16 + c) (by omega) (fun x hx => hV x (by simp [hx]))
    refine ⟨by show n ≤ kf (n * 16 + c) V; omega, ?_⟩
    show kf (n * 16 + c) V < _
    have p : (0 : Int) ≤ ((16 ^ V.length : Nat) : Int) := Int.natCast_nonneg _
    have e : ((16 ^ (c :: V).length : Nat) : Int) = 16 * ((16 ^ V.length : Nat) : Int) := by rw [List.length_cons, Nat.pow_succ]; omega
    have q : (n * 16 + c + 1) * ((16 ^ V.length : Nat) : Int) ≤ (n * 16 + 16) * ((16 ^ V.length : Nat) : Int) := Int.mul_le_mul_of_nonneg_right (by omega) p
    have r : (n * 16 + 16) * ((16 ^ V.length : Nat) : Int) = (n + 1) * ((16 ^ (c :: V).length : Nat) : Int) := by rw [e, ← Int.mul_assoc]; congr 1; omega
    omega
theorem kf_small {V : List Int} (h3 : V.length ≤ 3) (hV : ∀ c ∈ V, c16 c) : 1 ≤ kf 1 V ∧ kf 1 V < 8192 := by
  obtain ⟨a, b⟩ := kf_bd V 1 (by decide) hV
  have : V.length = 0 ∨ V.length = 1 ∨ V.length = 2 ∨ V.length = 3 := by omega
  refine ⟨a, ?_⟩
  rcases this with e | e | e | e <;> rw [e] at b <;> simp at b <;> omega
theorem few_lists {L : List (List Int)} {n : Nat} (h3 : n ≤ 3) (hn : L.Nodup) (hV : ∀ V ∈ L, V.length = n ∧ ∀ c ∈ V, c16 c) : L.length ≤ 8192 := by
  have h1 : (L.map (kf 1)).Nodup := by
    rw [List.Nodup, List.pairwise_map]
    refine List.Pairwise.imp_of_mem (fun {p q} hp hq hne e => ?_) hn
    exact hne (kf_inj p q 1 1 ((hV p hp).1.trans (hV q hq).1.symm) (hV p hp).2 (hV q hq).2 e).2
  have := nodup_leG h1 (L := (List.range 8192).map fun j : Nat => (j : Int)) (fun x hx => by
    obtain ⟨V, hm, rfl⟩ := List.mem_map.1 hx
    obtain ⟨a, b⟩ := kf_small (by rw [(hV V hm).1]; exact h3) (hV V hm).2
    exact List.mem_map.2 ⟨(kf 1 V).toNat, List.mem_range.2 (by omega), by omega⟩)
  simpa using this
end Go.Proofs.YtdjdleldocfpaaaDoor.F
end
