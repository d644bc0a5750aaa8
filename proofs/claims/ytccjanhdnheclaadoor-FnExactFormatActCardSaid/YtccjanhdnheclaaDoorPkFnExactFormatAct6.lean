/- Packed by a program of the session (wip/tools/pack.py): what the claim's theorem reaches, of the texts that wip/ and the kit's printer lay. -/
import Derived.Test.YtccjanhdnheclaaDoorPkFnExactFormatAct5
import Derived.Shelf.Strconv.Itoa3
import Derived.Test.YtccjanhdnheclaaDoorProg
import Derived.Deep.QuietTactic
import Derived.BigQuiet
import Derived.StillTailTactics
import Derived.Laws.StructEq
section
namespace Go.Proofs
def Tryd.laysIt_ren : Go.Shelf.Ren := ⟨fun | 171 => 50 | 243 => 66 | 246 => 84 | 283 => 109 | 284 => 110 | 285 => 111 | 286 => 112 | 129 => 128 | 317 => 127 | 318 => 129 | 319 => 130 | 320 => 131 | 337 => 138 | 338 => 139 | n => n, fun | 3 => 3 | 9 => 9 | 2 => 2 | 4 => 4 | 171 => 134 | 0 => 0 | 53 => 135 | 37 => 40 | 5 => 5 | 173 => 138 | 212 => 155 | 51 => 156 | 20 => 20 | 213 => 157 | 46 => 129 | 232 => 179 | 233 => 180 | n => n, fun | 17 => 0 | 18 => 3 | 19 => 4 | n => n⟩
theorem Tryd.laysIt : Lays.n171 Tryd.prog Tryd.laysIt_ren := { mixed := by kernel_rfl, f129 := Tryd.func128.trans (congrArg some (by kernel_rfl)), f171 := Tryd.func50.trans (congrArg some (by kernel_rfl)), f243 := Tryd.func66.trans (congrArg some (by kernel_rfl)), f246 := Tryd.func84.trans (congrArg some (by kernel_rfl)), f283 := Tryd.func109.trans (congrArg some (by kernel_rfl)), f284 := Tryd.func110.trans (congrArg some (by kernel_rfl)), f285 := Tryd.func111.trans (congrArg some (by kernel_rfl)), f286 := Tryd.func112.trans (congrArg some (by kernel_rfl)), f317 := Tryd.func127.trans (congrArg some (by kernel_rfl)), f318 := Tryd.func129.trans (congrArg some (by kernel_rfl)), f319 := Tryd.func130.trans (congrArg some (by kernel_rfl)), f320 := Tryd.func131.trans (congrArg some (by kernel_rfl)), f337 := Tryd.func138.trans (congrArg some (by kernel_rfl)), f338 := Tryd.func139.trans (congrArg some (by kernel_rfl)), t0 := Tryd.underlying0, a0 := Tryd.isAgg0, z0 := Tryd.sizeOf0, v0 := Tryd.zeroValue0, t2 := Tryd.underlying2, a2 := Tryd.isAgg2, z2 := Tryd.sizeOf2, v2 := Tryd.zeroValue2, t3 := Tryd.underlying3, a3 := Tryd.isAgg3, z3 := Tryd.sizeOf3, v3 := Tryd.zeroValue3, t4 := Tryd.underlying4, a4 := Tryd.isAgg4, z4 := Tryd.sizeOf4, v4 := Tryd.zeroValue4, t5 := Tryd.underlying5, a5 := Tryd.isAgg5, z5 := Tryd.sizeOf5, v5 := Tryd.zeroValue5, t9 := Tryd.underlying9, a9 := Tryd.isAgg9, z9 := Tryd.sizeOf9, v9 := Tryd.zeroValue9, t20 := Tryd.underlying20, a20 := Tryd.isAgg20, z20 := Tryd.sizeOf20, v20 := Tryd.zeroValue20, t37 := Tryd.underlying40, a37 := Tryd.isAgg40, z37 := Tryd.sizeOf40, v37 := Tryd.zeroValue40, t46 := Tryd.underlying129, a46 := Tryd.isAgg129, z46 := Tryd.sizeOf129, v46 := Tryd.zeroValue129, t51 := Tryd.underlying156, a51 := Tryd.isAgg156, z51 := Tryd.sizeOf156, v51 := Tryd.zeroValue156, t53 := Tryd.underlying135, a53 := Tryd.isAgg135, z53 := Tryd.sizeOf135, v53 := Tryd.zeroValue135, t171 := Tryd.underlying134, a171 := Tryd.isAgg134, z171 := Tryd.sizeOf134, v171 := Tryd.zeroValue134, t173 := Tryd.underlying138, a173 := Tryd.isAgg138, z173 := Tryd.sizeOf138, v173 := Tryd.zeroValue138, t212 := Tryd.underlying155, a212 := Tryd.isAgg155, z212 := Tryd.sizeOf155, v212 := Tryd.zeroValue155, t213 := Tryd.underlying157, a213 := Tryd.isAgg157, z213 := Tryd.sizeOf157, t232 := Tryd.underlying179, a232 := Tryd.isAgg179, z232 := Tryd.sizeOf179, v232 := Tryd.zeroValue179, t233 := Tryd.underlying180, a233 := Tryd.isAgg180, z233 := Tryd.sizeOf180, v233 := Tryd.zeroValue180, g17 := by kernel_rfl, g18 := by kernel_rfl, g19 := by kernel_rfl }
end Go.Proofs
end

section
namespace Go.Proofs.YtccjanhdnheclaaDoor.F
open Go.RowKit Go.Proofs.YtccjanhdnheclaaDoorW.PrintWords Go.Proofs.YtccjanhdnheclaaDoorW.PrintLast Go.Proofs.YtccjanhdnheclaaDoorW.PrintMore
set_option linter.unusedVariables false
set_option linter.unusedSimpArgs false
attribute [local go_sem] max2_int min2_int max_two min_two
set_option maxRecDepth 20000 in set_option maxHeartbeats 4000000 in open Nat renaming reduceAdd → p1, reduceSub → p2, reduceMul → p3, reduceDiv → p4, reduceBNe → p5, reduceBEq → p6, reduceEqDiff → p7, reduceLeDiff → p8, reduceLT → p9 in open Int renaming reduceLE → p10, reduceLT → p11, reduceEq → p12 in
theorem spec_l01In.ctr {a0 : Int} {a1 : Int} {a2 : Int} {r : Bool} (h : spec_l01In.f a0 a1 a2 = some r) : Ctr Tryd.prog 32 [.v (.int .i64 a0), .v (.int .i64 a1), .v (.int .i64 a2)] (.v (.bool r)) := by
  refine Ctr_of tyOk hm Tryd.func32 rfl rfl (by kernel_rfl) (n := 12) (rv := [.tmp 6]) rfl rfl ?_
  simp only [W, List.replicate]
  unfold spec_l01In.f at h
  replace h := ifS h; rcases h with ⟨c1, h⟩ | ⟨c1, h⟩
  · cases h
    try simp only [W, c1, p1, p2, p3, p4, p5, p6, p7, p8, p9, p10, p11, p12]
  · cases h
    try simp only [W, c1, p1, p2, p3, p4, p5, p6, p7, p8, p9, p10, p11, p12]
theorem dec_two {i : Nat} (h : i < 100) : (Go.Lib.decDigits i).toArray = if i < 10 then #[UInt8.ofNat (48 + i)] else #[UInt8.ofNat (48 + i / 10), UInt8.ofNat (48 + i % 10)] := by
  rw [Go.Lib.decDigits]
  by_cases q : i < 10
  · rw [dif_pos q, if_pos q]
  · rw [dif_neg q, if_neg q, Go.Lib.decDigits, dif_pos (by omega)]
    rfl
theorem strconv_Itoa.calls (a0 : Int) (r : ByteArray) (w : World) (h : strconv_Itoa.f a0 = some r) :
    Calls Tryd.prog 50 #[.int .i64 a0] w fun e w' => e = .returned (.string r) ∧ Below w.heap.size w w' := by
  unfold strconv_Itoa.f at h
  split at h
  · rename_i q
    obtain rfl := Option.some.inj h
    obtain ⟨i, rfl⟩ : ∃ i : Nat, a0 = i := ⟨a0.toNat, by omega⟩
    refine (Any.strconv_Itoa_small Tryd.laysIt i (by omega) w).mono ?_
    rintro e w' ⟨rfl, rfl⟩
    rw [dec_two (by omega), Int.toNat_natCast]
    exact ⟨rfl, Below.refl _ _⟩
  · cases h
theorem strconv_Itoa.ctr {a0 : Int} {r : ByteArray} (h : strconv_Itoa.f a0 = some r) : Ctr Tryd.prog 50 [.v (.int .i64 a0)] (.v (.string r)) := by
  refine ⟨enters_of Tryd.func50 rfl rfl, fun w ys hys => ?_⟩
  simp only [RepL, Rep] at hys
  obtain ⟨_, _, rfl, rfl, rfl⟩ := hys
  refine (strconv_Itoa.calls _ _ w h).mono ?_
  rintro _ _ ⟨rfl, hb⟩
  exact ⟨_, [], rfl, (by first | (simp [RepR, RepRL]; done) | exact repR_vlu _ _ _ rfl), List.nodup_nil, (by first | exact hb | exact hb.below)⟩
set_option maxRecDepth 20000 in set_option maxHeartbeats 4000000 in open Nat renaming reduceAdd → p1, reduceSub → p2, reduceMul → p3, reduceDiv → p4, reduceBNe → p5, reduceBEq → p6, reduceEqDiff → p7, reduceLeDiff → p8, reduceLT → p9 in open Int renaming reduceLE → p10, reduceLT → p11, reduceEq → p12 in
theorem impl_FormatInt.ctr {a0 : Int} {r : ByteArray} (h : impl_FormatInt.f a0 = some r) : Ctr Tryd.prog 30 [.v (.int .i64 a0)] (.v (.string r)) := by
  refine Ctr_of tyOk hm Tryd.func30 rfl rfl (by kernel_rfl) (n := 4) (rv := [.tmp 2]) rfl rfl ?_
  simp only [W, List.replicate]
  unfold impl_FormatInt.f at h
  replace h := bnd h; obtain ⟨t1, A, h⟩ := h
  try simp only [W, p1, p2, p3, p4, p5, p6, p7, p8, p9, p10, p11, p12]
  refine callR (strconv_Itoa.ctr A) ?_
  cases h
  try simp only [W, p1, p2, p3, p4, p5, p6, p7, p8, p9, p10, p11, p12]
end Go.Proofs.YtccjanhdnheclaaDoor.F
end

section
namespace Go.Proofs.YtccjanhdnheclaaDoor.F
open Go.RowKit Go.Proofs.YtccjanhdnheclaaDoorW.PrintWords Go.Proofs.YtccjanhdnheclaaDoorW.PrintLast Go.Proofs.YtccjanhdnheclaaDoorW.PrintMore
set_option linter.unusedVariables false
set_option linter.unusedSimpArgs false
attribute [local go_sem] max2_int min2_int max_two min_two
set_option maxRecDepth 20000 in set_option maxHeartbeats 4000000 in open Nat renaming reduceAdd → p1, reduceSub → p2, reduceMul → p3, reduceDiv → p4, reduceBNe → p5, reduceBEq → p6, reduceEqDiff → p7, reduceLeDiff → p8, reduceLT → p9 in open Int renaming reduceLE → p10, reduceLT → p11, reduceEq → p12 in
theorem impl_isDirection.ctr {a0 : Int} {r : Bool} (h : impl_isDirection.f a0 = some r) : Ctr Tryd.prog 49 [.v (.int .i64 a0)] (.v (.bool r)) := by
  refine Ctr_of tyOk hm Tryd.func49 rfl rfl (by kernel_rfl) (n := 8) (rv := [.tmp 2]) rfl rfl ?_
  simp only [W, List.replicate]
  unfold impl_isDirection.f at h
  replace h := ifS h; rcases h with ⟨c1, h⟩ | ⟨c1, h⟩
  · cases h
    try simp only [W, c1, p1, p2, p3, p4, p5, p6, p7, p8, p9, p10, p11, p12]
  · cases h
    try simp only [W, c1, p1, p2, p3, p4, p5, p6, p7, p8, p9, p10, p11, p12]
set_option maxRecDepth 20000 in set_option maxHeartbeats 4000000 in open Nat renaming reduceAdd → p1, reduceSub → p2, reduceMul → p3, reduceDiv → p4, reduceBNe → p5, reduceBEq → p6, reduceEqDiff → p7, reduceLeDiff → p8, reduceLT → p9 in open Int renaming reduceLE → p10, reduceLT → p11, reduceEq → p12 in
theorem impl_ActOk.ctr {k : Nat} {a0_0 : Int} {a0_1 : Int} {a0_2 : Int} {r : Bool} (h : impl_ActOk.f k a0_0 a0_1 a0_2 = some r) : Ctr Tryd.prog 28 [.ag [.v (.int .i64 a0_0), .v (.int .i64 a0_1), .v (.int .i64 a0_2)]] (.v (.bool r)) := by
  refine Ctr_of tyOk hm Tryd.func28 rfl rfl (by kernel_rfl) (n := 56) (rv := [.tmp 2]) rfl rfl ?_
  simp only [W, List.replicate]
  unfold impl_ActOk.f at h
  replace h := ifS h; rcases h with ⟨c1, h⟩ | ⟨c1, h⟩
  · rcases k with _ | m2; · cases h
    rw [impl_ActOk.j0] at h
    replace h := ifS h; rcases h with ⟨c3, h⟩ | ⟨c3, h⟩
    · replace h := ifS h; rcases h with ⟨c4, h⟩ | ⟨c4, h⟩
      · replace h := ifS h; rcases h with ⟨c5, h⟩ | ⟨c5, h⟩
        · cases h
          try simp only [W, c1, eq_true c3, c4, c5, p1, p2, p3, p4, p5, p6, p7, p8, p9, p10, p11, p12]
        · cases h
          try simp only [W, c1, eq_true c3, c4, c5, p1, p2, p3, p4, p5, p6, p7, p8, p9, p10, p11, p12]
      · cases h
        try simp only [W, c1, eq_true c3, c4, p1, p2, p3, p4, p5, p6, p7, p8, p9, p10, p11, p12]
    · replace h := ifS h; rcases h with ⟨c4, h⟩ | ⟨c4, h⟩
      · replace h := ifT h; rcases h with ⟨c5, h⟩ | ⟨c5, h⟩
        · replace h := bnd h; obtain ⟨t6, A, h⟩ := h
          try simp only [W, c1, c3, eq_true c4, c5, p1, p2, p3, p4, p5, p6, p7, p8, p9, p10, p11, p12]
          refine callR (impl_isDirection.ctr A) ?_
          cases h
          try simp only [W, c1, c3, eq_true c4, c5, p1, p2, p3, p4, p5, p6, p7, p8, p9, p10, p11, p12]
        · cases h
          try simp only [W, c1, c3, eq_true c4, c5, p1, p2, p3, p4, p5, p6, p7, p8, p9, p10, p11, p12]
      · replace h := ifS h; rcases h with ⟨c5, h⟩ | ⟨c5, h⟩
        · replace h := ifT h; rcases h with ⟨c6, h⟩ | ⟨c6, h⟩
          · cases h
            try simp only [W, c1, c3, c4, eq_true c5, c6, p1, p2, p3, p4, p5, p6, p7, p8, p9, p10, p11, p12]
          · cases h
            try simp only [W, c1, c3, c4, eq_true c5, c6, p1, p2, p3, p4, p5, p6, p7, p8, p9, p10, p11, p12]
        · replace h := ifS h; rcases h with ⟨c6, h⟩ | ⟨c6, h⟩
          · replace h := ifS h; rcases h with ⟨c7, h⟩ | ⟨c7, h⟩
            · cases h
              try simp only [W, c1, c3, c4, c5, eq_true c6, eq_true c7, p1, p2, p3, p4, p5, p6, p7, p8, p9, p10, p11, p12]
            · cases h
              try simp only [W, c1, c3, c4, c5, eq_true c6, c7, p1, p2, p3, p4, p5, p6, p7, p8, p9, p10, p11, p12]
          · replace h := ifS h; rcases h with ⟨c7, h⟩ | ⟨c7, h⟩
            · replace h := ifS h; rcases h with ⟨c8, h⟩ | ⟨c8, h⟩
              · cases h
                try simp only [W, c1, c3, c4, c5, c6, eq_true c7, eq_true c8, p1, p2, p3, p4, p5, p6, p7, p8, p9, p10, p11, p12]
              · cases h
                try simp only [W, c1, c3, c4, c5, c6, eq_true c7, c8, p1, p2, p3, p4, p5, p6, p7, p8, p9, p10, p11, p12]
            · replace h := ifS h; rcases h with ⟨c8, h⟩ | ⟨c8, h⟩
              · replace h := ifS h; rcases h with ⟨c9, h⟩ | ⟨c9, h⟩
                · cases h
                  try simp only [W, c1, c3, c4, c5, c6, c7, eq_true c8, eq_true c9, p1, p2, p3, p4, p5, p6, p7, p8, p9, p10, p11, p12]
                · cases h
                  try simp only [W, c1, c3, c4, c5, c6, c7, eq_true c8, c9, p1, p2, p3, p4, p5, p6, p7, p8, p9, p10, p11, p12]
              · cases h
                try simp only [W, c1, c3, c4, c5, c6, c7, c8, p1, p2, p3, p4, p5, p6, p7, p8, p9, p10, p11, p12]
  · rcases k with _ | m2; · cases h
    rw [impl_ActOk.j0] at h
    replace h := ifS h; rcases h with ⟨c3, h⟩ | ⟨c3, h⟩
    · replace h := ifS h; rcases h with ⟨c4, h⟩ | ⟨c4, h⟩
      · replace h := ifS h; rcases h with ⟨c5, h⟩ | ⟨c5, h⟩
        · cases h
          try simp only [W, c1, eq_true c3, c4, c5, p1, p2, p3, p4, p5, p6, p7, p8, p9, p10, p11, p12]
        · cases h
          try simp only [W, c1, eq_true c3, c4, c5, p1, p2, p3, p4, p5, p6, p7, p8, p9, p10, p11, p12]
      · cases h
        try simp only [W, c1, eq_true c3, c4, p1, p2, p3, p4, p5, p6, p7, p8, p9, p10, p11, p12]
    · replace h := ifS h; rcases h with ⟨c4, h⟩ | ⟨c4, h⟩
      · rw [if_neg (by decide)] at h
        cases h
        try simp only [W, c1, c3, eq_true c4, p1, p2, p3, p4, p5, p6, p7, p8, p9, p10, p11, p12]
      · replace h := ifS h; rcases h with ⟨c5, h⟩ | ⟨c5, h⟩
        · rw [if_neg (by decide)] at h
          cases h
          try simp only [W, c1, c3, c4, eq_true c5, p1, p2, p3, p4, p5, p6, p7, p8, p9, p10, p11, p12]
        · replace h := ifS h; rcases h with ⟨c6, h⟩ | ⟨c6, h⟩
          · replace h := ifS h; rcases h with ⟨c7, h⟩ | ⟨c7, h⟩
            · cases h
              try simp only [W, c1, c3, c4, c5, eq_true c6, eq_true c7, p1, p2, p3, p4, p5, p6, p7, p8, p9, p10, p11, p12]
            · cases h
              try simp only [W, c1, c3, c4, c5, eq_true c6, c7, p1, p2, p3, p4, p5, p6, p7, p8, p9, p10, p11, p12]
          · replace h := ifS h; rcases h with ⟨c7, h⟩ | ⟨c7, h⟩
            · replace h := ifS h; rcases h with ⟨c8, h⟩ | ⟨c8, h⟩
              · cases h
                try simp only [W, c1, c3, c4, c5, c6, eq_true c7, eq_true c8, p1, p2, p3, p4, p5, p6, p7, p8, p9, p10, p11, p12]
              · cases h
                try simp only [W, c1, c3, c4, c5, c6, eq_true c7, c8, p1, p2, p3, p4, p5, p6, p7, p8, p9, p10, p11, p12]
            · replace h := ifS h; rcases h with ⟨c8, h⟩ | ⟨c8, h⟩
              · replace h := ifS h; rcases h with ⟨c9, h⟩ | ⟨c9, h⟩
                · cases h
                  try simp only [W, c1, c3, c4, c5, c6, c7, eq_true c8, eq_true c9, p1, p2, p3, p4, p5, p6, p7, p8, p9, p10, p11, p12]
                · cases h
                  try simp only [W, c1, c3, c4, c5, c6, c7, eq_true c8, c9, p1, p2, p3, p4, p5, p6, p7, p8, p9, p10, p11, p12]
              · cases h
                try simp only [W, c1, c3, c4, c5, c6, c7, c8, p1, p2, p3, p4, p5, p6, p7, p8, p9, p10, p11, p12]
set_option maxRecDepth 20000 in set_option maxHeartbeats 4000000 in open Nat renaming reduceAdd → p1, reduceSub → p2, reduceMul → p3, reduceDiv → p4, reduceBNe → p5, reduceBEq → p6, reduceEqDiff → p7, reduceLeDiff → p8, reduceLT → p9 in open Int renaming reduceLE → p10, reduceLT → p11, reduceEq → p12 in
theorem impl_wordOf.ctr {a0 : Int} {r1 : ByteArray} {r2 : Int} (h : impl_wordOf.f a0 = some (r1, r2)) : Ctr Tryd.prog 29 [.v (.int .i64 a0)] (.tu [.v (.string r1), .v (.int .i64 r2)]) := by
  refine Ctr_of tyOk hm Tryd.func29 rfl rfl (by kernel_rfl) (n := 14) (rv := [.tmp 2, .tmp 3]) rfl rfl ?_
  simp only [W, List.replicate]
  unfold impl_wordOf.f at h
  replace h := ifS h; rcases h with ⟨c1, h⟩ | ⟨c1, h⟩
  · cases h
    try simp only [W, eq_true c1, p1, p2, p3, p4, p5, p6, p7, p8, p9, p10, p11, p12]
  · replace h := ifS h; rcases h with ⟨c2, h⟩ | ⟨c2, h⟩
    · cases h
      try simp only [W, c1, eq_true c2, p1, p2, p3, p4, p5, p6, p7, p8, p9, p10, p11, p12]
    · replace h := ifS h; rcases h with ⟨c3, h⟩ | ⟨c3, h⟩
      · cases h
        try simp only [W, c1, c2, eq_true c3, p1, p2, p3, p4, p5, p6, p7, p8, p9, p10, p11, p12]
      · replace h := ifS h; rcases h with ⟨c4, h⟩ | ⟨c4, h⟩
        · cases h
          try simp only [W, c1, c2, c3, eq_true c4, p1, p2, p3, p4, p5, p6, p7, p8, p9, p10, p11, p12]
        · replace h := ifS h; rcases h with ⟨c5, h⟩ | ⟨c5, h⟩
          · cases h
            try simp only [W, c1, c2, c3, c4, eq_true c5, p1, p2, p3, p4, p5, p6, p7, p8, p9, p10, p11, p12]
          · cases h
            try simp only [W, c1, c2, c3, c4, c5, p1, p2, p3, p4, p5, p6, p7, p8, p9, p10, p11, p12]
end Go.Proofs.YtccjanhdnheclaaDoor.F
end

section
namespace Go.Proofs.YtccjanhdnheclaaDoor.F
open Go.RowKit Go.Proofs.YtccjanhdnheclaaDoorW.PrintWords Go.Proofs.YtccjanhdnheclaaDoorW.PrintLast Go.Proofs.YtccjanhdnheclaaDoorW.PrintMore
set_option linter.unusedVariables false
set_option linter.unusedSimpArgs false
attribute [local go_sem] max2_int min2_int max_two min_two
set_option maxRecDepth 20000 in set_option maxHeartbeats 4000000 in open Nat renaming reduceAdd → p1, reduceSub → p2, reduceMul → p3, reduceDiv → p4, reduceBNe → p5, reduceBEq → p6, reduceEqDiff → p7, reduceLeDiff → p8, reduceLT → p9 in open Int renaming reduceLE → p10, reduceLT → p11, reduceEq → p12 in
theorem impl_FormatAct.ctr {k : Nat} {a0_0 : Int} {a0_1 : Int} {a0_2 : Int} {r1 : ByteArray} {r2 : Bool} (h : impl_FormatAct.f k a0_0 a0_1 a0_2 = some (r1, r2)) : Ctr Tryd.prog 10 [.ag [.v (.int .i64 a0_0), .v (.int .i64 a0_1), .v (.int .i64 a0_2)]] (.tu [.v (.string r1), .v (.bool r2)]) := by
  refine Ctr_of tyOk hm Tryd.func10 rfl rfl (by kernel_rfl) (n := 35) (rv := [.tmp 2, .tmp 3]) rfl rfl ?_
  simp only [W, List.replicate]
  unfold impl_FormatAct.f at h
  replace h := bnd h; obtain ⟨t1, A, h⟩ := h
  try simp only [W, p1, p2, p3, p4, p5, p6, p7, p8, p9, p10, p11, p12]
  refine callR (impl_ActOk.ctr A) ?_
  replace h := ifT h; rcases h with ⟨rfl, h⟩ | ⟨rfl, h⟩
  · replace h := bnd h; obtain ⟨⟨t3_1, t3_2⟩, A, h⟩ := h
    dsimp only at h
    try simp only [W, p1, p2, p3, p4, p5, p6, p7, p8, p9, p10, p11, p12]
    refine callR (impl_wordOf.ctr A) ?_
    rw [Option.bind_some] at h
    replace h := ifN h; obtain ⟨c4, h⟩ := h
    replace h := ifN h; obtain ⟨c5, h⟩ := h
    try simp only [List.length_cons, List.length_nil, Nat.zero_add] at c5
    rw [Option.bind_some] at h
    try simp only [W, c4, c5, p1, p2, p3, p4, p5, p6, p7, p8, p9, p10, p11, p12]
    refine loopN (fun x : ByteArray × Int × Int × Int × Int × Int => [.u, .bp 16 0, .u, .u, .v (.string x.1), .u, .u, .u, .u, .u, .u, .u, .bp 16 0, .u, .u, .u, .u, .bp 16 1, .u, .bp 16 2, .u, .u, .u, .vw 336 1 0 t3_2.toNat, .v (.int .i64 x.2.1), .v (.int .i64 x.2.2.1), .u, .u, .u, .u, .u, .u, .u, .u, .u, .u]) (fun x => [(16, .box 26 [.v (.int .i64 x.2.2.2.1), .v (.int .i64 x.2.2.2.2.1), .v (.int .i64 x.2.2.2.2.2)]), (336, .row 3 1 [[Value.int IntKind.i64 a0_1], [Value.int IntKind.i64 a0_2]])]) (fun n x => impl_FormatAct.l0 n x.1 ((([a0_1, a0_2] : List Int) : List Int).take (t3_2 : Int).toNat : List Int) x.2.1 x.2.2.1 = some (r1, r2)) (t3_1, (((([a0_1, a0_2] : List Int) : List Int).take (t3_2 : Int).toNat : List Int).length : Int), 0, a0_0, a0_1, a0_2) [] h (by simp only [W, p1, p2, p3, p4, p5, p6, p7, p8, p9, p10, p11, p12] <;> trivial) (by simp only [W, p1, p2, p3, p4, p5, p6, p7, p8, p9, p10, p11, p12] <;> trivial) rfl (fun _ h => by cases h) ?_
    intro n1 ⟨x6, x7, x8, y9, y10, y11⟩ _ h
    simp only [impl_FormatAct.l0] at h
    replace h := ifS h; rcases h with ⟨c12, h⟩ | ⟨c12, h⟩
    · replace h := ifN h; obtain ⟨c13, h⟩ := h
      replace h := ifN h; obtain ⟨c14, h⟩ := h
      try simp only [List.length_cons, List.length_nil, Nat.zero_add] at c14
      replace h := bnd h; obtain ⟨t15, A, h⟩ := h
      try simp only [W, c12, c13, c14, p1, p2, p3, p4, p5, p6, p7, p8, p9, p10, p11, p12]
      first | refine callR (impl_FormatInt.ctr A) ?_ | refine callRE (impl_FormatInt.ctr A) (by first | (simp only [List.map_take, List.map_drop, List.map_append]; rfl) | (rw [rd_take (by assumption) (by assumption)]; rfl)) ?_
      replace h := ifN h; obtain ⟨c16, h⟩ := h
      replace h := ifN h; obtain ⟨c17, h⟩ := h
      try simp only [W, c12, c13, c14, c16, c17, p1, p2, p3, p4, p5, p6, p7, p8, p9, p10, p11, p12]
      exact nextN ((x6 ++ ((⟨#[32]⟩ : ByteArray) ++ t15)), x7, (wrap64 (x8 + 1)), y9, y10, y11) [] n1 (by omega) h (by simp only [W, p1, p2, p3, p4, p5, p6, p7, p8, p9, p10, p11, p12] <;> trivial) (by simp only [W, p1, p2, p3, p4, p5, p6, p7, p8, p9, p10, p11, p12] <;> trivial) rfl
    · cases h
      try simp only [W, c12, p1, p2, p3, p4, p5, p6, p7, p8, p9, p10, p11, p12]
  · cases h
    try simp only [W, p1, p2, p3, p4, p5, p6, p7, p8, p9, p10, p11, p12]
end Go.Proofs.YtccjanhdnheclaaDoor.F
end

section
namespace Go.Proofs.YtccjanhdnheclaaDoor.F
open Go.RowKit Go.Proofs.YtccjanhdnheclaaDoorW.PrintWords Go.Proofs.YtccjanhdnheclaaDoorW.PrintLast Go.Proofs.YtccjanhdnheclaaDoorW.PrintMore
set_option linter.unusedVariables false
set_option linter.unusedSimpArgs false
attribute [local go_sem] max2_int min2_int max_two min_two
set_option maxRecDepth 20000 in set_option maxHeartbeats 4000000 in open Nat renaming reduceAdd → p1, reduceSub → p2, reduceMul → p3, reduceDiv → p4, reduceBNe → p5, reduceBEq → p6, reduceEqDiff → p7, reduceLeDiff → p8, reduceLT → p9 in open Int renaming reduceLE → p10, reduceLT → p11, reduceEq → p12 in
theorem spec_ActOk.ctr {k : Nat} {a0_0 : Int} {a0_1 : Int} {a0_2 : Int} {r : Bool} (h : spec_ActOk.f k a0_0 a0_1 a0_2 = some r) : Ctr Tryd.prog 26 [.ag [.v (.int .i64 a0_0), .v (.int .i64 a0_1), .v (.int .i64 a0_2)]] (.v (.bool r)) := by
  refine Ctr_of tyOk hm Tryd.func26 rfl rfl (by kernel_rfl) (n := 46) (rv := [.tmp 2]) rfl rfl ?_
  simp only [W, List.replicate]
  unfold spec_ActOk.f at h
  replace h := ifS h; rcases h with ⟨c1, h⟩ | ⟨c1, h⟩
  · rcases k with _ | m2; · cases h
    rw [spec_ActOk.j0] at h
    rw [if_pos (beq_iff_eq.2 c1)] at h
    replace h := ifS h; rcases h with ⟨c3, h⟩ | ⟨c3, h⟩
    · cases h
      try simp only [W, eq_true c1, eq_true c3, p1, p2, p3, p4, p5, p6, p7, p8, p9, p10, p11, p12]
    · cases h
      try simp only [W, eq_true c1, c3, p1, p2, p3, p4, p5, p6, p7, p8, p9, p10, p11, p12]
  · replace h := ifS h; rcases h with ⟨c2, h⟩ | ⟨c2, h⟩
    · rcases k with _ | m3; · cases h
      rw [spec_ActOk.j0] at h
      rw [if_pos (beq_iff_eq.2 c2)] at h
      replace h := ifS h; rcases h with ⟨c4, h⟩ | ⟨c4, h⟩
      · cases h
        try simp only [W, c1, eq_true c2, eq_true c4, p1, p2, p3, p4, p5, p6, p7, p8, p9, p10, p11, p12]
      · cases h
        try simp only [W, c1, eq_true c2, c4, p1, p2, p3, p4, p5, p6, p7, p8, p9, p10, p11, p12]
    · rcases k with _ | m3; · cases h
      rw [spec_ActOk.j0] at h
      replace h := ifT h; rcases h with ⟨c4, h⟩ | ⟨c4, h⟩ <;> try simp only [bEq] at c4
      · replace h := ifS h; rcases h with ⟨c5, h⟩ | ⟨c5, h⟩
        · cases h
          try simp only [W, c1, c2, c4, eq_true c5, p1, p2, p3, p4, p5, p6, p7, p8, p9, p10, p11, p12]
        · cases h
          try simp only [W, c1, c2, c4, c5, p1, p2, p3, p4, p5, p6, p7, p8, p9, p10, p11, p12]
      · replace h := ifS h; rcases h with ⟨c5, h⟩ | ⟨c5, h⟩
        · replace h := bnd h; obtain ⟨t6, A, h⟩ := h
          try simp only [W, c1, c2, c4, eq_true c5, p1, p2, p3, p4, p5, p6, p7, p8, p9, p10, p11, p12]
          refine callR (spec_l01In.ctr A) ?_
          replace h := ifT h; rcases h with ⟨rfl, h⟩ | ⟨rfl, h⟩
          · cases h
            try simp only [W, c1, c2, c4, eq_true c5, p1, p2, p3, p4, p5, p6, p7, p8, p9, p10, p11, p12]
          · cases h
            try simp only [W, c1, c2, c4, eq_true c5, p1, p2, p3, p4, p5, p6, p7, p8, p9, p10, p11, p12]
        · replace h := ifS h; rcases h with ⟨c6, h⟩ | ⟨c6, h⟩
          · replace h := bnd h; obtain ⟨t7, A, h⟩ := h
            try simp only [W, c1, c2, c4, c5, eq_true c6, p1, p2, p3, p4, p5, p6, p7, p8, p9, p10, p11, p12]
            refine callR (spec_l01In.ctr A) ?_
            replace h := ifT h; rcases h with ⟨rfl, h⟩ | ⟨rfl, h⟩
            · replace h := bnd h; obtain ⟨t9, A, h⟩ := h
              try simp only [W, c1, c2, c4, c5, eq_true c6, p1, p2, p3, p4, p5, p6, p7, p8, p9, p10, p11, p12]
              refine callR (spec_l01In.ctr A) ?_
              cases h
              try simp only [W, c1, c2, c4, c5, eq_true c6, p1, p2, p3, p4, p5, p6, p7, p8, p9, p10, p11, p12]
            · cases h
              try simp only [W, c1, c2, c4, c5, eq_true c6, p1, p2, p3, p4, p5, p6, p7, p8, p9, p10, p11, p12]
          · replace h := ifS h; rcases h with ⟨c7, h⟩ | ⟨c7, h⟩
            · replace h := bnd h; obtain ⟨t8, A, h⟩ := h
              try simp only [W, c1, c2, c4, c5, c6, eq_true c7, p1, p2, p3, p4, p5, p6, p7, p8, p9, p10, p11, p12]
              refine callR (spec_l01In.ctr A) ?_
              replace h := ifT h; rcases h with ⟨rfl, h⟩ | ⟨rfl, h⟩
              · cases h
                try simp only [W, c1, c2, c4, c5, c6, eq_true c7, p1, p2, p3, p4, p5, p6, p7, p8, p9, p10, p11, p12]
              · cases h
                try simp only [W, c1, c2, c4, c5, c6, eq_true c7, p1, p2, p3, p4, p5, p6, p7, p8, p9, p10, p11, p12]
            · cases h
              try simp only [W, c1, c2, c4, c5, c6, c7, p1, p2, p3, p4, p5, p6, p7, p8, p9, p10, p11, p12]
set_option maxHeartbeats 8000000 in
set_option maxRecDepth 100000 in
theorem spec_l01Figure.calls (a0 : Int) (r : Int) (w : World) (h : spec_l01Figure.f a0 = some r) :
    Calls Tryd.prog 48 #[.int .i64 a0] w fun e w' => e = .returned (.int .u8 r) ∧ Drawn0 w w' := by
  have H : (if a0 < 10 then (some ((wrap64 (48 + a0)) % 256)) else (some ((wrap64 ((wrap64 (97 + a0)) - 10)) % 256))) = some r := h
  clear h
  by_cases c2 : a0 < 10
  · rw [if_pos c2] at H
    have c2b0 : decide (a0 < 10) = true := decide_eq_true c2
    clear c2
    obtain rfl := Option.some.inj H
    go_enter Tryd.func48, Tryd.ntmps48
    go_wp2
    go_ret
    exact ⟨by first | rfl | (simp; done) | (simp [*]; done), by repeat (first | exact Drawn0.refl _ | apply Drawn0.step)⟩
  · rw [if_neg c2] at H
    have c2b0 : decide (a0 < 10) = false := decide_eq_false c2
    clear c2
    obtain rfl := Option.some.inj H
    go_enter Tryd.func48, Tryd.ntmps48
    go_wp2
    go_ret
    exact ⟨by first | rfl | (simp; done) | (simp [*]; done), by repeat (first | exact Drawn0.refl _ | apply Drawn0.step)⟩
set_option maxHeartbeats 8000000 in
set_option maxRecDepth 100000 in
theorem spec_FormatInt.calls (k : Nat) (a0 : Int) (r : ByteArray) (w : World) (h : spec_FormatInt.f k a0 = some r) :
    Calls Tryd.prog 27 #[.int .i64 a0] w fun e w' => e = .returned (.string r) ∧ Below w.heap.size w w' := by
  have HB := Aside0.mk (Below.refl w.heap.size w)
  have h0 : (if 0 ≤ a0 then (if a0 = 0 then (some (⟨#[48]⟩ : ByteArray)) else (spec_FormatInt.l0 k a0 false (⟨#[]⟩ : ByteArray))) else none) = some r := h
  clear h
  obtain ⟨hn, h⟩ : 0 ≤ a0 ∧ (if a0 = 0 then (some (⟨#[48]⟩ : ByteArray)) else (spec_FormatInt.l0 k a0 false (⟨#[]⟩ : ByteArray))) = some r := by
    split at h0
    · rename_i q; exact ⟨q, h0⟩
    · cases h0
  clear h0
  have d0b0 : decide (a0 < 0) = false := decide_eq_false (by omega)
  clear hn
  have H : (if a0 = 0 then (some (⟨#[48]⟩ : ByteArray)) else (spec_FormatInt.l0 k a0 false (⟨#[]⟩ : ByteArray))) = some r := h
  clear h
  by_cases c2 : a0 = 0
  · rw [if_pos c2] at H
    have c2b0 : (a0 == 0) = true := beq_iff_eq.mpr c2
    have c2b1 : (a0 != 0) = false := bne_eq_false_iff_eq.mpr c2
    clear c2
    obtain rfl := Option.some.inj H
    go_enter Tryd.func27, Tryd.ntmps27
    go_wp2
    go_ret
    exact ⟨by first | rfl | (simp [errW_none, errW_some] <;> rfl) | (simp [*, errW_none, errW_some] <;> rfl), by repeat (first | (with_reducible first | exact HB.out | apply below_alloc | apply pw_below_drewN | apply below_drew1) | exact HB.out)⟩
  · rw [if_neg c2] at H
    have c2b0 : (a0 == 0) = false := beq_eq_false_iff_ne.mpr c2
    have c2b1 : (a0 != 0) = true := bne_iff_ne.mpr c2
    have H' := Aside0.mk H
    clear H
    go_enter Tryd.func27, Tryd.ntmps27
    go_wp2
    go_loopg [0, 4] k (fun kq v0 v4 w' => ∃ (x0_1 : Int) (x4_1 : ByteArray), v0 = .int .i64 x0_1 ∧ v4 = .string x4_1 ∧ Aside0 (spec_FormatInt.l0 kq x0_1 false x4_1 = some r) ∧ Aside0 (kq ≤ k) ∧ Aside0 (Below w.heap.size w w'))
    case atStart => exact ⟨(a0), ((⟨#[]⟩ : ByteArray)), (by first | rfl | (simp; done) | (simp [*]; done)), (by first | rfl | (simp; done) | (simp [*]; done)), H', ⟨Nat.le_refl _⟩, ⟨by repeat (first | (with_reducible first | exact HB.out | apply below_alloc | apply pw_below_drewN | apply below_drew1) | exact HB.out)⟩⟩
    case round =>
      clear H'
      try clear c2
      try clear c2b0
      try clear c2b1
      try clear p2
      obtain ⟨x0_1, x4_1, rfl, rfl, HA, HK1, HB⟩ := hrel
      cases gk with
      | zero => exact absurd HA.out (by simp [spec_FormatInt.l0])
      | succ k1 =>
        have H := HA.out
        clear HA
        simp only [spec_FormatInt.l0] at H
        by_cases c3 : x0_1 = 0
        · rw [if_pos c3] at H
          have c3b0 : (x0_1 == 0) = true := beq_iff_eq.mpr c3
          have c3b1 : (x0_1 != 0) = false := bne_eq_false_iff_eq.mpr c3
          clear c3
          by_cases c4 : false = true
          · exact absurd c4 Bool.false_ne_true
          · rw [if_neg c4] at H
            have c4b0 : false = false := rfl
            clear c4
            obtain rfl := Option.some.inj H
            go_wp2
            go_ret
            exact ⟨by first | rfl | (simp [errW_none, errW_some] <;> rfl) | (simp [*, errW_none, errW_some] <;> rfl), by repeat (first | (with_reducible first | exact HB.out | apply below_alloc | apply pw_below_drewN | apply below_drew1) | exact HB.out)⟩
        · rw [if_neg c3] at H
          have c3b0 : (x0_1 == 0) = false := beq_eq_false_iff_ne.mpr c3
          have c3b1 : (x0_1 != 0) = true := bne_iff_ne.mpr c3
          by_cases c6 : (Int.tmod x0_1 10) < 0
          · rw [if_pos c6] at H
            have c6b0 : decide ((Int.tmod x0_1 10) < 0) = true := decide_eq_true c6
            clear c6
            replace H := Option.bind_eq_some_iff.mp H
            obtain ⟨t106, A70, H⟩ := H
            replace H : ((some (([t106] : List Int) : List Int)).bind fun y107 => (if (strOfNums y107).size + x4_1.size ≤ 9223372036854775807 then (spec_FormatInt.l0 k1 (wrap64 (Int.tdiv x0_1 10)) false ((strOfNums y107) ++ x4_1)) else (none))) = some r := H
            have A7 := Aside0.mk A70
            clear A70
            obtain ⟨y107, hy107⟩ : ∃ y_ : List Int, y_ = (([t106] : List Int)) := ⟨_, rfl⟩
            replace H : (if (strOfNums y107).size + x4_1.size ≤ 9223372036854775807 then (spec_FormatInt.l0 k1 (wrap64 (Int.tdiv x0_1 10)) false ((strOfNums y107) ++ x4_1)) else (none)) = some r := by first | (rw [hy107]; with_reducible exact H) | (have H2_ := (Option.bind_some _ _).symm.trans H; rw [hy107]; with_reducible exact H2_) | (have H2_ := (Option.bind_some _ _).symm.trans H; with_reducible exact H2_) | with_reducible exact H | (rw [hy107]; exact H) | exact H
            have Ny107 := Aside0.mk hy107
            clear hy107
            by_cases c8 : (strOfNums y107).size + x4_1.size ≤ 9223372036854775807
            · rw [if_pos c8] at H
              have c8b0 := eq_true c8
              have c8b1 : decide ((strOfNums y107).size + x4_1.size ≤ 9223372036854775807) = true := decide_eq_true c8
              try have c8b2 : (9223372036854775807 < (strOfNums y107).size + x4_1.size) = False := eq_false (Nat.not_lt.2 c8)
              have H' := Aside0.mk H
              clear H
              go_wp2_with (first | ((with_reducible refine gate_callee (f := 48) rfl ?_); refine goesL_ (some 19) rfl rfl Tryd.func48 (by kernel_rfl) rfl #[.int .i64 (wrap64 (-(Int.tmod x0_1 10)))] rfl (by (try simp only [List.map_toArray, List.map_cons, List.map_nil]); first | done | rfl | (simp only [List.length_drop, List.length_take]; rfl)) ?_; (with_reducible refine (spec_l01Figure.calls (wrap64 (-(Int.tmod x0_1 10))) t106 _ A7.out).mono ?_); rintro e w' ⟨rfl, ⟨nd, rfl⟩⟩; refine ⟨_, rfl, ?_⟩) | ((with_reducible refine gate_dst (N := 20) rfl ?_); refine Kd.R_lit (Kd.int .u8) _ 5 ?hg (N := 20) ?hd (xs := ([t106] : List Int)) (inner := [.int .u8 t106]) (ok := fun _ => True) (okp := fun _ => True) ?hr ?hp (fun _ hk => hk) trivial (Below.refl _ _) (Nat.le_refl _) (by simp) ?_; (case hd => rfl); (case hg => rfl); (case hr => first | (go_simp; done) | (go_simp; rfl)); (case hp => exact (Reps.one (show Kd.M (Kd.int .u8) _ _ _ t106 [.int .u8 t106] from rfl) (Reps.none _ _))); intro v108 w9 ho10 hb hg_ hnew_; clear hg_ hnew_; (first | rw [← Ny107.out] at ho10 | (simp only [Int.reduceToNat] at ho10; rw [← Ny107.out] at ho10)); have n0_ := Aside0.mk (Kd.R_lower ho10 (below_size (by repeat (first | (with_reducible first | exact HB.out | apply below_alloc | apply pw_below_drewN | apply below_drew1) | exact HB.out)))); have n1_ := Aside0.mk (below_step (by repeat (first | (with_reducible first | exact HB.out | apply below_alloc | apply pw_below_drewN | apply below_drew1) | exact HB.out)) hb); clear HB; have HO109 := n0_; have HB := n1_; clear n0_ n1_; clear hb ho10; have hcv11 := own_string (P := Tryd.prog) Tryd.underlying40 Tryd.underlying5 Tryd.underlying9 (Kd.own_of_R HO109.out)))
              go_roundg k1
              case measure => have := HK1.out; omega
              case rel => exact ⟨(wrap64 (Int.tdiv x0_1 10)), ((strOfNums y107) ++ x4_1), (by first | rfl | (simp; done) | (simp [*]; done)), (by first | rfl | (simp; done) | (simp [*]; done)), H', ⟨by have := HK1.out; omega⟩, ⟨by repeat (first | (with_reducible first | exact HB.out | apply below_alloc | apply pw_below_drewN | apply below_drew1) | exact HB.out)⟩⟩
            · rw [if_neg c8] at H
              exact absurd H (by simp)
          · rw [if_neg c6] at H
            have c6b0 : decide ((Int.tmod x0_1 10) < 0) = false := decide_eq_false c6
            clear c6
            replace H := Option.bind_eq_some_iff.mp H
            obtain ⟨t110, A120, H⟩ := H
            replace H : ((some (([t110] : List Int) : List Int)).bind fun y111 => (if (strOfNums y111).size + x4_1.size ≤ 9223372036854775807 then (spec_FormatInt.l0 k1 (wrap64 (Int.tdiv x0_1 10)) false ((strOfNums y111) ++ x4_1)) else (none))) = some r := H
            have A12 := Aside0.mk A120
            clear A120
            obtain ⟨y111, hy111⟩ : ∃ y_ : List Int, y_ = (([t110] : List Int)) := ⟨_, rfl⟩
            replace H : (if (strOfNums y111).size + x4_1.size ≤ 9223372036854775807 then (spec_FormatInt.l0 k1 (wrap64 (Int.tdiv x0_1 10)) false ((strOfNums y111) ++ x4_1)) else (none)) = some r := by first | (rw [hy111]; with_reducible exact H) | (have H2_ := (Option.bind_some _ _).symm.trans H; rw [hy111]; with_reducible exact H2_) | (have H2_ := (Option.bind_some _ _).symm.trans H; with_reducible exact H2_) | with_reducible exact H | (rw [hy111]; exact H) | exact H
            have Ny111 := Aside0.mk hy111
            clear hy111
            by_cases c13 : (strOfNums y111).size + x4_1.size ≤ 9223372036854775807
            · rw [if_pos c13] at H
              have c13b0 := eq_true c13
              have c13b1 : decide ((strOfNums y111).size + x4_1.size ≤ 9223372036854775807) = true := decide_eq_true c13
              try have c13b2 : (9223372036854775807 < (strOfNums y111).size + x4_1.size) = False := eq_false (Nat.not_lt.2 c13)
              have H' := Aside0.mk H
              clear H
              go_wp2_with (first | ((with_reducible refine gate_callee (f := 48) rfl ?_); refine goesL_ (some 19) rfl rfl Tryd.func48 (by kernel_rfl) rfl #[.int .i64 (Int.tmod x0_1 10)] rfl (by (try simp only [List.map_toArray, List.map_cons, List.map_nil]); first | done | rfl | (simp only [List.length_drop, List.length_take]; rfl)) ?_; (with_reducible refine (spec_l01Figure.calls (Int.tmod x0_1 10) t110 _ A12.out).mono ?_); rintro e w' ⟨rfl, ⟨nd, rfl⟩⟩; refine ⟨_, rfl, ?_⟩) | ((with_reducible refine gate_dst (N := 20) rfl ?_); refine Kd.R_lit (Kd.int .u8) _ 5 ?hg (N := 20) ?hd (xs := ([t110] : List Int)) (inner := [.int .u8 t110]) (ok := fun _ => True) (okp := fun _ => True) ?hr ?hp (fun _ hk => hk) trivial (Below.refl _ _) (Nat.le_refl _) (by simp) ?_; (case hd => rfl); (case hg => rfl); (case hr => first | (go_simp; done) | (go_simp; rfl)); (case hp => exact (Reps.one (show Kd.M (Kd.int .u8) _ _ _ t110 [.int .u8 t110] from rfl) (Reps.none _ _))); intro v112 w14 ho15 hb hg_ hnew_; clear hg_ hnew_; (first | rw [← Ny111.out] at ho15 | (simp only [Int.reduceToNat] at ho15; rw [← Ny111.out] at ho15)); have n0_ := Aside0.mk (Kd.R_lower ho15 (below_size (by repeat (first | (with_reducible first | exact HB.out | apply below_alloc | apply pw_below_drewN | apply below_drew1) | exact HB.out)))); have n1_ := Aside0.mk (below_step (by repeat (first | (with_reducible first | exact HB.out | apply below_alloc | apply pw_below_drewN | apply below_drew1) | exact HB.out)) hb); clear HB; have HO113 := n0_; have HB := n1_; clear n0_ n1_; clear hb ho15; have hcv16 := own_string (P := Tryd.prog) Tryd.underlying40 Tryd.underlying5 Tryd.underlying9 (Kd.own_of_R HO113.out)))
              go_roundg k1
              case measure => have := HK1.out; omega
              case rel => exact ⟨(wrap64 (Int.tdiv x0_1 10)), ((strOfNums y111) ++ x4_1), (by first | rfl | (simp; done) | (simp [*]; done)), (by first | rfl | (simp; done) | (simp [*]; done)), H', ⟨by have := HK1.out; omega⟩, ⟨by repeat (first | (with_reducible first | exact HB.out | apply below_alloc | apply pw_below_drewN | apply below_drew1) | exact HB.out)⟩⟩
            · rw [if_neg c13] at H
              exact absurd H (by simp)
theorem spec_FormatInt.ctr {k : Nat} {a0 : Int} {r : ByteArray} (h : spec_FormatInt.f k a0 = some r) : Ctr Tryd.prog 27 [.v (.int .i64 a0)] (.v (.string r)) := by
  refine ⟨enters_of Tryd.func27 rfl rfl, fun w ys hys => ?_⟩
  simp only [RepL, Rep] at hys
  obtain ⟨_, _, rfl, rfl, rfl⟩ := hys
  refine (spec_FormatInt.calls _ _ _ w h).mono ?_
  rintro _ _ ⟨rfl, hb⟩
  exact ⟨_, [], rfl, (by first | (simp [RepR, RepRL]; done) | exact repR_vlu _ _ _ rfl), List.nodup_nil, (by first | exact hb | exact hb.below)⟩
set_option maxRecDepth 20000 in set_option maxHeartbeats 4000000 in open Nat renaming reduceAdd → p1, reduceSub → p2, reduceMul → p3, reduceDiv → p4, reduceBNe → p5, reduceBEq → p6, reduceEqDiff → p7, reduceLeDiff → p8, reduceLT → p9 in open Int renaming reduceLE → p10, reduceLT → p11, reduceEq → p12 in
theorem spec_FormatAct.ctr {k : Nat} {a0_0 : Int} {a0_1 : Int} {a0_2 : Int} {r1 : ByteArray} {r2 : Bool} (h : spec_FormatAct.f k a0_0 a0_1 a0_2 = some (r1, r2)) : Ctr Tryd.prog 8 [.ag [.v (.int .i64 a0_0), .v (.int .i64 a0_1), .v (.int .i64 a0_2)]] (.tu [.v (.string r1), .v (.bool r2)]) := by
  refine Ctr_of tyOk hm Tryd.func8 rfl rfl (by kernel_rfl) (n := 39) (rv := [.tmp 2, .tmp 3]) rfl rfl ?_
  simp only [W, List.replicate]
  unfold spec_FormatAct.f at h
  replace h := bnd h; obtain ⟨t1, A, h⟩ := h
  try simp only [W, p1, p2, p3, p4, p5, p6, p7, p8, p9, p10, p11, p12]
  refine callR (spec_ActOk.ctr A) ?_
  replace h := ifT h; rcases h with ⟨rfl, h⟩ | ⟨rfl, h⟩
  · rw [Option.bind_some] at h
    replace h := ifN h; obtain ⟨c3, h⟩ := h
    replace h := ifN h; obtain ⟨c4, h⟩ := h
    try simp only [List.length_nil] at c4
    rw [Option.bind_some] at h
    replace h := ifN h; obtain ⟨c5, h⟩ := h
    try simp only [List.length_cons, List.length_nil, Nat.zero_add] at c5
    try simp only [W, c3, c4, c5, p1, p2, p3, p4, p5, p6, p7, p8, p9, p10, p11, p12]
    refine loopN (fun x : ByteArray × Int × List Int × Int × Int × Int × Int => [.u, .bp 16 0, .u, .u, .v (.string x.1), .v (.int .i64 x.2.1), .lo 400, .v (.int .i64 x.2.2.2.1), .u, .u, .u, .u, .bp 16 0, .u, .u, .u, .u, .bp 16 0, .u, .u, .u, .bp 16 1, .u, .bp 16 2, .u, .u, .u, .u, .u, .u, .u, .u, .u, .u, .u, .u, .u, .u, .u, .u]) (fun x => [(16, .box 26 [.v (.int .i64 x.2.2.2.2.1), .v (.int .i64 x.2.2.2.2.2.1), .v (.int .i64 x.2.2.2.2.2.2)]), (400, .row 3 1 (List.map eI x.2.2.1))]) (fun n x => spec_FormatAct.l0 n x.1 x.2.1 x.2.2.1 x.2.2.2.1 = some (r1, r2)) ((rdOf ByteArray.empty (([(⟨#[]⟩ : ByteArray), (⟨#[100, 97, 121]⟩ : ByteArray), (⟨#[101, 110, 116, 101, 114]⟩ : ByteArray), (⟨#[119, 97, 108, 107]⟩ : ByteArray), (⟨#[108, 101, 97, 118, 101]⟩ : ByteArray), (⟨#[103, 117, 105, 100, 101]⟩ : ByteArray), (⟨#[102, 97, 114]⟩ : ByteArray)] : List ByteArray) : List ByteArray) a0_0), (rd (([0, 1, 0, 2, 0, 1, 0] : List Int) : List Int) a0_0), (([a0_1, a0_2] : List Int)), 0, a0_0, a0_1, a0_2) [] h (by simp only [W, p1, p2, p3, p4, p5, p6, p7, p8, p9, p10, p11, p12] <;> trivial) (by simp only [W, p1, p2, p3, p4, p5, p6, p7, p8, p9, p10, p11, p12] <;> trivial) rfl (fun _ h => by cases h) ?_
    intro n1 ⟨x6, x7, x8, x9, y10, y11, y12⟩ _ h
    simp only [spec_FormatAct.l0] at h
    replace h := ifS h; rcases h with ⟨c13, h⟩ | ⟨c13, h⟩
    · replace h := ifN h; obtain ⟨c14, h⟩ := h
      replace h := ifN h; obtain ⟨c15, h⟩ := h
      replace h := ifN h; obtain ⟨c16, h⟩ := h
      replace h := bnd h; obtain ⟨t17, A, h⟩ := h
      try simp only [W, c13, c14, c15, c16, p1, p2, p3, p4, p5, p6, p7, p8, p9, p10, p11, p12]
      refine callR (spec_FormatInt.ctr A) ?_
      replace h := ifN h; obtain ⟨c18, h⟩ := h
      try simp only [W, c13, c14, c15, c16, c18, p1, p2, p3, p4, p5, p6, p7, p8, p9, p10, p11, p12]
      exact nextN (((x6 ++ (⟨#[32]⟩ : ByteArray)) ++ t17), x7, x8, (wrap64 (x9 + 1)), y10, y11, y12) [] n1 (by omega) h (by simp only [W, p1, p2, p3, p4, p5, p6, p7, p8, p9, p10, p11, p12] <;> trivial) (by simp only [W, p1, p2, p3, p4, p5, p6, p7, p8, p9, p10, p11, p12] <;> trivial) rfl
    · cases h
      try simp only [W, c13, p1, p2, p3, p4, p5, p6, p7, p8, p9, p10, p11, p12]
  · cases h
    try simp only [W, p1, p2, p3, p4, p5, p6, p7, p8, p9, p10, p11, p12]
end Go.Proofs.YtccjanhdnheclaaDoor.F
end

section
namespace Go.Proofs.YtccjanhdnheclaaDoor.F
open Go.RowKit Go.Proofs.YtccjanhdnheclaaDoorW.PrintWords Go.Proofs.YtccjanhdnheclaaDoorW.PrintLast Go.Proofs.YtccjanhdnheclaaDoorW.PrintMore
set_option linter.unusedVariables false
set_option linter.unusedSimpArgs false
def laws_FnExactFormatAct.f (k : Nat) (a0_0 : Int) (a0_1 : Int) (a0_2 : Int) : Option (Bool) := (laws_toAct.f a0_0 a0_1 a0_2).bind fun bt160 => ((spec_FormatAct.f k bt160.1 bt160.2.1 bt160.2.2).bind fun bt163 => ((laws_toAct.f a0_0 a0_1 a0_2).bind fun bt165 => ((impl_FormatAct.f k bt165.1 bt165.2.1 bt165.2.2).bind fun bt168 => (if bt168.1.toList = bt163.1.toList then (if (bt168.2 != bt163.2) = true then (some false) else (some true)) else (some false)))))
end Go.Proofs.YtccjanhdnheclaaDoor.F
end

section
namespace Go.Proofs.YtccjanhdnheclaaDoor.F
open Go.RowKit Go.Proofs.YtccjanhdnheclaaDoorW.PrintWords Go.Proofs.YtccjanhdnheclaaDoorW.PrintLast Go.Proofs.YtccjanhdnheclaaDoorW.PrintMore
set_option linter.unusedVariables false
set_option linter.unusedSimpArgs false
attribute [local go_sem] max2_int min2_int max_two min_two
set_option maxRecDepth 20000 in set_option maxHeartbeats 4000000 in open Nat renaming reduceAdd → p1, reduceSub → p2, reduceMul → p3, reduceDiv → p4, reduceBNe → p5, reduceBEq → p6, reduceEqDiff → p7, reduceLeDiff → p8, reduceLT → p9 in open Int renaming reduceLE → p10, reduceLT → p11, reduceEq → p12 in
theorem laws_FnExactFormatAct.ctr {k : Nat} {a0_0 : Int} {a0_1 : Int} {a0_2 : Int} {r : Bool} (h : laws_FnExactFormatAct.f k a0_0 a0_1 a0_2 = some r) : Ctr Tryd.prog 3 [.ag [.v (.int .i64 a0_0), .v (.int .i64 a0_1), .v (.int .i64 a0_2)]] (.v (.bool r)) := by
  refine Ctr_of tyOk hm Tryd.func3 rfl rfl (by kernel_rfl) (n := 26) (rv := [.tmp 2]) rfl rfl ?_
  simp only [W, List.replicate]
  unfold laws_FnExactFormatAct.f at h
  replace h := bnd h; obtain ⟨⟨t1_1, t1_2, t1_3⟩, A, h⟩ := h
  dsimp only at h
  try simp only [W, p1, p2, p3, p4, p5, p6, p7, p8, p9, p10, p11, p12]
  refine callR (laws_toAct.ctr A) ?_
  replace h := bnd h; obtain ⟨⟨t2_1, t2_2⟩, A, h⟩ := h
  dsimp only at h
  try simp only [W, p1, p2, p3, p4, p5, p6, p7, p8, p9, p10, p11, p12]
  refine callR (spec_FormatAct.ctr A) ?_
  replace h := bnd h; obtain ⟨⟨t3_1, t3_2, t3_3⟩, A, h⟩ := h
  dsimp only at h
  try simp only [W, p1, p2, p3, p4, p5, p6, p7, p8, p9, p10, p11, p12]
  refine callR (laws_toAct.ctr A) ?_
  replace h := bnd h; obtain ⟨⟨t4_1, t4_2⟩, A, h⟩ := h
  dsimp only at h
  try simp only [W, p1, p2, p3, p4, p5, p6, p7, p8, p9, p10, p11, p12]
  refine callR (impl_FormatAct.ctr A) ?_
  replace h := ifS h; rcases h with ⟨c5, h⟩ | ⟨c5, h⟩
  · replace h := ifT h; rcases h with ⟨c6, h⟩ | ⟨c6, h⟩ <;> try simp only [bEq] at c6
    · cases h
      try simp only [W, eq_true c5, c6, p1, p2, p3, p4, p5, p6, p7, p8, p9, p10, p11, p12]
    · cases h
      try simp only [W, eq_true c5, c6, p1, p2, p3, p4, p5, p6, p7, p8, p9, p10, p11, p12]
  · cases h
    try simp only [W, c5, p1, p2, p3, p4, p5, p6, p7, p8, p9, p10, p11, p12]
theorem laws_FnExactFormatAct.calls (k : Nat) (a0_0 : Int) (a0_1 : Int) (a0_2 : Int) (w : World) (h : laws_FnExactFormatAct.f k a0_0 a0_1 a0_2 = some true) :
    Calls Tryd.prog 3 #[.agg #[.int .i64 a0_0, .int .i64 a0_1, .int .i64 a0_2]] w fun e w' => e = .returned (.bool true) ∧ Below w.heap.size w w' := by
  refine ((laws_FnExactFormatAct.ctr h).2 w [.agg #[.int .i64 a0_0, .int .i64 a0_1, .int .i64 a0_2]] (by simp only [RepL, Rep]; exact ⟨_, _, rfl, ⟨_, rfl, _, _, rfl, rfl, _, _, rfl, rfl, _, _, rfl, rfl, rfl⟩, rfl⟩)).mono ?_
  rintro _ _ ⟨y, L, rfl, hR, _, hb⟩
  exact ⟨congrArg Ending.returned (RepR_pln rfl hR).1, hb⟩
end Go.Proofs.YtccjanhdnheclaaDoor.F
end

section
namespace Go.Proofs.YtccjanhdnheclaaDoor.F
open Go.RowKit Go.Proofs.YtccjanhdnheclaaDoorW.PrintWords Go.Proofs.YtccjanhdnheclaaDoorW.PrintLast Go.Proofs.YtccjanhdnheclaaDoorW.PrintMore
set_option linter.unusedVariables false
set_option linter.unusedSimpArgs false
def aok (t a b : Int) : Bool :=
  if t = 1 then decide (1 ≤ a ∧ a ≤ 20 ∧ b = 0) else if t = 3 then decide (0 ≤ a ∧ a ≤ 5 ∧ 0 ≤ b ∧ b ≤ 3) else if t = 5 then decide (0 ≤ a ∧ a ≤ 5 ∧ b = 0) else if t = 2 ∨ t = 4 ∨ t = 6 then decide (a = 0 ∧ b = 0) else false
theorem impl_isDirection_eq (d : Int) : impl_isDirection.f d = some (decide (0 ≤ d ∧ d ≤ 3)) := by
  unfold impl_isDirection.f
  by_cases h1 : d ≥ 0 <;> simp [h1] <;> omega
theorem spec_l01In_eqA (x a b : Int) : spec_l01In.f x a b = some (decide (a ≤ x ∧ x ≤ b)) := by
  unfold spec_l01In.f
  by_cases h1 : x ≥ a
  · simp [h1]
  · rw [if_neg h1]; simp; omega
theorem impl_ActOk_eq {k : Nat} (hk : 1 ≤ k) (t a b : Int) : impl_ActOk.f k t a b = some (aok t a b) := by
  obtain ⟨m, rfl⟩ : ∃ m, k = m + 1 := ⟨k - 1, by omega⟩
  have e : impl_ActOk.f (m + 1) t a b = impl_ActOk.j0 (m + 1) (decide (0 ≤ a ∧ a ≤ 5)) t a b := by
    unfold impl_ActOk.f
    by_cases h : a ≥ 0
    · rw [if_pos h]; congr 1; rw [Bool.eq_iff_iff]; simp; omega
    · rw [if_neg h]; congr 1; symm; simp; omega
  rw [e]
  simp only [impl_ActOk.j0, impl_isDirection_eq, Option.bind_some]
  unfold aok
  by_cases t1 : t = 1
  · simp only [t1, if_true]
    by_cases h1 : a ≥ 1
    · rw [if_pos h1]
      by_cases h2 : a ≤ 20
      · rw [if_pos h2]; congr 1; rw [Bool.eq_iff_iff]; simp; omega
      · rw [if_neg h2]; congr 1; symm; simp; omega
    · rw [if_neg h1]; congr 1; symm; simp; omega
  by_cases t3 : t = 3
  · simp only [t3]
    by_cases h1 : 0 ≤ a ∧ a ≤ 5
    · simp [h1]
    · simp [h1]; omega
  by_cases t5 : t = 5
  · simp only [t5]
    by_cases h1 : 0 ≤ a ∧ a ≤ 5
    · simp [h1]; rw [Bool.eq_iff_iff]; simp
    · simp [h1]; omega
  by_cases t2 : t = 2
  · simp only [t2]
    by_cases h1 : a = 0
    · simp [h1]; rw [Bool.eq_iff_iff]; simp
    · simp [h1]
  by_cases t4 : t = 4
  · simp only [t4]
    by_cases h1 : a = 0
    · simp [h1]; rw [Bool.eq_iff_iff]; simp
    · simp [h1]
  by_cases t6 : t = 6
  · simp only [t6]
    by_cases h1 : a = 0
    · simp [h1]; rw [Bool.eq_iff_iff]; simp
    · simp [h1]
  simp [t1, t2, t3, t4, t5, t6]
theorem spec_ActOk_eq {k : Nat} (hk : 1 ≤ k) (t a b : Int) : spec_ActOk.f k t a b = some (aok t a b) := by
  obtain ⟨m, rfl⟩ : ∃ m, k = m + 1 := ⟨k - 1, by omega⟩
  have e : spec_ActOk.f (m + 1) t a b = spec_ActOk.j0 (m + 1) t (decide (t = 2 ∨ t = 4 ∨ t = 6)) t a b := by
    unfold spec_ActOk.f
    by_cases h : t = 2
    · subst h; rfl
    · by_cases h4 : t = 4
      · subst h4; rfl
      · rw [if_neg h, if_neg h4]
        congr 1
        rw [Bool.eq_iff_iff]; simp [h, h4]
  rw [e]
  simp only [spec_ActOk.j0, spec_l01In_eqA, Option.bind_some]
  unfold aok
  by_cases t1 : t = 1
  · simp only [t1]
    by_cases h1 : 1 ≤ a ∧ a ≤ 20
    · simp [h1]; rw [Bool.eq_iff_iff]; simp
    · simp [h1]; omega
  by_cases t3 : t = 3
  · simp only [t3]
    by_cases h1 : 0 ≤ a ∧ a ≤ 5
    · simp [h1]
    · simp [h1]; omega
  by_cases t5 : t = 5
  · simp only [t5]
    by_cases h1 : 0 ≤ a ∧ a ≤ 5
    · simp [h1]; rw [Bool.eq_iff_iff]; simp
    · simp [h1]; omega
  by_cases t2 : t = 2 ∨ t = 4 ∨ t = 6
  · simp only [t2, t1, t3, t5]
    by_cases h1 : a = 0
    · simp [h1]; rw [Bool.eq_iff_iff]; simp
    · simp [h1]
  simp [t1, t2, t3, t5]
end Go.Proofs.YtccjanhdnheclaaDoor.F
end

section
namespace Go.Proofs.YtccjanhdnheclaaDoor.F
open Go.RowKit Go.Proofs.YtccjanhdnheclaaDoorW.PrintWords Go.Proofs.YtccjanhdnheclaaDoorW.PrintLast Go.Proofs.YtccjanhdnheclaaDoorW.PrintMore
set_option linter.unusedVariables false
set_option linter.unusedSimpArgs false
def six : List Int := [0, 1, 2, 3, 4, 5]
def upto20 : List Int := [1, 2, 3, 4, 5, 6, 7, 8, 9, 10, 11, 12, 13, 14, 15, 16, 17, 18, 19, 20]
def fa (a b c : Int) : Bool := match laws_FnExactFormatAct.f 20 a b c with
  | some true => true
  | _ => false
theorem fa_eq {a b c : Int} (h : fa a b c = true) : laws_FnExactFormatAct.f 20 a b c = some true := by
  unfold fa at h
  split at h
  · assumption
  · cases h
theorem fa_day : ∀ b ∈ upto20, fa 1 b 0 = true := by decide +kernel
theorem fa_none : ∀ a ∈ ([2, 4, 6] : List Int), fa a 0 0 = true := by decide +kernel
theorem fa_walk : ∀ b ∈ six, ∀ c ∈ ([0, 1, 2, 3] : List Int), fa 3 b c = true := by decide +kernel
theorem fa_guide : ∀ b ∈ six, fa 5 b 0 = true := by decide +kernel
theorem FnExactFormatAct_pure : ∀ (a0_0 : Int) (a0_1 : Int) (a0_2 : Int), (I64 (a0_0)) → (I64 (a0_1)) → (I64 (a0_2)) → ∃ k, laws_FnExactFormatAct.f k a0_0 a0_1 a0_2 = some true := by
  intro t a b _ _ _
  refine ⟨20, ?_⟩
  by_cases h : aok t a b = true
  · refine fa_eq ?_
    unfold aok at h
    split at h
    · rename_i e
      have h := of_decide_eq_true h
      obtain ⟨h1, h2, rfl⟩ := h
      subst e
      exact fa_day a (by simp only [upto20, List.mem_cons, List.not_mem_nil, or_false]; omega)
    · split at h
      · rename_i e
        have h := of_decide_eq_true h
        subst e
        exact fa_walk a (by simp only [six, List.mem_cons, List.not_mem_nil, or_false]; omega) b (by simp only [List.mem_cons, List.not_mem_nil, or_false]; omega)
      · split at h
        · rename_i e
          have h := of_decide_eq_true h
          obtain ⟨h1, h2, rfl⟩ := h
          subst e
          exact fa_guide a (by simp only [six, List.mem_cons, List.not_mem_nil, or_false]; omega)
        · split at h
          · rename_i e
            have h := of_decide_eq_true h
            obtain ⟨rfl, rfl⟩ := h
            exact fa_none t (by simp only [List.mem_cons, List.not_mem_nil, or_false]; exact e)
          · cases h
  · have hf : aok t a b = false := by cases q : aok t a b with | true => exact absurd q h | false => rfl
    unfold laws_FnExactFormatAct.f impl_FormatAct.f spec_FormatAct.f laws_toAct.f
    simp only [Option.bind_some]
    rw [spec_ActOk_eq (by omega), hf, Option.bind_some, if_neg Bool.false_ne_true, Option.bind_some, impl_ActOk_eq (by omega), hf, Option.bind_some, if_neg Bool.false_ne_true, Option.bind_some]
    simp
end Go.Proofs.YtccjanhdnheclaaDoor.F
end
