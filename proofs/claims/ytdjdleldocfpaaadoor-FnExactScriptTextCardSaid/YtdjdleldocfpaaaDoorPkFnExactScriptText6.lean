/- Packed by a program of the session (wip/tools/pack.py): what the claim's theorem reaches, of the texts that wip/ and the kit's printer lay. -/
import Derived.Test.YtdjdleldocfpaaaDoorPkFnExactScriptText5
import Derived.Deep.QuietTactic
import Derived.BigQuiet
import Derived.StillTailTactics
import Derived.Shelf.Strconv.Itoa3
import Derived.Lib.AppendIntMem
import Derived.Test.YtdjdleldocfpaaaDoorProg
section
namespace Go.Proofs.YtdjdleldocfpaaaDoor.F
open Go.RowKit Go.Proofs.YtdjdleldocfpaaaDoorW.PrintWords Go.Proofs.YtdjdleldocfpaaaDoorW.PrintLast Go.Proofs.YtdjdleldocfpaaaDoorW.PrintMore
set_option linter.unusedVariables false
set_option linter.unusedSimpArgs false
attribute [local go_sem] max2_int min2_int max_two min_two
set_option maxRecDepth 20000 in set_option maxHeartbeats 4000000 in open Nat renaming reduceAdd → p1, reduceSub → p2, reduceMul → p3, reduceDiv → p4, reduceBNe → p5, reduceBEq → p6, reduceEqDiff → p7, reduceLeDiff → p8, reduceLT → p9 in open Int renaming reduceLE → p10, reduceLT → p11, reduceEq → p12 in
theorem impl_wordOf.ctr {a0 : Int} {r1 : ByteArray} {r2 : Int} (h : impl_wordOf.f a0 = some (r1, r2)) : Ctr Tryd.prog 38 [.v (.int .i64 a0)] (.tu [.v (.string r1), .v (.int .i64 r2)]) := by
  refine Ctr_of tyOk hm Tryd.func38 rfl rfl (by kernel_rfl) (n := 14) (rv := [.tmp 2, .tmp 3]) rfl rfl ?_
  simp only [W, List.replicate]
  unfold impl_wordOf.f at h
  replace h := ifS h; rcases h with ⟨c1, h⟩ | ⟨c1, h⟩
  · cases h
    try simp only [W, eq_true c1, p1, p2, p3, p4, p5, p6, p7, p8, p9, p10, p11, p12]
  · replace h := ifS h; rcases h with ⟨c2, h⟩ | ⟨c2, h⟩
    · cases h
      try simp only [W, c1, eq_true c2, p1, p2, p3, p4, p5, p6, p7, p8, p9, p10, p11, p12]
    · replace h := ifS h; rcases h with ⟨c3, h⟩ | ⟨c3, h⟩
      · cases h
        try simp only [W, c1, c2, eq_true c3, p1, p2, p3, p4, p5, p6, p7, p8, p9, p10, p11, p12]
      · replace h := ifS h; rcases h with ⟨c4, h⟩ | ⟨c4, h⟩
        · cases h
          try simp only [W, c1, c2, c3, eq_true c4, p1, p2, p3, p4, p5, p6, p7, p8, p9, p10, p11, p12]
        · replace h := ifS h; rcases h with ⟨c5, h⟩ | ⟨c5, h⟩
          · cases h
            try simp only [W, c1, c2, c3, c4, eq_true c5, p1, p2, p3, p4, p5, p6, p7, p8, p9, p10, p11, p12]
          · cases h
            try simp only [W, c1, c2, c3, c4, c5, p1, p2, p3, p4, p5, p6, p7, p8, p9, p10, p11, p12]
set_option maxRecDepth 20000 in set_option maxHeartbeats 4000000 in open Nat renaming reduceAdd → p1, reduceSub → p2, reduceMul → p3, reduceDiv → p4, reduceBNe → p5, reduceBEq → p6, reduceEqDiff → p7, reduceLeDiff → p8, reduceLT → p9 in open Int renaming reduceLE → p10, reduceLT → p11, reduceEq → p12 in
theorem impl_isDirection.ctr {a0 : Int} {r : Bool} (h : impl_isDirection.f a0 = some r) : Ctr Tryd.prog 67 [.v (.int .i64 a0)] (.v (.bool r)) := by
  refine Ctr_of tyOk hm Tryd.func67 rfl rfl (by kernel_rfl) (n := 8) (rv := [.tmp 2]) rfl rfl ?_
  simp only [W, List.replicate]
  unfold impl_isDirection.f at h
  replace h := ifS h; rcases h with ⟨c1, h⟩ | ⟨c1, h⟩
  · cases h
    try simp only [W, c1, p1, p2, p3, p4, p5, p6, p7, p8, p9, p10, p11, p12]
  · cases h
    try simp only [W, c1, p1, p2, p3, p4, p5, p6, p7, p8, p9, p10, p11, p12]
set_option maxRecDepth 20000 in set_option maxHeartbeats 4000000 in open Nat renaming reduceAdd → p1, reduceSub → p2, reduceMul → p3, reduceDiv → p4, reduceBNe → p5, reduceBEq → p6, reduceEqDiff → p7, reduceLeDiff → p8, reduceLT → p9 in open Int renaming reduceLE → p10, reduceLT → p11, reduceEq → p12 in
theorem impl_ActOk.ctr {k : Nat} {a0_0 : Int} {a0_1 : Int} {a0_2 : Int} {r : Bool} (h : impl_ActOk.f k a0_0 a0_1 a0_2 = some r) : Ctr Tryd.prog 40 [.ag [.v (.int .i64 a0_0), .v (.int .i64 a0_1), .v (.int .i64 a0_2)]] (.v (.bool r)) := by
  refine Ctr_of tyOk hm Tryd.func40 rfl rfl (by kernel_rfl) (n := 56) (rv := [.tmp 2]) rfl rfl ?_
  simp only [W, List.replicate]
  unfold impl_ActOk.f at h
  replace h := ifS h; rcases h with ⟨c1, h⟩ | ⟨c1, h⟩
  · rcases k with _ | m2; · cases h
    rw [impl_ActOk.j0] at h
    replace h := ifS h; rcases h with ⟨c3, h⟩ | ⟨c3, h⟩
    · replace h := ifS h; rcases h with ⟨c4, h⟩ | ⟨c4, h⟩
      · replace h := ifS h; rcases h with ⟨c5, h⟩ | ⟨c5, h⟩
        · cases h
          try simp only [W, c1, eq_true c3, c4, c5, p1, p2, p3, p4, p5, p6, p7, p8, p9, p10, p11, p12]
        · cases h
          try simp only [W, c1, eq_true c3, c4, c5, p1, p2, p3, p4, p5, p6, p7, p8, p9, p10, p11, p12]
      · cases h
        try simp only [W, c1, eq_true c3, c4, p1, p2, p3, p4, p5, p6, p7, p8, p9, p10, p11, p12]
    · replace h := ifS h; rcases h with ⟨c4, h⟩ | ⟨c4, h⟩
      · replace h := ifT h; rcases h with ⟨c5, h⟩ | ⟨c5, h⟩
        · replace h := bnd h; obtain ⟨t6, A, h⟩ := h
          try simp only [W, c1, c3, eq_true c4, c5, p1, p2, p3, p4, p5, p6, p7, p8, p9, p10, p11, p12]
          refine callR (impl_isDirection.ctr A) ?_
          cases h
          try simp only [W, c1, c3, eq_true c4, c5, p1, p2, p3, p4, p5, p6, p7, p8, p9, p10, p11, p12]
        · cases h
          try simp only [W, c1, c3, eq_true c4, c5, p1, p2, p3, p4, p5, p6, p7, p8, p9, p10, p11, p12]
      · replace h := ifS h; rcases h with ⟨c5, h⟩ | ⟨c5, h⟩
        · replace h := ifT h; rcases h with ⟨c6, h⟩ | ⟨c6, h⟩
          · cases h
            try simp only [W, c1, c3, c4, eq_true c5, c6, p1, p2, p3, p4, p5, p6, p7, p8, p9, p10, p11, p12]
          · cases h
            try simp only [W, c1, c3, c4, eq_true c5, c6, p1, p2, p3, p4, p5, p6, p7, p8, p9, p10, p11, p12]
        · replace h := ifS h; rcases h with ⟨c6, h⟩ | ⟨c6, h⟩
          · replace h := ifS h; rcases h with ⟨c7, h⟩ | ⟨c7, h⟩
            · cases h
              try simp only [W, c1, c3, c4, c5, eq_true c6, eq_true c7, p1, p2, p3, p4, p5, p6, p7, p8, p9, p10, p11, p12]
            · cases h
              try simp only [W, c1, c3, c4, c5, eq_true c6, c7, p1, p2, p3, p4, p5, p6, p7, p8, p9, p10, p11, p12]
          · replace h := ifS h; rcases h with ⟨c7, h⟩ | ⟨c7, h⟩
            · replace h := ifS h; rcases h with ⟨c8, h⟩ | ⟨c8, h⟩
              · cases h
                try simp only [W, c1, c3, c4, c5, c6, eq_true c7, eq_true c8, p1, p2, p3, p4, p5, p6, p7, p8, p9, p10, p11, p12]
              · cases h
                try simp only [W, c1, c3, c4, c5, c6, eq_true c7, c8, p1, p2, p3, p4, p5, p6, p7, p8, p9, p10, p11, p12]
            · replace h := ifS h; rcases h with ⟨c8, h⟩ | ⟨c8, h⟩
              · replace h := ifS h; rcases h with ⟨c9, h⟩ | ⟨c9, h⟩
                · cases h
                  try simp only [W, c1, c3, c4, c5, c6, c7, eq_true c8, eq_true c9, p1, p2, p3, p4, p5, p6, p7, p8, p9, p10, p11, p12]
                · cases h
                  try simp only [W, c1, c3, c4, c5, c6, c7, eq_true c8, c9, p1, p2, p3, p4, p5, p6, p7, p8, p9, p10, p11, p12]
              · cases h
                try simp only [W, c1, c3, c4, c5, c6, c7, c8, p1, p2, p3, p4, p5, p6, p7, p8, p9, p10, p11, p12]
  · rcases k with _ | m2; · cases h
    rw [impl_ActOk.j0] at h
    replace h := ifS h; rcases h with ⟨c3, h⟩ | ⟨c3, h⟩
    · replace h := ifS h; rcases h with ⟨c4, h⟩ | ⟨c4, h⟩
      · replace h := ifS h; rcases h with ⟨c5, h⟩ | ⟨c5, h⟩
        · cases h
          try simp only [W, c1, eq_true c3, c4, c5, p1, p2, p3, p4, p5, p6, p7, p8, p9, p10, p11, p12]
        · cases h
          try simp only [W, c1, eq_true c3, c4, c5, p1, p2, p3, p4, p5, p6, p7, p8, p9, p10, p11, p12]
      · cases h
        try simp only [W, c1, eq_true c3, c4, p1, p2, p3, p4, p5, p6, p7, p8, p9, p10, p11, p12]
    · replace h := ifS h; rcases h with ⟨c4, h⟩ | ⟨c4, h⟩
      · rw [if_neg (by decide)] at h
        cases h
        try simp only [W, c1, c3, eq_true c4, p1, p2, p3, p4, p5, p6, p7, p8, p9, p10, p11, p12]
      · replace h := ifS h; rcases h with ⟨c5, h⟩ | ⟨c5, h⟩
        · rw [if_neg (by decide)] at h
          cases h
          try simp only [W, c1, c3, c4, eq_true c5, p1, p2, p3, p4, p5, p6, p7, p8, p9, p10, p11, p12]
        · replace h := ifS h; rcases h with ⟨c6, h⟩ | ⟨c6, h⟩
          · replace h := ifS h; rcases h with ⟨c7, h⟩ | ⟨c7, h⟩
            · cases h
              try simp only [W, c1, c3, c4, c5, eq_true c6, eq_true c7, p1, p2, p3, p4, p5, p6, p7, p8, p9, p10, p11, p12]
            · cases h
              try simp only [W, c1, c3, c4, c5, eq_true c6, c7, p1, p2, p3, p4, p5, p6, p7, p8, p9, p10, p11, p12]
          · replace h := ifS h; rcases h with ⟨c7, h⟩ | ⟨c7, h⟩
            · replace h := ifS h; rcases h with ⟨c8, h⟩ | ⟨c8, h⟩
              · cases h
                try simp only [W, c1, c3, c4, c5, c6, eq_true c7, eq_true c8, p1, p2, p3, p4, p5, p6, p7, p8, p9, p10, p11, p12]
              · cases h
                try simp only [W, c1, c3, c4, c5, c6, eq_true c7, c8, p1, p2, p3, p4, p5, p6, p7, p8, p9, p10, p11, p12]
            · replace h := ifS h; rcases h with ⟨c8, h⟩ | ⟨c8, h⟩
              · replace h := ifS h; rcases h with ⟨c9, h⟩ | ⟨c9, h⟩
                · cases h
                  try simp only [W, c1, c3, c4, c5, c6, c7, eq_true c8, eq_true c9, p1, p2, p3, p4, p5, p6, p7, p8, p9, p10, p11, p12]
                · cases h
                  try simp only [W, c1, c3, c4, c5, c6, c7, eq_true c8, c9, p1, p2, p3, p4, p5, p6, p7, p8, p9, p10, p11, p12]
              · cases h
                try simp only [W, c1, c3, c4, c5, c6, c7, c8, p1, p2, p3, p4, p5, p6, p7, p8, p9, p10, p11, p12]
end Go.Proofs.YtdjdleldocfpaaaDoor.F
end

section
namespace Go.Proofs
def Tryd.laysIt_ren : Go.Shelf.Ren := ⟨fun | 171 => 73 | 243 => 105 | 246 => 127 | 283 => 138 | 284 => 139 | 285 => 140 | 286 => 141 | 129 => 152 | 317 => 156 | 318 => 157 | 319 => 158 | 320 => 159 | 337 => 168 | 338 => 169 | n => n, fun | 3 => 3 | 9 => 9 | 2 => 2 | 4 => 4 | 171 => 157 | 0 => 0 | 53 => 158 | 37 => 36 | 5 => 5 | 173 => 161 | 212 => 180 | 51 => 171 | 20 => 20 | 213 => 181 | 46 => 144 | 232 => 195 | 233 => 196 | n => n, fun | 17 => 2 | 18 => 3 | 19 => 4 | n => n⟩
theorem Tryd.laysIt : LaysM.n171 Tryd.prog Tryd.laysIt_ren := { mixed := by kernel_rfl, f129 := Tryd.func152.trans (congrArg some (by kernel_rfl)), f171 := Tryd.func73.trans (congrArg some (by kernel_rfl)), f243 := Tryd.func105.trans (congrArg some (by kernel_rfl)), f246 := Tryd.func127.trans (congrArg some (by kernel_rfl)), f283 := Tryd.func138.trans (congrArg some (by kernel_rfl)), f284 := Tryd.func139.trans (congrArg some (by kernel_rfl)), f285 := Tryd.func140.trans (congrArg some (by kernel_rfl)), f286 := Tryd.func141.trans (congrArg some (by kernel_rfl)), f317 := Tryd.func156.trans (congrArg some (by kernel_rfl)), f318 := Tryd.func157.trans (congrArg some (by kernel_rfl)), f319 := Tryd.func158.trans (congrArg some (by kernel_rfl)), f320 := Tryd.func159.trans (congrArg some (by kernel_rfl)), f337 := Tryd.func168.trans (congrArg some (by kernel_rfl)), f338 := Tryd.func169.trans (congrArg some (by kernel_rfl)), t0 := Tryd.underlying0, a0 := Tryd.isAgg0, z0 := Tryd.sizeOf0, v0 := Tryd.zeroValue0, t2 := Tryd.underlying2, a2 := Tryd.isAgg2, z2 := Tryd.sizeOf2, v2 := Tryd.zeroValue2, t3 := Tryd.underlying3, a3 := Tryd.isAgg3, z3 := Tryd.sizeOf3, v3 := Tryd.zeroValue3, t4 := Tryd.underlying4, a4 := Tryd.isAgg4, z4 := Tryd.sizeOf4, v4 := Tryd.zeroValue4, t5 := Tryd.underlying5, a5 := Tryd.isAgg5, z5 := Tryd.sizeOf5, v5 := Tryd.zeroValue5, t9 := Tryd.underlying9, a9 := Tryd.isAgg9, z9 := Tryd.sizeOf9, v9 := Tryd.zeroValue9, t20 := Tryd.underlying20, a20 := Tryd.isAgg20, z20 := Tryd.sizeOf20, v20 := Tryd.zeroValue20, t37 := Tryd.underlying36, a37 := Tryd.isAgg36, z37 := Tryd.sizeOf36, v37 := Tryd.zeroValue36, t46 := Tryd.underlying144, a46 := Tryd.isAgg144, z46 := Tryd.sizeOf144, v46 := Tryd.zeroValue144, t51 := Tryd.underlying171, a51 := Tryd.isAgg171, z51 := Tryd.sizeOf171, v51 := Tryd.zeroValue171, t53 := Tryd.underlying158, a53 := Tryd.isAgg158, z53 := Tryd.sizeOf158, v53 := Tryd.zeroValue158, t171 := Tryd.underlying157, a171 := Tryd.isAgg157, z171 := Tryd.sizeOf157, v171 := Tryd.zeroValue157, t173 := Tryd.underlying161, a173 := Tryd.isAgg161, z173 := Tryd.sizeOf161, v173 := Tryd.zeroValue161, t212 := Tryd.underlying180, a212 := Tryd.isAgg180, z212 := Tryd.sizeOf180, v212 := Tryd.zeroValue180, t213 := Tryd.underlying181, a213 := Tryd.isAgg181, z213 := Tryd.sizeOf181, t232 := Tryd.underlying195, a232 := Tryd.isAgg195, z232 := Tryd.sizeOf195, v232 := Tryd.zeroValue195, t233 := Tryd.underlying196, a233 := Tryd.isAgg196, z233 := Tryd.sizeOf196, v233 := Tryd.zeroValue196, g17 := by kernel_rfl, g18 := by kernel_rfl, g19 := by kernel_rfl, i0 := by kernel_rfl, i2 := by kernel_rfl, i3 := by kernel_rfl, i4 := by kernel_rfl, i5 := by kernel_rfl, i9 := by kernel_rfl, i20 := by kernel_rfl, i37 := by kernel_rfl, i46 := by kernel_rfl, i51 := by kernel_rfl, i53 := by kernel_rfl, i171 := by kernel_rfl, i173 := by kernel_rfl, i212 := by kernel_rfl, i232 := by kernel_rfl, i233 := by kernel_rfl, m17 := by kernel_rfl, m18 := by kernel_rfl, m19 := by kernel_rfl }
end Go.Proofs
end

section
namespace Go.Proofs.YtdjdleldocfpaaaDoor.F
open Go.RowKit Go.Proofs.YtdjdleldocfpaaaDoorW.PrintWords Go.Proofs.YtdjdleldocfpaaaDoorW.PrintLast Go.Proofs.YtdjdleldocfpaaaDoorW.PrintMore
set_option linter.unusedVariables false
set_option linter.unusedSimpArgs false
attribute [local go_sem] max2_int min2_int max_two min_two
set_option maxRecDepth 20000 in set_option maxHeartbeats 4000000 in open Nat renaming reduceAdd → p1, reduceSub → p2, reduceMul → p3, reduceDiv → p4, reduceBNe → p5, reduceBEq → p6, reduceEqDiff → p7, reduceLeDiff → p8, reduceLT → p9 in open Int renaming reduceLE → p10, reduceLT → p11, reduceEq → p12 in
theorem spec_l01In.ctr {a0 : Int} {a1 : Int} {a2 : Int} {r : Bool} (h : spec_l01In.f a0 a1 a2 = some r) : Ctr Tryd.prog 35 [.v (.int .i64 a0), .v (.int .i64 a1), .v (.int .i64 a2)] (.v (.bool r)) := by
  refine Ctr_of tyOk hm Tryd.func35 rfl rfl (by kernel_rfl) (n := 12) (rv := [.tmp 6]) rfl rfl ?_
  simp only [W, List.replicate]
  unfold spec_l01In.f at h
  replace h := ifS h; rcases h with ⟨c1, h⟩ | ⟨c1, h⟩
  · cases h
    try simp only [W, c1, p1, p2, p3, p4, p5, p6, p7, p8, p9, p10, p11, p12]
  · cases h
    try simp only [W, c1, p1, p2, p3, p4, p5, p6, p7, p8, p9, p10, p11, p12]
theorem dec_two {i : Nat} (h : i < 100) : (Go.Lib.decDigits i).toArray = if i < 10 then #[UInt8.ofNat (48 + i)] else #[UInt8.ofNat (48 + i / 10), UInt8.ofNat (48 + i % 10)] := by
  rw [Go.Lib.decDigits]
  by_cases q : i < 10
  · rw [dif_pos q, if_pos q]
  · rw [dif_neg q, if_neg q, Go.Lib.decDigits, dif_pos (by omega)]
    rfl
theorem strconv_Itoa.ctr {a0 : Int} {r : ByteArray} (h : strconv_Itoa.f a0 = some r) : Ctr Tryd.prog 73 [.v (.int .i64 a0)] (.v (.string r)) := by
  refine ⟨enters_of Tryd.func73 rfl rfl, fun w ys hgl hys => ?_⟩
  simp only [RepL, Rep] at hys
  obtain ⟨_, _, rfl, rfl, rfl⟩ := hys
  unfold strconv_Itoa.f at h
  split at h
  · rename_i q
    obtain rfl := Option.some.inj h
    obtain ⟨i, rfl⟩ : ∃ i : Nat, a0 = i := ⟨a0.toNat, by omega⟩
    refine (Any.strconv_Itoa_small { Tryd.laysIt with } i (by omega) w).mono ?_
    rintro e w' ⟨rfl, rfl⟩
    rw [dec_two (by omega), Int.toNat_natCast]
    exact ⟨_, [], rfl, by unfold RepR; exact ⟨rfl, rfl⟩, List.nodup_nil, Below.refl _ _⟩
  · split at h
    · rename_i q
      obtain rfl := Option.some.inj h
      refine (Any.strconv_Itoa Tryd.laysIt a0 q.1 q.2 w (Gl_tab hgl)).mono ?_
      rintro e w' ⟨rfl, k, os, rfl⟩
      exact ⟨_, [], rfl, by unfold RepR; exact ⟨rfl, rfl⟩, List.nodup_nil, Go.Lib.below_grow _ _ (Nat.le_refl _) _ _⟩
    · cases h
set_option maxRecDepth 20000 in set_option maxHeartbeats 4000000 in open Nat renaming reduceAdd → p1, reduceSub → p2, reduceMul → p3, reduceDiv → p4, reduceBNe → p5, reduceBEq → p6, reduceEqDiff → p7, reduceLeDiff → p8, reduceLT → p9 in open Int renaming reduceLE → p10, reduceLT → p11, reduceEq → p12 in
theorem impl_FormatInt.ctr {a0 : Int} {r : ByteArray} (h : impl_FormatInt.f a0 = some r) : Ctr Tryd.prog 44 [.v (.int .i64 a0)] (.v (.string r)) := by
  refine Ctr_of tyOk hm Tryd.func44 rfl rfl (by kernel_rfl) (n := 4) (rv := [.tmp 2]) rfl rfl ?_
  simp only [W, List.replicate]
  unfold impl_FormatInt.f at h
  replace h := bnd h; obtain ⟨t1, A, h⟩ := h
  try simp only [W, p1, p2, p3, p4, p5, p6, p7, p8, p9, p10, p11, p12]
  refine callR (strconv_Itoa.ctr A) ?_
  cases h
  try simp only [W, p1, p2, p3, p4, p5, p6, p7, p8, p9, p10, p11, p12]
end Go.Proofs.YtdjdleldocfpaaaDoor.F
end

section
namespace Go.Proofs.YtdjdleldocfpaaaDoor.F
open Go.RowKit Go.Proofs.YtdjdleldocfpaaaDoorW.PrintWords Go.Proofs.YtdjdleldocfpaaaDoorW.PrintLast Go.Proofs.YtdjdleldocfpaaaDoorW.PrintMore
set_option linter.unusedVariables false
set_option linter.unusedSimpArgs false
attribute [local go_sem] max2_int min2_int max_two min_two
set_option maxRecDepth 20000 in set_option maxHeartbeats 4000000 in open Nat renaming reduceAdd → p1, reduceSub → p2, reduceMul → p3, reduceDiv → p4, reduceBNe → p5, reduceBEq → p6, reduceEqDiff → p7, reduceLeDiff → p8, reduceLT → p9 in open Int renaming reduceLE → p10, reduceLT → p11, reduceEq → p12 in
theorem impl_FormatAct.ctr {k : Nat} {a0_0 : Int} {a0_1 : Int} {a0_2 : Int} {r1 : ByteArray} {r2 : Bool} (h : impl_FormatAct.f k a0_0 a0_1 a0_2 = some (r1, r2)) : Ctr Tryd.prog 18 [.ag [.v (.int .i64 a0_0), .v (.int .i64 a0_1), .v (.int .i64 a0_2)]] (.tu [.v (.string r1), .v (.bool r2)]) := by
  refine Ctr_of tyOk hm Tryd.func18 rfl rfl (by kernel_rfl) (n := 35) (rv := [.tmp 2, .tmp 3]) rfl rfl ?_
  simp only [W, List.replicate]
  unfold impl_FormatAct.f at h
  replace h := bnd h; obtain ⟨t1, A, h⟩ := h
  try simp only [W, p1, p2, p3, p4, p5, p6, p7, p8, p9, p10, p11, p12]
  refine callR (impl_ActOk.ctr A) ?_
  replace h := ifT h; rcases h with ⟨rfl, h⟩ | ⟨rfl, h⟩
  · replace h := bnd h; obtain ⟨⟨t3_1, t3_2⟩, A, h⟩ := h
    dsimp only at h
    try simp only [W, p1, p2, p3, p4, p5, p6, p7, p8, p9, p10, p11, p12]
    refine callR (impl_wordOf.ctr A) ?_
    rw [Option.bind_some] at h
    replace h := ifN h; obtain ⟨c4, h⟩ := h
    replace h := ifN h; obtain ⟨c5, h⟩ := h
    try simp only [List.length_cons, List.length_nil, Nat.zero_add] at c5
    rw [Option.bind_some] at h
    try simp only [W, c4, c5, p1, p2, p3, p4, p5, p6, p7, p8, p9, p10, p11, p12]
    refine loopN (fun x : ByteArray × Int × Int × Int × Int × Int => [.u, .bp 16 0, .u, .u, .v (.string x.1), .u, .u, .u, .u, .u, .u, .u, .bp 16 0, .u, .u, .u, .u, .bp 16 1, .u, .bp 16 2, .u, .u, .u, .vw 336 1 0 t3_2.toNat, .v (.int .i64 x.2.1), .v (.int .i64 x.2.2.1), .u, .u, .u, .u, .u, .u, .u, .u, .u, .u]) (fun x => [(16, .box 31 [.v (.int .i64 x.2.2.2.1), .v (.int .i64 x.2.2.2.2.1), .v (.int .i64 x.2.2.2.2.2)]), (336, .row 3 1 (List.map eI [a0_1, a0_2]))]) (fun n x => impl_FormatAct.l0 n x.1 ((([a0_1, a0_2] : List Int) : List Int).take (t3_2 : Int).toNat : List Int) x.2.1 x.2.2.1 = some (r1, r2)) (t3_1, (((([a0_1, a0_2] : List Int) : List Int).take (t3_2 : Int).toNat : List Int).length : Int), 0, a0_0, a0_1, a0_2) [] h (by simp only [W, p1, p2, p3, p4, p5, p6, p7, p8, p9, p10, p11, p12] <;> trivial) (by simp only [W, p1, p2, p3, p4, p5, p6, p7, p8, p9, p10, p11, p12] <;> trivial) rfl (fun _ h => by cases h) ?_
    intro n1 ⟨x6, x7, x8, y9, y10, y11⟩ _ h
    simp only [impl_FormatAct.l0] at h
    replace h := ifS h; rcases h with ⟨c12, h⟩ | ⟨c12, h⟩
    · replace h := ifN h; obtain ⟨c13, h⟩ := h
      replace h := ifN h; obtain ⟨c14, h⟩ := h
      try simp only [List.length_cons, List.length_nil, Nat.zero_add] at c14
      replace h := bnd h; obtain ⟨t15, A, h⟩ := h
      try simp only [W, c12, c13, c14, p1, p2, p3, p4, p5, p6, p7, p8, p9, p10, p11, p12]
      first | refine callR (impl_FormatInt.ctr A) ?_ | refine callRE (impl_FormatInt.ctr A) (by first | (simp only [List.map_take, List.map_drop, List.map_append]; rfl) | (rw [rd_take (by assumption) (by assumption)]; rfl)) ?_
      replace h := ifN h; obtain ⟨c16, h⟩ := h
      replace h := ifN h; obtain ⟨c17, h⟩ := h
      try simp only [W, c12, c13, c14, c16, c17, p1, p2, p3, p4, p5, p6, p7, p8, p9, p10, p11, p12]
      exact nextN ((x6 ++ ((⟨#[32]⟩ : ByteArray) ++ t15)), x7, (wrap64 (x8 + 1)), y9, y10, y11) [] n1 (by omega) h (by simp only [W, p1, p2, p3, p4, p5, p6, p7, p8, p9, p10, p11, p12] <;> trivial) (by simp only [W, p1, p2, p3, p4, p5, p6, p7, p8, p9, p10, p11, p12] <;> trivial) rfl
    · cases h
      try simp only [W, c12, p1, p2, p3, p4, p5, p6, p7, p8, p9, p10, p11, p12]
  · cases h
    try simp only [W, p1, p2, p3, p4, p5, p6, p7, p8, p9, p10, p11, p12]
end Go.Proofs.YtdjdleldocfpaaaDoor.F
end

section
namespace Go.Proofs.YtdjdleldocfpaaaDoor.F
open Go.RowKit Go.Proofs.YtdjdleldocfpaaaDoorW.PrintWords Go.Proofs.YtdjdleldocfpaaaDoorW.PrintLast Go.Proofs.YtdjdleldocfpaaaDoorW.PrintMore
set_option linter.unusedVariables false
set_option linter.unusedSimpArgs false
attribute [local go_sem] max2_int min2_int max_two min_two
set_option maxRecDepth 20000 in set_option maxHeartbeats 4000000 in open Nat renaming reduceAdd → p1, reduceSub → p2, reduceMul → p3, reduceDiv → p4, reduceBNe → p5, reduceBEq → p6, reduceEqDiff → p7, reduceLeDiff → p8, reduceLT → p9 in open Int renaming reduceLE → p10, reduceLT → p11, reduceEq → p12 in
theorem spec_ActOk.ctr {k : Nat} {a0_0 : Int} {a0_1 : Int} {a0_2 : Int} {r : Bool} (h : spec_ActOk.f k a0_0 a0_1 a0_2 = some r) : Ctr Tryd.prog 63 [.ag [.v (.int .i64 a0_0), .v (.int .i64 a0_1), .v (.int .i64 a0_2)]] (.v (.bool r)) := by
  refine Ctr_of tyOk hm Tryd.func63 rfl rfl (by kernel_rfl) (n := 46) (rv := [.tmp 2]) rfl rfl ?_
  simp only [W, List.replicate]
  unfold spec_ActOk.f at h
  replace h := ifS h; rcases h with ⟨c1, h⟩ | ⟨c1, h⟩
  · rcases k with _ | m2; · cases h
    rw [spec_ActOk.j0] at h
    rw [if_pos (beq_iff_eq.2 c1)] at h
    replace h := ifS h; rcases h with ⟨c3, h⟩ | ⟨c3, h⟩
    · cases h
      try simp only [W, eq_true c1, eq_true c3, p1, p2, p3, p4, p5, p6, p7, p8, p9, p10, p11, p12]
    · cases h
      try simp only [W, eq_true c1, c3, p1, p2, p3, p4, p5, p6, p7, p8, p9, p10, p11, p12]
  · replace h := ifS h; rcases h with ⟨c2, h⟩ | ⟨c2, h⟩
    · rcases k with _ | m3; · cases h
      rw [spec_ActOk.j0] at h
      rw [if_pos (beq_iff_eq.2 c2)] at h
      replace h := ifS h; rcases h with ⟨c4, h⟩ | ⟨c4, h⟩
      · cases h
        try simp only [W, c1, eq_true c2, eq_true c4, p1, p2, p3, p4, p5, p6, p7, p8, p9, p10, p11, p12]
      · cases h
        try simp only [W, c1, eq_true c2, c4, p1, p2, p3, p4, p5, p6, p7, p8, p9, p10, p11, p12]
    · rcases k with _ | m3; · cases h
      rw [spec_ActOk.j0] at h
      replace h := ifT h; rcases h with ⟨c4, h⟩ | ⟨c4, h⟩ <;> try simp only [bEq] at c4
      · replace h := ifS h; rcases h with ⟨c5, h⟩ | ⟨c5, h⟩
        · cases h
          try simp only [W, c1, c2, c4, eq_true c5, p1, p2, p3, p4, p5, p6, p7, p8, p9, p10, p11, p12]
        · cases h
          try simp only [W, c1, c2, c4, c5, p1, p2, p3, p4, p5, p6, p7, p8, p9, p10, p11, p12]
      · replace h := ifS h; rcases h with ⟨c5, h⟩ | ⟨c5, h⟩
        · replace h := bnd h; obtain ⟨t6, A, h⟩ := h
          try simp only [W, c1, c2, c4, eq_true c5, p1, p2, p3, p4, p5, p6, p7, p8, p9, p10, p11, p12]
          refine callR (spec_l01In.ctr A) ?_
          replace h := ifT h; rcases h with ⟨rfl, h⟩ | ⟨rfl, h⟩
          · cases h
            try simp only [W, c1, c2, c4, eq_true c5, p1, p2, p3, p4, p5, p6, p7, p8, p9, p10, p11, p12]
          · cases h
            try simp only [W, c1, c2, c4, eq_true c5, p1, p2, p3, p4, p5, p6, p7, p8, p9, p10, p11, p12]
        · replace h := ifS h; rcases h with ⟨c6, h⟩ | ⟨c6, h⟩
          · replace h := bnd h; obtain ⟨t7, A, h⟩ := h
            try simp only [W, c1, c2, c4, c5, eq_true c6, p1, p2, p3, p4, p5, p6, p7, p8, p9, p10, p11, p12]
            refine callR (spec_l01In.ctr A) ?_
            replace h := ifT h; rcases h with ⟨rfl, h⟩ | ⟨rfl, h⟩
            · replace h := bnd h; obtain ⟨t9, A, h⟩ := h
              try simp only [W, c1, c2, c4, c5, eq_true c6, p1, p2, p3, p4, p5, p6, p7, p8, p9, p10, p11, p12]
              refine callR (spec_l01In.ctr A) ?_
              cases h
              try simp only [W, c1, c2, c4, c5, eq_true c6, p1, p2, p3, p4, p5, p6, p7, p8, p9, p10, p11, p12]
            · cases h
              try simp only [W, c1, c2, c4, c5, eq_true c6, p1, p2, p3, p4, p5, p6, p7, p8, p9, p10, p11, p12]
          · replace h := ifS h; rcases h with ⟨c7, h⟩ | ⟨c7, h⟩
            · replace h := bnd h; obtain ⟨t8, A, h⟩ := h
              try simp only [W, c1, c2, c4, c5, c6, eq_true c7, p1, p2, p3, p4, p5, p6, p7, p8, p9, p10, p11, p12]
              refine callR (spec_l01In.ctr A) ?_
              replace h := ifT h; rcases h with ⟨rfl, h⟩ | ⟨rfl, h⟩
              · cases h
                try simp only [W, c1, c2, c4, c5, c6, eq_true c7, p1, p2, p3, p4, p5, p6, p7, p8, p9, p10, p11, p12]
              · cases h
                try simp only [W, c1, c2, c4, c5, c6, eq_true c7, p1, p2, p3, p4, p5, p6, p7, p8, p9, p10, p11, p12]
            · cases h
              try simp only [W, c1, c2, c4, c5, c6, c7, p1, p2, p3, p4, p5, p6, p7, p8, p9, p10, p11, p12]
set_option maxRecDepth 20000 in set_option maxHeartbeats 4000000 in open Nat renaming reduceAdd → p1, reduceSub → p2, reduceMul → p3, reduceDiv → p4, reduceBNe → p5, reduceBEq → p6, reduceEqDiff → p7, reduceLeDiff → p8, reduceLT → p9 in open Int renaming reduceLE → p10, reduceLT → p11, reduceEq → p12 in
theorem spec_l01Figure.ctr {a0 : Int} {r : Int} (h : spec_l01Figure.f a0 = some r) : Ctr Tryd.prog 94 [.v (.int .i64 a0)] (.v (.int .u8 r)) := by
  refine Ctr_of tyOk hm Tryd.func94 rfl rfl (by kernel_rfl) (n := 11) (rv := [.tmp 2]) rfl rfl ?_
  simp only [W, List.replicate]
  unfold spec_l01Figure.f at h
  replace h := ifS h; rcases h with ⟨c1, h⟩ | ⟨c1, h⟩
  · cases h
    try simp only [W, c1, p1, p2, p3, p4, p5, p6, p7, p8, p9, p10, p11, p12]
  · cases h
    try simp only [W, c1, p1, p2, p3, p4, p5, p6, p7, p8, p9, p10, p11, p12]
set_option maxRecDepth 20000 in set_option maxHeartbeats 4000000 in open Nat renaming reduceAdd → p1, reduceSub → p2, reduceMul → p3, reduceDiv → p4, reduceBNe → p5, reduceBEq → p6, reduceEqDiff → p7, reduceLeDiff → p8, reduceLT → p9 in open Int renaming reduceLE → p10, reduceLT → p11, reduceEq → p12 in
theorem spec_FormatInt.ctr {k : Nat} {a0 : Int} {r : ByteArray} (h : spec_FormatInt.f k a0 = some r) : Ctr Tryd.prog 64 [.v (.int .i64 a0)] (.v (.string r)) := by
  refine Ctr_of tyOk hm Tryd.func64 rfl rfl (by kernel_rfl) (n := 29) (rv := [.tmp 2]) rfl rfl ?_
  simp only [W, List.replicate]
  unfold spec_FormatInt.f at h
  replace h := ifS h; rcases h with ⟨c1, h⟩ | ⟨c1, h⟩
  · cases h
    try simp only [W, eq_true c1, p1, p2, p3, p4, p5, p6, p7, p8, p9, p10, p11, p12]
  · try simp only [W, c1, p1, p2, p3, p4, p5, p6, p7, p8, p9, p10, p11, p12]
    refine loopN (fun x : Int × Bool × ByteArray => [.v (.int .i64 x.1), .u, .u, .v (.bool x.2.1), .v (.string x.2.2), .u, .u, .u, .u, .u, .u, .u, .u, .u, .u, .u, .u, .u, .u, .u, .u, .u, .u, .u, .u, .u, .u, .u, .u, .u]) (fun x => []) (fun n x => spec_FormatInt.l0 n x.1 x.2.1 x.2.2 = some r) (a0, (decide (a0 < 0)), (⟨#[]⟩ : ByteArray)) [] h (by simp only [W, p1, p2, p3, p4, p5, p6, p7, p8, p9, p10, p11, p12] <;> trivial) (by simp only [W, p1, p2, p3, p4, p5, p6, p7, p8, p9, p10, p11, p12] <;> trivial) rfl (fun _ h => by cases h) ?_
    intro n1 ⟨x2, x3, x4⟩ _ h
    simp only [spec_FormatInt.l0] at h
    replace h := ifS h; rcases h with ⟨c5, h⟩ | ⟨c5, h⟩
    · replace h := ifT h; rcases h with ⟨rfl, h⟩ | ⟨rfl, h⟩
      · replace h := ifN h; obtain ⟨c7, h⟩ := h
        cases h
        try simp only [W, eq_true c5, c7, p1, p2, p3, p4, p5, p6, p7, p8, p9, p10, p11, p12]
      · cases h
        try simp only [W, eq_true c5, p1, p2, p3, p4, p5, p6, p7, p8, p9, p10, p11, p12]
    · replace h := ifS h; rcases h with ⟨c6, h⟩ | ⟨c6, h⟩
      · replace h := bnd h; obtain ⟨t7, A, h⟩ := h
        try simp only [W, c5, c6, p1, p2, p3, p4, p5, p6, p7, p8, p9, p10, p11, p12]
        refine callR (spec_l01Figure.ctr A) ?_
        rw [Option.bind_some] at h
        replace h := ifN h; obtain ⟨c8, h⟩ := h
        try simp only [W, c5, c6, c8, p1, p2, p3, p4, p5, p6, p7, p8, p9, p10, p11, p12]
        exact nextN ((wrap64 (Int.tdiv x2 10)), x3, ((strOfNums (([t7] : List Int) : List Int)) ++ x4)) [] n1 (by omega) h (by simp only [W, p1, p2, p3, p4, p5, p6, p7, p8, p9, p10, p11, p12] <;> trivial) (by simp only [W, p1, p2, p3, p4, p5, p6, p7, p8, p9, p10, p11, p12] <;> trivial) rfl
      · replace h := bnd h; obtain ⟨t7, A, h⟩ := h
        try simp only [W, c5, c6, p1, p2, p3, p4, p5, p6, p7, p8, p9, p10, p11, p12]
        refine callR (spec_l01Figure.ctr A) ?_
        rw [Option.bind_some] at h
        replace h := ifN h; obtain ⟨c8, h⟩ := h
        try simp only [W, c5, c6, c8, p1, p2, p3, p4, p5, p6, p7, p8, p9, p10, p11, p12]
        exact nextN ((wrap64 (Int.tdiv x2 10)), x3, ((strOfNums (([t7] : List Int) : List Int)) ++ x4)) [] n1 (by omega) h (by simp only [W, p1, p2, p3, p4, p5, p6, p7, p8, p9, p10, p11, p12] <;> trivial) (by simp only [W, p1, p2, p3, p4, p5, p6, p7, p8, p9, p10, p11, p12] <;> trivial) rfl
set_option maxRecDepth 20000 in set_option maxHeartbeats 4000000 in open Nat renaming reduceAdd → p1, reduceSub → p2, reduceMul → p3, reduceDiv → p4, reduceBNe → p5, reduceBEq → p6, reduceEqDiff → p7, reduceLeDiff → p8, reduceLT → p9 in open Int renaming reduceLE → p10, reduceLT → p11, reduceEq → p12 in
theorem spec_FormatAct.ctr {k : Nat} {a0_0 : Int} {a0_1 : Int} {a0_2 : Int} {r1 : ByteArray} {r2 : Bool} (h : spec_FormatAct.f k a0_0 a0_1 a0_2 = some (r1, r2)) : Ctr Tryd.prog 32 [.ag [.v (.int .i64 a0_0), .v (.int .i64 a0_1), .v (.int .i64 a0_2)]] (.tu [.v (.string r1), .v (.bool r2)]) := by
  refine Ctr_of tyOk hm Tryd.func32 rfl rfl (by kernel_rfl) (n := 39) (rv := [.tmp 2, .tmp 3]) rfl rfl ?_
  simp only [W, List.replicate]
  unfold spec_FormatAct.f at h
  replace h := bnd h; obtain ⟨t1, A, h⟩ := h
  try simp only [W, p1, p2, p3, p4, p5, p6, p7, p8, p9, p10, p11, p12]
  refine callR (spec_ActOk.ctr A) ?_
  replace h := ifT h; rcases h with ⟨rfl, h⟩ | ⟨rfl, h⟩
  · rw [Option.bind_some] at h
    replace h := ifN h; obtain ⟨c3, h⟩ := h
    replace h := ifN h; obtain ⟨c4, h⟩ := h
    try simp only [List.length_nil] at c4
    rw [Option.bind_some] at h
    replace h := ifN h; obtain ⟨c5, h⟩ := h
    try simp only [List.length_cons, List.length_nil, Nat.zero_add] at c5
    try simp only [W, c3, c4, c5, p1, p2, p3, p4, p5, p6, p7, p8, p9, p10, p11, p12]
    refine loopN (fun x : ByteArray × Int × List Int × Int × Int × Int × Int => [.u, .bp 16 0, .u, .u, .v (.string x.1), .v (.int .i64 x.2.1), .lo 400, .v (.int .i64 x.2.2.2.1), .u, .u, .u, .u, .bp 16 0, .u, .u, .u, .u, .bp 16 0, .u, .u, .u, .bp 16 1, .u, .bp 16 2, .u, .u, .u, .u, .u, .u, .u, .u, .u, .u, .u, .u, .u, .u, .u, .u]) (fun x => [(16, .box 31 [.v (.int .i64 x.2.2.2.2.1), .v (.int .i64 x.2.2.2.2.2.1), .v (.int .i64 x.2.2.2.2.2.2)]), (400, .row 3 1 (List.map eI x.2.2.1))]) (fun n x => spec_FormatAct.l0 n x.1 x.2.1 x.2.2.1 x.2.2.2.1 = some (r1, r2)) ((rdOf ByteArray.empty (([(⟨#[]⟩ : ByteArray), (⟨#[100, 97, 121]⟩ : ByteArray), (⟨#[101, 110, 116, 101, 114]⟩ : ByteArray), (⟨#[119, 97, 108, 107]⟩ : ByteArray), (⟨#[108, 101, 97, 118, 101]⟩ : ByteArray), (⟨#[103, 117, 105, 100, 101]⟩ : ByteArray), (⟨#[102, 97, 114]⟩ : ByteArray)] : List ByteArray) : List ByteArray) a0_0), (rd (([0, 1, 0, 2, 0, 1, 0] : List Int) : List Int) a0_0), (([a0_1, a0_2] : List Int)), 0, a0_0, a0_1, a0_2) [] h (by simp only [W, p1, p2, p3, p4, p5, p6, p7, p8, p9, p10, p11, p12] <;> trivial) (by simp only [W, p1, p2, p3, p4, p5, p6, p7, p8, p9, p10, p11, p12] <;> trivial) rfl (fun _ h => by cases h) ?_
    intro n1 ⟨x6, x7, x8, x9, y10, y11, y12⟩ _ h
    simp only [spec_FormatAct.l0] at h
    replace h := ifS h; rcases h with ⟨c13, h⟩ | ⟨c13, h⟩
    · replace h := ifN h; obtain ⟨c14, h⟩ := h
      replace h := ifN h; obtain ⟨c15, h⟩ := h
      replace h := ifN h; obtain ⟨c16, h⟩ := h
      replace h := bnd h; obtain ⟨t17, A, h⟩ := h
      try simp only [W, c13, c14, c15, c16, p1, p2, p3, p4, p5, p6, p7, p8, p9, p10, p11, p12]
      refine callR (spec_FormatInt.ctr A) ?_
      replace h := ifN h; obtain ⟨c18, h⟩ := h
      try simp only [W, c13, c14, c15, c16, c18, p1, p2, p3, p4, p5, p6, p7, p8, p9, p10, p11, p12]
      exact nextN (((x6 ++ (⟨#[32]⟩ : ByteArray)) ++ t17), x7, x8, (wrap64 (x9 + 1)), y10, y11, y12) [] n1 (by omega) h (by simp only [W, p1, p2, p3, p4, p5, p6, p7, p8, p9, p10, p11, p12] <;> trivial) (by simp only [W, p1, p2, p3, p4, p5, p6, p7, p8, p9, p10, p11, p12] <;> trivial) rfl
    · cases h
      try simp only [W, c13, p1, p2, p3, p4, p5, p6, p7, p8, p9, p10, p11, p12]
  · cases h
    try simp only [W, p1, p2, p3, p4, p5, p6, p7, p8, p9, p10, p11, p12]
set_option maxRecDepth 20000 in set_option maxHeartbeats 4000000 in open Nat renaming reduceAdd → p1, reduceSub → p2, reduceMul → p3, reduceDiv → p4, reduceBNe → p5, reduceBEq → p6, reduceEqDiff → p7, reduceLeDiff → p8, reduceLT → p9 in open Int renaming reduceLE → p10, reduceLT → p11, reduceEq → p12 in
theorem laws_eqAct.ctr {a0_0 : Int} {a0_1 : Int} {a0_2 : Int} {a1_0 : Int} {a1_1 : Int} {a1_2 : Int} {r : Bool} (h : laws_eqAct.f a0_0 a0_1 a0_2 a1_0 a1_1 a1_2 = some r) : Ctr Tryd.prog 15 [.ag [.v (.int .i64 a0_0), .v (.int .i64 a0_1), .v (.int .i64 a0_2)], .ag [.v (.int .i64 a1_0), .v (.int .i64 a1_1), .v (.int .i64 a1_2)]] (.v (.bool r)) := by
  refine Ctr_of tyOk hm Tryd.func15 rfl rfl (by kernel_rfl) (n := 18) (rv := [.tmp 4]) rfl rfl ?_
  simp only [W, List.replicate]
  unfold laws_eqAct.f at h
  replace h := ifS h; rcases h with ⟨c1, h⟩ | ⟨c1, h⟩
  · replace h := ifS h; rcases h with ⟨c2, h⟩ | ⟨c2, h⟩
    · replace h := ifS h; rcases h with ⟨c3, h⟩ | ⟨c3, h⟩
      · cases h
        try simp only [W, eq_true c1, eq_true c2, eq_true c3, p1, p2, p3, p4, p5, p6, p7, p8, p9, p10, p11, p12]
      · cases h
        try simp only [W, eq_true c1, eq_true c2, c3, p1, p2, p3, p4, p5, p6, p7, p8, p9, p10, p11, p12]
    · cases h
      try simp only [W, eq_true c1, c2, p1, p2, p3, p4, p5, p6, p7, p8, p9, p10, p11, p12]
  · cases h
    try simp only [W, c1, p1, p2, p3, p4, p5, p6, p7, p8, p9, p10, p11, p12]
end Go.Proofs.YtdjdleldocfpaaaDoor.F
end

section
namespace Go.Proofs.YtdjdleldocfpaaaDoor.F
open Go.RowKit Go.Proofs.YtdjdleldocfpaaaDoorW.PrintWords Go.Proofs.YtdjdleldocfpaaaDoorW.PrintLast Go.Proofs.YtdjdleldocfpaaaDoorW.PrintMore
set_option linter.unusedVariables false
set_option linter.unusedSimpArgs false
attribute [local go_sem] max2_int min2_int max_two min_two
set_option maxRecDepth 20000 in set_option maxHeartbeats 4000000 in open Nat renaming reduceAdd → p1, reduceSub → p2, reduceMul → p3, reduceDiv → p4, reduceBNe → p5, reduceBEq → p6, reduceEqDiff → p7, reduceLeDiff → p8, reduceLT → p9 in open Int renaming reduceLE → p10, reduceLT → p11, reduceEq → p12 in
theorem laws_szActS.ctr {l0 : List (SlaAct)} {a1 : Int} {r : Int} (h : laws_szActS.f l0 a1 = some r) : Ctr Tryd.prog 8 [.pr 3 (l0.map elaAct), .v (.int .i64 a1)] (.v (.int .i64 r)) := by
  refine Ctr_of tyOk hm Tryd.func8 rfl rfl (by kernel_rfl) (n := 10) (rv := [.tmp 4]) rfl rfl ?_
  simp only [W, List.replicate]
  unfold laws_szActS.f at h
  replace h := ifS h; rcases h with ⟨c1, h⟩ | ⟨c1, h⟩
  · cases h
    try simp only [W, c1, p1, p2, p3, p4, p5, p6, p7, p8, p9, p10, p11, p12]
  · cases h
    try simp only [W, c1, p1, p2, p3, p4, p5, p6, p7, p8, p9, p10, p11, p12]
set_option maxRecDepth 20000 in set_option maxHeartbeats 4000000 in open Nat renaming reduceAdd → p1, reduceSub → p2, reduceMul → p3, reduceDiv → p4, reduceBNe → p5, reduceBEq → p6, reduceEqDiff → p7, reduceLeDiff → p8, reduceLT → p9 in open Int renaming reduceLE → p10, reduceLT → p11, reduceEq → p12 in
theorem spec_ScriptText.ctr {k : Nat} {l0 : List (SAct)} {r1 : ByteArray} {r2 : Bool} (h : spec_ScriptText.f k l0 = some (r1, r2)) : Ctr Tryd.prog 9 [.pr 3 (l0.map eAct)] (.tu [.v (.string r1), .v (.bool r2)]) := by
  refine Ctr_of tyOk hm Tryd.func9 rfl rfl (by kernel_rfl) (n := 35) (rv := [.tmp 2, .tmp 3]) rfl rfl ?_
  simp only [W, List.replicate]
  unfold spec_ScriptText.f at h
  try simp only [W, p1, p2, p3, p4, p5, p6, p7, p8, p9, p10, p11, p12]
  refine loopN (fun x : List (SAct) × List Int × Int => [.pr 3 (List.map eAct x.1), .u, .u, .u, .lo 128, .v (.int .i64 x.2.2), .u, .u, .u, .u, .u, .u, .u, .u, .u, .u, .u, .u, .u, .u, .u, .u, .u, .u, .u, .u, .u, .u, .u, .u, .u, .u, .u, .u, .u, .u]) (fun x => [(128, .row 5 1 (List.map eU8 x.2.1))]) (fun n x => spec_ScriptText.l0 n x.1 x.2.1 x.2.2 = some (r1, r2)) (l0, (([] : List Int)), 0) [] h (by simp only [W, p1, p2, p3, p4, p5, p6, p7, p8, p9, p10, p11, p12] <;> trivial) (by simp only [W, p1, p2, p3, p4, p5, p6, p7, p8, p9, p10, p11, p12] <;> trivial) rfl (fun _ h => by cases h) ?_
  intro n1 ⟨x1, x2, x3⟩ _ h
  simp only [spec_ScriptText.l0] at h
  replace h := ifS h; rcases h with ⟨c4, h⟩ | ⟨c4, h⟩
  · replace h := ifN h; obtain ⟨c5, h⟩ := h
    replace h := bnd h; obtain ⟨⟨t6_1, t6_2⟩, A, h⟩ := h
    dsimp only at h
    try simp only [W, c4, c5, p1, p2, p3, p4, p5, p6, p7, p8, p9, p10, p11, p12]
    refine callR (spec_FormatAct.ctr A) ?_
    replace h := ifT h; rcases h with ⟨rfl, h⟩ | ⟨rfl, h⟩
    · replace h := ifS h; rcases h with ⟨c8, h⟩ | ⟨c8, h⟩
      · cases h
        try simp only [W, c4, c5, c8, p1, p2, p3, p4, p5, p6, p7, p8, p9, p10, p11, p12]
      · replace h := ifN h; obtain ⟨c9, h⟩ := h
        replace h := ifN h; obtain ⟨c10, h⟩ := h
        try simp only [List.length_cons, List.length_nil, Nat.zero_add] at c10
        try simp only [W, c4, c5, c8, c9, c10, Nat.le_of_lt c10, p1, p2, p3, p4, p5, p6, p7, p8, p9, p10, p11, p12]
        exact nextN (x1, (x2 ++ bytesOf (t6_1 ++ (⟨#[10]⟩ : ByteArray))), (wrap64 (x3 + 1))) [(128, 528)] n1 (by omega) h (by simp only [W, p1, p2, p3, p4, p5, p6, p7, p8, p9, p10, p11, p12] <;> trivial) (by simp only [W, p1, p2, p3, p4, p5, p6, p7, p8, p9, p10, p11, p12] <;> trivial) rfl
    · cases h
      try simp only [W, c4, c5, p1, p2, p3, p4, p5, p6, p7, p8, p9, p10, p11, p12]
  · cases h
    try simp only [W, c4, p1, p2, p3, p4, p5, p6, p7, p8, p9, p10, p11, p12]
set_option maxRecDepth 20000 in set_option maxHeartbeats 4000000 in open Nat renaming reduceAdd → p1, reduceSub → p2, reduceMul → p3, reduceDiv → p4, reduceBNe → p5, reduceBEq → p6, reduceEqDiff → p7, reduceLeDiff → p8, reduceLT → p9 in open Int renaming reduceLE → p10, reduceLT → p11, reduceEq → p12 in
theorem laws_toAct.ctr {a0_0 : Int} {a0_1 : Int} {a0_2 : Int} {r1 : Int} {r2 : Int} {r3 : Int} (h : laws_toAct.f a0_0 a0_1 a0_2 = some (r1, r2, r3)) : Ctr Tryd.prog 33 [.ag [.v (.int .i64 a0_0), .v (.int .i64 a0_1), .v (.int .i64 a0_2)]] (.ag [.v (.int .i64 r1), .v (.int .i64 r2), .v (.int .i64 r3)]) := by
  refine Ctr_of tyOk hm Tryd.func33 rfl rfl (by kernel_rfl) (n := 13) (rv := [.cell 2 31]) rfl rfl ?_
  simp only [W, List.replicate]
  unfold laws_toAct.f at h
  cases h
  try simp only [W, p1, p2, p3, p4, p5, p6, p7, p8, p9, p10, p11, p12]
set_option maxRecDepth 20000 in set_option maxHeartbeats 4000000 in open Nat renaming reduceAdd → p1, reduceSub → p2, reduceMul → p3, reduceDiv → p4, reduceBNe → p5, reduceBEq → p6, reduceEqDiff → p7, reduceLeDiff → p8, reduceLT → p9 in open Int renaming reduceLE → p10, reduceLT → p11, reduceEq → p12 in
theorem laws_toActS.ctr {k : Nat} {l0 : List (SlaAct)} {r : List SAct} (h : laws_toActS.f k l0 = some r) : Ctr Tryd.prog 10 [.pr 3 (l0.map elaAct)] (.ow 31 3 (r.map eAct)) := by
  refine Ctr_of tyOk hm Tryd.func10 rfl rfl (by kernel_rfl) (n := 22) (rv := [.tmp 2]) rfl rfl ?_
  simp only [W, List.replicate]
  unfold laws_toActS.f at h
  replace h := ifN h; obtain ⟨c1, h⟩ := h
  replace h := ifN h; obtain ⟨c2, h⟩ := h
  try simp only [W, c1, c2, p1, p2, p3, p4, p5, p6, p7, p8, p9, p10, p11, p12]
  refine loopN (fun x : List (SlaAct) × List (SAct) × Int => [.pr 3 (List.map elaAct x.1), .u, .u, .lo 112, .v (.int .i64 x.2.2), .u, .u, .u, .u, .u, .u, .u, .u, .u, .u, .u, .u, .u, .u, .u, .u, .u, .u]) (fun x => [(112, .row 31 3 (List.map eAct x.2.1))]) (fun n x => laws_toActS.l0 n x.1 x.2.1 x.2.2 = some r) (l0, (List.replicate ((l0.length : Int) : Int).toNat zAct), 0) [] h (by simp only [W, p1, p2, p3, p4, p5, p6, p7, p8, p9, p10, p11, p12] <;> trivial) (by simp only [W, p1, p2, p3, p4, p5, p6, p7, p8, p9, p10, p11, p12] <;> trivial) rfl (fun _ h => by cases h) ?_
  intro n1 ⟨x3, x4, x5⟩ _ h
  simp only [laws_toActS.l0] at h
  replace h := ifS h; rcases h with ⟨c6, h⟩ | ⟨c6, h⟩
  · replace h := ifN h; obtain ⟨c7, h⟩ := h
    replace h := bnd h; obtain ⟨⟨t8_1, t8_2, t8_3⟩, A, h⟩ := h
    dsimp only at h
    try simp only [W, c6, c7, p1, p2, p3, p4, p5, p6, p7, p8, p9, p10, p11, p12]
    refine callR (laws_toAct.ctr A) ?_
    replace h := ifN h; obtain ⟨c9, h⟩ := h
    try simp only [W, c6, c7, c9, p1, p2, p3, p4, p5, p6, p7, p8, p9, p10, p11, p12]
    exact nextN (x3, (x4.set (x5 : Int).toNat (⟨t8_1, t8_2, t8_3⟩ : SAct)), (wrap64 (x5 + 1))) [] n1 (by omega) h (by simp only [W, p1, p2, p3, p4, p5, p6, p7, p8, p9, p10, p11, p12] <;> trivial) (by simp only [W, p1, p2, p3, p4, p5, p6, p7, p8, p9, p10, p11, p12] <;> trivial) rfl
  · cases h
    try simp only [W, c6, p1, p2, p3, p4, p5, p6, p7, p8, p9, p10, p11, p12]
set_option maxRecDepth 20000 in set_option maxHeartbeats 4000000 in open Nat renaming reduceAdd → p1, reduceSub → p2, reduceMul → p3, reduceDiv → p4, reduceBNe → p5, reduceBEq → p6, reduceEqDiff → p7, reduceLeDiff → p8, reduceLT → p9 in open Int renaming reduceLE → p10, reduceLT → p11, reduceEq → p12 in
theorem impl_ScriptText.ctr {k : Nat} {l0 : List (SAct)} {r1 : ByteArray} {r2 : Bool} (h : impl_ScriptText.f k l0 = some (r1, r2)) : Ctr Tryd.prog 11 [.pr 3 (l0.map eAct)] (.tu [.v (.string r1), .v (.bool r2)]) := by
  refine Ctr_of tyOk hm Tryd.func11 rfl rfl (by kernel_rfl) (n := 30) (rv := [.tmp 2, .tmp 3]) rfl rfl ?_
  simp only [W, List.replicate]
  unfold impl_ScriptText.f at h
  replace h := ifS h; rcases h with ⟨c1, h⟩ | ⟨c1, h⟩
  · cases h
    try simp only [W, c1, p1, p2, p3, p4, p5, p6, p7, p8, p9, p10, p11, p12]
  · try simp only [W, c1, p1, p2, p3, p4, p5, p6, p7, p8, p9, p10, p11, p12]
    refine loopN (fun x : ByteArray × List (SAct) × Int × Int => [.u, .u, .u, .u, .v (.string x.1), .u, .u, .u, .u, .u, .u, .u, .pr 3 (List.map eAct x.2.1), .v (.int .i64 x.2.2.1), .v (.int .i64 x.2.2.2), .u, .u, .u, .u, .u, .u, .u, .u, .u, .u, .u, .u, .u, .u, .u, .u]) (fun x => []) (fun n x => impl_ScriptText.l0 n x.1 x.2.1 x.2.2.1 x.2.2.2 = some (r1, r2)) ((⟨#[]⟩ : ByteArray), l0, (l0.length : Int), 0) [] h (by simp only [W, p1, p2, p3, p4, p5, p6, p7, p8, p9, p10, p11, p12] <;> trivial) (by simp only [W, p1, p2, p3, p4, p5, p6, p7, p8, p9, p10, p11, p12] <;> trivial) rfl (fun _ h => by cases h) ?_
    intro n1 ⟨x2, x3, x4, x5⟩ _ h
    simp only [impl_ScriptText.l0] at h
    replace h := ifS h; rcases h with ⟨c6, h⟩ | ⟨c6, h⟩
    · replace h := ifN h; obtain ⟨c7, h⟩ := h
      replace h := ifN h; obtain ⟨c8, h⟩ := h
      replace h := bnd h; obtain ⟨⟨t9_1, t9_2⟩, A, h⟩ := h
      dsimp only at h
      try simp only [W, c6, c7, c8, p1, p2, p3, p4, p5, p6, p7, p8, p9, p10, p11, p12]
      refine callR (impl_FormatAct.ctr A) ?_
      replace h := ifT h; rcases h with ⟨rfl, h⟩ | ⟨rfl, h⟩
      · replace h := ifN h; obtain ⟨c11, h⟩ := h
        replace h := ifN h; obtain ⟨c12, h⟩ := h
        try simp only [W, c6, c7, c8, c11, c12, p1, p2, p3, p4, p5, p6, p7, p8, p9, p10, p11, p12]
        exact nextN ((x2 ++ (t9_1 ++ (⟨#[10]⟩ : ByteArray))), x3, x4, (wrap64 (x5 + 1))) [] n1 (by omega) h (by simp only [W, p1, p2, p3, p4, p5, p6, p7, p8, p9, p10, p11, p12] <;> trivial) (by simp only [W, p1, p2, p3, p4, p5, p6, p7, p8, p9, p10, p11, p12] <;> trivial) rfl
      · cases h
        try simp only [W, c6, c7, c8, p1, p2, p3, p4, p5, p6, p7, p8, p9, p10, p11, p12]
    · cases h
      try simp only [W, c6, p1, p2, p3, p4, p5, p6, p7, p8, p9, p10, p11, p12]
set_option maxRecDepth 20000 in set_option maxHeartbeats 4000000 in open Nat renaming reduceAdd → p1, reduceSub → p2, reduceMul → p3, reduceDiv → p4, reduceBNe → p5, reduceBEq → p6, reduceEqDiff → p7, reduceLeDiff → p8, reduceLT → p9 in open Int renaming reduceLE → p10, reduceLT → p11, reduceEq → p12 in
theorem laws_eqActS.ctr {k : Nat} {l0 : List (SAct)} {l1 : List (SAct)} {r : Bool} (h : laws_eqActS.f k l0 l1 = some r) : Ctr Tryd.prog 12 [.pr 3 (l0.map eAct), .pr 3 (l1.map eAct)] (.v (.bool r)) := by
  refine Ctr_of tyOk hm Tryd.func12 rfl rfl (by kernel_rfl) (n := 25) (rv := [.tmp 4]) rfl rfl ?_
  simp only [W, List.replicate]
  unfold laws_eqActS.f at h
  replace h := ifS h; rcases h with ⟨c1, h⟩ | ⟨c1, h⟩
  · try simp only [W, eq_true c1, p1, p2, p3, p4, p5, p6, p7, p8, p9, p10, p11, p12]
    refine loopN (fun x : List (SAct) × List (SAct) × Int => [.pr 3 (List.map eAct x.1), .pr 3 (List.map eAct x.2.1), .u, .u, .u, .v (.int .i64 x.2.2), .u, .u, .u, .u, .u, .u, .u, .u, .u, .u, .u, .u, .u, .u, .u, .u, .u, .u, .u, .u, .u]) (fun x => []) (fun n x => laws_eqActS.l0 n x.1 x.2.1 x.2.2 = some r) (l0, l1, 0) [] h (by simp only [W, p1, p2, p3, p4, p5, p6, p7, p8, p9, p10, p11, p12] <;> trivial) (by simp only [W, p1, p2, p3, p4, p5, p6, p7, p8, p9, p10, p11, p12] <;> trivial) rfl (fun _ h => by cases h) ?_
    intro n1 ⟨x2, x3, x4⟩ _ h
    simp only [laws_eqActS.l0] at h
    replace h := ifS h; rcases h with ⟨c5, h⟩ | ⟨c5, h⟩
    · replace h := ifN h; obtain ⟨c6, h⟩ := h
      replace h := ifN h; obtain ⟨c7, h⟩ := h
      replace h := bnd h; obtain ⟨t8, A, h⟩ := h
      try simp only [W, c5, c6, c7, p1, p2, p3, p4, p5, p6, p7, p8, p9, p10, p11, p12]
      refine callR (laws_eqAct.ctr A) ?_
      replace h := ifT h; rcases h with ⟨rfl, h⟩ | ⟨rfl, h⟩
      · try simp only [W, c5, c6, c7, p1, p2, p3, p4, p5, p6, p7, p8, p9, p10, p11, p12]
        exact nextN (x2, x3, (wrap64 (x4 + 1))) [] n1 (by omega) h (by simp only [W, p1, p2, p3, p4, p5, p6, p7, p8, p9, p10, p11, p12] <;> trivial) (by simp only [W, p1, p2, p3, p4, p5, p6, p7, p8, p9, p10, p11, p12] <;> trivial) rfl
      · cases h
        try simp only [W, c5, c6, c7, p1, p2, p3, p4, p5, p6, p7, p8, p9, p10, p11, p12]
    · cases h
      try simp only [W, c5, p1, p2, p3, p4, p5, p6, p7, p8, p9, p10, p11, p12]
  · cases h
    try simp only [W, c1, p1, p2, p3, p4, p5, p6, p7, p8, p9, p10, p11, p12]
end Go.Proofs.YtdjdleldocfpaaaDoor.F
end

section
namespace Go.Proofs.YtdjdleldocfpaaaDoor.F
open Go.RowKit Go.Proofs.YtdjdleldocfpaaaDoorW.PrintWords Go.Proofs.YtdjdleldocfpaaaDoorW.PrintLast Go.Proofs.YtdjdleldocfpaaaDoorW.PrintMore
set_option linter.unusedVariables false
set_option linter.unusedSimpArgs false
def laws_FnExactScriptText.j0 : Nat → List (SlaAct) → List (SAct) → Bool → Option (Bool)
  | 0, _, _, _ => none
  | k + 1, x0, x6, x34 => if x34 = true then (some false) else ((laws_toActS.f k x0).bind fun t204 => ((laws_eqActS.f k x6 t204).bind fun t207 => (if t207 = true then (some true) else (some false))))
def laws_FnExactScriptText.f (k : Nat) (l0 : List (SlaAct)) : Option (Bool) := (laws_szActS.f l0 1048576).bind fun t193 => (if t193 < 0 then (some true) else ((laws_toActS.f k l0).bind fun t194 => ((spec_ScriptText.f k t194).bind fun bt197 => ((laws_toActS.f k l0).bind fun t199 => ((impl_ScriptText.f k t199).bind fun bt202 => (if bt202.1.toList = bt197.1.toList then (laws_FnExactScriptText.j0 k l0 t199 (bt202.2 != bt197.2)) else (laws_FnExactScriptText.j0 k l0 t199 true)))))))
end Go.Proofs.YtdjdleldocfpaaaDoor.F
end

section
namespace Go.Proofs.YtdjdleldocfpaaaDoor.F
open Go.RowKit Go.Proofs.YtdjdleldocfpaaaDoorW.PrintWords Go.Proofs.YtdjdleldocfpaaaDoorW.PrintLast Go.Proofs.YtdjdleldocfpaaaDoorW.PrintMore
set_option linter.unusedVariables false
set_option linter.unusedSimpArgs false
attribute [local go_sem] max2_int min2_int max_two min_two
set_option maxRecDepth 20000 in set_option maxHeartbeats 4000000 in open Nat renaming reduceAdd → p1, reduceSub → p2, reduceMul → p3, reduceDiv → p4, reduceBNe → p5, reduceBEq → p6, reduceEqDiff → p7, reduceLeDiff → p8, reduceLT → p9 in open Int renaming reduceLE → p10, reduceLT → p11, reduceEq → p12 in
theorem laws_FnExactScriptText.ctr {k : Nat} {l0 : List (SlaAct)} {r : Bool} (h : laws_FnExactScriptText.f k l0 = some r) : Ctr Tryd.prog 3 [.pr 3 (l0.map elaAct)] (.v (.bool r)) := by
  refine Ctr_of tyOk hm Tryd.func3 rfl rfl (by kernel_rfl) (n := 39) (rv := [.tmp 2]) rfl rfl ?_
  simp only [W, List.replicate]
  unfold laws_FnExactScriptText.f at h
  replace h := bnd h; obtain ⟨t1, A, h⟩ := h
  try simp only [W, p1, p2, p3, p4, p5, p6, p7, p8, p9, p10, p11, p12]
  refine callR (laws_szActS.ctr A) ?_
  replace h := ifS h; rcases h with ⟨c2, h⟩ | ⟨c2, h⟩
  · cases h
    try simp only [W, c2, p1, p2, p3, p4, p5, p6, p7, p8, p9, p10, p11, p12]
  · replace h := bnd h; obtain ⟨t3, A, h⟩ := h
    try simp only [W, c2, p1, p2, p3, p4, p5, p6, p7, p8, p9, p10, p11, p12]
    refine callR (laws_toActS.ctr A) ?_
    replace h := bnd h; obtain ⟨⟨t4_1, t4_2⟩, A, h⟩ := h
    dsimp only at h
    try simp only [W, c2, p1, p2, p3, p4, p5, p6, p7, p8, p9, p10, p11, p12]
    refine callR (spec_ScriptText.ctr A) ?_
    replace h := bnd h; obtain ⟨t5, A, h⟩ := h
    try simp only [W, c2, p1, p2, p3, p4, p5, p6, p7, p8, p9, p10, p11, p12]
    refine callR (laws_toActS.ctr A) ?_
    replace h := bnd h; obtain ⟨⟨t6_1, t6_2⟩, A, h⟩ := h
    dsimp only at h
    try simp only [W, c2, p1, p2, p3, p4, p5, p6, p7, p8, p9, p10, p11, p12]
    refine callR (impl_ScriptText.ctr A) ?_
    replace h := ifS h; rcases h with ⟨c7, h⟩ | ⟨c7, h⟩
    · rcases k with _ | m8; · cases h
      rw [laws_FnExactScriptText.j0] at h
      replace h := ifT h; rcases h with ⟨c9, h⟩ | ⟨c9, h⟩ <;> try simp only [bEq] at c9
      · cases h
        try simp only [W, c2, eq_true c7, c9, p1, p2, p3, p4, p5, p6, p7, p8, p9, p10, p11, p12]
      · replace h := bnd h; obtain ⟨t10, A, h⟩ := h
        try simp only [W, c2, eq_true c7, c9, p1, p2, p3, p4, p5, p6, p7, p8, p9, p10, p11, p12]
        refine callR (laws_toActS.ctr A) ?_
        replace h := bnd h; obtain ⟨t11, A, h⟩ := h
        try simp only [W, c2, eq_true c7, c9, p1, p2, p3, p4, p5, p6, p7, p8, p9, p10, p11, p12]
        refine callR (laws_eqActS.ctr A) ?_
        replace h := ifT h; rcases h with ⟨rfl, h⟩ | ⟨rfl, h⟩
        · cases h
          try simp only [W, c2, eq_true c7, c9, p1, p2, p3, p4, p5, p6, p7, p8, p9, p10, p11, p12]
        · cases h
          try simp only [W, c2, eq_true c7, c9, p1, p2, p3, p4, p5, p6, p7, p8, p9, p10, p11, p12]
    · rcases k with _ | m8; · cases h
      rw [laws_FnExactScriptText.j0] at h
      rw [if_pos rfl] at h
      cases h
      try simp only [W, c2, c7, p1, p2, p3, p4, p5, p6, p7, p8, p9, p10, p11, p12]
theorem laws_FnExactScriptText.calls (k : Nat) (A0 : Option Addr) (c0 : Nat) (l0 : List (SlaAct)) (w : World) (hgl : Gl w) (hr0 : Kd.C k68 w A0 l0.length l0) (hc0 : l0.length ≤ c0) (h : laws_FnExactScriptText.f k l0 = some true) :
    Calls Tryd.prog 3 #[.slice A0 l0.length c0] w fun e w' => e = .returned (.bool true) ∧ Below w.heap.size w w' := by
  refine ((laws_FnExactScriptText.ctr h).2 w [.slice A0 l0.length c0] hgl (by simp only [RepL, Rep]; exact ⟨_, _, rfl, at_of_C E_elaAct hr0 hc0, rfl⟩)).mono ?_
  rintro _ _ ⟨y, L, rfl, hR, _, hb⟩
  exact ⟨congrArg Ending.returned (RepR_pln rfl hR).1, hb⟩
end Go.Proofs.YtdjdleldocfpaaaDoor.F
end

section
namespace Go.Proofs.YtdjdleldocfpaaaDoor.F
open Go.RowKit Go.Proofs.YtdjdleldocfpaaaDoorW.PrintWords Go.Proofs.YtdjdleldocfpaaaDoorW.PrintLast Go.Proofs.YtdjdleldocfpaaaDoorW.PrintMore
set_option linter.unusedVariables false
set_option linter.unusedSimpArgs false
theorem w64 {x : Int} (h1 : -9223372036854775808 ≤ x) (h2 : x ≤ 9223372036854775807) : wrap64 x = x := by unfold wrap64; omega
theorem set_loop {α β : Type} (z : α) {F : Nat → List β → Int → Option (List β)} {l : List α} {g : α → β} {c : Nat}
    (hF : ∀ k acc (i : Nat), c ≤ k → i < l.length → acc.length = l.length → F (k + 1) acc (i : Int) = F k (acc.set i (g (l.getD i z))) ((i : Int) + 1)) (hE : ∀ k acc, c ≤ k → F (k + 1) acc (l.length : Int) = some acc) {k : Nat} (acc : List β) (ha : acc.length = l.length) (hk : l.length + c + 1 ≤ k) :
    F k acc 0 = some (l.map g) := by
  have key : ∀ (d i : Nat) (k : Nat) (acc : List β), i + d = l.length → d + c + 1 ≤ k → acc.length = l.length → F k acc (i : Int) = some (acc.take i ++ (l.drop i).map g) := by
    intro d
    induction d with
    | zero =>
      intro i k acc hi hk ha
      obtain ⟨m, rfl⟩ : ∃ m, k = m + 1 := ⟨k - 1, by omega⟩
      obtain rfl : i = l.length := by omega
      rw [hE m acc (by omega), List.take_of_length_le (by omega), List.drop_of_length_le (by omega)]
      simp
    | succ d ih =>
      intro i k acc hi hk ha
      obtain ⟨m, rfl⟩ : ∃ m, k = m + 1 := ⟨k - 1, by omega⟩
      have hil : i < l.length := by omega
      rw [hF m acc i (by omega) hil ha]
      have := ih (i + 1) m (acc.set i (g (l.getD i z))) (by omega) (by omega) (by simpa using ha)
      rw [Int.natCast_add] at this
      refine this.trans ?_
      congr 1
      rw [List.take_add_one, List.getElem?_set]
      simp [ha, hil, List.getD_eq_getElem?_getD, List.getElem?_eq_getElem hil]
      have e1 : List.drop i (List.map g l) = g l[i] :: List.drop (i + 1) (List.map g l) := by
        rw [List.drop_eq_getElem_cons (l := List.map g l) (i := i) (by simpa using hil)]
        simp
      rw [e1, List.take_set_of_le (Nat.le_refl _)]
  have := key l.length 0 k acc (by omega) (by omega) ha
  simpa using this
theorem all_loop {α : Type} (z : α) {F : Nat → Int → Option Bool} {l : List α} {p : α → Bool} {c : Nat} {b : Bool}
    (hF : ∀ k (i : Nat), c ≤ k → i < l.length → F (k + 1) (i : Int) = if p (l.getD i z) = true then F k ((i : Int) + 1) else some false) (hE : ∀ k, c ≤ k → F (k + 1) (l.length : Int) = some b) {k : Nat} (hk : l.length + c + 1 ≤ k) :
    F k 0 = some (l.all p && b) := by
  have key : ∀ (d i : Nat) (k : Nat), i + d = l.length → d + c + 1 ≤ k → F k (i : Int) = some ((l.drop i).all p && b) := by
    intro d
    induction d with
    | zero =>
      intro i k hi hk
      obtain ⟨m, rfl⟩ : ∃ m, k = m + 1 := ⟨k - 1, by omega⟩
      obtain rfl : i = l.length := by omega
      rw [hE m (by omega), List.drop_of_length_le (by omega)]
      simp
    | succ d ih =>
      intro i k hi hk
      obtain ⟨m, rfl⟩ : ∃ m, k = m + 1 := ⟨k - 1, by omega⟩
      have hil : i < l.length := by omega
      rw [hF m i (by omega) hil, List.drop_eq_getElem_cons hil, List.all_cons]
      have e : l.getD i z = l[i] := by rw [List.getD_eq_getElem?_getD, List.getElem?_eq_getElem hil]; rfl
      rw [e]
      have := ih (i + 1) m (by omega) (by omega)
      rw [Int.natCast_add] at this
      by_cases h : p l[i] = true
      · rw [if_pos h, h]
        simpa using this
      · rw [if_neg h]
        simp at h
        simp [h]
  have := key l.length 0 k (by omega) (by omega)
  simpa using this
theorem w64_succ {i n : Nat} (h : i < n) (hn : n ≤ 9223372036854775807) : wrap64 ((i : Int) + 1) = (i : Int) + 1 := w64 (by omega) (by omega)
end Go.Proofs.YtdjdleldocfpaaaDoor.F
end

section
namespace Go.Proofs.YtdjdleldocfpaaaDoor.F
open Go.RowKit Go.Proofs.YtdjdleldocfpaaaDoorW.PrintWords Go.Proofs.YtdjdleldocfpaaaDoorW.PrintLast Go.Proofs.YtdjdleldocfpaaaDoorW.PrintMore
set_option linter.unusedVariables false
set_option linter.unusedSimpArgs false
def aok (t a b : Int) : Bool :=
  if t = 1 then decide (1 ≤ a ∧ a ≤ 20 ∧ b = 0) else if t = 3 then decide (0 ≤ a ∧ a ≤ 5 ∧ 0 ≤ b ∧ b ≤ 3) else if t = 5 then decide (0 ≤ a ∧ a ≤ 5 ∧ b = 0) else if t = 2 ∨ t = 4 ∨ t = 6 then decide (a = 0 ∧ b = 0) else false
theorem impl_isDirection_eq (d : Int) : impl_isDirection.f d = some (decide (0 ≤ d ∧ d ≤ 3)) := by
  unfold impl_isDirection.f
  by_cases h1 : d ≥ 0 <;> simp [h1] <;> omega
theorem spec_l01In_eqA (x a b : Int) : spec_l01In.f x a b = some (decide (a ≤ x ∧ x ≤ b)) := by
  unfold spec_l01In.f
  by_cases h1 : x ≥ a
  · simp [h1]
  · rw [if_neg h1]; simp; omega
theorem impl_ActOk_eq {k : Nat} (hk : 1 ≤ k) (t a b : Int) : impl_ActOk.f k t a b = some (aok t a b) := by
  obtain ⟨m, rfl⟩ : ∃ m, k = m + 1 := ⟨k - 1, by omega⟩
  have e : impl_ActOk.f (m + 1) t a b = impl_ActOk.j0 (m + 1) (decide (0 ≤ a ∧ a ≤ 5)) t a b := by
    unfold impl_ActOk.f
    by_cases h : a ≥ 0
    · rw [if_pos h]; congr 1; rw [Bool.eq_iff_iff]; simp; omega
    · rw [if_neg h]; congr 1; symm; simp; omega
  rw [e]
  simp only [impl_ActOk.j0, impl_isDirection_eq, Option.bind_some]
  unfold aok
  by_cases t1 : t = 1
  · simp only [t1, if_true]
    by_cases h1 : a ≥ 1
    · rw [if_pos h1]
      by_cases h2 : a ≤ 20
      · rw [if_pos h2]; congr 1; rw [Bool.eq_iff_iff]; simp; omega
      · rw [if_neg h2]; congr 1; symm; simp; omega
    · rw [if_neg h1]; congr 1; symm; simp; omega
  by_cases t3 : t = 3
  · simp only [t3]
    by_cases h1 : 0 ≤ a ∧ a ≤ 5
    · simp [h1]
    · simp [h1]; omega
  by_cases t5 : t = 5
  · simp only [t5]
    by_cases h1 : 0 ≤ a ∧ a ≤ 5
    · simp [h1]; rw [Bool.eq_iff_iff]; simp
    · simp [h1]; omega
  by_cases t2 : t = 2
  · simp only [t2]
    by_cases h1 : a = 0
    · simp [h1]; rw [Bool.eq_iff_iff]; simp
    · simp [h1]
  by_cases t4 : t = 4
  · simp only [t4]
    by_cases h1 : a = 0
    · simp [h1]; rw [Bool.eq_iff_iff]; simp
    · simp [h1]
  by_cases t6 : t = 6
  · simp only [t6]
    by_cases h1 : a = 0
    · simp [h1]; rw [Bool.eq_iff_iff]; simp
    · simp [h1]
  simp [t1, t2, t3, t4, t5, t6]
theorem spec_ActOk_eq {k : Nat} (hk : 1 ≤ k) (t a b : Int) : spec_ActOk.f k t a b = some (aok t a b) := by
  obtain ⟨m, rfl⟩ : ∃ m, k = m + 1 := ⟨k - 1, by omega⟩
  have e : spec_ActOk.f (m + 1) t a b = spec_ActOk.j0 (m + 1) t (decide (t = 2 ∨ t = 4 ∨ t = 6)) t a b := by
    unfold spec_ActOk.f
    by_cases h : t = 2
    · subst h; rfl
    · by_cases h4 : t = 4
      · subst h4; rfl
      · rw [if_neg h, if_neg h4]
        congr 1
        rw [Bool.eq_iff_iff]; simp [h, h4]
  rw [e]
  simp only [spec_ActOk.j0, spec_l01In_eqA, Option.bind_some]
  unfold aok
  by_cases t1 : t = 1
  · simp only [t1]
    by_cases h1 : 1 ≤ a ∧ a ≤ 20
    · simp [h1]; rw [Bool.eq_iff_iff]; simp
    · simp [h1]; omega
  by_cases t3 : t = 3
  · simp only [t3]
    by_cases h1 : 0 ≤ a ∧ a ≤ 5
    · simp [h1]
    · simp [h1]; omega
  by_cases t5 : t = 5
  · simp only [t5]
    by_cases h1 : 0 ≤ a ∧ a ≤ 5
    · simp [h1]; rw [Bool.eq_iff_iff]; simp
    · simp [h1]; omega
  by_cases t2 : t = 2 ∨ t = 4 ∨ t = 6
  · simp only [t2, t1, t3, t5]
    by_cases h1 : a = 0
    · simp [h1]; rw [Bool.eq_iff_iff]; simp
    · simp [h1]
  simp [t1, t2, t3, t5]
end Go.Proofs.YtdjdleldocfpaaaDoor.F
end

section
namespace Go.Proofs.YtdjdleldocfpaaaDoor.F
open Go.RowKit Go.Proofs.YtdjdleldocfpaaaDoorW.PrintWords Go.Proofs.YtdjdleldocfpaaaDoorW.PrintLast Go.Proofs.YtdjdleldocfpaaaDoorW.PrintMore
set_option linter.unusedVariables false
set_option linter.unusedSimpArgs false
theorem LeO_ge {α : Type} {F : Nat → Option α} (hm : ∀ k, LeO (F k) (F (k + 1))) {k0 : Nat} {r : α} (h : F k0 = some r) : ∀ k, k0 ≤ k → F k = some r := by
  intro k hk
  induction k with
  | zero => obtain rfl : k0 = 0 := by omega
            exact h
  | succ k ih =>
    by_cases e : k0 = k + 1
    · subst e; exact h
    · exact hm k r (ih (by omega))
def atx (t a b : Int) : ByteArray := match impl_FormatAct.f 20 t a b with
  | some (s, _) => s
  | none => ByteArray.empty
def fck (t a b : Int) : Bool := match impl_FormatAct.f 20 t a b, spec_FormatAct.f 20 t a b with
  | some (s, u), some (s', u') => u && u' && decide (s.data.toList = s'.data.toList) && decide (s.size ≤ 12) && decide (1 ≤ s.size) && s.data.toList.all fun c => decide (32 ≤ c) && decide (c ≤ 126)
  | _, _ => false
def six' : List Int := [0, 1, 2, 3, 4, 5]
def upto20' : List Int := [1, 2, 3, 4, 5, 6, 7, 8, 9, 10, 11, 12, 13, 14, 15, 16, 17, 18, 19, 20]
theorem aok_cases {Q : Int → Int → Int → Bool} (h1 : ∀ b ∈ upto20', Q 1 b 0 = true) (h2 : ∀ a ∈ ([2, 4, 6] : List Int), Q a 0 0 = true) (h3 : ∀ b ∈ six', ∀ c ∈ ([0, 1, 2, 3] : List Int), Q 3 b c = true) (h4 : ∀ b ∈ six', Q 5 b 0 = true) {t a b : Int} (h : aok t a b = true) : Q t a b = true := by
  unfold aok at h
  split at h
  · rename_i e
    have h := of_decide_eq_true h
    obtain ⟨q1, q2, rfl⟩ := h
    subst e
    exact h1 a (by simp only [upto20', List.mem_cons, List.not_mem_nil, or_false]; omega)
  · split at h
    · rename_i e
      have h := of_decide_eq_true h
      subst e
      exact h3 a (by simp only [six', List.mem_cons, List.not_mem_nil, or_false]; omega) b (by simp only [List.mem_cons, List.not_mem_nil, or_false]; omega)
    · split at h
      · rename_i e
        have h := of_decide_eq_true h
        obtain ⟨q1, q2, rfl⟩ := h
        subst e
        exact h4 a (by simp only [six', List.mem_cons, List.not_mem_nil, or_false]; omega)
      · split at h
        · rename_i e
          have h := of_decide_eq_true h
          obtain ⟨rfl, rfl⟩ := h
          exact h2 t (by simp only [List.mem_cons, List.not_mem_nil, or_false]; exact e)
        · cases h
theorem fck_ok {t a b : Int} (h : aok t a b = true) : fck t a b = true :=
  aok_cases (Q := fck) (by decide +kernel) (by decide +kernel) (by decide +kernel) (by decide +kernel) h
theorem FormatAct_ok {t a b : Int} (h : aok t a b = true) {k : Nat} (hk : 20 ≤ k) : impl_FormatAct.f k t a b = some (atx t a b, true) ∧ spec_FormatAct.f k t a b = some (atx t a b, true) ∧ (atx t a b).size ≤ 12 ∧ 1 ≤ (atx t a b).size ∧ ∀ c ∈ (atx t a b).data.toList, 32 ≤ c ∧ c ≤ 126 := by
  have hf := fck_ok h
  unfold fck at hf
  split at hf
  · rename_i s u s' u' e1 e2
    simp only [Bool.and_eq_true, decide_eq_true_eq, List.all_eq_true] at hf
    obtain ⟨⟨⟨⟨⟨rfl, rfl⟩, h3⟩, h4⟩, h5⟩, h6⟩ := hf
    have hs : s' = s := by
      cases s; cases s'
      simp only [ByteArray.mk.injEq]
      exact Array.ext' h3.symm
    have ha : atx t a b = s := by unfold atx; rw [e1]
    rw [ha]
    refine ⟨LeO_ge (F := fun k => impl_FormatAct.f k t a b) (fun k => impl_FormatAct.mono _ _ _ k) e1 k hk, ?_, h4, h5, h6⟩
    rw [← hs]
    exact LeO_ge (F := fun k => spec_FormatAct.f k t a b) (fun k => spec_FormatAct.mono _ _ _ k) e2 k hk
  · cases hf
theorem FormatAct_no {t a b : Int} (h : aok t a b = false) {k : Nat} (hk : 1 ≤ k) : impl_FormatAct.f k t a b = some (⟨#[]⟩, false) ∧ spec_FormatAct.f k t a b = some (⟨#[]⟩, false) := by
  unfold impl_FormatAct.f spec_FormatAct.f
  rw [spec_ActOk_eq hk, h, Option.bind_some, if_neg Bool.false_ne_true, impl_ActOk_eq hk, h, Option.bind_some, if_neg Bool.false_ne_true]
  exact ⟨rfl, rfl⟩
theorem ba_size_app (a b : ByteArray) : (a ++ b).size = a.size + b.size := by simp
theorem strOfNums_bytesOf (l : List Int) (s : ByteArray) : strOfNums (l ++ bytesOf s) = strOfNums l ++ s := by
  have h : ∀ (x y : ByteArray), x.data.toList = y.data.toList → x = y := fun x y h => by
    cases x; cases y
    simp only [ByteArray.mk.injEq]
    exact Array.ext' h
  refine h _ _ ?_
  rw [ByteArray.data_append, Array.toList_append, strOfNums_data, strOfNums_data, List.map_append]
  congr 1
  unfold bytesOf
  rw [List.map_map]
  apply List.ext_getElem? 
  intro i
  rw [List.getElem?_map]
  cases s.data.toList[i]? with
  | none => rfl
  | some x => simp
end Go.Proofs.YtdjdleldocfpaaaDoor.F
end

section
namespace Go.Proofs.YtdjdleldocfpaaaDoor.F
open Go.RowKit Go.Proofs.YtdjdleldocfpaaaDoorW.PrintWords Go.Proofs.YtdjdleldocfpaaaDoorW.PrintLast Go.Proofs.YtdjdleldocfpaaaDoorW.PrintMore
set_option linter.unusedVariables false
set_option linter.unusedSimpArgs false
def gok (w h : Int) : Bool := decide (1 ≤ w ∧ w ≤ 4 ∧ 1 ≤ h ∧ h ≤ 4)
def cells (w h : Int) : Int := if gok w h then w * h else 0
def gaps (w h : Int) : Int := if gok w h then (w - 1) * h + w * (h - 1) else 0
end Go.Proofs.YtdjdleldocfpaaaDoor.F
end

section
namespace Go.Proofs.YtdjdleldocfpaaaDoor.F
open Go.RowKit Go.Proofs.YtdjdleldocfpaaaDoorW.PrintWords Go.Proofs.YtdjdleldocfpaaaDoorW.PrintLast Go.Proofs.YtdjdleldocfpaaaDoorW.PrintMore
set_option linter.unusedVariables false
set_option linter.unusedSimpArgs false
def mok (w h o : Int) : Bool := gok w h && decide (0 ≤ o ∧ o < 2 ^ (gaps w h).toNat)
end Go.Proofs.YtdjdleldocfpaaaDoor.F
end

section
namespace Go.Proofs.YtdjdleldocfpaaaDoor.F
open Go.RowKit Go.Proofs.YtdjdleldocfpaaaDoorW.PrintWords Go.Proofs.YtdjdleldocfpaaaDoorW.PrintLast Go.Proofs.YtdjdleldocfpaaaDoorW.PrintMore
set_option linter.unusedVariables false
set_option linter.unusedSimpArgs false
def grw (n : Int) : Bool := decide (0 ≤ n ∧ n ≤ 1000)
def hok (w h o : Int) (G : List Int) (m : Int) : Bool := mok w h o && decide (1 ≤ m ∧ m ≤ 20) && decide ((G.length : Int) = gaps w h) && G.all grw
end Go.Proofs.YtdjdleldocfpaaaDoor.F
end

section
namespace Go.Proofs.YtdjdleldocfpaaaDoor.F
open Go.RowKit Go.Proofs.YtdjdleldocfpaaaDoorW.PrintWords Go.Proofs.YtdjdleldocfpaaaDoorW.PrintLast Go.Proofs.YtdjdleldocfpaaaDoorW.PrintMore
set_option linter.unusedVariables false
set_option linter.unusedSimpArgs false
def toA (s : SlaAct) : SAct := ⟨s.f0, s.f1, s.f2⟩
theorem laws_toActS_eq {k : Nat} {l : List SlaAct} (hl : l.length ≤ 1048576) (hk : l.length + 1 ≤ k) : laws_toActS.f k l = some (l.map toA) := by
  unfold laws_toActS.f
  rw [if_pos (by omega), Int.toNat_natCast, if_pos (by omega)]
  exact set_loop (z := zlaAct) (l := l) (F := fun k acc i => laws_toActS.l0 k l acc i) (g := toA) (c := 0)
    (fun k acc i _ hi ha => by
      simp only [laws_toActS.l0]
      rw [if_pos (by omega), if_pos (by omega)]
      simp only [laws_toAct.f, Option.bind_some]
      rw [if_pos (by omega), w64_succ hi (by omega)]
      rfl)
    (fun k acc _ => by simp only [laws_toActS.l0]; rw [if_neg (by omega)]) (List.replicate l.length zAct) (by simp) (by omega)
theorem laws_eqActS_refl {k : Nat} {l : List SAct} (hl : l.length ≤ 9223372036854775806) (hk : l.length + 1 ≤ k) : laws_eqActS.f k l l = some true := by
  unfold laws_eqActS.f
  rw [if_pos rfl]
  have := all_loop (z := zAct) (F := fun k i => laws_eqActS.l0 k l l i) (l := l) (p := fun _ => true) (c := 0) (b := true)
    (fun k i _ hi => by
      simp only [laws_eqActS.l0]
      rw [if_pos (by omega), if_pos (by omega), if_pos (by omega), w64_succ hi (by omega)]
      simp [laws_eqAct.f])
    (fun k _ => by simp only [laws_eqActS.l0]; rw [if_neg (by omega)]) (k := k) (by omega)
  rw [this]
  simp
theorem sz_acts {a : Int} {l : List SlaAct} (h0 : 0 ≤ a) (h1 : a ≤ 1048576) (hl : l.length ≤ 9223372036854775807) : ∃ r, laws_szActS.f l a = some r ∧ (¬ r < 0 → l.length ≤ 1048576) := by
  unfold laws_szActS.f
  rw [w64 (by omega) (by omega)]
  by_cases h : a - (l.length : Int) < 0
  · rw [if_pos h]; exact ⟨_, rfl, fun h => by omega⟩
  · rw [if_neg h]; exact ⟨_, rfl, fun _ => by omega⟩
end Go.Proofs.YtdjdleldocfpaaaDoor.F
end

section
namespace Go.Proofs.YtdjdleldocfpaaaDoor.F
open Go.RowKit Go.Proofs.YtdjdleldocfpaaaDoorW.PrintWords Go.Proofs.YtdjdleldocfpaaaDoorW.PrintLast Go.Proofs.YtdjdleldocfpaaaDoorW.PrintMore
set_option linter.unusedVariables false
set_option linter.unusedSimpArgs false
def scr (out : ByteArray) : List SAct → ByteArray × Bool
  | [] => (out, true)
  | a :: l => if aok a.f0 a.f1 a.f2 = true then scr (out ++ (atx a.f0 a.f1 a.f2 ++ (⟨#[10]⟩ : ByteArray))) l else (⟨#[]⟩, false)
def scriptT (L : List SAct) : ByteArray × Bool := if L.length > 40 then (⟨#[]⟩, false) else scr ⟨#[]⟩ L
theorem getD_of_lt {α : Type} {l : List α} {i : Nat} (h : i < l.length) (z : α) : l.drop i = l.getD i z :: l.drop (i + 1) := by
  rw [List.drop_eq_getElem_cons h, List.getD_eq_getElem?_getD, List.getElem?_eq_getElem h]; rfl
theorem nl_size : ByteArray.size ⟨#[10]⟩ = 1 := rfl
theorem impl_scr {L : List SAct} (hL : L.length ≤ 40) : ∀ (n i : Nat) (out : ByteArray) (k : Nat), i + n = L.length → out.size ≤ 13 * i → 22 + n ≤ k → impl_ScriptText.l0 k out L (L.length : Int) (i : Int) = some (scr out (L.drop i))
  | 0, i, out, k, hi, hs, hk => by
    obtain ⟨k, rfl⟩ : ∃ q, k = q + 1 := ⟨k - 1, by omega⟩
    simp only [impl_ScriptText.l0]
    rw [if_neg (by omega), List.drop_of_length_le (by omega)]
    rfl
  | n + 1, i, out, k, hi, hs, hk => by
    obtain ⟨k, rfl⟩ : ∃ q, k = q + 1 := ⟨k - 1, by omega⟩
    have hlt : i < L.length := by omega
    simp only [impl_ScriptText.l0]
    rw [if_pos (by omega), if_pos (by omega), if_pos (by omega), w64_succ hlt (by omega), getD_of_lt hlt zAct]
    have hrd : rd_Act L (i : Int) = L.getD i zAct := by unfold rd_Act; rw [Int.toNat_natCast]
    rw [hrd]
    generalize L.getD i zAct = a
    cases ha : aok a.f0 a.f1 a.f2 with
    | false =>
      rw [(FormatAct_no ha (by omega)).1, Option.bind_some, if_neg Bool.false_ne_true]
      simp only [scr, ha, Bool.false_eq_true, if_false]
    | true =>
      obtain ⟨f1, f2, f3, f4, f5⟩ := FormatAct_ok ha (k := k) (by omega)
      rw [f1, Option.bind_some, if_pos rfl]
      simp only
      rw [if_pos (by omega), if_pos (by rw [ba_size_app, nl_size]; omega)]
      have := impl_scr hL n (i + 1) (out ++ (atx a.f0 a.f1 a.f2 ++ (⟨#[10]⟩ : ByteArray))) k (by omega) (by rw [ba_size_app, ba_size_app, nl_size]; omega) (by omega)
      rw [show ((i : Int) + 1) = ((i + 1 : Nat) : Int) by omega, this]
      simp only [scr, ha, if_true]
theorem spec_scr {L : List SAct} (hL : L.length ≤ 40) : ∀ (n i : Nat) (b : List Int) (k : Nat), i + n = L.length → b.length ≤ 13 * i → 22 + n ≤ k → spec_ScriptText.l0 k L b (i : Int) = some (scr (strOfNums b) (L.drop i))
  | 0, i, b, k, hi, hs, hk => by
    obtain ⟨k, rfl⟩ : ∃ q, k = q + 1 := ⟨k - 1, by omega⟩
    simp only [spec_ScriptText.l0]
    rw [if_neg (by omega), List.drop_of_length_le (by omega)]
    rfl
  | n + 1, i, b, k, hi, hs, hk => by
    obtain ⟨k, rfl⟩ : ∃ q, k = q + 1 := ⟨k - 1, by omega⟩
    have hlt : i < L.length := by omega
    simp only [spec_ScriptText.l0]
    rw [if_pos (by omega), if_pos (by omega), w64_succ hlt (by omega), getD_of_lt hlt zAct]
    have hrd : rd_Act L (i : Int) = L.getD i zAct := by unfold rd_Act; rw [Int.toNat_natCast]
    rw [hrd]
    generalize L.getD i zAct = a
    cases ha : aok a.f0 a.f1 a.f2 with
    | false =>
      rw [(FormatAct_no ha (by omega)).2, Option.bind_some, if_neg Bool.false_ne_true]
      simp only [scr, ha, Bool.false_eq_true, if_false]
    | true =>
      obtain ⟨f1, f2, f3, f4, f5⟩ := FormatAct_ok ha (k := k) (by omega)
      rw [f2, Option.bind_some, if_pos rfl, if_neg (by omega)]
      simp only
      rw [if_pos (by omega), if_pos (by rw [ba_size_app, nl_size]; omega)]
      have := spec_scr hL n (i + 1) (b ++ bytesOf (atx a.f0 a.f1 a.f2 ++ (⟨#[10]⟩ : ByteArray))) k (by omega) (by rw [List.length_append, bytesOf_length, ba_size_app, nl_size]; omega) (by omega)
      rw [show ((i : Int) + 1) = ((i + 1 : Nat) : Int) by omega, this, strOfNums_bytesOf]
      simp only [scr, ha, if_true]
theorem ScriptText_eq {L : List SAct} {k : Nat} (hl : L.length ≤ 9223372036854775807) (hk : L.length + 30 ≤ k) : spec_ScriptText.f k L = some (scriptT L) ∧ impl_ScriptText.f k L = some (scriptT L) := by
  unfold spec_ScriptText.f impl_ScriptText.f scriptT
  by_cases h : L.length > 40
  · rw [if_pos h, if_pos (by omega)]
    refine ⟨?_, rfl⟩
    obtain ⟨k, rfl⟩ : ∃ q, k = q + 1 := ⟨k - 1, by omega⟩
    simp only [spec_ScriptText.l0]
    rw [if_pos (by omega), if_pos (by decide)]
    generalize rd_Act L 0 = a
    cases ha : aok a.f0 a.f1 a.f2 with
    | false => rw [(FormatAct_no ha (by omega)).2, Option.bind_some, if_neg Bool.false_ne_true]
    | true =>
      obtain ⟨f1, f2, _⟩ := FormatAct_ok ha (k := k) (by omega)
      rw [f2, Option.bind_some, if_pos rfl, if_pos (by omega)]
  · rw [if_neg h, if_neg (by omega)]
    have s1 := spec_scr (L := L) (by omega) L.length 0 [] k (by omega) (by simp) (by omega)
    have s2 := impl_scr (L := L) (by omega) L.length 0 ⟨#[]⟩ k (by omega) (by decide) (by omega)
    rw [List.drop_zero] at s1 s2
    exact ⟨s1, s2⟩
end Go.Proofs.YtdjdleldocfpaaaDoor.F
end

section
namespace Go.Proofs.YtdjdleldocfpaaaDoor.F
open Go.RowKit Go.Proofs.YtdjdleldocfpaaaDoorW.PrintWords Go.Proofs.YtdjdleldocfpaaaDoorW.PrintLast Go.Proofs.YtdjdleldocfpaaaDoorW.PrintMore
set_option linter.unusedVariables false
set_option linter.unusedSimpArgs false
theorem FnExactScriptText_pure : ∀ (l0 : List (SlaAct)), ((l0).length ≤ 9223372036854775807 ∧ ∀ y ∈ l0, (I64 (y.f0)) ∧ (I64 (y.f1)) ∧ (I64 (y.f2))) → ∃ k, laws_FnExactScriptText.f k l0 = some true := by
  intro L hL
  obtain ⟨K, hK⟩ : ∃ K, K = L.length + 100 := ⟨_, rfl⟩
  refine ⟨K + 1, ?_⟩
  obtain ⟨r, e1, e2⟩ := sz_acts (a := 1048576) (by decide) (by decide) hL.1
  unfold laws_FnExactScriptText.f
  rw [e1, Option.bind_some]
  by_cases hr : r < 0
  · rw [if_pos hr]
  · have g := e2 hr
    rw [if_neg hr]
    have tA : ∀ k, K ≤ k → laws_toActS.f k L = some (L.map toA) := fun k hk => laws_toActS_eq g (by omega)
    have eL : ∀ k, K ≤ k → laws_eqActS.f k (L.map toA) (L.map toA) = some true := fun k hk => laws_eqActS_refl (by simp; omega) (by simp; omega)
    obtain ⟨s1, s2⟩ := ScriptText_eq (L := L.map toA) (k := K + 1) (by simp; omega) (by simp; omega)
    rw [tA _ (by omega), Option.bind_some, s1, Option.bind_some, Option.bind_some, s2, Option.bind_some]
    simp only [laws_FnExactScriptText.j0, tA K (by omega), eL K (by omega), Option.bind_some, if_true, bne_self_eq_false, Bool.false_eq_true, if_false]
end Go.Proofs.YtdjdleldocfpaaaDoor.F
end
