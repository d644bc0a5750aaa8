/- Packed by a program of the session (wip/tools/pack.py): what the claim's theorem reaches, of the texts that wip/ and the kit's printer lay. -/
import Derived.Test.YtdjdleldocfpaaaDoorPkFnActTexts6
import Derived.Deep.QuietTactic
import Derived.BigQuiet
import Derived.StillTailTactics
section
namespace Go.Proofs.YtdjdleldocfpaaaDoor.F
open Go.RowKit Go.Proofs.YtdjdleldocfpaaaDoorW.PrintWords Go.Proofs.YtdjdleldocfpaaaDoorW.PrintLast Go.Proofs.YtdjdleldocfpaaaDoorW.PrintMore
set_option linter.unusedVariables false
set_option linter.unusedSimpArgs false
attribute [local go_sem] max2_int min2_int max_two min_two
set_option maxRecDepth 20000 in set_option maxHeartbeats 4000000 in open Nat renaming reduceAdd → p1, reduceSub → p2, reduceMul → p3, reduceDiv → p4, reduceBNe → p5, reduceBEq → p6, reduceEqDiff → p7, reduceLeDiff → p8, reduceLT → p9 in open Int renaming reduceLE → p10, reduceLT → p11, reduceEq → p12 in
theorem spec_WalkIn.ctr {k : Nat} {a0_0 : Int} {a0_1 : Int} {a0_2 : Int} {l0_3 : List Int} {a0_4 : Int} {a0_5 : Int} {l0_6 : List Int} {a0_7 : Int} {a1 : Int} {a2 : Int} {r1 : Int} {r2 : Int} {r3 : Int} {r4 : List Int} {r5 : Int} {r6 : Int} {r7 : List Int} {r8 : Int} {r9 : Bool} (h : spec_WalkIn.f k a0_0 a0_1 a0_2 l0_3 a0_4 a0_5 l0_6 a0_7 a1 a2 = some (r1, r2, r3, r4, r5, r6, r7, r8, r9)) : Ctr Tryd.prog 103 [.ag [.v (.int .i64 a0_0), .v (.int .i64 a0_1), .v (.int .i64 a0_2), .pr 1 (l0_3.map eI), .v (.int .i64 a0_4), .v (.int .i64 a0_5), .pr 1 (l0_6.map eI), .v (.int .i64 a0_7)], .v (.int .i64 a1), .v (.int .i64 a2)] (.tu [.ag [.v (.int .i64 r1), .v (.int .i64 r2), .v (.int .i64 r3), .ow 3 1 (r4.map eI), .v (.int .i64 r5), .v (.int .i64 r6), .ow 3 1 (r7.map eI), .v (.int .i64 r8)], .v (.bool r9)]) := by
  refine Ctr_of tyOk hm Tryd.func103 rfl rfl (by kernel_rfl) (n := 29) (rv := [.cell 6 46, .tmp 7]) rfl rfl ?_
  simp only [W, List.replicate]
  unfold spec_WalkIn.f at h
  replace h := bnd h; obtain ⟨⟨t1_1, t1_2, t1_3, t1_4, t1_5, t1_6, t1_7, t1_8⟩, A, h⟩ := h
  dsimp only at h
  try simp only [W, p1, p2, p3, p4, p5, p6, p7, p8, p9, p10, p11, p12]
  refine callR (spec_l38Copy.ctr A) ?_
  replace h := bnd h; obtain ⟨t2, A, h⟩ := h
  try simp only [W, p1, p2, p3, p4, p5, p6, p7, p8, p9, p10, p11, p12]
  refine callR (spec_GardenOk.ctr A) ?_
  replace h := ifT h; rcases h with ⟨rfl, h⟩ | ⟨rfl, h⟩
  · replace h := bnd h; obtain ⟨⟨t4_1, t4_2, t4_3⟩, A, h⟩ := h
    dsimp only at h
    try simp only [W, p1, p2, p3, p4, p5, p6, p7, p8, p9, p10, p11, p12]
    refine callR (spec_OpenNow.ctr A) ?_
    replace h := bnd h; obtain ⟨⟨t5_1, t5_2⟩, A, h⟩ := h
    dsimp only at h
    try simp only [W, p1, p2, p3, p4, p5, p6, p7, p8, p9, p10, p11, p12]
    refine callR (spec_MoveOne.ctr A) ?_
    cases h
    try simp only [W, p1, p2, p3, p4, p5, p6, p7, p8, p9, p10, p11, p12]
  · cases h
    try simp only [W, p1, p2, p3, p4, p5, p6, p7, p8, p9, p10, p11, p12]
end Go.Proofs.YtdjdleldocfpaaaDoor.F
end

section
namespace Go.Proofs.YtdjdleldocfpaaaDoor.F
open Go.RowKit Go.Proofs.YtdjdleldocfpaaaDoorW.PrintWords Go.Proofs.YtdjdleldocfpaaaDoorW.PrintLast Go.Proofs.YtdjdleldocfpaaaDoorW.PrintMore
set_option linter.unusedVariables false
set_option linter.unusedSimpArgs false
attribute [local go_sem] max2_int min2_int max_two min_two
set_option maxRecDepth 20000 in set_option maxHeartbeats 4000000 in open Nat renaming reduceAdd → p1, reduceSub → p2, reduceMul → p3, reduceDiv → p4, reduceBNe → p5, reduceBEq → p6, reduceEqDiff → p7, reduceLeDiff → p8, reduceLT → p9 in open Int renaming reduceLE → p10, reduceLT → p11, reduceEq → p12 in
theorem spec_l38Garden.mark {k : Nat} {s0_0 : List Int} {s0_1 : Int} {s0_2 : Int} {r1 : Int} {r2 : Int} {r3 : Int} {r4 : List Int} {r5 : Int} {r6 : Int} {r7 : List Int} {r8 : Int} {r9 : Int} {r10 : Int} {i : Nat} (h : spec_l38Garden.f k s0_0 s0_1 s0_2 = some (r1, r2, r3, r4, r5, r6, r7, r8, r9, r10)) : CtrB Tryd.prog 70 [.bp i 0] [(i, .box 103 [.pr 1 (s0_0.map eU8), .v (.int .i64 s0_1), .v (.int .i64 s0_2)])] (.ag [.v (.int .i64 r1), .v (.int .i64 r2), .v (.int .i64 r3), .ow 3 1 (r4.map eI), .v (.int .i64 r5), .v (.int .i64 r6), .ow 3 1 (r7.map eI), .v (.int .i64 r8)]) [(i, .box 103 [.pr 1 (s0_0.map eU8), .v (.int .i64 r9), .v (.int .i64 r10)])] := by
  refine CtrB_ren (CtrB_of tyOk hm Tryd.func70 rfl rfl (by kernel_rfl) (args := [.bp 15 0]) (n := 75) (rv := [.cell 2 46]) rfl rfl (by simp) rfl (by simp) rfl ?_) rfl rfl rfl
  simp only [W, List.replicate]
  unfold spec_l38Garden.f at h
  replace h := bnd h; obtain ⟨⟨t1_1, t1_2, t1_3, t1_4, t1_5⟩, A, h⟩ := h
  dsimp only at h
  try simp only [W, p1, p2, p3, p4, p5, p6, p7, p8, p9, p10, p11, p12]
  try refine ⟨(by kernel_rfl : rchk _ _ _ = true), ?_⟩
  refine callM (spec_l12Maze.mark A) (by first | exact .inl rfl | exact .inr rfl) (by simp only [W, p1, p2, p3, p4, p5, p6, p7, p8, p9, p10, p11, p12] <;> trivial) ?_
  try simp only [W, p1, p2, p3, p4, p5, p6, p7, p8, p9, p10, p11, p12]
  replace h := bnd h; obtain ⟨t2, A, h⟩ := h
  try simp only [W, p1, p2, p3, p4, p5, p6, p7, p8, p9, p10, p11, p12]
  try refine ⟨(by kernel_rfl : rchk _ _ _ = true), ?_⟩
  refine callR (spec_IsConnected.ctr A) ?_
  replace h := ifT h; rcases h with ⟨rfl, h⟩ | ⟨rfl, h⟩
  · rcases k with _ | m4; · cases h
    rw [spec_l38Garden.j0] at h
    replace h := bnd h; obtain ⟨t5, A, h⟩ := h
    try simp only [W, p1, p2, p3, p4, p5, p6, p7, p8, p9, p10, p11, p12]
    try refine ⟨(by kernel_rfl : rchk _ _ _ = true), ?_⟩
    refine callR (spec_CountCells.ctr A) ?_
    replace h := bnd h; obtain ⟨⟨t6_1, t6_2, t6_3⟩, A, h⟩ := h
    dsimp only at h
    try simp only [W, p1, p2, p3, p4, p5, p6, p7, p8, p9, p10, p11, p12]
    try refine ⟨(by kernel_rfl : rchk _ _ _ = true), ?_⟩
    refine callM (spec_l01Below.mark A) (by first | exact .inl rfl | exact .inr rfl) (by simp only [W, p1, p2, p3, p4, p5, p6, p7, p8, p9, p10, p11, p12] <;> trivial) ?_
    try simp only [W, p1, p2, p3, p4, p5, p6, p7, p8, p9, p10, p11, p12]
    replace h := bnd h; obtain ⟨⟨t7_1, t7_2, t7_3⟩, A, h⟩ := h
    dsimp only at h
    try simp only [W, p1, p2, p3, p4, p5, p6, p7, p8, p9, p10, p11, p12]
    try refine ⟨(by kernel_rfl : rchk _ _ _ = true), ?_⟩
    refine callM (spec_l01Below.mark A) (by first | exact .inl rfl | exact .inr rfl) (by simp only [W, p1, p2, p3, p4, p5, p6, p7, p8, p9, p10, p11, p12] <;> trivial) ?_
    try simp only [W, p1, p2, p3, p4, p5, p6, p7, p8, p9, p10, p11, p12]
    replace h := bnd h; obtain ⟨⟨t8_1, t8_2, t8_3, t8_4, t8_5, t8_6, t8_7, t8_8, t8_9⟩, A, h⟩ := h
    dsimp only at h
    try simp only [W, p1, p2, p3, p4, p5, p6, p7, p8, p9, p10, p11, p12]
    try refine ⟨(by kernel_rfl : rchk _ _ _ = true), ?_⟩
    refine callR (spec_NewGarden.ctr A) ?_
    replace h := bnd h; obtain ⟨⟨t9_1, t9_2, t9_3⟩, A, h⟩ := h
    dsimp only at h
    try simp only [W, p1, p2, p3, p4, p5, p6, p7, p8, p9, p10, p11, p12]
    try refine ⟨(by kernel_rfl : rchk _ _ _ = true), ?_⟩
    refine callM (spec_l01Below.mark A) (by first | exact .inl rfl | exact .inr rfl) (by simp only [W, p1, p2, p3, p4, p5, p6, p7, p8, p9, p10, p11, p12] <;> trivial) ?_
    try simp only [W, p1, p2, p3, p4, p5, p6, p7, p8, p9, p10, p11, p12]
    try simp only [W, p1, p2, p3, p4, p5, p6, p7, p8, p9, p10, p11, p12]
    refine loopN (fun x : Int × Int × Int × Int × Int × Int × Int × List Int × Int × Int × List Int × Int × Int × Int × Int × Int × Int × Int × Int × Int × Int => [.bp 15 0, .u, .bp 32 0, .bp 48 0, .bp 64 0, .u, .v (.int .i64 x.1), .v (.int .i64 x.2.1), .u, .bp 15 0, .u, .u, .u, .u, .u, .u, .u, .u, .u, .bp 15 0, .bp 48 0, .u, .u, .u, .bp 15 0, .u, .u, .u, .u, .u, .bp 15 0, .u, .u, .u, .u, .u, .u, .u, .u, .u, .u, .u, .u, .u, .u, .u, .u, .u, .u, .u, .u, .u, .u, .u, .u, .u, .u, .u, .u, .u, .u, .u, .u, .u, .u, .u, .u, .u, .u, .u, .u, .u, .u, .u, .u, .u]) (fun x => [(15, .box 103 [.pr 1 (List.map eU8 s0_0), .v (.int .i64 x.2.2.1), .v (.int .i64 x.2.2.2.1)]), (32, .box 46 [.v (.int .i64 x.2.2.2.2.2.2.2.2.2.2.2.2.1), .v (.int .i64 x.2.2.2.2.2.2.2.2.2.2.2.2.2.1), .v (.int .i64 x.2.2.2.2.2.2.2.2.2.2.2.2.2.2.1), .v (Value.slice none 0 0), .v (.int .i64 x.2.2.2.2.2.2.2.2.2.2.2.2.2.2.2.1), .v (.int .i64 x.2.2.2.2.2.2.2.2.2.2.2.2.2.2.2.2.1), .v (Value.slice none 0 0), .v (.int .i64 x.2.2.2.2.2.2.2.2.2.2.2.2.2.2.2.2.2.1)]), (48, .box 41 [.v (.int .i64 x.2.2.2.2.2.2.2.2.2.2.2.2.2.2.2.2.2.2.1), .v (.int .i64 x.2.2.2.2.2.2.2.2.2.2.2.2.2.2.2.2.2.2.2.1), .v (.int .i64 x.2.2.2.2.2.2.2.2.2.2.2.2.2.2.2.2.2.2.2.2)]), (64, .box 46 [.v (.int .i64 x.2.2.2.2.1), .v (.int .i64 x.2.2.2.2.2.1), .v (.int .i64 x.2.2.2.2.2.2.1), .lo 432, .v (.int .i64 x.2.2.2.2.2.2.2.2.1), .v (.int .i64 x.2.2.2.2.2.2.2.2.2.1), .lo 433, .v (.int .i64 x.2.2.2.2.2.2.2.2.2.2.2.1)]), (432, .row 3 1 (List.map eI x.2.2.2.2.2.2.2.1)), (433, .row 3 1 (List.map eI x.2.2.2.2.2.2.2.2.2.2.1))]) (fun n x => spec_l38Garden.l0 n x.1 x.2.1 s0_0 x.2.2.1 x.2.2.2.1 x.2.2.2.2.1 x.2.2.2.2.2.1 x.2.2.2.2.2.2.1 x.2.2.2.2.2.2.2.1 x.2.2.2.2.2.2.2.2.1 x.2.2.2.2.2.2.2.2.2.1 x.2.2.2.2.2.2.2.2.2.2.1 x.2.2.2.2.2.2.2.2.2.2.2.1 = some (r1, r2, r3, r4, r5, r6, r7, r8, r9, r10)) (t9_1, 0, t9_2, t9_3, t8_1, t8_2, t8_3, t8_4, t8_5, t8_6, t8_7, t8_8, 0, 0, 0, 0, 0, 0, t1_1, t1_2, t1_3) [] h (by simp only [W, p1, p2, p3, p4, p5, p6, p7, p8, p9, p10, p11, p12] <;> trivial) (by simp only [W, p1, p2, p3, p4, p5, p6, p7, p8, p9, p10, p11, p12] <;> trivial) rfl (fun _ h => by cases h) ?_
    intro n1 ⟨x10, x11, x12, x13, x14, x15, x16, x17, x18, x19, x20, x21, y22, y23, y24, y25, y26, y27, y28, y29, y30⟩ _ h
    simp only [spec_l38Garden.l0] at h
    replace h := ifS h; rcases h with ⟨c31, h⟩ | ⟨c31, h⟩
    · replace h := bnd h; obtain ⟨⟨t32_1, t32_2, t32_3⟩, A, h⟩ := h
      dsimp only at h
      try simp only [W, c31, p1, p2, p3, p4, p5, p6, p7, p8, p9, p10, p11, p12]
      try refine ⟨(by kernel_rfl : rchk _ _ _ = true), ?_⟩
      refine callM (spec_l01Below.mark A) (by first | exact .inl rfl | exact .inr rfl) (by simp only [W, p1, p2, p3, p4, p5, p6, p7, p8, p9, p10, p11, p12] <;> trivial) ?_
      try simp only [W, c31, p1, p2, p3, p4, p5, p6, p7, p8, p9, p10, p11, p12]
      replace h := ifS h; rcases h with ⟨c33, h⟩ | ⟨c33, h⟩
      · replace h := bnd h; obtain ⟨⟨t34_1, t34_2, t34_3⟩, A, h⟩ := h
        dsimp only at h
        try simp only [W, c31, eq_true c33, p1, p2, p3, p4, p5, p6, p7, p8, p9, p10, p11, p12]
        try refine ⟨(by kernel_rfl : rchk _ _ _ = true), ?_⟩
        refine callM (spec_l01Below.mark A) (by first | exact .inl rfl | exact .inr rfl) (by simp only [W, p1, p2, p3, p4, p5, p6, p7, p8, p9, p10, p11, p12] <;> trivial) ?_
        try simp only [W, c31, eq_true c33, p1, p2, p3, p4, p5, p6, p7, p8, p9, p10, p11, p12]
        replace h := bnd h; obtain ⟨⟨t35_1, t35_2, t35_3, t35_4, t35_5, t35_6, t35_7, t35_8, t35_9⟩, A, h⟩ := h
        dsimp only at h
        try simp only [W, c31, eq_true c33, p1, p2, p3, p4, p5, p6, p7, p8, p9, p10, p11, p12]
        try refine ⟨(by kernel_rfl : rchk _ _ _ = true), ?_⟩
        refine callR (spec_NextDay.ctr A) ?_
        try simp only [W, c31, eq_true c33, p1, p2, p3, p4, p5, p6, p7, p8, p9, p10, p11, p12]
        exact nextN (x10, (wrap64 (x11 + 1)), t34_2, t34_3, t35_1, t35_2, t35_3, t35_4, t35_5, t35_6, t35_7, t35_8, y22, y23, y24, y25, y26, y27, y28, y29, y30) [(432, 896), (433, 897)] n1 (by omega) h (by simp only [W, p1, p2, p3, p4, p5, p6, p7, p8, p9, p10, p11, p12] <;> trivial) (by simp only [W, p1, p2, p3, p4, p5, p6, p7, p8, p9, p10, p11, p12] <;> trivial) rfl
      · replace h := ifS h; rcases h with ⟨c34, h⟩ | ⟨c34, h⟩
        · replace h := bnd h; obtain ⟨⟨t35_1, t35_2, t35_3, t35_4, t35_5, t35_6, t35_7, t35_8, t35_9⟩, A, h⟩ := h
          dsimp only at h
          try simp only [W, c31, c33, eq_true c34, p1, p2, p3, p4, p5, p6, p7, p8, p9, p10, p11, p12]
          try refine ⟨(by kernel_rfl : rchk _ _ _ = true), ?_⟩
          refine callR (spec_Enter.ctr A) ?_
          try simp only [W, c31, c33, eq_true c34, p1, p2, p3, p4, p5, p6, p7, p8, p9, p10, p11, p12]
          exact nextN (x10, (wrap64 (x11 + 1)), t32_2, t32_3, t35_1, t35_2, t35_3, t35_4, t35_5, t35_6, t35_7, t35_8, y22, y23, y24, y25, y26, y27, y28, y29, y30) [(432, 1008), (433, 1009)] n1 (by omega) h (by simp only [W, p1, p2, p3, p4, p5, p6, p7, p8, p9, p10, p11, p12] <;> trivial) (by simp only [W, p1, p2, p3, p4, p5, p6, p7, p8, p9, p10, p11, p12] <;> trivial) rfl
        · replace h := ifS h; rcases h with ⟨c35, h⟩ | ⟨c35, h⟩
          · replace h := bnd h; obtain ⟨⟨t36_1, t36_2, t36_3⟩, A, h⟩ := h
            dsimp only at h
            try simp only [W, c31, c33, c34, eq_true c35, p1, p2, p3, p4, p5, p6, p7, p8, p9, p10, p11, p12]
            try refine ⟨(by kernel_rfl : rchk _ _ _ = true), ?_⟩
            refine callM (spec_l01Once.mark A) (by first | exact .inl rfl | exact .inr rfl) (by simp only [W, p1, p2, p3, p4, p5, p6, p7, p8, p9, p10, p11, p12] <;> trivial) ?_
            try simp only [W, c31, c33, c34, eq_true c35, p1, p2, p3, p4, p5, p6, p7, p8, p9, p10, p11, p12]
            replace h := ifT h; rcases h with ⟨rfl, h⟩ | ⟨rfl, h⟩
            · replace h := bnd h; obtain ⟨⟨t38_1, t38_2, t38_3, t38_4, t38_5, t38_6, t38_7, t38_8, t38_9⟩, A, h⟩ := h
              dsimp only at h
              try simp only [W, c31, c33, c34, eq_true c35, p1, p2, p3, p4, p5, p6, p7, p8, p9, p10, p11, p12]
              try refine ⟨(by kernel_rfl : rchk _ _ _ = true), ?_⟩
              refine callR (spec_Leave.ctr A) ?_
              try simp only [W, c31, c33, c34, eq_true c35, p1, p2, p3, p4, p5, p6, p7, p8, p9, p10, p11, p12]
              exact nextN (x10, (wrap64 (x11 + 1)), t36_2, t36_3, t38_1, t38_2, t38_3, t38_4, t38_5, t38_6, t38_7, t38_8, y22, y23, y24, y25, y26, y27, y28, y29, y30) [(432, 1152), (433, 1153)] n1 (by omega) h (by simp only [W, p1, p2, p3, p4, p5, p6, p7, p8, p9, p10, p11, p12] <;> trivial) (by simp only [W, p1, p2, p3, p4, p5, p6, p7, p8, p9, p10, p11, p12] <;> trivial) rfl
            · try simp only [W, c31, c33, c34, eq_true c35, p1, p2, p3, p4, p5, p6, p7, p8, p9, p10, p11, p12]
              exact nextN (x10, (wrap64 (x11 + 1)), t36_2, t36_3, x14, x15, x16, x17, x18, x19, x20, x21, y22, y23, y24, y25, y26, y27, y28, y29, y30) [] n1 (by omega) h (by simp only [W, p1, p2, p3, p4, p5, p6, p7, p8, p9, p10, p11, p12] <;> trivial) (by simp only [W, p1, p2, p3, p4, p5, p6, p7, p8, p9, p10, p11, p12] <;> trivial) rfl
          · replace h := bnd h; obtain ⟨⟨t36_1, t36_2, t36_3⟩, A, h⟩ := h
            dsimp only at h
            try simp only [W, c31, c33, c34, c35, p1, p2, p3, p4, p5, p6, p7, p8, p9, p10, p11, p12]
            try refine ⟨(by kernel_rfl : rchk _ _ _ = true), ?_⟩
            refine callM (spec_l01Below.mark A) (by first | exact .inl rfl | exact .inr rfl) (by simp only [W, p1, p2, p3, p4, p5, p6, p7, p8, p9, p10, p11, p12] <;> trivial) ?_
            try simp only [W, c31, c33, c34, c35, p1, p2, p3, p4, p5, p6, p7, p8, p9, p10, p11, p12]
            replace h := bnd h; obtain ⟨⟨t37_1, t37_2, t37_3⟩, A, h⟩ := h
            dsimp only at h
            try simp only [W, c31, c33, c34, c35, p1, p2, p3, p4, p5, p6, p7, p8, p9, p10, p11, p12]
            try refine ⟨(by kernel_rfl : rchk _ _ _ = true), ?_⟩
            refine callM (spec_l01Below.mark A) (by first | exact .inl rfl | exact .inr rfl) (by simp only [W, p1, p2, p3, p4, p5, p6, p7, p8, p9, p10, p11, p12] <;> trivial) ?_
            try simp only [W, c31, c33, c34, c35, p1, p2, p3, p4, p5, p6, p7, p8, p9, p10, p11, p12]
            replace h := bnd h; obtain ⟨⟨t38_1, t38_2, t38_3, t38_4, t38_5, t38_6, t38_7, t38_8, t38_9⟩, A, h⟩ := h
            dsimp only at h
            try simp only [W, c31, c33, c34, c35, p1, p2, p3, p4, p5, p6, p7, p8, p9, p10, p11, p12]
            try refine ⟨(by kernel_rfl : rchk _ _ _ = true), ?_⟩
            refine callR (spec_WalkIn.ctr A) ?_
            try simp only [W, c31, c33, c34, c35, p1, p2, p3, p4, p5, p6, p7, p8, p9, p10, p11, p12]
            exact nextN (x10, (wrap64 (x11 + 1)), t37_2, t37_3, t38_1, t38_2, t38_3, t38_4, t38_5, t38_6, t38_7, t38_8, y22, y23, y24, y25, y26, y27, y28, y29, y30) [(432, 736), (433, 737)] n1 (by omega) h (by simp only [W, p1, p2, p3, p4, p5, p6, p7, p8, p9, p10, p11, p12] <;> trivial) (by simp only [W, p1, p2, p3, p4, p5, p6, p7, p8, p9, p10, p11, p12] <;> trivial) rfl
    · cases h
      try simp only [W, c31, p1, p2, p3, p4, p5, p6, p7, p8, p9, p10, p11, p12]
  · replace h := bnd h; obtain ⟨⟨t4_1, t4_2, t4_3⟩, A, h⟩ := h
    dsimp only at h
    try simp only [W, p1, p2, p3, p4, p5, p6, p7, p8, p9, p10, p11, p12]
    try refine ⟨(by kernel_rfl : rchk _ _ _ = true), ?_⟩
    refine callR (spec_FullMaze.ctr A) ?_
    rcases k with _ | m5; · cases h
    rw [spec_l38Garden.j0] at h
    replace h := bnd h; obtain ⟨t6, A, h⟩ := h
    try simp only [W, p1, p2, p3, p4, p5, p6, p7, p8, p9, p10, p11, p12]
    try refine ⟨(by kernel_rfl : rchk _ _ _ = true), ?_⟩
    refine callR (spec_CountCells.ctr A) ?_
    replace h := bnd h; obtain ⟨⟨t7_1, t7_2, t7_3⟩, A, h⟩ := h
    dsimp only at h
    try simp only [W, p1, p2, p3, p4, p5, p6, p7, p8, p9, p10, p11, p12]
    try refine ⟨(by kernel_rfl : rchk _ _ _ = true), ?_⟩
    refine callM (spec_l01Below.mark A) (by first | exact .inl rfl | exact .inr rfl) (by simp only [W, p1, p2, p3, p4, p5, p6, p7, p8, p9, p10, p11, p12] <;> trivial) ?_
    try simp only [W, p1, p2, p3, p4, p5, p6, p7, p8, p9, p10, p11, p12]
    replace h := bnd h; obtain ⟨⟨t8_1, t8_2, t8_3⟩, A, h⟩ := h
    dsimp only at h
    try simp only [W, p1, p2, p3, p4, p5, p6, p7, p8, p9, p10, p11, p12]
    try refine ⟨(by kernel_rfl : rchk _ _ _ = true), ?_⟩
    refine callM (spec_l01Below.mark A) (by first | exact .inl rfl | exact .inr rfl) (by simp only [W, p1, p2, p3, p4, p5, p6, p7, p8, p9, p10, p11, p12] <;> trivial) ?_
    try simp only [W, p1, p2, p3, p4, p5, p6, p7, p8, p9, p10, p11, p12]
    replace h := bnd h; obtain ⟨⟨t9_1, t9_2, t9_3, t9_4, t9_5, t9_6, t9_7, t9_8, t9_9⟩, A, h⟩ := h
    dsimp only at h
    try simp only [W, p1, p2, p3, p4, p5, p6, p7, p8, p9, p10, p11, p12]
    try refine ⟨(by kernel_rfl : rchk _ _ _ = true), ?_⟩
    refine callR (spec_NewGarden.ctr A) ?_
    replace h := bnd h; obtain ⟨⟨t10_1, t10_2, t10_3⟩, A, h⟩ := h
    dsimp only at h
    try simp only [W, p1, p2, p3, p4, p5, p6, p7, p8, p9, p10, p11, p12]
    try refine ⟨(by kernel_rfl : rchk _ _ _ = true), ?_⟩
    refine callM (spec_l01Below.mark A) (by first | exact .inl rfl | exact .inr rfl) (by simp only [W, p1, p2, p3, p4, p5, p6, p7, p8, p9, p10, p11, p12] <;> trivial) ?_
    try simp only [W, p1, p2, p3, p4, p5, p6, p7, p8, p9, p10, p11, p12]
    try simp only [W, p1, p2, p3, p4, p5, p6, p7, p8, p9, p10, p11, p12]
    refine loopN (fun x : Int × Int × Int × Int × Int × Int × Int × List Int × Int × Int × List Int × Int × Int × Int × Int × Int × Int × Int × Int × Int × Int => [.bp 15 0, .u, .bp 32 0, .bp 48 0, .bp 64 0, .u, .v (.int .i64 x.1), .v (.int .i64 x.2.1), .u, .bp 15 0, .u, .u, .u, .u, .bp 48 0, .u, .u, .u, .u, .bp 15 0, .bp 48 0, .u, .u, .u, .bp 15 0, .u, .u, .u, .u, .u, .bp 15 0, .u, .u, .u, .u, .u, .u, .u, .u, .u, .u, .u, .u, .u, .u, .u, .u, .u, .u, .u, .u, .u, .u, .u, .u, .u, .u, .u, .u, .u, .u, .u, .u, .u, .u, .u, .u, .u, .u, .u, .u, .u, .u, .u, .u, .u]) (fun x => [(15, .box 103 [.pr 1 (List.map eU8 s0_0), .v (.int .i64 x.2.2.1), .v (.int .i64 x.2.2.2.1)]), (32, .box 46 [.v (.int .i64 x.2.2.2.2.2.2.2.2.2.2.2.2.1), .v (.int .i64 x.2.2.2.2.2.2.2.2.2.2.2.2.2.1), .v (.int .i64 x.2.2.2.2.2.2.2.2.2.2.2.2.2.2.1), .v (Value.slice none 0 0), .v (.int .i64 x.2.2.2.2.2.2.2.2.2.2.2.2.2.2.2.1), .v (.int .i64 x.2.2.2.2.2.2.2.2.2.2.2.2.2.2.2.2.1), .v (Value.slice none 0 0), .v (.int .i64 x.2.2.2.2.2.2.2.2.2.2.2.2.2.2.2.2.2.1)]), (48, .box 41 [.v (.int .i64 x.2.2.2.2.2.2.2.2.2.2.2.2.2.2.2.2.2.2.1), .v (.int .i64 x.2.2.2.2.2.2.2.2.2.2.2.2.2.2.2.2.2.2.2.1), .v (.int .i64 x.2.2.2.2.2.2.2.2.2.2.2.2.2.2.2.2.2.2.2.2)]), (64, .box 46 [.v (.int .i64 x.2.2.2.2.1), .v (.int .i64 x.2.2.2.2.2.1), .v (.int .i64 x.2.2.2.2.2.2.1), .lo 432, .v (.int .i64 x.2.2.2.2.2.2.2.2.1), .v (.int .i64 x.2.2.2.2.2.2.2.2.2.1), .lo 433, .v (.int .i64 x.2.2.2.2.2.2.2.2.2.2.2.1)]), (432, .row 3 1 (List.map eI x.2.2.2.2.2.2.2.1)), (433, .row 3 1 (List.map eI x.2.2.2.2.2.2.2.2.2.2.1))]) (fun n x => spec_l38Garden.l0 n x.1 x.2.1 s0_0 x.2.2.1 x.2.2.2.1 x.2.2.2.2.1 x.2.2.2.2.2.1 x.2.2.2.2.2.2.1 x.2.2.2.2.2.2.2.1 x.2.2.2.2.2.2.2.2.1 x.2.2.2.2.2.2.2.2.2.1 x.2.2.2.2.2.2.2.2.2.2.1 x.2.2.2.2.2.2.2.2.2.2.2.1 = some (r1, r2, r3, r4, r5, r6, r7, r8, r9, r10)) (t10_1, 0, t10_2, t10_3, t9_1, t9_2, t9_3, t9_4, t9_5, t9_6, t9_7, t9_8, 0, 0, 0, 0, 0, 0, t4_1, t4_2, t4_3) [] h (by simp only [W, p1, p2, p3, p4, p5, p6, p7, p8, p9, p10, p11, p12] <;> trivial) (by simp only [W, p1, p2, p3, p4, p5, p6, p7, p8, p9, p10, p11, p12] <;> trivial) rfl (fun _ h => by cases h) ?_
    intro n1 ⟨x11, x12, x13, x14, x15, x16, x17, x18, x19, x20, x21, x22, y23, y24, y25, y26, y27, y28, y29, y30, y31⟩ _ h
    simp only [spec_l38Garden.l0] at h
    replace h := ifS h; rcases h with ⟨c32, h⟩ | ⟨c32, h⟩
    · replace h := bnd h; obtain ⟨⟨t33_1, t33_2, t33_3⟩, A, h⟩ := h
      dsimp only at h
      try simp only [W, c32, p1, p2, p3, p4, p5, p6, p7, p8, p9, p10, p11, p12]
      try refine ⟨(by kernel_rfl : rchk _ _ _ = true), ?_⟩
      refine callM (spec_l01Below.mark A) (by first | exact .inl rfl | exact .inr rfl) (by simp only [W, p1, p2, p3, p4, p5, p6, p7, p8, p9, p10, p11, p12] <;> trivial) ?_
      try simp only [W, c32, p1, p2, p3, p4, p5, p6, p7, p8, p9, p10, p11, p12]
      replace h := ifS h; rcases h with ⟨c34, h⟩ | ⟨c34, h⟩
      · replace h := bnd h; obtain ⟨⟨t35_1, t35_2, t35_3⟩, A, h⟩ := h
        dsimp only at h
        try simp only [W, c32, eq_true c34, p1, p2, p3, p4, p5, p6, p7, p8, p9, p10, p11, p12]
        try refine ⟨(by kernel_rfl : rchk _ _ _ = true), ?_⟩
        refine callM (spec_l01Below.mark A) (by first | exact .inl rfl | exact .inr rfl) (by simp only [W, p1, p2, p3, p4, p5, p6, p7, p8, p9, p10, p11, p12] <;> trivial) ?_
        try simp only [W, c32, eq_true c34, p1, p2, p3, p4, p5, p6, p7, p8, p9, p10, p11, p12]
        replace h := bnd h; obtain ⟨⟨t36_1, t36_2, t36_3, t36_4, t36_5, t36_6, t36_7, t36_8, t36_9⟩, A, h⟩ := h
        dsimp only at h
        try simp only [W, c32, eq_true c34, p1, p2, p3, p4, p5, p6, p7, p8, p9, p10, p11, p12]
        try refine ⟨(by kernel_rfl : rchk _ _ _ = true), ?_⟩
        refine callR (spec_NextDay.ctr A) ?_
        try simp only [W, c32, eq_true c34, p1, p2, p3, p4, p5, p6, p7, p8, p9, p10, p11, p12]
        exact nextN (x11, (wrap64 (x12 + 1)), t35_2, t35_3, t36_1, t36_2, t36_3, t36_4, t36_5, t36_6, t36_7, t36_8, y23, y24, y25, y26, y27, y28, y29, y30, y31) [(432, 896), (433, 897)] n1 (by omega) h (by simp only [W, p1, p2, p3, p4, p5, p6, p7, p8, p9, p10, p11, p12] <;> trivial) (by simp only [W, p1, p2, p3, p4, p5, p6, p7, p8, p9, p10, p11, p12] <;> trivial) rfl
      · replace h := ifS h; rcases h with ⟨c35, h⟩ | ⟨c35, h⟩
        · replace h := bnd h; obtain ⟨⟨t36_1, t36_2, t36_3, t36_4, t36_5, t36_6, t36_7, t36_8, t36_9⟩, A, h⟩ := h
          dsimp only at h
          try simp only [W, c32, c34, eq_true c35, p1, p2, p3, p4, p5, p6, p7, p8, p9, p10, p11, p12]
          try refine ⟨(by kernel_rfl : rchk _ _ _ = true), ?_⟩
          refine callR (spec_Enter.ctr A) ?_
          try simp only [W, c32, c34, eq_true c35, p1, p2, p3, p4, p5, p6, p7, p8, p9, p10, p11, p12]
          exact nextN (x11, (wrap64 (x12 + 1)), t33_2, t33_3, t36_1, t36_2, t36_3, t36_4, t36_5, t36_6, t36_7, t36_8, y23, y24, y25, y26, y27, y28, y29, y30, y31) [(432, 1008), (433, 1009)] n1 (by omega) h (by simp only [W, p1, p2, p3, p4, p5, p6, p7, p8, p9, p10, p11, p12] <;> trivial) (by simp only [W, p1, p2, p3, p4, p5, p6, p7, p8, p9, p10, p11, p12] <;> trivial) rfl
        · replace h := ifS h; rcases h with ⟨c36, h⟩ | ⟨c36, h⟩
          · replace h := bnd h; obtain ⟨⟨t37_1, t37_2, t37_3⟩, A, h⟩ := h
            dsimp only at h
            try simp only [W, c32, c34, c35, eq_true c36, p1, p2, p3, p4, p5, p6, p7, p8, p9, p10, p11, p12]
            try refine ⟨(by kernel_rfl : rchk _ _ _ = true), ?_⟩
            refine callM (spec_l01Once.mark A) (by first | exact .inl rfl | exact .inr rfl) (by simp only [W, p1, p2, p3, p4, p5, p6, p7, p8, p9, p10, p11, p12] <;> trivial) ?_
            try simp only [W, c32, c34, c35, eq_true c36, p1, p2, p3, p4, p5, p6, p7, p8, p9, p10, p11, p12]
            replace h := ifT h; rcases h with ⟨rfl, h⟩ | ⟨rfl, h⟩
            · replace h := bnd h; obtain ⟨⟨t39_1, t39_2, t39_3, t39_4, t39_5, t39_6, t39_7, t39_8, t39_9⟩, A, h⟩ := h
              dsimp only at h
              try simp only [W, c32, c34, c35, eq_true c36, p1, p2, p3, p4, p5, p6, p7, p8, p9, p10, p11, p12]
              try refine ⟨(by kernel_rfl : rchk _ _ _ = true), ?_⟩
              refine callR (spec_Leave.ctr A) ?_
              try simp only [W, c32, c34, c35, eq_true c36, p1, p2, p3, p4, p5, p6, p7, p8, p9, p10, p11, p12]
              exact nextN (x11, (wrap64 (x12 + 1)), t37_2, t37_3, t39_1, t39_2, t39_3, t39_4, t39_5, t39_6, t39_7, t39_8, y23, y24, y25, y26, y27, y28, y29, y30, y31) [(432, 1152), (433, 1153)] n1 (by omega) h (by simp only [W, p1, p2, p3, p4, p5, p6, p7, p8, p9, p10, p11, p12] <;> trivial) (by simp only [W, p1, p2, p3, p4, p5, p6, p7, p8, p9, p10, p11, p12] <;> trivial) rfl
            · try simp only [W, c32, c34, c35, eq_true c36, p1, p2, p3, p4, p5, p6, p7, p8, p9, p10, p11, p12]
              exact nextN (x11, (wrap64 (x12 + 1)), t37_2, t37_3, x15, x16, x17, x18, x19, x20, x21, x22, y23, y24, y25, y26, y27, y28, y29, y30, y31) [] n1 (by omega) h (by simp only [W, p1, p2, p3, p4, p5, p6, p7, p8, p9, p10, p11, p12] <;> trivial) (by simp only [W, p1, p2, p3, p4, p5, p6, p7, p8, p9, p10, p11, p12] <;> trivial) rfl
          · replace h := bnd h; obtain ⟨⟨t37_1, t37_2, t37_3⟩, A, h⟩ := h
            dsimp only at h
            try simp only [W, c32, c34, c35, c36, p1, p2, p3, p4, p5, p6, p7, p8, p9, p10, p11, p12]
            try refine ⟨(by kernel_rfl : rchk _ _ _ = true), ?_⟩
            refine callM (spec_l01Below.mark A) (by first | exact .inl rfl | exact .inr rfl) (by simp only [W, p1, p2, p3, p4, p5, p6, p7, p8, p9, p10, p11, p12] <;> trivial) ?_
            try simp only [W, c32, c34, c35, c36, p1, p2, p3, p4, p5, p6, p7, p8, p9, p10, p11, p12]
            replace h := bnd h; obtain ⟨⟨t38_1, t38_2, t38_3⟩, A, h⟩ := h
            dsimp only at h
            try simp only [W, c32, c34, c35, c36, p1, p2, p3, p4, p5, p6, p7, p8, p9, p10, p11, p12]
            try refine ⟨(by kernel_rfl : rchk _ _ _ = true), ?_⟩
            refine callM (spec_l01Below.mark A) (by first | exact .inl rfl | exact .inr rfl) (by simp only [W, p1, p2, p3, p4, p5, p6, p7, p8, p9, p10, p11, p12] <;> trivial) ?_
            try simp only [W, c32, c34, c35, c36, p1, p2, p3, p4, p5, p6, p7, p8, p9, p10, p11, p12]
            replace h := bnd h; obtain ⟨⟨t39_1, t39_2, t39_3, t39_4, t39_5, t39_6, t39_7, t39_8, t39_9⟩, A, h⟩ := h
            dsimp only at h
            try simp only [W, c32, c34, c35, c36, p1, p2, p3, p4, p5, p6, p7, p8, p9, p10, p11, p12]
            try refine ⟨(by kernel_rfl : rchk _ _ _ = true), ?_⟩
            refine callR (spec_WalkIn.ctr A) ?_
            try simp only [W, c32, c34, c35, c36, p1, p2, p3, p4, p5, p6, p7, p8, p9, p10, p11, p12]
            exact nextN (x11, (wrap64 (x12 + 1)), t38_2, t38_3, t39_1, t39_2, t39_3, t39_4, t39_5, t39_6, t39_7, t39_8, y23, y24, y25, y26, y27, y28, y29, y30, y31) [(432, 736), (433, 737)] n1 (by omega) h (by simp only [W, p1, p2, p3, p4, p5, p6, p7, p8, p9, p10, p11, p12] <;> trivial) (by simp only [W, p1, p2, p3, p4, p5, p6, p7, p8, p9, p10, p11, p12] <;> trivial) rfl
    · cases h
      try simp only [W, c32, p1, p2, p3, p4, p5, p6, p7, p8, p9, p10, p11, p12]
end Go.Proofs.YtdjdleldocfpaaaDoor.F
end

section
namespace Go.Proofs.YtdjdleldocfpaaaDoor.F
open Go.RowKit Go.Proofs.YtdjdleldocfpaaaDoorW.PrintWords Go.Proofs.YtdjdleldocfpaaaDoorW.PrintLast Go.Proofs.YtdjdleldocfpaaaDoorW.PrintMore
set_option linter.unusedVariables false
set_option linter.unusedSimpArgs false
attribute [local go_sem] max2_int min2_int max_two min_two
set_option maxRecDepth 20000 in set_option maxHeartbeats 4000000 in open Nat renaming reduceAdd → p1, reduceSub → p2, reduceMul → p3, reduceDiv → p4, reduceBNe → p5, reduceBEq → p6, reduceEqDiff → p7, reduceLeDiff → p8, reduceLT → p9 in open Int renaming reduceLE → p10, reduceLT → p11, reduceEq → p12 in
theorem spec_l39Garden.mark {k : Nat} {s0_0 : List Int} {s0_1 : Int} {s0_2 : Int} {r1 : Int} {r2 : Int} {r3 : Int} {r4 : List Int} {r5 : Int} {r6 : Int} {r7 : List Int} {r8 : Int} {r9 : Int} {r10 : Int} {i : Nat} (h : spec_l39Garden.f k s0_0 s0_1 s0_2 = some (r1, r2, r3, r4, r5, r6, r7, r8, r9, r10)) : CtrB Tryd.prog 42 [.bp i 0] [(i, .box 103 [.pr 1 (s0_0.map eU8), .v (.int .i64 s0_1), .v (.int .i64 s0_2)])] (.ag [.v (.int .i64 r1), .v (.int .i64 r2), .v (.int .i64 r3), .ow 3 1 (r4.map eI), .v (.int .i64 r5), .v (.int .i64 r6), .ow 3 1 (r7.map eI), .v (.int .i64 r8)]) [(i, .box 103 [.pr 1 (s0_0.map eU8), .v (.int .i64 r9), .v (.int .i64 r10)])] := by
  refine CtrB_ren (CtrB_of tyOk hm Tryd.func42 rfl rfl (by kernel_rfl) (args := [.bp 15 0]) (n := 7) (rv := [.cell 2 46]) rfl rfl (by simp) rfl (by simp) rfl ?_) rfl rfl rfl
  simp only [W, List.replicate]
  unfold spec_l39Garden.f at h
  replace h := bnd h; obtain ⟨⟨t1_1, t1_2, t1_3⟩, A, h⟩ := h
  dsimp only at h
  try simp only [W, p1, p2, p3, p4, p5, p6, p7, p8, p9, p10, p11, p12]
  try refine ⟨(by kernel_rfl : rchk _ _ _ = true), ?_⟩
  refine callM (spec_l01Once.mark A) (by first | exact .inl rfl | exact .inr rfl) (by simp only [W, p1, p2, p3, p4, p5, p6, p7, p8, p9, p10, p11, p12] <;> trivial) ?_
  try simp only [W, p1, p2, p3, p4, p5, p6, p7, p8, p9, p10, p11, p12]
  replace h := ifT h; rcases h with ⟨rfl, h⟩ | ⟨rfl, h⟩
  · replace h := bnd h; obtain ⟨⟨t3_1, t3_2, t3_3, t3_4, t3_5, t3_6, t3_7, t3_8⟩, A, h⟩ := h
    dsimp only at h
    try simp only [W, p1, p2, p3, p4, p5, p6, p7, p8, p9, p10, p11, p12]
    try refine ⟨(by kernel_rfl : rchk _ _ _ = true), ?_⟩
    refine callR (spec_SampleGarden.ctr A) ?_
    cases h
    try simp only [W, p1, p2, p3, p4, p5, p6, p7, p8, p9, p10, p11, p12]
  · replace h := bnd h; obtain ⟨⟨t3_1, t3_2, t3_3, t3_4, t3_5, t3_6, t3_7, t3_8, t3_9, t3_10⟩, A, h⟩ := h
    dsimp only at h
    try simp only [W, p1, p2, p3, p4, p5, p6, p7, p8, p9, p10, p11, p12]
    try refine ⟨(by kernel_rfl : rchk _ _ _ = true), ?_⟩
    refine callM (spec_l38Garden.mark A) (by first | exact .inl rfl | exact .inr rfl) (by simp only [W, p1, p2, p3, p4, p5, p6, p7, p8, p9, p10, p11, p12] <;> trivial) ?_
    try simp only [W, p1, p2, p3, p4, p5, p6, p7, p8, p9, p10, p11, p12]
    cases h
    try simp only [W, p1, p2, p3, p4, p5, p6, p7, p8, p9, p10, p11, p12]
set_option maxRecDepth 20000 in set_option maxHeartbeats 4000000 in open Nat renaming reduceAdd → p1, reduceSub → p2, reduceMul → p3, reduceDiv → p4, reduceBNe → p5, reduceBEq → p6, reduceEqDiff → p7, reduceLeDiff → p8, reduceLT → p9 in open Int renaming reduceLE → p10, reduceLT → p11, reduceEq → p12 in
theorem spec_l39Act.mark {k : Nat} {s0_0 : List Int} {s0_1 : Int} {s0_2 : Int} {r1 : Int} {r2 : Int} {r3 : Int} {r4 : Int} {r5 : Int} {i : Nat} (h : spec_l39Act.f k s0_0 s0_1 s0_2 = some (r1, r2, r3, r4, r5)) : CtrB Tryd.prog 72 [.bp i 0] [(i, .box 103 [.pr 1 (s0_0.map eU8), .v (.int .i64 s0_1), .v (.int .i64 s0_2)])] (.ag [.v (.int .i64 r1), .v (.int .i64 r2), .v (.int .i64 r3)]) [(i, .box 103 [.pr 1 (s0_0.map eU8), .v (.int .i64 r4), .v (.int .i64 r5)])] := by
  refine CtrB_ren (CtrB_of tyOk hm Tryd.func72 rfl rfl (by kernel_rfl) (args := [.bp 15 0]) (n := 30) (rv := [.cell 2 31]) rfl rfl (by simp) rfl (by simp) rfl ?_) rfl rfl rfl
  simp only [W, List.replicate]
  unfold spec_l39Act.f at h
  replace h := bnd h; obtain ⟨⟨t1_1, t1_2, t1_3⟩, A, h⟩ := h
  dsimp only at h
  try simp only [W, p1, p2, p3, p4, p5, p6, p7, p8, p9, p10, p11, p12]
  try refine ⟨(by kernel_rfl : rchk _ _ _ = true), ?_⟩
  refine callM (spec_l01Below.mark A) (by first | exact .inl rfl | exact .inr rfl) (by simp only [W, p1, p2, p3, p4, p5, p6, p7, p8, p9, p10, p11, p12] <;> trivial) ?_
  try simp only [W, p1, p2, p3, p4, p5, p6, p7, p8, p9, p10, p11, p12]
  replace h := ifS h; rcases h with ⟨c2, h⟩ | ⟨c2, h⟩
  · replace h := bnd h; obtain ⟨⟨t3_1, t3_2, t3_3⟩, A, h⟩ := h
    dsimp only at h
    try simp only [W, eq_true c2, p1, p2, p3, p4, p5, p6, p7, p8, p9, p10, p11, p12]
    try refine ⟨(by kernel_rfl : rchk _ _ _ = true), ?_⟩
    refine callM (spec_l01Below.mark A) (by first | exact .inl rfl | exact .inr rfl) (by simp only [W, p1, p2, p3, p4, p5, p6, p7, p8, p9, p10, p11, p12] <;> trivial) ?_
    try simp only [W, eq_true c2, p1, p2, p3, p4, p5, p6, p7, p8, p9, p10, p11, p12]
    cases h
    try simp only [W, eq_true c2, p1, p2, p3, p4, p5, p6, p7, p8, p9, p10, p11, p12]
  · replace h := ifS h; rcases h with ⟨c3, h⟩ | ⟨c3, h⟩
    · rcases k with _ | m4; · cases h
      rw [spec_l39Act.j0] at h
      rw [if_pos (beq_iff_eq.2 c3)] at h
      cases h
      try simp only [W, c2, eq_true c3, p1, p2, p3, p4, p5, p6, p7, p8, p9, p10, p11, p12]
    · rcases k with _ | m4; · cases h
      rw [spec_l39Act.j0] at h
      replace h := ifT h; rcases h with ⟨c5, h⟩ | ⟨c5, h⟩ <;> try simp only [bEq] at c5
      · cases h
        try simp only [W, c2, c3, c5, p1, p2, p3, p4, p5, p6, p7, p8, p9, p10, p11, p12]
      · replace h := ifS h; rcases h with ⟨c6, h⟩ | ⟨c6, h⟩
        · cases h
          try simp only [W, c2, c3, c5, eq_true c6, p1, p2, p3, p4, p5, p6, p7, p8, p9, p10, p11, p12]
        · replace h := ifS h; rcases h with ⟨c7, h⟩ | ⟨c7, h⟩
          · replace h := bnd h; obtain ⟨⟨t8_1, t8_2, t8_3⟩, A, h⟩ := h
            dsimp only at h
            try simp only [W, c2, c3, c5, c6, eq_true c7, p1, p2, p3, p4, p5, p6, p7, p8, p9, p10, p11, p12]
            try refine ⟨(by kernel_rfl : rchk _ _ _ = true), ?_⟩
            refine callM (spec_l01Below.mark A) (by first | exact .inl rfl | exact .inr rfl) (by simp only [W, p1, p2, p3, p4, p5, p6, p7, p8, p9, p10, p11, p12] <;> trivial) ?_
            try simp only [W, c2, c3, c5, c6, eq_true c7, p1, p2, p3, p4, p5, p6, p7, p8, p9, p10, p11, p12]
            cases h
            try simp only [W, c2, c3, c5, c6, eq_true c7, p1, p2, p3, p4, p5, p6, p7, p8, p9, p10, p11, p12]
          · replace h := ifS h; rcases h with ⟨c8, h⟩ | ⟨c8, h⟩
            · cases h
              try simp only [W, c2, c3, c5, c6, c7, eq_true c8, p1, p2, p3, p4, p5, p6, p7, p8, p9, p10, p11, p12]
            · replace h := bnd h; obtain ⟨⟨t9_1, t9_2, t9_3⟩, A, h⟩ := h
              dsimp only at h
              try simp only [W, c2, c3, c5, c6, c7, c8, p1, p2, p3, p4, p5, p6, p7, p8, p9, p10, p11, p12]
              try refine ⟨(by kernel_rfl : rchk _ _ _ = true), ?_⟩
              refine callM (spec_l01Below.mark A) (by first | exact .inl rfl | exact .inr rfl) (by simp only [W, p1, p2, p3, p4, p5, p6, p7, p8, p9, p10, p11, p12] <;> trivial) ?_
              try simp only [W, c2, c3, c5, c6, c7, c8, p1, p2, p3, p4, p5, p6, p7, p8, p9, p10, p11, p12]
              replace h := bnd h; obtain ⟨⟨t10_1, t10_2, t10_3⟩, A, h⟩ := h
              dsimp only at h
              try simp only [W, c2, c3, c5, c6, c7, c8, p1, p2, p3, p4, p5, p6, p7, p8, p9, p10, p11, p12]
              try refine ⟨(by kernel_rfl : rchk _ _ _ = true), ?_⟩
              refine callM (spec_l01Below.mark A) (by first | exact .inl rfl | exact .inr rfl) (by simp only [W, p1, p2, p3, p4, p5, p6, p7, p8, p9, p10, p11, p12] <;> trivial) ?_
              try simp only [W, c2, c3, c5, c6, c7, c8, p1, p2, p3, p4, p5, p6, p7, p8, p9, p10, p11, p12]
              cases h
              try simp only [W, c2, c3, c5, c6, c7, c8, p1, p2, p3, p4, p5, p6, p7, p8, p9, p10, p11, p12]
set_option maxRecDepth 20000 in set_option maxHeartbeats 4000000 in open Nat renaming reduceAdd → p1, reduceSub → p2, reduceMul → p3, reduceDiv → p4, reduceBNe → p5, reduceBEq → p6, reduceEqDiff → p7, reduceLeDiff → p8, reduceLT → p9 in open Int renaming reduceLE → p10, reduceLT → p11, reduceEq → p12 in
theorem spec_l39List.mark {k : Nat} {s0_0 : List Int} {s0_1 : Int} {s0_2 : Int} {r1 : List SAct} {r2 : Int} {r3 : Int} {i : Nat} (h : spec_l39List.f k s0_0 s0_1 s0_2 = some (r1, r2, r3)) : CtrB Tryd.prog 43 [.bp i 0] [(i, .box 103 [.pr 1 (s0_0.map eU8), .v (.int .i64 s0_1), .v (.int .i64 s0_2)])] (.ow 31 3 (r1.map eAct)) [(i, .box 103 [.pr 1 (s0_0.map eU8), .v (.int .i64 r2), .v (.int .i64 r3)])] := by
  refine CtrB_ren (CtrB_of tyOk hm Tryd.func43 rfl rfl (by kernel_rfl) (args := [.bp 15 0]) (n := 21) (rv := [.tmp 2]) rfl rfl (by simp) rfl (by simp) rfl ?_) rfl rfl rfl
  simp only [W, List.replicate]
  unfold spec_l39List.f at h
  replace h := bnd h; obtain ⟨⟨t1_1, t1_2, t1_3⟩, A, h⟩ := h
  dsimp only at h
  try simp only [W, p1, p2, p3, p4, p5, p6, p7, p8, p9, p10, p11, p12]
  try refine ⟨(by kernel_rfl : rchk _ _ _ = true), ?_⟩
  refine callM (spec_l01Below.mark A) (by first | exact .inl rfl | exact .inr rfl) (by simp only [W, p1, p2, p3, p4, p5, p6, p7, p8, p9, p10, p11, p12] <;> trivial) ?_
  try simp only [W, p1, p2, p3, p4, p5, p6, p7, p8, p9, p10, p11, p12]
  try simp only [W, p1, p2, p3, p4, p5, p6, p7, p8, p9, p10, p11, p12]
  refine loopN (fun x : List (SAct) × Int × Int × Int × Int => [.bp 15 0, .u, .u, .lo 112, .v (.int .i64 x.2.1), .v (.int .i64 x.2.2.1), .u, .u, .bp 15 0, .u, .u, .u, .u, .u, .u, .u, .u, .u, .u, .u, .u, .u]) (fun x => [(15, .box 103 [.pr 1 (List.map eU8 s0_0), .v (.int .i64 x.2.2.2.1), .v (.int .i64 x.2.2.2.2)]), (112, .row 31 3 (List.map eAct x.1))]) (fun n x => spec_l39List.l0 n x.1 x.2.1 x.2.2.1 s0_0 x.2.2.2.1 x.2.2.2.2 = some (r1, r2, r3)) ((([] : List (SAct))), t1_1, 0, t1_2, t1_3) [] h (by simp only [W, p1, p2, p3, p4, p5, p6, p7, p8, p9, p10, p11, p12] <;> trivial) (by simp only [W, p1, p2, p3, p4, p5, p6, p7, p8, p9, p10, p11, p12] <;> trivial) rfl (fun _ h => by cases h) ?_
  intro n1 ⟨x2, x3, x4, x5, x6⟩ _ h
  simp only [spec_l39List.l0] at h
  replace h := ifS h; rcases h with ⟨c7, h⟩ | ⟨c7, h⟩
  · replace h := bnd h; obtain ⟨⟨t8_1, t8_2, t8_3, t8_4, t8_5⟩, A, h⟩ := h
    dsimp only at h
    try simp only [W, c7, p1, p2, p3, p4, p5, p6, p7, p8, p9, p10, p11, p12]
    try refine ⟨(by kernel_rfl : rchk _ _ _ = true), ?_⟩
    refine callM (spec_l39Act.mark A) (by first | exact .inl rfl | exact .inr rfl) (by simp only [W, p1, p2, p3, p4, p5, p6, p7, p8, p9, p10, p11, p12] <;> trivial) ?_
    try simp only [W, c7, p1, p2, p3, p4, p5, p6, p7, p8, p9, p10, p11, p12]
    replace h := ifN h; obtain ⟨c9, h⟩ := h
    try simp only [W, c7, c9, p1, p2, p3, p4, p5, p6, p7, p8, p9, p10, p11, p12]
    exact nextN ((x2 ++ [(⟨t8_1, t8_2, t8_3⟩ : SAct)]), x3, (wrap64 (x4 + 1)), t8_4, t8_5) [(112, 320)] n1 (by omega) h (by simp only [W, p1, p2, p3, p4, p5, p6, p7, p8, p9, p10, p11, p12] <;> trivial) (by simp only [W, p1, p2, p3, p4, p5, p6, p7, p8, p9, p10, p11, p12] <;> trivial) rfl
  · cases h
    try simp only [W, c7, p1, p2, p3, p4, p5, p6, p7, p8, p9, p10, p11, p12]
set_option maxRecDepth 20000 in set_option maxHeartbeats 4000000 in open Nat renaming reduceAdd → p1, reduceSub → p2, reduceMul → p3, reduceDiv → p4, reduceBNe → p5, reduceBEq → p6, reduceEqDiff → p7, reduceLeDiff → p8, reduceLT → p9 in open Int renaming reduceLE → p10, reduceLT → p11, reduceEq → p12 in
theorem spec_DrawActs.ctr {k : Nat} {l0 : List Int} {r1 : Int} {r2 : Int} {r3 : Int} {r4 : List Int} {r5 : Int} {r6 : Int} {r7 : List Int} {r8 : Int} {r9 : List SAct} (h : spec_DrawActs.f k l0 = some (r1, r2, r3, r4, r5, r6, r7, r8, r9)) : Ctr Tryd.prog 17 [.pr 1 (l0.map eU8)] (.tu [.ag [.v (.int .i64 r1), .v (.int .i64 r2), .v (.int .i64 r3), .ow 3 1 (r4.map eI), .v (.int .i64 r5), .v (.int .i64 r6), .ow 3 1 (r7.map eI), .v (.int .i64 r8)], .ow 31 3 (r9.map eAct)]) := by
  refine Ctr_of tyOk hm Tryd.func17 rfl rfl (by kernel_rfl) (n := 10) (rv := [.cell 2 46, .tmp 3]) rfl rfl ?_
  simp only [W, List.replicate]
  unfold spec_DrawActs.f at h
  replace h := bnd h; obtain ⟨⟨t1_1, t1_2, t1_3⟩, A, h⟩ := h
  dsimp only at h
  try simp only [W, p1, p2, p3, p4, p5, p6, p7, p8, p9, p10, p11, p12]
  refine callN (spec_l01New.new A) rfl ?_
  try simp only [W, p1, p2, p3, p4, p5, p6, p7, p8, p9, p10, p11, p12]
  replace h := bnd h; obtain ⟨⟨t2_1, t2_2, t2_3, t2_4, t2_5, t2_6, t2_7, t2_8, t2_9, t2_10⟩, A, h⟩ := h
  dsimp only at h
  try simp only [W, p1, p2, p3, p4, p5, p6, p7, p8, p9, p10, p11, p12]
  refine callM (spec_l39Garden.mark A) (by first | exact .inl rfl | exact .inr rfl) (by simp only [W, p1, p2, p3, p4, p5, p6, p7, p8, p9, p10, p11, p12] <;> trivial) ?_
  try simp only [W, p1, p2, p3, p4, p5, p6, p7, p8, p9, p10, p11, p12]
  replace h := bnd h; obtain ⟨⟨t3_1, t3_2, t3_3⟩, A, h⟩ := h
  dsimp only at h
  try simp only [W, p1, p2, p3, p4, p5, p6, p7, p8, p9, p10, p11, p12]
  refine callM (spec_l39List.mark A) (by first | exact .inl rfl | exact .inr rfl) (by simp only [W, p1, p2, p3, p4, p5, p6, p7, p8, p9, p10, p11, p12] <;> trivial) ?_
  try simp only [W, p1, p2, p3, p4, p5, p6, p7, p8, p9, p10, p11, p12]
  cases h
  try simp only [W, p1, p2, p3, p4, p5, p6, p7, p8, p9, p10, p11, p12]
end Go.Proofs.YtdjdleldocfpaaaDoor.F
end
