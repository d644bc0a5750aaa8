/- Packed by a program of the session (wip/tools/pack.py): what the claim's theorem reaches, of the texts that wip/ and the kit's printer lay. -/
import Derived.Test.YtkindoepnganmaaGreatPkFnExactLeave5
import Derived.Laws.StructEq
section
namespace Go.Proofs.YtkindoepnganmaaGreat.F
open Go.RowKit Go.Proofs.YtkindoepnganmaaGreatW.PrintWords Go.Proofs.YtkindoepnganmaaGreatW.PrintLast Go.Proofs.YtkindoepnganmaaGreatW.PrintMore
set_option linter.unusedVariables false
set_option linter.unusedSimpArgs false
attribute [local go_sem] max2_int min2_int max_two min_two
set_option maxRecDepth 20000 in set_option maxHeartbeats 4000000 in open Nat renaming reduceAdd → p1, reduceSub → p2, reduceMul → p3, reduceDiv → p4, reduceBNe → p5, reduceBEq → p6, reduceEqDiff → p7, reduceLeDiff → p8, reduceLT → p9 in open Int renaming reduceLE → p10, reduceLT → p11, reduceEq → p12 in
theorem spec_l04Distances.ctr {k : Nat} {a0_0 : Int} {a0_1 : Int} {a0_2 : Int} {a1 : Int} {r : List Int} (h : spec_l04Distances.f k a0_0 a0_1 a0_2 a1 = some r) : Ctr Tryz.prog 108 [.ag [.v (.int .i64 a0_0), .v (.int .i64 a0_1), .v (.int .i64 a0_2)], .v (.int .i64 a1)] (.ow 3 1 (r.map eI)) := by
  refine Ctr_of tyOk hm Tryz.func108 rfl rfl (by kernel_rfl) (n := 69) (rv := [.tmp 4]) rfl rfl ?_
  simp only [W, List.replicate]
  unfold spec_l04Distances.f at h
  replace h := bnd h; obtain ⟨t1, A, h⟩ := h
  try simp only [W, p1, p2, p3, p4, p5, p6, p7, p8, p9, p10, p11, p12]
  refine callR (spec_CountCells.ctr A) ?_
  replace h := ifN h; obtain ⟨c2, h⟩ := h
  replace h := ifN h; obtain ⟨c3, h⟩ := h
  try simp only [W, c2, c3, p1, p2, p3, p4, p5, p6, p7, p8, p9, p10, p11, p12]
  refine loopN (fun x : Int × List Int × Int × Int × Int × Int => [.u, .v (.int .i64 x.1), .bp 32 0, .u, .u, .lo 224, .v (.int .i64 x.2.2.1), .u, .u, .u, .u, .bp 32 0, .u, .u, .u, .u, .u, .u, .u, .u, .u, .u, .u, .u, .u, .u, .u, .u, .u, .u, .u, .u, .u, .u, .u, .u, .u, .u, .u, .u, .u, .u, .u, .u, .u, .u, .u, .u, .u, .u, .u, .u, .u, .u, .u, .u, .u, .u, .u, .u, .u, .u, .u, .u, .u, .u, .u, .u, .u, .u, .u]) (fun x => [(32, .box 34 [.v (.int .i64 x.2.2.2.1), .v (.int .i64 x.2.2.2.2.1), .v (.int .i64 x.2.2.2.2.2)]), (224, .row 3 1 (List.map eI x.2.1))]) (fun n x => spec_l04Distances.l0 n x.1 x.2.1 x.2.2.1 x.2.2.2.1 x.2.2.2.2.1 x.2.2.2.2.2 = some r) (a1, (List.replicate (t1 : Int).toNat 0), 0, a0_0, a0_1, a0_2) [] h (by simp only [W, p1, p2, p3, p4, p5, p6, p7, p8, p9, p10, p11, p12] <;> trivial) (by simp only [W, p1, p2, p3, p4, p5, p6, p7, p8, p9, p10, p11, p12] <;> trivial) rfl (fun _ h => by cases h) ?_
  intro n1 ⟨x4, x5, x6, x7, x8, x9⟩ _ h
  simp only [spec_l04Distances.l0] at h
  replace h := ifS h; rcases h with ⟨c10, h⟩ | ⟨c10, h⟩
  · replace h := ifN h; obtain ⟨c11, h⟩ := h
    try simp only [W, c10, c11, p1, p2, p3, p4, p5, p6, p7, p8, p9, p10, p11, p12]
    exact nextN (x4, (x5.set (x6 : Int).toNat (-1)), (wrap64 (x6 + 1)), x7, x8, x9) [] n1 (by omega) h (by simp only [W, p1, p2, p3, p4, p5, p6, p7, p8, p9, p10, p11, p12] <;> trivial) (by simp only [W, p1, p2, p3, p4, p5, p6, p7, p8, p9, p10, p11, p12] <;> trivial) rfl
  · replace h := ifN h; obtain ⟨c12, h⟩ := h
    replace h := ifN h; obtain ⟨c13, h⟩ := h
    try simp only [W, c10, c12, c13, p1, p2, p3, p4, p5, p6, p7, p8, p9, p10, p11, p12]
    refine loopN (fun x : List Int × List Int × Int × Int × Int × Int => [.u, .u, .bp 32 0, .u, .u, .lo 224, .u, .lo 448, .v (.int .i64 x.2.2.1), .u, .u, .bp 32 0, .u, .u, .u, .u, .u, .u, .u, .u, .u, .u, .u, .u, .u, .u, .u, .u, .u, .u, .u, .u, .u, .u, .u, .u, .u, .u, .u, .u, .u, .u, .u, .u, .u, .u, .u, .u, .u, .u, .u, .u, .u, .u, .u, .u, .u, .u, .u, .u, .u, .u, .u, .u, .u, .u, .u, .u, .u, .u, .u]) (fun x => [(32, .box 34 [.v (.int .i64 x.2.2.2.1), .v (.int .i64 x.2.2.2.2.1), .v (.int .i64 x.2.2.2.2.2)]), (224, .row 3 1 (List.map eI x.1)), (448, .row 3 1 (List.map eI x.2.1))]) (fun n x => spec_l04Distances.l1 n x.1 x.2.1 x.2.2.1 x.2.2.2.1 x.2.2.2.2.1 x.2.2.2.2.2 = some r) ((x5.set (x4 : Int).toNat 0), (([x4] : List Int)), 0, x7, x8, x9) [] h (by simp only [W, p1, p2, p3, p4, p5, p6, p7, p8, p9, p10, p11, p12] <;> trivial) (by simp only [W, p1, p2, p3, p4, p5, p6, p7, p8, p9, p10, p11, p12] <;> trivial) rfl (fun _ h => by cases h) ?_
    intro n2 ⟨x14, x15, x16, x17, x18, x19⟩ _ h
    simp only [spec_l04Distances.l1] at h
    replace h := ifS h; rcases h with ⟨c20, h⟩ | ⟨c20, h⟩
    · try simp only [W, c20, p1, p2, p3, p4, p5, p6, p7, p8, p9, p10, p11, p12]
      refine loopN (fun x : List Int × List Int × Int × Int × Int × Int × Int => [.u, .u, .bp 32 0, .u, .u, .lo 224, .u, .lo 448, .v (.int .i64 x.2.2.1), .v (.int .i64 x.2.2.2.1), .u, .bp 32 0, .u, .u, .u, .u, .u, .u, .u, .u, .u, .u, .u, .u, .u, .u, .u, .u, .u, .u, .u, .u, .u, .u, .u, .u, .u, .u, .u, .u, .u, .u, .u, .u, .u, .u, .u, .u, .u, .u, .u, .u, .u, .u, .u, .u, .u, .u, .u, .u, .u, .u, .u, .u, .u, .u, .u, .u, .u, .u, .u]) (fun x => [(32, .box 34 [.v (.int .i64 x.2.2.2.2.1), .v (.int .i64 x.2.2.2.2.2.1), .v (.int .i64 x.2.2.2.2.2.2)]), (224, .row 3 1 (List.map eI x.1)), (448, .row 3 1 (List.map eI x.2.1))]) (fun n x => spec_l04Distances.l2 n x.1 x.2.1 x.2.2.1 x.2.2.2.1 x.2.2.2.2.1 x.2.2.2.2.2.1 x.2.2.2.2.2.2 = some r) (x14, x15, x16, 0, x17, x18, x19) [] h (by simp only [W, p1, p2, p3, p4, p5, p6, p7, p8, p9, p10, p11, p12] <;> trivial) (by simp only [W, p1, p2, p3, p4, p5, p6, p7, p8, p9, p10, p11, p12] <;> trivial) rfl (fun _ h => by cases h) ?_
      intro n3 ⟨x21, x22, x23, x24, x25, x26, x27⟩ _ h
      simp only [spec_l04Distances.l2] at h
      replace h := ifS h; rcases h with ⟨c28, h⟩ | ⟨c28, h⟩
      · replace h := ifN h; obtain ⟨c29, h⟩ := h
        replace h := ifN h; obtain ⟨c30, h⟩ := h
        replace h := bnd h; obtain ⟨t31, A, h⟩ := h
        try simp only [W, c28, c29, c30, p1, p2, p3, p4, p5, p6, p7, p8, p9, p10, p11, p12]
        refine callR (spec_Step.ctr A) ?_
        replace h := ifS h; rcases h with ⟨c32, h⟩ | ⟨c32, h⟩
        · replace h := ifN h; obtain ⟨c33, h⟩ := h
          replace h := ifN h; obtain ⟨c34, h⟩ := h
          replace h := ifS h; rcases h with ⟨c35, h⟩ | ⟨c35, h⟩
          · replace h := ifN h; obtain ⟨c36, h⟩ := h
            replace h := ifN h; obtain ⟨c37, h⟩ := h
            replace h := ifN h; obtain ⟨c38, h⟩ := h
            try simp only [W, c28, c29, c30, c32, c33, c34, c35, c36, c37, c38, p1, p2, p3, p4, p5, p6, p7, p8, p9, p10, p11, p12]
            exact nextN ((x21.set (t31 : Int).toNat (wrap64 ((rd x21 (rd x22 x23)) + 1))), (x22 ++ [t31]), x23, (wrap64 (x24 + 1)), x25, x26, x27) [(448, 1104)] n3 (by omega) h (by simp only [W, p1, p2, p3, p4, p5, p6, p7, p8, p9, p10, p11, p12] <;> trivial) (by simp only [W, p1, p2, p3, p4, p5, p6, p7, p8, p9, p10, p11, p12] <;> trivial) rfl
          · try simp only [W, c28, c29, c30, c32, c33, c34, c35, p1, p2, p3, p4, p5, p6, p7, p8, p9, p10, p11, p12]
            exact nextN (x21, x22, x23, (wrap64 (x24 + 1)), x25, x26, x27) [] n3 (by omega) h (by simp only [W, p1, p2, p3, p4, p5, p6, p7, p8, p9, p10, p11, p12] <;> trivial) (by simp only [W, p1, p2, p3, p4, p5, p6, p7, p8, p9, p10, p11, p12] <;> trivial) rfl
        · try simp only [W, c28, c29, c30, c32, p1, p2, p3, p4, p5, p6, p7, p8, p9, p10, p11, p12]
          exact nextN (x21, x22, x23, (wrap64 (x24 + 1)), x25, x26, x27) [] n3 (by omega) h (by simp only [W, p1, p2, p3, p4, p5, p6, p7, p8, p9, p10, p11, p12] <;> trivial) (by simp only [W, p1, p2, p3, p4, p5, p6, p7, p8, p9, p10, p11, p12] <;> trivial) rfl
      · try simp only [W, c28, p1, p2, p3, p4, p5, p6, p7, p8, p9, p10, p11, p12]
        exact nextN (x21, x22, (wrap64 (x23 + 1)), x25, x26, x27) [] n3 (by omega) h (by simp only [W, p1, p2, p3, p4, p5, p6, p7, p8, p9, p10, p11, p12] <;> trivial) (by simp only [W, p1, p2, p3, p4, p5, p6, p7, p8, p9, p10, p11, p12] <;> trivial) rfl
    · cases h
      try simp only [W, c20, p1, p2, p3, p4, p5, p6, p7, p8, p9, p10, p11, p12]
set_option maxRecDepth 20000 in set_option maxHeartbeats 4000000 in open Nat renaming reduceAdd → p1, reduceSub → p2, reduceMul → p3, reduceDiv → p4, reduceBNe → p5, reduceBEq → p6, reduceEqDiff → p7, reduceLeDiff → p8, reduceLT → p9 in open Int renaming reduceLE → p10, reduceLT → p11, reduceEq → p12 in
theorem spec_Reached.ctr {k : Nat} {a0_0 : Int} {a0_1 : Int} {a0_2 : Int} {a1 : Int} {r : List Int} (h : spec_Reached.f k a0_0 a0_1 a0_2 a1 = some r) : Ctr Tryz.prog 153 [.ag [.v (.int .i64 a0_0), .v (.int .i64 a0_1), .v (.int .i64 a0_2)], .v (.int .i64 a1)] (.ow 3 1 (r.map eI)) := by
  refine Ctr_of tyOk hm Tryz.func153 rfl rfl (by kernel_rfl) (n := 31) (rv := [.tmp 4]) rfl rfl ?_
  simp only [W, List.replicate]
  unfold spec_Reached.f at h
  rw [Option.bind_some] at h
  replace h := bnd h; obtain ⟨t1, A, h⟩ := h
  try simp only [W, p1, p2, p3, p4, p5, p6, p7, p8, p9, p10, p11, p12]
  refine callR (spec_l04Has.ctr A) ?_
  replace h := ifT h; rcases h with ⟨rfl, h⟩ | ⟨rfl, h⟩
  · replace h := bnd h; obtain ⟨t3, A, h⟩ := h
    try simp only [W, p1, p2, p3, p4, p5, p6, p7, p8, p9, p10, p11, p12]
    refine callR (spec_l04Distances.ctr A) ?_
    try simp only [W, p1, p2, p3, p4, p5, p6, p7, p8, p9, p10, p11, p12]
    refine loopN (fun x : List Int × List Int × Int × Int × Int × Int => [.u, .u, .bp 32 0, .u, .u, .lo 128, .lo 256, .v (.int .i64 x.2.2.1), .u, .u, .u, .u, .u, .u, .u, .u, .u, .u, .u, .u, .u, .u, .u, .u, .u, .u, .u, .u, .u, .u, .u, .u, .u]) (fun x => [(32, .box 34 [.v (.int .i64 x.2.2.2.1), .v (.int .i64 x.2.2.2.2.1), .v (.int .i64 x.2.2.2.2.2)]), (128, .row 3 1 (List.map eI x.1)), (256, .row 3 1 (List.map eI x.2.1))]) (fun n x => spec_Reached.l0 n x.1 x.2.1 x.2.2.1 = some r) ((([] : List Int) : List Int), t3, 0, a0_0, a0_1, a0_2) [] h (by simp only [W, p1, p2, p3, p4, p5, p6, p7, p8, p9, p10, p11, p12] <;> trivial) (by simp only [W, p1, p2, p3, p4, p5, p6, p7, p8, p9, p10, p11, p12] <;> trivial) rfl (fun _ h => by cases h) ?_
    intro n1 ⟨x4, x5, x6, y7, y8, y9⟩ _ h
    simp only [spec_Reached.l0] at h
    replace h := ifS h; rcases h with ⟨c10, h⟩ | ⟨c10, h⟩
    · replace h := ifN h; obtain ⟨c11, h⟩ := h
      replace h := ifS h; rcases h with ⟨c12, h⟩ | ⟨c12, h⟩
      · replace h := ifN h; obtain ⟨c13, h⟩ := h
        try simp only [W, c10, c11, c12, c13, p1, p2, p3, p4, p5, p6, p7, p8, p9, p10, p11, p12]
        exact nextN ((x4 ++ [x6]), x5, (wrap64 (x6 + 1)), y7, y8, y9) [(128, 496)] n1 (by omega) h (by simp only [W, p1, p2, p3, p4, p5, p6, p7, p8, p9, p10, p11, p12] <;> trivial) (by simp only [W, p1, p2, p3, p4, p5, p6, p7, p8, p9, p10, p11, p12] <;> trivial) rfl
      · try simp only [W, c10, c11, c12, p1, p2, p3, p4, p5, p6, p7, p8, p9, p10, p11, p12]
        exact nextN (x4, x5, (wrap64 (x6 + 1)), y7, y8, y9) [] n1 (by omega) h (by simp only [W, p1, p2, p3, p4, p5, p6, p7, p8, p9, p10, p11, p12] <;> trivial) (by simp only [W, p1, p2, p3, p4, p5, p6, p7, p8, p9, p10, p11, p12] <;> trivial) rfl
    · cases h
      try simp only [W, c10, p1, p2, p3, p4, p5, p6, p7, p8, p9, p10, p11, p12]
  · cases h
    try simp only [W, p1, p2, p3, p4, p5, p6, p7, p8, p9, p10, p11, p12]
end Go.Proofs.YtkindoepnganmaaGreat.F
end

section
namespace Go.Proofs.YtkindoepnganmaaGreat.F
open Go.RowKit Go.Proofs.YtkindoepnganmaaGreatW.PrintWords Go.Proofs.YtkindoepnganmaaGreatW.PrintLast Go.Proofs.YtkindoepnganmaaGreatW.PrintMore
set_option linter.unusedVariables false
set_option linter.unusedSimpArgs false
attribute [local go_sem] max2_int min2_int max_two min_two
set_option maxRecDepth 20000 in set_option maxHeartbeats 4000000 in open Nat renaming reduceAdd → p1, reduceSub → p2, reduceMul → p3, reduceDiv → p4, reduceBNe → p5, reduceBEq → p6, reduceEqDiff → p7, reduceLeDiff → p8, reduceLT → p9 in open Int renaming reduceLE → p10, reduceLT → p11, reduceEq → p12 in
theorem spec_CountParts.ctr {k : Nat} {a0_0 : Int} {a0_1 : Int} {a0_2 : Int} {r : Int} (h : spec_CountParts.f k a0_0 a0_1 a0_2 = some r) : Ctr Tryz.prog 119 [.ag [.v (.int .i64 a0_0), .v (.int .i64 a0_1), .v (.int .i64 a0_2)]] (.v (.int .i64 r)) := by
  refine Ctr_of tyOk hm Tryz.func119 rfl rfl (by kernel_rfl) (n := 25) (rv := [.tmp 2]) rfl rfl ?_
  simp only [W, List.replicate]
  unfold spec_CountParts.f at h
  try simp only [W, p1, p2, p3, p4, p5, p6, p7, p8, p9, p10, p11, p12]
  refine loopN (fun x : Int × Int × Int × Int × Int => [.u, .bp 16 0, .u, .v (.int .i64 x.1), .v (.int .i64 x.2.1), .u, .u, .u, .u, .u, .u, .u, .u, .u, .u, .u, .u, .u, .u, .u, .u, .u, .u, .u, .u, .u]) (fun x => [(16, .box 34 [.v (.int .i64 x.2.2.1), .v (.int .i64 x.2.2.2.1), .v (.int .i64 x.2.2.2.2)])]) (fun n x => spec_CountParts.l0 n x.1 x.2.1 x.2.2.1 x.2.2.2.1 x.2.2.2.2 = some r) (0, 0, a0_0, a0_1, a0_2) [] h (by simp only [W, p1, p2, p3, p4, p5, p6, p7, p8, p9, p10, p11, p12] <;> trivial) (by simp only [W, p1, p2, p3, p4, p5, p6, p7, p8, p9, p10, p11, p12] <;> trivial) rfl (fun _ h => by cases h) ?_
  intro n1 ⟨x1, x2, x3, x4, x5⟩ _ h
  simp only [spec_CountParts.l0] at h
  replace h := bnd h; obtain ⟨t6, A, h⟩ := h
  try simp only [W, p1, p2, p3, p4, p5, p6, p7, p8, p9, p10, p11, p12]
  refine callR (spec_CountCells.ctr A) ?_
  replace h := ifS h; rcases h with ⟨c7, h⟩ | ⟨c7, h⟩
  · replace h := bnd h; obtain ⟨t8, A, h⟩ := h
    try simp only [W, c7, p1, p2, p3, p4, p5, p6, p7, p8, p9, p10, p11, p12]
    refine callR (spec_MazeOk.ctr A) ?_
    rcases n1 with _ | m9; · cases h
    rw [spec_CountParts.j1] at h
    replace h := ifT h; rcases h with ⟨rfl, h⟩ | ⟨rfl, h⟩
    · replace h := bnd h; obtain ⟨t11, A, h⟩ := h
      try simp only [W, c7, p1, p2, p3, p4, p5, p6, p7, p8, p9, p10, p11, p12]
      refine callR (spec_Reached.ctr A) ?_
      replace h := ifN h; obtain ⟨c12, h⟩ := h
      replace h := ifS h; rcases h with ⟨c13, h⟩ | ⟨c13, h⟩
      · try simp only [W, c7, c12, eq_true c13, p1, p2, p3, p4, p5, p6, p7, p8, p9, p10, p11, p12]
        exact nextN ((wrap64 (x1 + 1)), (wrap64 (x2 + 1)), x3, x4, x5) [] m9 (by omega) h (by simp only [W, p1, p2, p3, p4, p5, p6, p7, p8, p9, p10, p11, p12] <;> trivial) (by simp only [W, p1, p2, p3, p4, p5, p6, p7, p8, p9, p10, p11, p12] <;> trivial) rfl
      · try simp only [W, c7, c12, c13, p1, p2, p3, p4, p5, p6, p7, p8, p9, p10, p11, p12]
        exact nextN (x1, (wrap64 (x2 + 1)), x3, x4, x5) [] m9 (by omega) h (by simp only [W, p1, p2, p3, p4, p5, p6, p7, p8, p9, p10, p11, p12] <;> trivial) (by simp only [W, p1, p2, p3, p4, p5, p6, p7, p8, p9, p10, p11, p12] <;> trivial) rfl
    · cases h
      try simp only [W, c7, p1, p2, p3, p4, p5, p6, p7, p8, p9, p10, p11, p12]
  · rcases n1 with _ | m14; · cases h
    rw [spec_CountParts.j1] at h
    rw [if_neg (by decide)] at h
    cases h
    try simp only [W, c7, p1, p2, p3, p4, p5, p6, p7, p8, p9, p10, p11, p12]
set_option maxRecDepth 20000 in set_option maxHeartbeats 4000000 in open Nat renaming reduceAdd → p1, reduceSub → p2, reduceMul → p3, reduceDiv → p4, reduceBNe → p5, reduceBEq → p6, reduceEqDiff → p7, reduceLeDiff → p8, reduceLT → p9 in open Int renaming reduceLE → p10, reduceLT → p11, reduceEq → p12 in
theorem spec_IsConnected.ctr {k : Nat} {a0_0 : Int} {a0_1 : Int} {a0_2 : Int} {r : Bool} (h : spec_IsConnected.f k a0_0 a0_1 a0_2 = some r) : Ctr Tryz.prog 75 [.ag [.v (.int .i64 a0_0), .v (.int .i64 a0_1), .v (.int .i64 a0_2)]] (.v (.bool r)) := by
  refine Ctr_of tyOk hm Tryz.func75 rfl rfl (by kernel_rfl) (n := 5) (rv := [.tmp 2]) rfl rfl ?_
  simp only [W, List.replicate]
  unfold spec_IsConnected.f at h
  replace h := bnd h; obtain ⟨t1, A, h⟩ := h
  try simp only [W, p1, p2, p3, p4, p5, p6, p7, p8, p9, p10, p11, p12]
  refine callR (spec_CountParts.ctr A) ?_
  cases h
  try simp only [W, p1, p2, p3, p4, p5, p6, p7, p8, p9, p10, p11, p12]
set_option maxRecDepth 20000 in set_option maxHeartbeats 4000000 in open Nat renaming reduceAdd → p1, reduceSub → p2, reduceMul → p3, reduceDiv → p4, reduceBNe → p5, reduceBEq → p6, reduceEqDiff → p7, reduceLeDiff → p8, reduceLT → p9 in open Int renaming reduceLE → p10, reduceLT → p11, reduceEq → p12 in
theorem spec_l07In.ctr {k : Nat} {l0 : List Int} {a1 : Int} {r : Bool} (h : spec_l07In.f k l0 a1 = some r) : Ctr Tryz.prog 68 [.pr 1 (l0.map eI), .v (.int .i64 a1)] (.v (.bool r)) := by
  refine Ctr_of tyOk hm Tryz.func68 rfl rfl (by kernel_rfl) (n := 16) (rv := [.tmp 4]) rfl rfl ?_
  simp only [W, List.replicate]
  unfold spec_l07In.f at h
  try simp only [W, p1, p2, p3, p4, p5, p6, p7, p8, p9, p10, p11, p12]
  refine loopN (fun x : List Int × Int × Int => [.pr 1 (List.map eI x.1), .v (.int .i64 x.2.1), .u, .u, .u, .v (.int .i64 x.2.2), .u, .u, .u, .u, .u, .u, .u, .u, .u, .u, .u, .u]) (fun x => []) (fun n x => spec_l07In.l0 n x.1 x.2.1 x.2.2 = some r) (l0, a1, 0) [] h (by simp only [W, p1, p2, p3, p4, p5, p6, p7, p8, p9, p10, p11, p12] <;> trivial) (by simp only [W, p1, p2, p3, p4, p5, p6, p7, p8, p9, p10, p11, p12] <;> trivial) rfl (fun _ h => by cases h) ?_
  intro n1 ⟨x1, x2, x3⟩ _ h
  simp only [spec_l07In.l0] at h
  replace h := ifS h; rcases h with ⟨c4, h⟩ | ⟨c4, h⟩
  · replace h := ifN h; obtain ⟨c5, h⟩ := h
    replace h := ifS h; rcases h with ⟨c6, h⟩ | ⟨c6, h⟩
    · cases h
      try simp only [W, c4, c5, eq_true c6, p1, p2, p3, p4, p5, p6, p7, p8, p9, p10, p11, p12]
    · try simp only [W, c4, c5, c6, p1, p2, p3, p4, p5, p6, p7, p8, p9, p10, p11, p12]
      exact nextN (x1, x2, (wrap64 (x3 + 1))) [] n1 (by omega) h (by simp only [W, p1, p2, p3, p4, p5, p6, p7, p8, p9, p10, p11, p12] <;> trivial) (by simp only [W, p1, p2, p3, p4, p5, p6, p7, p8, p9, p10, p11, p12] <;> trivial) rfl
  · cases h
    try simp only [W, c4, p1, p2, p3, p4, p5, p6, p7, p8, p9, p10, p11, p12]
set_option maxHeartbeats 8000000 in
set_option maxRecDepth 100000 in
theorem spec_l07In.calls (k : Nat) (A0 : Option Addr) (c0 : Nat) (l0 : List Int) (a1 : Int) (r : Bool) (w : World) (hr0 : Kd.C (Kd.int .i64) w A0 l0.length l0) (hc0 : l0.length ≤ c0) (h : spec_l07In.f k l0 a1 = some r) :
  Calls Tryz.prog 68 #[.slice A0 l0.length c0, .int .i64 a1] w fun e w' => e = .returned (.bool r) ∧ Drawn0 w w' := by
 have HR0 := aK hr0
 have HC0 := aK hc0
 clear hr0 hc0
 have H : (spec_l07In.l0 k l0 a1 0) = some r := h
 clear h
 have H' := aK H
 clear H
 go_enter Tryz.func68, Tryz.ntmps68
 go_wp2
 go_loopg [5] k (fun kq v5 w' => ∃ (x5_1 : Int), v5 = .int .i64 x5_1 ∧ Aside0 (spec_l07In.l0 kq l0 a1 x5_1 = some r) ∧ Aside0 (kq ≤ k) ∧ Drawn0 w w')
 case atStart => exact ⟨(0), (by first | rfl | (simp; done) | (simp [*]; done)), H', ⟨Nat.le_refl _⟩, by repeat (first | exact Drawn0.refl _ | apply Drawn0.step)⟩
 case round =>
  clear H'
  try clear p2
  obtain ⟨x5_1, rfl, HA, HK1, ⟨m1, rfl⟩⟩ := hrel
  cases gk with
  | zero => exact absurd HA.out (by simp [spec_l07In.l0])
  | succ k1 =>
   have H := HA.out
   clear HA
   simp only [spec_l07In.l0] at H
   by_cases c3 : x5_1 < (l0.length : Int)
   ·rw [if_pos c3] at H
    have c3b0 : decide (x5_1 < (l0.length : Int)) = true := decide_eq_true c3
    clear c3
    by_cases c4 : 0 ≤ x5_1
    ·rw [if_pos c4] at H
     have c4b0 : decide (0 ≤ x5_1) = true := decide_eq_true c4
     clear c4
     by_cases c5 : (rd l0 x5_1) = a1
     ·rw [if_pos c5] at H
      have c5b0 : ((rd l0 x5_1) == a1) = true := beq_iff_eq.mpr c5
      have c5b1 : ((rd l0 x5_1) != a1) = false := bne_eq_false_iff_eq.mpr c5
      clear c5
      obtain rfl := Option.some.inj H
      have p202 : 0 ≤ (x5_1 : Int) := of_decide_eq_true (by first | (with_reducible assumption) | assumption)
      have q202 : x5_1 < (l0.length : Int) := of_decide_eq_true (by first | (with_reducible assumption) | assumption)
      obtain ⟨ad202, e202, hx202_0⟩ := Kd.at_int HR0.out x5_1 p202 q202
      cases e202
      replace p202 := eq_true p202
      replace q202 := eq_true q202
      go_wp2
      go_ret
      exact ⟨by first | rfl | (simp; done) | (simp [*]; done), by repeat (first | exact Drawn0.refl _ | apply Drawn0.step)⟩
     ·rw [if_neg c5] at H
      have c5b0 : ((rd l0 x5_1) == a1) = false := beq_eq_false_iff_ne.mpr c5
      have c5b1 : ((rd l0 x5_1) != a1) = true := bne_iff_ne.mpr c5
      have H' := aK H
      clear H
      have p202 : 0 ≤ (x5_1 : Int) := of_decide_eq_true (by first | (with_reducible assumption) | assumption)
      have q202 : x5_1 < (l0.length : Int) := of_decide_eq_true (by first | (with_reducible assumption) | assumption)
      obtain ⟨ad202, e202, hx202_0⟩ := Kd.at_int HR0.out x5_1 p202 q202
      cases e202
      replace p202 := eq_true p202
      replace q202 := eq_true q202
      go_wp2
      go_roundg k1
      case measure => have := HK1.out; omega
      case rel => exact ⟨(wrap64 (x5_1 + 1)), (by first | rfl | (simp; done) | (simp [*]; done)), H', ⟨by have := HK1.out; omega⟩, by repeat (first | exact Drawn0.refl _ | apply Drawn0.step)⟩
    ·rw [if_neg c4] at H
     exact absurd H (by simp)
   ·rw [if_neg c3] at H
    have c3b0 : decide (x5_1 < (l0.length : Int)) = false := decide_eq_false c3
    clear c3
    obtain rfl := Option.some.inj H
    go_wp2
    go_ret
    exact ⟨by first | rfl | (simp; done) | (simp [*]; done), by repeat (first | exact Drawn0.refl _ | apply Drawn0.step)⟩
set_option maxRecDepth 20000 in set_option maxHeartbeats 4000000 in open Nat renaming reduceAdd → p1, reduceSub → p2, reduceMul → p3, reduceDiv → p4, reduceBNe → p5, reduceBEq → p6, reduceEqDiff → p7, reduceLeDiff → p8, reduceLT → p9 in open Int renaming reduceLE → p10, reduceLT → p11, reduceEq → p12 in
theorem spec_CrowdOk.ctr {k : Nat} {a0_0 : Int} {a0_1 : Int} {a0_2 : Int} {l1 : List Int} {r : Bool} (h : spec_CrowdOk.f k a0_0 a0_1 a0_2 l1 = some r) : Ctr Tryz.prog 109 [.ag [.v (.int .i64 a0_0), .v (.int .i64 a0_1), .v (.int .i64 a0_2)], .pr 1 (l1.map eI)] (.v (.bool r)) := by
  refine Ctr_of tyOk hm Tryz.func109 rfl rfl (by kernel_rfl) (n := 34) (rv := [.tmp 4]) rfl rfl ?_
  simp only [W, List.replicate]
  unfold spec_CrowdOk.f at h
  try simp only [W, p1, p2, p3, p4, p5, p6, p7, p8, p9, p10, p11, p12]
  refine loopN (fun x : List Int × Int × Int × Int × Int => [.u, .pr 1 (List.map eI x.1), .bp 32 0, .u, .u, .v (.int .i64 x.2.1), .u, .u, .u, .u, .u, .u, .u, .u, .u, .u, .u, .u, .u, .u, .u, .u, .u, .u, .u, .u, .u, .u, .u, .u, .u, .u, .u, .u, .u, .u]) (fun x => [(32, .box 34 [.v (.int .i64 x.2.2.1), .v (.int .i64 x.2.2.2.1), .v (.int .i64 x.2.2.2.2)])]) (fun n x => spec_CrowdOk.l0 n x.1 x.2.1 x.2.2.1 x.2.2.2.1 x.2.2.2.2 = some r) (l1, 0, a0_0, a0_1, a0_2) [] h (by simp only [W, p1, p2, p3, p4, p5, p6, p7, p8, p9, p10, p11, p12] <;> trivial) (by simp only [W, p1, p2, p3, p4, p5, p6, p7, p8, p9, p10, p11, p12] <;> trivial) rfl (fun _ h => by cases h) ?_
  intro n1 ⟨x1, x2, x3, x4, x5⟩ _ h
  simp only [spec_CrowdOk.l0] at h
  replace h := ifS h; rcases h with ⟨c6, h⟩ | ⟨c6, h⟩
  · replace h := ifN h; obtain ⟨c7, h⟩ := h
    replace h := bnd h; obtain ⟨t8, A, h⟩ := h
    try simp only [W, c6, c7, p1, p2, p3, p4, p5, p6, p7, p8, p9, p10, p11, p12]
    refine callR (spec_l04Has.ctr A) ?_
    replace h := ifT h; rcases h with ⟨rfl, h⟩ | ⟨rfl, h⟩
    · replace h := ifN h; obtain ⟨c10, h⟩ := h
      replace h := bnd h; obtain ⟨t11, A, h⟩ := h
      try simp only [W, c6, c7, c10, p1, p2, p3, p4, p5, p6, p7, p8, p9, p10, p11, p12]
      refine callR (spec_l07In.ctr A) ?_
      replace h := ifT h; rcases h with ⟨rfl, h⟩ | ⟨rfl, h⟩
      · cases h
        try simp only [W, c6, c7, c10, p1, p2, p3, p4, p5, p6, p7, p8, p9, p10, p11, p12]
      · try simp only [W, c6, c7, c10, p1, p2, p3, p4, p5, p6, p7, p8, p9, p10, p11, p12]
        exact nextN (x1, (wrap64 (x2 + 1)), x3, x4, x5) [] n1 (by omega) h (by simp only [W, p1, p2, p3, p4, p5, p6, p7, p8, p9, p10, p11, p12] <;> trivial) (by simp only [W, p1, p2, p3, p4, p5, p6, p7, p8, p9, p10, p11, p12] <;> trivial) rfl
    · cases h
      try simp only [W, c6, c7, p1, p2, p3, p4, p5, p6, p7, p8, p9, p10, p11, p12]
  · replace h := bnd h; obtain ⟨t13, A, h⟩ := h
    try simp only [W, c6, p1, p2, p3, p4, p5, p6, p7, p8, p9, p10, p11, p12]
    refine callR (spec_MazeOk.ctr A) ?_
    replace h := ifT h; rcases h with ⟨rfl, h⟩ | ⟨rfl, h⟩
    · cases h
      try simp only [W, c6, p1, p2, p3, p4, p5, p6, p7, p8, p9, p10, p11, p12]
    · cases h
      try simp only [W, c6, p1, p2, p3, p4, p5, p6, p7, p8, p9, p10, p11, p12]
end Go.Proofs.YtkindoepnganmaaGreat.F
end

section
namespace Go.Proofs.YtkindoepnganmaaGreat.F
open Go.RowKit Go.Proofs.YtkindoepnganmaaGreatW.PrintWords Go.Proofs.YtkindoepnganmaaGreatW.PrintLast Go.Proofs.YtkindoepnganmaaGreatW.PrintMore
set_option linter.unusedVariables false
set_option linter.unusedSimpArgs false
attribute [local go_sem] max2_int min2_int max_two min_two
set_option maxRecDepth 20000 in set_option maxHeartbeats 4000000 in open Nat renaming reduceAdd → p1, reduceSub → p2, reduceMul → p3, reduceDiv → p4, reduceBNe → p5, reduceBEq → p6, reduceEqDiff → p7, reduceLeDiff → p8, reduceLT → p9 in open Int renaming reduceLE → p10, reduceLT → p11, reduceEq → p12 in
theorem spec_GardenOk.ctr {k : Nat} {a0_0 : Int} {a0_1 : Int} {a0_2 : Int} {l0_3 : List Int} {a0_4 : Int} {a0_5 : Int} {l0_6 : List Int} {a0_7 : Int} {r : Bool} (h : spec_GardenOk.f k a0_0 a0_1 a0_2 l0_3 a0_4 a0_5 l0_6 a0_7 = some r) : Ctr Tryz.prog 59 [.ag [.v (.int .i64 a0_0), .v (.int .i64 a0_1), .v (.int .i64 a0_2), .pr 1 (l0_3.map eI), .v (.int .i64 a0_4), .v (.int .i64 a0_5), .pr 1 (l0_6.map eI), .v (.int .i64 a0_7)]] (.v (.bool r)) := by
  refine Ctr_of tyOk hm Tryz.func59 rfl rfl (by kernel_rfl) (n := 32) (rv := [.tmp 2]) rfl rfl ?_
  simp only [W, List.replicate]
  unfold spec_GardenOk.f at h
  replace h := bnd h; obtain ⟨t1, A, h⟩ := h
  try simp only [W, p1, p2, p3, p4, p5, p6, p7, p8, p9, p10, p11, p12]
  refine callR (spec_HedgeOk.ctr A) ?_
  replace h := ifT h; rcases h with ⟨rfl, h⟩ | ⟨rfl, h⟩
  · replace h := bnd h; obtain ⟨t3, A, h⟩ := h
    try simp only [W, p1, p2, p3, p4, p5, p6, p7, p8, p9, p10, p11, p12]
    refine callR (spec_l04Has.ctr A) ?_
    replace h := ifT h; rcases h with ⟨rfl, h⟩ | ⟨rfl, h⟩
    · replace h := bnd h; obtain ⟨t5, A, h⟩ := h
      try simp only [W, p1, p2, p3, p4, p5, p6, p7, p8, p9, p10, p11, p12]
      refine callR (spec_CrowdOk.ctr A) ?_
      replace h := ifT h; rcases h with ⟨rfl, h⟩ | ⟨rfl, h⟩
      · replace h := bnd h; obtain ⟨t7, A, h⟩ := h
        try simp only [W, p1, p2, p3, p4, p5, p6, p7, p8, p9, p10, p11, p12]
        refine callR (spec_l01In.ctr A) ?_
        replace h := ifT h; rcases h with ⟨rfl, h⟩ | ⟨rfl, h⟩
        · replace h := bnd h; obtain ⟨⟨t9_1, t9_2, t9_3⟩, A, h⟩ := h
          dsimp only at h
          try simp only [W, p1, p2, p3, p4, p5, p6, p7, p8, p9, p10, p11, p12]
          refine callR (spec_OpenNow.ctr A) ?_
          replace h := bnd h; obtain ⟨t10, A, h⟩ := h
          try simp only [W, p1, p2, p3, p4, p5, p6, p7, p8, p9, p10, p11, p12]
          refine callR (spec_IsConnected.ctr A) ?_
          cases h
          try simp only [W, p1, p2, p3, p4, p5, p6, p7, p8, p9, p10, p11, p12]
        · cases h
          try simp only [W, p1, p2, p3, p4, p5, p6, p7, p8, p9, p10, p11, p12]
      · cases h
        try simp only [W, p1, p2, p3, p4, p5, p6, p7, p8, p9, p10, p11, p12]
    · cases h
      try simp only [W, p1, p2, p3, p4, p5, p6, p7, p8, p9, p10, p11, p12]
  · cases h
    try simp only [W, p1, p2, p3, p4, p5, p6, p7, p8, p9, p10, p11, p12]
theorem spec_GardenOk.calls (k : Nat) (a0_0 : Int) (a0_1 : Int) (a0_2 : Int) (A0_3 : Option Addr) (c0_3 : Nat) (l0_3 : List Int) (a0_4 : Int) (a0_5 : Int) (A0_6 : Option Addr) (c0_6 : Nat) (l0_6 : List Int) (a0_7 : Int) (r : Bool) (w : World) (hr0_3 : Kd.C (Kd.int .i64) w A0_3 l0_3.length l0_3) (hc0_3 : l0_3.length ≤ c0_3) (hr0_6 : Kd.C (Kd.int .i64) w A0_6 l0_6.length l0_6) (hc0_6 : l0_6.length ≤ c0_6) (h : spec_GardenOk.f k a0_0 a0_1 a0_2 l0_3 a0_4 a0_5 l0_6 a0_7 = some r) :
    Calls Tryz.prog 59 #[.agg #[.int .i64 a0_0, .int .i64 a0_1, .int .i64 a0_2, .slice A0_3 l0_3.length c0_3, .int .i64 a0_4, .int .i64 a0_5, .slice A0_6 l0_6.length c0_6, .int .i64 a0_7]] w fun e w' => e = .returned (.bool r) ∧ Below w.heap.size w w' := by
  refine ((spec_GardenOk.ctr h).2 w [.agg #[.int .i64 a0_0, .int .i64 a0_1, .int .i64 a0_2, .slice A0_3 l0_3.length c0_3, .int .i64 a0_4, .int .i64 a0_5, .slice A0_6 l0_6.length c0_6, .int .i64 a0_7]] (by simp only [RepL, Rep]; exact ⟨_, _, rfl, ⟨_, rfl, _, _, rfl, rfl, _, _, rfl, rfl, _, _, rfl, rfl, _, _, rfl, at_of_C E_eI hr0_3 hc0_3, _, _, rfl, rfl, _, _, rfl, rfl, _, _, rfl, at_of_C E_eI hr0_6 hc0_6, _, _, rfl, rfl, rfl⟩, rfl⟩)).mono ?_
  rintro _ _ ⟨y, L, rfl, hR, _, hb⟩
  exact ⟨congrArg Ending.returned (RepR_pln rfl hR).1, hb⟩
set_option maxHeartbeats 8000000 in
set_option maxRecDepth 100000 in
theorem spec_l28Copy.calls (A0 : Option Addr) (c0 : Nat) (l0 : List Int) (r : List Int) (w : World) (hr0 : Kd.C (Kd.int .i64) w A0 l0.length l0) (hc0 : l0.length ≤ c0) (h : spec_l28Copy.f l0 = some r) :
  Calls Tryz.prog 111 #[.slice A0 l0.length c0] w fun e w' => ∃ v0_ : Value, e = .returned (v0_) ∧ Kd.R (Kd.int .i64) 3 w' w.heap.size (fun _ => True) v0_ r ∧ Below w.heap.size w w' := by
 have HR0 := aK hr0
 have HC0 := aK hc0
 clear hr0 hc0
 have HB := aK (Below.refl w.heap.size w)
 have H : ((some (([] : List Int) : List Int)).bind fun y219 => (if y219.length + l0.length < 17592186044416 then (some (y219 ++ l0)) else (none))) = some r := h
 clear h
 obtain ⟨y219, hy219⟩ : ∃ y_ : List Int, y_ = (([] : List Int)) := ⟨_, rfl⟩
 replace H : (if y219.length + l0.length < 17592186044416 then (some (y219 ++ l0)) else (none)) = some r := by first | (rw [hy219]; with_reducible exact H) | (have H2_ := (Option.bind_some _ _).symm.trans H; rw [hy219]; with_reducible exact H2_) | (have H2_ := (Option.bind_some _ _).symm.trans H; with_reducible exact H2_) | with_reducible exact H | (rw [hy219]; exact H) | exact H
 have Ny219 := aK hy219
 clear hy219
 by_cases c2 : y219.length + l0.length < 17592186044416
 ·rw [if_pos c2] at H
  have LMc2 := aK c2
  clear c2
  obtain ⟨y222, hy222⟩ : ∃ y_ : List Int, y_ = (y219 ++ l0) := ⟨_, rfl⟩
  replace H : (some y222) = some r := by first | (rw [hy222]; with_reducible exact H) | (have H2_ := (Option.bind_some _ _).symm.trans H; rw [hy222]; with_reducible exact H2_) | (have H2_ := (Option.bind_some _ _).symm.trans H; with_reducible exact H2_) | with_reducible exact H | (rw [hy222]; exact H) | exact H
  have Ny222 := aK hy222
  clear hy222
  obtain rfl := Option.some.inj H
  go_enter Tryz.func111, Tryz.ntmps111
  go_wp2_with (first | ((with_reducible refine gate_dst (N := 3) rfl ?_); refine Kd.R_lit (Kd.int .i64) _ 3 ?hg (N := 3) ?hd (xs := ([] : List Int)) (inner := []) (ok := fun _ => True) (okp := fun _ => True) ?hr ?hp (fun _ hk => hk) trivial (Below.refl _ _) (Nat.le_refl _) (by simp) ?_; (case hd => rfl); (case hg => rfl); (case hr => first | (go_simp; done) | (go_simp; rfl)); (case hp => exact (Reps.none _ _)); intro v220 w3 ho4 hb hg_ hnew_; clear hg_ hnew_; (first | rw [← Ny219.out] at ho4 | (simp only [Int.reduceToNat] at ho4; rw [← Ny219.out] at ho4)); have HO221 := aK (Kd.R_lower ho4 (bSz (zH0 HB))); replace HB := aK (bSp (zH0 HB) hb); clear hb ho4) | ((with_reducible refine gate_builtin (b := .append) (xs := #[.tmp 3, .tmp 4]) rfl ?_); at_builtin; refine Kd.R_append_rows (Kd.int .i64) (w0 := w) w.heap.size rfl (.tmp 3) (.tmp 4) 26 3 (.int .i64 0) 8 rfl Tryz.underlying26 info3 rfl (by decide) (by omega) v220 y219 l0 _ _ _ (fun _ => True) (fun _ => False) rfl rfl ?aO ?aR (fun _ _ h => h) (fun _ h => h.elim) ?aF ?aB ?aS ?aL ?_; (case aR => repeat (first | exact (Kd.C_below HR0.out HB.out) | (with_reducible refine Kd.C_alloc ?_ _) | (with_reducible refine Kd.C_drewN ?_ _) | (with_reducible refine Kd.C_drew ?_))); (case aB => exact (zH0 HB)); (case aF => exact (fun _ _ => trivial)); (case aO => exact (zA HO221)); (case aS => exact (bSz (zH0 HB))); (case aL => have := LMc2.out; omega); intro v223 w5 ho hb hg hat; rw [← Ny222.out] at ho; have n0_ := aK (hb); have n1_ := aK (ho); clear HB; clear HO221; have HB := n0_; have HO224 := n1_; clear n0_ n1_; clear ho hb hg hat))
  go_ret
  exact ⟨_, by first | rfl | (simp [errW_none, errW_some] <;> rfl) | (simp [*, errW_none, errW_some] <;> rfl), by (with_reducible repeat (first | apply Kd.R_alloc | apply Kd.R_drewN | apply Kd.R_drew)); exact HO224.out, by repeat (first | (with_reducible first | exact HB.out | apply bAl | apply bDN | apply bD1) | exact HB.out)⟩
 ·rw [if_neg c2] at H
  exact absurd H (by simp)
def spec_l30Copy.T1 : Bool × List (List Nat × List Nat) := (true, [([], []), ([0], [0]), ([], []), ([2], [2]), ([3], [3]), ([], []), ([5], [5]), ([1, 4, 6], [1, 4, 6]), ([7, 4, 0, 1, 2, 3, 4, 5, 6, 7], [7])])
def spec_l30Copy.B1 : List Nat := [0, 1, 0, 4, 12, 0, 32, 127, 255]
theorem spec_l30Copy.tab1 : rtab .any (opsOf Tryz.f110 1) = spec_l30Copy.T1 := by kernel_rfl
theorem spec_l30Copy.bits1 : waitsOk spec_l30Copy.T1.2 spec_l30Copy.B1 = true := by kernel_rfl
set_option maxHeartbeats 8000000 in
set_option maxRecDepth 100000 in
theorem spec_l30Copy.calls (a0_0 : Int) (a0_1 : Int) (a0_2 : Int) (A0_3 : Option Addr) (c0_3 : Nat) (l0_3 : List Int) (a0_4 : Int) (r1 : Int) (r2 : Int) (r3 : Int) (r4 : List Int) (r5 : Int) (w : World) (hr0_3 : Kd.C (Kd.int .i64) w A0_3 l0_3.length l0_3) (hc0_3 : l0_3.length ≤ c0_3) (h : spec_l30Copy.f a0_0 a0_1 a0_2 l0_3 a0_4 = some (r1, r2, r3, r4, r5)) :
  Calls Tryz.prog 110 #[.agg #[.int .i64 a0_0, .int .i64 a0_1, .int .i64 a0_2, .slice A0_3 l0_3.length c0_3, .int .i64 a0_4]] w fun e w' => ∃ v3_ : Value, e = .returned (.agg #[.int .i64 r1, .int .i64 r2, .int .i64 r3, v3_, .int .i64 r5]) ∧ Kd.R (Kd.int .i64) 3 w' w.heap.size (fun _ => True) v3_ r4 ∧ Below w.heap.size w w' := by
 have hu36 := Tryz.underlying36
 have hu34 := Tryz.underlying34
 have HR0_3 := aK hr0_3
 have HC0_3 := aK hc0_3
 clear hr0_3 hc0_3
 have HB := aK (Below.refl w.heap.size w)
 have H : ((spec_l28Copy.f l0_3).bind fun t227 => (some (a0_0, a0_1, a0_2, t227, a0_4))) = some (r1, r2, r3, r4, r5) := h
 clear h
 replace H := Option.bind_eq_some_iff.mp H
 obtain ⟨t227, A20, H⟩ := H
 replace H : (some (a0_0, a0_1, a0_2, t227, a0_4)) = some (r1, r2, r3, r4, r5) := H
 have A2 := aK A20
 clear A20
 simp only [Option.some.injEq, Prod.mk.injEq] at H
 obtain ⟨rfl, rfl, rfl, rfl, rfl⟩ := H
 go_enter Tryz.func110, Tryz.ntmps110
 try go_wp2_with (first | ((with_reducible refine gate_dst (N := 1) rfl ?_); refine box_event ?hg (N := 1) ?hd (cs := #[.int .i64 a0_0, .int .i64 a0_1, .int .i64 a0_2, .slice A0_3 l0_3.length c0_3, .int .i64 a0_4]) (t := 36) ?hr ?_; (case hd => rfl); (case hg => rfl); (case hr => first | (go_simp; done) | (go_simp; rfl)); intro gb225 hg w3 hbox hb; have BK225 := aK (hbox); have GW225 := aK ((by rw [hg]; exact (bSz (zH0 HB)) : w.heap.size ≤ gb225)); replace HB := aK (bSp (zH0 HB) hb); have GE225 := GW225; clear hb hbox hg) | ((with_reducible refine gate_dst (N := 2) rfl ?_); refine box_event ?hg (N := 2) ?hd (cs := #[.int .i64 0, .int .i64 0, .int .i64 0, .slice none 0 0, .int .i64 0]) (t := 36) ?hr ?_; (case hd => rfl); (case hg => rfl); (case hr => first | (go_simp; done) | (go_simp; rfl)); intro gb226 hg w4 hbox hb; have BK226 := aK (hbox); have GW226 := aK ((by rw [hg]; exact (bSz (zH1 HB GE225)) : w.heap.size ≤ gb226)); replace HB := aK (bSp (zH1 HB GE225) hb); have GE226 := GW226; have NB225_226 := nbl BK225 hg (by intro z_; (with_reducible repeat (first | refine kDN ?_ _ | refine kD ?_ | refine kA ?_ _)); exact z_); replace BK225 := zB BK225 hb; have NB226_225 := nbs NB225_226; clear hb hbox hg))
 have n0_ := aK (kD BK225.out)
 have n1_ := aK (kD BK226.out)
 have n2_ := aK (bD1 HB.out)
 clear BK225
 clear BK226
 clear HB
 have BK225 := n0_
 have BK226 := n1_
 have HB := n2_
 clear n0_ n1_ n2_
 refine start_ (n := 9) (S := fun w' => w'.cell? ⟨gb225, 0, none⟩ = some (.int .i64 a0_0) ∧ w'.cell? ⟨gb225, 1, none⟩ = some (.int .i64 a0_1) ∧ w'.cell? ⟨gb225, 2, none⟩ = some (.int .i64 a0_2) ∧ w'.cell? ⟨gb225, 3, none⟩ = some (.slice A0_3 l0_3.length c0_3) ∧ w'.cell? ⟨gb225, 4, none⟩ = some (.int .i64 a0_4)) (ds := []) #[bN,bN,bN,bN,bN,bN,bN,bN,bN] (by kernel_rfl) rfl rfl ⟨zQ BK225 0, zQ BK225 1, zQ BK225 2, zQ BK225 3, zQ BK225 4⟩ (fun hHeld => ?_); refine with_tabW spec_l30Copy.tab1 spec_l30Copy.bits1 (fun HT_ HW_ => ?_)
 generalize w4.drew = w5 at BK225 BK226 HB hHeld ⊢
 refine pure_ (i := 0) (N := some 3) (v := ?_) (a' := ?_) #[bY,bN,bN,bN,bN,bN,bN,bN,bN] rfl rfl (any_of HT_.out (by kernel_rfl)) (fun _ _ _ h => h) (Or.inl ⟨by rfl, ?_⟩) ?_ ?_
 rotate_left
 ·intro w'
  go_simp
  with_reducible rfl
 rotate_left
 ·simp only [Act.put, sTA, sZ, sS, i64_w, i32_w]
  rfl
 refine pure_ (i := 2) (N := some 5) (v := ?_) (a' := ?_) #[bY,bN,bY,bN,bN,bN,bN,bN,bN] rfl rfl (any_of HT_.out (by kernel_rfl)) (fun _ _ _ h => h) (Or.inl ⟨by rfl, ?_⟩) ?_ ?_
 rotate_left
 ·intro w'
  go_simp
  with_reducible rfl
 rotate_left
 ·simp only [Act.put, sTA, sZ, sS, i64_w, i32_w]
  rfl
 refine pure_ (i := 5) (N := some 8) (v := ?_) (a' := ?_) #[bY,bN,bY,bN,bN,bY,bN,bN,bN] rfl rfl (any_of HT_.out (by kernel_rfl)) (fun _ _ _ h => h) (Or.inl ⟨by rfl, ?_⟩) ?_ ?_
 rotate_left
 ·intro w'
  go_simp
  with_reducible rfl
 rotate_left
 ·simp only [Act.put, sTA, sZ, sS, i64_w, i32_w]
  rfl
 refine take_ (i := 1) (N := some 4) (v := ?_) (a' := ?_) #[bY,bY,bY,bN,bN,bY,bN,bN,bN] rfl rfl (take_ofW HT_.out HW_.out (by kernel_rfl)) (fun _ _ _ h => h) (Or.inl ⟨by rfl, ?_⟩) hHeld ?_ ?_
 rotate_left
 ·rintro w' ⟨s0, s1, s2, s3, s4⟩
  go_simp
  with_reducible rfl
 rotate_left
 ·simp only [Act.put, sTA, sZ, sS, i64_w, i32_w]
  rfl
 refine take_ (i := 3) (N := some 6) (v := ?_) (a' := ?_) #[bY,bY,bY,bY,bN,bY,bN,bN,bN] rfl rfl (take_ofW HT_.out HW_.out (by kernel_rfl)) (fun _ _ _ h => h) (Or.inl ⟨by rfl, ?_⟩) hHeld ?_ ?_
 rotate_left
 ·rintro w' ⟨s0, s1, s2, s3, s4⟩
  go_simp
  with_reducible rfl
 rotate_left
 ·simp only [Act.put, sTA, sZ, sS, i64_w, i32_w]
  rfl
 refine take_ (i := 6) (N := some 9) (v := ?_) (a' := ?_) #[bY,bY,bY,bY,bN,bY,bY,bN,bN] rfl rfl (take_ofW HT_.out HW_.out (by kernel_rfl)) (fun _ _ _ h => h) (Or.inl ⟨by rfl, ?_⟩) hHeld ?_ ?_
 rotate_left
 ·rintro w' ⟨s0, s1, s2, s3, s4⟩
  go_simp
  with_reducible rfl
 rotate_left
 ·simp only [Act.put, sTA, sZ, sS, i64_w, i32_w]
  rfl
 refine one_ (i := 4) (N := some 7) #[bY,bY,bY,bY,bY,bY,bY,bN,bN] rfl rfl (one_of HT_.out (by kernel_rfl)) (by decide) (fun K hK => ?_)
 refine goes_ Tryz.func111 (by kernel_rfl) rfl #[.slice A0_3 l0_3.length c0_3] (by rfl) rfl rfl zD ?_
 with_reducible refine (spec_l28Copy.calls _ _ l0_3 t227 _ ?side1 ?side2 A2.out).mono ?_
 (case side1 => exact zC (Kd.C_below HR0_3.out HB.out))
 (case side2 => exact HC0_3.out)
 rintro e w6 ⟨v228, rfl, ho0, hb⟩
 refine ⟨_, rfl, ?_⟩
 have n0_ := aK (Kd.R_lower ho0 (bSz (zH2 HB GE225 GE226)))
 have n1_ := zB BK225 hb
 have n2_ := zB BK226 hb
 have n3_ := aK (bSp (zH2 HB GE225 GE226) hb)
 clear BK225
 clear BK226
 clear HB
 have HO229 := n0_
 have BK225 := n1_
 have BK226 := n2_
 have HB := n3_
 clear n0_ n1_ n2_ n3_
 (try clear hb)
 (try clear hb2)
 (try clear hk)
 (try clear hi)
 (try clear ho0)
 obtain ⟨Ao7, co7, eo7⟩ := Kd.R_slice HO229.out
 (first | subst eo7 | (injection eo7 with f1_ f2_ f3_; have f4_ := f1_.symm; have f5_ := f3_.symm; clear f1_ f2_ f3_; subst f4_; subst f5_))
 refine hK.out _ _ ⟨zQ BK225 0, zQ BK225 1, zQ BK225 2, zQ BK225 3, zQ BK225 4⟩ (fun hHeld => ?_)
 clear hK K
 refine norm_ (a' := ?_) ?_ ?_
 rotate_left
 ·show Act.put _ (some 7) _ = _
  simp only [Act.put, sTA, sZ, sS, i64_w, i32_w]
  rfl
 refine pure_ (i := 7) (N := some 10) (v := ?_) (a' := ?_) #[bY,bY,bY,bY,bY,bY,bY,bY,bN] rfl rfl (any_of HT_.out (by kernel_rfl)) (fun _ _ _ h => h) (Or.inl ⟨by rfl, ?_⟩) ?_ ?_
 rotate_left
 ·intro w'
  go_simp
  with_reducible rfl
 rotate_left
 ·simp only [Act.put, sTA, sZ, sS, i64_w, i32_w]
  rfl
 refine one_ (i := 8) (N := none) #[bY,bY,bY,bY,bY,bY,bY,bY,bY] rfl rfl (one_of HT_.out (by kernel_rfl)) (by decide) (fun K hK => ?_)
 have hs8 : w6.cell? ⟨gb226, 0, none⟩ = some (.int .i64 0) := (kC BK226.out 0).trans rfl
 have hfs8 := kF BK226.out 0
 have hns8_0 := NB225_226.out
 have hms8_0 := NB226_225.out
 have hs9 : w6.cell? ⟨gb226, 1, none⟩ = some (.int .i64 0) := (kC BK226.out 1).trans rfl
 have hfs9 := kF BK226.out 1
 have hns9_0 := NB225_226.out
 have hms9_0 := NB226_225.out
 have hs10 : w6.cell? ⟨gb226, 2, none⟩ = some (.int .i64 0) := (kC BK226.out 2).trans rfl
 have hfs10 := kF BK226.out 2
 have hns10_0 := NB225_226.out
 have hms10_0 := NB226_225.out
 have hs11 : w6.cell? ⟨gb226, 3, none⟩ = some (.slice none 0 0) := (kC BK226.out 3).trans rfl
 have hfs11 := kF BK226.out 3
 have hns11_0 := NB225_226.out
 have hms11_0 := NB226_225.out
 have hs12 : w6.cell? ⟨gb226, 4, none⟩ = some (.int .i64 0) := (kC BK226.out 4).trans rfl
 have hfs12 := kF BK226.out 4
 have hns12_0 := NB225_226.out
 have hms12_0 := NB226_225.out
 refine skip_ (w1 := ?_) (by rfl) rfl ?_ ?_
 rotate_left
 ·go_simp
  rfl
 refine hK.out _ _ ⟨((cell_far (p := ⟨gb226, _, none⟩) NB225_226.out _).trans (((cell_far (p := ⟨gb226, _, none⟩) NB225_226.out _).trans (((cell_far (p := ⟨gb226, _, none⟩) NB225_226.out _).trans (((cell_far (p := ⟨gb226, _, none⟩) NB225_226.out _).trans (((cell_far (p := ⟨gb226, _, none⟩) NB225_226.out _).trans (hHeld.1)))))))))), ((cell_far (p := ⟨gb226, _, none⟩) NB225_226.out _).trans (((cell_far (p := ⟨gb226, _, none⟩) NB225_226.out _).trans (((cell_far (p := ⟨gb226, _, none⟩) NB225_226.out _).trans (((cell_far (p := ⟨gb226, _, none⟩) NB225_226.out _).trans (((cell_far (p := ⟨gb226, _, none⟩) NB225_226.out _).trans (hHeld.2.1)))))))))), ((cell_far (p := ⟨gb226, _, none⟩) NB225_226.out _).trans (((cell_far (p := ⟨gb226, _, none⟩) NB225_226.out _).trans (((cell_far (p := ⟨gb226, _, none⟩) NB225_226.out _).trans (((cell_far (p := ⟨gb226, _, none⟩) NB225_226.out _).trans (((cell_far (p := ⟨gb226, _, none⟩) NB225_226.out _).trans (hHeld.2.2.1)))))))))), ((cell_far (p := ⟨gb226, _, none⟩) NB225_226.out _).trans (((cell_far (p := ⟨gb226, _, none⟩) NB225_226.out _).trans (((cell_far (p := ⟨gb226, _, none⟩) NB225_226.out _).trans (((cell_far (p := ⟨gb226, _, none⟩) NB225_226.out _).trans (((cell_far (p := ⟨gb226, _, none⟩) NB225_226.out _).trans (hHeld.2.2.2.1)))))))))), ((cell_far (p := ⟨gb226, _, none⟩) NB225_226.out _).trans (((cell_far (p := ⟨gb226, _, none⟩) NB225_226.out _).trans (((cell_far (p := ⟨gb226, _, none⟩) NB225_226.out _).trans (((cell_far (p := ⟨gb226, _, none⟩) NB225_226.out _).trans (((cell_far (p := ⟨gb226, _, none⟩) NB225_226.out _).trans (hHeld.2.2.2.2))))))))))⟩ (fun hHeld => ?_)
 clear hK K
 refine done_ (done_of HT_.out (by kernel_rfl)) ?_
 try go_wp2
 refine bodyPost_ret (results_cell_row rfl _ _ gb226 36 #[.int .i64 a0_0, .int .i64 a0_1, .int .i64 a0_2, .slice Ao7 t227.length co7, .int .i64 a0_4] (0, 0) _ rfl (by (with_reducible repeat (first | refine kDN ?_ _ | refine kD ?_ | refine kA ?_ _)); refine blk_put (cs := #[.int .i64 a0_0, .int .i64 a0_1, .int .i64 a0_2, .slice Ao7 t227.length co7, .int .i64 0]) ?_ 4 _ rfl; (with_reducible repeat (first | refine kDN ?_ _ | refine kD ?_ | refine kA ?_ _)); refine blk_put (cs := #[.int .i64 a0_0, .int .i64 a0_1, .int .i64 a0_2, .slice none 0 0, .int .i64 0]) ?_ 3 _ rfl; (with_reducible repeat (first | refine kDN ?_ _ | refine kD ?_ | refine kA ?_ _)); refine blk_put (cs := #[.int .i64 a0_0, .int .i64 a0_1, .int .i64 0, .slice none 0 0, .int .i64 0]) ?_ 2 _ rfl; (with_reducible repeat (first | refine kDN ?_ _ | refine kD ?_ | refine kA ?_ _)); refine blk_put (cs := #[.int .i64 a0_0, .int .i64 0, .int .i64 0, .slice none 0 0, .int .i64 0]) ?_ 1 _ rfl; (with_reducible repeat (first | refine kDN ?_ _ | refine kD ?_ | refine kA ?_ _)); refine blk_put (cs := #[.int .i64 0, .int .i64 0, .int .i64 0, .slice none 0 0, .int .i64 0]) ?_ 0 _ rfl; (with_reducible repeat (first | refine kDN ?_ _ | refine kD ?_ | refine kA ?_ _)); exact BK226.out) Tryz.underlying36 rfl (by kernel_rfl)) rfl ?_
 exact ⟨_, by first | rfl | (simp [errW_none, errW_some] <;> rfl) | (simp [*, errW_none, errW_some] <;> rfl), by (with_reducible repeat (first | apply Kd.R_alloc | apply Kd.R_drewN | apply Kd.R_drew)); exact Kd.R_mono (zT5 HO229 BK226 (.int .i64 a0_0) (.int .i64 a0_1) (.int .i64 a0_2) (.slice Ao7 t227.length co7) (.int .i64 a0_4)) (fun _ hk => trivial), by repeat (first | (with_reducible first | exact HB.out | apply bAl | apply bDN | apply bD1 | refine bSt ?_ GE225.out | refine bSt ?_ GE226.out) | exact HB.out)⟩
def spec_l38Copy.T1 : Bool × List (List Nat × List Nat) := (true, [([], []), ([0], [0]), ([1], [1]), ([], []), ([3], [3]), ([], []), ([5], [5]), ([6, 2], [6]), ([], []), ([8], [8]), ([2, 4, 7, 9], [2, 4, 7, 9]), ([10, 7, 0, 1, 2, 3, 4, 5, 6, 7, 8, 9, 10], [10])])
def spec_l38Copy.B1 : List Nat := [0, 1, 3, 0, 8, 0, 32, 103, 0, 256, 1023, 2047]
theorem spec_l38Copy.tab1 : rtab .any (opsOf Tryz.f62 1) = spec_l38Copy.T1 := by kernel_rfl
theorem spec_l38Copy.bits1 : waitsOk spec_l38Copy.T1.2 spec_l38Copy.B1 = true := by kernel_rfl
set_option maxHeartbeats 8000000 in
set_option maxRecDepth 100000 in
theorem spec_l38Copy.calls (a0_0 : Int) (a0_1 : Int) (a0_2 : Int) (A0_3 : Option Addr) (c0_3 : Nat) (l0_3 : List Int) (a0_4 : Int) (a0_5 : Int) (A0_6 : Option Addr) (c0_6 : Nat) (l0_6 : List Int) (a0_7 : Int) (r1 : Int) (r2 : Int) (r3 : Int) (r4 : List Int) (r5 : Int) (r6 : Int) (r7 : List Int) (r8 : Int) (w : World) (hr0_3 : Kd.C (Kd.int .i64) w A0_3 l0_3.length l0_3) (hc0_3 : l0_3.length ≤ c0_3) (hr0_6 : Kd.C (Kd.int .i64) w A0_6 l0_6.length l0_6) (hc0_6 : l0_6.length ≤ c0_6) (h : spec_l38Copy.f a0_0 a0_1 a0_2 l0_3 a0_4 a0_5 l0_6 a0_7 = some (r1, r2, r3, r4, r5, r6, r7, r8)) :
  Calls Tryz.prog 62 #[.agg #[.int .i64 a0_0, .int .i64 a0_1, .int .i64 a0_2, .slice A0_3 l0_3.length c0_3, .int .i64 a0_4, .int .i64 a0_5, .slice A0_6 l0_6.length c0_6, .int .i64 a0_7]] w fun e w' => ∃ v3_ v6_ : Value, e = .returned (.agg #[.int .i64 r1, .int .i64 r2, .int .i64 r3, v3_, .int .i64 r5, .int .i64 r6, v6_, .int .i64 r8]) ∧ Kd.R (Kd.int .i64) 3 w' w.heap.size (fun k_ => some k_ ≠ (v6_ : Value).ownBlock) v3_ r4 ∧ Kd.R (Kd.int .i64) 3 w' w.heap.size (fun k_ => some k_ ≠ (v3_ : Value).ownBlock) v6_ r7 ∧ Below w.heap.size w w' := by
 have hu38 := Tryz.underlying38
 have hu36 := Tryz.underlying36
 have HR0_3 := aK hr0_3
 have HC0_3 := aK hc0_3
 clear hr0_3 hc0_3
 have HR0_6 := aK hr0_6
 have HC0_6 := aK hc0_6
 clear hr0_6 hc0_6
 have HB := aK (Below.refl w.heap.size w)
 have H : ((spec_l30Copy.f a0_0 a0_1 a0_2 l0_3 a0_4).bind fun bt232 => ((spec_l28Copy.f l0_6).bind fun t239 => (some (bt232.1, bt232.2.1, bt232.2.2.1, bt232.2.2.2.1, bt232.2.2.2.2, a0_5, t239, a0_7)))) = some (r1, r2, r3, r4, r5, r6, r7, r8) := h
 clear h
 replace H := Option.bind_eq_some_iff.mp H
 obtain ⟨⟨t232, t233, t234, t235, t238⟩, A20, H⟩ := H
 replace H : ((spec_l28Copy.f l0_6).bind fun t239 => (some (t232, t233, t234, t235, t238, a0_5, t239, a0_7))) = some (r1, r2, r3, r4, r5, r6, r7, r8) := H
 have A2 := aK A20
 clear A20
 replace H := Option.bind_eq_some_iff.mp H
 obtain ⟨t239, A30, H⟩ := H
 replace H : (some (t232, t233, t234, t235, t238, a0_5, t239, a0_7)) = some (r1, r2, r3, r4, r5, r6, r7, r8) := H
 have A3 := aK A30
 clear A30
 simp only [Option.some.injEq, Prod.mk.injEq] at H
 obtain ⟨rfl, rfl, rfl, rfl, rfl, rfl, rfl, rfl⟩ := H
 go_enter Tryz.func62, Tryz.ntmps62
 try go_wp2_with (first | ((with_reducible refine gate_dst (N := 1) rfl ?_); refine box_event ?hg (N := 1) ?hd (cs := #[.int .i64 a0_0, .int .i64 a0_1, .int .i64 a0_2, .slice A0_3 l0_3.length c0_3, .int .i64 a0_4, .int .i64 a0_5, .slice A0_6 l0_6.length c0_6, .int .i64 a0_7]) (t := 38) ?hr ?_; (case hd => rfl); (case hg => rfl); (case hr => first | (go_simp; done) | (go_simp; rfl)); intro gb230 hg w4 hbox hb; have BK230 := aK (hbox); have GW230 := aK ((by rw [hg]; exact (bSz (zH0 HB)) : w.heap.size ≤ gb230)); replace HB := aK (bSp (zH0 HB) hb); have GE230 := GW230; clear hb hbox hg) | ((with_reducible refine gate_dst (N := 2) rfl ?_); refine box_event ?hg (N := 2) ?hd (cs := #[.int .i64 0, .int .i64 0, .int .i64 0, .slice none 0 0, .int .i64 0, .int .i64 0, .slice none 0 0, .int .i64 0]) (t := 38) ?hr ?_; (case hd => rfl); (case hg => rfl); (case hr => first | (go_simp; done) | (go_simp; rfl)); intro gb231 hg w5 hbox hb; have BK231 := aK (hbox); have GW231 := aK ((by rw [hg]; exact (bSz (zH1 HB GE230)) : w.heap.size ≤ gb231)); replace HB := aK (bSp (zH1 HB GE230) hb); have GE231 := GW231; have NB230_231 := nbl BK230 hg (by intro z_; (with_reducible repeat (first | refine kDN ?_ _ | refine kD ?_ | refine kA ?_ _)); exact z_); replace BK230 := zB BK230 hb; have NB231_230 := nbs NB230_231; clear hb hbox hg))
 have n0_ := aK (kD BK230.out)
 have n1_ := aK (kD BK231.out)
 have n2_ := aK (bD1 HB.out)
 clear BK230
 clear BK231
 clear HB
 have BK230 := n0_
 have BK231 := n1_
 have HB := n2_
 clear n0_ n1_ n2_
 refine start_ (n := 12) (S := fun w' => w'.cell? ⟨gb230, 0, none⟩ = some (.int .i64 a0_0) ∧ w'.cell? ⟨gb230, 1, none⟩ = some (.int .i64 a0_1) ∧ w'.cell? ⟨gb230, 2, none⟩ = some (.int .i64 a0_2) ∧ w'.cell? ⟨gb230, 3, none⟩ = some (.slice A0_3 l0_3.length c0_3) ∧ w'.cell? ⟨gb230, 4, none⟩ = some (.int .i64 a0_4) ∧ w'.cell? ⟨gb230, 5, none⟩ = some (.int .i64 a0_5) ∧ w'.cell? ⟨gb230, 6, none⟩ = some (.slice A0_6 l0_6.length c0_6) ∧ w'.cell? ⟨gb230, 7, none⟩ = some (.int .i64 a0_7)) (ds := []) #[bN,bN,bN,bN,bN,bN,bN,bN,bN,bN,bN,bN] (by kernel_rfl) rfl rfl ⟨zQ BK230 0, zQ BK230 1, zQ BK230 2, zQ BK230 3, zQ BK230 4, zQ BK230 5, zQ BK230 6, zQ BK230 7⟩ (fun hHeld => ?_); refine with_tabW spec_l38Copy.tab1 spec_l38Copy.bits1 (fun HT_ HW_ => ?_)
 generalize w5.drew = w6 at BK230 BK231 HB hHeld ⊢
 refine pure_ (i := 0) (N := some 3) (v := ?_) (a' := ?_) #[bY,bN,bN,bN,bN,bN,bN,bN,bN,bN,bN,bN] rfl rfl (any_of HT_.out (by kernel_rfl)) (fun _ _ _ h => h) (Or.inl ⟨by rfl, ?_⟩) ?_ ?_
 rotate_left
 ·intro w'
  go_simp
  with_reducible rfl
 rotate_left
 ·simp only [Act.put, sTA, sZ, sS, i64_w, i32_w]
  rfl
 refine pure_ (i := 3) (N := some 6) (v := ?_) (a' := ?_) #[bY,bN,bN,bY,bN,bN,bN,bN,bN,bN,bN,bN] rfl rfl (any_of HT_.out (by kernel_rfl)) (fun _ _ _ h => h) (Or.inl ⟨by rfl, ?_⟩) ?_ ?_
 rotate_left
 ·intro w'
  go_simp
  with_reducible rfl
 rotate_left
 ·simp only [Act.put, sTA, sZ, sS, i64_w, i32_w]
  rfl
 refine pure_ (i := 5) (N := some 8) (v := ?_) (a' := ?_) #[bY,bN,bN,bY,bN,bY,bN,bN,bN,bN,bN,bN] rfl rfl (any_of HT_.out (by kernel_rfl)) (fun _ _ _ h => h) (Or.inl ⟨by rfl, ?_⟩) ?_ ?_
 rotate_left
 ·intro w'
  go_simp
  with_reducible rfl
 rotate_left
 ·simp only [Act.put, sTA, sZ, sS, i64_w, i32_w]
  rfl
 refine pure_ (i := 8) (N := some 11) (v := ?_) (a' := ?_) #[bY,bN,bN,bY,bN,bY,bN,bN,bY,bN,bN,bN] rfl rfl (any_of HT_.out (by kernel_rfl)) (fun _ _ _ h => h) (Or.inl ⟨by rfl, ?_⟩) ?_ ?_
 rotate_left
 ·intro w'
  go_simp
  with_reducible rfl
 rotate_left
 ·simp only [Act.put, sTA, sZ, sS, i64_w, i32_w]
  rfl
 refine take_ (i := 1) (N := some 4) (v := ?_) (a' := ?_) #[bY,bY,bN,bY,bN,bY,bN,bN,bY,bN,bN,bN] rfl rfl (take_ofW HT_.out HW_.out (by kernel_rfl)) (fun _ _ _ h => h) (Or.inl ⟨by rfl, ?_⟩) hHeld ?_ ?_
 rotate_left
 ·rintro w' ⟨s0, s1, s2, s3, s4, s5, s6, s7⟩
  go_simp
  with_reducible rfl
 rotate_left
 ·simp only [Act.put, sTA, sZ, sS, i64_w, i32_w]
  rfl
 refine take_ (i := 4) (N := some 7) (v := ?_) (a' := ?_) #[bY,bY,bN,bY,bY,bY,bN,bN,bY,bN,bN,bN] rfl rfl (take_ofW HT_.out HW_.out (by kernel_rfl)) (fun _ _ _ h => h) (Or.inl ⟨by rfl, ?_⟩) hHeld ?_ ?_
 rotate_left
 ·rintro w' ⟨s0, s1, s2, s3, s4, s5, s6, s7⟩
  go_simp
  with_reducible rfl
 rotate_left
 ·simp only [Act.put, sTA, sZ, sS, i64_w, i32_w]
  rfl
 refine take_ (i := 6) (N := some 9) (v := ?_) (a' := ?_) #[bY,bY,bN,bY,bY,bY,bY,bN,bY,bN,bN,bN] rfl rfl (take_ofW HT_.out HW_.out (by kernel_rfl)) (fun _ _ _ h => h) (Or.inl ⟨by rfl, ?_⟩) hHeld ?_ ?_
 rotate_left
 ·rintro w' ⟨s0, s1, s2, s3, s4, s5, s6, s7⟩
  go_simp
  with_reducible rfl
 rotate_left
 ·simp only [Act.put, sTA, sZ, sS, i64_w, i32_w]
  rfl
 refine take_ (i := 9) (N := some 12) (v := ?_) (a' := ?_) #[bY,bY,bN,bY,bY,bY,bY,bN,bY,bY,bN,bN] rfl rfl (take_ofW HT_.out HW_.out (by kernel_rfl)) (fun _ _ _ h => h) (Or.inl ⟨by rfl, ?_⟩) hHeld ?_ ?_
 rotate_left
 ·rintro w' ⟨s0, s1, s2, s3, s4, s5, s6, s7⟩
  go_simp
  with_reducible rfl
 rotate_left
 ·simp only [Act.put, sTA, sZ, sS, i64_w, i32_w]
  rfl
 refine one_ (i := 2) (N := some 5) #[bY,bY,bY,bY,bY,bY,bY,bN,bY,bY,bN,bN] rfl rfl (one_of HT_.out (by kernel_rfl)) (by decide) (fun K hK => ?_)
 refine goes_ Tryz.func110 (by kernel_rfl) rfl #[.agg #[.int .i64 a0_0, .int .i64 a0_1, .int .i64 a0_2, .slice A0_3 l0_3.length c0_3, .int .i64 a0_4]] (by rfl) rfl rfl zD ?_
 with_reducible refine (spec_l30Copy.calls a0_0 a0_1 a0_2 _ _ l0_3 a0_4 t232 t233 t234 t235 t238 _ ?side1 ?side2 A2.out).mono ?_
 (case side1 => exact zC (Kd.C_below HR0_3.out HB.out))
 (case side2 => exact HC0_3.out)
 rintro e w7 ⟨v236, rfl, ho0, hb⟩
 refine ⟨_, rfl, ?_⟩
 have n0_ := aK (Kd.R_lower ho0 (bSz (zH2 HB GE230 GE231)))
 have n1_ := zB BK230 hb
 have n2_ := zB BK231 hb
 have n3_ := aK (bSp (zH2 HB GE230 GE231) hb)
 clear BK230
 clear BK231
 clear HB
 have HO237 := n0_
 have BK230 := n1_
 have BK231 := n2_
 have HB := n3_
 clear n0_ n1_ n2_ n3_
 (try clear hb)
 (try clear hb2)
 (try clear hk)
 (try clear hi)
 (try clear ho0)
 refine hK.out _ _ ⟨zQ BK230 0, zQ BK230 1, zQ BK230 2, zQ BK230 3, zQ BK230 4, zQ BK230 5, zQ BK230 6, zQ BK230 7⟩ (fun hHeld => ?_)
 clear hK K
 refine norm_ (a' := ?_) ?_ ?_
 rotate_left
 ·show Act.put _ (some 5) _ = _
  simp only [Act.put, sTA, sZ, sS, i64_w, i32_w]
  rfl
 refine one_ (i := 7) (N := some 10) #[bY,bY,bY,bY,bY,bY,bY,bY,bY,bY,bN,bN] rfl rfl (one_of HT_.out (by kernel_rfl)) (by decide) (fun K hK => ?_)
 refine goes_ Tryz.func111 (by kernel_rfl) rfl #[.slice A0_6 l0_6.length c0_6] (by rfl) rfl rfl zD ?_
 with_reducible refine (spec_l28Copy.calls _ _ l0_6 t239 _ ?side1 ?side2 A3.out).mono ?_
 (case side1 => exact zC (Kd.C_below HR0_6.out HB.out))
 (case side2 => exact HC0_6.out)
 rintro e w8 ⟨v240, rfl, ho0, hb⟩
 refine ⟨_, rfl, ?_⟩
 have n0_ := aK (Kd.R_elder' (zA HO237) (Kd.R_base ho0) hb)
 have n1_ := aK (Kd.R_lower (Kd.R_new' ho0 (Kd.R_lt (zA HO237))) (bSz (zH2 HB GE230 GE231)))
 have n2_ := zB BK230 hb
 have n3_ := zB BK231 hb
 have n4_ := aK (bSp (zH2 HB GE230 GE231) hb)
 clear HO237
 clear BK230
 clear BK231
 clear HB
 have HO237 := n0_
 have HO241 := n1_
 have BK230 := n2_
 have BK231 := n3_
 have HB := n4_
 clear n0_ n1_ n2_ n3_ n4_
 (try clear hb)
 (try clear hb2)
 (try clear hk)
 (try clear hi)
 (try clear ho0)
 obtain ⟨Ao9, co9, eo9⟩ := Kd.R_slice HO241.out
 (first | subst eo9 | (injection eo9 with f1_ f2_ f3_; have f4_ := f1_.symm; have f5_ := f3_.symm; clear f1_ f2_ f3_; subst f4_; subst f5_))
 obtain ⟨Ao10, co10, eo10⟩ := Kd.R_slice HO237.out
 (first | subst eo10 | (injection eo10 with f1_ f2_ f3_; have f4_ := f1_.symm; have f5_ := f3_.symm; clear f1_ f2_ f3_; subst f4_; subst f5_))
 refine hK.out _ _ ⟨zQ BK230 0, zQ BK230 1, zQ BK230 2, zQ BK230 3, zQ BK230 4, zQ BK230 5, zQ BK230 6, zQ BK230 7⟩ (fun hHeld => ?_)
 clear hK K
 refine norm_ (a' := ?_) ?_ ?_
 rotate_left
 ·show Act.put _ (some 10) _ = _
  simp only [Act.put, sTA, sZ, sS, i64_w, i32_w]
  rfl
 refine pure_ (i := 10) (N := some 13) (v := ?_) (a' := ?_) #[bY,bY,bY,bY,bY,bY,bY,bY,bY,bY,bY,bN] rfl rfl (any_of HT_.out (by kernel_rfl)) (fun _ _ _ h => h) (Or.inl ⟨by rfl, ?_⟩) ?_ ?_
 rotate_left
 ·intro w'
  go_simp
  with_reducible rfl
 rotate_left
 ·simp only [Act.put, sTA, sZ, sS, i64_w, i32_w]
  rfl
 refine one_ (i := 11) (N := none) #[bY,bY,bY,bY,bY,bY,bY,bY,bY,bY,bY,bY] rfl rfl (one_of HT_.out (by kernel_rfl)) (by decide) (fun K hK => ?_)
 have hs11 : w8.cell? ⟨gb231, 0, none⟩ = some (.int .i64 0) := (kC BK231.out 0).trans rfl
 have hfs11 := kF BK231.out 0
 have hns11_0 := NB230_231.out
 have hms11_0 := NB231_230.out
 have hs12 : w8.cell? ⟨gb231, 1, none⟩ = some (.int .i64 0) := (kC BK231.out 1).trans rfl
 have hfs12 := kF BK231.out 1
 have hns12_0 := NB230_231.out
 have hms12_0 := NB231_230.out
 have hs13 : w8.cell? ⟨gb231, 2, none⟩ = some (.int .i64 0) := (kC BK231.out 2).trans rfl
 have hfs13 := kF BK231.out 2
 have hns13_0 := NB230_231.out
 have hms13_0 := NB231_230.out
 have hs14 : w8.cell? ⟨gb231, 3, none⟩ = some (.slice none 0 0) := (kC BK231.out 3).trans rfl
 have hfs14 := kF BK231.out 3
 have hns14_0 := NB230_231.out
 have hms14_0 := NB231_230.out
 have hs15 : w8.cell? ⟨gb231, 4, none⟩ = some (.int .i64 0) := (kC BK231.out 4).trans rfl
 have hfs15 := kF BK231.out 4
 have hns15_0 := NB230_231.out
 have hms15_0 := NB231_230.out
 have hs16 : w8.cell? ⟨gb231, 5, none⟩ = some (.int .i64 0) := (kC BK231.out 5).trans rfl
 have hfs16 := kF BK231.out 5
 have hns16_0 := NB230_231.out
 have hms16_0 := NB231_230.out
 have hs17 : w8.cell? ⟨gb231, 6, none⟩ = some (.slice none 0 0) := (kC BK231.out 6).trans rfl
 have hfs17 := kF BK231.out 6
 have hns17_0 := NB230_231.out
 have hms17_0 := NB231_230.out
 have hs18 : w8.cell? ⟨gb231, 7, none⟩ = some (.int .i64 0) := (kC BK231.out 7).trans rfl
 have hfs18 := kF BK231.out 7
 have hns18_0 := NB230_231.out
 have hms18_0 := NB231_230.out
 refine skip_ (w1 := ?_) (by rfl) rfl ?_ ?_
 rotate_left
 ·go_simp
  rfl
 refine hK.out _ _ ⟨((cell_far (p := ⟨gb231, _, none⟩) NB230_231.out _).trans (((cell_far (p := ⟨gb231, _, none⟩) NB230_231.out _).trans (((cell_far (p := ⟨gb231, _, none⟩) NB230_231.out _).trans (((cell_far (p := ⟨gb231, _, none⟩) NB230_231.out _).trans (((cell_far (p := ⟨gb231, _, none⟩) NB230_231.out _).trans (((cell_far (p := ⟨gb231, _, none⟩) NB230_231.out _).trans (((cell_far (p := ⟨gb231, _, none⟩) NB230_231.out _).trans (((cell_far (p := ⟨gb231, _, none⟩) NB230_231.out _).trans (hHeld.1)))))))))))))))), ((cell_far (p := ⟨gb231, _, none⟩) NB230_231.out _).trans (((cell_far (p := ⟨gb231, _, none⟩) NB230_231.out _).trans (((cell_far (p := ⟨gb231, _, none⟩) NB230_231.out _).trans (((cell_far (p := ⟨gb231, _, none⟩) NB230_231.out _).trans (((cell_far (p := ⟨gb231, _, none⟩) NB230_231.out _).trans (((cell_far (p := ⟨gb231, _, none⟩) NB230_231.out _).trans (((cell_far (p := ⟨gb231, _, none⟩) NB230_231.out _).trans (((cell_far (p := ⟨gb231, _, none⟩) NB230_231.out _).trans (hHeld.2.1)))))))))))))))), ((cell_far (p := ⟨gb231, _, none⟩) NB230_231.out _).trans (((cell_far (p := ⟨gb231, _, none⟩) NB230_231.out _).trans (((cell_far (p := ⟨gb231, _, none⟩) NB230_231.out _).trans (((cell_far (p := ⟨gb231, _, none⟩) NB230_231.out _).trans (((cell_far (p := ⟨gb231, _, none⟩) NB230_231.out _).trans (((cell_far (p := ⟨gb231, _, none⟩) NB230_231.out _).trans (((cell_far (p := ⟨gb231, _, none⟩) NB230_231.out _).trans (((cell_far (p := ⟨gb231, _, none⟩) NB230_231.out _).trans (hHeld.2.2.1)))))))))))))))), ((cell_far (p := ⟨gb231, _, none⟩) NB230_231.out _).trans (((cell_far (p := ⟨gb231, _, none⟩) NB230_231.out _).trans (((cell_far (p := ⟨gb231, _, none⟩) NB230_231.out _).trans (((cell_far (p := ⟨gb231, _, none⟩) NB230_231.out _).trans (((cell_far (p := ⟨gb231, _, none⟩) NB230_231.out _).trans (((cell_far (p := ⟨gb231, _, none⟩) NB230_231.out _).trans (((cell_far (p := ⟨gb231, _, none⟩) NB230_231.out _).trans (((cell_far (p := ⟨gb231, _, none⟩) NB230_231.out _).trans (hHeld.2.2.2.1)))))))))))))))), ((cell_far (p := ⟨gb231, _, none⟩) NB230_231.out _).trans (((cell_far (p := ⟨gb231, _, none⟩) NB230_231.out _).trans (((cell_far (p := ⟨gb231, _, none⟩) NB230_231.out _).trans (((cell_far (p := ⟨gb231, _, none⟩) NB230_231.out _).trans (((cell_far (p := ⟨gb231, _, none⟩) NB230_231.out _).trans (((cell_far (p := ⟨gb231, _, none⟩) NB230_231.out _).trans (((cell_far (p := ⟨gb231, _, none⟩) NB230_231.out _).trans (((cell_far (p := ⟨gb231, _, none⟩) NB230_231.out _).trans (hHeld.2.2.2.2.1)))))))))))))))), ((cell_far (p := ⟨gb231, _, none⟩) NB230_231.out _).trans (((cell_far (p := ⟨gb231, _, none⟩) NB230_231.out _).trans (((cell_far (p := ⟨gb231, _, none⟩) NB230_231.out _).trans (((cell_far (p := ⟨gb231, _, none⟩) NB230_231.out _).trans (((cell_far (p := ⟨gb231, _, none⟩) NB230_231.out _).trans (((cell_far (p := ⟨gb231, _, none⟩) NB230_231.out _).trans (((cell_far (p := ⟨gb231, _, none⟩) NB230_231.out _).trans (((cell_far (p := ⟨gb231, _, none⟩) NB230_231.out _).trans (hHeld.2.2.2.2.2.1)))))))))))))))), ((cell_far (p := ⟨gb231, _, none⟩) NB230_231.out _).trans (((cell_far (p := ⟨gb231, _, none⟩) NB230_231.out _).trans (((cell_far (p := ⟨gb231, _, none⟩) NB230_231.out _).trans (((cell_far (p := ⟨gb231, _, none⟩) NB230_231.out _).trans (((cell_far (p := ⟨gb231, _, none⟩) NB230_231.out _).trans (((cell_far (p := ⟨gb231, _, none⟩) NB230_231.out _).trans (((cell_far (p := ⟨gb231, _, none⟩) NB230_231.out _).trans (((cell_far (p := ⟨gb231, _, none⟩) NB230_231.out _).trans (hHeld.2.2.2.2.2.2.1)))))))))))))))), ((cell_far (p := ⟨gb231, _, none⟩) NB230_231.out _).trans (((cell_far (p := ⟨gb231, _, none⟩) NB230_231.out _).trans (((cell_far (p := ⟨gb231, _, none⟩) NB230_231.out _).trans (((cell_far (p := ⟨gb231, _, none⟩) NB230_231.out _).trans (((cell_far (p := ⟨gb231, _, none⟩) NB230_231.out _).trans (((cell_far (p := ⟨gb231, _, none⟩) NB230_231.out _).trans (((cell_far (p := ⟨gb231, _, none⟩) NB230_231.out _).trans (((cell_far (p := ⟨gb231, _, none⟩) NB230_231.out _).trans (hHeld.2.2.2.2.2.2.2))))))))))))))))⟩ (fun hHeld => ?_)
 clear hK K
 refine done_ (done_of HT_.out (by kernel_rfl)) ?_
 try go_wp2
 refine bodyPost_ret (results_cell_row rfl _ _ gb231 38 #[.int .i64 t232, .int .i64 t233, .int .i64 t234, .slice Ao10 t235.length co10, .int .i64 t238, .int .i64 a0_5, .slice Ao9 t239.length co9, .int .i64 a0_7] (0, 0) _ rfl (by (with_reducible repeat (first | refine kDN ?_ _ | refine kD ?_ | refine kA ?_ _)); refine blk_put (cs := #[.int .i64 t232, .int .i64 t233, .int .i64 t234, .slice Ao10 t235.length co10, .int .i64 t238, .int .i64 a0_5, .slice Ao9 t239.length co9, .int .i64 0]) ?_ 7 _ rfl; (with_reducible repeat (first | refine kDN ?_ _ | refine kD ?_ | refine kA ?_ _)); refine blk_put (cs := #[.int .i64 t232, .int .i64 t233, .int .i64 t234, .slice Ao10 t235.length co10, .int .i64 t238, .int .i64 a0_5, .slice none 0 0, .int .i64 0]) ?_ 6 _ rfl; (with_reducible repeat (first | refine kDN ?_ _ | refine kD ?_ | refine kA ?_ _)); refine blk_put (cs := #[.int .i64 t232, .int .i64 t233, .int .i64 t234, .slice Ao10 t235.length co10, .int .i64 t238, .int .i64 0, .slice none 0 0, .int .i64 0]) ?_ 5 _ rfl; (with_reducible repeat (first | refine kDN ?_ _ | refine kD ?_ | refine kA ?_ _)); refine blk_put (cs := #[.int .i64 t232, .int .i64 t233, .int .i64 t234, .slice Ao10 t235.length co10, .int .i64 0, .int .i64 0, .slice none 0 0, .int .i64 0]) ?_ 4 _ rfl; (with_reducible repeat (first | refine kDN ?_ _ | refine kD ?_ | refine kA ?_ _)); refine blk_put (cs := #[.int .i64 t232, .int .i64 t233, .int .i64 t234, .slice none 0 0, .int .i64 0, .int .i64 0, .slice none 0 0, .int .i64 0]) ?_ 3 _ rfl; (with_reducible repeat (first | refine kDN ?_ _ | refine kD ?_ | refine kA ?_ _)); refine blk_put (cs := #[.int .i64 t232, .int .i64 t233, .int .i64 0, .slice none 0 0, .int .i64 0, .int .i64 0, .slice none 0 0, .int .i64 0]) ?_ 2 _ rfl; (with_reducible repeat (first | refine kDN ?_ _ | refine kD ?_ | refine kA ?_ _)); refine blk_put (cs := #[.int .i64 t232, .int .i64 0, .int .i64 0, .slice none 0 0, .int .i64 0, .int .i64 0, .slice none 0 0, .int .i64 0]) ?_ 1 _ rfl; (with_reducible repeat (first | refine kDN ?_ _ | refine kD ?_ | refine kA ?_ _)); refine blk_put (cs := #[.int .i64 0, .int .i64 0, .int .i64 0, .slice none 0 0, .int .i64 0, .int .i64 0, .slice none 0 0, .int .i64 0]) ?_ 0 _ rfl; (with_reducible repeat (first | refine kDN ?_ _ | refine kD ?_ | refine kA ?_ _)); exact BK231.out) Tryz.underlying38 rfl (by kernel_rfl)) rfl ?_
 exact ⟨_, _, by first | rfl | (simp [errW_none, errW_some] <;> rfl) | (simp [*, errW_none, errW_some] <;> rfl), by (with_reducible repeat (first | apply Kd.R_alloc | apply Kd.R_drewN | apply Kd.R_drew)); exact Kd.R_mono (zT8 HO237 BK231 (.int .i64 t232) (.int .i64 t233) (.int .i64 t234) (.slice Ao10 t235.length co10) (.int .i64 t238) (.int .i64 a0_5) (.slice Ao9 t239.length co9) (.int .i64 a0_7)) (fun _ hk => hk.1.2), by (with_reducible repeat (first | apply Kd.R_alloc | apply Kd.R_drewN | apply Kd.R_drew)); exact Kd.R_mono (zT8 HO241 BK231 (.int .i64 t232) (.int .i64 t233) (.int .i64 t234) (.slice Ao10 t235.length co10) (.int .i64 t238) (.int .i64 a0_5) (.slice Ao9 t239.length co9) (.int .i64 a0_7)) (fun _ hk => hk.1.2), by repeat (first | (with_reducible first | exact HB.out | apply bAl | apply bDN | apply bD1 | refine bSt ?_ GE230.out | refine bSt ?_ GE231.out) | exact HB.out)⟩
set_option maxRecDepth 20000 in set_option maxHeartbeats 4000000 in open Nat renaming reduceAdd → p1, reduceSub → p2, reduceMul → p3, reduceDiv → p4, reduceBNe → p5, reduceBEq → p6, reduceEqDiff → p7, reduceLeDiff → p8, reduceLT → p9 in open Int renaming reduceLE → p10, reduceLT → p11, reduceEq → p12 in
theorem impl_GridOk.ctr {a0_0 : Int} {a0_1 : Int} {r : Bool} (h : impl_GridOk.f a0_0 a0_1 = some r) : Ctr Tryz.prog 142 [.ag [.v (.int .i64 a0_0), .v (.int .i64 a0_1)]] (.v (.bool r)) := by
  refine Ctr_of tyOk hm Tryz.func142 rfl rfl (by kernel_rfl) (n := 20) (rv := [.tmp 2]) rfl rfl ?_
  simp only [W, List.replicate]
  unfold impl_GridOk.f at h
  replace h := ifS h; rcases h with ⟨c1, h⟩ | ⟨c1, h⟩
  · replace h := ifS h; rcases h with ⟨c2, h⟩ | ⟨c2, h⟩
    · replace h := ifS h; rcases h with ⟨c3, h⟩ | ⟨c3, h⟩
      · cases h
        try simp only [W, c1, c2, c3, p1, p2, p3, p4, p5, p6, p7, p8, p9, p10, p11, p12]
      · cases h
        try simp only [W, c1, c2, c3, p1, p2, p3, p4, p5, p6, p7, p8, p9, p10, p11, p12]
    · cases h
      try simp only [W, c1, c2, p1, p2, p3, p4, p5, p6, p7, p8, p9, p10, p11, p12]
  · cases h
    try simp only [W, c1, p1, p2, p3, p4, p5, p6, p7, p8, p9, p10, p11, p12]
set_option maxRecDepth 20000 in set_option maxHeartbeats 4000000 in open Nat renaming reduceAdd → p1, reduceSub → p2, reduceMul → p3, reduceDiv → p4, reduceBNe → p5, reduceBEq → p6, reduceEqDiff → p7, reduceLeDiff → p8, reduceLT → p9 in open Int renaming reduceLE → p10, reduceLT → p11, reduceEq → p12 in
theorem impl_CountGaps.ctr {a0_0 : Int} {a0_1 : Int} {r : Int} (h : impl_CountGaps.f a0_0 a0_1 = some r) : Ctr Tryz.prog 132 [.ag [.v (.int .i64 a0_0), .v (.int .i64 a0_1)]] (.v (.int .i64 r)) := by
  refine Ctr_of tyOk hm Tryz.func132 rfl rfl (by kernel_rfl) (n := 18) (rv := [.tmp 2]) rfl rfl ?_
  simp only [W, List.replicate]
  unfold impl_CountGaps.f at h
  replace h := bnd h; obtain ⟨t1, A, h⟩ := h
  try simp only [W, p1, p2, p3, p4, p5, p6, p7, p8, p9, p10, p11, p12]
  refine callR (impl_GridOk.ctr A) ?_
  replace h := ifT h; rcases h with ⟨rfl, h⟩ | ⟨rfl, h⟩
  · cases h
    try simp only [W, p1, p2, p3, p4, p5, p6, p7, p8, p9, p10, p11, p12]
  · cases h
    try simp only [W, p1, p2, p3, p4, p5, p6, p7, p8, p9, p10, p11, p12]
end Go.Proofs.YtkindoepnganmaaGreat.F
end

section
namespace Go.Proofs.YtkindoepnganmaaGreat.F
open Go.RowKit Go.Proofs.YtkindoepnganmaaGreatW.PrintWords Go.Proofs.YtkindoepnganmaaGreatW.PrintLast Go.Proofs.YtkindoepnganmaaGreatW.PrintMore
set_option linter.unusedVariables false
set_option linter.unusedSimpArgs false
attribute [local go_sem] max2_int min2_int max_two min_two
def spec_Leave.T8 : Bool × List (List Nat × List Nat) := (true, [([], []), ([0], [0]), ([], []), ([1, 2], [1, 2]), ([3], [3]), ([], []), ([5], [5]), ([4, 6], [4, 6])])
def spec_Leave.B8 : List Nat := [0, 1, 0, 7, 15, 0, 32, 127]
theorem spec_Leave.tab8 : rtab .any (opsOf Tryz.f22 8) = spec_Leave.T8 := by kernel_rfl
theorem spec_Leave.bits8 : waitsOk spec_Leave.T8.2 spec_Leave.B8 = true := by kernel_rfl
def spec_Leave.T9 : Bool × List (List Nat × List Nat) := (true, [([], []), ([0], [0]), ([], []), ([2], [2]), ([], []), ([3, 4], [3, 4]), ([5], [5]), ([6], [6]), ([1, 7], [1, 7]), ([0, 1, 2, 3, 4, 5, 6, 7, 8], []), ([9, 8, 8, 0, 1, 2, 3, 4, 5, 6, 7, 8], [8, 9])])
def spec_Leave.B9 : List Nat := [0, 1, 0, 4, 0, 28, 60, 124, 255, 511, 1023]
theorem spec_Leave.tab9 : rtab .any (opsOf Tryz.f22 9) = spec_Leave.T9 := by kernel_rfl
theorem spec_Leave.bits9 : waitsOk spec_Leave.T9.2 spec_Leave.B9 = true := by kernel_rfl
set_option maxHeartbeats 8000000 in
set_option maxRecDepth 100000 in
theorem spec_Leave.calls (k : Nat) (a0_0 : Int) (a0_1 : Int) (a0_2 : Int) (A0_3 : Option Addr) (c0_3 : Nat) (l0_3 : List Int) (a0_4 : Int) (a0_5 : Int) (A0_6 : Option Addr) (c0_6 : Nat) (l0_6 : List Int) (a0_7 : Int) (r1 : Int) (r2 : Int) (r3 : Int) (r4 : List Int) (r5 : Int) (r6 : Int) (r7 : List Int) (r8 : Int) (r9 : Bool) (w : World) (hr0_3 : Kd.C (Kd.int .i64) w A0_3 l0_3.length l0_3) (hc0_3 : l0_3.length ≤ c0_3) (hr0_6 : Kd.C (Kd.int .i64) w A0_6 l0_6.length l0_6) (hc0_6 : l0_6.length ≤ c0_6) (h : spec_Leave.f k a0_0 a0_1 a0_2 l0_3 a0_4 a0_5 l0_6 a0_7 = some (r1, r2, r3, r4, r5, r6, r7, r8, r9)) :
  Calls Tryz.prog 22 #[.agg #[.int .i64 a0_0, .int .i64 a0_1, .int .i64 a0_2, .slice A0_3 l0_3.length c0_3, .int .i64 a0_4, .int .i64 a0_5, .slice A0_6 l0_6.length c0_6, .int .i64 a0_7]] w fun e w' => ∃ v3_ v6_ : Value, e = .returned (.tuple #[.agg #[.int .i64 r1, .int .i64 r2, .int .i64 r3, v3_, .int .i64 r5, .int .i64 r6, v6_, .int .i64 r8], .bool r9]) ∧ Kd.R (Kd.int .i64) 3 w' w.heap.size (fun k_ => some k_ ≠ (v6_ : Value).ownBlock) v3_ r4 ∧ Kd.R (Kd.int .i64) 3 w' w.heap.size (fun k_ => some k_ ≠ (v3_ : Value).ownBlock) v6_ r7 ∧ Below w.heap.size w w' := by
 have hu38 := Tryz.underlying38
 have HR0_3 := aK hr0_3
 have HC0_3 := aK hc0_3
 clear hr0_3 hc0_3
 have HR0_6 := aK hr0_6
 have HC0_6 := aK hc0_6
 clear hr0_6 hc0_6
 have HB := aK (Below.refl w.heap.size w)
 have H : ((spec_l38Copy.f a0_0 a0_1 a0_2 l0_3 a0_4 a0_5 l0_6 a0_7).bind fun bt742 => ((spec_GardenOk.f k a0_0 a0_1 a0_2 l0_3 a0_4 a0_5 l0_6 a0_7).bind fun t755 => (if t755 = true then ((spec_l07In.f k l0_6 a0_5).bind fun t756 => (spec_Leave.j0 k (!t756) a0_0 a0_1 a0_2 l0_3 a0_4 a0_5 l0_6 a0_7 bt742.1 bt742.2.1 bt742.2.2.1 bt742.2.2.2.1 bt742.2.2.2.2.1 bt742.2.2.2.2.2.1 bt742.2.2.2.2.2.2.1 bt742.2.2.2.2.2.2.2)) else (spec_Leave.j0 k true a0_0 a0_1 a0_2 l0_3 a0_4 a0_5 l0_6 a0_7 bt742.1 bt742.2.1 bt742.2.2.1 bt742.2.2.2.1 bt742.2.2.2.2.1 bt742.2.2.2.2.2.1 bt742.2.2.2.2.2.2.1 bt742.2.2.2.2.2.2.2)))) = some (r1, r2, r3, r4, r5, r6, r7, r8, r9) := h
 clear h
 replace H := Option.bind_eq_some_iff.mp H
 obtain ⟨⟨t742, t743, t744, t745, t748, t749, t750, t753⟩, A20, H⟩ := H
 replace H : ((spec_GardenOk.f k a0_0 a0_1 a0_2 l0_3 a0_4 a0_5 l0_6 a0_7).bind fun t755 => (if t755 = true then ((spec_l07In.f k l0_6 a0_5).bind fun t756 => (spec_Leave.j0 k (!t756) a0_0 a0_1 a0_2 l0_3 a0_4 a0_5 l0_6 a0_7 t742 t743 t744 t745 t748 t749 t750 t753)) else (spec_Leave.j0 k true a0_0 a0_1 a0_2 l0_3 a0_4 a0_5 l0_6 a0_7 t742 t743 t744 t745 t748 t749 t750 t753))) = some (r1, r2, r3, r4, r5, r6, r7, r8, r9) := H
 have A2 := aK A20
 clear A20
 have HC3 := aK H
 clear H
 go_enter Tryz.func22, Tryz.ntmps22
 go_upto_region 2 with (first | ((with_reducible refine gate_dst (N := 1) rfl ?_); refine box_event ?hg (N := 1) ?hd (cs := #[.int .i64 a0_0, .int .i64 a0_1, .int .i64 a0_2, .slice A0_3 l0_3.length c0_3, .int .i64 a0_4, .int .i64 a0_5, .slice A0_6 l0_6.length c0_6, .int .i64 a0_7]) (t := 38) ?hr ?_; (case hd => rfl); (case hg => rfl); (case hr => first | (go_simp; done) | (go_simp; rfl)); intro gb740 hg w4 hbox hb; have BK740 := aK (hbox); have GW740 := aK ((by rw [hg]; exact (bSz (zH0 HB)) : w.heap.size ≤ gb740)); replace HB := aK (bSp (zH0 HB) hb); have GE740 := GW740; clear hb hbox hg) | ((with_reducible refine gate_dst (N := 2) rfl ?_); refine box_event ?hg (N := 2) ?hd (cs := #[.int .i64 0, .int .i64 0, .int .i64 0, .slice none 0 0, .int .i64 0, .int .i64 0, .slice none 0 0, .int .i64 0]) (t := 38) ?hr ?_; (case hd => rfl); (case hg => rfl); (case hr => first | (go_simp; done) | (go_simp; rfl)); intro gb741 hg w5 hbox hb; have BK741 := aK (hbox); have GW741 := aK ((by rw [hg]; exact (bSz (zH1 HB GE740)) : w.heap.size ≤ gb741)); replace HB := aK (bSp (zH1 HB GE740) hb); have GE741 := GW741; have NB740_741 := nbl BK740 hg (by intro z_; (with_reducible repeat (first | refine kDN ?_ _ | refine kD ?_ | refine kA ?_ _)); exact z_); replace BK740 := zB BK740 hb; have NB741_740 := nbs NB740_741; clear hb hbox hg; have hnb6 := NB740_741.out; have hnc6 := NB741_740.out; obtain ⟨hcz7_0, hcz7_1, hcz7_2, hcz7_3, hcz7_4, hcz7_5, hcz7_6, hcz7_7, hfz7_0, hfz7_1, hfz7_2, hfz7_3, hfz7_4, hfz7_5, hfz7_6, hfz7_7⟩ := cl8 BK740.out) | ((with_reducible refine gate_callee (f := 62) rfl ?_); refine goesL_ (some 7) rfl rfl Tryz.func62 (by kernel_rfl) rfl #[.agg #[.int .i64 a0_0, .int .i64 a0_1, .int .i64 a0_2, .slice A0_3 l0_3.length c0_3, .int .i64 a0_4, .int .i64 a0_5, .slice A0_6 l0_6.length c0_6, .int .i64 a0_7]] rfl zD ?_; (with_reducible refine (spec_l38Copy.calls a0_0 a0_1 a0_2 _ _ l0_3 a0_4 a0_5 _ _ l0_6 a0_7 t742 t743 t744 t745 t748 t749 t750 t753 _ ?side1 ?side2 ?side3 ?side4 A2.out).mono ?_); (case side1 => exact zC (Kd.C_below HR0_3.out HB.out)); (case side2 => exact HC0_3.out); (case side3 => exact zC (Kd.C_below HR0_6.out HB.out)); (case side4 => exact HC0_6.out); rintro e w8 ⟨v746, v751, rfl, ho0, ho1, hb⟩; refine ⟨_, rfl, ?_⟩; have HO747 := aK (Kd.R_lower ho0 (bSz (zH2 HB GE740 GE741))); have HO752 := aK (Kd.R_lower ho1 (bSz (zH2 HB GE740 GE741))); replace BK740 := zB BK740 hb; replace BK741 := zB BK741 hb; replace HB := aK (bSp (zH2 HB GE740 GE741) hb); (try clear hb); (try clear hb2); (try clear hk); (try clear hi); (try clear ho0); (try clear ho1)) | ((with_reducible refine gate_dst (N := 4) rfl ?_); refine box_event ?hg (N := 4) ?hd (cs := #[.int .i64 0, .int .i64 0, .int .i64 0, .slice none 0 0, .int .i64 0, .int .i64 0, .slice none 0 0, .int .i64 0]) (t := 38) ?hr ?_; (case hd => rfl); (case hg => rfl); (case hr => first | (go_simp; done) | (go_simp; rfl)); intro gb754 hg w9 hbox hb; replace HO747 := aK (Kd.R_below (zA HO747) hb); replace HO752 := aK (Kd.R_below (zA HO752) hb); have BK754 := aK (hbox); have GW754 := aK ((by rw [hg]; exact (bSz (zH2 HB GE740 GE741)) : w.heap.size ≤ gb754)); replace HB := aK (bSp (zH2 HB GE740 GE741) hb); have GE754 := GW754; have NB740_754 := nbl BK740 hg (by intro z_; (with_reducible repeat (first | refine kDN ?_ _ | refine kD ?_ | refine kA ?_ _)); exact z_); replace BK740 := zB BK740 hb; have NB754_740 := nbs NB740_754; have NB741_754 := nbl BK741 hg (by intro z_; (with_reducible repeat (first | refine kDN ?_ _ | refine kD ?_ | refine kA ?_ _)); exact z_); replace BK741 := zB BK741 hb; have NB754_741 := nbs NB741_754; clear hb hbox hg; have hnb10 := NB754_740.out; have hnc10 := NB740_754.out; have hnb11 := NB754_741.out; have hnc11 := NB741_754.out; obtain ⟨hcz12_0, hcz12_1, hcz12_2, hcz12_3, hcz12_4, hcz12_5, hcz12_6, hcz12_7, hfz12_0, hfz12_1, hfz12_2, hfz12_3, hfz12_4, hfz12_5, hfz12_6, hfz12_7⟩ := cl8 BK754.out; obtain ⟨Ao13, co13, eo13⟩ := Kd.R_slice HO747.out; subst eo13; obtain ⟨Ao14, co14, eo14⟩ := Kd.R_slice HO752.out; subst eo14))
 (try simp only [Act.put, sTA, sZ, sS])
 go_cut [18] (fun v18 wc => ∃ (kq : Nat) (x18_2 : Bool), v18 = .bool x18_2 ∧ Aside0 (spec_Leave.j0 kq x18_2 a0_0 a0_1 a0_2 l0_3 a0_4 a0_5 l0_6 a0_7 t742 t743 t744 t745 t748 t749 t750 t753 = some (r1, r2, r3, r4, r5, r6, r7, r8, r9)) ∧ Aside0 (kq ≤ k) ∧ Aside0 (Kd.R (Kd.int .i64) 3 wc w.heap.size (fun k_ => some k_ ≠ ((.slice Ao14 t750.length co14) : Value).ownBlock) (.slice Ao13 t745.length co13) t745) ∧ Aside0 (Kd.R (Kd.int .i64) 3 wc w.heap.size (fun k_ => some k_ ≠ ((.slice Ao13 t745.length co13) : Value).ownBlock) (.slice Ao14 t750.length co14) t750) ∧ Aside0 (wc.heap[gb740]? = some (.cells #[.int .i64 a0_0, .int .i64 a0_1, .int .i64 a0_2, (.slice A0_3 l0_3.length c0_3), .int .i64 a0_4, .int .i64 a0_5, (.slice A0_6 l0_6.length c0_6), .int .i64 a0_7] 38 (0, 0))) ∧ Aside0 (wc.heap[gb741]? = some (.cells #[.int .i64 0, .int .i64 0, .int .i64 0, (.slice none 0 0), .int .i64 0, .int .i64 0, (.slice none 0 0), .int .i64 0] 38 (0, 0))) ∧ Aside0 (wc.heap[gb754]? = some (.cells #[.int .i64 t742, .int .i64 t743, .int .i64 t744, (.slice Ao13 t745.length co13), .int .i64 t748, .int .i64 t749, (.slice Ao14 t750.length co14), .int .i64 t753] 38 (0, 0))) ∧ Aside0 (Below w.heap.size w wc))
 case first =>
  have H := HC3.out
  clear HC3
  replace H := Option.bind_eq_some_iff.mp H
  obtain ⟨t755, A150, H⟩ := H
  replace H : (if t755 = true then ((spec_l07In.f k l0_6 a0_5).bind fun t756 => (spec_Leave.j0 k (!t756) a0_0 a0_1 a0_2 l0_3 a0_4 a0_5 l0_6 a0_7 t742 t743 t744 t745 t748 t749 t750 t753)) else (spec_Leave.j0 k true a0_0 a0_1 a0_2 l0_3 a0_4 a0_5 l0_6 a0_7 t742 t743 t744 t745 t748 t749 t750 t753)) = some (r1, r2, r3, r4, r5, r6, r7, r8, r9) := H
  have A15 := aK A150
  clear A150
  by_cases c16 : t755 = true
  ·subst c16
   have H1 : ((spec_l07In.f k l0_6 a0_5).bind fun t756 => (spec_Leave.j0 k (!t756) a0_0 a0_1 a0_2 l0_3 a0_4 a0_5 l0_6 a0_7 t742 t743 t744 t745 t748 t749 t750 t753)) = some (r1, r2, r3, r4, r5, r6, r7, r8, r9) := by rw [if_pos rfl] at H; exact H
   clear H
   have H := H1
   clear H1
   replace H := Option.bind_eq_some_iff.mp H
   obtain ⟨t756, A170, H⟩ := H
   replace H : (spec_Leave.j0 k (!t756) a0_0 a0_1 a0_2 l0_3 a0_4 a0_5 l0_6 a0_7 t742 t743 t744 t745 t748 t749 t750 t753) = some (r1, r2, r3, r4, r5, r6, r7, r8, r9) := H
   have A17 := aK A170
   clear A170
   have H' := aK H
   clear H
   have hnb18 := NB740_741.out
   have hnc18 := NB741_740.out
   have hnb19 := NB740_754.out
   have hnc19 := NB754_740.out
   obtain ⟨hcz20_0, hcz20_1, hcz20_2, hcz20_3, hcz20_4, hcz20_5, hcz20_6, hcz20_7, hfz20_0, hfz20_1, hfz20_2, hfz20_3, hfz20_4, hfz20_5, hfz20_6, hfz20_7⟩ := cl8 BK740.out
   go_wp2_with (first | ((with_reducible refine gate_callee (f := 59) rfl ?_); refine goesL_ (some 9) rfl rfl Tryz.func59 (by kernel_rfl) rfl #[.agg #[.int .i64 a0_0, .int .i64 a0_1, .int .i64 a0_2, .slice A0_3 l0_3.length c0_3, .int .i64 a0_4, .int .i64 a0_5, .slice A0_6 l0_6.length c0_6, .int .i64 a0_7]] rfl zD ?_; (with_reducible refine (spec_GardenOk.calls k a0_0 a0_1 a0_2 _ _ l0_3 a0_4 a0_5 _ _ l0_6 a0_7 true _ ?side1 ?side2 ?side3 ?side4 A15.out).mono ?_); (case side1 => exact Kd.C_below HR0_3.out (zH3 HB GE740 GE741 GE754)); (case side2 => exact HC0_3.out); (case side3 => exact Kd.C_below HR0_6.out (zH3 HB GE740 GE741 GE754)); (case side4 => exact HC0_6.out); rintro e w21 ⟨rfl, hb⟩; refine ⟨_, rfl, ?_⟩; replace HO747 := aK (Kd.R_below (zF8 HO747 BK754) hb); replace HO752 := aK (Kd.R_below (zF8 HO752 BK754) hb); replace BK740 := zG8 BK740 NB740_754 hb; replace BK741 := zG8 BK741 NB741_754 hb; replace BK754 := aK (blk_below (g := gb754) (o := .cells #[.int .i64 t742, .int .i64 t743, .int .i64 t744, .slice Ao13 t745.length co13, .int .i64 t748, .int .i64 t749, .slice Ao14 t750.length co14, .int .i64 t753] 38 (0, 0)) (by (with_reducible repeat (first | refine kDN ?_ _ | refine kD ?_ | refine kA ?_ _)); refine blk_put (cs := #[.int .i64 t742, .int .i64 t743, .int .i64 t744, .slice Ao13 t745.length co13, .int .i64 t748, .int .i64 t749, .slice Ao14 t750.length co14, .int .i64 0]) ?_ 7 _ rfl; (with_reducible repeat (first | refine kDN ?_ _ | refine kD ?_ | refine kA ?_ _)); refine blk_put (cs := #[.int .i64 t742, .int .i64 t743, .int .i64 t744, .slice Ao13 t745.length co13, .int .i64 t748, .int .i64 t749, .slice none 0 0, .int .i64 0]) ?_ 6 _ rfl; (with_reducible repeat (first | refine kDN ?_ _ | refine kD ?_ | refine kA ?_ _)); refine blk_put (cs := #[.int .i64 t742, .int .i64 t743, .int .i64 t744, .slice Ao13 t745.length co13, .int .i64 t748, .int .i64 0, .slice none 0 0, .int .i64 0]) ?_ 5 _ rfl; (with_reducible repeat (first | refine kDN ?_ _ | refine kD ?_ | refine kA ?_ _)); refine blk_put (cs := #[.int .i64 t742, .int .i64 t743, .int .i64 t744, .slice Ao13 t745.length co13, .int .i64 0, .int .i64 0, .slice none 0 0, .int .i64 0]) ?_ 4 _ rfl; (with_reducible repeat (first | refine kDN ?_ _ | refine kD ?_ | refine kA ?_ _)); refine blk_put (cs := #[.int .i64 t742, .int .i64 t743, .int .i64 t744, .slice none 0 0, .int .i64 0, .int .i64 0, .slice none 0 0, .int .i64 0]) ?_ 3 _ rfl; (with_reducible repeat (first | refine kDN ?_ _ | refine kD ?_ | refine kA ?_ _)); refine blk_put (cs := #[.int .i64 t742, .int .i64 t743, .int .i64 0, .slice none 0 0, .int .i64 0, .int .i64 0, .slice none 0 0, .int .i64 0]) ?_ 2 _ rfl; (with_reducible repeat (first | refine kDN ?_ _ | refine kD ?_ | refine kA ?_ _)); refine blk_put (cs := #[.int .i64 t742, .int .i64 0, .int .i64 0, .slice none 0 0, .int .i64 0, .int .i64 0, .slice none 0 0, .int .i64 0]) ?_ 1 _ rfl; (with_reducible repeat (first | refine kDN ?_ _ | refine kD ?_ | refine kA ?_ _)); refine blk_put (cs := #[.int .i64 0, .int .i64 0, .int .i64 0, .slice none 0 0, .int .i64 0, .int .i64 0, .slice none 0 0, .int .i64 0]) ?_ 0 _ rfl; (with_reducible repeat (first | refine kDN ?_ _ | refine kD ?_ | refine kA ?_ _)); exact BK754.out) hb); replace HB := aK (bSp (zH3 HB GE740 GE741 GE754) hb); (try clear hb); (try clear hb2); (try clear hk); (try clear hi); obtain ⟨hcz22_0, hcz22_1, hcz22_2, hcz22_3, hcz22_4, hcz22_5, hcz22_6, hcz22_7, hfz22_0, hfz22_1, hfz22_2, hfz22_3, hfz22_4, hfz22_5, hfz22_6, hfz22_7⟩ := cl8 BK740.out) | (go_at_call 68; (with_reducible refine (spec_l07In.calls k _ _ l0_6 a0_5 t756 _ ?side1 ?side2 A17.out).mono ?_); (case side1 => exact zC (Kd.C_below HR0_6.out HB.out)); (case side2 => exact HC0_6.out); rintro e w' ⟨rfl, ⟨nd, rfl⟩⟩))
   go_meet
   case rel => exact ⟨_, (!t756), (by first | rfl | (simp; done) | (simp [*]; done)), H', ⟨by first | omega | exact Nat.le_refl _⟩, ⟨zA HO747⟩, ⟨zA HO752⟩, ⟨zK BK740⟩, ⟨zK BK741⟩, ⟨zK BK754⟩, ⟨zH3 HB GE740 GE741 GE754⟩⟩
  ·replace c16 := Bool.eq_false_iff.mpr c16
   subst c16
   have H1 : (spec_Leave.j0 k true a0_0 a0_1 a0_2 l0_3 a0_4 a0_5 l0_6 a0_7 t742 t743 t744 t745 t748 t749 t750 t753) = some (r1, r2, r3, r4, r5, r6, r7, r8, r9) := by rw [if_neg (show ¬ (false = true) by decide)] at H; exact H
   clear H
   have H := H1
   clear H1
   have H' := aK H
   clear H
   have hnb23 := NB740_741.out
   have hnc23 := NB741_740.out
   have hnb24 := NB740_754.out
   have hnc24 := NB754_740.out
   obtain ⟨hcz25_0, hcz25_1, hcz25_2, hcz25_3, hcz25_4, hcz25_5, hcz25_6, hcz25_7, hfz25_0, hfz25_1, hfz25_2, hfz25_3, hfz25_4, hfz25_5, hfz25_6, hfz25_7⟩ := cl8 BK740.out
   go_wp2_with (first | ((with_reducible refine gate_callee (f := 59) rfl ?_); refine goesL_ (some 9) rfl rfl Tryz.func59 (by kernel_rfl) rfl #[.agg #[.int .i64 a0_0, .int .i64 a0_1, .int .i64 a0_2, .slice A0_3 l0_3.length c0_3, .int .i64 a0_4, .int .i64 a0_5, .slice A0_6 l0_6.length c0_6, .int .i64 a0_7]] rfl zD ?_; (with_reducible refine (spec_GardenOk.calls k a0_0 a0_1 a0_2 _ _ l0_3 a0_4 a0_5 _ _ l0_6 a0_7 false _ ?side1 ?side2 ?side3 ?side4 A15.out).mono ?_); (case side1 => exact Kd.C_below HR0_3.out (zH3 HB GE740 GE741 GE754)); (case side2 => exact HC0_3.out); (case side3 => exact Kd.C_below HR0_6.out (zH3 HB GE740 GE741 GE754)); (case side4 => exact HC0_6.out); rintro e w26 ⟨rfl, hb⟩; refine ⟨_, rfl, ?_⟩; replace HO747 := aK (Kd.R_below (zF8 HO747 BK754) hb); replace HO752 := aK (Kd.R_below (zF8 HO752 BK754) hb); replace BK740 := zG8 BK740 NB740_754 hb; replace BK741 := zG8 BK741 NB741_754 hb; replace BK754 := aK (blk_below (g := gb754) (o := .cells #[.int .i64 t742, .int .i64 t743, .int .i64 t744, .slice Ao13 t745.length co13, .int .i64 t748, .int .i64 t749, .slice Ao14 t750.length co14, .int .i64 t753] 38 (0, 0)) (by (with_reducible repeat (first | refine kDN ?_ _ | refine kD ?_ | refine kA ?_ _)); refine blk_put (cs := #[.int .i64 t742, .int .i64 t743, .int .i64 t744, .slice Ao13 t745.length co13, .int .i64 t748, .int .i64 t749, .slice Ao14 t750.length co14, .int .i64 0]) ?_ 7 _ rfl; (with_reducible repeat (first | refine kDN ?_ _ | refine kD ?_ | refine kA ?_ _)); refine blk_put (cs := #[.int .i64 t742, .int .i64 t743, .int .i64 t744, .slice Ao13 t745.length co13, .int .i64 t748, .int .i64 t749, .slice none 0 0, .int .i64 0]) ?_ 6 _ rfl; (with_reducible repeat (first | refine kDN ?_ _ | refine kD ?_ | refine kA ?_ _)); refine blk_put (cs := #[.int .i64 t742, .int .i64 t743, .int .i64 t744, .slice Ao13 t745.length co13, .int .i64 t748, .int .i64 0, .slice none 0 0, .int .i64 0]) ?_ 5 _ rfl; (with_reducible repeat (first | refine kDN ?_ _ | refine kD ?_ | refine kA ?_ _)); refine blk_put (cs := #[.int .i64 t742, .int .i64 t743, .int .i64 t744, .slice Ao13 t745.length co13, .int .i64 0, .int .i64 0, .slice none 0 0, .int .i64 0]) ?_ 4 _ rfl; (with_reducible repeat (first | refine kDN ?_ _ | refine kD ?_ | refine kA ?_ _)); refine blk_put (cs := #[.int .i64 t742, .int .i64 t743, .int .i64 t744, .slice none 0 0, .int .i64 0, .int .i64 0, .slice none 0 0, .int .i64 0]) ?_ 3 _ rfl; (with_reducible repeat (first | refine kDN ?_ _ | refine kD ?_ | refine kA ?_ _)); refine blk_put (cs := #[.int .i64 t742, .int .i64 t743, .int .i64 0, .slice none 0 0, .int .i64 0, .int .i64 0, .slice none 0 0, .int .i64 0]) ?_ 2 _ rfl; (with_reducible repeat (first | refine kDN ?_ _ | refine kD ?_ | refine kA ?_ _)); refine blk_put (cs := #[.int .i64 t742, .int .i64 0, .int .i64 0, .slice none 0 0, .int .i64 0, .int .i64 0, .slice none 0 0, .int .i64 0]) ?_ 1 _ rfl; (with_reducible repeat (first | refine kDN ?_ _ | refine kD ?_ | refine kA ?_ _)); refine blk_put (cs := #[.int .i64 0, .int .i64 0, .int .i64 0, .slice none 0 0, .int .i64 0, .int .i64 0, .slice none 0 0, .int .i64 0]) ?_ 0 _ rfl; (with_reducible repeat (first | refine kDN ?_ _ | refine kD ?_ | refine kA ?_ _)); exact BK754.out) hb); replace HB := aK (bSp (zH3 HB GE740 GE741 GE754) hb); (try clear hb); (try clear hb2); (try clear hk); (try clear hi)))
   go_meet
   case rel => exact ⟨_, (true), (by first | rfl | (simp; done) | (simp [*]; done)), H', ⟨by first | omega | exact Nat.le_refl _⟩, ⟨zA HO747⟩, ⟨zA HO752⟩, ⟨zK BK740⟩, ⟨zK BK741⟩, ⟨zK BK754⟩, ⟨zH3 HB GE740 GE741 GE754⟩⟩
 case rest =>
  clear HC3
  try clear c1
  try clear c2
  try clear p2
  try clear c5
  try clear c6
  try clear c10
  try clear c11
  try clear c16
  try clear c18
  try clear c19
  try clear c22
  try clear c23
  try clear c24
  try clear hcz12_0
  try clear hcz12_1
  try clear hcz12_2
  try clear hcz12_3
  try clear hcz12_4
  try clear hcz12_5
  try clear hcz12_6
  try clear hcz12_7
  try clear hcz20_0
  try clear hcz20_1
  try clear hcz20_2
  try clear hcz20_3
  try clear hcz20_4
  try clear hcz20_5
  try clear hcz20_6
  try clear hcz20_7
  try clear hcz22_0
  try clear hcz22_1
  try clear hcz22_2
  try clear hcz22_3
  try clear hcz22_4
  try clear hcz22_5
  try clear hcz22_6
  try clear hcz22_7
  try clear hcz25_0
  try clear hcz25_1
  try clear hcz25_2
  try clear hcz25_3
  try clear hcz25_4
  try clear hcz25_5
  try clear hcz25_6
  try clear hcz25_7
  try clear hcz7_0
  try clear hcz7_1
  try clear hcz7_2
  try clear hcz7_3
  try clear hcz7_4
  try clear hcz7_5
  try clear hcz7_6
  try clear hcz7_7
  try clear hfz12_0
  try clear hfz12_1
  try clear hfz12_2
  try clear hfz12_3
  try clear hfz12_4
  try clear hfz12_5
  try clear hfz12_6
  try clear hfz12_7
  try clear hfz20_0
  try clear hfz20_1
  try clear hfz20_2
  try clear hfz20_3
  try clear hfz20_4
  try clear hfz20_5
  try clear hfz20_6
  try clear hfz20_7
  try clear hfz22_0
  try clear hfz22_1
  try clear hfz22_2
  try clear hfz22_3
  try clear hfz22_4
  try clear hfz22_5
  try clear hfz22_6
  try clear hfz22_7
  try clear hfz25_0
  try clear hfz25_1
  try clear hfz25_2
  try clear hfz25_3
  try clear hfz25_4
  try clear hfz25_5
  try clear hfz25_6
  try clear hfz25_7
  try clear hfz7_0
  try clear hfz7_1
  try clear hfz7_2
  try clear hfz7_3
  try clear hfz7_4
  try clear hfz7_5
  try clear hfz7_6
  try clear hfz7_7
  obtain ⟨kq, x18_2, rfl, HA, HJ2, HO_755003, HO_755006, BK740, BK741, BK754, HB⟩ := hcut
  cases kq with
  | zero => exact absurd HA.out (by simp [spec_Leave.j0])
  | succ kj2 =>
   have H := HA.out
   clear HA
   simp only [spec_Leave.j0] at H
   by_cases c27 : x18_2 = true
   ·subst c27
    have H1 : (some (t742, t743, t744, t745, t748, t749, t750, t753, false)) = some (r1, r2, r3, r4, r5, r6, r7, r8, r9) := by rw [if_pos rfl] at H; exact H
    clear H
    have H := H1
    clear H1
    simp only [Option.some.injEq, Prod.mk.injEq] at H
    obtain ⟨rfl, rfl, rfl, rfl, rfl, rfl, rfl, rfl, rfl⟩ := H
    have hnb28 := NB754_740.out
    have hnc28 := NB740_754.out
    have hnb29 := NB754_741.out
    have hnc29 := NB741_754.out
    obtain ⟨hcz30_0, hcz30_1, hcz30_2, hcz30_3, hcz30_4, hcz30_5, hcz30_6, hcz30_7, hfz30_0, hfz30_1, hfz30_2, hfz30_3, hfz30_4, hfz30_5, hfz30_6, hfz30_7⟩ := cl8 BK754.out
    have hnb31 := NB741_740.out
    have hnc31 := NB740_741.out
    obtain ⟨hcz32_0, hcz32_1, hcz32_2, hcz32_3, hcz32_4, hcz32_5, hcz32_6, hcz32_7, hfz32_0, hfz32_1, hfz32_2, hfz32_3, hfz32_4, hfz32_5, hfz32_6, hfz32_7⟩ := cl8 BK741.out
    go_wp2
    refine bodyPost_ret (results_ct rfl _ _ gb741 38 #[.int .i64 t742, .int .i64 t743, .int .i64 t744, .slice Ao13 t745.length co13, .int .i64 t748, .int .i64 t749, .slice Ao14 t750.length co14, .int .i64 t753] (0, 0) _ rfl (by (with_reducible repeat (first | refine kDN ?_ _ | refine kD ?_ | refine kA ?_ _)); refine blk_put (cs := #[.int .i64 t742, .int .i64 t743, .int .i64 t744, .slice Ao13 t745.length co13, .int .i64 t748, .int .i64 t749, .slice Ao14 t750.length co14, .int .i64 0]) ?_ 7 _ rfl; (with_reducible repeat (first | refine kDN ?_ _ | refine kD ?_ | refine kA ?_ _)); refine blk_put (cs := #[.int .i64 t742, .int .i64 t743, .int .i64 t744, .slice Ao13 t745.length co13, .int .i64 t748, .int .i64 t749, .slice none 0 0, .int .i64 0]) ?_ 6 _ rfl; (with_reducible repeat (first | refine kDN ?_ _ | refine kD ?_ | refine kA ?_ _)); refine blk_put (cs := #[.int .i64 t742, .int .i64 t743, .int .i64 t744, .slice Ao13 t745.length co13, .int .i64 t748, .int .i64 0, .slice none 0 0, .int .i64 0]) ?_ 5 _ rfl; (with_reducible repeat (first | refine kDN ?_ _ | refine kD ?_ | refine kA ?_ _)); refine blk_put (cs := #[.int .i64 t742, .int .i64 t743, .int .i64 t744, .slice Ao13 t745.length co13, .int .i64 0, .int .i64 0, .slice none 0 0, .int .i64 0]) ?_ 4 _ rfl; (with_reducible repeat (first | refine kDN ?_ _ | refine kD ?_ | refine kA ?_ _)); refine blk_put (cs := #[.int .i64 t742, .int .i64 t743, .int .i64 t744, .slice none 0 0, .int .i64 0, .int .i64 0, .slice none 0 0, .int .i64 0]) ?_ 3 _ rfl; (with_reducible repeat (first | refine kDN ?_ _ | refine kD ?_ | refine kA ?_ _)); refine blk_put (cs := #[.int .i64 t742, .int .i64 t743, .int .i64 0, .slice none 0 0, .int .i64 0, .int .i64 0, .slice none 0 0, .int .i64 0]) ?_ 2 _ rfl; (with_reducible repeat (first | refine kDN ?_ _ | refine kD ?_ | refine kA ?_ _)); refine blk_put (cs := #[.int .i64 t742, .int .i64 0, .int .i64 0, .slice none 0 0, .int .i64 0, .int .i64 0, .slice none 0 0, .int .i64 0]) ?_ 1 _ rfl; (with_reducible repeat (first | refine kDN ?_ _ | refine kD ?_ | refine kA ?_ _)); refine blk_put (cs := #[.int .i64 0, .int .i64 0, .int .i64 0, .slice none 0 0, .int .i64 0, .int .i64 0, .slice none 0 0, .int .i64 0]) ?_ 0 _ rfl; (with_reducible repeat (first | refine kDN ?_ _ | refine kD ?_ | refine kA ?_ _)); exact BK741.out) Tryz.underlying38 rfl (by kernel_rfl)) rfl ?_
    exact ⟨_, _, by first | rfl | (simp [errW_none, errW_some] <;> rfl) | (simp [*, errW_none, errW_some] <;> rfl), by (with_reducible repeat (first | apply Kd.R_alloc | apply Kd.R_drewN | apply Kd.R_drew)); exact Kd.R_mono (zT8 HO_755003 BK741 (.int .i64 t742) (.int .i64 t743) (.int .i64 t744) (.slice Ao13 t745.length co13) (.int .i64 t748) (.int .i64 t749) (.slice Ao14 t750.length co14) (.int .i64 t753)) (fun _ hk => hk.1), by (with_reducible repeat (first | apply Kd.R_alloc | apply Kd.R_drewN | apply Kd.R_drew)); exact Kd.R_mono (zT8 HO_755006 BK741 (.int .i64 t742) (.int .i64 t743) (.int .i64 t744) (.slice Ao13 t745.length co13) (.int .i64 t748) (.int .i64 t749) (.slice Ao14 t750.length co14) (.int .i64 t753)) (fun _ hk => hk.1), by repeat (first | (with_reducible first | exact HB.out | apply bAl | apply bDN | apply bD1 | refine bSt ?_ GE740.out | refine bSt ?_ GE741.out | refine bSt ?_ GE754.out) | exact HB.out)⟩
   ·replace c27 := Bool.eq_false_iff.mpr c27
    subst c27
    have H1 : (spec_Leave.l0 kj2 0 a0_0 a0_1 a0_2 l0_3 a0_4 a0_5 l0_6 a0_7 t742 t743 t744 t745 t748 t749 (([] : List Int)) t753) = some (r1, r2, r3, r4, r5, r6, r7, r8, r9) := by rw [if_neg (show ¬ (false = true) by decide)] at H; exact H
    clear H
    have H := H1
    clear H1
    obtain ⟨y757, hy757⟩ : ∃ y_ : List Int, y_ = (([] : List Int)) := ⟨_, rfl⟩
    replace H : (spec_Leave.l0 kj2 0 a0_0 a0_1 a0_2 l0_3 a0_4 a0_5 l0_6 a0_7 t742 t743 t744 t745 t748 t749 y757 t753) = some (r1, r2, r3, r4, r5, r6, r7, r8, r9) := by first | (rw [hy757]; with_reducible exact H) | (have H2_ := (Option.bind_some _ _).symm.trans H; rw [hy757]; with_reducible exact H2_) | (have H2_ := (Option.bind_some _ _).symm.trans H; with_reducible exact H2_) | with_reducible exact H | (rw [hy757]; exact H) | exact H
    have Ny757 := aK hy757
    clear hy757
    have H' := aK H
    clear H
    go_wp2_with (first | ((with_reducible refine gate_dst (N := 20) rfl ?_); refine Kd.R_lit (Kd.int .i64) _ 3 ?hg (N := 20) ?hd (xs := ([] : List Int)) (inner := []) (ok := fun _ => True) (okp := fun _ => True) ?hr ?hp (fun _ hk => hk) trivial (Below.refl _ _) (Nat.le_refl _) (by simp) ?_; (case hd => rfl); (case hg => rfl); (case hr => first | (go_simp; done) | (go_simp; rfl)); (case hp => exact (Reps.none _ _)); intro v758 w33 ho34 hb hg_ hnew_; clear hg_ hnew_; (first | rw [← Ny757.out] at ho34 | (simp only [Int.reduceToNat] at ho34; rw [← Ny757.out] at ho34)); have HO759 := aK (Kd.R_lower (Kd.R_new' (Kd.R_new' ho34 (Kd.R_lt (zA HO_755003))) (Kd.R_lt (zA HO_755006))) (bSz (zH3 HB GE740 GE741 GE754))); replace HO_755003 := aK (Kd.R_elder' (zA HO_755003) (Kd.R_base ho34) hb); replace HO_755006 := aK (Kd.R_elder' (zA HO_755006) (Kd.R_base ho34) hb); replace BK740 := zB BK740 hb; replace BK741 := zB BK741 hb; replace BK754 := zB BK754 hb; replace HB := aK (bSp (zH3 HB GE740 GE741 GE754) hb); clear hb ho34; obtain ⟨Ao35, co35, eo35⟩ := Kd.R_slice HO759.out; subst eo35; have hnb36 := NB754_740.out; have hnc36 := NB740_754.out; have hnb37 := NB754_741.out; have hnc37 := NB741_754.out; obtain ⟨hcz38_0, hcz38_1, hcz38_2, hcz38_3, hcz38_4, hcz38_5, hcz38_6, hcz38_7, hfz38_0, hfz38_1, hfz38_2, hfz38_3, hfz38_4, hfz38_5, hfz38_6, hfz38_7⟩ := cl8 BK754.out))
    go_loopg [5] kj2 (fun kq v5 w' => ∃ (x5_2 : Int) (x755006_2 : List Int) (u755006 : Value), v5 = .int .i64 x5_2 ∧ Aside0 (spec_Leave.l0 kq x5_2 a0_0 a0_1 a0_2 l0_3 a0_4 a0_5 l0_6 a0_7 t742 t743 t744 t745 t748 t749 x755006_2 t753 = some (r1, r2, r3, r4, r5, r6, r7, r8, r9)) ∧ Aside0 (kq ≤ kj2) ∧ Aside0 (Kd.R (Kd.int .i64) 3 w' w.heap.size (fun k_ => some k_ ≠ (u755006 : Value).ownBlock) (.slice Ao13 t745.length co13) t745) ∧ Aside0 (Kd.R (Kd.int .i64) 3 w' w.heap.size (fun k_ => some k_ ≠ ((.slice Ao13 t745.length co13) : Value).ownBlock) u755006 x755006_2) ∧ Aside0 (w'.heap[gb740]? = some (.cells #[.int .i64 a0_0, .int .i64 a0_1, .int .i64 a0_2, (.slice A0_3 l0_3.length c0_3), .int .i64 a0_4, .int .i64 a0_5, (.slice A0_6 l0_6.length c0_6), .int .i64 a0_7] 38 (0, 0))) ∧ Aside0 (w'.heap[gb741]? = some (.cells #[.int .i64 0, .int .i64 0, .int .i64 0, (.slice none 0 0), .int .i64 0, .int .i64 0, (.slice none 0 0), .int .i64 0] 38 (0, 0))) ∧ Aside0 (w'.heap[gb754]? = some (.cells #[.int .i64 t742, .int .i64 t743, .int .i64 t744, (.slice Ao13 t745.length co13), .int .i64 t748, .int .i64 t749, u755006, .int .i64 t753] 38 (0, 0))) ∧ Aside0 (Below w.heap.size w w'))
    case atStart => exact ⟨(0), (y757), (.slice Ao35 y757.length co35), (by first | rfl | (simp; done) | (simp [*]; done)), H', ⟨Nat.le_refl _⟩, ⟨by (with_reducible repeat (first | apply Kd.R_alloc | apply Kd.R_drewN | apply Kd.R_drew)); exact Kd.R_mono (Kd.R_far (p := ⟨gb754, 6, none⟩) (Kd.R_types HO_755003.out BK754.out (by decide)) (fun _ hk => hk.2) (.slice Ao35 y757.length co35)) (fun _ hk => hk.1.2)⟩, ⟨by (with_reducible repeat (first | apply Kd.R_alloc | apply Kd.R_drewN | apply Kd.R_drew)); exact Kd.R_mono (Kd.R_far (p := ⟨gb754, 6, none⟩) (Kd.R_types HO759.out BK754.out (by decide)) (fun _ hk => hk.2) (.slice Ao35 y757.length co35)) (fun _ hk => hk.1.1.2)⟩, ⟨by (with_reducible repeat (first | refine kDN ?_ _ | refine kD ?_ | refine kA ?_ _)); refine blk_far ?_ NB740_754.out _; (with_reducible repeat (first | refine kDN ?_ _ | refine kD ?_ | refine kA ?_ _)); exact BK740.out⟩, ⟨by (with_reducible repeat (first | refine kDN ?_ _ | refine kD ?_ | refine kA ?_ _)); refine blk_far ?_ NB741_754.out _; (with_reducible repeat (first | refine kDN ?_ _ | refine kD ?_ | refine kA ?_ _)); exact BK741.out⟩, ⟨by (with_reducible repeat (first | refine kDN ?_ _ | refine kD ?_ | refine kA ?_ _)); refine blk_put (cs := #[.int .i64 t742, .int .i64 t743, .int .i64 t744, .slice Ao13 t745.length co13, .int .i64 t748, .int .i64 t749, .slice Ao14 t750.length co14, .int .i64 t753]) ?_ 6 _ rfl; (with_reducible repeat (first | refine kDN ?_ _ | refine kD ?_ | refine kA ?_ _)); exact BK754.out⟩, ⟨zH3 HB GE740 GE741 GE754⟩⟩
    case round =>
     clear H'
     try clear c1
     try clear c2
     try clear p2
     try clear c3
     try clear c5
     try clear c6
     try clear c10
     try clear c11
     try clear c16
     try clear c18
     try clear c19
     try clear c22
     try clear c23
     try clear c24
     try clear c27
     try clear c28
     try clear c29
     try clear c31
     try clear c36
     try clear c37
     try clear hcz12_0
     try clear hcz12_1
     try clear hcz12_2
     try clear hcz12_3
     try clear hcz12_4
     try clear hcz12_5
     try clear hcz12_6
     try clear hcz12_7
     try clear hcz20_0
     try clear hcz20_1
     try clear hcz20_2
     try clear hcz20_3
     try clear hcz20_4
     try clear hcz20_5
     try clear hcz20_6
     try clear hcz20_7
     try clear hcz22_0
     try clear hcz22_1
     try clear hcz22_2
     try clear hcz22_3
     try clear hcz22_4
     try clear hcz22_5
     try clear hcz22_6
     try clear hcz22_7
     try clear hcz25_0
     try clear hcz25_1
     try clear hcz25_2
     try clear hcz25_3
     try clear hcz25_4
     try clear hcz25_5
     try clear hcz25_6
     try clear hcz25_7
     try clear hcz30_0
     try clear hcz30_1
     try clear hcz30_2
     try clear hcz30_3
     try clear hcz30_4
     try clear hcz30_5
     try clear hcz30_6
     try clear hcz30_7
     try clear hcz32_0
     try clear hcz32_1
     try clear hcz32_2
     try clear hcz32_3
     try clear hcz32_4
     try clear hcz32_5
     try clear hcz32_6
     try clear hcz32_7
     try clear hcz38_0
     try clear hcz38_1
     try clear hcz38_2
     try clear hcz38_3
     try clear hcz38_4
     try clear hcz38_5
     try clear hcz38_6
     try clear hcz38_7
     try clear hcz7_0
     try clear hcz7_1
     try clear hcz7_2
     try clear hcz7_3
     try clear hcz7_4
     try clear hcz7_5
     try clear hcz7_6
     try clear hcz7_7
     try clear hfz12_0
     try clear hfz12_1
     try clear hfz12_2
     try clear hfz12_3
     try clear hfz12_4
     try clear hfz12_5
     try clear hfz12_6
     try clear hfz12_7
     try clear hfz20_0
     try clear hfz20_1
     try clear hfz20_2
     try clear hfz20_3
     try clear hfz20_4
     try clear hfz20_5
     try clear hfz20_6
     try clear hfz20_7
     try clear hfz22_0
     try clear hfz22_1
     try clear hfz22_2
     try clear hfz22_3
     try clear hfz22_4
     try clear hfz22_5
     try clear hfz22_6
     try clear hfz22_7
     try clear hfz25_0
     try clear hfz25_1
     try clear hfz25_2
     try clear hfz25_3
     try clear hfz25_4
     try clear hfz25_5
     try clear hfz25_6
     try clear hfz25_7
     try clear hfz30_0
     try clear hfz30_1
     try clear hfz30_2
     try clear hfz30_3
     try clear hfz30_4
     try clear hfz30_5
     try clear hfz30_6
     try clear hfz30_7
     try clear hfz32_0
     try clear hfz32_1
     try clear hfz32_2
     try clear hfz32_3
     try clear hfz32_4
     try clear hfz32_5
     try clear hfz32_6
     try clear hfz32_7
     try clear hfz38_0
     try clear hfz38_1
     try clear hfz38_2
     try clear hfz38_3
     try clear hfz38_4
     try clear hfz38_5
     try clear hfz38_6
     try clear hfz38_7
     try clear hfz7_0
     try clear hfz7_1
     try clear hfz7_2
     try clear hfz7_3
     try clear hfz7_4
     try clear hfz7_5
     try clear hfz7_6
     try clear hfz7_7
     try clear p2
     obtain ⟨x5_2, x755006_2, u755006, rfl, HA, HK2, HO_755003, HO_755006, BK740, BK741, BK754, HB⟩ := hrel
     cases gk with
     | zero => exact absurd HA.out (by simp [spec_Leave.l0])
     | succ k2 =>
      have H := HA.out
      clear HA
      simp only [spec_Leave.l0] at H
      by_cases c39 : x5_2 < (l0_6.length : Int)
      ·rw [if_pos c39] at H
       have c39b0 : decide (x5_2 < (l0_6.length : Int)) = true := decide_eq_true c39
       clear c39
       by_cases c40 : 0 ≤ x5_2
       ·rw [if_pos c40] at H
        have c40b0 : decide (0 ≤ x5_2) = true := decide_eq_true c40
        clear c40
        by_cases c41 : (rd l0_6 x5_2) = a0_5
        ·rw [if_pos c41] at H
         have c41b0 : ((rd l0_6 x5_2) == a0_5) = true := beq_iff_eq.mpr c41
         have c41b1 : ((rd l0_6 x5_2) != a0_5) = false := bne_eq_false_iff_eq.mpr c41
         clear c41
         have H' := aK H
         clear H
         have hnb42 := NB740_741.out
         have hnc42 := NB741_740.out
         have hnb43 := NB740_754.out
         have hnc43 := NB754_740.out
         obtain ⟨hcz44_0, hcz44_1, hcz44_2, hcz44_3, hcz44_4, hcz44_5, hcz44_6, hcz44_7, hfz44_0, hfz44_1, hfz44_2, hfz44_3, hfz44_4, hfz44_5, hfz44_6, hfz44_7⟩ := cl8 BK740.out
         try go_wp2
         have n0_ := aK (Kd.R_drew HO_755003.out)
         have n1_ := aK (Kd.R_drew HO_755006.out)
         have n2_ := aK (kD BK740.out)
         have n3_ := aK (kD BK741.out)
         have n4_ := aK (kD BK754.out)
         have n5_ := aK (bD1 HB.out)
         clear HO_755003
         clear HO_755006
         clear BK740
         clear BK741
         clear BK754
         clear HB
         have HO_755003 := n0_
         have HO_755006 := n1_
         have BK740 := n2_
         have BK741 := n3_
         have BK754 := n4_
         have HB := n5_
         clear n0_ n1_ n2_ n3_ n4_ n5_
         have p760 : 0 ≤ (x5_2 : Int) := of_decide_eq_true (by first | (with_reducible assumption) | assumption)
         have q760 : x5_2 < (l0_6.length : Int) := of_decide_eq_true (by first | (with_reducible assumption) | assumption)
         obtain ⟨ad760, e760, hx760_0⟩ := Kd.at_int HR0_6.out x5_2 p760 q760
         have hw760_0 := hx760_0
         cases e760
         replace hx760_0 := (HB.out.cell (World.block_lt_of_cell? w _ hx760_0)).trans hx760_0
         replace p760 := eq_true p760
         replace q760 := eq_true q760
         refine start_ (n := 8) (S := fun w' => w'.cell? ⟨gb740, 0, none⟩ = some (.int .i64 a0_0) ∧ w'.cell? ⟨gb740, 1, none⟩ = some (.int .i64 a0_1) ∧ w'.cell? ⟨gb740, 2, none⟩ = some (.int .i64 a0_2) ∧ w'.cell? ⟨gb740, 3, none⟩ = some (.slice A0_3 l0_3.length c0_3) ∧ w'.cell? ⟨gb740, 4, none⟩ = some (.int .i64 a0_4) ∧ w'.cell? ⟨gb740, 5, none⟩ = some (.int .i64 a0_5) ∧ w'.cell? ⟨gb740, 6, none⟩ = some (.slice (some ad760) l0_6.length c0_6) ∧ w'.cell? ⟨gb740, 7, none⟩ = some (.int .i64 a0_7) ∧ w'.cell? (ad760.add (x5_2).toNat) = some (.int .i64 (rd l0_6 x5_2))) (ds := []) #[bN,bN,bN,bN,bN,bN,bN,bN] (by kernel_rfl) rfl rfl ⟨zQ BK740 0, zQ BK740 1, zQ BK740 2, zQ BK740 3, zQ BK740 4, zQ BK740 5, zQ BK740 6, zQ BK740 7, ((HB.out.cell (World.block_lt_of_cell? w _ hw760_0)).trans hw760_0)⟩ (fun hHeld => ?_); refine with_tabW spec_Leave.tab8 spec_Leave.bits8 (fun HT_ HW_ => ?_)
         generalize wr.drew = w45 at HO_755003 HO_755006 BK740 BK741 BK754 HB hx760_0 hHeld ⊢
         refine pure_ (i := 0) (N := some 29) (v := ?_) (a' := ?_) #[bY,bN,bN,bN,bN,bN,bN,bN] rfl rfl (any_of HT_.out (by kernel_rfl)) (fun _ _ _ h => h) (Or.inl ⟨by rfl, ?_⟩) ?_ ?_
         rotate_left
         ·intro w'
          go_simp
          with_reducible rfl
         rotate_left
         ·simp only [Act.put, sTA, sZ, sS, i64_w, i32_w]
          rfl
         refine pure_ (i := 2) (N := some 31) (v := ?_) (a' := ?_) #[bY,bN,bY,bN,bN,bN,bN,bN] rfl rfl (any_of HT_.out (by kernel_rfl)) (fun _ _ _ h => h) (Or.inl ⟨by rfl, ?_⟩) ?_ ?_
         rotate_left
         ·intro w'
          go_simp
          with_reducible rfl
         rotate_left
         ·simp only [Act.put, sTA, sZ, sS, i64_w, i32_w]
          rfl
         refine pure_ (i := 5) (N := some 34) (v := ?_) (a' := ?_) #[bY,bN,bY,bN,bN,bY,bN,bN] rfl rfl (any_of HT_.out (by kernel_rfl)) (fun _ _ _ h => h) (Or.inl ⟨by rfl, ?_⟩) ?_ ?_
         rotate_left
         ·intro w'
          go_simp
          with_reducible rfl
         rotate_left
         ·simp only [Act.put, sTA, sZ, sS, i64_w, i32_w]
          rfl
         refine take_ (i := 1) (N := some 30) (v := ?_) (a' := ?_) #[bY,bY,bY,bN,bN,bY,bN,bN] rfl rfl (take_ofW HT_.out HW_.out (by kernel_rfl)) (fun _ _ _ h => h) (Or.inl ⟨by rfl, ?_⟩) hHeld ?_ ?_
         rotate_left
         ·rintro w' ⟨s0, s1, s2, s3, s4, s5, s6, s7, s8⟩
          go_simp
          with_reducible rfl
         rotate_left
         ·simp only [Act.put, sTA, sZ, sS, i64_w, i32_w]
          rfl
         refine pure_ (i := 3) (N := some 32) (v := ?_) (a' := ?_) #[bY,bY,bY,bY,bN,bY,bN,bN] rfl rfl (any_of HT_.out (by kernel_rfl)) (fun _ _ _ h => h) (Or.inl ⟨by rfl, ?_⟩) ?_ ?_
         rotate_left
         ·intro w'
          go_simp
          with_reducible rfl
         rotate_left
         ·simp only [Act.put, sTA, sZ, sS, i64_w, i32_w]
          rfl
         refine take_ (i := 4) (N := some 33) (v := ?_) (a' := ?_) #[bY,bY,bY,bY,bY,bY,bN,bN] rfl rfl (take_ofW HT_.out HW_.out (by kernel_rfl)) (fun _ _ _ h => h) (Or.inl ⟨by rfl, ?_⟩) hHeld ?_ ?_
         rotate_left
         ·rintro w' ⟨s0, s1, s2, s3, s4, s5, s6, s7, s8⟩
          go_simp
          with_reducible rfl
         rotate_left
         ·simp only [Act.put, sTA, sZ, sS, i64_w, i32_w]
          rfl
         refine take_ (i := 6) (N := some 35) (v := ?_) (a' := ?_) #[bY,bY,bY,bY,bY,bY,bY,bN] rfl rfl (take_ofW HT_.out HW_.out (by kernel_rfl)) (fun _ _ _ h => h) (Or.inl ⟨by rfl, ?_⟩) hHeld ?_ ?_
         rotate_left
         ·rintro w' ⟨s0, s1, s2, s3, s4, s5, s6, s7, s8⟩
          go_simp
          with_reducible rfl
         rotate_left
         ·simp only [Act.put, sTA, sZ, sS, i64_w, i32_w]
          rfl
         refine pure_ (i := 7) (N := some 36) (v := ?_) (a' := ?_) #[bY,bY,bY,bY,bY,bY,bY,bY] rfl rfl (any_of HT_.out (by kernel_rfl)) (fun _ _ _ h => h) (Or.inl ⟨by rfl, ?_⟩) ?_ ?_
         rotate_left
         ·intro w'
          go_simp
          with_reducible rfl
         rotate_left
         ·simp only [Act.put, sTA, sZ, sS, i64_w, i32_w]
          rfl
         refine done_ (done_of HT_.out (by kernel_rfl)) ?_
         try go_wp2
         go_roundg k2
         case measure => have := HJ2.out; have := HK2.out; omega
         case rel => exact ⟨(wrap64 (x5_2 + 1)), (x755006_2), (u755006), (by first | rfl | (simp; done) | (simp [*]; done)), H', ⟨by have := HJ2.out; have := HK2.out; omega⟩, ⟨zA HO_755003⟩, ⟨zA HO_755006⟩, ⟨zK BK740⟩, ⟨zK BK741⟩, ⟨zK BK754⟩, ⟨zH3 HB GE740 GE741 GE754⟩⟩
        ·rw [if_neg c41] at H
         have c41b0 : ((rd l0_6 x5_2) == a0_5) = false := beq_eq_false_iff_ne.mpr c41
         have c41b1 : ((rd l0_6 x5_2) != a0_5) = true := bne_iff_ne.mpr c41
         by_cases c46 : x755006_2.length < 17592186044416
         ·rw [if_pos c46] at H
          have LMc46 := aK c46
          clear c46
          obtain ⟨y762, hy762⟩ : ∃ y_ : List Int, y_ = (x755006_2 ++ [rd l0_6 x5_2]) := ⟨_, rfl⟩
          replace H : (spec_Leave.l0 k2 (wrap64 (x5_2 + 1)) a0_0 a0_1 a0_2 l0_3 a0_4 a0_5 l0_6 a0_7 t742 t743 t744 t745 t748 t749 y762 t753) = some (r1, r2, r3, r4, r5, r6, r7, r8, r9) := by first | (rw [hy762]; with_reducible exact H) | (have H2_ := (Option.bind_some _ _).symm.trans H; rw [hy762]; with_reducible exact H2_) | (have H2_ := (Option.bind_some _ _).symm.trans H; with_reducible exact H2_) | with_reducible exact H | (rw [hy762]; exact H) | exact H
          have Ny762 := aK hy762
          clear hy762
          have H' := aK H
          clear H
          have hnb47 := NB740_741.out
          have hnc47 := NB741_740.out
          have hnb48 := NB740_754.out
          have hnc48 := NB754_740.out
          obtain ⟨hcz49_0, hcz49_1, hcz49_2, hcz49_3, hcz49_4, hcz49_5, hcz49_6, hcz49_7, hfz49_0, hfz49_1, hfz49_2, hfz49_3, hfz49_4, hfz49_5, hfz49_6, hfz49_7⟩ := cl8 BK740.out
          try go_wp2
          have n0_ := aK (Kd.R_drew HO_755003.out)
          have n1_ := aK (Kd.R_drew HO_755006.out)
          have n2_ := aK (kD BK740.out)
          have n3_ := aK (kD BK741.out)
          have n4_ := aK (kD BK754.out)
          have n5_ := aK (bD1 HB.out)
          clear HO_755003
          clear HO_755006
          clear BK740
          clear BK741
          clear BK754
          clear HB
          have HO_755003 := n0_
          have HO_755006 := n1_
          have BK740 := n2_
          have BK741 := n3_
          have BK754 := n4_
          have HB := n5_
          clear n0_ n1_ n2_ n3_ n4_ n5_
          have p760 : 0 ≤ (x5_2 : Int) := of_decide_eq_true (by first | (with_reducible assumption) | assumption)
          have q760 : x5_2 < (l0_6.length : Int) := of_decide_eq_true (by first | (with_reducible assumption) | assumption)
          obtain ⟨ad760, e760, hx760_0⟩ := Kd.at_int HR0_6.out x5_2 p760 q760
          have hw760_0 := hx760_0
          cases e760
          replace hx760_0 := (HB.out.cell (World.block_lt_of_cell? w _ hx760_0)).trans hx760_0
          replace p760 := eq_true p760
          replace q760 := eq_true q760
          refine start_ (n := 8) (S := fun w' => w'.cell? ⟨gb740, 0, none⟩ = some (.int .i64 a0_0) ∧ w'.cell? ⟨gb740, 1, none⟩ = some (.int .i64 a0_1) ∧ w'.cell? ⟨gb740, 2, none⟩ = some (.int .i64 a0_2) ∧ w'.cell? ⟨gb740, 3, none⟩ = some (.slice A0_3 l0_3.length c0_3) ∧ w'.cell? ⟨gb740, 4, none⟩ = some (.int .i64 a0_4) ∧ w'.cell? ⟨gb740, 5, none⟩ = some (.int .i64 a0_5) ∧ w'.cell? ⟨gb740, 6, none⟩ = some (.slice (some ad760) l0_6.length c0_6) ∧ w'.cell? ⟨gb740, 7, none⟩ = some (.int .i64 a0_7) ∧ w'.cell? (ad760.add (x5_2).toNat) = some (.int .i64 (rd l0_6 x5_2))) (ds := []) #[bN,bN,bN,bN,bN,bN,bN,bN] (by kernel_rfl) rfl rfl ⟨zQ BK740 0, zQ BK740 1, zQ BK740 2, zQ BK740 3, zQ BK740 4, zQ BK740 5, zQ BK740 6, zQ BK740 7, ((HB.out.cell (World.block_lt_of_cell? w _ hw760_0)).trans hw760_0)⟩ (fun hHeld => ?_); refine with_tabW spec_Leave.tab8 spec_Leave.bits8 (fun HT_ HW_ => ?_)
          generalize wr.drew = w50 at HO_755003 HO_755006 BK740 BK741 BK754 HB hx760_0 hHeld ⊢
          refine pure_ (i := 0) (N := some 29) (v := ?_) (a' := ?_) #[bY,bN,bN,bN,bN,bN,bN,bN] rfl rfl (any_of HT_.out (by kernel_rfl)) (fun _ _ _ h => h) (Or.inl ⟨by rfl, ?_⟩) ?_ ?_
          rotate_left
          ·intro w'
           go_simp
           with_reducible rfl
          rotate_left
          ·simp only [Act.put, sTA, sZ, sS, i64_w, i32_w]
           rfl
          refine pure_ (i := 2) (N := some 31) (v := ?_) (a' := ?_) #[bY,bN,bY,bN,bN,bN,bN,bN] rfl rfl (any_of HT_.out (by kernel_rfl)) (fun _ _ _ h => h) (Or.inl ⟨by rfl, ?_⟩) ?_ ?_
          rotate_left
          ·intro w'
           go_simp
           with_reducible rfl
          rotate_left
          ·simp only [Act.put, sTA, sZ, sS, i64_w, i32_w]
           rfl
          refine pure_ (i := 5) (N := some 34) (v := ?_) (a' := ?_) #[bY,bN,bY,bN,bN,bY,bN,bN] rfl rfl (any_of HT_.out (by kernel_rfl)) (fun _ _ _ h => h) (Or.inl ⟨by rfl, ?_⟩) ?_ ?_
          rotate_left
          ·intro w'
           go_simp
           with_reducible rfl
          rotate_left
          ·simp only [Act.put, sTA, sZ, sS, i64_w, i32_w]
           rfl
          refine take_ (i := 1) (N := some 30) (v := ?_) (a' := ?_) #[bY,bY,bY,bN,bN,bY,bN,bN] rfl rfl (take_ofW HT_.out HW_.out (by kernel_rfl)) (fun _ _ _ h => h) (Or.inl ⟨by rfl, ?_⟩) hHeld ?_ ?_
          rotate_left
          ·rintro w' ⟨s0, s1, s2, s3, s4, s5, s6, s7, s8⟩
           go_simp
           with_reducible rfl
          rotate_left
          ·simp only [Act.put, sTA, sZ, sS, i64_w, i32_w]
           rfl
          refine pure_ (i := 3) (N := some 32) (v := ?_) (a' := ?_) #[bY,bY,bY,bY,bN,bY,bN,bN] rfl rfl (any_of HT_.out (by kernel_rfl)) (fun _ _ _ h => h) (Or.inl ⟨by rfl, ?_⟩) ?_ ?_
          rotate_left
          ·intro w'
           go_simp
           with_reducible rfl
          rotate_left
          ·simp only [Act.put, sTA, sZ, sS, i64_w, i32_w]
           rfl
          refine take_ (i := 4) (N := some 33) (v := ?_) (a' := ?_) #[bY,bY,bY,bY,bY,bY,bN,bN] rfl rfl (take_ofW HT_.out HW_.out (by kernel_rfl)) (fun _ _ _ h => h) (Or.inl ⟨by rfl, ?_⟩) hHeld ?_ ?_
          rotate_left
          ·rintro w' ⟨s0, s1, s2, s3, s4, s5, s6, s7, s8⟩
           go_simp
           with_reducible rfl
          rotate_left
          ·simp only [Act.put, sTA, sZ, sS, i64_w, i32_w]
           rfl
          refine take_ (i := 6) (N := some 35) (v := ?_) (a' := ?_) #[bY,bY,bY,bY,bY,bY,bY,bN] rfl rfl (take_ofW HT_.out HW_.out (by kernel_rfl)) (fun _ _ _ h => h) (Or.inl ⟨by rfl, ?_⟩) hHeld ?_ ?_
          rotate_left
          ·rintro w' ⟨s0, s1, s2, s3, s4, s5, s6, s7, s8⟩
           go_simp
           with_reducible rfl
          rotate_left
          ·simp only [Act.put, sTA, sZ, sS, i64_w, i32_w]
           rfl
          refine pure_ (i := 7) (N := some 36) (v := ?_) (a' := ?_) #[bY,bY,bY,bY,bY,bY,bY,bY] rfl rfl (any_of HT_.out (by kernel_rfl)) (fun _ _ _ h => h) (Or.inl ⟨by rfl, ?_⟩) ?_ ?_
          rotate_left
          ·intro w'
           go_simp
           with_reducible rfl
          rotate_left
          ·simp only [Act.put, sTA, sZ, sS, i64_w, i32_w]
           rfl
          refine done_ (done_of HT_.out (by kernel_rfl)) ?_
          try go_wp2
          have n0_ := aK (Kd.R_drew HO_755003.out)
          have n1_ := aK (Kd.R_drew HO_755006.out)
          have n2_ := aK (kD BK740.out)
          have n3_ := aK (kD BK741.out)
          have n4_ := aK (kD BK754.out)
          have n5_ := aK (bD1 HB.out)
          clear HO_755003
          clear HO_755006
          clear BK740
          clear BK741
          clear BK754
          clear HB
          have HO_755003 := n0_
          have HO_755006 := n1_
          have BK740 := n2_
          have BK741 := n3_
          have BK754 := n4_
          have HB := n5_
          clear n0_ n1_ n2_ n3_ n4_ n5_
          have p761 : 0 ≤ (x5_2 : Int) := of_decide_eq_true (by first | (with_reducible assumption) | assumption)
          have q761 : x5_2 < (l0_6.length : Int) := of_decide_eq_true (by first | (with_reducible assumption) | assumption)
          obtain ⟨ad761, e761, hx761_0⟩ := Kd.at_int HR0_6.out x5_2 p761 q761
          have hw761_0 := hx761_0
          obtain rfl : ad760 = ad761 := (by injection e761)
          replace hx761_0 := (HB.out.cell (World.block_lt_of_cell? w _ hx761_0)).trans hx761_0
          replace p761 := eq_true p761
          replace q761 := eq_true q761
          refine start_ (n := 11) (S := fun w' => w'.cell? ⟨gb754, 0, none⟩ = some (.int .i64 t742) ∧ w'.cell? ⟨gb754, 1, none⟩ = some (.int .i64 t743) ∧ w'.cell? ⟨gb754, 2, none⟩ = some (.int .i64 t744) ∧ w'.cell? ⟨gb754, 3, none⟩ = some (.slice Ao13 t745.length co13) ∧ w'.cell? ⟨gb754, 4, none⟩ = some (.int .i64 t748) ∧ w'.cell? ⟨gb754, 5, none⟩ = some (.int .i64 t749) ∧ w'.cell? ⟨gb754, 6, none⟩ = some (u755006) ∧ w'.cell? ⟨gb754, 7, none⟩ = some (.int .i64 t753) ∧ w'.cell? ⟨gb740, 0, none⟩ = some (.int .i64 a0_0) ∧ w'.cell? ⟨gb740, 1, none⟩ = some (.int .i64 a0_1) ∧ w'.cell? ⟨gb740, 2, none⟩ = some (.int .i64 a0_2) ∧ w'.cell? ⟨gb740, 3, none⟩ = some (.slice A0_3 l0_3.length c0_3) ∧ w'.cell? ⟨gb740, 4, none⟩ = some (.int .i64 a0_4) ∧ w'.cell? ⟨gb740, 5, none⟩ = some (.int .i64 a0_5) ∧ w'.cell? ⟨gb740, 6, none⟩ = some (.slice (some ad760) l0_6.length c0_6) ∧ w'.cell? ⟨gb740, 7, none⟩ = some (.int .i64 a0_7) ∧ w'.cell? (ad760.add (x5_2).toNat) = some (.int .i64 (rd l0_6 x5_2))) (ds := [10]) #[bN,bN,bN,bN,bN,bN,bN,bN,bN,bN,bN] (by kernel_rfl) rfl rfl ⟨zQ BK754 0, zQ BK754 1, zQ BK754 2, zQ BK754 3, zQ BK754 4, zQ BK754 5, zQ BK754 6, zQ BK754 7, zQ BK740 0, zQ BK740 1, zQ BK740 2, zQ BK740 3, zQ BK740 4, zQ BK740 5, zQ BK740 6, zQ BK740 7, ((HB.out.cell (World.block_lt_of_cell? w _ hw761_0)).trans hw761_0)⟩ (fun hHeld => ?_); refine with_tabW spec_Leave.tab9 spec_Leave.bits9 (fun HT_ HW_ => ?_)
          generalize w50.drew = w51 at HO_755003 HO_755006 BK740 BK741 BK754 HB hx761_0 hHeld ⊢
          refine pure_ (i := 0) (N := some 37) (v := ?_) (a' := ?_) #[bY,bN,bN,bN,bN,bN,bN,bN,bN,bN,bN] rfl rfl (any_of HT_.out (by kernel_rfl)) (fun _ _ _ h => h) (Or.inl ⟨by rfl, ?_⟩) ?_ ?_
          rotate_left
          ·intro w'
           go_simp
           with_reducible rfl
          rotate_left
          ·simp only [Act.put, sTA, sZ, sS, i64_w, i32_w]
           rfl
          refine pure_ (i := 2) (N := some 39) (v := ?_) (a' := ?_) #[bY,bN,bY,bN,bN,bN,bN,bN,bN,bN,bN] rfl rfl (any_of HT_.out (by kernel_rfl)) (fun _ _ _ h => h) (Or.inl ⟨by rfl, ?_⟩) ?_ ?_
          rotate_left
          ·intro w'
           go_simp
           with_reducible rfl
          rotate_left
          ·simp only [Act.put, sTA, sZ, sS, i64_w, i32_w]
           rfl
          refine pure_ (i := 4) (N := some 41) (v := ?_) (a' := ?_) #[bY,bN,bY,bN,bY,bN,bN,bN,bN,bN,bN] rfl rfl (any_of HT_.out (by kernel_rfl)) (fun _ _ _ h => h) (Or.inl ⟨by rfl, ?_⟩) ?_ ?_
          rotate_left
          ·intro w'
           go_simp
           with_reducible rfl
          rotate_left
          ·simp only [Act.put, sTA, sZ, sS, i64_w, i32_w]
           rfl
          refine take_ (i := 1) (N := some 38) (v := ?_) (a' := ?_) #[bY,bY,bY,bN,bY,bN,bN,bN,bN,bN,bN] rfl rfl (take_ofW HT_.out HW_.out (by kernel_rfl)) (fun _ _ _ h => h) (Or.inl ⟨by rfl, ?_⟩) hHeld ?_ ?_
          rotate_left
          ·rintro w' ⟨s0, s1, s2, s3, s4, s5, s6, s7, s8, s9, s10, s11, s12, s13, s14, s15, s16⟩
           go_simp
           with_reducible rfl
          rotate_left
          ·simp only [Act.put, sTA, sZ, sS, i64_w, i32_w]
           rfl
          refine take_ (i := 3) (N := some 40) (v := ?_) (a' := ?_) #[bY,bY,bY,bY,bY,bN,bN,bN,bN,bN,bN] rfl rfl (take_ofW HT_.out HW_.out (by kernel_rfl)) (fun _ _ _ h => h) (Or.inl ⟨by rfl, ?_⟩) hHeld ?_ ?_
          rotate_left
          ·rintro w' ⟨s0, s1, s2, s3, s4, s5, s6, s7, s8, s9, s10, s11, s12, s13, s14, s15, s16⟩
           go_simp
           with_reducible rfl
          rotate_left
          ·simp only [Act.put, sTA, sZ, sS, i64_w, i32_w]
           rfl
          refine pure_ (i := 5) (N := some 42) (v := ?_) (a' := ?_) #[bY,bY,bY,bY,bY,bY,bN,bN,bN,bN,bN] rfl rfl (any_of HT_.out (by kernel_rfl)) (fun _ _ _ h => h) (Or.inl ⟨by rfl, ?_⟩) ?_ ?_
          rotate_left
          ·intro w'
           go_simp
           with_reducible rfl
          rotate_left
          ·simp only [Act.put, sTA, sZ, sS, i64_w, i32_w]
           rfl
          refine take_ (i := 6) (N := some 43) (v := ?_) (a' := ?_) #[bY,bY,bY,bY,bY,bY,bY,bN,bN,bN,bN] rfl rfl (take_ofW HT_.out HW_.out (by kernel_rfl)) (fun _ _ _ h => h) (Or.inl ⟨by rfl, ?_⟩) hHeld ?_ ?_
          rotate_left
          ·rintro w' ⟨s0, s1, s2, s3, s4, s5, s6, s7, s8, s9, s10, s11, s12, s13, s14, s15, s16⟩
           go_simp
           with_reducible rfl
          rotate_left
          ·simp only [Act.put, sTA, sZ, sS, i64_w, i32_w]
           rfl
          refine one_ (i := 7) (N := some 44) #[bY,bY,bY,bY,bY,bY,bY,bY,bN,bN,bN] rfl rfl (one_of HT_.out (by kernel_rfl)) (by decide) (fun K hK => ?_)
          refine value_ (w1 := ?_) (v := ?_) (by rfl) rfl ?_ ?_
          rotate_left 2
          ·go_simp
           constructor
           ·rfl
           ·rfl
          refine hK.out _ _ ⟨(kC (kA BK754.out _) 0).trans rfl, (kC (kA BK754.out _) 1).trans rfl, (kC (kA BK754.out _) 2).trans rfl, (kC (kA BK754.out _) 3).trans rfl, (kC (kA BK754.out _) 4).trans rfl, (kC (kA BK754.out _) 5).trans rfl, (kC (kA BK754.out _) 6).trans rfl, (kC (kA BK754.out _) 7).trans rfl, (kC (kA BK740.out _) 0).trans rfl, (kC (kA BK740.out _) 1).trans rfl, (kC (kA BK740.out _) 2).trans rfl, (kC (kA BK740.out _) 3).trans rfl, (kC (kA BK740.out _) 4).trans rfl, (kC (kA BK740.out _) 5).trans rfl, (kC (kA BK740.out _) 6).trans rfl, (kC (kA BK740.out _) 7).trans rfl, (World.cell?_alloc_lt _ _ _ (World.block_lt_of_cell? _ _ (((HB.out.cell (World.block_lt_of_cell? w _ hw761_0)).trans hw761_0)))).trans (((HB.out.cell (World.block_lt_of_cell? w _ hw761_0)).trans hw761_0))⟩ (fun hHeld => ?_)
          clear hK K
          refine norm_ (a' := ?_) ?_ ?_
          rotate_left
          ·show Act.put _ (some 44) _ = _
           simp only [Act.put, sTA, sZ, sS, i64_w, i32_w]
           rfl
          refine one_ (i := 8) (N := some 45) #[bY,bY,bY,bY,bY,bY,bY,bY,bY,bN,bN] rfl rfl (one_of HT_.out (by kernel_rfl)) (by decide) (fun K hK => ?_)
          refine Kd.R_append_step (Kd.int .i64) (w0 := w) w.heap.size (by rfl) (.tmp 38) (.tmp 44) 26 3 (.int .i64 0) 8 rfl Tryz.underlying26 info3 rfl (by decide) (by omega) u755006 x755006_2 (rd l0_6 x5_2) [.int .i64 (rd l0_6 x5_2)] (fun k_ => some k_ ≠ (.slice Ao13 t745.length co13 : Value).ownBlock) (fun _ => False) rfl rfl ?aP (fun _ hk => hk.elim) ?aF ?aO ?aB ?aS ?aL ?_
          (case aP => exact rfl)
          (case aB => exact (zH3 HB GE740 GE741 GE754))
          (case aF => exact (fun k_ hk => Kd.fresh' (Kd.R_lt (zA HO_755003)) k_ hk))
          (case aO => exact (zA HO_755006))
          (case aS => exact (bSz (zH3 HB GE740 GE741 GE754)))
          (case aL => have := LMc46.out; omega)
          intro v763 w52 ho hb hg hat
          rw [← Ny762.out] at ho
          have n0_ := aK (Kd.R_after (ok := (fun _ => True)) (by (with_reducible repeat (first | apply Kd.R_alloc | apply Kd.R_drewN | apply Kd.R_drew)); exact Kd.R_mono HO_755003.out (fun _ hk => ⟨trivial, hk⟩)) hg hat)
          have n1_ := aK (blk_grown (g := gb740) (o := .cells #[.int .i64 a0_0, .int .i64 a0_1, .int .i64 a0_2, .slice A0_3 l0_3.length c0_3, .int .i64 a0_4, .int .i64 a0_5, .slice (some ad760) l0_6.length c0_6, .int .i64 a0_7] 38 (0, 0)) (zK BK740) hg (Kd.R_ne HO_755006.out BK740.out (by decide)))
          have n2_ := aK (blk_grown (g := gb741) (o := .cells #[.int .i64 0, .int .i64 0, .int .i64 0, .slice none 0 0, .int .i64 0, .int .i64 0, .slice none 0 0, .int .i64 0] 38 (0, 0)) (zK BK741) hg (Kd.R_ne HO_755006.out BK741.out (by decide)))
          have n3_ := aK (blk_grown (g := gb754) (o := .cells #[.int .i64 t742, .int .i64 t743, .int .i64 t744, .slice Ao13 t745.length co13, .int .i64 t748, .int .i64 t749, u755006, .int .i64 t753] 38 (0, 0)) (zK BK754) hg (Kd.R_ne HO_755006.out BK754.out (by decide)))
          have n4_ := aK (hb)
          have n5_ := aK (ho)
          clear HO_755003
          clear BK740
          clear BK741
          clear BK754
          clear HB
          clear HO_755006
          have HO_755003 := n0_
          have BK740 := n1_
          have BK741 := n2_
          have BK754 := n3_
          have HB := n4_
          have HO764 := n5_
          clear n0_ n1_ n2_ n3_ n4_ n5_
          clear ho hb hg hat
          obtain ⟨Ao53, co53, eo53⟩ := Kd.R_slice HO764.out
          (first | subst eo53 | (injection eo53 with f1_ f2_ f3_; have f4_ := f1_.symm; have f5_ := f3_.symm; clear f1_ f2_ f3_; subst f4_; subst f5_))
          refine hK.out _ _ ⟨zQ BK754 0, zQ BK754 1, zQ BK754 2, zQ BK754 3, zQ BK754 4, zQ BK754 5, zQ BK754 6, zQ BK754 7, zQ BK740 0, zQ BK740 1, zQ BK740 2, zQ BK740 3, zQ BK740 4, zQ BK740 5, zQ BK740 6, zQ BK740 7, ((HB.out.cell (World.block_lt_of_cell? w _ hw761_0)).trans hw761_0)⟩ (fun hHeld => ?_)
          clear hK K
          refine norm_ (a' := ?_) ?_ ?_
          rotate_left
          ·show Act.put _ (some 45) _ = _
           simp only [Act.put, sTA, sZ, sS, i64_w, i32_w]
           rfl
          refine pure_ (i := 9) (N := some 46) (v := ?_) (a' := ?_) #[bY,bY,bY,bY,bY,bY,bY,bY,bY,bY,bN] rfl rfl (any_of HT_.out (by kernel_rfl)) (fun _ _ _ h => h) (Or.inl ⟨by rfl, ?_⟩) ?_ ?_
          rotate_left
          ·intro w'
           go_simp
           with_reducible rfl
          rotate_left
          ·simp only [Act.put, sTA, sZ, sS, i64_w, i32_w]
           rfl
          refine last_ (i := 10) (N := none) #[bY,bY,bY,bY,bY,bY,bY,bY,bY,bY,bY] rfl rfl (one_of HT_.out (by kernel_rfl)) (by decide) (fun K hK => ?_)
          have hs54 : w52.cell? ⟨gb754, 6, none⟩ = some (u755006) := (kC BK754.out 6).trans rfl
          have hfs54 := kF BK754.out 6
          have hns54_0 := NB740_754.out
          have hns54_1 := NB741_754.out
          have hms54_0 := NB754_740.out
          have hms54_1 := NB754_741.out
          refine skip_ (w1 := ?_) (by rfl) rfl ?_ ?_
          rotate_left
          ·go_simp
           rfl
          refine hK.out _ _ ?_
          clear hK K
          refine done_ (done_of HT_.out (by kernel_rfl)) ?_
          try go_wp2
          go_roundg k2
          case measure => have := HJ2.out; have := HK2.out; omega
          case rel => exact ⟨(wrap64 (x5_2 + 1)), (y762), (.slice Ao53 y762.length co53), (by first | rfl | (simp; done) | (simp [*]; done)), H', ⟨by have := HJ2.out; have := HK2.out; omega⟩, ⟨by (with_reducible repeat (first | apply Kd.R_alloc | apply Kd.R_drewN | apply Kd.R_drew)); exact Kd.R_mono (Kd.R_far (p := ⟨gb754, 6, none⟩) (Kd.R_types HO_755003.out BK754.out (by decide)) (fun _ hk => hk.2) (.slice Ao53 y762.length co53)) (fun _ hk => hk.1.2)⟩, ⟨by (with_reducible repeat (first | apply Kd.R_alloc | apply Kd.R_drewN | apply Kd.R_drew)); exact Kd.R_mono (Kd.R_far (p := ⟨gb754, 6, none⟩) (Kd.R_types HO764.out BK754.out (by decide)) (fun _ hk => hk.2) (.slice Ao53 y762.length co53)) (fun _ hk => hk.1)⟩, ⟨by (with_reducible repeat (first | refine kDN ?_ _ | refine kD ?_ | refine kA ?_ _)); refine blk_far ?_ NB740_754.out _; (with_reducible repeat (first | refine kDN ?_ _ | refine kD ?_ | refine kA ?_ _)); exact BK740.out⟩, ⟨by (with_reducible repeat (first | refine kDN ?_ _ | refine kD ?_ | refine kA ?_ _)); refine blk_far ?_ NB741_754.out _; (with_reducible repeat (first | refine kDN ?_ _ | refine kD ?_ | refine kA ?_ _)); exact BK741.out⟩, ⟨by (with_reducible repeat (first | refine kDN ?_ _ | refine kD ?_ | refine kA ?_ _)); refine blk_put (cs := #[.int .i64 t742, .int .i64 t743, .int .i64 t744, .slice Ao13 t745.length co13, .int .i64 t748, .int .i64 t749, u755006, .int .i64 t753]) ?_ 6 _ rfl; (with_reducible repeat (first | refine kDN ?_ _ | refine kD ?_ | refine kA ?_ _)); exact BK754.out⟩, ⟨zH3 HB GE740 GE741 GE754⟩⟩
         ·rw [if_neg c46] at H
          exact absurd H (by simp)
       ·rw [if_neg c40] at H
        exact absurd H (by simp)
      ·rw [if_neg c39] at H
       have c39b0 : decide (x5_2 < (l0_6.length : Int)) = false := decide_eq_false c39
       clear c39
       simp only [Option.some.injEq, Prod.mk.injEq] at H
       obtain ⟨rfl, rfl, rfl, rfl, rfl, rfl, rfl, rfl, rfl⟩ := H
       have hnb55 := NB740_741.out
       have hnc55 := NB741_740.out
       have hnb56 := NB740_754.out
       have hnc56 := NB754_740.out
       obtain ⟨hcz57_0, hcz57_1, hcz57_2, hcz57_3, hcz57_4, hcz57_5, hcz57_6, hcz57_7, hfz57_0, hfz57_1, hfz57_2, hfz57_3, hfz57_4, hfz57_5, hfz57_6, hfz57_7⟩ := cl8 BK740.out
       have hnb58 := NB754_741.out
       have hnc58 := NB741_754.out
       obtain ⟨hcz59_0, hcz59_1, hcz59_2, hcz59_3, hcz59_4, hcz59_5, hcz59_6, hcz59_7, hfz59_0, hfz59_1, hfz59_2, hfz59_3, hfz59_4, hfz59_5, hfz59_6, hfz59_7⟩ := cl8 BK754.out
       obtain ⟨hcz60_0, hcz60_1, hcz60_2, hcz60_3, hcz60_4, hcz60_5, hcz60_6, hcz60_7, hfz60_0, hfz60_1, hfz60_2, hfz60_3, hfz60_4, hfz60_5, hfz60_6, hfz60_7⟩ := cl8 BK741.out
       obtain ⟨Ao61, co61, eo61⟩ := Kd.R_slice HO_755006.out
       subst eo61
       go_wp2
       refine bodyPost_ret (results_ct rfl _ _ gb741 38 #[.int .i64 t742, .int .i64 t743, .int .i64 t744, .slice Ao13 t745.length co13, .int .i64 t748, .int .i64 t749, .slice Ao61 x755006_2.length co61, .int .i64 t753] (0, 0) _ rfl (by (with_reducible repeat (first | refine kDN ?_ _ | refine kD ?_ | refine kA ?_ _)); refine blk_put (cs := #[.int .i64 t742, .int .i64 t743, .int .i64 t744, .slice Ao13 t745.length co13, .int .i64 t748, .int .i64 t749, .slice Ao61 x755006_2.length co61, .int .i64 0]) ?_ 7 _ rfl; (with_reducible repeat (first | refine kDN ?_ _ | refine kD ?_ | refine kA ?_ _)); refine blk_put (cs := #[.int .i64 t742, .int .i64 t743, .int .i64 t744, .slice Ao13 t745.length co13, .int .i64 t748, .int .i64 t749, .slice none 0 0, .int .i64 0]) ?_ 6 _ rfl; (with_reducible repeat (first | refine kDN ?_ _ | refine kD ?_ | refine kA ?_ _)); refine blk_put (cs := #[.int .i64 t742, .int .i64 t743, .int .i64 t744, .slice Ao13 t745.length co13, .int .i64 t748, .int .i64 0, .slice none 0 0, .int .i64 0]) ?_ 5 _ rfl; (with_reducible repeat (first | refine kDN ?_ _ | refine kD ?_ | refine kA ?_ _)); refine blk_put (cs := #[.int .i64 t742, .int .i64 t743, .int .i64 t744, .slice Ao13 t745.length co13, .int .i64 0, .int .i64 0, .slice none 0 0, .int .i64 0]) ?_ 4 _ rfl; (with_reducible repeat (first | refine kDN ?_ _ | refine kD ?_ | refine kA ?_ _)); refine blk_put (cs := #[.int .i64 t742, .int .i64 t743, .int .i64 t744, .slice none 0 0, .int .i64 0, .int .i64 0, .slice none 0 0, .int .i64 0]) ?_ 3 _ rfl; (with_reducible repeat (first | refine kDN ?_ _ | refine kD ?_ | refine kA ?_ _)); refine blk_put (cs := #[.int .i64 t742, .int .i64 t743, .int .i64 0, .slice none 0 0, .int .i64 0, .int .i64 0, .slice none 0 0, .int .i64 0]) ?_ 2 _ rfl; (with_reducible repeat (first | refine kDN ?_ _ | refine kD ?_ | refine kA ?_ _)); refine blk_put (cs := #[.int .i64 t742, .int .i64 0, .int .i64 0, .slice none 0 0, .int .i64 0, .int .i64 0, .slice none 0 0, .int .i64 0]) ?_ 1 _ rfl; (with_reducible repeat (first | refine kDN ?_ _ | refine kD ?_ | refine kA ?_ _)); refine blk_put (cs := #[.int .i64 0, .int .i64 0, .int .i64 0, .slice none 0 0, .int .i64 0, .int .i64 0, .slice none 0 0, .int .i64 0]) ?_ 0 _ rfl; (with_reducible repeat (first | refine kDN ?_ _ | refine kD ?_ | refine kA ?_ _)); exact BK741.out) Tryz.underlying38 rfl (by kernel_rfl)) rfl ?_
       exact ⟨_, _, by first | rfl | (simp [errW_none, errW_some] <;> rfl) | (simp [*, errW_none, errW_some] <;> rfl), by (with_reducible repeat (first | apply Kd.R_alloc | apply Kd.R_drewN | apply Kd.R_drew)); exact Kd.R_mono (zT8 HO_755003 BK741 (.int .i64 t742) (.int .i64 t743) (.int .i64 t744) (.slice Ao13 t745.length co13) (.int .i64 t748) (.int .i64 t749) (.slice Ao61 x755006_2.length co61) (.int .i64 t753)) (fun _ hk => hk.1), by (with_reducible repeat (first | apply Kd.R_alloc | apply Kd.R_drewN | apply Kd.R_drew)); exact Kd.R_mono (zT8 HO_755006 BK741 (.int .i64 t742) (.int .i64 t743) (.int .i64 t744) (.slice Ao13 t745.length co13) (.int .i64 t748) (.int .i64 t749) (.slice Ao61 x755006_2.length co61) (.int .i64 t753)) (fun _ hk => hk.1), by repeat (first | (with_reducible first | exact HB.out | apply bAl | apply bDN | apply bD1 | refine bSt ?_ GE740.out | refine bSt ?_ GE741.out | refine bSt ?_ GE754.out) | exact HB.out)⟩
set_option maxRecDepth 20000 in set_option maxHeartbeats 4000000 in open Nat renaming reduceAdd → p1, reduceSub → p2, reduceMul → p3, reduceDiv → p4, reduceBNe → p5, reduceBEq → p6, reduceEqDiff → p7, reduceLeDiff → p8, reduceLT → p9 in open Int renaming reduceLE → p10, reduceLT → p11, reduceEq → p12 in
theorem slices_Index_int.ctr {k : Nat} {l0 : List Int} {a1 : Int} {r : Int} (h : slices_Index_int.f k l0 a1 = some r) : Ctr Tryz.prog 69 [.pr 1 (l0.map eI), .v (.int .i64 a1)] (.v (.int .i64 r)) := by
  refine Ctr_of tyOk hm Tryz.func69 rfl rfl (by kernel_rfl) (n := 17) (rv := [.tmp 4]) rfl rfl ?_
  simp only [W, List.replicate]
  unfold slices_Index_int.f at h
  try simp only [W, p1, p2, p3, p4, p5, p6, p7, p8, p9, p10, p11, p12]
  refine loopN (fun x : List Int × Int × Int × Int => [.pr 1 (List.map eI x.1), .v (.int .i64 x.2.1), .u, .u, .u, .u, .u, .v (.int .i64 x.2.2.1), .v (.int .i64 x.2.2.2), .u, .u, .u, .u, .u, .u, .u, .u, .u, .u]) (fun x => []) (fun n x => slices_Index_int.l0 n x.1 x.2.1 x.2.2.1 x.2.2.2 = some r) (l0, a1, (l0.length : Int), 0) [] h (by simp only [W, p1, p2, p3, p4, p5, p6, p7, p8, p9, p10, p11, p12] <;> trivial) (by simp only [W, p1, p2, p3, p4, p5, p6, p7, p8, p9, p10, p11, p12] <;> trivial) rfl (fun _ h => by cases h) ?_
  intro n1 ⟨x1, x2, x3, x4⟩ _ h
  simp only [slices_Index_int.l0] at h
  replace h := ifS h; rcases h with ⟨c5, h⟩ | ⟨c5, h⟩
  · replace h := ifN h; obtain ⟨c6, h⟩ := h
    replace h := ifN h; obtain ⟨c7, h⟩ := h
    replace h := ifS h; rcases h with ⟨c8, h⟩ | ⟨c8, h⟩
    · cases h
      try simp only [W, c5, c6, c7, eq_true c8, p1, p2, p3, p4, p5, p6, p7, p8, p9, p10, p11, p12]
    · try simp only [W, c5, c6, c7, c8, p1, p2, p3, p4, p5, p6, p7, p8, p9, p10, p11, p12]
      exact nextN (x1, x2, x3, (wrap64 (x4 + 1))) [] n1 (by omega) h (by simp only [W, p1, p2, p3, p4, p5, p6, p7, p8, p9, p10, p11, p12] <;> trivial) (by simp only [W, p1, p2, p3, p4, p5, p6, p7, p8, p9, p10, p11, p12] <;> trivial) rfl
  · cases h
    try simp only [W, c5, p1, p2, p3, p4, p5, p6, p7, p8, p9, p10, p11, p12]
end Go.Proofs.YtkindoepnganmaaGreat.F
end
