/- Packed by a program of the session (wip/tools/pack.py): what the claim's theorem reaches, of the texts that wip/ and the kit's printer lay. -/
import Derived.Test.YtkindoepnganmaaGreatPkFnExactGuide5
import Derived.Laws.StructEq
section
namespace Go.Proofs.YtkindoepnganmaaGreat.F
open Go.RowKit Go.Proofs.YtkindoepnganmaaGreatW.PrintWords Go.Proofs.YtkindoepnganmaaGreatW.PrintLast Go.Proofs.YtkindoepnganmaaGreatW.PrintMore
set_option linter.unusedVariables false
set_option linter.unusedSimpArgs false
attribute [local go_sem] max2_int min2_int max_two min_two
set_option maxRecDepth 20000 in set_option maxHeartbeats 4000000 in open Nat renaming reduceAdd → p1, reduceSub → p2, reduceMul → p3, reduceDiv → p4, reduceBNe → p5, reduceBEq → p6, reduceEqDiff → p7, reduceLeDiff → p8, reduceLT → p9 in open Int renaming reduceLE → p10, reduceLT → p11, reduceEq → p12 in
theorem spec_l04Has.ctr {a0_0 : Int} {a0_1 : Int} {a0_2 : Int} {a1 : Int} {r : Bool} (h : spec_l04Has.f a0_0 a0_1 a0_2 a1 = some r) : Ctr Tryz.prog 107 [.ag [.v (.int .i64 a0_0), .v (.int .i64 a0_1), .v (.int .i64 a0_2)], .v (.int .i64 a1)] (.v (.bool r)) := by
  refine Ctr_of tyOk hm Tryz.func107 rfl rfl (by kernel_rfl) (n := 13) (rv := [.tmp 4]) rfl rfl ?_
  simp only [W, List.replicate]
  unfold spec_l04Has.f at h
  replace h := bnd h; obtain ⟨t1, A, h⟩ := h
  try simp only [W, p1, p2, p3, p4, p5, p6, p7, p8, p9, p10, p11, p12]
  refine callR (spec_MazeOk.ctr A) ?_
  replace h := ifT h; rcases h with ⟨rfl, h⟩ | ⟨rfl, h⟩
  · replace h := bnd h; obtain ⟨t3, A, h⟩ := h
    try simp only [W, p1, p2, p3, p4, p5, p6, p7, p8, p9, p10, p11, p12]
    refine callR (spec_CountCells.ctr A) ?_
    replace h := bnd h; obtain ⟨t4, A, h⟩ := h
    try simp only [W, p1, p2, p3, p4, p5, p6, p7, p8, p9, p10, p11, p12]
    refine callR (spec_l01In.ctr A) ?_
    cases h
    try simp only [W, p1, p2, p3, p4, p5, p6, p7, p8, p9, p10, p11, p12]
  · cases h
    try simp only [W, p1, p2, p3, p4, p5, p6, p7, p8, p9, p10, p11, p12]
set_option maxRecDepth 20000 in set_option maxHeartbeats 4000000 in open Nat renaming reduceAdd → p1, reduceSub → p2, reduceMul → p3, reduceDiv → p4, reduceBNe → p5, reduceBEq → p6, reduceEqDiff → p7, reduceLeDiff → p8, reduceLT → p9 in open Int renaming reduceLE → p10, reduceLT → p11, reduceEq → p12 in
theorem spec_IsPassage.ctr {a0_0 : Int} {a0_1 : Int} {a0_2 : Int} {a1 : Int} {r : Bool} (h : spec_IsPassage.f a0_0 a0_1 a0_2 a1 = some r) : Ctr Tryz.prog 148 [.ag [.v (.int .i64 a0_0), .v (.int .i64 a0_1), .v (.int .i64 a0_2)], .v (.int .i64 a1)] (.v (.bool r)) := by
  refine Ctr_of tyOk hm Tryz.func148 rfl rfl (by kernel_rfl) (n := 19) (rv := [.tmp 4]) rfl rfl ?_
  simp only [W, List.replicate]
  unfold spec_IsPassage.f at h
  replace h := bnd h; obtain ⟨t1, A, h⟩ := h
  try simp only [W, p1, p2, p3, p4, p5, p6, p7, p8, p9, p10, p11, p12]
  refine callR (spec_MazeOk.ctr A) ?_
  replace h := ifT h; rcases h with ⟨rfl, h⟩ | ⟨rfl, h⟩
  · replace h := bnd h; obtain ⟨t3, A, h⟩ := h
    try simp only [W, p1, p2, p3, p4, p5, p6, p7, p8, p9, p10, p11, p12]
    refine callR (spec_CountGaps.ctr A) ?_
    replace h := bnd h; obtain ⟨t4, A, h⟩ := h
    try simp only [W, p1, p2, p3, p4, p5, p6, p7, p8, p9, p10, p11, p12]
    refine callR (spec_l01In.ctr A) ?_
    replace h := ifT h; rcases h with ⟨rfl, h⟩ | ⟨rfl, h⟩
    · replace h := bnd h; obtain ⟨t6, A, h⟩ := h
      try simp only [W, p1, p2, p3, p4, p5, p6, p7, p8, p9, p10, p11, p12]
      refine callR (spec_l03Bit.ctr A) ?_
      cases h
      try simp only [W, p1, p2, p3, p4, p5, p6, p7, p8, p9, p10, p11, p12]
    · cases h
      try simp only [W, p1, p2, p3, p4, p5, p6, p7, p8, p9, p10, p11, p12]
  · cases h
    try simp only [W, p1, p2, p3, p4, p5, p6, p7, p8, p9, p10, p11, p12]
set_option maxRecDepth 20000 in set_option maxHeartbeats 4000000 in open Nat renaming reduceAdd → p1, reduceSub → p2, reduceMul → p3, reduceDiv → p4, reduceBNe → p5, reduceBEq → p6, reduceEqDiff → p7, reduceLeDiff → p8, reduceLT → p9 in open Int renaming reduceLE → p10, reduceLT → p11, reduceEq → p12 in
theorem spec_Neighbor.ctr {k : Nat} {a0_0 : Int} {a0_1 : Int} {a1 : Int} {a2 : Int} {r : Int} (h : spec_Neighbor.f k a0_0 a0_1 a1 a2 = some r) : Ctr Tryz.prog 150 [.ag [.v (.int .i64 a0_0), .v (.int .i64 a0_1)], .v (.int .i64 a1), .v (.int .i64 a2)] (.v (.int .i64 r)) := by
  refine Ctr_of tyOk hm Tryz.func150 rfl rfl (by kernel_rfl) (n := 57) (rv := [.tmp 6]) rfl rfl ?_
  simp only [W, List.replicate]
  unfold spec_Neighbor.f at h
  replace h := bnd h; obtain ⟨t1, A, h⟩ := h
  try simp only [W, p1, p2, p3, p4, p5, p6, p7, p8, p9, p10, p11, p12]
  refine callR (spec_CountCells.ctr A) ?_
  replace h := bnd h; obtain ⟨t2, A, h⟩ := h
  try simp only [W, p1, p2, p3, p4, p5, p6, p7, p8, p9, p10, p11, p12]
  refine callR (spec_l01In.ctr A) ?_
  replace h := ifT h; rcases h with ⟨rfl, h⟩ | ⟨rfl, h⟩
  · replace h := ifM h; obtain ⟨c4, h⟩ := h
    replace h := ifS h; rcases h with ⟨c5, h⟩ | ⟨c5, h⟩
    · rcases k with _ | m6; · cases h
      rw [spec_Neighbor.j0] at h
      replace h := bnd h; obtain ⟨t7, A, h⟩ := h
      try simp only [W, c4, eq_true c5, p1, p2, p3, p4, p5, p6, p7, p8, p9, p10, p11, p12]
      refine callR (spec_l01In.ctr A) ?_
      replace h := ifT h; rcases h with ⟨rfl, h⟩ | ⟨rfl, h⟩
      · replace h := bnd h; obtain ⟨t9, A, h⟩ := h
        try simp only [W, c4, eq_true c5, p1, p2, p3, p4, p5, p6, p7, p8, p9, p10, p11, p12]
        refine callR (spec_l01In.ctr A) ?_
        replace h := ifT h; rcases h with ⟨rfl, h⟩ | ⟨rfl, h⟩
        · cases h
          try simp only [W, c4, eq_true c5, p1, p2, p3, p4, p5, p6, p7, p8, p9, p10, p11, p12]
        · cases h
          try simp only [W, c4, eq_true c5, p1, p2, p3, p4, p5, p6, p7, p8, p9, p10, p11, p12]
      · cases h
        try simp only [W, c4, eq_true c5, p1, p2, p3, p4, p5, p6, p7, p8, p9, p10, p11, p12]
    · replace h := ifS h; rcases h with ⟨c11, h⟩ | ⟨c11, h⟩
      · rcases k with _ | m12; · cases h
        rw [spec_Neighbor.j0] at h
        replace h := bnd h; obtain ⟨t13, A, h⟩ := h
        try simp only [W, c4, c5, eq_true c11, p1, p2, p3, p4, p5, p6, p7, p8, p9, p10, p11, p12]
        refine callR (spec_l01In.ctr A) ?_
        replace h := ifT h; rcases h with ⟨rfl, h⟩ | ⟨rfl, h⟩
        · replace h := bnd h; obtain ⟨t15, A, h⟩ := h
          try simp only [W, c4, c5, eq_true c11, p1, p2, p3, p4, p5, p6, p7, p8, p9, p10, p11, p12]
          refine callR (spec_l01In.ctr A) ?_
          replace h := ifT h; rcases h with ⟨rfl, h⟩ | ⟨rfl, h⟩
          · cases h
            try simp only [W, c4, c5, eq_true c11, p1, p2, p3, p4, p5, p6, p7, p8, p9, p10, p11, p12]
          · cases h
            try simp only [W, c4, c5, eq_true c11, p1, p2, p3, p4, p5, p6, p7, p8, p9, p10, p11, p12]
        · cases h
          try simp only [W, c4, c5, eq_true c11, p1, p2, p3, p4, p5, p6, p7, p8, p9, p10, p11, p12]
      · replace h := ifS h; rcases h with ⟨c17, h⟩ | ⟨c17, h⟩
        · rcases k with _ | m18; · cases h
          rw [spec_Neighbor.j0] at h
          replace h := bnd h; obtain ⟨t19, A, h⟩ := h
          try simp only [W, c4, c5, c11, eq_true c17, p1, p2, p3, p4, p5, p6, p7, p8, p9, p10, p11, p12]
          refine callR (spec_l01In.ctr A) ?_
          replace h := ifT h; rcases h with ⟨rfl, h⟩ | ⟨rfl, h⟩
          · replace h := bnd h; obtain ⟨t21, A, h⟩ := h
            try simp only [W, c4, c5, c11, eq_true c17, p1, p2, p3, p4, p5, p6, p7, p8, p9, p10, p11, p12]
            refine callR (spec_l01In.ctr A) ?_
            replace h := ifT h; rcases h with ⟨rfl, h⟩ | ⟨rfl, h⟩
            · cases h
              try simp only [W, c4, c5, c11, eq_true c17, p1, p2, p3, p4, p5, p6, p7, p8, p9, p10, p11, p12]
            · cases h
              try simp only [W, c4, c5, c11, eq_true c17, p1, p2, p3, p4, p5, p6, p7, p8, p9, p10, p11, p12]
          · cases h
            try simp only [W, c4, c5, c11, eq_true c17, p1, p2, p3, p4, p5, p6, p7, p8, p9, p10, p11, p12]
        · replace h := ifS h; rcases h with ⟨c23, h⟩ | ⟨c23, h⟩
          · rcases k with _ | m24; · cases h
            rw [spec_Neighbor.j0] at h
            replace h := bnd h; obtain ⟨t25, A, h⟩ := h
            try simp only [W, c4, c5, c11, c17, eq_true c23, p1, p2, p3, p4, p5, p6, p7, p8, p9, p10, p11, p12]
            refine callR (spec_l01In.ctr A) ?_
            replace h := ifT h; rcases h with ⟨rfl, h⟩ | ⟨rfl, h⟩
            · replace h := bnd h; obtain ⟨t27, A, h⟩ := h
              try simp only [W, c4, c5, c11, c17, eq_true c23, p1, p2, p3, p4, p5, p6, p7, p8, p9, p10, p11, p12]
              refine callR (spec_l01In.ctr A) ?_
              replace h := ifT h; rcases h with ⟨rfl, h⟩ | ⟨rfl, h⟩
              · cases h
                try simp only [W, c4, c5, c11, c17, eq_true c23, p1, p2, p3, p4, p5, p6, p7, p8, p9, p10, p11, p12]
              · cases h
                try simp only [W, c4, c5, c11, c17, eq_true c23, p1, p2, p3, p4, p5, p6, p7, p8, p9, p10, p11, p12]
            · cases h
              try simp only [W, c4, c5, c11, c17, eq_true c23, p1, p2, p3, p4, p5, p6, p7, p8, p9, p10, p11, p12]
          · cases h
            try simp only [W, c4, c5, c11, c17, c23, p1, p2, p3, p4, p5, p6, p7, p8, p9, p10, p11, p12]
  · cases h
    try simp only [W, p1, p2, p3, p4, p5, p6, p7, p8, p9, p10, p11, p12]
set_option maxRecDepth 20000 in set_option maxHeartbeats 4000000 in open Nat renaming reduceAdd → p1, reduceSub → p2, reduceMul → p3, reduceDiv → p4, reduceBNe → p5, reduceBEq → p6, reduceEqDiff → p7, reduceLeDiff → p8, reduceLT → p9 in open Int renaming reduceLE → p10, reduceLT → p11, reduceEq → p12 in
theorem spec_GapAt.ctr {k : Nat} {a0_0 : Int} {a0_1 : Int} {a1 : Int} {a2 : Int} {r : Int} (h : spec_GapAt.f k a0_0 a0_1 a1 a2 = some r) : Ctr Tryz.prog 149 [.ag [.v (.int .i64 a0_0), .v (.int .i64 a0_1)], .v (.int .i64 a1), .v (.int .i64 a2)] (.v (.int .i64 r)) := by
  refine Ctr_of tyOk hm Tryz.func149 rfl rfl (by kernel_rfl) (n := 38) (rv := [.tmp 6]) rfl rfl ?_
  simp only [W, List.replicate]
  unfold spec_GapAt.f at h
  replace h := bnd h; obtain ⟨t1, A, h⟩ := h
  try simp only [W, p1, p2, p3, p4, p5, p6, p7, p8, p9, p10, p11, p12]
  refine callR (spec_Neighbor.ctr A) ?_
  replace h := ifS h; rcases h with ⟨c2, h⟩ | ⟨c2, h⟩
  · cases h
    try simp only [W, c2, p1, p2, p3, p4, p5, p6, p7, p8, p9, p10, p11, p12]
  · replace h := ifS h; rcases h with ⟨c3, h⟩ | ⟨c3, h⟩
    · replace h := ifM h; obtain ⟨c4, h⟩ := h
      cases h
      try simp only [W, c2, eq_true c3, c4, p1, p2, p3, p4, p5, p6, p7, p8, p9, p10, p11, p12]
    · replace h := ifS h; rcases h with ⟨c5, h⟩ | ⟨c5, h⟩
      · replace h := ifM h; obtain ⟨c6, h⟩ := h
        cases h
        try simp only [W, c2, c3, eq_true c5, c6, p1, p2, p3, p4, p5, p6, p7, p8, p9, p10, p11, p12]
      · replace h := bnd h; obtain ⟨t7, A, h⟩ := h
        try simp only [W, c2, c3, c5, p1, p2, p3, p4, p5, p6, p7, p8, p9, p10, p11, p12]
        refine callR (spec_l02East.ctr A) ?_
        cases h
        try simp only [W, c2, c3, c5, p1, p2, p3, p4, p5, p6, p7, p8, p9, p10, p11, p12]
set_option maxRecDepth 20000 in set_option maxHeartbeats 4000000 in open Nat renaming reduceAdd → p1, reduceSub → p2, reduceMul → p3, reduceDiv → p4, reduceBNe → p5, reduceBEq → p6, reduceEqDiff → p7, reduceLeDiff → p8, reduceLT → p9 in open Int renaming reduceLE → p10, reduceLT → p11, reduceEq → p12 in
theorem spec_Step.ctr {k : Nat} {a0_0 : Int} {a0_1 : Int} {a0_2 : Int} {a1 : Int} {a2 : Int} {r : Int} (h : spec_Step.f k a0_0 a0_1 a0_2 a1 a2 = some r) : Ctr Tryz.prog 116 [.ag [.v (.int .i64 a0_0), .v (.int .i64 a0_1), .v (.int .i64 a0_2)], .v (.int .i64 a1), .v (.int .i64 a2)] (.v (.int .i64 r)) := by
  refine Ctr_of tyOk hm Tryz.func116 rfl rfl (by kernel_rfl) (n := 22) (rv := [.tmp 6]) rfl rfl ?_
  simp only [W, List.replicate]
  unfold spec_Step.f at h
  replace h := bnd h; obtain ⟨t1, A, h⟩ := h
  try simp only [W, p1, p2, p3, p4, p5, p6, p7, p8, p9, p10, p11, p12]
  refine callR (spec_MazeOk.ctr A) ?_
  replace h := ifT h; rcases h with ⟨rfl, h⟩ | ⟨rfl, h⟩
  · replace h := bnd h; obtain ⟨t3, A, h⟩ := h
    try simp only [W, p1, p2, p3, p4, p5, p6, p7, p8, p9, p10, p11, p12]
    refine callR (spec_GapAt.ctr A) ?_
    replace h := bnd h; obtain ⟨t4, A, h⟩ := h
    try simp only [W, p1, p2, p3, p4, p5, p6, p7, p8, p9, p10, p11, p12]
    refine callR (spec_IsPassage.ctr A) ?_
    replace h := ifT h; rcases h with ⟨rfl, h⟩ | ⟨rfl, h⟩
    · replace h := bnd h; obtain ⟨t6, A, h⟩ := h
      try simp only [W, p1, p2, p3, p4, p5, p6, p7, p8, p9, p10, p11, p12]
      refine callR (spec_Neighbor.ctr A) ?_
      cases h
      try simp only [W, p1, p2, p3, p4, p5, p6, p7, p8, p9, p10, p11, p12]
    · cases h
      try simp only [W, p1, p2, p3, p4, p5, p6, p7, p8, p9, p10, p11, p12]
  · cases h
    try simp only [W, p1, p2, p3, p4, p5, p6, p7, p8, p9, p10, p11, p12]
end Go.Proofs.YtkindoepnganmaaGreat.F
end

section
namespace Go.Proofs.YtkindoepnganmaaGreat.F
open Go.RowKit Go.Proofs.YtkindoepnganmaaGreatW.PrintWords Go.Proofs.YtkindoepnganmaaGreatW.PrintLast Go.Proofs.YtkindoepnganmaaGreatW.PrintMore
set_option linter.unusedVariables false
set_option linter.unusedSimpArgs false
attribute [local go_sem] max2_int min2_int max_two min_two
set_option maxRecDepth 20000 in set_option maxHeartbeats 4000000 in open Nat renaming reduceAdd → p1, reduceSub → p2, reduceMul → p3, reduceDiv → p4, reduceBNe → p5, reduceBEq → p6, reduceEqDiff → p7, reduceLeDiff → p8, reduceLT → p9 in open Int renaming reduceLE → p10, reduceLT → p11, reduceEq → p12 in
theorem spec_l04Distances.ctr {k : Nat} {a0_0 : Int} {a0_1 : Int} {a0_2 : Int} {a1 : Int} {r : List Int} (h : spec_l04Distances.f k a0_0 a0_1 a0_2 a1 = some r) : Ctr Tryz.prog 108 [.ag [.v (.int .i64 a0_0), .v (.int .i64 a0_1), .v (.int .i64 a0_2)], .v (.int .i64 a1)] (.ow 3 1 (r.map eI)) := by
  refine Ctr_of tyOk hm Tryz.func108 rfl rfl (by kernel_rfl) (n := 69) (rv := [.tmp 4]) rfl rfl ?_
  simp only [W, List.replicate]
  unfold spec_l04Distances.f at h
  replace h := bnd h; obtain ⟨t1, A, h⟩ := h
  try simp only [W, p1, p2, p3, p4, p5, p6, p7, p8, p9, p10, p11, p12]
  refine callR (spec_CountCells.ctr A) ?_
  replace h := ifN h; obtain ⟨c2, h⟩ := h
  replace h := ifN h; obtain ⟨c3, h⟩ := h
  try simp only [W, c2, c3, p1, p2, p3, p4, p5, p6, p7, p8, p9, p10, p11, p12]
  refine loopN (fun x : Int × List Int × Int × Int × Int × Int => [.u, .v (.int .i64 x.1), .bp 32 0, .u, .u, .lo 224, .v (.int .i64 x.2.2.1), .u, .u, .u, .u, .bp 32 0, .u, .u, .u, .u, .u, .u, .u, .u, .u, .u, .u, .u, .u, .u, .u, .u, .u, .u, .u, .u, .u, .u, .u, .u, .u, .u, .u, .u, .u, .u, .u, .u, .u, .u, .u, .u, .u, .u, .u, .u, .u, .u, .u, .u, .u, .u, .u, .u, .u, .u, .u, .u, .u, .u, .u, .u, .u, .u, .u]) (fun x => [(32, .box 34 [.v (.int .i64 x.2.2.2.1), .v (.int .i64 x.2.2.2.2.1), .v (.int .i64 x.2.2.2.2.2)]), (224, .row 3 1 (List.map eI x.2.1))]) (fun n x => spec_l04Distances.l0 n x.1 x.2.1 x.2.2.1 x.2.2.2.1 x.2.2.2.2.1 x.2.2.2.2.2 = some r) (a1, (List.replicate (t1 : Int).toNat 0), 0, a0_0, a0_1, a0_2) [] h (by simp only [W, p1, p2, p3, p4, p5, p6, p7, p8, p9, p10, p11, p12] <;> trivial) (by simp only [W, p1, p2, p3, p4, p5, p6, p7, p8, p9, p10, p11, p12] <;> trivial) rfl (fun _ h => by cases h) ?_
  intro n1 ⟨x4, x5, x6, x7, x8, x9⟩ _ h
  simp only [spec_l04Distances.l0] at h
  replace h := ifS h; rcases h with ⟨c10, h⟩ | ⟨c10, h⟩
  · replace h := ifN h; obtain ⟨c11, h⟩ := h
    try simp only [W, c10, c11, p1, p2, p3, p4, p5, p6, p7, p8, p9, p10, p11, p12]
    exact nextN (x4, (x5.set (x6 : Int).toNat (-1)), (wrap64 (x6 + 1)), x7, x8, x9) [] n1 (by omega) h (by simp only [W, p1, p2, p3, p4, p5, p6, p7, p8, p9, p10, p11, p12] <;> trivial) (by simp only [W, p1, p2, p3, p4, p5, p6, p7, p8, p9, p10, p11, p12] <;> trivial) rfl
  · replace h := ifN h; obtain ⟨c12, h⟩ := h
    replace h := ifN h; obtain ⟨c13, h⟩ := h
    try simp only [W, c10, c12, c13, p1, p2, p3, p4, p5, p6, p7, p8, p9, p10, p11, p12]
    refine loopN (fun x : List Int × List Int × Int × Int × Int × Int => [.u, .u, .bp 32 0, .u, .u, .lo 224, .u, .lo 448, .v (.int .i64 x.2.2.1), .u, .u, .bp 32 0, .u, .u, .u, .u, .u, .u, .u, .u, .u, .u, .u, .u, .u, .u, .u, .u, .u, .u, .u, .u, .u, .u, .u, .u, .u, .u, .u, .u, .u, .u, .u, .u, .u, .u, .u, .u, .u, .u, .u, .u, .u, .u, .u, .u, .u, .u, .u, .u, .u, .u, .u, .u, .u, .u, .u, .u, .u, .u, .u]) (fun x => [(32, .box 34 [.v (.int .i64 x.2.2.2.1), .v (.int .i64 x.2.2.2.2.1), .v (.int .i64 x.2.2.2.2.2)]), (224, .row 3 1 (List.map eI x.1)), (448, .row 3 1 (List.map eI x.2.1))]) (fun n x => spec_l04Distances.l1 n x.1 x.2.1 x.2.2.1 x.2.2.2.1 x.2.2.2.2.1 x.2.2.2.2.2 = some r) ((x5.set (x4 : Int).toNat 0), (([x4] : List Int)), 0, x7, x8, x9) [] h (by simp only [W, p1, p2, p3, p4, p5, p6, p7, p8, p9, p10, p11, p12] <;> trivial) (by simp only [W, p1, p2, p3, p4, p5, p6, p7, p8, p9, p10, p11, p12] <;> trivial) rfl (fun _ h => by cases h) ?_
    intro n2 ⟨x14, x15, x16, x17, x18, x19⟩ _ h
    simp only [spec_l04Distances.l1] at h
    replace h := ifS h; rcases h with ⟨c20, h⟩ | ⟨c20, h⟩
    · try simp only [W, c20, p1, p2, p3, p4, p5, p6, p7, p8, p9, p10, p11, p12]
      refine loopN (fun x : List Int × List Int × Int × Int × Int × Int × Int => [.u, .u, .bp 32 0, .u, .u, .lo 224, .u, .lo 448, .v (.int .i64 x.2.2.1), .v (.int .i64 x.2.2.2.1), .u, .bp 32 0, .u, .u, .u, .u, .u, .u, .u, .u, .u, .u, .u, .u, .u, .u, .u, .u, .u, .u, .u, .u, .u, .u, .u, .u, .u, .u, .u, .u, .u, .u, .u, .u, .u, .u, .u, .u, .u, .u, .u, .u, .u, .u, .u, .u, .u, .u, .u, .u, .u, .u, .u, .u, .u, .u, .u, .u, .u, .u, .u]) (fun x => [(32, .box 34 [.v (.int .i64 x.2.2.2.2.1), .v (.int .i64 x.2.2.2.2.2.1), .v (.int .i64 x.2.2.2.2.2.2)]), (224, .row 3 1 (List.map eI x.1)), (448, .row 3 1 (List.map eI x.2.1))]) (fun n x => spec_l04Distances.l2 n x.1 x.2.1 x.2.2.1 x.2.2.2.1 x.2.2.2.2.1 x.2.2.2.2.2.1 x.2.2.2.2.2.2 = some r) (x14, x15, x16, 0, x17, x18, x19) [] h (by simp only [W, p1, p2, p3, p4, p5, p6, p7, p8, p9, p10, p11, p12] <;> trivial) (by simp only [W, p1, p2, p3, p4, p5, p6, p7, p8, p9, p10, p11, p12] <;> trivial) rfl (fun _ h => by cases h) ?_
      intro n3 ⟨x21, x22, x23, x24, x25, x26, x27⟩ _ h
      simp only [spec_l04Distances.l2] at h
      replace h := ifS h; rcases h with ⟨c28, h⟩ | ⟨c28, h⟩
      · replace h := ifN h; obtain ⟨c29, h⟩ := h
        replace h := ifN h; obtain ⟨c30, h⟩ := h
        replace h := bnd h; obtain ⟨t31, A, h⟩ := h
        try simp only [W, c28, c29, c30, p1, p2, p3, p4, p5, p6, p7, p8, p9, p10, p11, p12]
        refine callR (spec_Step.ctr A) ?_
        replace h := ifS h; rcases h with ⟨c32, h⟩ | ⟨c32, h⟩
        · replace h := ifN h; obtain ⟨c33, h⟩ := h
          replace h := ifN h; obtain ⟨c34, h⟩ := h
          replace h := ifS h; rcases h with ⟨c35, h⟩ | ⟨c35, h⟩
          · replace h := ifN h; obtain ⟨c36, h⟩ := h
            replace h := ifN h; obtain ⟨c37, h⟩ := h
            replace h := ifN h; obtain ⟨c38, h⟩ := h
            try simp only [W, c28, c29, c30, c32, c33, c34, c35, c36, c37, c38, p1, p2, p3, p4, p5, p6, p7, p8, p9, p10, p11, p12]
            exact nextN ((x21.set (t31 : Int).toNat (wrap64 ((rd x21 (rd x22 x23)) + 1))), (x22 ++ [t31]), x23, (wrap64 (x24 + 1)), x25, x26, x27) [(448, 1104)] n3 (by omega) h (by simp only [W, p1, p2, p3, p4, p5, p6, p7, p8, p9, p10, p11, p12] <;> trivial) (by simp only [W, p1, p2, p3, p4, p5, p6, p7, p8, p9, p10, p11, p12] <;> trivial) rfl
          · try simp only [W, c28, c29, c30, c32, c33, c34, c35, p1, p2, p3, p4, p5, p6, p7, p8, p9, p10, p11, p12]
            exact nextN (x21, x22, x23, (wrap64 (x24 + 1)), x25, x26, x27) [] n3 (by omega) h (by simp only [W, p1, p2, p3, p4, p5, p6, p7, p8, p9, p10, p11, p12] <;> trivial) (by simp only [W, p1, p2, p3, p4, p5, p6, p7, p8, p9, p10, p11, p12] <;> trivial) rfl
        · try simp only [W, c28, c29, c30, c32, p1, p2, p3, p4, p5, p6, p7, p8, p9, p10, p11, p12]
          exact nextN (x21, x22, x23, (wrap64 (x24 + 1)), x25, x26, x27) [] n3 (by omega) h (by simp only [W, p1, p2, p3, p4, p5, p6, p7, p8, p9, p10, p11, p12] <;> trivial) (by simp only [W, p1, p2, p3, p4, p5, p6, p7, p8, p9, p10, p11, p12] <;> trivial) rfl
      · try simp only [W, c28, p1, p2, p3, p4, p5, p6, p7, p8, p9, p10, p11, p12]
        exact nextN (x21, x22, (wrap64 (x23 + 1)), x25, x26, x27) [] n3 (by omega) h (by simp only [W, p1, p2, p3, p4, p5, p6, p7, p8, p9, p10, p11, p12] <;> trivial) (by simp only [W, p1, p2, p3, p4, p5, p6, p7, p8, p9, p10, p11, p12] <;> trivial) rfl
    · cases h
      try simp only [W, c20, p1, p2, p3, p4, p5, p6, p7, p8, p9, p10, p11, p12]
set_option maxRecDepth 20000 in set_option maxHeartbeats 4000000 in open Nat renaming reduceAdd → p1, reduceSub → p2, reduceMul → p3, reduceDiv → p4, reduceBNe → p5, reduceBEq → p6, reduceEqDiff → p7, reduceLeDiff → p8, reduceLT → p9 in open Int renaming reduceLE → p10, reduceLT → p11, reduceEq → p12 in
theorem spec_Reached.ctr {k : Nat} {a0_0 : Int} {a0_1 : Int} {a0_2 : Int} {a1 : Int} {r : List Int} (h : spec_Reached.f k a0_0 a0_1 a0_2 a1 = some r) : Ctr Tryz.prog 153 [.ag [.v (.int .i64 a0_0), .v (.int .i64 a0_1), .v (.int .i64 a0_2)], .v (.int .i64 a1)] (.ow 3 1 (r.map eI)) := by
  refine Ctr_of tyOk hm Tryz.func153 rfl rfl (by kernel_rfl) (n := 31) (rv := [.tmp 4]) rfl rfl ?_
  simp only [W, List.replicate]
  unfold spec_Reached.f at h
  rw [Option.bind_some] at h
  replace h := bnd h; obtain ⟨t1, A, h⟩ := h
  try simp only [W, p1, p2, p3, p4, p5, p6, p7, p8, p9, p10, p11, p12]
  refine callR (spec_l04Has.ctr A) ?_
  replace h := ifT h; rcases h with ⟨rfl, h⟩ | ⟨rfl, h⟩
  · replace h := bnd h; obtain ⟨t3, A, h⟩ := h
    try simp only [W, p1, p2, p3, p4, p5, p6, p7, p8, p9, p10, p11, p12]
    refine callR (spec_l04Distances.ctr A) ?_
    try simp only [W, p1, p2, p3, p4, p5, p6, p7, p8, p9, p10, p11, p12]
    refine loopN (fun x : List Int × List Int × Int × Int × Int × Int => [.u, .u, .bp 32 0, .u, .u, .lo 128, .lo 256, .v (.int .i64 x.2.2.1), .u, .u, .u, .u, .u, .u, .u, .u, .u, .u, .u, .u, .u, .u, .u, .u, .u, .u, .u, .u, .u, .u, .u, .u, .u]) (fun x => [(32, .box 34 [.v (.int .i64 x.2.2.2.1), .v (.int .i64 x.2.2.2.2.1), .v (.int .i64 x.2.2.2.2.2)]), (128, .row 3 1 (List.map eI x.1)), (256, .row 3 1 (List.map eI x.2.1))]) (fun n x => spec_Reached.l0 n x.1 x.2.1 x.2.2.1 = some r) ((([] : List Int) : List Int), t3, 0, a0_0, a0_1, a0_2) [] h (by simp only [W, p1, p2, p3, p4, p5, p6, p7, p8, p9, p10, p11, p12] <;> trivial) (by simp only [W, p1, p2, p3, p4, p5, p6, p7, p8, p9, p10, p11, p12] <;> trivial) rfl (fun _ h => by cases h) ?_
    intro n1 ⟨x4, x5, x6, y7, y8, y9⟩ _ h
    simp only [spec_Reached.l0] at h
    replace h := ifS h; rcases h with ⟨c10, h⟩ | ⟨c10, h⟩
    · replace h := ifN h; obtain ⟨c11, h⟩ := h
      replace h := ifS h; rcases h with ⟨c12, h⟩ | ⟨c12, h⟩
      · replace h := ifN h; obtain ⟨c13, h⟩ := h
        try simp only [W, c10, c11, c12, c13, p1, p2, p3, p4, p5, p6, p7, p8, p9, p10, p11, p12]
        exact nextN ((x4 ++ [x6]), x5, (wrap64 (x6 + 1)), y7, y8, y9) [(128, 496)] n1 (by omega) h (by simp only [W, p1, p2, p3, p4, p5, p6, p7, p8, p9, p10, p11, p12] <;> trivial) (by simp only [W, p1, p2, p3, p4, p5, p6, p7, p8, p9, p10, p11, p12] <;> trivial) rfl
      · try simp only [W, c10, c11, c12, p1, p2, p3, p4, p5, p6, p7, p8, p9, p10, p11, p12]
        exact nextN (x4, x5, (wrap64 (x6 + 1)), y7, y8, y9) [] n1 (by omega) h (by simp only [W, p1, p2, p3, p4, p5, p6, p7, p8, p9, p10, p11, p12] <;> trivial) (by simp only [W, p1, p2, p3, p4, p5, p6, p7, p8, p9, p10, p11, p12] <;> trivial) rfl
    · cases h
      try simp only [W, c10, p1, p2, p3, p4, p5, p6, p7, p8, p9, p10, p11, p12]
  · cases h
    try simp only [W, p1, p2, p3, p4, p5, p6, p7, p8, p9, p10, p11, p12]
end Go.Proofs.YtkindoepnganmaaGreat.F
end

section
namespace Go.Proofs.YtkindoepnganmaaGreat.F
open Go.RowKit Go.Proofs.YtkindoepnganmaaGreatW.PrintWords Go.Proofs.YtkindoepnganmaaGreatW.PrintLast Go.Proofs.YtkindoepnganmaaGreatW.PrintMore
set_option linter.unusedVariables false
set_option linter.unusedSimpArgs false
attribute [local go_sem] max2_int min2_int max_two min_two
set_option maxRecDepth 20000 in set_option maxHeartbeats 4000000 in open Nat renaming reduceAdd → p1, reduceSub → p2, reduceMul → p3, reduceDiv → p4, reduceBNe → p5, reduceBEq → p6, reduceEqDiff → p7, reduceLeDiff → p8, reduceLT → p9 in open Int renaming reduceLE → p10, reduceLT → p11, reduceEq → p12 in
theorem spec_WayBetween.ctr {k : Nat} {a0_0 : Int} {a0_1 : Int} {a0_2 : Int} {a1 : Int} {a2 : Int} {r1 : List Int} {r2 : Bool} (h : spec_WayBetween.f k a0_0 a0_1 a0_2 a1 a2 = some (r1, r2)) : Ctr Tryz.prog 81 [.ag [.v (.int .i64 a0_0), .v (.int .i64 a0_1), .v (.int .i64 a0_2)], .v (.int .i64 a1), .v (.int .i64 a2)] (.tu [.ow 3 1 (r1.map eI), .v (.bool r2)]) := by
  refine Ctr_of tyOk hm Tryz.func81 rfl rfl (by kernel_rfl) (n := 61) (rv := [.tmp 6, .tmp 7]) rfl rfl ?_
  simp only [W, List.replicate]
  unfold spec_WayBetween.f at h
  rw [Option.bind_some] at h
  replace h := bnd h; obtain ⟨t1, A, h⟩ := h
  try simp only [W, p1, p2, p3, p4, p5, p6, p7, p8, p9, p10, p11, p12]
  refine callR (spec_l04Has.ctr A) ?_
  replace h := ifT h; rcases h with ⟨rfl, h⟩ | ⟨rfl, h⟩
  · replace h := bnd h; obtain ⟨t3, A, h⟩ := h
    try simp only [W, p1, p2, p3, p4, p5, p6, p7, p8, p9, p10, p11, p12]
    refine callR (spec_l04Has.ctr A) ?_
    rcases k with _ | m4; · cases h
    rw [spec_WayBetween.j0] at h
    replace h := ifT h; rcases h with ⟨c5, h⟩ | ⟨c5, h⟩
    · cases h
      try simp only [W, c5, p1, p2, p3, p4, p5, p6, p7, p8, p9, p10, p11, p12]
    · replace h := bnd h; obtain ⟨t6, A, h⟩ := h
      try simp only [W, c5, p1, p2, p3, p4, p5, p6, p7, p8, p9, p10, p11, p12]
      refine callR (spec_l04Distances.ctr A) ?_
      replace h := ifN h; obtain ⟨c7, h⟩ := h
      replace h := ifN h; obtain ⟨c8, h⟩ := h
      replace h := ifS h; rcases h with ⟨c9, h⟩ | ⟨c9, h⟩
      · cases h
        try simp only [W, c5, c7, c8, c9, p1, p2, p3, p4, p5, p6, p7, p8, p9, p10, p11, p12]
      · try simp only [W, c5, c7, c8, c9, p1, p2, p3, p4, p5, p6, p7, p8, p9, p10, p11, p12]
        refine loopN (fun x : Int × Int × List Int × List Int × Int × Int × Int => [.u, .v (.int .i64 x.1), .v (.int .i64 x.2.1), .bp 48 0, .u, .u, .u, .u, .lo 192, .lo 416, .u, .u, .u, .u, .u, .u, .u, .u, .u, .u, .u, .u, .u, .u, .u, .u, .u, .u, .u, .u, .u, .u, .u, .u, .u, .u, .u, .u, .u, .u, .u, .u, .u, .u, .u, .u, .u, .u, .u, .u, .u, .u, .u, .u, .u, .u, .u, .u, .u, .u, .u, .u, .u, .u]) (fun x => [(48, .box 34 [.v (.int .i64 x.2.2.2.2.1), .v (.int .i64 x.2.2.2.2.2.1), .v (.int .i64 x.2.2.2.2.2.2)]), (192, .row 3 1 (List.map eI x.2.2.1)), (416, .row 3 1 (List.map eI x.2.2.2.1))]) (fun n x => spec_WayBetween.l0 n x.1 x.2.1 x.2.2.1 x.2.2.2.1 x.2.2.2.2.1 x.2.2.2.2.2.1 x.2.2.2.2.2.2 = some (r1, r2)) (a1, a2, (([] : List Int) : List Int), t6, a0_0, a0_1, a0_2) [] h (by simp only [W, p1, p2, p3, p4, p5, p6, p7, p8, p9, p10, p11, p12] <;> trivial) (by simp only [W, p1, p2, p3, p4, p5, p6, p7, p8, p9, p10, p11, p12] <;> trivial) rfl (fun _ h => by cases h) ?_
        intro n1 ⟨x10, x11, x12, x13, x14, x15, x16⟩ _ h
        simp only [spec_WayBetween.l0] at h
        replace h := ifS h; rcases h with ⟨c17, h⟩ | ⟨c17, h⟩
        · cases h
          try simp only [W, eq_true c17, p1, p2, p3, p4, p5, p6, p7, p8, p9, p10, p11, p12]
        · try simp only [W, c17, p1, p2, p3, p4, p5, p6, p7, p8, p9, p10, p11, p12]
          refine loopN (fun x : Int × Int × List Int × List Int × Int × Int × Int × Int => [.u, .v (.int .i64 x.1), .v (.int .i64 x.2.1), .bp 48 0, .u, .u, .u, .u, .lo 192, .lo 416, .v (.int .i64 x.2.2.2.2.1), .u, .u, .u, .u, .u, .u, .u, .u, .u, .u, .u, .u, .u, .u, .u, .u, .u, .u, .u, .u, .u, .u, .u, .u, .u, .u, .u, .u, .u, .u, .u, .u, .u, .u, .u, .u, .u, .u, .u, .u, .u, .u, .u, .u, .u, .u, .u, .u, .u, .u, .u, .u, .u]) (fun x => [(48, .box 34 [.v (.int .i64 x.2.2.2.2.2.1), .v (.int .i64 x.2.2.2.2.2.2.1), .v (.int .i64 x.2.2.2.2.2.2.2)]), (192, .row 3 1 (List.map eI x.2.2.1)), (416, .row 3 1 (List.map eI x.2.2.2.1))]) (fun n x => spec_WayBetween.l1 n x.1 x.2.1 x.2.2.1 x.2.2.2.1 x.2.2.2.2.1 x.2.2.2.2.2.1 x.2.2.2.2.2.2.1 x.2.2.2.2.2.2.2 = some (r1, r2)) (x10, x11, x12, x13, 0, x14, x15, x16) [] h (by simp only [W, p1, p2, p3, p4, p5, p6, p7, p8, p9, p10, p11, p12] <;> trivial) (by simp only [W, p1, p2, p3, p4, p5, p6, p7, p8, p9, p10, p11, p12] <;> trivial) rfl (fun _ h => by cases h) ?_
          intro n2 ⟨x18, x19, x20, x21, x22, x23, x24, x25⟩ _ h
          simp only [spec_WayBetween.l1] at h
          replace h := ifS h; rcases h with ⟨c26, h⟩ | ⟨c26, h⟩
          · replace h := bnd h; obtain ⟨t27, A, h⟩ := h
            try simp only [W, c26, p1, p2, p3, p4, p5, p6, p7, p8, p9, p10, p11, p12]
            refine callR (spec_Step.ctr A) ?_
            replace h := ifS h; rcases h with ⟨c28, h⟩ | ⟨c28, h⟩
            · replace h := ifN h; obtain ⟨c29, h⟩ := h
              replace h := ifN h; obtain ⟨c30, h⟩ := h
              replace h := ifN h; obtain ⟨c31, h⟩ := h
              replace h := ifN h; obtain ⟨c32, h⟩ := h
              replace h := ifS h; rcases h with ⟨c33, h⟩ | ⟨c33, h⟩
              · replace h := ifN h; obtain ⟨c34, h⟩ := h
                try simp only [W, c26, c28, c29, c30, c31, c32, eq_true c33, c34, p1, p2, p3, p4, p5, p6, p7, p8, p9, p10, p11, p12]
                exact nextN (t27, x19, (x20 ++ [x22]), x21, x23, x24, x25) [(192, 976)] n2 (by omega) h (by simp only [W, p1, p2, p3, p4, p5, p6, p7, p8, p9, p10, p11, p12] <;> trivial) (by simp only [W, p1, p2, p3, p4, p5, p6, p7, p8, p9, p10, p11, p12] <;> trivial) rfl
              · try simp only [W, c26, c28, c29, c30, c31, c32, c33, p1, p2, p3, p4, p5, p6, p7, p8, p9, p10, p11, p12]
                exact nextN (x18, x19, x20, x21, (wrap64 (x22 + 1)), x23, x24, x25) [] n2 (by omega) h (by simp only [W, p1, p2, p3, p4, p5, p6, p7, p8, p9, p10, p11, p12] <;> trivial) (by simp only [W, p1, p2, p3, p4, p5, p6, p7, p8, p9, p10, p11, p12] <;> trivial) rfl
            · try simp only [W, c26, c28, p1, p2, p3, p4, p5, p6, p7, p8, p9, p10, p11, p12]
              exact nextN (x18, x19, x20, x21, (wrap64 (x22 + 1)), x23, x24, x25) [] n2 (by omega) h (by simp only [W, p1, p2, p3, p4, p5, p6, p7, p8, p9, p10, p11, p12] <;> trivial) (by simp only [W, p1, p2, p3, p4, p5, p6, p7, p8, p9, p10, p11, p12] <;> trivial) rfl
          · try simp only [W, c26, p1, p2, p3, p4, p5, p6, p7, p8, p9, p10, p11, p12]
            exact nextN (x18, x19, x20, x21, x23, x24, x25) [] n2 (by omega) h (by simp only [W, p1, p2, p3, p4, p5, p6, p7, p8, p9, p10, p11, p12] <;> trivial) (by simp only [W, p1, p2, p3, p4, p5, p6, p7, p8, p9, p10, p11, p12] <;> trivial) rfl
  · rcases k with _ | m35; · cases h
    rw [spec_WayBetween.j0] at h
    rw [if_pos rfl] at h
    cases h
    try simp only [W, p1, p2, p3, p4, p5, p6, p7, p8, p9, p10, p11, p12]
end Go.Proofs.YtkindoepnganmaaGreat.F
end

section
namespace Go.Proofs.YtkindoepnganmaaGreat.F
open Go.RowKit Go.Proofs.YtkindoepnganmaaGreatW.PrintWords Go.Proofs.YtkindoepnganmaaGreatW.PrintLast Go.Proofs.YtkindoepnganmaaGreatW.PrintMore
set_option linter.unusedVariables false
set_option linter.unusedSimpArgs false
attribute [local go_sem] max2_int min2_int max_two min_two
set_option maxRecDepth 20000 in set_option maxHeartbeats 4000000 in open Nat renaming reduceAdd → p1, reduceSub → p2, reduceMul → p3, reduceDiv → p4, reduceBNe → p5, reduceBEq → p6, reduceEqDiff → p7, reduceLeDiff → p8, reduceLT → p9 in open Int renaming reduceLE → p10, reduceLT → p11, reduceEq → p12 in
theorem spec_CountParts.ctr {k : Nat} {a0_0 : Int} {a0_1 : Int} {a0_2 : Int} {r : Int} (h : spec_CountParts.f k a0_0 a0_1 a0_2 = some r) : Ctr Tryz.prog 119 [.ag [.v (.int .i64 a0_0), .v (.int .i64 a0_1), .v (.int .i64 a0_2)]] (.v (.int .i64 r)) := by
  refine Ctr_of tyOk hm Tryz.func119 rfl rfl (by kernel_rfl) (n := 25) (rv := [.tmp 2]) rfl rfl ?_
  simp only [W, List.replicate]
  unfold spec_CountParts.f at h
  try simp only [W, p1, p2, p3, p4, p5, p6, p7, p8, p9, p10, p11, p12]
  refine loopN (fun x : Int × Int × Int × Int × Int => [.u, .bp 16 0, .u, .v (.int .i64 x.1), .v (.int .i64 x.2.1), .u, .u, .u, .u, .u, .u, .u, .u, .u, .u, .u, .u, .u, .u, .u, .u, .u, .u, .u, .u, .u]) (fun x => [(16, .box 34 [.v (.int .i64 x.2.2.1), .v (.int .i64 x.2.2.2.1), .v (.int .i64 x.2.2.2.2)])]) (fun n x => spec_CountParts.l0 n x.1 x.2.1 x.2.2.1 x.2.2.2.1 x.2.2.2.2 = some r) (0, 0, a0_0, a0_1, a0_2) [] h (by simp only [W, p1, p2, p3, p4, p5, p6, p7, p8, p9, p10, p11, p12] <;> trivial) (by simp only [W, p1, p2, p3, p4, p5, p6, p7, p8, p9, p10, p11, p12] <;> trivial) rfl (fun _ h => by cases h) ?_
  intro n1 ⟨x1, x2, x3, x4, x5⟩ _ h
  simp only [spec_CountParts.l0] at h
  replace h := bnd h; obtain ⟨t6, A, h⟩ := h
  try simp only [W, p1, p2, p3, p4, p5, p6, p7, p8, p9, p10, p11, p12]
  refine callR (spec_CountCells.ctr A) ?_
  replace h := ifS h; rcases h with ⟨c7, h⟩ | ⟨c7, h⟩
  · replace h := bnd h; obtain ⟨t8, A, h⟩ := h
    try simp only [W, c7, p1, p2, p3, p4, p5, p6, p7, p8, p9, p10, p11, p12]
    refine callR (spec_MazeOk.ctr A) ?_
    rcases n1 with _ | m9; · cases h
    rw [spec_CountParts.j1] at h
    replace h := ifT h; rcases h with ⟨rfl, h⟩ | ⟨rfl, h⟩
    · replace h := bnd h; obtain ⟨t11, A, h⟩ := h
      try simp only [W, c7, p1, p2, p3, p4, p5, p6, p7, p8, p9, p10, p11, p12]
      refine callR (spec_Reached.ctr A) ?_
      replace h := ifN h; obtain ⟨c12, h⟩ := h
      replace h := ifS h; rcases h with ⟨c13, h⟩ | ⟨c13, h⟩
      · try simp only [W, c7, c12, eq_true c13, p1, p2, p3, p4, p5, p6, p7, p8, p9, p10, p11, p12]
        exact nextN ((wrap64 (x1 + 1)), (wrap64 (x2 + 1)), x3, x4, x5) [] m9 (by omega) h (by simp only [W, p1, p2, p3, p4, p5, p6, p7, p8, p9, p10, p11, p12] <;> trivial) (by simp only [W, p1, p2, p3, p4, p5, p6, p7, p8, p9, p10, p11, p12] <;> trivial) rfl
      · try simp only [W, c7, c12, c13, p1, p2, p3, p4, p5, p6, p7, p8, p9, p10, p11, p12]
        exact nextN (x1, (wrap64 (x2 + 1)), x3, x4, x5) [] m9 (by omega) h (by simp only [W, p1, p2, p3, p4, p5, p6, p7, p8, p9, p10, p11, p12] <;> trivial) (by simp only [W, p1, p2, p3, p4, p5, p6, p7, p8, p9, p10, p11, p12] <;> trivial) rfl
    · cases h
      try simp only [W, c7, p1, p2, p3, p4, p5, p6, p7, p8, p9, p10, p11, p12]
  · rcases n1 with _ | m14; · cases h
    rw [spec_CountParts.j1] at h
    rw [if_neg (by decide)] at h
    cases h
    try simp only [W, c7, p1, p2, p3, p4, p5, p6, p7, p8, p9, p10, p11, p12]
set_option maxRecDepth 20000 in set_option maxHeartbeats 4000000 in open Nat renaming reduceAdd → p1, reduceSub → p2, reduceMul → p3, reduceDiv → p4, reduceBNe → p5, reduceBEq → p6, reduceEqDiff → p7, reduceLeDiff → p8, reduceLT → p9 in open Int renaming reduceLE → p10, reduceLT → p11, reduceEq → p12 in
theorem spec_IsConnected.ctr {k : Nat} {a0_0 : Int} {a0_1 : Int} {a0_2 : Int} {r : Bool} (h : spec_IsConnected.f k a0_0 a0_1 a0_2 = some r) : Ctr Tryz.prog 75 [.ag [.v (.int .i64 a0_0), .v (.int .i64 a0_1), .v (.int .i64 a0_2)]] (.v (.bool r)) := by
  refine Ctr_of tyOk hm Tryz.func75 rfl rfl (by kernel_rfl) (n := 5) (rv := [.tmp 2]) rfl rfl ?_
  simp only [W, List.replicate]
  unfold spec_IsConnected.f at h
  replace h := bnd h; obtain ⟨t1, A, h⟩ := h
  try simp only [W, p1, p2, p3, p4, p5, p6, p7, p8, p9, p10, p11, p12]
  refine callR (spec_CountParts.ctr A) ?_
  cases h
  try simp only [W, p1, p2, p3, p4, p5, p6, p7, p8, p9, p10, p11, p12]
set_option maxRecDepth 20000 in set_option maxHeartbeats 4000000 in open Nat renaming reduceAdd → p1, reduceSub → p2, reduceMul → p3, reduceDiv → p4, reduceBNe → p5, reduceBEq → p6, reduceEqDiff → p7, reduceLeDiff → p8, reduceLT → p9 in open Int renaming reduceLE → p10, reduceLT → p11, reduceEq → p12 in
theorem spec_l07In.ctr {k : Nat} {l0 : List Int} {a1 : Int} {r : Bool} (h : spec_l07In.f k l0 a1 = some r) : Ctr Tryz.prog 68 [.pr 1 (l0.map eI), .v (.int .i64 a1)] (.v (.bool r)) := by
  refine Ctr_of tyOk hm Tryz.func68 rfl rfl (by kernel_rfl) (n := 16) (rv := [.tmp 4]) rfl rfl ?_
  simp only [W, List.replicate]
  unfold spec_l07In.f at h
  try simp only [W, p1, p2, p3, p4, p5, p6, p7, p8, p9, p10, p11, p12]
  refine loopN (fun x : List Int × Int × Int => [.pr 1 (List.map eI x.1), .v (.int .i64 x.2.1), .u, .u, .u, .v (.int .i64 x.2.2), .u, .u, .u, .u, .u, .u, .u, .u, .u, .u, .u, .u]) (fun x => []) (fun n x => spec_l07In.l0 n x.1 x.2.1 x.2.2 = some r) (l0, a1, 0) [] h (by simp only [W, p1, p2, p3, p4, p5, p6, p7, p8, p9, p10, p11, p12] <;> trivial) (by simp only [W, p1, p2, p3, p4, p5, p6, p7, p8, p9, p10, p11, p12] <;> trivial) rfl (fun _ h => by cases h) ?_
  intro n1 ⟨x1, x2, x3⟩ _ h
  simp only [spec_l07In.l0] at h
  replace h := ifS h; rcases h with ⟨c4, h⟩ | ⟨c4, h⟩
  · replace h := ifN h; obtain ⟨c5, h⟩ := h
    replace h := ifS h; rcases h with ⟨c6, h⟩ | ⟨c6, h⟩
    · cases h
      try simp only [W, c4, c5, eq_true c6, p1, p2, p3, p4, p5, p6, p7, p8, p9, p10, p11, p12]
    · try simp only [W, c4, c5, c6, p1, p2, p3, p4, p5, p6, p7, p8, p9, p10, p11, p12]
      exact nextN (x1, x2, (wrap64 (x3 + 1))) [] n1 (by omega) h (by simp only [W, p1, p2, p3, p4, p5, p6, p7, p8, p9, p10, p11, p12] <;> trivial) (by simp only [W, p1, p2, p3, p4, p5, p6, p7, p8, p9, p10, p11, p12] <;> trivial) rfl
  · cases h
    try simp only [W, c4, p1, p2, p3, p4, p5, p6, p7, p8, p9, p10, p11, p12]
set_option maxRecDepth 20000 in set_option maxHeartbeats 4000000 in open Nat renaming reduceAdd → p1, reduceSub → p2, reduceMul → p3, reduceDiv → p4, reduceBNe → p5, reduceBEq → p6, reduceEqDiff → p7, reduceLeDiff → p8, reduceLT → p9 in open Int renaming reduceLE → p10, reduceLT → p11, reduceEq → p12 in
theorem spec_CrowdOk.ctr {k : Nat} {a0_0 : Int} {a0_1 : Int} {a0_2 : Int} {l1 : List Int} {r : Bool} (h : spec_CrowdOk.f k a0_0 a0_1 a0_2 l1 = some r) : Ctr Tryz.prog 109 [.ag [.v (.int .i64 a0_0), .v (.int .i64 a0_1), .v (.int .i64 a0_2)], .pr 1 (l1.map eI)] (.v (.bool r)) := by
  refine Ctr_of tyOk hm Tryz.func109 rfl rfl (by kernel_rfl) (n := 34) (rv := [.tmp 4]) rfl rfl ?_
  simp only [W, List.replicate]
  unfold spec_CrowdOk.f at h
  try simp only [W, p1, p2, p3, p4, p5, p6, p7, p8, p9, p10, p11, p12]
  refine loopN (fun x : List Int × Int × Int × Int × Int => [.u, .pr 1 (List.map eI x.1), .bp 32 0, .u, .u, .v (.int .i64 x.2.1), .u, .u, .u, .u, .u, .u, .u, .u, .u, .u, .u, .u, .u, .u, .u, .u, .u, .u, .u, .u, .u, .u, .u, .u, .u, .u, .u, .u, .u, .u]) (fun x => [(32, .box 34 [.v (.int .i64 x.2.2.1), .v (.int .i64 x.2.2.2.1), .v (.int .i64 x.2.2.2.2)])]) (fun n x => spec_CrowdOk.l0 n x.1 x.2.1 x.2.2.1 x.2.2.2.1 x.2.2.2.2 = some r) (l1, 0, a0_0, a0_1, a0_2) [] h (by simp only [W, p1, p2, p3, p4, p5, p6, p7, p8, p9, p10, p11, p12] <;> trivial) (by simp only [W, p1, p2, p3, p4, p5, p6, p7, p8, p9, p10, p11, p12] <;> trivial) rfl (fun _ h => by cases h) ?_
  intro n1 ⟨x1, x2, x3, x4, x5⟩ _ h
  simp only [spec_CrowdOk.l0] at h
  replace h := ifS h; rcases h with ⟨c6, h⟩ | ⟨c6, h⟩
  · replace h := ifN h; obtain ⟨c7, h⟩ := h
    replace h := bnd h; obtain ⟨t8, A, h⟩ := h
    try simp only [W, c6, c7, p1, p2, p3, p4, p5, p6, p7, p8, p9, p10, p11, p12]
    refine callR (spec_l04Has.ctr A) ?_
    replace h := ifT h; rcases h with ⟨rfl, h⟩ | ⟨rfl, h⟩
    · replace h := ifN h; obtain ⟨c10, h⟩ := h
      replace h := bnd h; obtain ⟨t11, A, h⟩ := h
      try simp only [W, c6, c7, c10, p1, p2, p3, p4, p5, p6, p7, p8, p9, p10, p11, p12]
      refine callR (spec_l07In.ctr A) ?_
      replace h := ifT h; rcases h with ⟨rfl, h⟩ | ⟨rfl, h⟩
      · cases h
        try simp only [W, c6, c7, c10, p1, p2, p3, p4, p5, p6, p7, p8, p9, p10, p11, p12]
      · try simp only [W, c6, c7, c10, p1, p2, p3, p4, p5, p6, p7, p8, p9, p10, p11, p12]
        exact nextN (x1, (wrap64 (x2 + 1)), x3, x4, x5) [] n1 (by omega) h (by simp only [W, p1, p2, p3, p4, p5, p6, p7, p8, p9, p10, p11, p12] <;> trivial) (by simp only [W, p1, p2, p3, p4, p5, p6, p7, p8, p9, p10, p11, p12] <;> trivial) rfl
    · cases h
      try simp only [W, c6, c7, p1, p2, p3, p4, p5, p6, p7, p8, p9, p10, p11, p12]
  · replace h := bnd h; obtain ⟨t13, A, h⟩ := h
    try simp only [W, c6, p1, p2, p3, p4, p5, p6, p7, p8, p9, p10, p11, p12]
    refine callR (spec_MazeOk.ctr A) ?_
    replace h := ifT h; rcases h with ⟨rfl, h⟩ | ⟨rfl, h⟩
    · cases h
      try simp only [W, c6, p1, p2, p3, p4, p5, p6, p7, p8, p9, p10, p11, p12]
    · cases h
      try simp only [W, c6, p1, p2, p3, p4, p5, p6, p7, p8, p9, p10, p11, p12]
end Go.Proofs.YtkindoepnganmaaGreat.F
end

section
namespace Go.Proofs.YtkindoepnganmaaGreat.F
open Go.RowKit Go.Proofs.YtkindoepnganmaaGreatW.PrintWords Go.Proofs.YtkindoepnganmaaGreatW.PrintLast Go.Proofs.YtkindoepnganmaaGreatW.PrintMore
set_option linter.unusedVariables false
set_option linter.unusedSimpArgs false
attribute [local go_sem] max2_int min2_int max_two min_two
set_option maxRecDepth 20000 in set_option maxHeartbeats 4000000 in open Nat renaming reduceAdd → p1, reduceSub → p2, reduceMul → p3, reduceDiv → p4, reduceBNe → p5, reduceBEq → p6, reduceEqDiff → p7, reduceLeDiff → p8, reduceLT → p9 in open Int renaming reduceLE → p10, reduceLT → p11, reduceEq → p12 in
theorem spec_GardenOk.ctr {k : Nat} {a0_0 : Int} {a0_1 : Int} {a0_2 : Int} {l0_3 : List Int} {a0_4 : Int} {a0_5 : Int} {l0_6 : List Int} {a0_7 : Int} {r : Bool} (h : spec_GardenOk.f k a0_0 a0_1 a0_2 l0_3 a0_4 a0_5 l0_6 a0_7 = some r) : Ctr Tryz.prog 59 [.ag [.v (.int .i64 a0_0), .v (.int .i64 a0_1), .v (.int .i64 a0_2), .pr 1 (l0_3.map eI), .v (.int .i64 a0_4), .v (.int .i64 a0_5), .pr 1 (l0_6.map eI), .v (.int .i64 a0_7)]] (.v (.bool r)) := by
  refine Ctr_of tyOk hm Tryz.func59 rfl rfl (by kernel_rfl) (n := 32) (rv := [.tmp 2]) rfl rfl ?_
  simp only [W, List.replicate]
  unfold spec_GardenOk.f at h
  replace h := bnd h; obtain ⟨t1, A, h⟩ := h
  try simp only [W, p1, p2, p3, p4, p5, p6, p7, p8, p9, p10, p11, p12]
  refine callR (spec_HedgeOk.ctr A) ?_
  replace h := ifT h; rcases h with ⟨rfl, h⟩ | ⟨rfl, h⟩
  · replace h := bnd h; obtain ⟨t3, A, h⟩ := h
    try simp only [W, p1, p2, p3, p4, p5, p6, p7, p8, p9, p10, p11, p12]
    refine callR (spec_l04Has.ctr A) ?_
    replace h := ifT h; rcases h with ⟨rfl, h⟩ | ⟨rfl, h⟩
    · replace h := bnd h; obtain ⟨t5, A, h⟩ := h
      try simp only [W, p1, p2, p3, p4, p5, p6, p7, p8, p9, p10, p11, p12]
      refine callR (spec_CrowdOk.ctr A) ?_
      replace h := ifT h; rcases h with ⟨rfl, h⟩ | ⟨rfl, h⟩
      · replace h := bnd h; obtain ⟨t7, A, h⟩ := h
        try simp only [W, p1, p2, p3, p4, p5, p6, p7, p8, p9, p10, p11, p12]
        refine callR (spec_l01In.ctr A) ?_
        replace h := ifT h; rcases h with ⟨rfl, h⟩ | ⟨rfl, h⟩
        · replace h := bnd h; obtain ⟨⟨t9_1, t9_2, t9_3⟩, A, h⟩ := h
          dsimp only at h
          try simp only [W, p1, p2, p3, p4, p5, p6, p7, p8, p9, p10, p11, p12]
          refine callR (spec_OpenNow.ctr A) ?_
          replace h := bnd h; obtain ⟨t10, A, h⟩ := h
          try simp only [W, p1, p2, p3, p4, p5, p6, p7, p8, p9, p10, p11, p12]
          refine callR (spec_IsConnected.ctr A) ?_
          cases h
          try simp only [W, p1, p2, p3, p4, p5, p6, p7, p8, p9, p10, p11, p12]
        · cases h
          try simp only [W, p1, p2, p3, p4, p5, p6, p7, p8, p9, p10, p11, p12]
      · cases h
        try simp only [W, p1, p2, p3, p4, p5, p6, p7, p8, p9, p10, p11, p12]
    · cases h
      try simp only [W, p1, p2, p3, p4, p5, p6, p7, p8, p9, p10, p11, p12]
  · cases h
    try simp only [W, p1, p2, p3, p4, p5, p6, p7, p8, p9, p10, p11, p12]
set_option maxHeartbeats 8000000 in
set_option maxRecDepth 100000 in
theorem spec_l28Copy.calls (A0 : Option Addr) (c0 : Nat) (l0 : List Int) (r : List Int) (w : World) (hr0 : Kd.C (Kd.int .i64) w A0 l0.length l0) (hc0 : l0.length ≤ c0) (h : spec_l28Copy.f l0 = some r) :
  Calls Tryz.prog 111 #[.slice A0 l0.length c0] w fun e w' => ∃ v0_ : Value, e = .returned (v0_) ∧ Kd.R (Kd.int .i64) 3 w' w.heap.size (fun _ => True) v0_ r ∧ Below w.heap.size w w' := by
 have HR0 := aK hr0
 have HC0 := aK hc0
 clear hr0 hc0
 have HB := aK (Below.refl w.heap.size w)
 have H : ((some (([] : List Int) : List Int)).bind fun y219 => (if y219.length + l0.length < 17592186044416 then (some (y219 ++ l0)) else (none))) = some r := h
 clear h
 obtain ⟨y219, hy219⟩ : ∃ y_ : List Int, y_ = (([] : List Int)) := ⟨_, rfl⟩
 replace H : (if y219.length + l0.length < 17592186044416 then (some (y219 ++ l0)) else (none)) = some r := by first | (rw [hy219]; with_reducible exact H) | (have H2_ := (Option.bind_some _ _).symm.trans H; rw [hy219]; with_reducible exact H2_) | (have H2_ := (Option.bind_some _ _).symm.trans H; with_reducible exact H2_) | with_reducible exact H | (rw [hy219]; exact H) | exact H
 have Ny219 := aK hy219
 clear hy219
 by_cases c2 : y219.length + l0.length < 17592186044416
 ·rw [if_pos c2] at H
  have LMc2 := aK c2
  clear c2
  obtain ⟨y222, hy222⟩ : ∃ y_ : List Int, y_ = (y219 ++ l0) := ⟨_, rfl⟩
  replace H : (some y222) = some r := by first | (rw [hy222]; with_reducible exact H) | (have H2_ := (Option.bind_some _ _).symm.trans H; rw [hy222]; with_reducible exact H2_) | (have H2_ := (Option.bind_some _ _).symm.trans H; with_reducible exact H2_) | with_reducible exact H | (rw [hy222]; exact H) | exact H
  have Ny222 := aK hy222
  clear hy222
  obtain rfl := Option.some.inj H
  go_enter Tryz.func111, Tryz.ntmps111
  go_wp2_with (first | ((with_reducible refine gate_dst (N := 3) rfl ?_); refine Kd.R_lit (Kd.int .i64) _ 3 ?hg (N := 3) ?hd (xs := ([] : List Int)) (inner := []) (ok := fun _ => True) (okp := fun _ => True) ?hr ?hp (fun _ hk => hk) trivial (Below.refl _ _) (Nat.le_refl _) (by simp) ?_; (case hd => rfl); (case hg => rfl); (case hr => first | (go_simp; done) | (go_simp; rfl)); (case hp => exact (Reps.none _ _)); intro v220 w3 ho4 hb hg_ hnew_; clear hg_ hnew_; (first | rw [← Ny219.out] at ho4 | (simp only [Int.reduceToNat] at ho4; rw [← Ny219.out] at ho4)); have HO221 := aK (Kd.R_lower ho4 (bSz (zH0 HB))); replace HB := aK (bSp (zH0 HB) hb); clear hb ho4) | ((with_reducible refine gate_builtin (b := .append) (xs := #[.tmp 3, .tmp 4]) rfl ?_); at_builtin; refine Kd.R_append_rows (Kd.int .i64) (w0 := w) w.heap.size rfl (.tmp 3) (.tmp 4) 26 3 (.int .i64 0) 8 rfl Tryz.underlying26 info3 rfl (by decide) (by omega) v220 y219 l0 _ _ _ (fun _ => True) (fun _ => False) rfl rfl ?aO ?aR (fun _ _ h => h) (fun _ h => h.elim) ?aF ?aB ?aS ?aL ?_; (case aR => repeat (first | exact (Kd.C_below HR0.out HB.out) | (with_reducible refine Kd.C_alloc ?_ _) | (with_reducible refine Kd.C_drewN ?_ _) | (with_reducible refine Kd.C_drew ?_))); (case aB => exact (zH0 HB)); (case aF => exact (fun _ _ => trivial)); (case aO => exact (zA HO221)); (case aS => exact (bSz (zH0 HB))); (case aL => have := LMc2.out; omega); intro v223 w5 ho hb hg hat; rw [← Ny222.out] at ho; have n0_ := aK (hb); have n1_ := aK (ho); clear HB; clear HO221; have HB := n0_; have HO224 := n1_; clear n0_ n1_; clear ho hb hg hat))
  go_ret
  exact ⟨_, by first | rfl | (simp [errW_none, errW_some] <;> rfl) | (simp [*, errW_none, errW_some] <;> rfl), by (with_reducible repeat (first | apply Kd.R_alloc | apply Kd.R_drewN | apply Kd.R_drew)); exact HO224.out, by repeat (first | (with_reducible first | exact HB.out | apply bAl | apply bDN | apply bD1) | exact HB.out)⟩
 ·rw [if_neg c2] at H
  exact absurd H (by simp)
theorem spec_l28Copy.ctr {l0 : List Int} {r : List Int} (h : spec_l28Copy.f l0 = some r) : Ctr Tryz.prog 111 [.pr 1 (l0.map eI)] (.ow 3 1 (r.map eI)) := by
  refine ⟨enters_of Tryz.func111 rfl rfl, fun w ys hys => ?_⟩
  simp only [RepL, Rep] at hys
  obtain ⟨_, _, rfl, q1, rfl⟩ := hys
  obtain ⟨_, _, rfl, hr1, hc1⟩ := C_of_at E_eI q1
  refine (spec_l28Copy.calls _ _ _ _ w hr1 hc1 h).mono ?_
  rintro _ _ ⟨v, rfl, hv, hb⟩
  exact ⟨v, (bk v).toList, rfl, by simp only [RepR]; exact ⟨row_of_R E_eI hv, E_eI.row _, E_eI.pos, trivial⟩, by cases bk v <;> simp, hb⟩
def spec_l30Copy.T1 : Bool × List (List Nat × List Nat) := (true, [([], []), ([0], [0]), ([], []), ([2], [2]), ([3], [3]), ([], []), ([5], [5]), ([1, 4, 6], [1, 4, 6]), ([7, 4, 0, 1, 2, 3, 4, 5, 6, 7], [7])])
def spec_l30Copy.B1 : List Nat := [0, 1, 0, 4, 12, 0, 32, 127, 255]
theorem spec_l30Copy.tab1 : rtab .any (opsOf Tryz.f110 1) = spec_l30Copy.T1 := by kernel_rfl
theorem spec_l30Copy.bits1 : waitsOk spec_l30Copy.T1.2 spec_l30Copy.B1 = true := by kernel_rfl
set_option maxHeartbeats 8000000 in
set_option maxRecDepth 100000 in
theorem spec_l30Copy.calls (a0_0 : Int) (a0_1 : Int) (a0_2 : Int) (A0_3 : Option Addr) (c0_3 : Nat) (l0_3 : List Int) (a0_4 : Int) (r1 : Int) (r2 : Int) (r3 : Int) (r4 : List Int) (r5 : Int) (w : World) (hr0_3 : Kd.C (Kd.int .i64) w A0_3 l0_3.length l0_3) (hc0_3 : l0_3.length ≤ c0_3) (h : spec_l30Copy.f a0_0 a0_1 a0_2 l0_3 a0_4 = some (r1, r2, r3, r4, r5)) :
  Calls Tryz.prog 110 #[.agg #[.int .i64 a0_0, .int .i64 a0_1, .int .i64 a0_2, .slice A0_3 l0_3.length c0_3, .int .i64 a0_4]] w fun e w' => ∃ v3_ : Value, e = .returned (.agg #[.int .i64 r1, .int .i64 r2, .int .i64 r3, v3_, .int .i64 r5]) ∧ Kd.R (Kd.int .i64) 3 w' w.heap.size (fun _ => True) v3_ r4 ∧ Below w.heap.size w w' := by
 have hu36 := Tryz.underlying36
 have hu34 := Tryz.underlying34
 have HR0_3 := aK hr0_3
 have HC0_3 := aK hc0_3
 clear hr0_3 hc0_3
 have HB := aK (Below.refl w.heap.size w)
 have H : ((spec_l28Copy.f l0_3).bind fun t227 => (some (a0_0, a0_1, a0_2, t227, a0_4))) = some (r1, r2, r3, r4, r5) := h
 clear h
 replace H := Option.bind_eq_some_iff.mp H
 obtain ⟨t227, A20, H⟩ := H
 replace H : (some (a0_0, a0_1, a0_2, t227, a0_4)) = some (r1, r2, r3, r4, r5) := H
 have A2 := aK A20
 clear A20
 simp only [Option.some.injEq, Prod.mk.injEq] at H
 obtain ⟨rfl, rfl, rfl, rfl, rfl⟩ := H
 go_enter Tryz.func110, Tryz.ntmps110
 try go_wp2_with (first | ((with_reducible refine gate_dst (N := 1) rfl ?_); refine box_event ?hg (N := 1) ?hd (cs := #[.int .i64 a0_0, .int .i64 a0_1, .int .i64 a0_2, .slice A0_3 l0_3.length c0_3, .int .i64 a0_4]) (t := 36) ?hr ?_; (case hd => rfl); (case hg => rfl); (case hr => first | (go_simp; done) | (go_simp; rfl)); intro gb225 hg w3 hbox hb; have BK225 := aK (hbox); have GW225 := aK ((by rw [hg]; exact (bSz (zH0 HB)) : w.heap.size ≤ gb225)); replace HB := aK (bSp (zH0 HB) hb); have GE225 := GW225; clear hb hbox hg) | ((with_reducible refine gate_dst (N := 2) rfl ?_); refine box_event ?hg (N := 2) ?hd (cs := #[.int .i64 0, .int .i64 0, .int .i64 0, .slice none 0 0, .int .i64 0]) (t := 36) ?hr ?_; (case hd => rfl); (case hg => rfl); (case hr => first | (go_simp; done) | (go_simp; rfl)); intro gb226 hg w4 hbox hb; have BK226 := aK (hbox); have GW226 := aK ((by rw [hg]; exact (bSz (zH1 HB GE225)) : w.heap.size ≤ gb226)); replace HB := aK (bSp (zH1 HB GE225) hb); have GE226 := GW226; have NB225_226 := nbl BK225 hg (by intro z_; (with_reducible repeat (first | refine blk_drewN ?_ _ | refine kD ?_ | refine kA ?_ _)); exact z_); replace BK225 := zB BK225 hb; have NB226_225 := nbs NB225_226; clear hb hbox hg))
 have n0_ := aK (kD BK225.out)
 have n1_ := aK (kD BK226.out)
 have n2_ := aK (bD1 HB.out)
 clear BK225
 clear BK226
 clear HB
 have BK225 := n0_
 have BK226 := n1_
 have HB := n2_
 clear n0_ n1_ n2_
 refine start_ (n := 9) (S := fun w' => w'.cell? ⟨gb225, 0, none⟩ = some (.int .i64 a0_0) ∧ w'.cell? ⟨gb225, 1, none⟩ = some (.int .i64 a0_1) ∧ w'.cell? ⟨gb225, 2, none⟩ = some (.int .i64 a0_2) ∧ w'.cell? ⟨gb225, 3, none⟩ = some (.slice A0_3 l0_3.length c0_3) ∧ w'.cell? ⟨gb225, 4, none⟩ = some (.int .i64 a0_4)) (ds := []) #[bN,bN,bN,bN,bN,bN,bN,bN,bN] (by kernel_rfl) rfl rfl ⟨zQ BK225 0, zQ BK225 1, zQ BK225 2, zQ BK225 3, zQ BK225 4⟩ (fun hHeld => ?_); refine with_tabW spec_l30Copy.tab1 spec_l30Copy.bits1 (fun HT_ HW_ => ?_)
 generalize w4.drew = w5 at BK225 BK226 HB hHeld ⊢
 refine pure_ (i := 0) (N := some 3) (v := ?_) (a' := ?_) #[bY,bN,bN,bN,bN,bN,bN,bN,bN] rfl rfl (any_of HT_.out (by kernel_rfl)) (fun _ _ _ h => h) (Or.inl ⟨by rfl, ?_⟩) ?_ ?_
 rotate_left
 ·intro w'
  go_simp
  with_reducible rfl
 rotate_left
 ·simp only [Act.put, sTA, sZ, sS, i64_w, i32_w]
  rfl
 refine pure_ (i := 2) (N := some 5) (v := ?_) (a' := ?_) #[bY,bN,bY,bN,bN,bN,bN,bN,bN] rfl rfl (any_of HT_.out (by kernel_rfl)) (fun _ _ _ h => h) (Or.inl ⟨by rfl, ?_⟩) ?_ ?_
 rotate_left
 ·intro w'
  go_simp
  with_reducible rfl
 rotate_left
 ·simp only [Act.put, sTA, sZ, sS, i64_w, i32_w]
  rfl
 refine pure_ (i := 5) (N := some 8) (v := ?_) (a' := ?_) #[bY,bN,bY,bN,bN,bY,bN,bN,bN] rfl rfl (any_of HT_.out (by kernel_rfl)) (fun _ _ _ h => h) (Or.inl ⟨by rfl, ?_⟩) ?_ ?_
 rotate_left
 ·intro w'
  go_simp
  with_reducible rfl
 rotate_left
 ·simp only [Act.put, sTA, sZ, sS, i64_w, i32_w]
  rfl
 refine take_ (i := 1) (N := some 4) (v := ?_) (a' := ?_) #[bY,bY,bY,bN,bN,bY,bN,bN,bN] rfl rfl (take_ofW HT_.out HW_.out (by kernel_rfl)) (fun _ _ _ h => h) (Or.inl ⟨by rfl, ?_⟩) hHeld ?_ ?_
 rotate_left
 ·rintro w' ⟨s0, s1, s2, s3, s4⟩
  go_simp
  with_reducible rfl
 rotate_left
 ·simp only [Act.put, sTA, sZ, sS, i64_w, i32_w]
  rfl
 refine take_ (i := 3) (N := some 6) (v := ?_) (a' := ?_) #[bY,bY,bY,bY,bN,bY,bN,bN,bN] rfl rfl (take_ofW HT_.out HW_.out (by kernel_rfl)) (fun _ _ _ h => h) (Or.inl ⟨by rfl, ?_⟩) hHeld ?_ ?_
 rotate_left
 ·rintro w' ⟨s0, s1, s2, s3, s4⟩
  go_simp
  with_reducible rfl
 rotate_left
 ·simp only [Act.put, sTA, sZ, sS, i64_w, i32_w]
  rfl
 refine take_ (i := 6) (N := some 9) (v := ?_) (a' := ?_) #[bY,bY,bY,bY,bN,bY,bY,bN,bN] rfl rfl (take_ofW HT_.out HW_.out (by kernel_rfl)) (fun _ _ _ h => h) (Or.inl ⟨by rfl, ?_⟩) hHeld ?_ ?_
 rotate_left
 ·rintro w' ⟨s0, s1, s2, s3, s4⟩
  go_simp
  with_reducible rfl
 rotate_left
 ·simp only [Act.put, sTA, sZ, sS, i64_w, i32_w]
  rfl
 refine one_ (i := 4) (N := some 7) #[bY,bY,bY,bY,bY,bY,bY,bN,bN] rfl rfl (one_of HT_.out (by kernel_rfl)) (by decide) (fun K hK => ?_)
 refine goes_ Tryz.func111 (by kernel_rfl) rfl #[.slice A0_3 l0_3.length c0_3] (by rfl) rfl rfl zD ?_
 with_reducible refine (spec_l28Copy.calls _ _ l0_3 t227 _ ?side1 ?side2 A2.out).mono ?_
 (case side1 => exact zC (Kd.C_below HR0_3.out HB.out))
 (case side2 => exact HC0_3.out)
 rintro e w6 ⟨v228, rfl, ho0, hb⟩
 refine ⟨_, rfl, ?_⟩
 have n0_ := aK (Kd.R_lower ho0 (bSz (zH2 HB GE225 GE226)))
 have n1_ := zB BK225 hb
 have n2_ := zB BK226 hb
 have n3_ := aK (bSp (zH2 HB GE225 GE226) hb)
 clear BK225
 clear BK226
 clear HB
 have HO229 := n0_
 have BK225 := n1_
 have BK226 := n2_
 have HB := n3_
 clear n0_ n1_ n2_ n3_
 (try clear hb)
 (try clear hb2)
 (try clear hk)
 (try clear hi)
 (try clear ho0)
 obtain ⟨Ao7, co7, eo7⟩ := Kd.R_slice HO229.out
 (first | subst eo7 | (injection eo7 with f1_ f2_ f3_; have f4_ := f1_.symm; have f5_ := f3_.symm; clear f1_ f2_ f3_; subst f4_; subst f5_))
 refine hK.out _ _ ⟨zQ BK225 0, zQ BK225 1, zQ BK225 2, zQ BK225 3, zQ BK225 4⟩ (fun hHeld => ?_)
 clear hK K
 refine norm_ (a' := ?_) ?_ ?_
 rotate_left
 ·show Act.put _ (some 7) _ = _
  simp only [Act.put, sTA, sZ, sS, i64_w, i32_w]
  rfl
 refine pure_ (i := 7) (N := some 10) (v := ?_) (a' := ?_) #[bY,bY,bY,bY,bY,bY,bY,bY,bN] rfl rfl (any_of HT_.out (by kernel_rfl)) (fun _ _ _ h => h) (Or.inl ⟨by rfl, ?_⟩) ?_ ?_
 rotate_left
 ·intro w'
  go_simp
  with_reducible rfl
 rotate_left
 ·simp only [Act.put, sTA, sZ, sS, i64_w, i32_w]
  rfl
 refine one_ (i := 8) (N := none) #[bY,bY,bY,bY,bY,bY,bY,bY,bY] rfl rfl (one_of HT_.out (by kernel_rfl)) (by decide) (fun K hK => ?_)
 have hs8 : w6.cell? ⟨gb226, 0, none⟩ = some (.int .i64 0) := (kC BK226.out 0).trans rfl
 have hfs8 := kF BK226.out 0
 have hns8_0 := NB225_226.out
 have hms8_0 := NB226_225.out
 have hs9 : w6.cell? ⟨gb226, 1, none⟩ = some (.int .i64 0) := (kC BK226.out 1).trans rfl
 have hfs9 := kF BK226.out 1
 have hns9_0 := NB225_226.out
 have hms9_0 := NB226_225.out
 have hs10 : w6.cell? ⟨gb226, 2, none⟩ = some (.int .i64 0) := (kC BK226.out 2).trans rfl
 have hfs10 := kF BK226.out 2
 have hns10_0 := NB225_226.out
 have hms10_0 := NB226_225.out
 have hs11 : w6.cell? ⟨gb226, 3, none⟩ = some (.slice none 0 0) := (kC BK226.out 3).trans rfl
 have hfs11 := kF BK226.out 3
 have hns11_0 := NB225_226.out
 have hms11_0 := NB226_225.out
 have hs12 : w6.cell? ⟨gb226, 4, none⟩ = some (.int .i64 0) := (kC BK226.out 4).trans rfl
 have hfs12 := kF BK226.out 4
 have hns12_0 := NB225_226.out
 have hms12_0 := NB226_225.out
 refine skip_ (w1 := ?_) (by rfl) rfl ?_ ?_
 rotate_left
 ·go_simp
  rfl
 refine hK.out _ _ ⟨((cell_far (p := ⟨gb226, _, none⟩) NB225_226.out _).trans (((cell_far (p := ⟨gb226, _, none⟩) NB225_226.out _).trans (((cell_far (p := ⟨gb226, _, none⟩) NB225_226.out _).trans (((cell_far (p := ⟨gb226, _, none⟩) NB225_226.out _).trans (((cell_far (p := ⟨gb226, _, none⟩) NB225_226.out _).trans (hHeld.1)))))))))), ((cell_far (p := ⟨gb226, _, none⟩) NB225_226.out _).trans (((cell_far (p := ⟨gb226, _, none⟩) NB225_226.out _).trans (((cell_far (p := ⟨gb226, _, none⟩) NB225_226.out _).trans (((cell_far (p := ⟨gb226, _, none⟩) NB225_226.out _).trans (((cell_far (p := ⟨gb226, _, none⟩) NB225_226.out _).trans (hHeld.2.1)))))))))), ((cell_far (p := ⟨gb226, _, none⟩) NB225_226.out _).trans (((cell_far (p := ⟨gb226, _, none⟩) NB225_226.out _).trans (((cell_far (p := ⟨gb226, _, none⟩) NB225_226.out _).trans (((cell_far (p := ⟨gb226, _, none⟩) NB225_226.out _).trans (((cell_far (p := ⟨gb226, _, none⟩) NB225_226.out _).trans (hHeld.2.2.1)))))))))), ((cell_far (p := ⟨gb226, _, none⟩) NB225_226.out _).trans (((cell_far (p := ⟨gb226, _, none⟩) NB225_226.out _).trans (((cell_far (p := ⟨gb226, _, none⟩) NB225_226.out _).trans (((cell_far (p := ⟨gb226, _, none⟩) NB225_226.out _).trans (((cell_far (p := ⟨gb226, _, none⟩) NB225_226.out _).trans (hHeld.2.2.2.1)))))))))), ((cell_far (p := ⟨gb226, _, none⟩) NB225_226.out _).trans (((cell_far (p := ⟨gb226, _, none⟩) NB225_226.out _).trans (((cell_far (p := ⟨gb226, _, none⟩) NB225_226.out _).trans (((cell_far (p := ⟨gb226, _, none⟩) NB225_226.out _).trans (((cell_far (p := ⟨gb226, _, none⟩) NB225_226.out _).trans (hHeld.2.2.2.2))))))))))⟩ (fun hHeld => ?_)
 clear hK K
 refine done_ (done_of HT_.out (by kernel_rfl)) ?_
 try go_wp2
 refine bodyPost_ret (results_cell_row rfl _ _ gb226 36 #[.int .i64 a0_0, .int .i64 a0_1, .int .i64 a0_2, .slice Ao7 t227.length co7, .int .i64 a0_4] (0, 0) _ rfl (by (with_reducible repeat (first | refine blk_drewN ?_ _ | refine kD ?_ | refine kA ?_ _)); refine blk_put (cs := #[.int .i64 a0_0, .int .i64 a0_1, .int .i64 a0_2, .slice Ao7 t227.length co7, .int .i64 0]) ?_ 4 _ rfl; (with_reducible repeat (first | refine blk_drewN ?_ _ | refine kD ?_ | refine kA ?_ _)); refine blk_put (cs := #[.int .i64 a0_0, .int .i64 a0_1, .int .i64 a0_2, .slice none 0 0, .int .i64 0]) ?_ 3 _ rfl; (with_reducible repeat (first | refine blk_drewN ?_ _ | refine kD ?_ | refine kA ?_ _)); refine blk_put (cs := #[.int .i64 a0_0, .int .i64 a0_1, .int .i64 0, .slice none 0 0, .int .i64 0]) ?_ 2 _ rfl; (with_reducible repeat (first | refine blk_drewN ?_ _ | refine kD ?_ | refine kA ?_ _)); refine blk_put (cs := #[.int .i64 a0_0, .int .i64 0, .int .i64 0, .slice none 0 0, .int .i64 0]) ?_ 1 _ rfl; (with_reducible repeat (first | refine blk_drewN ?_ _ | refine kD ?_ | refine kA ?_ _)); refine blk_put (cs := #[.int .i64 0, .int .i64 0, .int .i64 0, .slice none 0 0, .int .i64 0]) ?_ 0 _ rfl; (with_reducible repeat (first | refine blk_drewN ?_ _ | refine kD ?_ | refine kA ?_ _)); exact BK226.out) Tryz.underlying36 rfl (by kernel_rfl)) rfl ?_
 exact ⟨_, by first | rfl | (simp [errW_none, errW_some] <;> rfl) | (simp [*, errW_none, errW_some] <;> rfl), by (with_reducible repeat (first | apply Kd.R_alloc | apply Kd.R_drewN | apply Kd.R_drew)); exact Kd.R_mono (zT5 HO229 BK226 (.int .i64 a0_0) (.int .i64 a0_1) (.int .i64 a0_2) (.slice Ao7 t227.length co7) (.int .i64 a0_4)) (fun _ hk => trivial), by repeat (first | (with_reducible first | exact HB.out | apply bAl | apply bDN | apply bD1 | refine bSt ?_ GE225.out | refine bSt ?_ GE226.out) | exact HB.out)⟩
def spec_l38Copy.T1 : Bool × List (List Nat × List Nat) := (true, [([], []), ([0], [0]), ([1], [1]), ([], []), ([3], [3]), ([], []), ([5], [5]), ([6, 2], [6]), ([], []), ([8], [8]), ([2, 4, 7, 9], [2, 4, 7, 9]), ([10, 7, 0, 1, 2, 3, 4, 5, 6, 7, 8, 9, 10], [10])])
def spec_l38Copy.B1 : List Nat := [0, 1, 3, 0, 8, 0, 32, 103, 0, 256, 1023, 2047]
theorem spec_l38Copy.tab1 : rtab .any (opsOf Tryz.f62 1) = spec_l38Copy.T1 := by kernel_rfl
theorem spec_l38Copy.bits1 : waitsOk spec_l38Copy.T1.2 spec_l38Copy.B1 = true := by kernel_rfl
set_option maxHeartbeats 8000000 in
set_option maxRecDepth 100000 in
theorem spec_l38Copy.calls (a0_0 : Int) (a0_1 : Int) (a0_2 : Int) (A0_3 : Option Addr) (c0_3 : Nat) (l0_3 : List Int) (a0_4 : Int) (a0_5 : Int) (A0_6 : Option Addr) (c0_6 : Nat) (l0_6 : List Int) (a0_7 : Int) (r1 : Int) (r2 : Int) (r3 : Int) (r4 : List Int) (r5 : Int) (r6 : Int) (r7 : List Int) (r8 : Int) (w : World) (hr0_3 : Kd.C (Kd.int .i64) w A0_3 l0_3.length l0_3) (hc0_3 : l0_3.length ≤ c0_3) (hr0_6 : Kd.C (Kd.int .i64) w A0_6 l0_6.length l0_6) (hc0_6 : l0_6.length ≤ c0_6) (h : spec_l38Copy.f a0_0 a0_1 a0_2 l0_3 a0_4 a0_5 l0_6 a0_7 = some (r1, r2, r3, r4, r5, r6, r7, r8)) :
  Calls Tryz.prog 62 #[.agg #[.int .i64 a0_0, .int .i64 a0_1, .int .i64 a0_2, .slice A0_3 l0_3.length c0_3, .int .i64 a0_4, .int .i64 a0_5, .slice A0_6 l0_6.length c0_6, .int .i64 a0_7]] w fun e w' => ∃ v3_ v6_ : Value, e = .returned (.agg #[.int .i64 r1, .int .i64 r2, .int .i64 r3, v3_, .int .i64 r5, .int .i64 r6, v6_, .int .i64 r8]) ∧ Kd.R (Kd.int .i64) 3 w' w.heap.size (fun k_ => some k_ ≠ (v6_ : Value).ownBlock) v3_ r4 ∧ Kd.R (Kd.int .i64) 3 w' w.heap.size (fun k_ => some k_ ≠ (v3_ : Value).ownBlock) v6_ r7 ∧ Below w.heap.size w w' := by
 have hu38 := Tryz.underlying38
 have hu36 := Tryz.underlying36
 have HR0_3 := aK hr0_3
 have HC0_3 := aK hc0_3
 clear hr0_3 hc0_3
 have HR0_6 := aK hr0_6
 have HC0_6 := aK hc0_6
 clear hr0_6 hc0_6
 have HB := aK (Below.refl w.heap.size w)
 have H : ((spec_l30Copy.f a0_0 a0_1 a0_2 l0_3 a0_4).bind fun bt232 => ((spec_l28Copy.f l0_6).bind fun t239 => (some (bt232.1, bt232.2.1, bt232.2.2.1, bt232.2.2.2.1, bt232.2.2.2.2, a0_5, t239, a0_7)))) = some (r1, r2, r3, r4, r5, r6, r7, r8) := h
 clear h
 replace H := Option.bind_eq_some_iff.mp H
 obtain ⟨⟨t232, t233, t234, t235, t238⟩, A20, H⟩ := H
 replace H : ((spec_l28Copy.f l0_6).bind fun t239 => (some (t232, t233, t234, t235, t238, a0_5, t239, a0_7))) = some (r1, r2, r3, r4, r5, r6, r7, r8) := H
 have A2 := aK A20
 clear A20
 replace H := Option.bind_eq_some_iff.mp H
 obtain ⟨t239, A30, H⟩ := H
 replace H : (some (t232, t233, t234, t235, t238, a0_5, t239, a0_7)) = some (r1, r2, r3, r4, r5, r6, r7, r8) := H
 have A3 := aK A30
 clear A30
 simp only [Option.some.injEq, Prod.mk.injEq] at H
 obtain ⟨rfl, rfl, rfl, rfl, rfl, rfl, rfl, rfl⟩ := H
 go_enter Tryz.func62, Tryz.ntmps62
 try go_wp2_with (first | ((with_reducible refine gate_dst (N := 1) rfl ?_); refine box_event ?hg (N := 1) ?hd (cs := #[.int .i64 a0_0, .int .i64 a0_1, .int .i64 a0_2, .slice A0_3 l0_3.length c0_3, .int .i64 a0_4, .int .i64 a0_5, .slice A0_6 l0_6.length c0_6, .int .i64 a0_7]) (t := 38) ?hr ?_; (case hd => rfl); (case hg => rfl); (case hr => first | (go_simp; done) | (go_simp; rfl)); intro gb230 hg w4 hbox hb; have BK230 := aK (hbox); have GW230 := aK ((by rw [hg]; exact (bSz (zH0 HB)) : w.heap.size ≤ gb230)); replace HB := aK (bSp (zH0 HB) hb); have GE230 := GW230; clear hb hbox hg) | ((with_reducible refine gate_dst (N := 2) rfl ?_); refine box_event ?hg (N := 2) ?hd (cs := #[.int .i64 0, .int .i64 0, .int .i64 0, .slice none 0 0, .int .i64 0, .int .i64 0, .slice none 0 0, .int .i64 0]) (t := 38) ?hr ?_; (case hd => rfl); (case hg => rfl); (case hr => first | (go_simp; done) | (go_simp; rfl)); intro gb231 hg w5 hbox hb; have BK231 := aK (hbox); have GW231 := aK ((by rw [hg]; exact (bSz (zH1 HB GE230)) : w.heap.size ≤ gb231)); replace HB := aK (bSp (zH1 HB GE230) hb); have GE231 := GW231; have NB230_231 := nbl BK230 hg (by intro z_; (with_reducible repeat (first | refine blk_drewN ?_ _ | refine kD ?_ | refine kA ?_ _)); exact z_); replace BK230 := zB BK230 hb; have NB231_230 := nbs NB230_231; clear hb hbox hg))
 have n0_ := aK (kD BK230.out)
 have n1_ := aK (kD BK231.out)
 have n2_ := aK (bD1 HB.out)
 clear BK230
 clear BK231
 clear HB
 have BK230 := n0_
 have BK231 := n1_
 have HB := n2_
 clear n0_ n1_ n2_
 refine start_ (n := 12) (S := fun w' => w'.cell? ⟨gb230, 0, none⟩ = some (.int .i64 a0_0) ∧ w'.cell? ⟨gb230, 1, none⟩ = some (.int .i64 a0_1) ∧ w'.cell? ⟨gb230, 2, none⟩ = some (.int .i64 a0_2) ∧ w'.cell? ⟨gb230, 3, none⟩ = some (.slice A0_3 l0_3.length c0_3) ∧ w'.cell? ⟨gb230, 4, none⟩ = some (.int .i64 a0_4) ∧ w'.cell? ⟨gb230, 5, none⟩ = some (.int .i64 a0_5) ∧ w'.cell? ⟨gb230, 6, none⟩ = some (.slice A0_6 l0_6.length c0_6) ∧ w'.cell? ⟨gb230, 7, none⟩ = some (.int .i64 a0_7)) (ds := []) #[bN,bN,bN,bN,bN,bN,bN,bN,bN,bN,bN,bN] (by kernel_rfl) rfl rfl ⟨zQ BK230 0, zQ BK230 1, zQ BK230 2, zQ BK230 3, zQ BK230 4, zQ BK230 5, zQ BK230 6, zQ BK230 7⟩ (fun hHeld => ?_); refine with_tabW spec_l38Copy.tab1 spec_l38Copy.bits1 (fun HT_ HW_ => ?_)
 generalize w5.drew = w6 at BK230 BK231 HB hHeld ⊢
 refine pure_ (i := 0) (N := some 3) (v := ?_) (a' := ?_) #[bY,bN,bN,bN,bN,bN,bN,bN,bN,bN,bN,bN] rfl rfl (any_of HT_.out (by kernel_rfl)) (fun _ _ _ h => h) (Or.inl ⟨by rfl, ?_⟩) ?_ ?_
 rotate_left
 ·intro w'
  go_simp
  with_reducible rfl
 rotate_left
 ·simp only [Act.put, sTA, sZ, sS, i64_w, i32_w]
  rfl
 refine pure_ (i := 3) (N := some 6) (v := ?_) (a' := ?_) #[bY,bN,bN,bY,bN,bN,bN,bN,bN,bN,bN,bN] rfl rfl (any_of HT_.out (by kernel_rfl)) (fun _ _ _ h => h) (Or.inl ⟨by rfl, ?_⟩) ?_ ?_
 rotate_left
 ·intro w'
  go_simp
  with_reducible rfl
 rotate_left
 ·simp only [Act.put, sTA, sZ, sS, i64_w, i32_w]
  rfl
 refine pure_ (i := 5) (N := some 8) (v := ?_) (a' := ?_) #[bY,bN,bN,bY,bN,bY,bN,bN,bN,bN,bN,bN] rfl rfl (any_of HT_.out (by kernel_rfl)) (fun _ _ _ h => h) (Or.inl ⟨by rfl, ?_⟩) ?_ ?_
 rotate_left
 ·intro w'
  go_simp
  with_reducible rfl
 rotate_left
 ·simp only [Act.put, sTA, sZ, sS, i64_w, i32_w]
  rfl
 refine pure_ (i := 8) (N := some 11) (v := ?_) (a' := ?_) #[bY,bN,bN,bY,bN,bY,bN,bN,bY,bN,bN,bN] rfl rfl (any_of HT_.out (by kernel_rfl)) (fun _ _ _ h => h) (Or.inl ⟨by rfl, ?_⟩) ?_ ?_
 rotate_left
 ·intro w'
  go_simp
  with_reducible rfl
 rotate_left
 ·simp only [Act.put, sTA, sZ, sS, i64_w, i32_w]
  rfl
 refine take_ (i := 1) (N := some 4) (v := ?_) (a' := ?_) #[bY,bY,bN,bY,bN,bY,bN,bN,bY,bN,bN,bN] rfl rfl (take_ofW HT_.out HW_.out (by kernel_rfl)) (fun _ _ _ h => h) (Or.inl ⟨by rfl, ?_⟩) hHeld ?_ ?_
 rotate_left
 ·rintro w' ⟨s0, s1, s2, s3, s4, s5, s6, s7⟩
  go_simp
  with_reducible rfl
 rotate_left
 ·simp only [Act.put, sTA, sZ, sS, i64_w, i32_w]
  rfl
 refine take_ (i := 4) (N := some 7) (v := ?_) (a' := ?_) #[bY,bY,bN,bY,bY,bY,bN,bN,bY,bN,bN,bN] rfl rfl (take_ofW HT_.out HW_.out (by kernel_rfl)) (fun _ _ _ h => h) (Or.inl ⟨by rfl, ?_⟩) hHeld ?_ ?_
 rotate_left
 ·rintro w' ⟨s0, s1, s2, s3, s4, s5, s6, s7⟩
  go_simp
  with_reducible rfl
 rotate_left
 ·simp only [Act.put, sTA, sZ, sS, i64_w, i32_w]
  rfl
 refine take_ (i := 6) (N := some 9) (v := ?_) (a' := ?_) #[bY,bY,bN,bY,bY,bY,bY,bN,bY,bN,bN,bN] rfl rfl (take_ofW HT_.out HW_.out (by kernel_rfl)) (fun _ _ _ h => h) (Or.inl ⟨by rfl, ?_⟩) hHeld ?_ ?_
 rotate_left
 ·rintro w' ⟨s0, s1, s2, s3, s4, s5, s6, s7⟩
  go_simp
  with_reducible rfl
 rotate_left
 ·simp only [Act.put, sTA, sZ, sS, i64_w, i32_w]
  rfl
 refine take_ (i := 9) (N := some 12) (v := ?_) (a' := ?_) #[bY,bY,bN,bY,bY,bY,bY,bN,bY,bY,bN,bN] rfl rfl (take_ofW HT_.out HW_.out (by kernel_rfl)) (fun _ _ _ h => h) (Or.inl ⟨by rfl, ?_⟩) hHeld ?_ ?_
 rotate_left
 ·rintro w' ⟨s0, s1, s2, s3, s4, s5, s6, s7⟩
  go_simp
  with_reducible rfl
 rotate_left
 ·simp only [Act.put, sTA, sZ, sS, i64_w, i32_w]
  rfl
 refine one_ (i := 2) (N := some 5) #[bY,bY,bY,bY,bY,bY,bY,bN,bY,bY,bN,bN] rfl rfl (one_of HT_.out (by kernel_rfl)) (by decide) (fun K hK => ?_)
 refine goes_ Tryz.func110 (by kernel_rfl) rfl #[.agg #[.int .i64 a0_0, .int .i64 a0_1, .int .i64 a0_2, .slice A0_3 l0_3.length c0_3, .int .i64 a0_4]] (by rfl) rfl rfl zD ?_
 with_reducible refine (spec_l30Copy.calls a0_0 a0_1 a0_2 _ _ l0_3 a0_4 t232 t233 t234 t235 t238 _ ?side1 ?side2 A2.out).mono ?_
 (case side1 => exact zC (Kd.C_below HR0_3.out HB.out))
 (case side2 => exact HC0_3.out)
 rintro e w7 ⟨v236, rfl, ho0, hb⟩
 refine ⟨_, rfl, ?_⟩
 have n0_ := aK (Kd.R_lower ho0 (bSz (zH2 HB GE230 GE231)))
 have n1_ := zB BK230 hb
 have n2_ := zB BK231 hb
 have n3_ := aK (bSp (zH2 HB GE230 GE231) hb)
 clear BK230
 clear BK231
 clear HB
 have HO237 := n0_
 have BK230 := n1_
 have BK231 := n2_
 have HB := n3_
 clear n0_ n1_ n2_ n3_
 (try clear hb)
 (try clear hb2)
 (try clear hk)
 (try clear hi)
 (try clear ho0)
 refine hK.out _ _ ⟨zQ BK230 0, zQ BK230 1, zQ BK230 2, zQ BK230 3, zQ BK230 4, zQ BK230 5, zQ BK230 6, zQ BK230 7⟩ (fun hHeld => ?_)
 clear hK K
 refine norm_ (a' := ?_) ?_ ?_
 rotate_left
 ·show Act.put _ (some 5) _ = _
  simp only [Act.put, sTA, sZ, sS, i64_w, i32_w]
  rfl
 refine one_ (i := 7) (N := some 10) #[bY,bY,bY,bY,bY,bY,bY,bY,bY,bY,bN,bN] rfl rfl (one_of HT_.out (by kernel_rfl)) (by decide) (fun K hK => ?_)
 refine goes_ Tryz.func111 (by kernel_rfl) rfl #[.slice A0_6 l0_6.length c0_6] (by rfl) rfl rfl zD ?_
 with_reducible refine (spec_l28Copy.calls _ _ l0_6 t239 _ ?side1 ?side2 A3.out).mono ?_
 (case side1 => exact zC (Kd.C_below HR0_6.out HB.out))
 (case side2 => exact HC0_6.out)
 rintro e w8 ⟨v240, rfl, ho0, hb⟩
 refine ⟨_, rfl, ?_⟩
 have n0_ := aK (Kd.R_elder' (zA HO237) (Kd.R_base ho0) hb)
 have n1_ := aK (Kd.R_lower (Kd.R_new' ho0 (Kd.R_lt (zA HO237))) (bSz (zH2 HB GE230 GE231)))
 have n2_ := zB BK230 hb
 have n3_ := zB BK231 hb
 have n4_ := aK (bSp (zH2 HB GE230 GE231) hb)
 clear HO237
 clear BK230
 clear BK231
 clear HB
 have HO237 := n0_
 have HO241 := n1_
 have BK230 := n2_
 have BK231 := n3_
 have HB := n4_
 clear n0_ n1_ n2_ n3_ n4_
 (try clear hb)
 (try clear hb2)
 (try clear hk)
 (try clear hi)
 (try clear ho0)
 obtain ⟨Ao9, co9, eo9⟩ := Kd.R_slice HO241.out
 (first | subst eo9 | (injection eo9 with f1_ f2_ f3_; have f4_ := f1_.symm; have f5_ := f3_.symm; clear f1_ f2_ f3_; subst f4_; subst f5_))
 obtain ⟨Ao10, co10, eo10⟩ := Kd.R_slice HO237.out
 (first | subst eo10 | (injection eo10 with f1_ f2_ f3_; have f4_ := f1_.symm; have f5_ := f3_.symm; clear f1_ f2_ f3_; subst f4_; subst f5_))
 refine hK.out _ _ ⟨zQ BK230 0, zQ BK230 1, zQ BK230 2, zQ BK230 3, zQ BK230 4, zQ BK230 5, zQ BK230 6, zQ BK230 7⟩ (fun hHeld => ?_)
 clear hK K
 refine norm_ (a' := ?_) ?_ ?_
 rotate_left
 ·show Act.put _ (some 10) _ = _
  simp only [Act.put, sTA, sZ, sS, i64_w, i32_w]
  rfl
 refine pure_ (i := 10) (N := some 13) (v := ?_) (a' := ?_) #[bY,bY,bY,bY,bY,bY,bY,bY,bY,bY,bY,bN] rfl rfl (any_of HT_.out (by kernel_rfl)) (fun _ _ _ h => h) (Or.inl ⟨by rfl, ?_⟩) ?_ ?_
 rotate_left
 ·intro w'
  go_simp
  with_reducible rfl
 rotate_left
 ·simp only [Act.put, sTA, sZ, sS, i64_w, i32_w]
  rfl
 refine one_ (i := 11) (N := none) #[bY,bY,bY,bY,bY,bY,bY,bY,bY,bY,bY,bY] rfl rfl (one_of HT_.out (by kernel_rfl)) (by decide) (fun K hK => ?_)
 have hs11 : w8.cell? ⟨gb231, 0, none⟩ = some (.int .i64 0) := (kC BK231.out 0).trans rfl
 have hfs11 := kF BK231.out 0
 have hns11_0 := NB230_231.out
 have hms11_0 := NB231_230.out
 have hs12 : w8.cell? ⟨gb231, 1, none⟩ = some (.int .i64 0) := (kC BK231.out 1).trans rfl
 have hfs12 := kF BK231.out 1
 have hns12_0 := NB230_231.out
 have hms12_0 := NB231_230.out
 have hs13 : w8.cell? ⟨gb231, 2, none⟩ = some (.int .i64 0) := (kC BK231.out 2).trans rfl
 have hfs13 := kF BK231.out 2
 have hns13_0 := NB230_231.out
 have hms13_0 := NB231_230.out
 have hs14 : w8.cell? ⟨gb231, 3, none⟩ = some (.slice none 0 0) := (kC BK231.out 3).trans rfl
 have hfs14 := kF BK231.out 3
 have hns14_0 := NB230_231.out
 have hms14_0 := NB231_230.out
 have hs15 : w8.cell? ⟨gb231, 4, none⟩ = some (.int .i64 0) := (kC BK231.out 4).trans rfl
 have hfs15 := kF BK231.out 4
 have hns15_0 := NB230_231.out
 have hms15_0 := NB231_230.out
 have hs16 : w8.cell? ⟨gb231, 5, none⟩ = some (.int .i64 0) := (kC BK231.out 5).trans rfl
 have hfs16 := kF BK231.out 5
 have hns16_0 := NB230_231.out
 have hms16_0 := NB231_230.out
 have hs17 : w8.cell? ⟨gb231, 6, none⟩ = some (.slice none 0 0) := (kC BK231.out 6).trans rfl
 have hfs17 := kF BK231.out 6
 have hns17_0 := NB230_231.out
 have hms17_0 := NB231_230.out
 have hs18 : w8.cell? ⟨gb231, 7, none⟩ = some (.int .i64 0) := (kC BK231.out 7).trans rfl
 have hfs18 := kF BK231.out 7
 have hns18_0 := NB230_231.out
 have hms18_0 := NB231_230.out
 refine skip_ (w1 := ?_) (by rfl) rfl ?_ ?_
 rotate_left
 ·go_simp
  rfl
 refine hK.out _ _ ⟨((cell_far (p := ⟨gb231, _, none⟩) NB230_231.out _).trans (((cell_far (p := ⟨gb231, _, none⟩) NB230_231.out _).trans (((cell_far (p := ⟨gb231, _, none⟩) NB230_231.out _).trans (((cell_far (p := ⟨gb231, _, none⟩) NB230_231.out _).trans (((cell_far (p := ⟨gb231, _, none⟩) NB230_231.out _).trans (((cell_far (p := ⟨gb231, _, none⟩) NB230_231.out _).trans (((cell_far (p := ⟨gb231, _, none⟩) NB230_231.out _).trans (((cell_far (p := ⟨gb231, _, none⟩) NB230_231.out _).trans (hHeld.1)))))))))))))))), ((cell_far (p := ⟨gb231, _, none⟩) NB230_231.out _).trans (((cell_far (p := ⟨gb231, _, none⟩) NB230_231.out _).trans (((cell_far (p := ⟨gb231, _, none⟩) NB230_231.out _).trans (((cell_far (p := ⟨gb231, _, none⟩) NB230_231.out _).trans (((cell_far (p := ⟨gb231, _, none⟩) NB230_231.out _).trans (((cell_far (p := ⟨gb231, _, none⟩) NB230_231.out _).trans (((cell_far (p := ⟨gb231, _, none⟩) NB230_231.out _).trans (((cell_far (p := ⟨gb231, _, none⟩) NB230_231.out _).trans (hHeld.2.1)))))))))))))))), ((cell_far (p := ⟨gb231, _, none⟩) NB230_231.out _).trans (((cell_far (p := ⟨gb231, _, none⟩) NB230_231.out _).trans (((cell_far (p := ⟨gb231, _, none⟩) NB230_231.out _).trans (((cell_far (p := ⟨gb231, _, none⟩) NB230_231.out _).trans (((cell_far (p := ⟨gb231, _, none⟩) NB230_231.out _).trans (((cell_far (p := ⟨gb231, _, none⟩) NB230_231.out _).trans (((cell_far (p := ⟨gb231, _, none⟩) NB230_231.out _).trans (((cell_far (p := ⟨gb231, _, none⟩) NB230_231.out _).trans (hHeld.2.2.1)))))))))))))))), ((cell_far (p := ⟨gb231, _, none⟩) NB230_231.out _).trans (((cell_far (p := ⟨gb231, _, none⟩) NB230_231.out _).trans (((cell_far (p := ⟨gb231, _, none⟩) NB230_231.out _).trans (((cell_far (p := ⟨gb231, _, none⟩) NB230_231.out _).trans (((cell_far (p := ⟨gb231, _, none⟩) NB230_231.out _).trans (((cell_far (p := ⟨gb231, _, none⟩) NB230_231.out _).trans (((cell_far (p := ⟨gb231, _, none⟩) NB230_231.out _).trans (((cell_far (p := ⟨gb231, _, none⟩) NB230_231.out _).trans (hHeld.2.2.2.1)))))))))))))))), ((cell_far (p := ⟨gb231, _, none⟩) NB230_231.out _).trans (((cell_far (p := ⟨gb231, _, none⟩) NB230_231.out _).trans (((cell_far (p := ⟨gb231, _, none⟩) NB230_231.out _).trans (((cell_far (p := ⟨gb231, _, none⟩) NB230_231.out _).trans (((cell_far (p := ⟨gb231, _, none⟩) NB230_231.out _).trans (((cell_far (p := ⟨gb231, _, none⟩) NB230_231.out _).trans (((cell_far (p := ⟨gb231, _, none⟩) NB230_231.out _).trans (((cell_far (p := ⟨gb231, _, none⟩) NB230_231.out _).trans (hHeld.2.2.2.2.1)))))))))))))))), ((cell_far (p := ⟨gb231, _, none⟩) NB230_231.out _).trans (((cell_far (p := ⟨gb231, _, none⟩) NB230_231.out _).trans (((cell_far (p := ⟨gb231, _, none⟩) NB230_231.out _).trans (((cell_far (p := ⟨gb231, _, none⟩) NB230_231.out _).trans (((cell_far (p := ⟨gb231, _, none⟩) NB230_231.out _).trans (((cell_far (p := ⟨gb231, _, none⟩) NB230_231.out _).trans (((cell_far (p := ⟨gb231, _, none⟩) NB230_231.out _).trans (((cell_far (p := ⟨gb231, _, none⟩) NB230_231.out _).trans (hHeld.2.2.2.2.2.1)))))))))))))))), ((cell_far (p := ⟨gb231, _, none⟩) NB230_231.out _).trans (((cell_far (p := ⟨gb231, _, none⟩) NB230_231.out _).trans (((cell_far (p := ⟨gb231, _, none⟩) NB230_231.out _).trans (((cell_far (p := ⟨gb231, _, none⟩) NB230_231.out _).trans (((cell_far (p := ⟨gb231, _, none⟩) NB230_231.out _).trans (((cell_far (p := ⟨gb231, _, none⟩) NB230_231.out _).trans (((cell_far (p := ⟨gb231, _, none⟩) NB230_231.out _).trans (((cell_far (p := ⟨gb231, _, none⟩) NB230_231.out _).trans (hHeld.2.2.2.2.2.2.1)))))))))))))))), ((cell_far (p := ⟨gb231, _, none⟩) NB230_231.out _).trans (((cell_far (p := ⟨gb231, _, none⟩) NB230_231.out _).trans (((cell_far (p := ⟨gb231, _, none⟩) NB230_231.out _).trans (((cell_far (p := ⟨gb231, _, none⟩) NB230_231.out _).trans (((cell_far (p := ⟨gb231, _, none⟩) NB230_231.out _).trans (((cell_far (p := ⟨gb231, _, none⟩) NB230_231.out _).trans (((cell_far (p := ⟨gb231, _, none⟩) NB230_231.out _).trans (((cell_far (p := ⟨gb231, _, none⟩) NB230_231.out _).trans (hHeld.2.2.2.2.2.2.2))))))))))))))))⟩ (fun hHeld => ?_)
 clear hK K
 refine done_ (done_of HT_.out (by kernel_rfl)) ?_
 try go_wp2
 refine bodyPost_ret (results_cell_row rfl _ _ gb231 38 #[.int .i64 t232, .int .i64 t233, .int .i64 t234, .slice Ao10 t235.length co10, .int .i64 t238, .int .i64 a0_5, .slice Ao9 t239.length co9, .int .i64 a0_7] (0, 0) _ rfl (by (with_reducible repeat (first | refine blk_drewN ?_ _ | refine kD ?_ | refine kA ?_ _)); refine blk_put (cs := #[.int .i64 t232, .int .i64 t233, .int .i64 t234, .slice Ao10 t235.length co10, .int .i64 t238, .int .i64 a0_5, .slice Ao9 t239.length co9, .int .i64 0]) ?_ 7 _ rfl; (with_reducible repeat (first | refine blk_drewN ?_ _ | refine kD ?_ | refine kA ?_ _)); refine blk_put (cs := #[.int .i64 t232, .int .i64 t233, .int .i64 t234, .slice Ao10 t235.length co10, .int .i64 t238, .int .i64 a0_5, .slice none 0 0, .int .i64 0]) ?_ 6 _ rfl; (with_reducible repeat (first | refine blk_drewN ?_ _ | refine kD ?_ | refine kA ?_ _)); refine blk_put (cs := #[.int .i64 t232, .int .i64 t233, .int .i64 t234, .slice Ao10 t235.length co10, .int .i64 t238, .int .i64 0, .slice none 0 0, .int .i64 0]) ?_ 5 _ rfl; (with_reducible repeat (first | refine blk_drewN ?_ _ | refine kD ?_ | refine kA ?_ _)); refine blk_put (cs := #[.int .i64 t232, .int .i64 t233, .int .i64 t234, .slice Ao10 t235.length co10, .int .i64 0, .int .i64 0, .slice none 0 0, .int .i64 0]) ?_ 4 _ rfl; (with_reducible repeat (first | refine blk_drewN ?_ _ | refine kD ?_ | refine kA ?_ _)); refine blk_put (cs := #[.int .i64 t232, .int .i64 t233, .int .i64 t234, .slice none 0 0, .int .i64 0, .int .i64 0, .slice none 0 0, .int .i64 0]) ?_ 3 _ rfl; (with_reducible repeat (first | refine blk_drewN ?_ _ | refine kD ?_ | refine kA ?_ _)); refine blk_put (cs := #[.int .i64 t232, .int .i64 t233, .int .i64 0, .slice none 0 0, .int .i64 0, .int .i64 0, .slice none 0 0, .int .i64 0]) ?_ 2 _ rfl; (with_reducible repeat (first | refine blk_drewN ?_ _ | refine kD ?_ | refine kA ?_ _)); refine blk_put (cs := #[.int .i64 t232, .int .i64 0, .int .i64 0, .slice none 0 0, .int .i64 0, .int .i64 0, .slice none 0 0, .int .i64 0]) ?_ 1 _ rfl; (with_reducible repeat (first | refine blk_drewN ?_ _ | refine kD ?_ | refine kA ?_ _)); refine blk_put (cs := #[.int .i64 0, .int .i64 0, .int .i64 0, .slice none 0 0, .int .i64 0, .int .i64 0, .slice none 0 0, .int .i64 0]) ?_ 0 _ rfl; (with_reducible repeat (first | refine blk_drewN ?_ _ | refine kD ?_ | refine kA ?_ _)); exact BK231.out) Tryz.underlying38 rfl (by kernel_rfl)) rfl ?_
 exact ⟨_, _, by first | rfl | (simp [errW_none, errW_some] <;> rfl) | (simp [*, errW_none, errW_some] <;> rfl), by (with_reducible repeat (first | apply Kd.R_alloc | apply Kd.R_drewN | apply Kd.R_drew)); exact Kd.R_mono (zT8 HO237 BK231 (.int .i64 t232) (.int .i64 t233) (.int .i64 t234) (.slice Ao10 t235.length co10) (.int .i64 t238) (.int .i64 a0_5) (.slice Ao9 t239.length co9) (.int .i64 a0_7)) (fun _ hk => hk.1.2), by (with_reducible repeat (first | apply Kd.R_alloc | apply Kd.R_drewN | apply Kd.R_drew)); exact Kd.R_mono (zT8 HO241 BK231 (.int .i64 t232) (.int .i64 t233) (.int .i64 t234) (.slice Ao10 t235.length co10) (.int .i64 t238) (.int .i64 a0_5) (.slice Ao9 t239.length co9) (.int .i64 a0_7)) (fun _ hk => hk.1.2), by repeat (first | (with_reducible first | exact HB.out | apply bAl | apply bDN | apply bD1 | refine bSt ?_ GE230.out | refine bSt ?_ GE231.out) | exact HB.out)⟩
theorem spec_l38Copy.ctr {a0_0 : Int} {a0_1 : Int} {a0_2 : Int} {l0_3 : List Int} {a0_4 : Int} {a0_5 : Int} {l0_6 : List Int} {a0_7 : Int} {r1 : Int} {r2 : Int} {r3 : Int} {r4 : List Int} {r5 : Int} {r6 : Int} {r7 : List Int} {r8 : Int} (h : spec_l38Copy.f a0_0 a0_1 a0_2 l0_3 a0_4 a0_5 l0_6 a0_7 = some (r1, r2, r3, r4, r5, r6, r7, r8)) : Ctr Tryz.prog 62 [.ag [.v (.int .i64 a0_0), .v (.int .i64 a0_1), .v (.int .i64 a0_2), .pr 1 (l0_3.map eI), .v (.int .i64 a0_4), .v (.int .i64 a0_5), .pr 1 (l0_6.map eI), .v (.int .i64 a0_7)]] (.ag [.v (.int .i64 r1), .v (.int .i64 r2), .v (.int .i64 r3), .ow 3 1 (r4.map eI), .v (.int .i64 r5), .v (.int .i64 r6), .ow 3 1 (r7.map eI), .v (.int .i64 r8)]) := by
  refine ⟨enters_of Tryz.func62 rfl rfl, fun w ys hys => ?_⟩
  simp only [RepL, Rep] at hys
  obtain ⟨_, _, rfl, ⟨_, rfl, _, _, rfl, rfl, _, _, rfl, rfl, _, _, rfl, rfl, _, _, rfl, q1, _, _, rfl, rfl, _, _, rfl, rfl, _, _, rfl, q2, _, _, rfl, rfl, rfl⟩, rfl⟩ := hys
  obtain ⟨_, _, rfl, hr1, hc1⟩ := C_of_at E_eI q1
  obtain ⟨_, _, rfl, hr2, hc2⟩ := C_of_at E_eI q2
  refine (spec_l38Copy.calls _ _ _ _ _ _ _ _ _ _ _ _ _ _ _ _ _ _ _ _ w hr1 hc1 hr2 hc2 h).mono ?_
  rintro _ w' ⟨v1, v2, rfl, h1, h2, hb⟩
  have o1 := row_of_R E_eI h1
  have o2 := row_of_R E_eI h2
  refine ⟨_, (bk v1).toList ++ (bk v2).toList, rfl, ?_, by simpa using nd_own o1 o2 h1.1, hb⟩
  simp only [RepR, RepRL]
  exact ⟨_, rfl, _, _, [], (bk v1).toList ++ (bk v2).toList, rfl, by simp, ⟨rfl, rfl⟩, _, _, [], (bk v1).toList ++ (bk v2).toList, rfl, by simp, ⟨rfl, rfl⟩, _, _, [], (bk v1).toList ++ (bk v2).toList, rfl, by simp, ⟨rfl, rfl⟩, _, _, (bk v1).toList, (bk v2).toList, rfl, by simp, ⟨o1, E_eI.row _, E_eI.pos, rfl⟩, _, _, [], (bk v2).toList, rfl, by simp, ⟨rfl, rfl⟩, _, _, [], (bk v2).toList, rfl, by simp, ⟨rfl, rfl⟩, _, _, (bk v2).toList, [], rfl, by simp, ⟨o2, E_eI.row _, E_eI.pos, rfl⟩, _, _, [], [], rfl, by simp, ⟨rfl, rfl⟩, rfl, rfl⟩
set_option maxRecDepth 20000 in set_option maxHeartbeats 4000000 in open Nat renaming reduceAdd → p1, reduceSub → p2, reduceMul → p3, reduceDiv → p4, reduceBNe → p5, reduceBEq → p6, reduceEqDiff → p7, reduceLeDiff → p8, reduceLT → p9 in open Int renaming reduceLE → p10, reduceLT → p11, reduceEq → p12 in
theorem impl_GridOk.ctr {a0_0 : Int} {a0_1 : Int} {r : Bool} (h : impl_GridOk.f a0_0 a0_1 = some r) : Ctr Tryz.prog 142 [.ag [.v (.int .i64 a0_0), .v (.int .i64 a0_1)]] (.v (.bool r)) := by
  refine Ctr_of tyOk hm Tryz.func142 rfl rfl (by kernel_rfl) (n := 20) (rv := [.tmp 2]) rfl rfl ?_
  simp only [W, List.replicate]
  unfold impl_GridOk.f at h
  replace h := ifS h; rcases h with ⟨c1, h⟩ | ⟨c1, h⟩
  · replace h := ifS h; rcases h with ⟨c2, h⟩ | ⟨c2, h⟩
    · replace h := ifS h; rcases h with ⟨c3, h⟩ | ⟨c3, h⟩
      · cases h
        try simp only [W, c1, c2, c3, p1, p2, p3, p4, p5, p6, p7, p8, p9, p10, p11, p12]
      · cases h
        try simp only [W, c1, c2, c3, p1, p2, p3, p4, p5, p6, p7, p8, p9, p10, p11, p12]
    · cases h
      try simp only [W, c1, c2, p1, p2, p3, p4, p5, p6, p7, p8, p9, p10, p11, p12]
  · cases h
    try simp only [W, c1, p1, p2, p3, p4, p5, p6, p7, p8, p9, p10, p11, p12]
set_option maxRecDepth 20000 in set_option maxHeartbeats 4000000 in open Nat renaming reduceAdd → p1, reduceSub → p2, reduceMul → p3, reduceDiv → p4, reduceBNe → p5, reduceBEq → p6, reduceEqDiff → p7, reduceLeDiff → p8, reduceLT → p9 in open Int renaming reduceLE → p10, reduceLT → p11, reduceEq → p12 in
theorem impl_CountGaps.ctr {a0_0 : Int} {a0_1 : Int} {r : Int} (h : impl_CountGaps.f a0_0 a0_1 = some r) : Ctr Tryz.prog 132 [.ag [.v (.int .i64 a0_0), .v (.int .i64 a0_1)]] (.v (.int .i64 r)) := by
  refine Ctr_of tyOk hm Tryz.func132 rfl rfl (by kernel_rfl) (n := 18) (rv := [.tmp 2]) rfl rfl ?_
  simp only [W, List.replicate]
  unfold impl_CountGaps.f at h
  replace h := bnd h; obtain ⟨t1, A, h⟩ := h
  try simp only [W, p1, p2, p3, p4, p5, p6, p7, p8, p9, p10, p11, p12]
  refine callR (impl_GridOk.ctr A) ?_
  replace h := ifT h; rcases h with ⟨rfl, h⟩ | ⟨rfl, h⟩
  · cases h
    try simp only [W, p1, p2, p3, p4, p5, p6, p7, p8, p9, p10, p11, p12]
  · cases h
    try simp only [W, p1, p2, p3, p4, p5, p6, p7, p8, p9, p10, p11, p12]
end Go.Proofs.YtkindoepnganmaaGreat.F
end

section
namespace Go.Proofs.YtkindoepnganmaaGreat.F
open Go.RowKit Go.Proofs.YtkindoepnganmaaGreatW.PrintWords Go.Proofs.YtkindoepnganmaaGreatW.PrintLast Go.Proofs.YtkindoepnganmaaGreatW.PrintMore
set_option linter.unusedVariables false
set_option linter.unusedSimpArgs false
attribute [local go_sem] max2_int min2_int max_two min_two
set_option maxRecDepth 20000 in set_option maxHeartbeats 4000000 in open Nat renaming reduceAdd → p1, reduceSub → p2, reduceMul → p3, reduceDiv → p4, reduceBNe → p5, reduceBEq → p6, reduceEqDiff → p7, reduceLeDiff → p8, reduceLT → p9 in open Int renaming reduceLE → p10, reduceLT → p11, reduceEq → p12 in
theorem spec_MoveOne.ctr {k : Nat} {a0_0 : Int} {a0_1 : Int} {a0_2 : Int} {l1 : List Int} {a2 : Int} {a3 : Int} {r1 : List Int} {r2 : Bool} (h : spec_MoveOne.f k a0_0 a0_1 a0_2 l1 a2 a3 = some (r1, r2)) : Ctr Tryz.prog 71 [.ag [.v (.int .i64 a0_0), .v (.int .i64 a0_1), .v (.int .i64 a0_2)], .pr 1 (l1.map eI), .v (.int .i64 a2), .v (.int .i64 a3)] (.tu [.ow 3 1 (r1.map eI), .v (.bool r2)]) := by
  refine Ctr_of tyOk hm Tryz.func71 rfl rfl (by kernel_rfl) (n := 43) (rv := [.tmp 8, .tmp 9]) rfl rfl ?_
  simp only [W, List.replicate]
  unfold spec_MoveOne.f at h
  replace h := bnd h; obtain ⟨t1, A, h⟩ := h
  try simp only [W, p1, p2, p3, p4, p5, p6, p7, p8, p9, p10, p11, p12]
  refine callR (spec_l28Copy.ctr A) ?_
  replace h := bnd h; obtain ⟨t2, A, h⟩ := h
  try simp only [W, p1, p2, p3, p4, p5, p6, p7, p8, p9, p10, p11, p12]
  refine callR (spec_CrowdOk.ctr A) ?_
  replace h := ifT h; rcases h with ⟨rfl, h⟩ | ⟨rfl, h⟩
  · replace h := bnd h; obtain ⟨t4, A, h⟩ := h
    try simp only [W, p1, p2, p3, p4, p5, p6, p7, p8, p9, p10, p11, p12]
    refine callR (spec_l01In.ctr A) ?_
    rcases k with _ | m5; · cases h
    rw [spec_MoveOne.j0] at h
    replace h := ifT h; rcases h with ⟨c6, h⟩ | ⟨c6, h⟩
    · cases h
      try simp only [W, c6, p1, p2, p3, p4, p5, p6, p7, p8, p9, p10, p11, p12]
    · replace h := ifN h; obtain ⟨c7, h⟩ := h
      replace h := ifN h; obtain ⟨c8, h⟩ := h
      replace h := bnd h; obtain ⟨t9, A, h⟩ := h
      try simp only [W, c6, c7, c8, p1, p2, p3, p4, p5, p6, p7, p8, p9, p10, p11, p12]
      refine callR (spec_Step.ctr A) ?_
      replace h := ifS h; rcases h with ⟨c10, h⟩ | ⟨c10, h⟩
      · cases h
        try simp only [W, c6, c7, c8, c10, p1, p2, p3, p4, p5, p6, p7, p8, p9, p10, p11, p12]
      · replace h := bnd h; obtain ⟨t11, A, h⟩ := h
        try simp only [W, c6, c7, c8, c10, p1, p2, p3, p4, p5, p6, p7, p8, p9, p10, p11, p12]
        refine callR (spec_l07In.ctr A) ?_
        replace h := ifT h; rcases h with ⟨rfl, h⟩ | ⟨rfl, h⟩
        · cases h
          try simp only [W, c6, c7, c8, c10, p1, p2, p3, p4, p5, p6, p7, p8, p9, p10, p11, p12]
        · replace h := ifN h; obtain ⟨c13, h⟩ := h
          cases h
          try simp only [W, c6, c7, c8, c10, c13, p1, p2, p3, p4, p5, p6, p7, p8, p9, p10, p11, p12]
  · rcases k with _ | m14; · cases h
    rw [spec_MoveOne.j0] at h
    rw [if_pos rfl] at h
    cases h
    try simp only [W, p1, p2, p3, p4, p5, p6, p7, p8, p9, p10, p11, p12]
end Go.Proofs.YtkindoepnganmaaGreat.F
end

section
namespace Go.Proofs.YtkindoepnganmaaGreat.F
open Go.RowKit Go.Proofs.YtkindoepnganmaaGreatW.PrintWords Go.Proofs.YtkindoepnganmaaGreatW.PrintLast Go.Proofs.YtkindoepnganmaaGreatW.PrintMore
set_option linter.unusedVariables false
set_option linter.unusedSimpArgs false
attribute [local go_sem] max2_int min2_int max_two min_two
set_option maxRecDepth 20000 in set_option maxHeartbeats 4000000 in open Nat renaming reduceAdd → p1, reduceSub → p2, reduceMul → p3, reduceDiv → p4, reduceBNe → p5, reduceBEq → p6, reduceEqDiff → p7, reduceLeDiff → p8, reduceLT → p9 in open Int renaming reduceLE → p10, reduceLT → p11, reduceEq → p12 in
theorem slices_Index_int.ctr {k : Nat} {l0 : List Int} {a1 : Int} {r : Int} (h : slices_Index_int.f k l0 a1 = some r) : Ctr Tryz.prog 69 [.pr 1 (l0.map eI), .v (.int .i64 a1)] (.v (.int .i64 r)) := by
  refine Ctr_of tyOk hm Tryz.func69 rfl rfl (by kernel_rfl) (n := 17) (rv := [.tmp 4]) rfl rfl ?_
  simp only [W, List.replicate]
  unfold slices_Index_int.f at h
  try simp only [W, p1, p2, p3, p4, p5, p6, p7, p8, p9, p10, p11, p12]
  refine loopN (fun x : List Int × Int × Int × Int => [.pr 1 (List.map eI x.1), .v (.int .i64 x.2.1), .u, .u, .u, .u, .u, .v (.int .i64 x.2.2.1), .v (.int .i64 x.2.2.2), .u, .u, .u, .u, .u, .u, .u, .u, .u, .u]) (fun x => []) (fun n x => slices_Index_int.l0 n x.1 x.2.1 x.2.2.1 x.2.2.2 = some r) (l0, a1, (l0.length : Int), 0) [] h (by simp only [W, p1, p2, p3, p4, p5, p6, p7, p8, p9, p10, p11, p12] <;> trivial) (by simp only [W, p1, p2, p3, p4, p5, p6, p7, p8, p9, p10, p11, p12] <;> trivial) rfl (fun _ h => by cases h) ?_
  intro n1 ⟨x1, x2, x3, x4⟩ _ h
  simp only [slices_Index_int.l0] at h
  replace h := ifS h; rcases h with ⟨c5, h⟩ | ⟨c5, h⟩
  · replace h := ifN h; obtain ⟨c6, h⟩ := h
    replace h := ifN h; obtain ⟨c7, h⟩ := h
    replace h := ifS h; rcases h with ⟨c8, h⟩ | ⟨c8, h⟩
    · cases h
      try simp only [W, c5, c6, c7, eq_true c8, p1, p2, p3, p4, p5, p6, p7, p8, p9, p10, p11, p12]
    · try simp only [W, c5, c6, c7, c8, p1, p2, p3, p4, p5, p6, p7, p8, p9, p10, p11, p12]
      exact nextN (x1, x2, x3, (wrap64 (x4 + 1))) [] n1 (by omega) h (by simp only [W, p1, p2, p3, p4, p5, p6, p7, p8, p9, p10, p11, p12] <;> trivial) (by simp only [W, p1, p2, p3, p4, p5, p6, p7, p8, p9, p10, p11, p12] <;> trivial) rfl
  · cases h
    try simp only [W, c5, p1, p2, p3, p4, p5, p6, p7, p8, p9, p10, p11, p12]
end Go.Proofs.YtkindoepnganmaaGreat.F
end

section
namespace Go.Proofs.YtkindoepnganmaaGreat.F
open Go.RowKit Go.Proofs.YtkindoepnganmaaGreatW.PrintWords Go.Proofs.YtkindoepnganmaaGreatW.PrintLast Go.Proofs.YtkindoepnganmaaGreatW.PrintMore
set_option linter.unusedVariables false
set_option linter.unusedSimpArgs false
attribute [local go_sem] max2_int min2_int max_two min_two
set_option maxRecDepth 20000 in set_option maxHeartbeats 4000000 in open Nat renaming reduceAdd → p1, reduceSub → p2, reduceMul → p3, reduceDiv → p4, reduceBNe → p5, reduceBEq → p6, reduceEqDiff → p7, reduceLeDiff → p8, reduceLT → p9 in open Int renaming reduceLE → p10, reduceLT → p11, reduceEq → p12 in
theorem spec_WalkIn.ctr {k : Nat} {a0_0 : Int} {a0_1 : Int} {a0_2 : Int} {l0_3 : List Int} {a0_4 : Int} {a0_5 : Int} {l0_6 : List Int} {a0_7 : Int} {a1 : Int} {a2 : Int} {r1 : Int} {r2 : Int} {r3 : Int} {r4 : List Int} {r5 : Int} {r6 : Int} {r7 : List Int} {r8 : Int} {r9 : Bool} (h : spec_WalkIn.f k a0_0 a0_1 a0_2 l0_3 a0_4 a0_5 l0_6 a0_7 a1 a2 = some (r1, r2, r3, r4, r5, r6, r7, r8, r9)) : Ctr Tryz.prog 24 [.ag [.v (.int .i64 a0_0), .v (.int .i64 a0_1), .v (.int .i64 a0_2), .pr 1 (l0_3.map eI), .v (.int .i64 a0_4), .v (.int .i64 a0_5), .pr 1 (l0_6.map eI), .v (.int .i64 a0_7)], .v (.int .i64 a1), .v (.int .i64 a2)] (.tu [.ag [.v (.int .i64 r1), .v (.int .i64 r2), .v (.int .i64 r3), .ow 3 1 (r4.map eI), .v (.int .i64 r5), .v (.int .i64 r6), .ow 3 1 (r7.map eI), .v (.int .i64 r8)], .v (.bool r9)]) := by
  refine Ctr_of tyOk hm Tryz.func24 rfl rfl (by kernel_rfl) (n := 29) (rv := [.cell 6 38, .tmp 7]) rfl rfl ?_
  simp only [W, List.replicate]
  unfold spec_WalkIn.f at h
  replace h := bnd h; obtain ⟨⟨t1_1, t1_2, t1_3, t1_4, t1_5, t1_6, t1_7, t1_8⟩, A, h⟩ := h
  dsimp only at h
  try simp only [W, p1, p2, p3, p4, p5, p6, p7, p8, p9, p10, p11, p12]
  refine callR (spec_l38Copy.ctr A) ?_
  replace h := bnd h; obtain ⟨t2, A, h⟩ := h
  try simp only [W, p1, p2, p3, p4, p5, p6, p7, p8, p9, p10, p11, p12]
  refine callR (spec_GardenOk.ctr A) ?_
  replace h := ifT h; rcases h with ⟨rfl, h⟩ | ⟨rfl, h⟩
  · replace h := bnd h; obtain ⟨⟨t4_1, t4_2, t4_3⟩, A, h⟩ := h
    dsimp only at h
    try simp only [W, p1, p2, p3, p4, p5, p6, p7, p8, p9, p10, p11, p12]
    refine callR (spec_OpenNow.ctr A) ?_
    replace h := bnd h; obtain ⟨⟨t5_1, t5_2⟩, A, h⟩ := h
    dsimp only at h
    try simp only [W, p1, p2, p3, p4, p5, p6, p7, p8, p9, p10, p11, p12]
    refine callR (spec_MoveOne.ctr A) ?_
    cases h
    try simp only [W, p1, p2, p3, p4, p5, p6, p7, p8, p9, p10, p11, p12]
  · cases h
    try simp only [W, p1, p2, p3, p4, p5, p6, p7, p8, p9, p10, p11, p12]
set_option maxRecDepth 20000 in set_option maxHeartbeats 4000000 in open Nat renaming reduceAdd → p1, reduceSub → p2, reduceMul → p3, reduceDiv → p4, reduceBNe → p5, reduceBEq → p6, reduceEqDiff → p7, reduceLeDiff → p8, reduceLT → p9 in open Int renaming reduceLE → p10, reduceLT → p11, reduceEq → p12 in
theorem slices_Contains_int.ctr {k : Nat} {l0 : List Int} {a1 : Int} {r : Bool} (h : slices_Contains_int.f k l0 a1 = some r) : Ctr Tryz.prog 118 [.pr 1 (l0.map eI), .v (.int .i64 a1)] (.v (.bool r)) := by
  refine Ctr_of tyOk hm Tryz.func118 rfl rfl (by kernel_rfl) (n := 7) (rv := [.tmp 4]) rfl rfl ?_
  simp only [W, List.replicate]
  unfold slices_Contains_int.f at h
  replace h := bnd h; obtain ⟨t1, A, h⟩ := h
  try simp only [W, p1, p2, p3, p4, p5, p6, p7, p8, p9, p10, p11, p12]
  refine callR (slices_Index_int.ctr A) ?_
  cases h
  try simp only [W, p1, p2, p3, p4, p5, p6, p7, p8, p9, p10, p11, p12]
end Go.Proofs.YtkindoepnganmaaGreat.F
end

section
namespace Go.Proofs.YtkindoepnganmaaGreat.F
open Go.RowKit Go.Proofs.YtkindoepnganmaaGreatW.PrintWords Go.Proofs.YtkindoepnganmaaGreatW.PrintLast Go.Proofs.YtkindoepnganmaaGreatW.PrintMore
set_option linter.unusedVariables false
set_option linter.unusedSimpArgs false
attribute [local go_sem] max2_int min2_int max_two min_two
set_option maxRecDepth 20000 in set_option maxHeartbeats 4000000 in open Nat renaming reduceAdd → p1, reduceSub → p2, reduceMul → p3, reduceDiv → p4, reduceBNe → p5, reduceBEq → p6, reduceEqDiff → p7, reduceLeDiff → p8, reduceLT → p9 in open Int renaming reduceLE → p10, reduceLT → p11, reduceEq → p12 in
theorem spec_Guide.ctr {k : Nat} {a0_0 : Int} {a0_1 : Int} {a0_2 : Int} {l0_3 : List Int} {a0_4 : Int} {a0_5 : Int} {l0_6 : List Int} {a0_7 : Int} {a1 : Int} {r1 : Int} {r2 : Int} {r3 : Int} {r4 : List Int} {r5 : Int} {r6 : Int} {r7 : List Int} {r8 : Int} {r9 : Bool} (h : spec_Guide.f k a0_0 a0_1 a0_2 l0_3 a0_4 a0_5 l0_6 a0_7 a1 = some (r1, r2, r3, r4, r5, r6, r7, r8, r9)) : Ctr Tryz.prog 28 [.ag [.v (.int .i64 a0_0), .v (.int .i64 a0_1), .v (.int .i64 a0_2), .pr 1 (l0_3.map eI), .v (.int .i64 a0_4), .v (.int .i64 a0_5), .pr 1 (l0_6.map eI), .v (.int .i64 a0_7)], .v (.int .i64 a1)] (.tu [.ag [.v (.int .i64 r1), .v (.int .i64 r2), .v (.int .i64 r3), .ow 3 1 (r4.map eI), .v (.int .i64 r5), .v (.int .i64 r6), .ow 3 1 (r7.map eI), .v (.int .i64 r8)], .v (.bool r9)]) := by
  refine Ctr_of tyOk hm Tryz.func28 rfl rfl (by kernel_rfl) (n := 52) (rv := [.cell 4 38, .tmp 5]) rfl rfl ?_
  simp only [W, List.replicate]
  unfold spec_Guide.f at h
  replace h := bnd h; obtain ⟨⟨t1_1, t1_2, t1_3, t1_4, t1_5, t1_6, t1_7, t1_8⟩, A, h⟩ := h
  dsimp only at h
  try simp only [W, p1, p2, p3, p4, p5, p6, p7, p8, p9, p10, p11, p12]
  refine callR (spec_l38Copy.ctr A) ?_
  replace h := bnd h; obtain ⟨t2, A, h⟩ := h
  try simp only [W, p1, p2, p3, p4, p5, p6, p7, p8, p9, p10, p11, p12]
  refine callR (spec_GardenOk.ctr A) ?_
  replace h := ifT h; rcases h with ⟨rfl, h⟩ | ⟨rfl, h⟩
  · replace h := bnd h; obtain ⟨t4, A, h⟩ := h
    try simp only [W, p1, p2, p3, p4, p5, p6, p7, p8, p9, p10, p11, p12]
    refine callR (spec_l01In.ctr A) ?_
    rcases k with _ | m5; · cases h
    rw [spec_Guide.j0] at h
    replace h := ifT h; rcases h with ⟨c6, h⟩ | ⟨c6, h⟩
    · cases h
      try simp only [W, c6, p1, p2, p3, p4, p5, p6, p7, p8, p9, p10, p11, p12]
    · replace h := bnd h; obtain ⟨⟨t7_1, t7_2, t7_3⟩, A, h⟩ := h
      dsimp only at h
      try simp only [W, c6, p1, p2, p3, p4, p5, p6, p7, p8, p9, p10, p11, p12]
      refine callR (spec_OpenNow.ctr A) ?_
      replace h := ifN h; obtain ⟨c8, h⟩ := h
      replace h := ifN h; obtain ⟨c9, h⟩ := h
      replace h := bnd h; obtain ⟨⟨t10_1, t10_2⟩, A, h⟩ := h
      dsimp only at h
      try simp only [W, c6, c8, c9, p1, p2, p3, p4, p5, p6, p7, p8, p9, p10, p11, p12]
      refine callR (spec_WayBetween.ctr A) ?_
      replace h := ifT h; rcases h with ⟨rfl, h⟩ | ⟨rfl, h⟩
      · replace h := ifS h; rcases h with ⟨c12, h⟩ | ⟨c12, h⟩
        · cases h
          try simp only [W, c6, c8, c9, eq_true c12, p1, p2, p3, p4, p5, p6, p7, p8, p9, p10, p11, p12]
        · replace h := ifN h; obtain ⟨c13, h⟩ := h
          replace h := bnd h; obtain ⟨⟨t14_1, t14_2, t14_3, t14_4, t14_5, t14_6, t14_7, t14_8, t14_9⟩, A, h⟩ := h
          dsimp only at h
          try simp only [W, c6, c8, c9, c12, c13, p1, p2, p3, p4, p5, p6, p7, p8, p9, p10, p11, p12]
          refine callR (spec_WalkIn.ctr A) ?_
          cases h
          try simp only [W, c6, c8, c9, c12, c13, p1, p2, p3, p4, p5, p6, p7, p8, p9, p10, p11, p12]
      · cases h
        try simp only [W, c6, c8, c9, p1, p2, p3, p4, p5, p6, p7, p8, p9, p10, p11, p12]
  · rcases k with _ | m15; · cases h
    rw [spec_Guide.j0] at h
    rw [if_pos rfl] at h
    cases h
    try simp only [W, p1, p2, p3, p4, p5, p6, p7, p8, p9, p10, p11, p12]
theorem spec_Guide.calls (k : Nat) (a0_0 : Int) (a0_1 : Int) (a0_2 : Int) (A0_3 : Option Addr) (c0_3 : Nat) (l0_3 : List Int) (a0_4 : Int) (a0_5 : Int) (A0_6 : Option Addr) (c0_6 : Nat) (l0_6 : List Int) (a0_7 : Int) (a1 : Int) (r1 : Int) (r2 : Int) (r3 : Int) (r4 : List Int) (r5 : Int) (r6 : Int) (r7 : List Int) (r8 : Int) (r9 : Bool) (w : World) (hr0_3 : Kd.C (Kd.int .i64) w A0_3 l0_3.length l0_3) (hc0_3 : l0_3.length ≤ c0_3) (hr0_6 : Kd.C (Kd.int .i64) w A0_6 l0_6.length l0_6) (hc0_6 : l0_6.length ≤ c0_6) (h : spec_Guide.f k a0_0 a0_1 a0_2 l0_3 a0_4 a0_5 l0_6 a0_7 a1 = some (r1, r2, r3, r4, r5, r6, r7, r8, r9)) :
    Calls Tryz.prog 28 #[.agg #[.int .i64 a0_0, .int .i64 a0_1, .int .i64 a0_2, .slice A0_3 l0_3.length c0_3, .int .i64 a0_4, .int .i64 a0_5, .slice A0_6 l0_6.length c0_6, .int .i64 a0_7], .int .i64 a1] w fun e w' => ∃ v3_ v6_ : Value, e = .returned (.tuple #[.agg #[.int .i64 r1, .int .i64 r2, .int .i64 r3, v3_, .int .i64 r5, .int .i64 r6, v6_, .int .i64 r8], .bool r9]) ∧ Kd.R (Kd.int .i64) 3 w' w.heap.size (fun k_ => some k_ ≠ (v6_ : Value).ownBlock) v3_ r4 ∧ Kd.R (Kd.int .i64) 3 w' w.heap.size (fun k_ => some k_ ≠ (v3_ : Value).ownBlock) v6_ r7 ∧ Below w.heap.size w w' := by
  refine ((spec_Guide.ctr h).2 w [.agg #[.int .i64 a0_0, .int .i64 a0_1, .int .i64 a0_2, .slice A0_3 l0_3.length c0_3, .int .i64 a0_4, .int .i64 a0_5, .slice A0_6 l0_6.length c0_6, .int .i64 a0_7], .int .i64 a1] (by simp only [RepL, Rep]; exact ⟨_, _, rfl, ⟨_, rfl, _, _, rfl, rfl, _, _, rfl, rfl, _, _, rfl, rfl, _, _, rfl, at_of_C E_eI hr0_3 hc0_3, _, _, rfl, rfl, _, _, rfl, rfl, _, _, rfl, at_of_C E_eI hr0_6 hc0_6, _, _, rfl, rfl, rfl⟩, _, _, rfl, rfl, rfl⟩)).mono ?_
  rintro _ _ ⟨y, L, rfl, hR, hn, hb⟩
  simp only [RepR, RepRL] at hR
  obtain ⟨_, rfl, _, _, _, _, rfl, rfl, ⟨_, rfl, _, _, _, _, rfl, rfl, ⟨rfl, rfl⟩, _, _, _, _, rfl, rfl, ⟨rfl, rfl⟩, _, _, _, _, rfl, rfl, ⟨rfl, rfl⟩, y1_, _, _, _, rfl, rfl, ⟨o1, _, _, rfl⟩, _, _, _, _, rfl, rfl, ⟨rfl, rfl⟩, _, _, _, _, rfl, rfl, ⟨rfl, rfl⟩, y2_, _, _, _, rfl, rfl, ⟨o2, _, _, rfl⟩, _, _, _, _, rfl, rfl, ⟨rfl, rfl⟩, rfl, rfl⟩, _, _, _, _, rfl, rfl, ⟨rfl, rfl⟩, rfl, rfl⟩ := hR
  have hN : ∀ k, bk y1_ = some k → some k ≠ y2_.ownBlock := by intro k h1 h2; rw [bk_own o2] at h2; simp [h1, ← h2] at hn
  have hM : ∀ k, bk y2_ = some k → some k ≠ y1_.ownBlock := by intro k h1 h2; rw [bk_own o1] at h2; simp [h1, ← h2] at hn
  exact ⟨y1_, y2_, rfl, R_of_rowO E_eI o1 hN, R_of_rowO E_eI o2 hM, hb⟩
end Go.Proofs.YtkindoepnganmaaGreat.F
end

section
namespace Go.Proofs.YtkindoepnganmaaGreat.F
open Go.RowKit Go.Proofs.YtkindoepnganmaaGreatW.PrintWords Go.Proofs.YtkindoepnganmaaGreatW.PrintLast Go.Proofs.YtkindoepnganmaaGreatW.PrintMore
set_option linter.unusedVariables false
set_option linter.unusedSimpArgs false
attribute [local go_sem] max2_int min2_int max_two min_two
set_option maxRecDepth 20000 in set_option maxHeartbeats 4000000 in open Nat renaming reduceAdd → p1, reduceSub → p2, reduceMul → p3, reduceDiv → p4, reduceBNe → p5, reduceBEq → p6, reduceEqDiff → p7, reduceLeDiff → p8, reduceLT → p9 in open Int renaming reduceLE → p10, reduceLT → p11, reduceEq → p12 in
theorem laws_szIntS.ctr {l0 : List Int} {a1 : Int} {r : Int} (h : laws_szIntS.f l0 a1 = some r) : Ctr Tryz.prog 61 [.pr 1 (l0.map eI), .v (.int .i64 a1)] (.v (.int .i64 r)) := by
  refine Ctr_of tyOk hm Tryz.func61 rfl rfl (by kernel_rfl) (n := 10) (rv := [.tmp 4]) rfl rfl ?_
  simp only [W, List.replicate]
  unfold laws_szIntS.f at h
  replace h := ifS h; rcases h with ⟨c1, h⟩ | ⟨c1, h⟩
  · cases h
    try simp only [W, c1, p1, p2, p3, p4, p5, p6, p7, p8, p9, p10, p11, p12]
  · cases h
    try simp only [W, c1, p1, p2, p3, p4, p5, p6, p7, p8, p9, p10, p11, p12]
set_option maxRecDepth 20000 in set_option maxHeartbeats 4000000 in open Nat renaming reduceAdd → p1, reduceSub → p2, reduceMul → p3, reduceDiv → p4, reduceBNe → p5, reduceBEq → p6, reduceEqDiff → p7, reduceLeDiff → p8, reduceLT → p9 in open Int renaming reduceLE → p10, reduceLT → p11, reduceEq → p12 in
theorem laws_szHedge.ctr {a0_0 : Int} {a0_1 : Int} {a0_2 : Int} {l0_3 : List Int} {a0_4 : Int} {a1 : Int} {r : Int} (h : laws_szHedge.f a0_0 a0_1 a0_2 l0_3 a0_4 a1 = some r) : Ctr Tryz.prog 60 [.ag [.v (.int .i64 a0_0), .v (.int .i64 a0_1), .v (.int .i64 a0_2), .pr 1 (l0_3.map eI), .v (.int .i64 a0_4)], .v (.int .i64 a1)] (.v (.int .i64 r)) := by
  refine Ctr_of tyOk hm Tryz.func60 rfl rfl (by kernel_rfl) (n := 10) (rv := [.tmp 4]) rfl rfl ?_
  simp only [W, List.replicate]
  unfold laws_szHedge.f at h
  replace h := bnd h; obtain ⟨t1, A, h⟩ := h
  try simp only [W, p1, p2, p3, p4, p5, p6, p7, p8, p9, p10, p11, p12]
  refine callR (laws_szIntS.ctr A) ?_
  replace h := ifS h; rcases h with ⟨c2, h⟩ | ⟨c2, h⟩
  · cases h
    try simp only [W, c2, p1, p2, p3, p4, p5, p6, p7, p8, p9, p10, p11, p12]
  · cases h
    try simp only [W, c2, p1, p2, p3, p4, p5, p6, p7, p8, p9, p10, p11, p12]
set_option maxRecDepth 20000 in set_option maxHeartbeats 4000000 in open Nat renaming reduceAdd → p1, reduceSub → p2, reduceMul → p3, reduceDiv → p4, reduceBNe → p5, reduceBEq → p6, reduceEqDiff → p7, reduceLeDiff → p8, reduceLT → p9 in open Int renaming reduceLE → p10, reduceLT → p11, reduceEq → p12 in
theorem laws_szGarden.ctr {a0_0 : Int} {a0_1 : Int} {a0_2 : Int} {l0_3 : List Int} {a0_4 : Int} {a0_5 : Int} {l0_6 : List Int} {a0_7 : Int} {a1 : Int} {r : Int} (h : laws_szGarden.f a0_0 a0_1 a0_2 l0_3 a0_4 a0_5 l0_6 a0_7 a1 = some r) : Ctr Tryz.prog 15 [.ag [.v (.int .i64 a0_0), .v (.int .i64 a0_1), .v (.int .i64 a0_2), .pr 1 (l0_3.map eI), .v (.int .i64 a0_4), .v (.int .i64 a0_5), .pr 1 (l0_6.map eI), .v (.int .i64 a0_7)], .v (.int .i64 a1)] (.v (.int .i64 r)) := by
  refine Ctr_of tyOk hm Tryz.func15 rfl rfl (by kernel_rfl) (n := 16) (rv := [.tmp 4]) rfl rfl ?_
  simp only [W, List.replicate]
  unfold laws_szGarden.f at h
  replace h := bnd h; obtain ⟨t1, A, h⟩ := h
  try simp only [W, p1, p2, p3, p4, p5, p6, p7, p8, p9, p10, p11, p12]
  refine callR (laws_szHedge.ctr A) ?_
  replace h := ifS h; rcases h with ⟨c2, h⟩ | ⟨c2, h⟩
  · cases h
    try simp only [W, c2, p1, p2, p3, p4, p5, p6, p7, p8, p9, p10, p11, p12]
  · replace h := bnd h; obtain ⟨t3, A, h⟩ := h
    try simp only [W, c2, p1, p2, p3, p4, p5, p6, p7, p8, p9, p10, p11, p12]
    refine callR (laws_szIntS.ctr A) ?_
    replace h := ifS h; rcases h with ⟨c4, h⟩ | ⟨c4, h⟩
    · cases h
      try simp only [W, c2, c4, p1, p2, p3, p4, p5, p6, p7, p8, p9, p10, p11, p12]
    · cases h
      try simp only [W, c2, c4, p1, p2, p3, p4, p5, p6, p7, p8, p9, p10, p11, p12]
theorem laws_szGarden.calls (a0_0 : Int) (a0_1 : Int) (a0_2 : Int) (A0_3 : Option Addr) (c0_3 : Nat) (l0_3 : List Int) (a0_4 : Int) (a0_5 : Int) (A0_6 : Option Addr) (c0_6 : Nat) (l0_6 : List Int) (a0_7 : Int) (a1 : Int) (r : Int) (w : World) (hr0_3 : Kd.C (Kd.int .i64) w A0_3 l0_3.length l0_3) (hc0_3 : l0_3.length ≤ c0_3) (hr0_6 : Kd.C (Kd.int .i64) w A0_6 l0_6.length l0_6) (hc0_6 : l0_6.length ≤ c0_6) (h : laws_szGarden.f a0_0 a0_1 a0_2 l0_3 a0_4 a0_5 l0_6 a0_7 a1 = some r) :
    Calls Tryz.prog 15 #[.agg #[.int .i64 a0_0, .int .i64 a0_1, .int .i64 a0_2, .slice A0_3 l0_3.length c0_3, .int .i64 a0_4, .int .i64 a0_5, .slice A0_6 l0_6.length c0_6, .int .i64 a0_7], .int .i64 a1] w fun e w' => e = .returned (.int .i64 r) ∧ Below w.heap.size w w' := by
  refine ((laws_szGarden.ctr h).2 w [.agg #[.int .i64 a0_0, .int .i64 a0_1, .int .i64 a0_2, .slice A0_3 l0_3.length c0_3, .int .i64 a0_4, .int .i64 a0_5, .slice A0_6 l0_6.length c0_6, .int .i64 a0_7], .int .i64 a1] (by simp only [RepL, Rep]; exact ⟨_, _, rfl, ⟨_, rfl, _, _, rfl, rfl, _, _, rfl, rfl, _, _, rfl, rfl, _, _, rfl, at_of_C E_eI hr0_3 hc0_3, _, _, rfl, rfl, _, _, rfl, rfl, _, _, rfl, at_of_C E_eI hr0_6 hc0_6, _, _, rfl, rfl, rfl⟩, _, _, rfl, rfl, rfl⟩)).mono ?_
  rintro _ _ ⟨y, L, rfl, hR, _, hb⟩
  exact ⟨congrArg Ending.returned (RepR_pln rfl hR).1, hb⟩
set_option maxRecDepth 20000 in set_option maxHeartbeats 4000000 in open Nat renaming reduceAdd → p1, reduceSub → p2, reduceMul → p3, reduceDiv → p4, reduceBNe → p5, reduceBEq → p6, reduceEqDiff → p7, reduceLeDiff → p8, reduceLT → p9 in open Int renaming reduceLE → p10, reduceLT → p11, reduceEq → p12 in
theorem laws_toIntS.ctr {k : Nat} {l0 : List Int} {r : List Int} (h : laws_toIntS.f k l0 = some r) : Ctr Tryz.prog 43 [.pr 1 (l0.map eI)] (.ow 3 1 (r.map eI)) := by
  refine Ctr_of tyOk hm Tryz.func43 rfl rfl (by kernel_rfl) (n := 21) (rv := [.tmp 2]) rfl rfl ?_
  simp only [W, List.replicate]
  unfold laws_toIntS.f at h
  replace h := ifN h; obtain ⟨c1, h⟩ := h
  replace h := ifN h; obtain ⟨c2, h⟩ := h
  try simp only [W, c1, c2, p1, p2, p3, p4, p5, p6, p7, p8, p9, p10, p11, p12]
  refine loopN (fun x : List Int × List Int × Int => [.pr 1 (List.map eI x.1), .u, .u, .lo 112, .v (.int .i64 x.2.2), .u, .u, .u, .u, .u, .u, .u, .u, .u, .u, .u, .u, .u, .u, .u, .u, .u]) (fun x => [(112, .row 3 1 (List.map eI x.2.1))]) (fun n x => laws_toIntS.l0 n x.1 x.2.1 x.2.2 = some r) (l0, (List.replicate ((l0.length : Int) : Int).toNat 0), 0) [] h (by simp only [W, p1, p2, p3, p4, p5, p6, p7, p8, p9, p10, p11, p12] <;> trivial) (by simp only [W, p1, p2, p3, p4, p5, p6, p7, p8, p9, p10, p11, p12] <;> trivial) rfl (fun _ h => by cases h) ?_
  intro n1 ⟨x3, x4, x5⟩ _ h
  simp only [laws_toIntS.l0] at h
  replace h := ifS h; rcases h with ⟨c6, h⟩ | ⟨c6, h⟩
  · replace h := ifN h; obtain ⟨c7, h⟩ := h
    replace h := ifN h; obtain ⟨c8, h⟩ := h
    try simp only [W, c6, c7, c8, p1, p2, p3, p4, p5, p6, p7, p8, p9, p10, p11, p12]
    exact nextN (x3, (x4.set (x5 : Int).toNat (rd x3 x5)), (wrap64 (x5 + 1))) [] n1 (by omega) h (by simp only [W, p1, p2, p3, p4, p5, p6, p7, p8, p9, p10, p11, p12] <;> trivial) (by simp only [W, p1, p2, p3, p4, p5, p6, p7, p8, p9, p10, p11, p12] <;> trivial) rfl
  · cases h
    try simp only [W, c6, p1, p2, p3, p4, p5, p6, p7, p8, p9, p10, p11, p12]
set_option maxRecDepth 20000 in set_option maxHeartbeats 4000000 in open Nat renaming reduceAdd → p1, reduceSub → p2, reduceMul → p3, reduceDiv → p4, reduceBNe → p5, reduceBEq → p6, reduceEqDiff → p7, reduceLeDiff → p8, reduceLT → p9 in open Int renaming reduceLE → p10, reduceLT → p11, reduceEq → p12 in
theorem laws_toGrid.ctr {a0_0 : Int} {a0_1 : Int} {r1 : Int} {r2 : Int} (h : laws_toGrid.f a0_0 a0_1 = some (r1, r2)) : Ctr Tryz.prog 146 [.ag [.v (.int .i64 a0_0), .v (.int .i64 a0_1)]] (.ag [.v (.int .i64 r1), .v (.int .i64 r2)]) := by
  refine Ctr_of tyOk hm Tryz.func146 rfl rfl (by kernel_rfl) (n := 10) (rv := [.cell 2 32]) rfl rfl ?_
  simp only [W, List.replicate]
  unfold laws_toGrid.f at h
  cases h
  try simp only [W, p1, p2, p3, p4, p5, p6, p7, p8, p9, p10, p11, p12]
set_option maxRecDepth 20000 in set_option maxHeartbeats 4000000 in open Nat renaming reduceAdd → p1, reduceSub → p2, reduceMul → p3, reduceDiv → p4, reduceBNe → p5, reduceBEq → p6, reduceEqDiff → p7, reduceLeDiff → p8, reduceLT → p9 in open Int renaming reduceLE → p10, reduceLT → p11, reduceEq → p12 in
theorem laws_toMaze.ctr {a0_0 : Int} {a0_1 : Int} {a0_2 : Int} {r1 : Int} {r2 : Int} {r3 : Int} (h : laws_toMaze.f a0_0 a0_1 a0_2 = some (r1, r2, r3)) : Ctr Tryz.prog 112 [.ag [.v (.int .i64 a0_0), .v (.int .i64 a0_1), .v (.int .i64 a0_2)]] (.ag [.v (.int .i64 r1), .v (.int .i64 r2), .v (.int .i64 r3)]) := by
  refine Ctr_of tyOk hm Tryz.func112 rfl rfl (by kernel_rfl) (n := 11) (rv := [.cell 2 34]) rfl rfl ?_
  simp only [W, List.replicate]
  unfold laws_toMaze.f at h
  replace h := bnd h; obtain ⟨⟨t1_1, t1_2⟩, A, h⟩ := h
  dsimp only at h
  try simp only [W, p1, p2, p3, p4, p5, p6, p7, p8, p9, p10, p11, p12]
  refine callR (laws_toGrid.ctr A) ?_
  cases h
  try simp only [W, p1, p2, p3, p4, p5, p6, p7, p8, p9, p10, p11, p12]
set_option maxRecDepth 20000 in set_option maxHeartbeats 4000000 in open Nat renaming reduceAdd → p1, reduceSub → p2, reduceMul → p3, reduceDiv → p4, reduceBNe → p5, reduceBEq → p6, reduceEqDiff → p7, reduceLeDiff → p8, reduceLT → p9 in open Int renaming reduceLE → p10, reduceLT → p11, reduceEq → p12 in
theorem laws_toHedge.ctr {k : Nat} {a0_0 : Int} {a0_1 : Int} {a0_2 : Int} {l0_3 : List Int} {a0_4 : Int} {r1 : Int} {r2 : Int} {r3 : Int} {r4 : List Int} {r5 : Int} (h : laws_toHedge.f k a0_0 a0_1 a0_2 l0_3 a0_4 = some (r1, r2, r3, r4, r5)) : Ctr Tryz.prog 63 [.ag [.v (.int .i64 a0_0), .v (.int .i64 a0_1), .v (.int .i64 a0_2), .pr 1 (l0_3.map eI), .v (.int .i64 a0_4)]] (.ag [.v (.int .i64 r1), .v (.int .i64 r2), .v (.int .i64 r3), .ow 3 1 (r4.map eI), .v (.int .i64 r5)]) := by
  refine Ctr_of tyOk hm Tryz.func63 rfl rfl (by kernel_rfl) (n := 15) (rv := [.cell 2 36]) rfl rfl ?_
  simp only [W, List.replicate]
  unfold laws_toHedge.f at h
  replace h := bnd h; obtain ⟨⟨t1_1, t1_2, t1_3⟩, A, h⟩ := h
  dsimp only at h
  try simp only [W, p1, p2, p3, p4, p5, p6, p7, p8, p9, p10, p11, p12]
  refine callR (laws_toMaze.ctr A) ?_
  replace h := bnd h; obtain ⟨t2, A, h⟩ := h
  try simp only [W, p1, p2, p3, p4, p5, p6, p7, p8, p9, p10, p11, p12]
  refine callR (laws_toIntS.ctr A) ?_
  cases h
  try simp only [W, p1, p2, p3, p4, p5, p6, p7, p8, p9, p10, p11, p12]
set_option maxRecDepth 20000 in set_option maxHeartbeats 4000000 in open Nat renaming reduceAdd → p1, reduceSub → p2, reduceMul → p3, reduceDiv → p4, reduceBNe → p5, reduceBEq → p6, reduceEqDiff → p7, reduceLeDiff → p8, reduceLT → p9 in open Int renaming reduceLE → p10, reduceLT → p11, reduceEq → p12 in
theorem laws_toGarden.ctr {k : Nat} {a0_0 : Int} {a0_1 : Int} {a0_2 : Int} {l0_3 : List Int} {a0_4 : Int} {a0_5 : Int} {l0_6 : List Int} {a0_7 : Int} {r1 : Int} {r2 : Int} {r3 : Int} {r4 : List Int} {r5 : Int} {r6 : Int} {r7 : List Int} {r8 : Int} (h : laws_toGarden.f k a0_0 a0_1 a0_2 l0_3 a0_4 a0_5 l0_6 a0_7 = some (r1, r2, r3, r4, r5, r6, r7, r8)) : Ctr Tryz.prog 17 [.ag [.v (.int .i64 a0_0), .v (.int .i64 a0_1), .v (.int .i64 a0_2), .pr 1 (l0_3.map eI), .v (.int .i64 a0_4), .v (.int .i64 a0_5), .pr 1 (l0_6.map eI), .v (.int .i64 a0_7)]] (.ag [.v (.int .i64 r1), .v (.int .i64 r2), .v (.int .i64 r3), .ow 3 1 (r4.map eI), .v (.int .i64 r5), .v (.int .i64 r6), .ow 3 1 (r7.map eI), .v (.int .i64 r8)]) := by
  refine Ctr_of tyOk hm Tryz.func17 rfl rfl (by kernel_rfl) (n := 18) (rv := [.cell 2 38]) rfl rfl ?_
  simp only [W, List.replicate]
  unfold laws_toGarden.f at h
  replace h := bnd h; obtain ⟨⟨t1_1, t1_2, t1_3, t1_4, t1_5⟩, A, h⟩ := h
  dsimp only at h
  try simp only [W, p1, p2, p3, p4, p5, p6, p7, p8, p9, p10, p11, p12]
  refine callR (laws_toHedge.ctr A) ?_
  replace h := bnd h; obtain ⟨t2, A, h⟩ := h
  try simp only [W, p1, p2, p3, p4, p5, p6, p7, p8, p9, p10, p11, p12]
  refine callR (laws_toIntS.ctr A) ?_
  cases h
  try simp only [W, p1, p2, p3, p4, p5, p6, p7, p8, p9, p10, p11, p12]
theorem laws_toGarden.calls (k : Nat) (a0_0 : Int) (a0_1 : Int) (a0_2 : Int) (A0_3 : Option Addr) (c0_3 : Nat) (l0_3 : List Int) (a0_4 : Int) (a0_5 : Int) (A0_6 : Option Addr) (c0_6 : Nat) (l0_6 : List Int) (a0_7 : Int) (r1 : Int) (r2 : Int) (r3 : Int) (r4 : List Int) (r5 : Int) (r6 : Int) (r7 : List Int) (r8 : Int) (w : World) (hr0_3 : Kd.C (Kd.int .i64) w A0_3 l0_3.length l0_3) (hc0_3 : l0_3.length ≤ c0_3) (hr0_6 : Kd.C (Kd.int .i64) w A0_6 l0_6.length l0_6) (hc0_6 : l0_6.length ≤ c0_6) (h : laws_toGarden.f k a0_0 a0_1 a0_2 l0_3 a0_4 a0_5 l0_6 a0_7 = some (r1, r2, r3, r4, r5, r6, r7, r8)) :
    Calls Tryz.prog 17 #[.agg #[.int .i64 a0_0, .int .i64 a0_1, .int .i64 a0_2, .slice A0_3 l0_3.length c0_3, .int .i64 a0_4, .int .i64 a0_5, .slice A0_6 l0_6.length c0_6, .int .i64 a0_7]] w fun e w' => ∃ v3_ v6_ : Value, e = .returned (.agg #[.int .i64 r1, .int .i64 r2, .int .i64 r3, v3_, .int .i64 r5, .int .i64 r6, v6_, .int .i64 r8]) ∧ Kd.R (Kd.int .i64) 3 w' w.heap.size (fun k_ => some k_ ≠ (v6_ : Value).ownBlock) v3_ r4 ∧ Kd.R (Kd.int .i64) 3 w' w.heap.size (fun k_ => some k_ ≠ (v3_ : Value).ownBlock) v6_ r7 ∧ Below w.heap.size w w' := by
  refine ((laws_toGarden.ctr h).2 w [.agg #[.int .i64 a0_0, .int .i64 a0_1, .int .i64 a0_2, .slice A0_3 l0_3.length c0_3, .int .i64 a0_4, .int .i64 a0_5, .slice A0_6 l0_6.length c0_6, .int .i64 a0_7]] (by simp only [RepL, Rep]; exact ⟨_, _, rfl, ⟨_, rfl, _, _, rfl, rfl, _, _, rfl, rfl, _, _, rfl, rfl, _, _, rfl, at_of_C E_eI hr0_3 hc0_3, _, _, rfl, rfl, _, _, rfl, rfl, _, _, rfl, at_of_C E_eI hr0_6 hc0_6, _, _, rfl, rfl, rfl⟩, rfl⟩)).mono ?_
  rintro _ _ ⟨y, L, rfl, hR, hn, hb⟩
  simp only [RepR, RepRL] at hR
  obtain ⟨_, rfl, _, _, _, _, rfl, rfl, ⟨rfl, rfl⟩, _, _, _, _, rfl, rfl, ⟨rfl, rfl⟩, _, _, _, _, rfl, rfl, ⟨rfl, rfl⟩, y1_, _, _, _, rfl, rfl, ⟨o1, _, _, rfl⟩, _, _, _, _, rfl, rfl, ⟨rfl, rfl⟩, _, _, _, _, rfl, rfl, ⟨rfl, rfl⟩, y2_, _, _, _, rfl, rfl, ⟨o2, _, _, rfl⟩, _, _, _, _, rfl, rfl, ⟨rfl, rfl⟩, rfl, rfl⟩ := hR
  have hN : ∀ k, bk y1_ = some k → some k ≠ y2_.ownBlock := by intro k h1 h2; rw [bk_own o2] at h2; simp [h1, ← h2] at hn
  have hM : ∀ k, bk y2_ = some k → some k ≠ y1_.ownBlock := by intro k h1 h2; rw [bk_own o1] at h2; simp [h1, ← h2] at hn
  exact ⟨y1_, y2_, rfl, R_of_rowO E_eI o1 hN, R_of_rowO E_eI o2 hM, hb⟩
set_option maxRecDepth 20000 in set_option maxHeartbeats 4000000 in open Nat renaming reduceAdd → p1, reduceSub → p2, reduceMul → p3, reduceDiv → p4, reduceBNe → p5, reduceBEq → p6, reduceEqDiff → p7, reduceLeDiff → p8, reduceLT → p9 in open Int renaming reduceLE → p10, reduceLT → p11, reduceEq → p12 in
theorem laws_eqIntS.ctr {k : Nat} {l0 : List Int} {l1 : List Int} {r : Bool} (h : laws_eqIntS.f k l0 l1 = some r) : Ctr Tryz.prog 37 [.pr 1 (l0.map eI), .pr 1 (l1.map eI)] (.v (.bool r)) := by
  refine Ctr_of tyOk hm Tryz.func37 rfl rfl (by kernel_rfl) (n := 24) (rv := [.tmp 4]) rfl rfl ?_
  simp only [W, List.replicate]
  unfold laws_eqIntS.f at h
  replace h := ifS h; rcases h with ⟨c1, h⟩ | ⟨c1, h⟩
  · try simp only [W, eq_true c1, p1, p2, p3, p4, p5, p6, p7, p8, p9, p10, p11, p12]
    refine loopN (fun x : List Int × List Int × Int => [.pr 1 (List.map eI x.1), .pr 1 (List.map eI x.2.1), .u, .u, .u, .v (.int .i64 x.2.2), .u, .u, .u, .u, .u, .u, .u, .u, .u, .u, .u, .u, .u, .u, .u, .u, .u, .u, .u, .u]) (fun x => []) (fun n x => laws_eqIntS.l0 n x.1 x.2.1 x.2.2 = some r) (l0, l1, 0) [] h (by simp only [W, p1, p2, p3, p4, p5, p6, p7, p8, p9, p10, p11, p12] <;> trivial) (by simp only [W, p1, p2, p3, p4, p5, p6, p7, p8, p9, p10, p11, p12] <;> trivial) rfl (fun _ h => by cases h) ?_
    intro n1 ⟨x2, x3, x4⟩ _ h
    simp only [laws_eqIntS.l0] at h
    replace h := ifS h; rcases h with ⟨c5, h⟩ | ⟨c5, h⟩
    · replace h := ifN h; obtain ⟨c6, h⟩ := h
      replace h := ifN h; obtain ⟨c7, h⟩ := h
      replace h := ifS h; rcases h with ⟨c8, h⟩ | ⟨c8, h⟩
      · try simp only [W, c5, c6, c7, eq_true c8, p1, p2, p3, p4, p5, p6, p7, p8, p9, p10, p11, p12]
        exact nextN (x2, x3, (wrap64 (x4 + 1))) [] n1 (by omega) h (by simp only [W, p1, p2, p3, p4, p5, p6, p7, p8, p9, p10, p11, p12] <;> trivial) (by simp only [W, p1, p2, p3, p4, p5, p6, p7, p8, p9, p10, p11, p12] <;> trivial) rfl
      · cases h
        try simp only [W, c5, c6, c7, c8, p1, p2, p3, p4, p5, p6, p7, p8, p9, p10, p11, p12]
    · cases h
      try simp only [W, c5, p1, p2, p3, p4, p5, p6, p7, p8, p9, p10, p11, p12]
  · cases h
    try simp only [W, c1, p1, p2, p3, p4, p5, p6, p7, p8, p9, p10, p11, p12]
end Go.Proofs.YtkindoepnganmaaGreat.F
end

section
namespace Go.Proofs.YtkindoepnganmaaGreat.F
open Go.RowKit Go.Proofs.YtkindoepnganmaaGreatW.PrintWords Go.Proofs.YtkindoepnganmaaGreatW.PrintLast Go.Proofs.YtkindoepnganmaaGreatW.PrintMore
set_option linter.unusedVariables false
set_option linter.unusedSimpArgs false
attribute [local go_sem] max2_int min2_int max_two min_two
set_option maxRecDepth 20000 in set_option maxHeartbeats 4000000 in open Nat renaming reduceAdd → p1, reduceSub → p2, reduceMul → p3, reduceDiv → p4, reduceBNe → p5, reduceBEq → p6, reduceEqDiff → p7, reduceLeDiff → p8, reduceLT → p9 in open Int renaming reduceLE → p10, reduceLT → p11, reduceEq → p12 in
theorem laws_eqGrid.ctr {a0_0 : Int} {a0_1 : Int} {a1_0 : Int} {a1_1 : Int} {r : Bool} (h : laws_eqGrid.f a0_0 a0_1 a1_0 a1_1 = some r) : Ctr Tryz.prog 147 [.ag [.v (.int .i64 a0_0), .v (.int .i64 a0_1)], .ag [.v (.int .i64 a1_0), .v (.int .i64 a1_1)]] (.v (.bool r)) := by
  refine Ctr_of tyOk hm Tryz.func147 rfl rfl (by kernel_rfl) (n := 13) (rv := [.tmp 4]) rfl rfl ?_
  simp only [W, List.replicate]
  unfold laws_eqGrid.f at h
  replace h := ifS h; rcases h with ⟨c1, h⟩ | ⟨c1, h⟩
  · replace h := ifS h; rcases h with ⟨c2, h⟩ | ⟨c2, h⟩
    · cases h
      try simp only [W, eq_true c1, eq_true c2, p1, p2, p3, p4, p5, p6, p7, p8, p9, p10, p11, p12]
    · cases h
      try simp only [W, eq_true c1, c2, p1, p2, p3, p4, p5, p6, p7, p8, p9, p10, p11, p12]
  · cases h
    try simp only [W, c1, p1, p2, p3, p4, p5, p6, p7, p8, p9, p10, p11, p12]
set_option maxRecDepth 20000 in set_option maxHeartbeats 4000000 in open Nat renaming reduceAdd → p1, reduceSub → p2, reduceMul → p3, reduceDiv → p4, reduceBNe → p5, reduceBEq → p6, reduceEqDiff → p7, reduceLeDiff → p8, reduceLT → p9 in open Int renaming reduceLE → p10, reduceLT → p11, reduceEq → p12 in
theorem laws_eqMaze.ctr {a0_0 : Int} {a0_1 : Int} {a0_2 : Int} {a1_0 : Int} {a1_1 : Int} {a1_2 : Int} {r : Bool} (h : laws_eqMaze.f a0_0 a0_1 a0_2 a1_0 a1_1 a1_2 = some r) : Ctr Tryz.prog 115 [.ag [.v (.int .i64 a0_0), .v (.int .i64 a0_1), .v (.int .i64 a0_2)], .ag [.v (.int .i64 a1_0), .v (.int .i64 a1_1), .v (.int .i64 a1_2)]] (.v (.bool r)) := by
  refine Ctr_of tyOk hm Tryz.func115 rfl rfl (by kernel_rfl) (n := 14) (rv := [.tmp 4]) rfl rfl ?_
  simp only [W, List.replicate]
  unfold laws_eqMaze.f at h
  replace h := bnd h; obtain ⟨t1, A, h⟩ := h
  try simp only [W, p1, p2, p3, p4, p5, p6, p7, p8, p9, p10, p11, p12]
  refine callR (laws_eqGrid.ctr A) ?_
  replace h := ifT h; rcases h with ⟨rfl, h⟩ | ⟨rfl, h⟩
  · replace h := ifS h; rcases h with ⟨c3, h⟩ | ⟨c3, h⟩
    · cases h
      try simp only [W, eq_true c3, p1, p2, p3, p4, p5, p6, p7, p8, p9, p10, p11, p12]
    · cases h
      try simp only [W, c3, p1, p2, p3, p4, p5, p6, p7, p8, p9, p10, p11, p12]
  · cases h
    try simp only [W, p1, p2, p3, p4, p5, p6, p7, p8, p9, p10, p11, p12]
set_option maxRecDepth 20000 in set_option maxHeartbeats 4000000 in open Nat renaming reduceAdd → p1, reduceSub → p2, reduceMul → p3, reduceDiv → p4, reduceBNe → p5, reduceBEq → p6, reduceEqDiff → p7, reduceLeDiff → p8, reduceLT → p9 in open Int renaming reduceLE → p10, reduceLT → p11, reduceEq → p12 in
theorem laws_eqHedge.ctr {k : Nat} {a0_0 : Int} {a0_1 : Int} {a0_2 : Int} {l0_3 : List Int} {a0_4 : Int} {a1_0 : Int} {a1_1 : Int} {a1_2 : Int} {l1_3 : List Int} {a1_4 : Int} {r : Bool} (h : laws_eqHedge.f k a0_0 a0_1 a0_2 l0_3 a0_4 a1_0 a1_1 a1_2 l1_3 a1_4 = some r) : Ctr Tryz.prog 65 [.ag [.v (.int .i64 a0_0), .v (.int .i64 a0_1), .v (.int .i64 a0_2), .pr 1 (l0_3.map eI), .v (.int .i64 a0_4)], .ag [.v (.int .i64 a1_0), .v (.int .i64 a1_1), .v (.int .i64 a1_2), .pr 1 (l1_3.map eI), .v (.int .i64 a1_4)]] (.v (.bool r)) := by
  refine Ctr_of tyOk hm Tryz.func65 rfl rfl (by kernel_rfl) (n := 20) (rv := [.tmp 4]) rfl rfl ?_
  simp only [W, List.replicate]
  unfold laws_eqHedge.f at h
  replace h := bnd h; obtain ⟨t1, A, h⟩ := h
  try simp only [W, p1, p2, p3, p4, p5, p6, p7, p8, p9, p10, p11, p12]
  refine callR (laws_eqMaze.ctr A) ?_
  replace h := ifT h; rcases h with ⟨rfl, h⟩ | ⟨rfl, h⟩
  · replace h := bnd h; obtain ⟨t3, A, h⟩ := h
    try simp only [W, p1, p2, p3, p4, p5, p6, p7, p8, p9, p10, p11, p12]
    refine callR (laws_eqIntS.ctr A) ?_
    replace h := ifT h; rcases h with ⟨rfl, h⟩ | ⟨rfl, h⟩
    · replace h := ifS h; rcases h with ⟨c5, h⟩ | ⟨c5, h⟩
      · cases h
        try simp only [W, eq_true c5, p1, p2, p3, p4, p5, p6, p7, p8, p9, p10, p11, p12]
      · cases h
        try simp only [W, c5, p1, p2, p3, p4, p5, p6, p7, p8, p9, p10, p11, p12]
    · cases h
      try simp only [W, p1, p2, p3, p4, p5, p6, p7, p8, p9, p10, p11, p12]
  · cases h
    try simp only [W, p1, p2, p3, p4, p5, p6, p7, p8, p9, p10, p11, p12]
end Go.Proofs.YtkindoepnganmaaGreat.F
end

section
namespace Go.Proofs.YtkindoepnganmaaGreat.F
open Go.RowKit Go.Proofs.YtkindoepnganmaaGreatW.PrintWords Go.Proofs.YtkindoepnganmaaGreatW.PrintLast Go.Proofs.YtkindoepnganmaaGreatW.PrintMore
set_option linter.unusedVariables false
set_option linter.unusedSimpArgs false
attribute [local go_sem] max2_int min2_int max_two min_two
set_option maxRecDepth 20000 in set_option maxHeartbeats 4000000 in open Nat renaming reduceAdd → p1, reduceSub → p2, reduceMul → p3, reduceDiv → p4, reduceBNe → p5, reduceBEq → p6, reduceEqDiff → p7, reduceLeDiff → p8, reduceLT → p9 in open Int renaming reduceLE → p10, reduceLT → p11, reduceEq → p12 in
theorem laws_eqGarden.ctr {k : Nat} {a0_0 : Int} {a0_1 : Int} {a0_2 : Int} {l0_3 : List Int} {a0_4 : Int} {a0_5 : Int} {l0_6 : List Int} {a0_7 : Int} {a1_0 : Int} {a1_1 : Int} {a1_2 : Int} {l1_3 : List Int} {a1_4 : Int} {a1_5 : Int} {l1_6 : List Int} {a1_7 : Int} {r : Bool} (h : laws_eqGarden.f k a0_0 a0_1 a0_2 l0_3 a0_4 a0_5 l0_6 a0_7 a1_0 a1_1 a1_2 l1_3 a1_4 a1_5 l1_6 a1_7 = some r) : Ctr Tryz.prog 19 [.ag [.v (.int .i64 a0_0), .v (.int .i64 a0_1), .v (.int .i64 a0_2), .pr 1 (l0_3.map eI), .v (.int .i64 a0_4), .v (.int .i64 a0_5), .pr 1 (l0_6.map eI), .v (.int .i64 a0_7)], .ag [.v (.int .i64 a1_0), .v (.int .i64 a1_1), .v (.int .i64 a1_2), .pr 1 (l1_3.map eI), .v (.int .i64 a1_4), .v (.int .i64 a1_5), .pr 1 (l1_6.map eI), .v (.int .i64 a1_7)]] (.v (.bool r)) := by
  refine Ctr_of tyOk hm Tryz.func19 rfl rfl (by kernel_rfl) (n := 25) (rv := [.tmp 4]) rfl rfl ?_
  simp only [W, List.replicate]
  unfold laws_eqGarden.f at h
  replace h := bnd h; obtain ⟨t1, A, h⟩ := h
  try simp only [W, p1, p2, p3, p4, p5, p6, p7, p8, p9, p10, p11, p12]
  refine callR (laws_eqHedge.ctr A) ?_
  replace h := ifT h; rcases h with ⟨rfl, h⟩ | ⟨rfl, h⟩
  · replace h := ifS h; rcases h with ⟨c3, h⟩ | ⟨c3, h⟩
    · replace h := bnd h; obtain ⟨t4, A, h⟩ := h
      try simp only [W, eq_true c3, p1, p2, p3, p4, p5, p6, p7, p8, p9, p10, p11, p12]
      refine callR (laws_eqIntS.ctr A) ?_
      replace h := ifT h; rcases h with ⟨rfl, h⟩ | ⟨rfl, h⟩
      · replace h := ifS h; rcases h with ⟨c6, h⟩ | ⟨c6, h⟩
        · cases h
          try simp only [W, eq_true c3, eq_true c6, p1, p2, p3, p4, p5, p6, p7, p8, p9, p10, p11, p12]
        · cases h
          try simp only [W, eq_true c3, c6, p1, p2, p3, p4, p5, p6, p7, p8, p9, p10, p11, p12]
      · cases h
        try simp only [W, eq_true c3, p1, p2, p3, p4, p5, p6, p7, p8, p9, p10, p11, p12]
    · cases h
      try simp only [W, c3, p1, p2, p3, p4, p5, p6, p7, p8, p9, p10, p11, p12]
  · cases h
    try simp only [W, p1, p2, p3, p4, p5, p6, p7, p8, p9, p10, p11, p12]
theorem laws_eqGarden.calls (k : Nat) (a0_0 : Int) (a0_1 : Int) (a0_2 : Int) (A0_3 : Option Addr) (c0_3 : Nat) (l0_3 : List Int) (a0_4 : Int) (a0_5 : Int) (A0_6 : Option Addr) (c0_6 : Nat) (l0_6 : List Int) (a0_7 : Int) (a1_0 : Int) (a1_1 : Int) (a1_2 : Int) (A1_3 : Option Addr) (c1_3 : Nat) (l1_3 : List Int) (a1_4 : Int) (a1_5 : Int) (A1_6 : Option Addr) (c1_6 : Nat) (l1_6 : List Int) (a1_7 : Int) (r : Bool) (w : World) (hr0_3 : Kd.C (Kd.int .i64) w A0_3 l0_3.length l0_3) (hc0_3 : l0_3.length ≤ c0_3) (hr0_6 : Kd.C (Kd.int .i64) w A0_6 l0_6.length l0_6) (hc0_6 : l0_6.length ≤ c0_6) (hr1_3 : Kd.C (Kd.int .i64) w A1_3 l1_3.length l1_3) (hc1_3 : l1_3.length ≤ c1_3) (hr1_6 : Kd.C (Kd.int .i64) w A1_6 l1_6.length l1_6) (hc1_6 : l1_6.length ≤ c1_6) (h : laws_eqGarden.f k a0_0 a0_1 a0_2 l0_3 a0_4 a0_5 l0_6 a0_7 a1_0 a1_1 a1_2 l1_3 a1_4 a1_5 l1_6 a1_7 = some r) :
    Calls Tryz.prog 19 #[.agg #[.int .i64 a0_0, .int .i64 a0_1, .int .i64 a0_2, .slice A0_3 l0_3.length c0_3, .int .i64 a0_4, .int .i64 a0_5, .slice A0_6 l0_6.length c0_6, .int .i64 a0_7], .agg #[.int .i64 a1_0, .int .i64 a1_1, .int .i64 a1_2, .slice A1_3 l1_3.length c1_3, .int .i64 a1_4, .int .i64 a1_5, .slice A1_6 l1_6.length c1_6, .int .i64 a1_7]] w fun e w' => e = .returned (.bool r) ∧ Below w.heap.size w w' := by
  refine ((laws_eqGarden.ctr h).2 w [.agg #[.int .i64 a0_0, .int .i64 a0_1, .int .i64 a0_2, .slice A0_3 l0_3.length c0_3, .int .i64 a0_4, .int .i64 a0_5, .slice A0_6 l0_6.length c0_6, .int .i64 a0_7], .agg #[.int .i64 a1_0, .int .i64 a1_1, .int .i64 a1_2, .slice A1_3 l1_3.length c1_3, .int .i64 a1_4, .int .i64 a1_5, .slice A1_6 l1_6.length c1_6, .int .i64 a1_7]] (by simp only [RepL, Rep]; exact ⟨_, _, rfl, ⟨_, rfl, _, _, rfl, rfl, _, _, rfl, rfl, _, _, rfl, rfl, _, _, rfl, at_of_C E_eI hr0_3 hc0_3, _, _, rfl, rfl, _, _, rfl, rfl, _, _, rfl, at_of_C E_eI hr0_6 hc0_6, _, _, rfl, rfl, rfl⟩, _, _, rfl, ⟨_, rfl, _, _, rfl, rfl, _, _, rfl, rfl, _, _, rfl, rfl, _, _, rfl, at_of_C E_eI hr1_3 hc1_3, _, _, rfl, rfl, _, _, rfl, rfl, _, _, rfl, at_of_C E_eI hr1_6 hc1_6, _, _, rfl, rfl, rfl⟩, rfl⟩)).mono ?_
  rintro _ _ ⟨y, L, rfl, hR, _, hb⟩
  exact ⟨congrArg Ending.returned (RepR_pln rfl hR).1, hb⟩
set_option maxHeartbeats 8000000 in
set_option maxRecDepth 100000 in
theorem laws_markIntS.calls (k : Nat) (P0_ : Nat → Prop) (u9000_ : Value) (l0 : List Int) (a1 : Int) (r1 : Int) (r2 : List Int) (w0 w : World) (hB : Below w0.heap.size w0 w) (ho0 : Kd.R (Kd.int .i64) 3 w w0.heap.size P0_ u9000_ l0) (h : laws_markIntS.f k l0 a1 = some (r1, r2)) :
  Calls Tryz.prog 40 #[u9000_, .int .i64 a1] w fun e w' => e = .returned (.int .i64 r1) ∧ Kd.R (Kd.int .i64) 3 w' w0.heap.size (fun k_ => (P0_ k_ ∨ w.heap.size ≤ k_)) u9000_ r2 ∧ Below w0.heap.size w0 w' ∧ Kept w w' (fun k_ => P0_ k_) := by
 have HO0 := aK (show Kd.R (Kd.int .i64) 3 w w0.heap.size (fun k_ => (P0_ k_ ∨ w.heap.size ≤ k_)) u9000_ l0 from Kd.R_mono ho0 (fun k_ hk => (.inl hk)))
 have HK := aK (Kept.refl w (fun k_ => P0_ k_))
 have HW0 := aK hB.size
 have HB := aK hB
 clear hB
 have H : (laws_markIntS.l0 k l0 a1 0) = some (r1, r2) := h
 clear h
 have H' := aK H
 clear H
 go_enter Tryz.func40, Tryz.ntmps40
 go_wp2
 go_loopg [1, 5] k (fun kq v1 v5 w' => ∃ (x0_1 : List Int) (x1_1 : Int) (x5_1 : Int), v1 = .int .i64 x1_1 ∧ v5 = .int .i64 x5_1 ∧ Aside0 (laws_markIntS.l0 kq x0_1 x1_1 x5_1 = some (r1, r2)) ∧ Aside0 (kq ≤ k) ∧ Aside0 (Kd.R (Kd.int .i64) 3 w' w0.heap.size (fun k_ => (P0_ k_ ∨ w.heap.size ≤ k_)) u9000_ x0_1) ∧ Aside0 (Kept w w' (fun k_ => P0_ k_)) ∧ Aside0 (Below w0.heap.size w0 w'))
 case atStart => exact ⟨(l0), (a1), (0), (by first | rfl | (simp; done) | (simp [*]; done)), (by first | rfl | (simp; done) | (simp [*]; done)), H', ⟨Nat.le_refl _⟩, ⟨zA HO0⟩, ⟨by repeat (first | (with_reducible first | exact HK.out | apply Kept.alloc | apply Kept.drewN | apply Kept.drew) | exact HK.out)⟩, ⟨zH0 HB⟩⟩
 case round =>
  clear H'
  try clear p2
  obtain ⟨x0_1, x1_1, x5_1, rfl, rfl, HA, HK1, HO_0, HK, HB⟩ := hrel
  cases gk with
  | zero => exact absurd HA.out (by simp [laws_markIntS.l0])
  | succ k1 =>
   have H := HA.out
   clear HA
   simp only [laws_markIntS.l0] at H
   by_cases c3 : x5_1 < (x0_1.length : Int)
   ·rw [if_pos c3] at H
    have c3b0 : decide (x5_1 < (x0_1.length : Int)) = true := decide_eq_true c3
    clear c3
    by_cases c4 : 0 ≤ x5_1
    ·rw [if_pos c4] at H
     have c4b0 : decide (0 ≤ x5_1) = true := decide_eq_true c4
     clear c4
     obtain ⟨y620, hy620⟩ : ∃ y_ : List Int, y_ = (x0_1.set (x5_1 : Int).toNat x1_1) := ⟨_, rfl⟩
     replace H : (laws_markIntS.l0 k1 y620 (wrap64 (x1_1 + 1)) (wrap64 (x5_1 + 1))) = some (r1, r2) := by first | (rw [hy620]; with_reducible exact H) | (have H2_ := (Option.bind_some _ _).symm.trans H; rw [hy620]; with_reducible exact H2_) | (have H2_ := (Option.bind_some _ _).symm.trans H; with_reducible exact H2_) | with_reducible exact H | (rw [hy620]; exact H) | exact H
     have Ny620 := aK hy620
     clear hy620
     have H' := aK H
     clear H
     obtain ⟨Ao6, co6, eo6⟩ := Kd.R_slice HO_0.out
     subst eo6
     have p5 : 0 ≤ (x5_1 : Int) := of_decide_eq_true (by first | (with_reducible assumption) | assumption)
     have q5 : (x5_1 : Int) < ((x0_1.length : Int) : Int) := of_decide_eq_true (by first | (with_reducible assumption) | assumption)
     obtain ⟨go5, co5, eo5, gb5, gl5, cl5, HG5⟩ := Kd.R_form HO_0.out (by omega)
     (first | cases eo5 | (injection eo5 with ea_ en_ ec_; (first | subst ea_ | (injection ea_ with ea_; subst ea_)); subst ec_; clear en_))
     have GB5 := aK gb5
     have GG5 := aK HG5
     clear gb5 gl5 HG5
     have HMgo5 := aK (show (P0_ go5 ∨ w.heap.size ≤ go5) from (HO_0.out.1 _ rfl))
     obtain ⟨hx5_0, hf5_0⟩ := Kd.R_celln 0 HO_0.out (x5_1 : Int) p5 q5
     replace p5 := eq_true p5
     replace q5 := eq_true q5
     have HP7 := Kd.R_putg HO_0.out (x5_1 : Int) x1_1
     go_wp2_with (first | ((with_reducible refine gate_store (t := 3) (p := 15) rfl ?_); refine store_event (t := 3) (p := 15) (v := ?vo_w8) (w1 := (wr.setCell ⟨go5, (x5_1 : Int).toNat, none⟩ (.int .i64 x1_1))) ?hg ?ho ?hn ?hr ?_; (case ho => rfl); (case hg => rfl); (case hn => rfl); (case hr => first | (go_simp; done) | (go_simp; rfl)); intro w8 hw; have hg : wr.grownBy w8 (some go5) := (by rw [hw]; exact HP7.2); have hp_ : Kd.R (Kd.int .i64) 3 w8 w0.heap.size (fun k_ => (P0_ k_ ∨ w.heap.size ≤ k_)) (.slice (some ⟨go5, 0, none⟩) x0_1.length co6) y620 := (by rw [hw, Ny620.out]; exact HP7.1); clear HP7; replace HB := aK ((by rw [hw]; exact bSt (HB.out) GB5.out : Below w0.heap.size w0 w8)); replace HK := aK (Kept.of_grown (S := (fun k_ => P0_ k_)) hg (by repeat (first | (with_reducible first | exact HK.out | apply Kept.alloc | apply Kept.drewN | apply Kept.drew) | exact HK.out)) (fun k_ e_ => (HO_0.out.1 k_ e_))); replace HO_0 := aK (hp_); clear hg hw hp_))
     go_roundg k1
     case measure => have := HK1.out; omega
     case rel => exact ⟨(y620), (wrap64 (x1_1 + 1)), (wrap64 (x5_1 + 1)), (by first | rfl | (simp; done) | (simp [*]; done)), (by first | rfl | (simp; done) | (simp [*]; done)), H', ⟨by have := HK1.out; omega⟩, ⟨zA HO_0⟩, ⟨by repeat (first | (with_reducible first | exact HK.out | apply Kept.alloc | apply Kept.drewN | apply Kept.drew) | exact HK.out)⟩, ⟨zH0 HB⟩⟩
    ·rw [if_neg c4] at H
     exact absurd H (by simp)
   ·rw [if_neg c3] at H
    have c3b0 : decide (x5_1 < (x0_1.length : Int)) = false := decide_eq_false c3
    clear c3
    simp only [Option.some.injEq, Prod.mk.injEq] at H
    obtain ⟨rfl, rfl⟩ := H
    obtain ⟨Ao9, co9, eo9⟩ := Kd.R_slice HO_0.out
    subst eo9
    go_wp2
    go_ret
    exact ⟨by first | rfl | (simp [errW_none, errW_some] <;> rfl) | (simp [*, errW_none, errW_some] <;> rfl), by (with_reducible repeat (first | apply Kd.R_alloc | apply Kd.R_drewN | apply Kd.R_drew)); exact HO_0.out, by repeat (first | (with_reducible first | exact HB.out | apply bAl | apply bDN | apply bD1) | exact HB.out), by repeat (first | (with_reducible first | exact HK.out | apply Kept.alloc | apply Kept.drewN | apply Kept.drew) | exact HK.out)⟩
set_option maxHeartbeats 8000000 in
set_option maxRecDepth 100000 in
theorem laws_markHedge.calls (k : Nat) (a0_0 : Int) (a0_1 : Int) (a0_2 : Int) (P0_3_ : Nat → Prop) (u9000_ : Value) (l0_3 : List Int) (a0_4 : Int) (a1 : Int) (r1 : Int) (r2 : List Int) (w0 w : World) (hB : Below w0.heap.size w0 w) (ho0_3 : Kd.R (Kd.int .i64) 3 w w0.heap.size P0_3_ u9000_ l0_3) (h : laws_markHedge.f k a0_0 a0_1 a0_2 l0_3 a0_4 a1 = some (r1, r2)) :
  Calls Tryz.prog 66 #[.agg #[.int .i64 a0_0, .int .i64 a0_1, .int .i64 a0_2, u9000_, .int .i64 a0_4], .int .i64 a1] w fun e w' => e = .returned (.int .i64 r1) ∧ Kd.R (Kd.int .i64) 3 w' w0.heap.size (fun k_ => (P0_3_ k_ ∨ w.heap.size ≤ k_)) u9000_ r2 ∧ Below w0.heap.size w0 w' ∧ Kept w w' (fun k_ => P0_3_ k_) := by
 have hu36 := Tryz.underlying36
 have HO0_3 := aK (show Kd.R (Kd.int .i64) 3 w w0.heap.size (fun k_ => (P0_3_ k_ ∨ w.heap.size ≤ k_)) u9000_ l0_3 from Kd.R_mono ho0_3 (fun k_ hk => (.inl hk)))
 have HK := aK (Kept.refl w (fun k_ => P0_3_ k_))
 have HW0 := aK hB.size
 have HB := aK hB
 clear hB
 have H : ((laws_markIntS.f k l0_3 a1).bind fun bt622 => (some (bt622.1, bt622.2))) = some (r1, r2) := h
 clear h
 replace H := Option.bind_eq_some_iff.mp H
 obtain ⟨⟨t622, t623⟩, A30, H⟩ := H
 replace H : (some (t622, t623)) = some (r1, r2) := H
 have A3 := aK A30
 clear A30
 simp only [Option.some.injEq, Prod.mk.injEq] at H
 obtain ⟨rfl, rfl⟩ := H
 obtain ⟨Ao4, co4, eo4⟩ := Kd.R_slice HO0_3.out
 subst eo4
 go_enter Tryz.func66, Tryz.ntmps66
 go_wp2_with (first | ((with_reducible refine gate_dst (N := 2) rfl ?_); refine box_event ?hg (N := 2) ?hd (cs := #[.int .i64 a0_0, .int .i64 a0_1, .int .i64 a0_2, .slice Ao4 l0_3.length co4, .int .i64 a0_4]) (t := 36) ?hr ?_; (case hd => rfl); (case hg => rfl); (case hr => first | (go_simp; done) | (go_simp; rfl)); intro gb621 hg w5 hbox hb; replace HO0_3 := aK (Kd.R_below (zA HO0_3) hb); have BK621 := aK (hbox); have GW621 := aK ((by rw [hg]; exact (by first | exact HK.out.1 | exact (show Kept w _ (fun k_ => P0_3_ k_) from by repeat (first | (with_reducible first | exact HK.out | apply Kept.alloc | apply Kept.drewN | apply Kept.drew) | exact HK.out)).1) : w.heap.size ≤ gb621)); replace HK := aK (Kept.below (S := (fun k_ => P0_3_ k_)) (by repeat (first | (with_reducible first | exact HK.out | apply Kept.alloc | apply Kept.drewN | apply Kept.drew) | exact HK.out)) hb); have GE621 := aK ((by rw [hg]; exact (bSz (zH0 HB)) : w0.heap.size ≤ gb621)); replace HB := aK (bSp (zH0 HB) hb); clear hb hbox hg; obtain ⟨hcz6_0, hcz6_1, hcz6_2, hcz6_3, hcz6_4, hfz6_0, hfz6_1, hfz6_2, hfz6_3, hfz6_4⟩ := cl5 BK621.out) | ((with_reducible refine gate_callee (f := 40) rfl ?_); refine goesL_ (some 8) rfl rfl Tryz.func40 (by kernel_rfl) rfl #[.slice Ao4 l0_3.length co4, .int .i64 a1] rfl zD ?_; (with_reducible refine (laws_markIntS.calls k (fun k_ => some k_ = (.slice Ao4 l0_3.length co4 : Value).ownBlock) (.slice Ao4 l0_3.length co4) l0_3 a1 t622 t623 w0 _ ?side1 ?side2 A3.out).mono ?_); (case side1 => exact (zH1 HB GE621)); (case side2 => exact Kd.R_tight rfl HO0_3.out); rintro e w7 ⟨rfl, hy0, hb, hkp⟩; refine ⟨_, rfl, ?_⟩; replace BK621 := aK (blk_kept (zK BK621) hkp (fun hs_ => (Kd.R_ne HO0_3.out BK621.out (by decide)) hs_)); replace HK := aK (Kept.then_ (S := (fun k_ => P0_3_ k_)) (by repeat (first | (with_reducible first | exact HK.out | apply Kept.alloc | apply Kept.drewN | apply Kept.drew | refine Kept.setCell ?_ (.inr GW621.out) _) | exact HK.out)) hkp (fun k_ hs_ => (fun e_ => (HO0_3.out.1 k_ e_.symm)) hs_)); replace HO0_3 := aK (Kd.R_reok rfl hy0 (fun k_ e_ => HO0_3.out.1 k_ e_)); replace HB := aK (hb); (try clear hb); (try clear hkp); (try clear hy0)))
 go_ret
 exact ⟨by first | rfl | (simp [errW_none, errW_some] <;> rfl) | (simp [*, errW_none, errW_some] <;> rfl), by (with_reducible repeat (first | apply Kd.R_alloc | apply Kd.R_drewN | apply Kd.R_drew)); exact HO0_3.out, by repeat (first | (with_reducible first | exact HB.out | apply bAl | apply bDN | apply bD1 | refine bSt ?_ GE621.out) | exact HB.out), by repeat (first | (with_reducible first | exact HK.out | apply Kept.alloc | apply Kept.drewN | apply Kept.drew | refine Kept.setCell ?_ (.inr GW621.out) _) | exact HK.out)⟩
set_option maxHeartbeats 8000000 in
set_option maxRecDepth 100000 in
theorem laws_markGarden.calls (k : Nat) (a0_0 : Int) (a0_1 : Int) (a0_2 : Int) (P0_3_ : Nat → Prop) (u9000_ : Value) (l0_3 : List Int) (a0_4 : Int) (a0_5 : Int) (P0_6_ : Nat → Prop) (u9001_ : Value) (l0_6 : List Int) (a0_7 : Int) (a1 : Int) (r1 : Int) (r2 : List Int) (r3 : List Int) (w0 w : World) (hB : Below w0.heap.size w0 w) (ho0_3 : Kd.R (Kd.int .i64) 3 w w0.heap.size P0_3_ u9000_ l0_3) (hp0_3_0_6 : ∀ k_, P0_3_ k_ → ¬ P0_6_ k_) (ho0_6 : Kd.R (Kd.int .i64) 3 w w0.heap.size P0_6_ u9001_ l0_6) (hp0_6_0_3 : ∀ k_, P0_6_ k_ → ¬ P0_3_ k_) (h : laws_markGarden.f k a0_0 a0_1 a0_2 l0_3 a0_4 a0_5 l0_6 a0_7 a1 = some (r1, r2, r3)) :
  Calls Tryz.prog 20 #[.agg #[.int .i64 a0_0, .int .i64 a0_1, .int .i64 a0_2, u9000_, .int .i64 a0_4, .int .i64 a0_5, u9001_, .int .i64 a0_7], .int .i64 a1] w fun e w' => e = .returned (.int .i64 r1) ∧ Kd.R (Kd.int .i64) 3 w' w0.heap.size (fun k_ => ((P0_3_ k_ ∨ P0_6_ k_) ∨ w.heap.size ≤ k_)) u9000_ r2 ∧ Kd.R (Kd.int .i64) 3 w' w0.heap.size (fun k_ => ((P0_3_ k_ ∨ P0_6_ k_) ∨ w.heap.size ≤ k_)) u9001_ r3 ∧ Below w0.heap.size w0 w' ∧ Kept w w' (fun k_ => P0_3_ k_ ∨ P0_6_ k_) := by
 have hu38 := Tryz.underlying38
 have hu36 := Tryz.underlying36
 have HO0_3 := aK (show Kd.R (Kd.int .i64) 3 w w0.heap.size (fun k_ => ((P0_3_ k_ ∨ P0_6_ k_) ∨ w.heap.size ≤ k_) ∧ some k_ ≠ (u9001_ : Value).ownBlock) u9000_ l0_3 from Kd.R_mono ho0_3 (fun k_ hk => ⟨(.inl (.inl hk)), fun e_ => hp0_3_0_6 k_ hk (ho0_6.1 k_ e_.symm)⟩))
 have HO0_6 := aK (show Kd.R (Kd.int .i64) 3 w w0.heap.size (fun k_ => ((P0_3_ k_ ∨ P0_6_ k_) ∨ w.heap.size ≤ k_) ∧ some k_ ≠ (u9000_ : Value).ownBlock) u9001_ l0_6 from Kd.R_mono ho0_6 (fun k_ hk => ⟨(.inl (.inr hk)), fun e_ => hp0_6_0_3 k_ hk (ho0_3.1 k_ e_.symm)⟩))
 have HK := aK (Kept.refl w (fun k_ => P0_3_ k_ ∨ P0_6_ k_))
 have HW0 := aK hB.size
 have HB := aK hB
 clear hB
 have H : ((laws_markHedge.f k a0_0 a0_1 a0_2 l0_3 a0_4 a1).bind fun bt625 => ((laws_markIntS.f k l0_6 bt625.1).bind fun bt627 => (some (bt627.1, bt625.2, bt627.2)))) = some (r1, r2, r3) := h
 clear h
 replace H := Option.bind_eq_some_iff.mp H
 obtain ⟨⟨t625, t626⟩, A30, H⟩ := H
 replace H : ((laws_markIntS.f k l0_6 t625).bind fun bt627 => (some (bt627.1, t626, bt627.2))) = some (r1, r2, r3) := H
 have A3 := aK A30
 clear A30
 replace H := Option.bind_eq_some_iff.mp H
 obtain ⟨⟨t627, t628⟩, A40, H⟩ := H
 replace H : (some (t627, t626, t628)) = some (r1, r2, r3) := H
 have A4 := aK A40
 clear A40
 simp only [Option.some.injEq, Prod.mk.injEq] at H
 obtain ⟨rfl, rfl, rfl⟩ := H
 obtain ⟨Ao5, co5, eo5⟩ := Kd.R_slice HO0_3.out
 subst eo5
 obtain ⟨Ao6, co6, eo6⟩ := Kd.R_slice HO0_6.out
 subst eo6
 go_enter Tryz.func20, Tryz.ntmps20
 go_wp2_with (first | ((with_reducible refine gate_dst (N := 2) rfl ?_); refine box_event ?hg (N := 2) ?hd (cs := #[.int .i64 a0_0, .int .i64 a0_1, .int .i64 a0_2, .slice Ao5 l0_3.length co5, .int .i64 a0_4, .int .i64 a0_5, .slice Ao6 l0_6.length co6, .int .i64 a0_7]) (t := 38) ?hr ?_; (case hd => rfl); (case hg => rfl); (case hr => first | (go_simp; done) | (go_simp; rfl)); intro gb624 hg w7 hbox hb; replace HO0_3 := aK (Kd.R_below (zA HO0_3) hb); replace HO0_6 := aK (Kd.R_below (zA HO0_6) hb); have BK624 := aK (hbox); have GW624 := aK ((by rw [hg]; exact (by first | exact HK.out.1 | exact (show Kept w _ (fun k_ => P0_3_ k_ ∨ P0_6_ k_) from by repeat (first | (with_reducible first | exact HK.out | apply Kept.alloc | apply Kept.drewN | apply Kept.drew) | exact HK.out)).1) : w.heap.size ≤ gb624)); replace HK := aK (Kept.below (S := (fun k_ => P0_3_ k_ ∨ P0_6_ k_)) (by repeat (first | (with_reducible first | exact HK.out | apply Kept.alloc | apply Kept.drewN | apply Kept.drew) | exact HK.out)) hb); have GE624 := aK ((by rw [hg]; exact (bSz (zH0 HB)) : w0.heap.size ≤ gb624)); replace HB := aK (bSp (zH0 HB) hb); clear hb hbox hg; obtain ⟨hcz8_0, hcz8_1, hcz8_2, hcz8_3, hcz8_4, hcz8_5, hcz8_6, hcz8_7, hfz8_0, hfz8_1, hfz8_2, hfz8_3, hfz8_4, hfz8_5, hfz8_6, hfz8_7⟩ := cl8 BK624.out) | ((with_reducible refine gate_callee (f := 66) rfl ?_); refine goesL_ (some 8) rfl rfl Tryz.func66 (by kernel_rfl) rfl #[.agg #[.int .i64 a0_0, .int .i64 a0_1, .int .i64 a0_2, .slice Ao5 l0_3.length co5, .int .i64 a0_4], .int .i64 a1] rfl zD ?_; (with_reducible refine (laws_markHedge.calls k a0_0 a0_1 a0_2 (fun k_ => some k_ = (.slice Ao5 l0_3.length co5 : Value).ownBlock) (.slice Ao5 l0_3.length co5) l0_3 a0_4 a1 t625 t626 w0 _ ?side1 ?side2 A3.out).mono ?_); (case side1 => exact (zH1 HB GE624)); (case side2 => exact Kd.R_tight rfl HO0_3.out); rintro e w9 ⟨rfl, hy0, hb, hkp⟩; refine ⟨_, rfl, ?_⟩; replace HO0_6 := aK (Kd.R_mono (ok' := fun k_ => ((P0_3_ k_ ∨ P0_6_ k_) ∨ w.heap.size ≤ k_) ∧ some k_ ≠ (.slice Ao5 l0_3.length co5 : Value).ownBlock) (Kd.R_keptB (HO0_6.out) hkp (fun k_ hk_ hs_ => (hk_.2) hs_)) (fun k_ hk_ => ⟨hk_.1.1, hk_.1.2⟩)); replace BK624 := aK (blk_kept (zK BK624) hkp (fun hs_ => (Kd.R_ne HO0_3.out BK624.out (by decide)) hs_)); replace HK := aK (Kept.then_ (S := (fun k_ => P0_3_ k_ ∨ P0_6_ k_)) (by repeat (first | (with_reducible first | exact HK.out | apply Kept.alloc | apply Kept.drewN | apply Kept.drew | refine Kept.setCell ?_ (.inr GW624.out) _) | exact HK.out)) hkp (fun k_ hs_ => (fun e_ => (HO0_3.out.1 k_ e_.symm).1) hs_)); replace HO0_3 := aK (Kd.R_reok rfl hy0 (fun k_ e_ => HO0_3.out.1 k_ e_)); replace HB := aK (hb); (try clear hb); (try clear hkp); (try clear hy0); obtain ⟨hcz10_0, hcz10_1, hcz10_2, hcz10_3, hcz10_4, hcz10_5, hcz10_6, hcz10_7, hfz10_0, hfz10_1, hfz10_2, hfz10_3, hfz10_4, hfz10_5, hfz10_6, hfz10_7⟩ := cl8 BK624.out) | ((with_reducible refine gate_callee (f := 40) rfl ?_); refine goesL_ (some 12) rfl rfl Tryz.func40 (by kernel_rfl) rfl #[.slice Ao6 l0_6.length co6, .int .i64 t625] rfl zD ?_; (with_reducible refine (laws_markIntS.calls k (fun k_ => some k_ = (.slice Ao6 l0_6.length co6 : Value).ownBlock) (.slice Ao6 l0_6.length co6) l0_6 t625 t627 t628 w0 _ ?side1 ?side2 A4.out).mono ?_); (case side1 => exact (zH1 HB GE624)); (case side2 => exact Kd.R_tight rfl HO0_6.out); rintro e w11 ⟨rfl, hy0, hb, hkp⟩; refine ⟨_, rfl, ?_⟩; replace HO0_3 := aK (Kd.R_mono (ok' := fun k_ => ((P0_3_ k_ ∨ P0_6_ k_) ∨ w.heap.size ≤ k_) ∧ some k_ ≠ (.slice Ao6 l0_6.length co6 : Value).ownBlock) (Kd.R_keptB (HO0_3.out) hkp (fun k_ hk_ hs_ => (hk_.2) hs_)) (fun k_ hk_ => ⟨hk_.1.1, hk_.1.2⟩)); replace BK624 := aK (blk_kept (zK BK624) hkp (fun hs_ => (Kd.R_ne HO0_6.out BK624.out (by decide)) hs_)); replace HK := aK (Kept.then_ (S := (fun k_ => P0_3_ k_ ∨ P0_6_ k_)) (by repeat (first | (with_reducible first | exact HK.out | apply Kept.alloc | apply Kept.drewN | apply Kept.drew | refine Kept.setCell ?_ (.inr GW624.out) _) | exact HK.out)) hkp (fun k_ hs_ => (fun e_ => (HO0_6.out.1 k_ e_.symm).1) hs_)); replace HO0_6 := aK (Kd.R_reok rfl hy0 (fun k_ e_ => HO0_6.out.1 k_ e_)); replace HB := aK (hb); (try clear hb); (try clear hkp); (try clear hy0)))
 go_ret
 exact ⟨by first | rfl | (simp [errW_none, errW_some] <;> rfl) | (simp [*, errW_none, errW_some] <;> rfl), by (with_reducible repeat (first | apply Kd.R_alloc | apply Kd.R_drewN | apply Kd.R_drew)); exact Kd.R_mono HO0_3.out (fun _ hk => hk.1), by (with_reducible repeat (first | apply Kd.R_alloc | apply Kd.R_drewN | apply Kd.R_drew)); exact Kd.R_mono HO0_6.out (fun _ hk => hk.1), by repeat (first | (with_reducible first | exact HB.out | apply bAl | apply bDN | apply bD1 | refine bSt ?_ GE624.out) | exact HB.out), by repeat (first | (with_reducible first | exact HK.out | apply Kept.alloc | apply Kept.drewN | apply Kept.drew | refine Kept.setCell ?_ (.inr GW624.out) _) | exact HK.out)⟩
set_option maxRecDepth 20000 in set_option maxHeartbeats 4000000 in open Nat renaming reduceAdd → p1, reduceSub → p2, reduceMul → p3, reduceDiv → p4, reduceBNe → p5, reduceBEq → p6, reduceEqDiff → p7, reduceLeDiff → p8, reduceLT → p9 in open Int renaming reduceLE → p10, reduceLT → p11, reduceEq → p12 in
theorem laws_heldIntS.ctr {k : Nat} {l0 : List Int} {a1 : Int} {r : Int} (h : laws_heldIntS.f k l0 a1 = some r) : Ctr Tryz.prog 41 [.pr 1 (l0.map eI), .v (.int .i64 a1)] (.v (.int .i64 r)) := by
  refine Ctr_of tyOk hm Tryz.func41 rfl rfl (by kernel_rfl) (n := 19) (rv := [.tmp 4]) rfl rfl ?_
  simp only [W, List.replicate]
  unfold laws_heldIntS.f at h
  try simp only [W, p1, p2, p3, p4, p5, p6, p7, p8, p9, p10, p11, p12]
  refine loopN (fun x : List Int × Int × Int => [.pr 1 (List.map eI x.1), .v (.int .i64 x.2.1), .u, .u, .u, .v (.int .i64 x.2.2), .u, .u, .u, .u, .u, .u, .u, .u, .u, .u, .u, .u, .u, .u, .u]) (fun x => []) (fun n x => laws_heldIntS.l0 n x.1 x.2.1 x.2.2 = some r) (l0, a1, 0) [] h (by simp only [W, p1, p2, p3, p4, p5, p6, p7, p8, p9, p10, p11, p12] <;> trivial) (by simp only [W, p1, p2, p3, p4, p5, p6, p7, p8, p9, p10, p11, p12] <;> trivial) rfl (fun _ h => by cases h) ?_
  intro n1 ⟨x1, x2, x3⟩ _ h
  simp only [laws_heldIntS.l0] at h
  replace h := ifS h; rcases h with ⟨c4, h⟩ | ⟨c4, h⟩
  · replace h := ifN h; obtain ⟨c5, h⟩ := h
    replace h := ifS h; rcases h with ⟨c6, h⟩ | ⟨c6, h⟩
    · try simp only [W, c4, c5, eq_true c6, p1, p2, p3, p4, p5, p6, p7, p8, p9, p10, p11, p12]
      exact nextN (x1, (wrap64 (x2 + 1)), (wrap64 (x3 + 1))) [] n1 (by omega) h (by simp only [W, p1, p2, p3, p4, p5, p6, p7, p8, p9, p10, p11, p12] <;> trivial) (by simp only [W, p1, p2, p3, p4, p5, p6, p7, p8, p9, p10, p11, p12] <;> trivial) rfl
    · cases h
      try simp only [W, c4, c5, c6, p1, p2, p3, p4, p5, p6, p7, p8, p9, p10, p11, p12]
  · cases h
    try simp only [W, c4, p1, p2, p3, p4, p5, p6, p7, p8, p9, p10, p11, p12]
set_option maxRecDepth 20000 in set_option maxHeartbeats 4000000 in open Nat renaming reduceAdd → p1, reduceSub → p2, reduceMul → p3, reduceDiv → p4, reduceBNe → p5, reduceBEq → p6, reduceEqDiff → p7, reduceLeDiff → p8, reduceLT → p9 in open Int renaming reduceLE → p10, reduceLT → p11, reduceEq → p12 in
theorem laws_heldHedge.ctr {k : Nat} {a0_0 : Int} {a0_1 : Int} {a0_2 : Int} {l0_3 : List Int} {a0_4 : Int} {a1 : Int} {r : Int} (h : laws_heldHedge.f k a0_0 a0_1 a0_2 l0_3 a0_4 a1 = some r) : Ctr Tryz.prog 67 [.ag [.v (.int .i64 a0_0), .v (.int .i64 a0_1), .v (.int .i64 a0_2), .pr 1 (l0_3.map eI), .v (.int .i64 a0_4)], .v (.int .i64 a1)] (.v (.int .i64 r)) := by
  refine Ctr_of tyOk hm Tryz.func67 rfl rfl (by kernel_rfl) (n := 10) (rv := [.tmp 4]) rfl rfl ?_
  simp only [W, List.replicate]
  unfold laws_heldHedge.f at h
  replace h := bnd h; obtain ⟨t1, A, h⟩ := h
  try simp only [W, p1, p2, p3, p4, p5, p6, p7, p8, p9, p10, p11, p12]
  refine callR (laws_heldIntS.ctr A) ?_
  replace h := ifS h; rcases h with ⟨c2, h⟩ | ⟨c2, h⟩
  · cases h
    try simp only [W, c2, p1, p2, p3, p4, p5, p6, p7, p8, p9, p10, p11, p12]
  · cases h
    try simp only [W, c2, p1, p2, p3, p4, p5, p6, p7, p8, p9, p10, p11, p12]
set_option maxRecDepth 20000 in set_option maxHeartbeats 4000000 in open Nat renaming reduceAdd → p1, reduceSub → p2, reduceMul → p3, reduceDiv → p4, reduceBNe → p5, reduceBEq → p6, reduceEqDiff → p7, reduceLeDiff → p8, reduceLT → p9 in open Int renaming reduceLE → p10, reduceLT → p11, reduceEq → p12 in
theorem laws_heldGarden.ctr {k : Nat} {a0_0 : Int} {a0_1 : Int} {a0_2 : Int} {l0_3 : List Int} {a0_4 : Int} {a0_5 : Int} {l0_6 : List Int} {a0_7 : Int} {a1 : Int} {r : Int} (h : laws_heldGarden.f k a0_0 a0_1 a0_2 l0_3 a0_4 a0_5 l0_6 a0_7 a1 = some r) : Ctr Tryz.prog 21 [.ag [.v (.int .i64 a0_0), .v (.int .i64 a0_1), .v (.int .i64 a0_2), .pr 1 (l0_3.map eI), .v (.int .i64 a0_4), .v (.int .i64 a0_5), .pr 1 (l0_6.map eI), .v (.int .i64 a0_7)], .v (.int .i64 a1)] (.v (.int .i64 r)) := by
  refine Ctr_of tyOk hm Tryz.func21 rfl rfl (by kernel_rfl) (n := 16) (rv := [.tmp 4]) rfl rfl ?_
  simp only [W, List.replicate]
  unfold laws_heldGarden.f at h
  replace h := bnd h; obtain ⟨t1, A, h⟩ := h
  try simp only [W, p1, p2, p3, p4, p5, p6, p7, p8, p9, p10, p11, p12]
  refine callR (laws_heldHedge.ctr A) ?_
  replace h := ifS h; rcases h with ⟨c2, h⟩ | ⟨c2, h⟩
  · cases h
    try simp only [W, c2, p1, p2, p3, p4, p5, p6, p7, p8, p9, p10, p11, p12]
  · replace h := bnd h; obtain ⟨t3, A, h⟩ := h
    try simp only [W, c2, p1, p2, p3, p4, p5, p6, p7, p8, p9, p10, p11, p12]
    refine callR (laws_heldIntS.ctr A) ?_
    replace h := ifS h; rcases h with ⟨c4, h⟩ | ⟨c4, h⟩
    · cases h
      try simp only [W, c2, c4, p1, p2, p3, p4, p5, p6, p7, p8, p9, p10, p11, p12]
    · cases h
      try simp only [W, c2, c4, p1, p2, p3, p4, p5, p6, p7, p8, p9, p10, p11, p12]
theorem laws_heldGarden.calls (k : Nat) (a0_0 : Int) (a0_1 : Int) (a0_2 : Int) (A0_3 : Option Addr) (c0_3 : Nat) (l0_3 : List Int) (a0_4 : Int) (a0_5 : Int) (A0_6 : Option Addr) (c0_6 : Nat) (l0_6 : List Int) (a0_7 : Int) (a1 : Int) (r : Int) (w : World) (hr0_3 : Kd.C (Kd.int .i64) w A0_3 l0_3.length l0_3) (hc0_3 : l0_3.length ≤ c0_3) (hr0_6 : Kd.C (Kd.int .i64) w A0_6 l0_6.length l0_6) (hc0_6 : l0_6.length ≤ c0_6) (h : laws_heldGarden.f k a0_0 a0_1 a0_2 l0_3 a0_4 a0_5 l0_6 a0_7 a1 = some r) :
    Calls Tryz.prog 21 #[.agg #[.int .i64 a0_0, .int .i64 a0_1, .int .i64 a0_2, .slice A0_3 l0_3.length c0_3, .int .i64 a0_4, .int .i64 a0_5, .slice A0_6 l0_6.length c0_6, .int .i64 a0_7], .int .i64 a1] w fun e w' => e = .returned (.int .i64 r) ∧ Below w.heap.size w w' := by
  refine ((laws_heldGarden.ctr h).2 w [.agg #[.int .i64 a0_0, .int .i64 a0_1, .int .i64 a0_2, .slice A0_3 l0_3.length c0_3, .int .i64 a0_4, .int .i64 a0_5, .slice A0_6 l0_6.length c0_6, .int .i64 a0_7], .int .i64 a1] (by simp only [RepL, Rep]; exact ⟨_, _, rfl, ⟨_, rfl, _, _, rfl, rfl, _, _, rfl, rfl, _, _, rfl, rfl, _, _, rfl, at_of_C E_eI hr0_3 hc0_3, _, _, rfl, rfl, _, _, rfl, rfl, _, _, rfl, at_of_C E_eI hr0_6 hc0_6, _, _, rfl, rfl, rfl⟩, _, _, rfl, rfl, rfl⟩)).mono ?_
  rintro _ _ ⟨y, L, rfl, hR, _, hb⟩
  exact ⟨congrArg Ending.returned (RepR_pln rfl hR).1, hb⟩
end Go.Proofs.YtkindoepnganmaaGreat.F
end
