/- Packed by a program of the session (wip/tools/pack.py): what the claim's theorem reaches, of the texts that wip/ and the kit's printer lay. -/
import Derived.Test.YtkindoepnganmaaGreatPkFnExactDoAct6
section
namespace Go.Proofs.YtkindoepnganmaaGreat.F
open Go.RowKit Go.Proofs.YtkindoepnganmaaGreatW.PrintWords Go.Proofs.YtkindoepnganmaaGreatW.PrintLast Go.Proofs.YtkindoepnganmaaGreatW.PrintMore
set_option linter.unusedVariables false
set_option linter.unusedSimpArgs false
attribute [local go_sem] max2_int min2_int max_two min_two
set_option maxRecDepth 20000 in set_option maxHeartbeats 4000000 in open Nat renaming reduceAdd → p1, reduceSub → p2, reduceMul → p3, reduceDiv → p4, reduceBNe → p5, reduceBEq → p6, reduceEqDiff → p7, reduceLeDiff → p8, reduceLT → p9 in open Int renaming reduceLE → p10, reduceLT → p11, reduceEq → p12 in
theorem spec_DoAct.ctr {k : Nat} {a0_0 : Int} {a0_1 : Int} {a0_2 : Int} {l0_3 : List Int} {a0_4 : Int} {a0_5 : Int} {l0_6 : List Int} {a0_7 : Int} {a1_0 : Int} {a1_1 : Int} {a1_2 : Int} {r1 : Int} {r2 : Int} {r3 : Int} {r4 : List Int} {r5 : Int} {r6 : Int} {r7 : List Int} {r8 : Int} {r9 : Int} (h : spec_DoAct.f k a0_0 a0_1 a0_2 l0_3 a0_4 a0_5 l0_6 a0_7 a1_0 a1_1 a1_2 = some (r1, r2, r3, r4, r5, r6, r7, r8, r9)) : Ctr Tryz.prog 30 [.ag [.v (.int .i64 a0_0), .v (.int .i64 a0_1), .v (.int .i64 a0_2), .pr 1 (l0_3.map eI), .v (.int .i64 a0_4), .v (.int .i64 a0_5), .pr 1 (l0_6.map eI), .v (.int .i64 a0_7)], .ag [.v (.int .i64 a1_0), .v (.int .i64 a1_1), .v (.int .i64 a1_2)]] (.tu [.ag [.v (.int .i64 r1), .v (.int .i64 r2), .v (.int .i64 r3), .ow 3 1 (r4.map eI), .v (.int .i64 r5), .v (.int .i64 r6), .ow 3 1 (r7.map eI), .v (.int .i64 r8)], .v (.int .i64 r9)]) := by
  refine Ctr_of tyOk hm Tryz.func30 rfl rfl (by kernel_rfl) (n := 70) (rv := [.cell 4 38, .tmp 5]) rfl rfl ?_
  simp only [W, List.replicate]
  unfold spec_DoAct.f at h
  replace h := bnd h; obtain ⟨⟨t1_1, t1_2, t1_3, t1_4, t1_5, t1_6, t1_7, t1_8⟩, A, h⟩ := h
  dsimp only at h
  try simp only [W, p1, p2, p3, p4, p5, p6, p7, p8, p9, p10, p11, p12]
  refine callR (spec_l38Copy.ctr A) ?_
  replace h := bnd h; obtain ⟨t2, A, h⟩ := h
  try simp only [W, p1, p2, p3, p4, p5, p6, p7, p8, p9, p10, p11, p12]
  refine callR (spec_GardenOk.ctr A) ?_
  replace h := ifT h; rcases h with ⟨rfl, h⟩ | ⟨rfl, h⟩
  · replace h := bnd h; obtain ⟨t4, A, h⟩ := h
    try simp only [W, p1, p2, p3, p4, p5, p6, p7, p8, p9, p10, p11, p12]
    refine callR (spec_ActOk.ctr A) ?_
    rcases k with _ | m5; · cases h
    rw [spec_DoAct.j0] at h
    replace h := ifT h; rcases h with ⟨c6, h⟩ | ⟨c6, h⟩
    · cases h
      try simp only [W, c6, p1, p2, p3, p4, p5, p6, p7, p8, p9, p10, p11, p12]
    · replace h := ifS h; rcases h with ⟨c7, h⟩ | ⟨c7, h⟩
      · replace h := bnd h; obtain ⟨⟨t8_1, t8_2, t8_3, t8_4, t8_5, t8_6, t8_7, t8_8, t8_9⟩, A, h⟩ := h
        dsimp only at h
        try simp only [W, c6, eq_true c7, p1, p2, p3, p4, p5, p6, p7, p8, p9, p10, p11, p12]
        refine callR (spec_NextDay.ctr A) ?_
        replace h := bnd h; obtain ⟨t9, A, h⟩ := h
        try simp only [W, c6, eq_true c7, p1, p2, p3, p4, p5, p6, p7, p8, p9, p10, p11, p12]
        refine callR (spec_l39Bool.ctr A) ?_
        cases h
        try simp only [W, c6, eq_true c7, p1, p2, p3, p4, p5, p6, p7, p8, p9, p10, p11, p12]
      · replace h := ifS h; rcases h with ⟨c10, h⟩ | ⟨c10, h⟩
        · replace h := bnd h; obtain ⟨⟨t11_1, t11_2, t11_3, t11_4, t11_5, t11_6, t11_7, t11_8, t11_9⟩, A, h⟩ := h
          dsimp only at h
          try simp only [W, c6, c7, eq_true c10, p1, p2, p3, p4, p5, p6, p7, p8, p9, p10, p11, p12]
          refine callR (spec_Enter.ctr A) ?_
          replace h := bnd h; obtain ⟨t12, A, h⟩ := h
          try simp only [W, c6, c7, eq_true c10, p1, p2, p3, p4, p5, p6, p7, p8, p9, p10, p11, p12]
          refine callR (spec_l39Bool.ctr A) ?_
          cases h
          try simp only [W, c6, c7, eq_true c10, p1, p2, p3, p4, p5, p6, p7, p8, p9, p10, p11, p12]
        · replace h := ifS h; rcases h with ⟨c13, h⟩ | ⟨c13, h⟩
          · replace h := bnd h; obtain ⟨⟨t14_1, t14_2, t14_3, t14_4, t14_5, t14_6, t14_7, t14_8, t14_9⟩, A, h⟩ := h
            dsimp only at h
            try simp only [W, c6, c7, c10, eq_true c13, p1, p2, p3, p4, p5, p6, p7, p8, p9, p10, p11, p12]
            refine callR (spec_WalkIn.ctr A) ?_
            replace h := bnd h; obtain ⟨t15, A, h⟩ := h
            try simp only [W, c6, c7, c10, eq_true c13, p1, p2, p3, p4, p5, p6, p7, p8, p9, p10, p11, p12]
            refine callR (spec_l39Bool.ctr A) ?_
            cases h
            try simp only [W, c6, c7, c10, eq_true c13, p1, p2, p3, p4, p5, p6, p7, p8, p9, p10, p11, p12]
          · replace h := ifS h; rcases h with ⟨c16, h⟩ | ⟨c16, h⟩
            · replace h := bnd h; obtain ⟨⟨t17_1, t17_2, t17_3, t17_4, t17_5, t17_6, t17_7, t17_8, t17_9⟩, A, h⟩ := h
              dsimp only at h
              try simp only [W, c6, c7, c10, c13, eq_true c16, p1, p2, p3, p4, p5, p6, p7, p8, p9, p10, p11, p12]
              refine callR (spec_Leave.ctr A) ?_
              replace h := bnd h; obtain ⟨t18, A, h⟩ := h
              try simp only [W, c6, c7, c10, c13, eq_true c16, p1, p2, p3, p4, p5, p6, p7, p8, p9, p10, p11, p12]
              refine callR (spec_l39Bool.ctr A) ?_
              cases h
              try simp only [W, c6, c7, c10, c13, eq_true c16, p1, p2, p3, p4, p5, p6, p7, p8, p9, p10, p11, p12]
            · replace h := ifS h; rcases h with ⟨c19, h⟩ | ⟨c19, h⟩
              · replace h := bnd h; obtain ⟨⟨t20_1, t20_2, t20_3, t20_4, t20_5, t20_6, t20_7, t20_8, t20_9⟩, A, h⟩ := h
                dsimp only at h
                try simp only [W, c6, c7, c10, c13, c16, eq_true c19, p1, p2, p3, p4, p5, p6, p7, p8, p9, p10, p11, p12]
                refine callR (spec_Guide.ctr A) ?_
                replace h := bnd h; obtain ⟨t21, A, h⟩ := h
                try simp only [W, c6, c7, c10, c13, c16, eq_true c19, p1, p2, p3, p4, p5, p6, p7, p8, p9, p10, p11, p12]
                refine callR (spec_l39Bool.ctr A) ?_
                cases h
                try simp only [W, c6, c7, c10, c13, c16, eq_true c19, p1, p2, p3, p4, p5, p6, p7, p8, p9, p10, p11, p12]
              · replace h := ifS h; rcases h with ⟨c22, h⟩ | ⟨c22, h⟩
                · replace h := bnd h; obtain ⟨t23, A, h⟩ := h
                  try simp only [W, c6, c7, c10, c13, c16, c19, eq_true c22, p1, p2, p3, p4, p5, p6, p7, p8, p9, p10, p11, p12]
                  refine callR (spec_l39Far.ctr A) ?_
                  cases h
                  try simp only [W, c6, c7, c10, c13, c16, c19, eq_true c22, p1, p2, p3, p4, p5, p6, p7, p8, p9, p10, p11, p12]
                · replace h := bnd h; obtain ⟨t24, A, h⟩ := h
                  try simp only [W, c6, c7, c10, c13, c16, c19, c22, p1, p2, p3, p4, p5, p6, p7, p8, p9, p10, p11, p12]
                  refine callR (spec_l39Bool.ctr A) ?_
                  cases h
                  try simp only [W, c6, c7, c10, c13, c16, c19, c22, p1, p2, p3, p4, p5, p6, p7, p8, p9, p10, p11, p12]
  · rcases k with _ | m25; · cases h
    rw [spec_DoAct.j0] at h
    rw [if_pos rfl] at h
    cases h
    try simp only [W, p1, p2, p3, p4, p5, p6, p7, p8, p9, p10, p11, p12]
end Go.Proofs.YtkindoepnganmaaGreat.F
end

section
namespace Go.Proofs.YtkindoepnganmaaGreat.F
open Go.RowKit Go.Proofs.YtkindoepnganmaaGreatW.PrintWords Go.Proofs.YtkindoepnganmaaGreatW.PrintLast Go.Proofs.YtkindoepnganmaaGreatW.PrintMore
set_option linter.unusedVariables false
set_option linter.unusedSimpArgs false
attribute [local go_sem] max2_int min2_int max_two min_two
set_option maxRecDepth 20000 in set_option maxHeartbeats 4000000 in open Nat renaming reduceAdd → p1, reduceSub → p2, reduceMul → p3, reduceDiv → p4, reduceBNe → p5, reduceBEq → p6, reduceEqDiff → p7, reduceLeDiff → p8, reduceLT → p9 in open Int renaming reduceLE → p10, reduceLT → p11, reduceEq → p12 in
theorem laws_toAct.ctr {a0_0 : Int} {a0_1 : Int} {a0_2 : Int} {r1 : Int} {r2 : Int} {r3 : Int} (h : laws_toAct.f a0_0 a0_1 a0_2 = some (r1, r2, r3)) : Ctr Tryz.prog 31 [.ag [.v (.int .i64 a0_0), .v (.int .i64 a0_1), .v (.int .i64 a0_2)]] (.ag [.v (.int .i64 r1), .v (.int .i64 r2), .v (.int .i64 r3)]) := by
  refine Ctr_of tyOk hm Tryz.func31 rfl rfl (by kernel_rfl) (n := 13) (rv := [.cell 2 53]) rfl rfl ?_
  simp only [W, List.replicate]
  unfold laws_toAct.f at h
  cases h
  try simp only [W, p1, p2, p3, p4, p5, p6, p7, p8, p9, p10, p11, p12]
end Go.Proofs.YtkindoepnganmaaGreat.F
end

section
namespace Go.Proofs.YtkindoepnganmaaGreat.F
open Go.RowKit Go.Proofs.YtkindoepnganmaaGreatW.PrintWords Go.Proofs.YtkindoepnganmaaGreatW.PrintLast Go.Proofs.YtkindoepnganmaaGreatW.PrintMore
set_option linter.unusedVariables false
set_option linter.unusedSimpArgs false
attribute [local go_sem] max2_int min2_int max_two min_two
set_option maxRecDepth 20000
set_option maxHeartbeats 4000000
open Nat renaming reduceAdd → p1, reduceSub → p2, reduceMul → p3, reduceDiv → p4, reduceBNe → p5, reduceBEq → p6, reduceEqDiff → p7, reduceLeDiff → p8, reduceLT → p9
open Int renaming reduceLE → p10, reduceLT → p11, reduceEq → p12
theorem laws_szIntS.ctr {l0 : List Int} {a1 : Int} {r : Int} (h : laws_szIntS.f l0 a1 = some r) : Ctr Tryz.prog 61 [.pr 1 (l0.map eI), .v (.int .i64 a1)] (.v (.int .i64 r)) := by
  refine Ctr_of tyOk hm Tryz.func61 rfl rfl (by kernel_rfl) (n := 10) (rv := [.tmp 4]) rfl rfl ?_
  simp only [W, List.replicate]
  unfold laws_szIntS.f at h
  replace h := ifS h; rcases h with ⟨c1, h⟩ | ⟨c1, h⟩
  · cases h
    try simp only [W, c1, p1, p2, p3, p4, p5, p6, p7, p8, p9, p10, p11, p12]
  · cases h
    try simp only [W, c1, p1, p2, p3, p4, p5, p6, p7, p8, p9, p10, p11, p12]
theorem laws_szHedge.ctr {a0_0 : Int} {a0_1 : Int} {a0_2 : Int} {l0_3 : List Int} {a0_4 : Int} {a1 : Int} {r : Int} (h : laws_szHedge.f a0_0 a0_1 a0_2 l0_3 a0_4 a1 = some r) : Ctr Tryz.prog 60 [.ag [.v (.int .i64 a0_0), .v (.int .i64 a0_1), .v (.int .i64 a0_2), .pr 1 (l0_3.map eI), .v (.int .i64 a0_4)], .v (.int .i64 a1)] (.v (.int .i64 r)) := by
  refine Ctr_of tyOk hm Tryz.func60 rfl rfl (by kernel_rfl) (n := 10) (rv := [.tmp 4]) rfl rfl ?_
  simp only [W, List.replicate]
  unfold laws_szHedge.f at h
  replace h := bnd h; obtain ⟨t1, A, h⟩ := h
  try simp only [W, p1, p2, p3, p4, p5, p6, p7, p8, p9, p10, p11, p12]
  refine callR (laws_szIntS.ctr A) ?_
  replace h := ifS h; rcases h with ⟨c2, h⟩ | ⟨c2, h⟩
  · cases h
    try simp only [W, c2, p1, p2, p3, p4, p5, p6, p7, p8, p9, p10, p11, p12]
  · cases h
    try simp only [W, c2, p1, p2, p3, p4, p5, p6, p7, p8, p9, p10, p11, p12]
theorem laws_szGarden.ctr {a0_0 : Int} {a0_1 : Int} {a0_2 : Int} {l0_3 : List Int} {a0_4 : Int} {a0_5 : Int} {l0_6 : List Int} {a0_7 : Int} {a1 : Int} {r : Int} (h : laws_szGarden.f a0_0 a0_1 a0_2 l0_3 a0_4 a0_5 l0_6 a0_7 a1 = some r) : Ctr Tryz.prog 15 [.ag [.v (.int .i64 a0_0), .v (.int .i64 a0_1), .v (.int .i64 a0_2), .pr 1 (l0_3.map eI), .v (.int .i64 a0_4), .v (.int .i64 a0_5), .pr 1 (l0_6.map eI), .v (.int .i64 a0_7)], .v (.int .i64 a1)] (.v (.int .i64 r)) := by
  refine Ctr_of tyOk hm Tryz.func15 rfl rfl (by kernel_rfl) (n := 16) (rv := [.tmp 4]) rfl rfl ?_
  simp only [W, List.replicate]
  unfold laws_szGarden.f at h
  replace h := bnd h; obtain ⟨t1, A, h⟩ := h
  try simp only [W, p1, p2, p3, p4, p5, p6, p7, p8, p9, p10, p11, p12]
  refine callR (laws_szHedge.ctr A) ?_
  replace h := ifS h; rcases h with ⟨c2, h⟩ | ⟨c2, h⟩
  · cases h
    try simp only [W, c2, p1, p2, p3, p4, p5, p6, p7, p8, p9, p10, p11, p12]
  · replace h := bnd h; obtain ⟨t3, A, h⟩ := h
    try simp only [W, c2, p1, p2, p3, p4, p5, p6, p7, p8, p9, p10, p11, p12]
    refine callR (laws_szIntS.ctr A) ?_
    replace h := ifS h; rcases h with ⟨c4, h⟩ | ⟨c4, h⟩
    · cases h
      try simp only [W, c2, c4, p1, p2, p3, p4, p5, p6, p7, p8, p9, p10, p11, p12]
    · cases h
      try simp only [W, c2, c4, p1, p2, p3, p4, p5, p6, p7, p8, p9, p10, p11, p12]
theorem laws_toIntS.ctr {k : Nat} {l0 : List Int} {r : List Int} (h : laws_toIntS.f k l0 = some r) : Ctr Tryz.prog 43 [.pr 1 (l0.map eI)] (.ow 3 1 (r.map eI)) := by
  refine Ctr_of tyOk hm Tryz.func43 rfl rfl (by kernel_rfl) (n := 21) (rv := [.tmp 2]) rfl rfl ?_
  simp only [W, List.replicate]
  unfold laws_toIntS.f at h
  replace h := ifN h; obtain ⟨c1, h⟩ := h
  replace h := ifN h; obtain ⟨c2, h⟩ := h
  try simp only [W, c1, c2, p1, p2, p3, p4, p5, p6, p7, p8, p9, p10, p11, p12]
  refine loopN (fun x : List Int × List Int × Int => [.pr 1 (List.map eI x.1), .u, .u, .lo 112, .v (.int .i64 x.2.2), .u, .u, .u, .u, .u, .u, .u, .u, .u, .u, .u, .u, .u, .u, .u, .u, .u]) (fun x => [(112, .row 3 1 (List.map eI x.2.1))]) (fun n x => laws_toIntS.l0 n x.1 x.2.1 x.2.2 = some r) (l0, (List.replicate ((l0.length : Int) : Int).toNat 0), 0) [] h (by simp only [W, p1, p2, p3, p4, p5, p6, p7, p8, p9, p10, p11, p12] <;> trivial) (by simp only [W, p1, p2, p3, p4, p5, p6, p7, p8, p9, p10, p11, p12] <;> trivial) rfl (fun _ h => by cases h) ?_
  intro n1 ⟨x3, x4, x5⟩ _ h
  simp only [laws_toIntS.l0] at h
  replace h := ifS h; rcases h with ⟨c6, h⟩ | ⟨c6, h⟩
  · replace h := ifN h; obtain ⟨c7, h⟩ := h
    replace h := ifN h; obtain ⟨c8, h⟩ := h
    try simp only [W, c6, c7, c8, p1, p2, p3, p4, p5, p6, p7, p8, p9, p10, p11, p12]
    exact nextN (x3, (x4.set (x5 : Int).toNat (rd x3 x5)), (wrap64 (x5 + 1))) [] n1 (by omega) h (by simp only [W, p1, p2, p3, p4, p5, p6, p7, p8, p9, p10, p11, p12] <;> trivial) (by simp only [W, p1, p2, p3, p4, p5, p6, p7, p8, p9, p10, p11, p12] <;> trivial) rfl
  · cases h
    try simp only [W, c6, p1, p2, p3, p4, p5, p6, p7, p8, p9, p10, p11, p12]
theorem laws_toGrid.ctr {a0_0 : Int} {a0_1 : Int} {r1 : Int} {r2 : Int} (h : laws_toGrid.f a0_0 a0_1 = some (r1, r2)) : Ctr Tryz.prog 146 [.ag [.v (.int .i64 a0_0), .v (.int .i64 a0_1)]] (.ag [.v (.int .i64 r1), .v (.int .i64 r2)]) := by
  refine Ctr_of tyOk hm Tryz.func146 rfl rfl (by kernel_rfl) (n := 10) (rv := [.cell 2 32]) rfl rfl ?_
  simp only [W, List.replicate]
  unfold laws_toGrid.f at h
  cases h
  try simp only [W, p1, p2, p3, p4, p5, p6, p7, p8, p9, p10, p11, p12]
theorem laws_toMaze.ctr {a0_0 : Int} {a0_1 : Int} {a0_2 : Int} {r1 : Int} {r2 : Int} {r3 : Int} (h : laws_toMaze.f a0_0 a0_1 a0_2 = some (r1, r2, r3)) : Ctr Tryz.prog 112 [.ag [.v (.int .i64 a0_0), .v (.int .i64 a0_1), .v (.int .i64 a0_2)]] (.ag [.v (.int .i64 r1), .v (.int .i64 r2), .v (.int .i64 r3)]) := by
  refine Ctr_of tyOk hm Tryz.func112 rfl rfl (by kernel_rfl) (n := 11) (rv := [.cell 2 34]) rfl rfl ?_
  simp only [W, List.replicate]
  unfold laws_toMaze.f at h
  replace h := bnd h; obtain ⟨⟨t1_1, t1_2⟩, A, h⟩ := h
  dsimp only at h
  try simp only [W, p1, p2, p3, p4, p5, p6, p7, p8, p9, p10, p11, p12]
  refine callR (laws_toGrid.ctr A) ?_
  cases h
  try simp only [W, p1, p2, p3, p4, p5, p6, p7, p8, p9, p10, p11, p12]
theorem laws_toHedge.ctr {k : Nat} {a0_0 : Int} {a0_1 : Int} {a0_2 : Int} {l0_3 : List Int} {a0_4 : Int} {r1 : Int} {r2 : Int} {r3 : Int} {r4 : List Int} {r5 : Int} (h : laws_toHedge.f k a0_0 a0_1 a0_2 l0_3 a0_4 = some (r1, r2, r3, r4, r5)) : Ctr Tryz.prog 63 [.ag [.v (.int .i64 a0_0), .v (.int .i64 a0_1), .v (.int .i64 a0_2), .pr 1 (l0_3.map eI), .v (.int .i64 a0_4)]] (.ag [.v (.int .i64 r1), .v (.int .i64 r2), .v (.int .i64 r3), .ow 3 1 (r4.map eI), .v (.int .i64 r5)]) := by
  refine Ctr_of tyOk hm Tryz.func63 rfl rfl (by kernel_rfl) (n := 15) (rv := [.cell 2 36]) rfl rfl ?_
  simp only [W, List.replicate]
  unfold laws_toHedge.f at h
  replace h := bnd h; obtain ⟨⟨t1_1, t1_2, t1_3⟩, A, h⟩ := h
  dsimp only at h
  try simp only [W, p1, p2, p3, p4, p5, p6, p7, p8, p9, p10, p11, p12]
  refine callR (laws_toMaze.ctr A) ?_
  replace h := bnd h; obtain ⟨t2, A, h⟩ := h
  try simp only [W, p1, p2, p3, p4, p5, p6, p7, p8, p9, p10, p11, p12]
  refine callR (laws_toIntS.ctr A) ?_
  cases h
  try simp only [W, p1, p2, p3, p4, p5, p6, p7, p8, p9, p10, p11, p12]
theorem laws_toGarden.ctr {k : Nat} {a0_0 : Int} {a0_1 : Int} {a0_2 : Int} {l0_3 : List Int} {a0_4 : Int} {a0_5 : Int} {l0_6 : List Int} {a0_7 : Int} {r1 : Int} {r2 : Int} {r3 : Int} {r4 : List Int} {r5 : Int} {r6 : Int} {r7 : List Int} {r8 : Int} (h : laws_toGarden.f k a0_0 a0_1 a0_2 l0_3 a0_4 a0_5 l0_6 a0_7 = some (r1, r2, r3, r4, r5, r6, r7, r8)) : Ctr Tryz.prog 17 [.ag [.v (.int .i64 a0_0), .v (.int .i64 a0_1), .v (.int .i64 a0_2), .pr 1 (l0_3.map eI), .v (.int .i64 a0_4), .v (.int .i64 a0_5), .pr 1 (l0_6.map eI), .v (.int .i64 a0_7)]] (.ag [.v (.int .i64 r1), .v (.int .i64 r2), .v (.int .i64 r3), .ow 3 1 (r4.map eI), .v (.int .i64 r5), .v (.int .i64 r6), .ow 3 1 (r7.map eI), .v (.int .i64 r8)]) := by
  refine Ctr_of tyOk hm Tryz.func17 rfl rfl (by kernel_rfl) (n := 18) (rv := [.cell 2 38]) rfl rfl ?_
  simp only [W, List.replicate]
  unfold laws_toGarden.f at h
  replace h := bnd h; obtain ⟨⟨t1_1, t1_2, t1_3, t1_4, t1_5⟩, A, h⟩ := h
  dsimp only at h
  try simp only [W, p1, p2, p3, p4, p5, p6, p7, p8, p9, p10, p11, p12]
  refine callR (laws_toHedge.ctr A) ?_
  replace h := bnd h; obtain ⟨t2, A, h⟩ := h
  try simp only [W, p1, p2, p3, p4, p5, p6, p7, p8, p9, p10, p11, p12]
  refine callR (laws_toIntS.ctr A) ?_
  cases h
  try simp only [W, p1, p2, p3, p4, p5, p6, p7, p8, p9, p10, p11, p12]
theorem laws_eqIntS.ctr {k : Nat} {l0 : List Int} {l1 : List Int} {r : Bool} (h : laws_eqIntS.f k l0 l1 = some r) : Ctr Tryz.prog 37 [.pr 1 (l0.map eI), .pr 1 (l1.map eI)] (.v (.bool r)) := by
  refine Ctr_of tyOk hm Tryz.func37 rfl rfl (by kernel_rfl) (n := 24) (rv := [.tmp 4]) rfl rfl ?_
  simp only [W, List.replicate]
  unfold laws_eqIntS.f at h
  replace h := ifS h; rcases h with ⟨c1, h⟩ | ⟨c1, h⟩
  · try simp only [W, eq_true c1, p1, p2, p3, p4, p5, p6, p7, p8, p9, p10, p11, p12]
    refine loopN (fun x : List Int × List Int × Int => [.pr 1 (List.map eI x.1), .pr 1 (List.map eI x.2.1), .u, .u, .u, .v (.int .i64 x.2.2), .u, .u, .u, .u, .u, .u, .u, .u, .u, .u, .u, .u, .u, .u, .u, .u, .u, .u, .u, .u]) (fun x => []) (fun n x => laws_eqIntS.l0 n x.1 x.2.1 x.2.2 = some r) (l0, l1, 0) [] h (by simp only [W, p1, p2, p3, p4, p5, p6, p7, p8, p9, p10, p11, p12] <;> trivial) (by simp only [W, p1, p2, p3, p4, p5, p6, p7, p8, p9, p10, p11, p12] <;> trivial) rfl (fun _ h => by cases h) ?_
    intro n1 ⟨x2, x3, x4⟩ _ h
    simp only [laws_eqIntS.l0] at h
    replace h := ifS h; rcases h with ⟨c5, h⟩ | ⟨c5, h⟩
    · replace h := ifN h; obtain ⟨c6, h⟩ := h
      replace h := ifN h; obtain ⟨c7, h⟩ := h
      replace h := ifS h; rcases h with ⟨c8, h⟩ | ⟨c8, h⟩
      · try simp only [W, c5, c6, c7, eq_true c8, p1, p2, p3, p4, p5, p6, p7, p8, p9, p10, p11, p12]
        exact nextN (x2, x3, (wrap64 (x4 + 1))) [] n1 (by omega) h (by simp only [W, p1, p2, p3, p4, p5, p6, p7, p8, p9, p10, p11, p12] <;> trivial) (by simp only [W, p1, p2, p3, p4, p5, p6, p7, p8, p9, p10, p11, p12] <;> trivial) rfl
      · cases h
        try simp only [W, c5, c6, c7, c8, p1, p2, p3, p4, p5, p6, p7, p8, p9, p10, p11, p12]
    · cases h
      try simp only [W, c5, p1, p2, p3, p4, p5, p6, p7, p8, p9, p10, p11, p12]
  · cases h
    try simp only [W, c1, p1, p2, p3, p4, p5, p6, p7, p8, p9, p10, p11, p12]
end Go.Proofs.YtkindoepnganmaaGreat.F
end

section
namespace Go.Proofs.YtkindoepnganmaaGreat.F
open Go.RowKit Go.Proofs.YtkindoepnganmaaGreatW.PrintWords Go.Proofs.YtkindoepnganmaaGreatW.PrintLast Go.Proofs.YtkindoepnganmaaGreatW.PrintMore
set_option linter.unusedVariables false
set_option linter.unusedSimpArgs false
attribute [local go_sem] max2_int min2_int max_two min_two
set_option maxRecDepth 20000
set_option maxHeartbeats 4000000
open Nat renaming reduceAdd → p1, reduceSub → p2, reduceMul → p3, reduceDiv → p4, reduceBNe → p5, reduceBEq → p6, reduceEqDiff → p7, reduceLeDiff → p8, reduceLT → p9
open Int renaming reduceLE → p10, reduceLT → p11, reduceEq → p12
theorem laws_eqGrid.ctr {a0_0 : Int} {a0_1 : Int} {a1_0 : Int} {a1_1 : Int} {r : Bool} (h : laws_eqGrid.f a0_0 a0_1 a1_0 a1_1 = some r) : Ctr Tryz.prog 147 [.ag [.v (.int .i64 a0_0), .v (.int .i64 a0_1)], .ag [.v (.int .i64 a1_0), .v (.int .i64 a1_1)]] (.v (.bool r)) := by
  refine Ctr_of tyOk hm Tryz.func147 rfl rfl (by kernel_rfl) (n := 13) (rv := [.tmp 4]) rfl rfl ?_
  simp only [W, List.replicate]
  unfold laws_eqGrid.f at h
  replace h := ifS h; rcases h with ⟨c1, h⟩ | ⟨c1, h⟩
  · replace h := ifS h; rcases h with ⟨c2, h⟩ | ⟨c2, h⟩
    · cases h
      try simp only [W, eq_true c1, eq_true c2, p1, p2, p3, p4, p5, p6, p7, p8, p9, p10, p11, p12]
    · cases h
      try simp only [W, eq_true c1, c2, p1, p2, p3, p4, p5, p6, p7, p8, p9, p10, p11, p12]
  · cases h
    try simp only [W, c1, p1, p2, p3, p4, p5, p6, p7, p8, p9, p10, p11, p12]
theorem laws_eqMaze.ctr {a0_0 : Int} {a0_1 : Int} {a0_2 : Int} {a1_0 : Int} {a1_1 : Int} {a1_2 : Int} {r : Bool} (h : laws_eqMaze.f a0_0 a0_1 a0_2 a1_0 a1_1 a1_2 = some r) : Ctr Tryz.prog 115 [.ag [.v (.int .i64 a0_0), .v (.int .i64 a0_1), .v (.int .i64 a0_2)], .ag [.v (.int .i64 a1_0), .v (.int .i64 a1_1), .v (.int .i64 a1_2)]] (.v (.bool r)) := by
  refine Ctr_of tyOk hm Tryz.func115 rfl rfl (by kernel_rfl) (n := 14) (rv := [.tmp 4]) rfl rfl ?_
  simp only [W, List.replicate]
  unfold laws_eqMaze.f at h
  replace h := bnd h; obtain ⟨t1, A, h⟩ := h
  try simp only [W, p1, p2, p3, p4, p5, p6, p7, p8, p9, p10, p11, p12]
  refine callR (laws_eqGrid.ctr A) ?_
  replace h := ifT h; rcases h with ⟨rfl, h⟩ | ⟨rfl, h⟩
  · replace h := ifS h; rcases h with ⟨c3, h⟩ | ⟨c3, h⟩
    · cases h
      try simp only [W, eq_true c3, p1, p2, p3, p4, p5, p6, p7, p8, p9, p10, p11, p12]
    · cases h
      try simp only [W, c3, p1, p2, p3, p4, p5, p6, p7, p8, p9, p10, p11, p12]
  · cases h
    try simp only [W, p1, p2, p3, p4, p5, p6, p7, p8, p9, p10, p11, p12]
theorem laws_eqHedge.ctr {k : Nat} {a0_0 : Int} {a0_1 : Int} {a0_2 : Int} {l0_3 : List Int} {a0_4 : Int} {a1_0 : Int} {a1_1 : Int} {a1_2 : Int} {l1_3 : List Int} {a1_4 : Int} {r : Bool} (h : laws_eqHedge.f k a0_0 a0_1 a0_2 l0_3 a0_4 a1_0 a1_1 a1_2 l1_3 a1_4 = some r) : Ctr Tryz.prog 65 [.ag [.v (.int .i64 a0_0), .v (.int .i64 a0_1), .v (.int .i64 a0_2), .pr 1 (l0_3.map eI), .v (.int .i64 a0_4)], .ag [.v (.int .i64 a1_0), .v (.int .i64 a1_1), .v (.int .i64 a1_2), .pr 1 (l1_3.map eI), .v (.int .i64 a1_4)]] (.v (.bool r)) := by
  refine Ctr_of tyOk hm Tryz.func65 rfl rfl (by kernel_rfl) (n := 20) (rv := [.tmp 4]) rfl rfl ?_
  simp only [W, List.replicate]
  unfold laws_eqHedge.f at h
  replace h := bnd h; obtain ⟨t1, A, h⟩ := h
  try simp only [W, p1, p2, p3, p4, p5, p6, p7, p8, p9, p10, p11, p12]
  refine callR (laws_eqMaze.ctr A) ?_
  replace h := ifT h; rcases h with ⟨rfl, h⟩ | ⟨rfl, h⟩
  · replace h := bnd h; obtain ⟨t3, A, h⟩ := h
    try simp only [W, p1, p2, p3, p4, p5, p6, p7, p8, p9, p10, p11, p12]
    refine callR (laws_eqIntS.ctr A) ?_
    replace h := ifT h; rcases h with ⟨rfl, h⟩ | ⟨rfl, h⟩
    · replace h := ifS h; rcases h with ⟨c5, h⟩ | ⟨c5, h⟩
      · cases h
        try simp only [W, eq_true c5, p1, p2, p3, p4, p5, p6, p7, p8, p9, p10, p11, p12]
      · cases h
        try simp only [W, c5, p1, p2, p3, p4, p5, p6, p7, p8, p9, p10, p11, p12]
    · cases h
      try simp only [W, p1, p2, p3, p4, p5, p6, p7, p8, p9, p10, p11, p12]
  · cases h
    try simp only [W, p1, p2, p3, p4, p5, p6, p7, p8, p9, p10, p11, p12]
end Go.Proofs.YtkindoepnganmaaGreat.F
end

section
namespace Go.Proofs.YtkindoepnganmaaGreat.F
open Go.RowKit Go.Proofs.YtkindoepnganmaaGreatW.PrintWords Go.Proofs.YtkindoepnganmaaGreatW.PrintLast Go.Proofs.YtkindoepnganmaaGreatW.PrintMore
set_option linter.unusedVariables false
set_option linter.unusedSimpArgs false
attribute [local go_sem] max2_int min2_int max_two min_two
set_option maxRecDepth 20000
set_option maxHeartbeats 4000000
open Nat renaming reduceAdd → p1, reduceSub → p2, reduceMul → p3, reduceDiv → p4, reduceBNe → p5, reduceBEq → p6, reduceEqDiff → p7, reduceLeDiff → p8, reduceLT → p9
open Int renaming reduceLE → p10, reduceLT → p11, reduceEq → p12
theorem laws_eqGarden.ctr {k : Nat} {a0_0 : Int} {a0_1 : Int} {a0_2 : Int} {l0_3 : List Int} {a0_4 : Int} {a0_5 : Int} {l0_6 : List Int} {a0_7 : Int} {a1_0 : Int} {a1_1 : Int} {a1_2 : Int} {l1_3 : List Int} {a1_4 : Int} {a1_5 : Int} {l1_6 : List Int} {a1_7 : Int} {r : Bool} (h : laws_eqGarden.f k a0_0 a0_1 a0_2 l0_3 a0_4 a0_5 l0_6 a0_7 a1_0 a1_1 a1_2 l1_3 a1_4 a1_5 l1_6 a1_7 = some r) : Ctr Tryz.prog 19 [.ag [.v (.int .i64 a0_0), .v (.int .i64 a0_1), .v (.int .i64 a0_2), .pr 1 (l0_3.map eI), .v (.int .i64 a0_4), .v (.int .i64 a0_5), .pr 1 (l0_6.map eI), .v (.int .i64 a0_7)], .ag [.v (.int .i64 a1_0), .v (.int .i64 a1_1), .v (.int .i64 a1_2), .pr 1 (l1_3.map eI), .v (.int .i64 a1_4), .v (.int .i64 a1_5), .pr 1 (l1_6.map eI), .v (.int .i64 a1_7)]] (.v (.bool r)) := by
  refine Ctr_of tyOk hm Tryz.func19 rfl rfl (by kernel_rfl) (n := 25) (rv := [.tmp 4]) rfl rfl ?_
  simp only [W, List.replicate]
  unfold laws_eqGarden.f at h
  replace h := bnd h; obtain ⟨t1, A, h⟩ := h
  try simp only [W, p1, p2, p3, p4, p5, p6, p7, p8, p9, p10, p11, p12]
  refine callR (laws_eqHedge.ctr A) ?_
  replace h := ifT h; rcases h with ⟨rfl, h⟩ | ⟨rfl, h⟩
  · replace h := ifS h; rcases h with ⟨c3, h⟩ | ⟨c3, h⟩
    · replace h := bnd h; obtain ⟨t4, A, h⟩ := h
      try simp only [W, eq_true c3, p1, p2, p3, p4, p5, p6, p7, p8, p9, p10, p11, p12]
      refine callR (laws_eqIntS.ctr A) ?_
      replace h := ifT h; rcases h with ⟨rfl, h⟩ | ⟨rfl, h⟩
      · replace h := ifS h; rcases h with ⟨c6, h⟩ | ⟨c6, h⟩
        · cases h
          try simp only [W, eq_true c3, eq_true c6, p1, p2, p3, p4, p5, p6, p7, p8, p9, p10, p11, p12]
        · cases h
          try simp only [W, eq_true c3, c6, p1, p2, p3, p4, p5, p6, p7, p8, p9, p10, p11, p12]
      · cases h
        try simp only [W, eq_true c3, p1, p2, p3, p4, p5, p6, p7, p8, p9, p10, p11, p12]
    · cases h
      try simp only [W, c3, p1, p2, p3, p4, p5, p6, p7, p8, p9, p10, p11, p12]
  · cases h
    try simp only [W, p1, p2, p3, p4, p5, p6, p7, p8, p9, p10, p11, p12]
set_option maxHeartbeats 8000000 in
set_option maxRecDepth 100000 in
theorem laws_markIntS.calls (k : Nat) (P0_ : Nat → Prop) (u9000_ : Value) (l0 : List Int) (a1 : Int) (r1 : Int) (r2 : List Int) (w0 w : World) (hB : Below w0.heap.size w0 w) (ho0 : Kd.R (Kd.int .i64) 3 w w0.heap.size P0_ u9000_ l0) (h : laws_markIntS.f k l0 a1 = some (r1, r2)) :
  Calls Tryz.prog 40 #[u9000_, .int .i64 a1] w fun e w' => e = .returned (.int .i64 r1) ∧ Kd.R (Kd.int .i64) 3 w' w0.heap.size (fun k_ => (P0_ k_ ∨ w.heap.size ≤ k_)) u9000_ r2 ∧ Below w0.heap.size w0 w' ∧ Kept w w' (fun k_ => P0_ k_) := by
 have HO0 := aK (show Kd.R (Kd.int .i64) 3 w w0.heap.size (fun k_ => (P0_ k_ ∨ w.heap.size ≤ k_)) u9000_ l0 from Kd.R_mono ho0 (fun k_ hk => (.inl hk)))
 have HK := aK (Kept.refl w (fun k_ => P0_ k_))
 have HW0 := aK hB.size
 have HB := aK hB
 clear hB
 have H : (laws_markIntS.l0 k l0 a1 0) = some (r1, r2) := h
 clear h
 have H' := aK H
 clear H
 go_enter Tryz.func40, Tryz.ntmps40
 go_wp2
 go_loopg [1, 5] k (fun kq v1 v5 w' => ∃ (x0_1 : List Int) (x1_1 : Int) (x5_1 : Int), v1 = .int .i64 x1_1 ∧ v5 = .int .i64 x5_1 ∧ Aside0 (laws_markIntS.l0 kq x0_1 x1_1 x5_1 = some (r1, r2)) ∧ Aside0 (kq ≤ k) ∧ Aside0 (Kd.R (Kd.int .i64) 3 w' w0.heap.size (fun k_ => (P0_ k_ ∨ w.heap.size ≤ k_)) u9000_ x0_1) ∧ Aside0 (Kept w w' (fun k_ => P0_ k_)) ∧ Aside0 (Below w0.heap.size w0 w'))
 case atStart => exact ⟨(l0), (a1), (0), (by first | rfl | (simp; done) | (simp [*]; done)), (by first | rfl | (simp; done) | (simp [*]; done)), H', ⟨Nat.le_refl _⟩, ⟨zA HO0⟩, ⟨by repeat (first | (with_reducible first | exact HK.out | apply Kept.alloc | apply Kept.drewN | apply Kept.drew) | exact HK.out)⟩, ⟨zH0 HB⟩⟩
 case round =>
  clear H'
  try clear p2
  obtain ⟨x0_1, x1_1, x5_1, rfl, rfl, HA, HK1, HO_0, HK, HB⟩ := hrel
  cases gk with
  | zero => exact absurd HA.out (by simp [laws_markIntS.l0])
  | succ k1 =>
   have H := HA.out
   clear HA
   simp only [laws_markIntS.l0] at H
   by_cases c3 : x5_1 < (x0_1.length : Int)
   ·rw [if_pos c3] at H
    have c3b0 : decide (x5_1 < (x0_1.length : Int)) = true := decide_eq_true c3
    clear c3
    by_cases c4 : 0 ≤ x5_1
    ·rw [if_pos c4] at H
     have c4b0 : decide (0 ≤ x5_1) = true := decide_eq_true c4
     clear c4
     obtain ⟨y620, hy620⟩ : ∃ y_ : List Int, y_ = (x0_1.set (x5_1 : Int).toNat x1_1) := ⟨_, rfl⟩
     replace H : (laws_markIntS.l0 k1 y620 (wrap64 (x1_1 + 1)) (wrap64 (x5_1 + 1))) = some (r1, r2) := by first | (rw [hy620]; with_reducible exact H) | (have H2_ := (Option.bind_some _ _).symm.trans H; rw [hy620]; with_reducible exact H2_) | (have H2_ := (Option.bind_some _ _).symm.trans H; with_reducible exact H2_) | with_reducible exact H | (rw [hy620]; exact H) | exact H
     have Ny620 := aK hy620
     clear hy620
     have H' := aK H
     clear H
     obtain ⟨Ao6, co6, eo6⟩ := Kd.R_slice HO_0.out
     subst eo6
     have p5 : 0 ≤ (x5_1 : Int) := of_decide_eq_true (by first | (with_reducible assumption) | assumption)
     have q5 : (x5_1 : Int) < ((x0_1.length : Int) : Int) := of_decide_eq_true (by first | (with_reducible assumption) | assumption)
     obtain ⟨go5, co5, eo5, gb5, gl5, cl5, HG5⟩ := Kd.R_form HO_0.out (by omega)
     (first | cases eo5 | (injection eo5 with ea_ en_ ec_; (first | subst ea_ | (injection ea_ with ea_; subst ea_)); subst ec_; clear en_))
     have GB5 := aK gb5
     have GG5 := aK HG5
     clear gb5 gl5 HG5
     have HMgo5 := aK (show (P0_ go5 ∨ w.heap.size ≤ go5) from (HO_0.out.1 _ rfl))
     obtain ⟨hx5_0, hf5_0⟩ := Kd.R_celln 0 HO_0.out (x5_1 : Int) p5 q5
     replace p5 := eq_true p5
     replace q5 := eq_true q5
     have HP7 := Kd.R_putg HO_0.out (x5_1 : Int) x1_1
     go_wp2_with (first | ((with_reducible refine gate_store (t := 3) (p := 15) rfl ?_); refine store_event (t := 3) (p := 15) (v := ?vo_w8) (w1 := (wr.setCell ⟨go5, (x5_1 : Int).toNat, none⟩ (.int .i64 x1_1))) ?hg ?ho ?hn ?hr ?_; (case ho => rfl); (case hg => rfl); (case hn => rfl); (case hr => first | (go_simp; done) | (go_simp; rfl)); intro w8 hw; have hg : wr.grownBy w8 (some go5) := (by rw [hw]; exact HP7.2); have hp_ : Kd.R (Kd.int .i64) 3 w8 w0.heap.size (fun k_ => (P0_ k_ ∨ w.heap.size ≤ k_)) (.slice (some ⟨go5, 0, none⟩) x0_1.length co6) y620 := (by rw [hw, Ny620.out]; exact HP7.1); clear HP7; replace HB := aK ((by rw [hw]; exact bSt (HB.out) GB5.out : Below w0.heap.size w0 w8)); replace HK := aK (Kept.of_grown (S := (fun k_ => P0_ k_)) hg (by repeat (first | (with_reducible first | exact HK.out | apply Kept.alloc | apply Kept.drewN | apply Kept.drew) | exact HK.out)) (fun k_ e_ => (HO_0.out.1 k_ e_))); replace HO_0 := aK (hp_); clear hg hw hp_))
     go_roundg k1
     case measure => have := HK1.out; omega
     case rel => exact ⟨(y620), (wrap64 (x1_1 + 1)), (wrap64 (x5_1 + 1)), (by first | rfl | (simp; done) | (simp [*]; done)), (by first | rfl | (simp; done) | (simp [*]; done)), H', ⟨by have := HK1.out; omega⟩, ⟨zA HO_0⟩, ⟨by repeat (first | (with_reducible first | exact HK.out | apply Kept.alloc | apply Kept.drewN | apply Kept.drew) | exact HK.out)⟩, ⟨zH0 HB⟩⟩
    ·rw [if_neg c4] at H
     exact absurd H (by simp)
   ·rw [if_neg c3] at H
    have c3b0 : decide (x5_1 < (x0_1.length : Int)) = false := decide_eq_false c3
    clear c3
    simp only [Option.some.injEq, Prod.mk.injEq] at H
    obtain ⟨rfl, rfl⟩ := H
    obtain ⟨Ao9, co9, eo9⟩ := Kd.R_slice HO_0.out
    subst eo9
    go_wp2
    go_ret
    exact ⟨by first | rfl | (simp [errW_none, errW_some] <;> rfl) | (simp [*, errW_none, errW_some] <;> rfl), by (with_reducible repeat (first | apply Kd.R_alloc | apply Kd.R_drewN | apply Kd.R_drew)); exact HO_0.out, by repeat (first | (with_reducible first | exact HB.out | apply bAl | apply bDN | apply bD1) | exact HB.out), by repeat (first | (with_reducible first | exact HK.out | apply Kept.alloc | apply Kept.drewN | apply Kept.drew) | exact HK.out)⟩
set_option maxHeartbeats 8000000 in
set_option maxRecDepth 100000 in
theorem laws_markHedge.calls (k : Nat) (a0_0 : Int) (a0_1 : Int) (a0_2 : Int) (P0_3_ : Nat → Prop) (u9000_ : Value) (l0_3 : List Int) (a0_4 : Int) (a1 : Int) (r1 : Int) (r2 : List Int) (w0 w : World) (hB : Below w0.heap.size w0 w) (ho0_3 : Kd.R (Kd.int .i64) 3 w w0.heap.size P0_3_ u9000_ l0_3) (h : laws_markHedge.f k a0_0 a0_1 a0_2 l0_3 a0_4 a1 = some (r1, r2)) :
  Calls Tryz.prog 66 #[.agg #[.int .i64 a0_0, .int .i64 a0_1, .int .i64 a0_2, u9000_, .int .i64 a0_4], .int .i64 a1] w fun e w' => e = .returned (.int .i64 r1) ∧ Kd.R (Kd.int .i64) 3 w' w0.heap.size (fun k_ => (P0_3_ k_ ∨ w.heap.size ≤ k_)) u9000_ r2 ∧ Below w0.heap.size w0 w' ∧ Kept w w' (fun k_ => P0_3_ k_) := by
 have hu36 := Tryz.underlying36
 have HO0_3 := aK (show Kd.R (Kd.int .i64) 3 w w0.heap.size (fun k_ => (P0_3_ k_ ∨ w.heap.size ≤ k_)) u9000_ l0_3 from Kd.R_mono ho0_3 (fun k_ hk => (.inl hk)))
 have HK := aK (Kept.refl w (fun k_ => P0_3_ k_))
 have HW0 := aK hB.size
 have HB := aK hB
 clear hB
 have H : ((laws_markIntS.f k l0_3 a1).bind fun bt622 => (some (bt622.1, bt622.2))) = some (r1, r2) := h
 clear h
 replace H := Option.bind_eq_some_iff.mp H
 obtain ⟨⟨t622, t623⟩, A30, H⟩ := H
 replace H : (some (t622, t623)) = some (r1, r2) := H
 have A3 := aK A30
 clear A30
 simp only [Option.some.injEq, Prod.mk.injEq] at H
 obtain ⟨rfl, rfl⟩ := H
 obtain ⟨Ao4, co4, eo4⟩ := Kd.R_slice HO0_3.out
 subst eo4
 go_enter Tryz.func66, Tryz.ntmps66
 go_wp2_with (first | ((with_reducible refine gate_dst (N := 2) rfl ?_); refine box_event ?hg (N := 2) ?hd (cs := #[.int .i64 a0_0, .int .i64 a0_1, .int .i64 a0_2, .slice Ao4 l0_3.length co4, .int .i64 a0_4]) (t := 36) ?hr ?_; (case hd => rfl); (case hg => rfl); (case hr => first | (go_simp; done) | (go_simp; rfl)); intro gb621 hg w5 hbox hb; replace HO0_3 := aK (Kd.R_below (zA HO0_3) hb); have BK621 := aK (hbox); have GW621 := aK ((by rw [hg]; exact (by first | exact HK.out.1 | exact (show Kept w _ (fun k_ => P0_3_ k_) from by repeat (first | (with_reducible first | exact HK.out | apply Kept.alloc | apply Kept.drewN | apply Kept.drew) | exact HK.out)).1) : w.heap.size ≤ gb621)); replace HK := aK (Kept.below (S := (fun k_ => P0_3_ k_)) (by repeat (first | (with_reducible first | exact HK.out | apply Kept.alloc | apply Kept.drewN | apply Kept.drew) | exact HK.out)) hb); have GE621 := aK ((by rw [hg]; exact (bSz (zH0 HB)) : w0.heap.size ≤ gb621)); replace HB := aK (bSp (zH0 HB) hb); clear hb hbox hg; obtain ⟨hcz6_0, hcz6_1, hcz6_2, hcz6_3, hcz6_4, hfz6_0, hfz6_1, hfz6_2, hfz6_3, hfz6_4⟩ := cl5 BK621.out) | ((with_reducible refine gate_callee (f := 40) rfl ?_); refine goesL_ (some 8) rfl rfl Tryz.func40 (by kernel_rfl) rfl #[.slice Ao4 l0_3.length co4, .int .i64 a1] rfl zD ?_; (with_reducible refine (laws_markIntS.calls k (fun k_ => some k_ = (.slice Ao4 l0_3.length co4 : Value).ownBlock) (.slice Ao4 l0_3.length co4) l0_3 a1 t622 t623 w0 _ ?side1 ?side2 A3.out).mono ?_); (case side1 => exact (zH1 HB GE621)); (case side2 => exact Kd.R_tight rfl HO0_3.out); rintro e w7 ⟨rfl, hy0, hb, hkp⟩; refine ⟨_, rfl, ?_⟩; replace BK621 := aK (blk_kept (zK BK621) hkp (fun hs_ => (Kd.R_ne HO0_3.out BK621.out (by decide)) hs_)); replace HK := aK (Kept.then_ (S := (fun k_ => P0_3_ k_)) (by repeat (first | (with_reducible first | exact HK.out | apply Kept.alloc | apply Kept.drewN | apply Kept.drew | refine Kept.setCell ?_ (.inr GW621.out) _) | exact HK.out)) hkp (fun k_ hs_ => (fun e_ => (HO0_3.out.1 k_ e_.symm)) hs_)); replace HO0_3 := aK (Kd.R_reok rfl hy0 (fun k_ e_ => HO0_3.out.1 k_ e_)); replace HB := aK (hb); (try clear hb); (try clear hkp); (try clear hy0)))
 go_ret
 exact ⟨by first | rfl | (simp [errW_none, errW_some] <;> rfl) | (simp [*, errW_none, errW_some] <;> rfl), by (with_reducible repeat (first | apply Kd.R_alloc | apply Kd.R_drewN | apply Kd.R_drew)); exact HO0_3.out, by repeat (first | (with_reducible first | exact HB.out | apply bAl | apply bDN | apply bD1 | refine bSt ?_ GE621.out) | exact HB.out), by repeat (first | (with_reducible first | exact HK.out | apply Kept.alloc | apply Kept.drewN | apply Kept.drew | refine Kept.setCell ?_ (.inr GW621.out) _) | exact HK.out)⟩
set_option maxHeartbeats 8000000 in
set_option maxRecDepth 100000 in
theorem laws_markGarden.calls (k : Nat) (a0_0 : Int) (a0_1 : Int) (a0_2 : Int) (P0_3_ : Nat → Prop) (u9000_ : Value) (l0_3 : List Int) (a0_4 : Int) (a0_5 : Int) (P0_6_ : Nat → Prop) (u9001_ : Value) (l0_6 : List Int) (a0_7 : Int) (a1 : Int) (r1 : Int) (r2 : List Int) (r3 : List Int) (w0 w : World) (hB : Below w0.heap.size w0 w) (ho0_3 : Kd.R (Kd.int .i64) 3 w w0.heap.size P0_3_ u9000_ l0_3) (hp0_3_0_6 : ∀ k_, P0_3_ k_ → ¬ P0_6_ k_) (ho0_6 : Kd.R (Kd.int .i64) 3 w w0.heap.size P0_6_ u9001_ l0_6) (hp0_6_0_3 : ∀ k_, P0_6_ k_ → ¬ P0_3_ k_) (h : laws_markGarden.f k a0_0 a0_1 a0_2 l0_3 a0_4 a0_5 l0_6 a0_7 a1 = some (r1, r2, r3)) :
  Calls Tryz.prog 20 #[.agg #[.int .i64 a0_0, .int .i64 a0_1, .int .i64 a0_2, u9000_, .int .i64 a0_4, .int .i64 a0_5, u9001_, .int .i64 a0_7], .int .i64 a1] w fun e w' => e = .returned (.int .i64 r1) ∧ Kd.R (Kd.int .i64) 3 w' w0.heap.size (fun k_ => ((P0_3_ k_ ∨ P0_6_ k_) ∨ w.heap.size ≤ k_)) u9000_ r2 ∧ Kd.R (Kd.int .i64) 3 w' w0.heap.size (fun k_ => ((P0_3_ k_ ∨ P0_6_ k_) ∨ w.heap.size ≤ k_)) u9001_ r3 ∧ Below w0.heap.size w0 w' ∧ Kept w w' (fun k_ => P0_3_ k_ ∨ P0_6_ k_) := by
 have hu38 := Tryz.underlying38
 have hu36 := Tryz.underlying36
 have HO0_3 := aK (show Kd.R (Kd.int .i64) 3 w w0.heap.size (fun k_ => ((P0_3_ k_ ∨ P0_6_ k_) ∨ w.heap.size ≤ k_) ∧ some k_ ≠ (u9001_ : Value).ownBlock) u9000_ l0_3 from Kd.R_mono ho0_3 (fun k_ hk => ⟨(.inl (.inl hk)), fun e_ => hp0_3_0_6 k_ hk (ho0_6.1 k_ e_.symm)⟩))
 have HO0_6 := aK (show Kd.R (Kd.int .i64) 3 w w0.heap.size (fun k_ => ((P0_3_ k_ ∨ P0_6_ k_) ∨ w.heap.size ≤ k_) ∧ some k_ ≠ (u9000_ : Value).ownBlock) u9001_ l0_6 from Kd.R_mono ho0_6 (fun k_ hk => ⟨(.inl (.inr hk)), fun e_ => hp0_6_0_3 k_ hk (ho0_3.1 k_ e_.symm)⟩))
 have HK := aK (Kept.refl w (fun k_ => P0_3_ k_ ∨ P0_6_ k_))
 have HW0 := aK hB.size
 have HB := aK hB
 clear hB
 have H : ((laws_markHedge.f k a0_0 a0_1 a0_2 l0_3 a0_4 a1).bind fun bt625 => ((laws_markIntS.f k l0_6 bt625.1).bind fun bt627 => (some (bt627.1, bt625.2, bt627.2)))) = some (r1, r2, r3) := h
 clear h
 replace H := Option.bind_eq_some_iff.mp H
 obtain ⟨⟨t625, t626⟩, A30, H⟩ := H
 replace H : ((laws_markIntS.f k l0_6 t625).bind fun bt627 => (some (bt627.1, t626, bt627.2))) = some (r1, r2, r3) := H
 have A3 := aK A30
 clear A30
 replace H := Option.bind_eq_some_iff.mp H
 obtain ⟨⟨t627, t628⟩, A40, H⟩ := H
 replace H : (some (t627, t626, t628)) = some (r1, r2, r3) := H
 have A4 := aK A40
 clear A40
 simp only [Option.some.injEq, Prod.mk.injEq] at H
 obtain ⟨rfl, rfl, rfl⟩ := H
 obtain ⟨Ao5, co5, eo5⟩ := Kd.R_slice HO0_3.out
 subst eo5
 obtain ⟨Ao6, co6, eo6⟩ := Kd.R_slice HO0_6.out
 subst eo6
 go_enter Tryz.func20, Tryz.ntmps20
 go_wp2_with (first | ((with_reducible refine gate_dst (N := 2) rfl ?_); refine box_event ?hg (N := 2) ?hd (cs := #[.int .i64 a0_0, .int .i64 a0_1, .int .i64 a0_2, .slice Ao5 l0_3.length co5, .int .i64 a0_4, .int .i64 a0_5, .slice Ao6 l0_6.length co6, .int .i64 a0_7]) (t := 38) ?hr ?_; (case hd => rfl); (case hg => rfl); (case hr => first | (go_simp; done) | (go_simp; rfl)); intro gb624 hg w7 hbox hb; replace HO0_3 := aK (Kd.R_below (zA HO0_3) hb); replace HO0_6 := aK (Kd.R_below (zA HO0_6) hb); have BK624 := aK (hbox); have GW624 := aK ((by rw [hg]; exact (by first | exact HK.out.1 | exact (show Kept w _ (fun k_ => P0_3_ k_ ∨ P0_6_ k_) from by repeat (first | (with_reducible first | exact HK.out | apply Kept.alloc | apply Kept.drewN | apply Kept.drew) | exact HK.out)).1) : w.heap.size ≤ gb624)); replace HK := aK (Kept.below (S := (fun k_ => P0_3_ k_ ∨ P0_6_ k_)) (by repeat (first | (with_reducible first | exact HK.out | apply Kept.alloc | apply Kept.drewN | apply Kept.drew) | exact HK.out)) hb); have GE624 := aK ((by rw [hg]; exact (bSz (zH0 HB)) : w0.heap.size ≤ gb624)); replace HB := aK (bSp (zH0 HB) hb); clear hb hbox hg; obtain ⟨hcz8_0, hcz8_1, hcz8_2, hcz8_3, hcz8_4, hcz8_5, hcz8_6, hcz8_7, hfz8_0, hfz8_1, hfz8_2, hfz8_3, hfz8_4, hfz8_5, hfz8_6, hfz8_7⟩ := cl8 BK624.out) | ((with_reducible refine gate_callee (f := 66) rfl ?_); refine goesL_ (some 8) rfl rfl Tryz.func66 (by kernel_rfl) rfl #[.agg #[.int .i64 a0_0, .int .i64 a0_1, .int .i64 a0_2, .slice Ao5 l0_3.length co5, .int .i64 a0_4], .int .i64 a1] rfl zD ?_; (with_reducible refine (laws_markHedge.calls k a0_0 a0_1 a0_2 (fun k_ => some k_ = (.slice Ao5 l0_3.length co5 : Value).ownBlock) (.slice Ao5 l0_3.length co5) l0_3 a0_4 a1 t625 t626 w0 _ ?side1 ?side2 A3.out).mono ?_); (case side1 => exact (zH1 HB GE624)); (case side2 => exact Kd.R_tight rfl HO0_3.out); rintro e w9 ⟨rfl, hy0, hb, hkp⟩; refine ⟨_, rfl, ?_⟩; replace HO0_6 := aK (Kd.R_mono (ok' := fun k_ => ((P0_3_ k_ ∨ P0_6_ k_) ∨ w.heap.size ≤ k_) ∧ some k_ ≠ (.slice Ao5 l0_3.length co5 : Value).ownBlock) (Kd.R_keptB (HO0_6.out) hkp (fun k_ hk_ hs_ => (hk_.2) hs_)) (fun k_ hk_ => ⟨hk_.1.1, hk_.1.2⟩)); replace BK624 := aK (blk_kept (zK BK624) hkp (fun hs_ => (Kd.R_ne HO0_3.out BK624.out (by decide)) hs_)); replace HK := aK (Kept.then_ (S := (fun k_ => P0_3_ k_ ∨ P0_6_ k_)) (by repeat (first | (with_reducible first | exact HK.out | apply Kept.alloc | apply Kept.drewN | apply Kept.drew | refine Kept.setCell ?_ (.inr GW624.out) _) | exact HK.out)) hkp (fun k_ hs_ => (fun e_ => (HO0_3.out.1 k_ e_.symm).1) hs_)); replace HO0_3 := aK (Kd.R_reok rfl hy0 (fun k_ e_ => HO0_3.out.1 k_ e_)); replace HB := aK (hb); (try clear hb); (try clear hkp); (try clear hy0); obtain ⟨hcz10_0, hcz10_1, hcz10_2, hcz10_3, hcz10_4, hcz10_5, hcz10_6, hcz10_7, hfz10_0, hfz10_1, hfz10_2, hfz10_3, hfz10_4, hfz10_5, hfz10_6, hfz10_7⟩ := cl8 BK624.out) | ((with_reducible refine gate_callee (f := 40) rfl ?_); refine goesL_ (some 12) rfl rfl Tryz.func40 (by kernel_rfl) rfl #[.slice Ao6 l0_6.length co6, .int .i64 t625] rfl zD ?_; (with_reducible refine (laws_markIntS.calls k (fun k_ => some k_ = (.slice Ao6 l0_6.length co6 : Value).ownBlock) (.slice Ao6 l0_6.length co6) l0_6 t625 t627 t628 w0 _ ?side1 ?side2 A4.out).mono ?_); (case side1 => exact (zH1 HB GE624)); (case side2 => exact Kd.R_tight rfl HO0_6.out); rintro e w11 ⟨rfl, hy0, hb, hkp⟩; refine ⟨_, rfl, ?_⟩; replace HO0_3 := aK (Kd.R_mono (ok' := fun k_ => ((P0_3_ k_ ∨ P0_6_ k_) ∨ w.heap.size ≤ k_) ∧ some k_ ≠ (.slice Ao6 l0_6.length co6 : Value).ownBlock) (Kd.R_keptB (HO0_3.out) hkp (fun k_ hk_ hs_ => (hk_.2) hs_)) (fun k_ hk_ => ⟨hk_.1.1, hk_.1.2⟩)); replace BK624 := aK (blk_kept (zK BK624) hkp (fun hs_ => (Kd.R_ne HO0_6.out BK624.out (by decide)) hs_)); replace HK := aK (Kept.then_ (S := (fun k_ => P0_3_ k_ ∨ P0_6_ k_)) (by repeat (first | (with_reducible first | exact HK.out | apply Kept.alloc | apply Kept.drewN | apply Kept.drew | refine Kept.setCell ?_ (.inr GW624.out) _) | exact HK.out)) hkp (fun k_ hs_ => (fun e_ => (HO0_6.out.1 k_ e_.symm).1) hs_)); replace HO0_6 := aK (Kd.R_reok rfl hy0 (fun k_ e_ => HO0_6.out.1 k_ e_)); replace HB := aK (hb); (try clear hb); (try clear hkp); (try clear hy0)))
 go_ret
 exact ⟨by first | rfl | (simp [errW_none, errW_some] <;> rfl) | (simp [*, errW_none, errW_some] <;> rfl), by (with_reducible repeat (first | apply Kd.R_alloc | apply Kd.R_drewN | apply Kd.R_drew)); exact Kd.R_mono HO0_3.out (fun _ hk => hk.1), by (with_reducible repeat (first | apply Kd.R_alloc | apply Kd.R_drewN | apply Kd.R_drew)); exact Kd.R_mono HO0_6.out (fun _ hk => hk.1), by repeat (first | (with_reducible first | exact HB.out | apply bAl | apply bDN | apply bD1 | refine bSt ?_ GE624.out) | exact HB.out), by repeat (first | (with_reducible first | exact HK.out | apply Kept.alloc | apply Kept.drewN | apply Kept.drew | refine Kept.setCell ?_ (.inr GW624.out) _) | exact HK.out)⟩
theorem laws_markGarden.mark {k : Nat} {a0_0 : Int} {a0_1 : Int} {a0_2 : Int} {l0_3 : List Int} {a0_4 : Int} {a0_5 : Int} {l0_6 : List Int} {a0_7 : Int} {a1 : Int} {r1 : Int} {r2 : List Int} {r3 : List Int} {i1 i2 : Nat} (h : laws_markGarden.f k a0_0 a0_1 a0_2 l0_3 a0_4 a0_5 l0_6 a0_7 a1 = some (r1, r2, r3)) (hn : nodB [i1, i2] = true) : CtrM Tryz.prog 20 [.ag [.v (.int .i64 a0_0), .v (.int .i64 a0_1), .v (.int .i64 a0_2), .lo i1, .v (.int .i64 a0_4), .v (.int .i64 a0_5), .lo i2, .v (.int .i64 a0_7)], .v (.int .i64 a1)] [(i1, .row 3 1 (l0_3.map eI)), (i2, .row 3 1 (l0_6.map eI))] (.int .i64 r1) [(i1, .row 3 1 (r2.map eI)), (i2, .row 3 1 (r3.map eI))] := by
  have hN := of_decide_eq_true hn
  simp only [List.nodup_cons, List.mem_cons, List.not_mem_nil, or_false, not_or, not_false_eq_true, List.nodup_nil, and_true] at hN
  refine ⟨enters_of Tryz.func20 rfl rfl, rfl, of_decide_eq_true hn, fun w0 w φ ys hB hy hS hap => ?_⟩
  simp only [RepL, Rep] at hy
  obtain ⟨_, _, rfl, ⟨_, rfl, _, _, rfl, rfl, _, _, rfl, rfl, _, _, rfl, rfl, _, _, rfl, ⟨rfl, _⟩, _, _, rfl, rfl, _, _, rfl, rfl, _, _, rfl, ⟨rfl, _⟩, _, _, rfl, rfl, rfl⟩, _, _, rfl, rfl, rfl⟩ := hy
  obtain ⟨s1, _, _⟩ := hS i1 _ (gS_hd)
  have o1 := R_of_rowO E_eI s1 (ok := fun k => bk (φ i1) = some k) (fun _ h => h)
  obtain ⟨s2, _, _⟩ := hS i2 _ ((gS_tl (show ¬ i1 = i2 by intro e_; simp [e_] at hN)).trans <| gS_hd)
  have o2 := R_of_rowO E_eI s2 (ok := fun k => bk (φ i2) = some k) (fun _ h => h)
  refine (laws_markGarden.calls _ _ _ _ (fun k => bk (φ i1) = some k) _ _ _ _ (fun k => bk (φ i2) = some k) _ _ _ _ _ _ _ w0 w hB o1 (fun k h1 h2 => (hap i1 i2 _ _ (gS_hd) ((gS_tl (show ¬ i1 = i2 by intro e_; simp [e_] at hN)).trans <| gS_hd) (by intro e_; simp [e_] at hN)).elim (fun q => nomatch (h1.symm.trans q)) (fun q => q (h1.trans h2.symm))) o2 (fun k h1 h2 => (hap i2 i1 _ _ ((gS_tl (show ¬ i1 = i2 by intro e_; simp [e_] at hN)).trans <| gS_hd) (gS_hd) (by intro e_; simp [e_] at hN)).elim (fun q => nomatch (h1.symm.trans q)) (fun q => q (h1.trans h2.symm))) h).mono ?_
  rintro _ w' ⟨rfl, q1, q2, hb, hk⟩
  refine ⟨rfl, hb, fun i b hb' => ?_, fun k hk1 hk2 => hk.2 k hk1 fun hh => ?_⟩
  · simp only [gS] at hb'
    split at hb'
    · rename_i e; subst e; obtain rfl := Option.some.inj hb'; exact ⟨row_of_R E_eI q1, E_eI.row _, E_eI.pos⟩
    · skip
      split at hb'
      · rename_i e; subst e; obtain rfl := Option.some.inj hb'; exact ⟨row_of_R E_eI q2, E_eI.row _, E_eI.pos⟩
      · cases hb'
  · rcases hh with h1_ | h2_
    · exact hk2 i1 _ (gS_hd) h1_
    · exact hk2 i2 _ ((gS_tl (show ¬ i1 = i2 by intro e_; simp [e_] at hN)).trans <| gS_hd) h2_
theorem laws_heldIntS.ctr {k : Nat} {l0 : List Int} {a1 : Int} {r : Int} (h : laws_heldIntS.f k l0 a1 = some r) : Ctr Tryz.prog 41 [.pr 1 (l0.map eI), .v (.int .i64 a1)] (.v (.int .i64 r)) := by
  refine Ctr_of tyOk hm Tryz.func41 rfl rfl (by kernel_rfl) (n := 19) (rv := [.tmp 4]) rfl rfl ?_
  simp only [W, List.replicate]
  unfold laws_heldIntS.f at h
  try simp only [W, p1, p2, p3, p4, p5, p6, p7, p8, p9, p10, p11, p12]
  refine loopN (fun x : List Int × Int × Int => [.pr 1 (List.map eI x.1), .v (.int .i64 x.2.1), .u, .u, .u, .v (.int .i64 x.2.2), .u, .u, .u, .u, .u, .u, .u, .u, .u, .u, .u, .u, .u, .u, .u]) (fun x => []) (fun n x => laws_heldIntS.l0 n x.1 x.2.1 x.2.2 = some r) (l0, a1, 0) [] h (by simp only [W, p1, p2, p3, p4, p5, p6, p7, p8, p9, p10, p11, p12] <;> trivial) (by simp only [W, p1, p2, p3, p4, p5, p6, p7, p8, p9, p10, p11, p12] <;> trivial) rfl (fun _ h => by cases h) ?_
  intro n1 ⟨x1, x2, x3⟩ _ h
  simp only [laws_heldIntS.l0] at h
  replace h := ifS h; rcases h with ⟨c4, h⟩ | ⟨c4, h⟩
  · replace h := ifN h; obtain ⟨c5, h⟩ := h
    replace h := ifS h; rcases h with ⟨c6, h⟩ | ⟨c6, h⟩
    · try simp only [W, c4, c5, eq_true c6, p1, p2, p3, p4, p5, p6, p7, p8, p9, p10, p11, p12]
      exact nextN (x1, (wrap64 (x2 + 1)), (wrap64 (x3 + 1))) [] n1 (by omega) h (by simp only [W, p1, p2, p3, p4, p5, p6, p7, p8, p9, p10, p11, p12] <;> trivial) (by simp only [W, p1, p2, p3, p4, p5, p6, p7, p8, p9, p10, p11, p12] <;> trivial) rfl
    · cases h
      try simp only [W, c4, c5, c6, p1, p2, p3, p4, p5, p6, p7, p8, p9, p10, p11, p12]
  · cases h
    try simp only [W, c4, p1, p2, p3, p4, p5, p6, p7, p8, p9, p10, p11, p12]
theorem laws_heldHedge.ctr {k : Nat} {a0_0 : Int} {a0_1 : Int} {a0_2 : Int} {l0_3 : List Int} {a0_4 : Int} {a1 : Int} {r : Int} (h : laws_heldHedge.f k a0_0 a0_1 a0_2 l0_3 a0_4 a1 = some r) : Ctr Tryz.prog 67 [.ag [.v (.int .i64 a0_0), .v (.int .i64 a0_1), .v (.int .i64 a0_2), .pr 1 (l0_3.map eI), .v (.int .i64 a0_4)], .v (.int .i64 a1)] (.v (.int .i64 r)) := by
  refine Ctr_of tyOk hm Tryz.func67 rfl rfl (by kernel_rfl) (n := 10) (rv := [.tmp 4]) rfl rfl ?_
  simp only [W, List.replicate]
  unfold laws_heldHedge.f at h
  replace h := bnd h; obtain ⟨t1, A, h⟩ := h
  try simp only [W, p1, p2, p3, p4, p5, p6, p7, p8, p9, p10, p11, p12]
  refine callR (laws_heldIntS.ctr A) ?_
  replace h := ifS h; rcases h with ⟨c2, h⟩ | ⟨c2, h⟩
  · cases h
    try simp only [W, c2, p1, p2, p3, p4, p5, p6, p7, p8, p9, p10, p11, p12]
  · cases h
    try simp only [W, c2, p1, p2, p3, p4, p5, p6, p7, p8, p9, p10, p11, p12]
theorem laws_heldGarden.ctr {k : Nat} {a0_0 : Int} {a0_1 : Int} {a0_2 : Int} {l0_3 : List Int} {a0_4 : Int} {a0_5 : Int} {l0_6 : List Int} {a0_7 : Int} {a1 : Int} {r : Int} (h : laws_heldGarden.f k a0_0 a0_1 a0_2 l0_3 a0_4 a0_5 l0_6 a0_7 a1 = some r) : Ctr Tryz.prog 21 [.ag [.v (.int .i64 a0_0), .v (.int .i64 a0_1), .v (.int .i64 a0_2), .pr 1 (l0_3.map eI), .v (.int .i64 a0_4), .v (.int .i64 a0_5), .pr 1 (l0_6.map eI), .v (.int .i64 a0_7)], .v (.int .i64 a1)] (.v (.int .i64 r)) := by
  refine Ctr_of tyOk hm Tryz.func21 rfl rfl (by kernel_rfl) (n := 16) (rv := [.tmp 4]) rfl rfl ?_
  simp only [W, List.replicate]
  unfold laws_heldGarden.f at h
  replace h := bnd h; obtain ⟨t1, A, h⟩ := h
  try simp only [W, p1, p2, p3, p4, p5, p6, p7, p8, p9, p10, p11, p12]
  refine callR (laws_heldHedge.ctr A) ?_
  replace h := ifS h; rcases h with ⟨c2, h⟩ | ⟨c2, h⟩
  · cases h
    try simp only [W, c2, p1, p2, p3, p4, p5, p6, p7, p8, p9, p10, p11, p12]
  · replace h := bnd h; obtain ⟨t3, A, h⟩ := h
    try simp only [W, c2, p1, p2, p3, p4, p5, p6, p7, p8, p9, p10, p11, p12]
    refine callR (laws_heldIntS.ctr A) ?_
    replace h := ifS h; rcases h with ⟨c4, h⟩ | ⟨c4, h⟩
    · cases h
      try simp only [W, c2, c4, p1, p2, p3, p4, p5, p6, p7, p8, p9, p10, p11, p12]
    · cases h
      try simp only [W, c2, c4, p1, p2, p3, p4, p5, p6, p7, p8, p9, p10, p11, p12]
end Go.Proofs.YtkindoepnganmaaGreat.F
end
