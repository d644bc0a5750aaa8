/- Packed by a program of the session (wip/tools/pack.py): what the claim's theorem reaches, of the texts that wip/ and the kit's printer lay. -/
import Derived.Test.YtkindoepnganmaaGreatPkFnTop8
section
namespace Go.Proofs.YtkindoepnganmaaGreat.F
open Go.RowKit Go.Proofs.YtkindoepnganmaaGreatW.PrintWords Go.Proofs.YtkindoepnganmaaGreatW.PrintLast Go.Proofs.YtkindoepnganmaaGreatW.PrintMore
set_option linter.unusedVariables false
set_option linter.unusedSimpArgs false
attribute [local go_sem] max2_int min2_int max_two min_two
set_option maxRecDepth 20000 in set_option maxHeartbeats 4000000 in open Nat renaming reduceAdd → p1, reduceSub → p2, reduceMul → p3, reduceDiv → p4, reduceBNe → p5, reduceBEq → p6, reduceEqDiff → p7, reduceLeDiff → p8, reduceLT → p9 in open Int renaming reduceLE → p10, reduceLT → p11, reduceEq → p12 in
theorem impl_NextDay.ctr {k : Nat} {a0_0 : Int} {a0_1 : Int} {a0_2 : Int} {l0_3 : List Int} {a0_4 : Int} {a0_5 : Int} {l0_6 : List Int} {a0_7 : Int} {a1 : Int} {r1 : Int} {r2 : Int} {r3 : Int} {r4 : List Int} {r5 : Int} {r6 : Int} {r7 : List Int} {r8 : Int} {r9 : Bool} (h : impl_NextDay.f k a0_0 a0_1 a0_2 l0_3 a0_4 a0_5 l0_6 a0_7 a1 = some (r1, r2, r3, r4, r5, r6, r7, r8, r9)) : Ctr Tryz.prog 27 [.ag [.v (.int .i64 a0_0), .v (.int .i64 a0_1), .v (.int .i64 a0_2), .pr 1 (l0_3.map eI), .v (.int .i64 a0_4), .v (.int .i64 a0_5), .pr 1 (l0_6.map eI), .v (.int .i64 a0_7)], .v (.int .i64 a1)] (.tu [.ag [.v (.int .i64 r1), .v (.int .i64 r2), .v (.int .i64 r3), .ow 3 1 (r4.map eI), .v (.int .i64 r5), .v (.int .i64 r6), .ow 3 1 (r7.map eI), .v (.int .i64 r8)], .v (.bool r9)]) := by
  refine Ctr_of tyOk hm Tryz.func27 rfl rfl (by kernel_rfl) (n := 51) (rv := [.cell 4 38, .tmp 5]) rfl rfl ?_
  simp only [W, List.replicate]
  unfold impl_NextDay.f at h
  replace h := bnd h; obtain ⟨⟨t1_1, t1_2, t1_3, t1_4, t1_5, t1_6, t1_7, t1_8⟩, A, h⟩ := h
  dsimp only at h
  try simp only [W, p1, p2, p3, p4, p5, p6, p7, p8, p9, p10, p11, p12]
  refine callR (impl_copyGarden.ctr A) ?_
  replace h := bnd h; obtain ⟨t2, A, h⟩ := h
  try simp only [W, p1, p2, p3, p4, p5, p6, p7, p8, p9, p10, p11, p12]
  refine callR (impl_GardenOk.ctr A) ?_
  replace h := ifT h; rcases h with ⟨rfl, h⟩ | ⟨rfl, h⟩
  · replace h := ifS h; rcases h with ⟨c4, h⟩ | ⟨c4, h⟩
    · rcases k with _ | m5; · cases h
      rw [impl_NextDay.j0] at h
      rw [if_pos rfl] at h
      cases h
      try simp only [W, c4, p1, p2, p3, p4, p5, p6, p7, p8, p9, p10, p11, p12]
    · replace h := ifS h; rcases h with ⟨c7, h⟩ | ⟨c7, h⟩
      · rcases k with _ | m8; · cases h
        rw [impl_NextDay.j0] at h
        rw [if_pos rfl] at h
        cases h
        try simp only [W, c4, c7, p1, p2, p3, p4, p5, p6, p7, p8, p9, p10, p11, p12]
      · rcases k with _ | m10; · cases h
        rw [impl_NextDay.j0] at h
        replace h := ifT h; rcases h with ⟨c11, h⟩ | ⟨c11, h⟩
        · cases h
          try simp only [W, c4, c7, c11, p1, p2, p3, p4, p5, p6, p7, p8, p9, p10, p11, p12]
        · replace h := bnd h; obtain ⟨⟨t12_1, t12_2, t12_3, t12_4, t12_5, t12_6⟩, A, h⟩ := h
          dsimp only at h
          try simp only [W, c4, c7, c11, p1, p2, p3, p4, p5, p6, p7, p8, p9, p10, p11, p12]
          refine callR (impl_GrowHedge.ctr A) ?_
          try simp only [W, c4, c7, c11, p1, p2, p3, p4, p5, p6, p7, p8, p9, p10, p11, p12]
          refine loopN (fun x : Int × Int × Int × List Int × Int × Int × List Int × Int × Int × Int × Int × List Int × Int × Int × Int × Int × List Int × Int × Int × List Int × Int × Int × Int × Int × Int × Int × Int => [.u, .u, .bp 32 0, .u, .bp 64 0, .u, .bp 96 0, .bp 112 0, .u, .u, .u, .u, .u, .u, .u, .u, .u, .u, .u, .u, .u, .u, .u, .bp 32 7, .u, .u, .u, .u, .u, .bp 32 0, .u, .u, .u, .u, .u, .u, .u, .u, .u, .u, .u, .u, .u, .u, .u, .u, .u, .u, .u, .u, .u, .u, .u]) (fun x => [(32, .box 38 [.v (.int .i64 x.2.2.2.2.2.2.2.2.2.2.2.2.2.1), .v (.int .i64 x.2.2.2.2.2.2.2.2.2.2.2.2.2.2.1), .v (.int .i64 x.2.2.2.2.2.2.2.2.2.2.2.2.2.2.2.1), .pr 1 (List.map eI x.2.2.2.2.2.2.2.2.2.2.2.2.2.2.2.2.1), .v (.int .i64 x.2.2.2.2.2.2.2.2.2.2.2.2.2.2.2.2.2.1), .v (.int .i64 x.2.2.2.2.2.2.2.2.2.2.2.2.2.2.2.2.2.2.1), .pr 1 (List.map eI x.2.2.2.2.2.2.2.2.2.2.2.2.2.2.2.2.2.2.2.1), .v (.int .i64 x.2.2.2.2.2.2.2.2.2.2.2.2.2.2.2.2.2.2.2.2.1)]), (64, .box 38 [.v (.int .i64 x.2.2.2.2.2.2.2.2.2.2.2.2.2.2.2.2.2.2.2.2.2.1), .v (.int .i64 x.2.2.2.2.2.2.2.2.2.2.2.2.2.2.2.2.2.2.2.2.2.2.1), .v (.int .i64 x.2.2.2.2.2.2.2.2.2.2.2.2.2.2.2.2.2.2.2.2.2.2.2.1), .v (Value.slice none 0 0), .v (.int .i64 x.2.2.2.2.2.2.2.2.2.2.2.2.2.2.2.2.2.2.2.2.2.2.2.2.1), .v (.int .i64 x.2.2.2.2.2.2.2.2.2.2.2.2.2.2.2.2.2.2.2.2.2.2.2.2.2.1), .v (Value.slice none 0 0), .v (.int .i64 x.2.2.2.2.2.2.2.2.2.2.2.2.2.2.2.2.2.2.2.2.2.2.2.2.2.2)]), (96, .box 38 [.v (.int .i64 x.1), .v (.int .i64 x.2.1), .v (.int .i64 x.2.2.1), .lo 160, .v (.int .i64 x.2.2.2.2.1), .v (.int .i64 x.2.2.2.2.2.1), .lo 161, .v (.int .i64 x.2.2.2.2.2.2.2.1)]), (112, .box 36 [.v (.int .i64 x.2.2.2.2.2.2.2.2.1), .v (.int .i64 x.2.2.2.2.2.2.2.2.2.1), .v (.int .i64 x.2.2.2.2.2.2.2.2.2.2.1), .lo 512, .v (.int .i64 x.2.2.2.2.2.2.2.2.2.2.2.2.1)]), (160, .row 3 1 (List.map eI x.2.2.2.1)), (161, .row 3 1 (List.map eI x.2.2.2.2.2.2.1)), (512, .row 3 1 (List.map eI x.2.2.2.2.2.2.2.2.2.2.2.1))]) (fun n x => impl_NextDay.l0 n x.1 x.2.1 x.2.2.1 x.2.2.2.1 x.2.2.2.2.1 x.2.2.2.2.2.1 x.2.2.2.2.2.2.1 x.2.2.2.2.2.2.2.1 x.2.2.2.2.2.2.2.2.1 x.2.2.2.2.2.2.2.2.2.1 x.2.2.2.2.2.2.2.2.2.2.1 x.2.2.2.2.2.2.2.2.2.2.2.1 x.2.2.2.2.2.2.2.2.2.2.2.2.1 = some (r1, r2, r3, r4, r5, r6, r7, r8, r9)) (t1_1, t1_2, t1_3, t1_4, t1_5, t1_6, t1_7, t1_8, t12_1, t12_2, t12_3, t12_4, t12_5, a0_0, a0_1, a0_2, (l0_3), a0_4, a0_5, (l0_6), a0_7, 0, 0, 0, 0, 0, 0) [] h (by simp only [W, p1, p2, p3, p4, p5, p6, p7, p8, p9, p10, p11, p12] <;> trivial) (by simp only [W, p1, p2, p3, p4, p5, p6, p7, p8, p9, p10, p11, p12] <;> trivial) rfl (fun _ h => by cases h) ?_
          intro n1 ⟨x13, x14, x15, x16, x17, x18, x19, x20, x21, x22, x23, x24, x25, y26, y27, y28, y29, y30, y31, y32, y33, y34, y35, y36, y37, y38, y39⟩ _ h
          simp only [impl_NextDay.l0] at h
          replace h := bnd h; obtain ⟨⟨t40_1, t40_2, t40_3⟩, A, h⟩ := h
          dsimp only at h
          try simp only [W, p1, p2, p3, p4, p5, p6, p7, p8, p9, p10, p11, p12]
          refine callR (impl_OpenNow.ctr A) ?_
          replace h := bnd h; obtain ⟨t41, A, h⟩ := h
          try simp only [W, p1, p2, p3, p4, p5, p6, p7, p8, p9, p10, p11, p12]
          refine callR (impl_IsConnected.ctr A) ?_
          replace h := ifT h; rcases h with ⟨rfl, h⟩ | ⟨rfl, h⟩
          · cases h
            try simp only [W, p1, p2, p3, p4, p5, p6, p7, p8, p9, p10, p11, p12]
          · replace h := bnd h; obtain ⟨t43, A, h⟩ := h
            try simp only [W, p1, p2, p3, p4, p5, p6, p7, p8, p9, p10, p11, p12]
            refine callR (impl_NextToCut.ctr A) ?_
            replace h := bnd h; obtain ⟨⟨t44_1, t44_2, t44_3, t44_4, t44_5, t44_6⟩, A, h⟩ := h
            dsimp only at h
            try simp only [W, p1, p2, p3, p4, p5, p6, p7, p8, p9, p10, p11, p12]
            refine callR (impl_CutHedge.ctr A) ?_
            try simp only [W, p1, p2, p3, p4, p5, p6, p7, p8, p9, p10, p11, p12]
            exact nextN (x13, x14, x15, x16, x17, x18, x19, x20, t44_1, t44_2, t44_3, t44_4, t44_5, y26, y27, y28, (y29), y30, y31, (y32), y33, y34, y35, y36, y37, y38, y39) [(512, 688)] n1 (by omega) h (by simp only [W, p1, p2, p3, p4, p5, p6, p7, p8, p9, p10, p11, p12] <;> trivial) (by simp only [W, p1, p2, p3, p4, p5, p6, p7, p8, p9, p10, p11, p12] <;> trivial) rfl
  · rcases k with _ | m45; · cases h
    rw [impl_NextDay.j0] at h
    rw [if_pos rfl] at h
    cases h
    try simp only [W, p1, p2, p3, p4, p5, p6, p7, p8, p9, p10, p11, p12]
theorem impl_NextDay.calls (k : Nat) (a0_0 : Int) (a0_1 : Int) (a0_2 : Int) (A0_3 : Option Addr) (c0_3 : Nat) (l0_3 : List Int) (a0_4 : Int) (a0_5 : Int) (A0_6 : Option Addr) (c0_6 : Nat) (l0_6 : List Int) (a0_7 : Int) (a1 : Int) (r1 : Int) (r2 : Int) (r3 : Int) (r4 : List Int) (r5 : Int) (r6 : Int) (r7 : List Int) (r8 : Int) (r9 : Bool) (w : World) (hr0_3 : Kd.C (Kd.int .i64) w A0_3 l0_3.length l0_3) (hc0_3 : l0_3.length ≤ c0_3) (hr0_6 : Kd.C (Kd.int .i64) w A0_6 l0_6.length l0_6) (hc0_6 : l0_6.length ≤ c0_6) (h : impl_NextDay.f k a0_0 a0_1 a0_2 l0_3 a0_4 a0_5 l0_6 a0_7 a1 = some (r1, r2, r3, r4, r5, r6, r7, r8, r9)) :
    Calls Tryz.prog 27 #[.agg #[.int .i64 a0_0, .int .i64 a0_1, .int .i64 a0_2, .slice A0_3 l0_3.length c0_3, .int .i64 a0_4, .int .i64 a0_5, .slice A0_6 l0_6.length c0_6, .int .i64 a0_7], .int .i64 a1] w fun e w' => ∃ v3_ v6_ : Value, e = .returned (.tuple #[.agg #[.int .i64 r1, .int .i64 r2, .int .i64 r3, v3_, .int .i64 r5, .int .i64 r6, v6_, .int .i64 r8], .bool r9]) ∧ Kd.R (Kd.int .i64) 3 w' w.heap.size (fun k_ => some k_ ≠ (v6_ : Value).ownBlock) v3_ r4 ∧ Kd.R (Kd.int .i64) 3 w' w.heap.size (fun k_ => some k_ ≠ (v3_ : Value).ownBlock) v6_ r7 ∧ Below w.heap.size w w' := by
  refine ((impl_NextDay.ctr h).2 w [.agg #[.int .i64 a0_0, .int .i64 a0_1, .int .i64 a0_2, .slice A0_3 l0_3.length c0_3, .int .i64 a0_4, .int .i64 a0_5, .slice A0_6 l0_6.length c0_6, .int .i64 a0_7], .int .i64 a1] (by simp only [RepL, Rep]; exact ⟨_, _, rfl, ⟨_, rfl, _, _, rfl, rfl, _, _, rfl, rfl, _, _, rfl, rfl, _, _, rfl, at_of_C E_eI hr0_3 hc0_3, _, _, rfl, rfl, _, _, rfl, rfl, _, _, rfl, at_of_C E_eI hr0_6 hc0_6, _, _, rfl, rfl, rfl⟩, _, _, rfl, rfl, rfl⟩)).mono ?_
  rintro _ _ ⟨y, L, rfl, hR, hn, hb⟩
  simp only [RepR, RepRL] at hR
  obtain ⟨_, rfl, _, _, _, _, rfl, rfl, ⟨_, rfl, _, _, _, _, rfl, rfl, ⟨rfl, rfl⟩, _, _, _, _, rfl, rfl, ⟨rfl, rfl⟩, _, _, _, _, rfl, rfl, ⟨rfl, rfl⟩, y1_, _, _, _, rfl, rfl, ⟨o1, _, _, rfl⟩, _, _, _, _, rfl, rfl, ⟨rfl, rfl⟩, _, _, _, _, rfl, rfl, ⟨rfl, rfl⟩, y2_, _, _, _, rfl, rfl, ⟨o2, _, _, rfl⟩, _, _, _, _, rfl, rfl, ⟨rfl, rfl⟩, rfl, rfl⟩, _, _, _, _, rfl, rfl, ⟨rfl, rfl⟩, rfl, rfl⟩ := hR
  have hN : ∀ k, bk y1_ = some k → some k ≠ y2_.ownBlock := by intro k h1 h2; rw [bk_own o2] at h2; simp [h1, ← h2] at hn
  have hM : ∀ k, bk y2_ = some k → some k ≠ y1_.ownBlock := by intro k h1 h2; rw [bk_own o1] at h2; simp [h1, ← h2] at hn
  exact ⟨y1_, y2_, rfl, R_of_rowO E_eI o1 hN, R_of_rowO E_eI o2 hM, hb⟩
end Go.Proofs.YtkindoepnganmaaGreat.F
end

section
namespace Go.Proofs.YtkindoepnganmaaGreat.F
open Go.RowKit Go.Proofs.YtkindoepnganmaaGreatW.PrintWords Go.Proofs.YtkindoepnganmaaGreatW.PrintLast Go.Proofs.YtkindoepnganmaaGreatW.PrintMore
set_option linter.unusedVariables false
set_option linter.unusedSimpArgs false
attribute [local go_sem] max2_int min2_int max_two min_two
set_option maxRecDepth 20000
set_option maxHeartbeats 4000000
open Nat renaming reduceAdd → p1, reduceSub → p2, reduceMul → p3, reduceDiv → p4, reduceBNe → p5, reduceBEq → p6, reduceEqDiff → p7, reduceLeDiff → p8, reduceLT → p9
open Int renaming reduceLE → p10, reduceLT → p11, reduceEq → p12
theorem impl_isDirection.ctr {a0 : Int} {r : Bool} (h : impl_isDirection.f a0 = some r) : Ctr Tryz.prog 125 [.v (.int .i64 a0)] (.v (.bool r)) := by
  refine Ctr_of tyOk hm Tryz.func125 rfl rfl (by kernel_rfl) (n := 8) (rv := [.tmp 2]) rfl rfl ?_
  simp only [W, List.replicate]
  unfold impl_isDirection.f at h
  replace h := ifS h; rcases h with ⟨c1, h⟩ | ⟨c1, h⟩
  · cases h
    try simp only [W, c1, p1, p2, p3, p4, p5, p6, p7, p8, p9, p10, p11, p12]
  · cases h
    try simp only [W, c1, p1, p2, p3, p4, p5, p6, p7, p8, p9, p10, p11, p12]
theorem impl_ActOk.ctr {k : Nat} {a0_0 : Int} {a0_1 : Int} {a0_2 : Int} {r : Bool} (h : impl_ActOk.f k a0_0 a0_1 a0_2 = some r) : Ctr Tryz.prog 86 [.ag [.v (.int .i64 a0_0), .v (.int .i64 a0_1), .v (.int .i64 a0_2)]] (.v (.bool r)) := by
  refine Ctr_of tyOk hm Tryz.func86 rfl rfl (by kernel_rfl) (n := 56) (rv := [.tmp 2]) rfl rfl ?_
  simp only [W, List.replicate]
  unfold impl_ActOk.f at h
  replace h := ifS h; rcases h with ⟨c1, h⟩ | ⟨c1, h⟩
  · rcases k with _ | m2; · cases h
    rw [impl_ActOk.j0] at h
    replace h := ifS h; rcases h with ⟨c3, h⟩ | ⟨c3, h⟩
    · replace h := ifS h; rcases h with ⟨c4, h⟩ | ⟨c4, h⟩
      · replace h := ifS h; rcases h with ⟨c5, h⟩ | ⟨c5, h⟩
        · cases h
          try simp only [W, c1, eq_true c3, c4, c5, p1, p2, p3, p4, p5, p6, p7, p8, p9, p10, p11, p12]
        · cases h
          try simp only [W, c1, eq_true c3, c4, c5, p1, p2, p3, p4, p5, p6, p7, p8, p9, p10, p11, p12]
      · cases h
        try simp only [W, c1, eq_true c3, c4, p1, p2, p3, p4, p5, p6, p7, p8, p9, p10, p11, p12]
    · replace h := ifS h; rcases h with ⟨c6, h⟩ | ⟨c6, h⟩
      · replace h := ifT h; rcases h with ⟨c7, h⟩ | ⟨c7, h⟩
        · replace h := bnd h; obtain ⟨t8, A, h⟩ := h
          try simp only [W, c1, c3, eq_true c6, c7, p1, p2, p3, p4, p5, p6, p7, p8, p9, p10, p11, p12]
          refine callR (impl_isDirection.ctr A) ?_
          cases h
          try simp only [W, c1, c3, eq_true c6, c7, p1, p2, p3, p4, p5, p6, p7, p8, p9, p10, p11, p12]
        · cases h
          try simp only [W, c1, c3, eq_true c6, c7, p1, p2, p3, p4, p5, p6, p7, p8, p9, p10, p11, p12]
      · replace h := ifS h; rcases h with ⟨c9, h⟩ | ⟨c9, h⟩
        · replace h := ifT h; rcases h with ⟨c10, h⟩ | ⟨c10, h⟩
          · cases h
            try simp only [W, c1, c3, c6, eq_true c9, c10, p1, p2, p3, p4, p5, p6, p7, p8, p9, p10, p11, p12]
          · cases h
            try simp only [W, c1, c3, c6, eq_true c9, c10, p1, p2, p3, p4, p5, p6, p7, p8, p9, p10, p11, p12]
        · replace h := ifS h; rcases h with ⟨c11, h⟩ | ⟨c11, h⟩
          · replace h := ifS h; rcases h with ⟨c12, h⟩ | ⟨c12, h⟩
            · cases h
              try simp only [W, c1, c3, c6, c9, eq_true c11, eq_true c12, p1, p2, p3, p4, p5, p6, p7, p8, p9, p10, p11, p12]
            · cases h
              try simp only [W, c1, c3, c6, c9, eq_true c11, c12, p1, p2, p3, p4, p5, p6, p7, p8, p9, p10, p11, p12]
          · replace h := ifS h; rcases h with ⟨c13, h⟩ | ⟨c13, h⟩
            · replace h := ifS h; rcases h with ⟨c14, h⟩ | ⟨c14, h⟩
              · cases h
                try simp only [W, c1, c3, c6, c9, c11, eq_true c13, eq_true c14, p1, p2, p3, p4, p5, p6, p7, p8, p9, p10, p11, p12]
              · cases h
                try simp only [W, c1, c3, c6, c9, c11, eq_true c13, c14, p1, p2, p3, p4, p5, p6, p7, p8, p9, p10, p11, p12]
            · replace h := ifS h; rcases h with ⟨c15, h⟩ | ⟨c15, h⟩
              · replace h := ifS h; rcases h with ⟨c16, h⟩ | ⟨c16, h⟩
                · cases h
                  try simp only [W, c1, c3, c6, c9, c11, c13, eq_true c15, eq_true c16, p1, p2, p3, p4, p5, p6, p7, p8, p9, p10, p11, p12]
                · cases h
                  try simp only [W, c1, c3, c6, c9, c11, c13, eq_true c15, c16, p1, p2, p3, p4, p5, p6, p7, p8, p9, p10, p11, p12]
              · cases h
                try simp only [W, c1, c3, c6, c9, c11, c13, c15, p1, p2, p3, p4, p5, p6, p7, p8, p9, p10, p11, p12]
  · rcases k with _ | m17; · cases h
    rw [impl_ActOk.j0] at h
    replace h := ifS h; rcases h with ⟨c18, h⟩ | ⟨c18, h⟩
    · replace h := ifS h; rcases h with ⟨c19, h⟩ | ⟨c19, h⟩
      · replace h := ifS h; rcases h with ⟨c20, h⟩ | ⟨c20, h⟩
        · cases h
          try simp only [W, c1, eq_true c18, c19, c20, p1, p2, p3, p4, p5, p6, p7, p8, p9, p10, p11, p12]
        · cases h
          try simp only [W, c1, eq_true c18, c19, c20, p1, p2, p3, p4, p5, p6, p7, p8, p9, p10, p11, p12]
      · cases h
        try simp only [W, c1, eq_true c18, c19, p1, p2, p3, p4, p5, p6, p7, p8, p9, p10, p11, p12]
    · replace h := ifS h; rcases h with ⟨c21, h⟩ | ⟨c21, h⟩
      · rw [if_neg (by decide)] at h
        cases h
        try simp only [W, c1, c18, eq_true c21, p1, p2, p3, p4, p5, p6, p7, p8, p9, p10, p11, p12]
      · replace h := ifS h; rcases h with ⟨c23, h⟩ | ⟨c23, h⟩
        · rw [if_neg (by decide)] at h
          cases h
          try simp only [W, c1, c18, c21, eq_true c23, p1, p2, p3, p4, p5, p6, p7, p8, p9, p10, p11, p12]
        · replace h := ifS h; rcases h with ⟨c25, h⟩ | ⟨c25, h⟩
          · replace h := ifS h; rcases h with ⟨c26, h⟩ | ⟨c26, h⟩
            · cases h
              try simp only [W, c1, c18, c21, c23, eq_true c25, eq_true c26, p1, p2, p3, p4, p5, p6, p7, p8, p9, p10, p11, p12]
            · cases h
              try simp only [W, c1, c18, c21, c23, eq_true c25, c26, p1, p2, p3, p4, p5, p6, p7, p8, p9, p10, p11, p12]
          · replace h := ifS h; rcases h with ⟨c27, h⟩ | ⟨c27, h⟩
            · replace h := ifS h; rcases h with ⟨c28, h⟩ | ⟨c28, h⟩
              · cases h
                try simp only [W, c1, c18, c21, c23, c25, eq_true c27, eq_true c28, p1, p2, p3, p4, p5, p6, p7, p8, p9, p10, p11, p12]
              · cases h
                try simp only [W, c1, c18, c21, c23, c25, eq_true c27, c28, p1, p2, p3, p4, p5, p6, p7, p8, p9, p10, p11, p12]
            · replace h := ifS h; rcases h with ⟨c29, h⟩ | ⟨c29, h⟩
              · replace h := ifS h; rcases h with ⟨c30, h⟩ | ⟨c30, h⟩
                · cases h
                  try simp only [W, c1, c18, c21, c23, c25, c27, eq_true c29, eq_true c30, p1, p2, p3, p4, p5, p6, p7, p8, p9, p10, p11, p12]
                · cases h
                  try simp only [W, c1, c18, c21, c23, c25, c27, eq_true c29, c30, p1, p2, p3, p4, p5, p6, p7, p8, p9, p10, p11, p12]
              · cases h
                try simp only [W, c1, c18, c21, c23, c25, c27, c29, p1, p2, p3, p4, p5, p6, p7, p8, p9, p10, p11, p12]
theorem impl_ActOk.calls (k : Nat) (a0_0 : Int) (a0_1 : Int) (a0_2 : Int) (r : Bool) (w : World) (h : impl_ActOk.f k a0_0 a0_1 a0_2 = some r) :
    Calls Tryz.prog 86 #[.agg #[.int .i64 a0_0, .int .i64 a0_1, .int .i64 a0_2]] w fun e w' => e = .returned (.bool r) ∧ Below w.heap.size w w' := by
  refine ((impl_ActOk.ctr h).2 w [.agg #[.int .i64 a0_0, .int .i64 a0_1, .int .i64 a0_2]] (by simp only [RepL, Rep]; exact ⟨_, _, rfl, ⟨_, rfl, _, _, rfl, rfl, _, _, rfl, rfl, _, _, rfl, rfl, rfl⟩, rfl⟩)).mono ?_
  rintro _ _ ⟨y, L, rfl, hR, _, hb⟩
  exact ⟨congrArg Ending.returned (RepR_pln rfl hR).1, hb⟩
set_option maxHeartbeats 8000000 in
set_option maxRecDepth 100000 in
theorem impl_done.calls (a0_0 : Int) (a0_1 : Int) (a0_2 : Int) (P0_3_ : Nat → Prop) (u9000_ : Value) (l0_3 : List Int) (a0_4 : Int) (a0_5 : Int) (P0_6_ : Nat → Prop) (u9001_ : Value) (l0_6 : List Int) (a0_7 : Int) (a1 : Bool) (r1 : Int) (r2 : Int) (r3 : Int) (r4 : List Int) (r5 : Int) (r6 : Int) (r7 : List Int) (r8 : Int) (r9 : Int) (w0 w : World) (hB : Below w0.heap.size w0 w) (ho0_3 : Kd.R (Kd.int .i64) 3 w w0.heap.size P0_3_ u9000_ l0_3) (hp0_3_0_6 : ∀ k_, P0_3_ k_ → ¬ P0_6_ k_) (ho0_6 : Kd.R (Kd.int .i64) 3 w w0.heap.size P0_6_ u9001_ l0_6) (hp0_6_0_3 : ∀ k_, P0_6_ k_ → ¬ P0_3_ k_) (h : impl_done.f a0_0 a0_1 a0_2 l0_3 a0_4 a0_5 l0_6 a0_7 a1 = some (r1, r2, r3, r4, r5, r6, r7, r8, r9)) :
  Calls Tryz.prog 87 #[.agg #[.int .i64 a0_0, .int .i64 a0_1, .int .i64 a0_2, u9000_, .int .i64 a0_4, .int .i64 a0_5, u9001_, .int .i64 a0_7], .bool a1] w fun e w' => ∃ v3_ v6_ : Value, e = .returned (.tuple #[.agg #[.int .i64 r1, .int .i64 r2, .int .i64 r3, v3_, .int .i64 r5, .int .i64 r6, v6_, .int .i64 r8], .int .i64 r9]) ∧ Kd.R (Kd.int .i64) 3 w' w0.heap.size (fun k_ => ((P0_3_ k_ ∨ P0_6_ k_) ∨ w.heap.size ≤ k_) ∧ some k_ ≠ (v6_ : Value).ownBlock) v3_ r4 ∧ Kd.R (Kd.int .i64) 3 w' w0.heap.size (fun k_ => ((P0_3_ k_ ∨ P0_6_ k_) ∨ w.heap.size ≤ k_) ∧ some k_ ≠ (v3_ : Value).ownBlock) v6_ r7 ∧ Below w0.heap.size w0 w' ∧ Kept w w' (fun k_ => P0_3_ k_ ∨ P0_6_ k_) := by
 have hu38 := Tryz.underlying38
 have HO0_3 := aK (show Kd.R (Kd.int .i64) 3 w w0.heap.size (fun k_ => ((P0_3_ k_ ∨ P0_6_ k_) ∨ w.heap.size ≤ k_) ∧ some k_ ≠ (u9001_ : Value).ownBlock) u9000_ l0_3 from Kd.R_mono ho0_3 (fun k_ hk => ⟨(.inl (.inl hk)), fun e_ => hp0_3_0_6 k_ hk (ho0_6.1 k_ e_.symm)⟩))
 have HO0_6 := aK (show Kd.R (Kd.int .i64) 3 w w0.heap.size (fun k_ => ((P0_3_ k_ ∨ P0_6_ k_) ∨ w.heap.size ≤ k_) ∧ some k_ ≠ (u9000_ : Value).ownBlock) u9001_ l0_6 from Kd.R_mono ho0_6 (fun k_ hk => ⟨(.inl (.inr hk)), fun e_ => hp0_6_0_3 k_ hk (ho0_3.1 k_ e_.symm)⟩))
 have HK := aK (Kept.refl w (fun k_ => P0_3_ k_ ∨ P0_6_ k_))
 have HW0 := aK hB.size
 have HB := aK hB
 clear hB
 have H : (if a1 = true then (some (a0_0, a0_1, a0_2, l0_3, a0_4, a0_5, l0_6, a0_7, 1)) else (some (a0_0, a0_1, a0_2, l0_3, a0_4, a0_5, l0_6, a0_7, 0))) = some (r1, r2, r3, r4, r5, r6, r7, r8, r9) := h
 clear h
 by_cases c3 : a1 = true
 ·subst c3
  have H1 : (some (a0_0, a0_1, a0_2, l0_3, a0_4, a0_5, l0_6, a0_7, 1)) = some (r1, r2, r3, r4, r5, r6, r7, r8, r9) := by rw [if_pos rfl] at H; exact H
  clear H
  have H := H1
  clear H1
  simp only [Option.some.injEq, Prod.mk.injEq] at H
  obtain ⟨rfl, rfl, rfl, rfl, rfl, rfl, rfl, rfl, rfl⟩ := H
  obtain ⟨Ao4, co4, eo4⟩ := Kd.R_slice HO0_3.out
  subst eo4
  obtain ⟨Ao5, co5, eo5⟩ := Kd.R_slice HO0_6.out
  subst eo5
  go_enter Tryz.func87, Tryz.ntmps87
  go_wp2_with (first | ((with_reducible refine gate_dst (N := 2) rfl ?_); refine box_event ?hg (N := 2) ?hd (cs := #[.int .i64 a0_0, .int .i64 a0_1, .int .i64 a0_2, .slice Ao4 l0_3.length co4, .int .i64 a0_4, .int .i64 a0_5, .slice Ao5 l0_6.length co5, .int .i64 a0_7]) (t := 38) ?hr ?_; (case hd => rfl); (case hg => rfl); (case hr => first | (go_simp; done) | (go_simp; rfl)); intro gb1635 hg w6 hbox hb; replace HO0_3 := aK (Kd.R_below (zA HO0_3) hb); replace HO0_6 := aK (Kd.R_below (zA HO0_6) hb); have BK1635 := aK (hbox); have GW1635 := aK ((by rw [hg]; exact (by first | exact HK.out.1 | exact (show Kept w _ (fun k_ => P0_3_ k_ ∨ P0_6_ k_) from by repeat (first | (with_reducible first | exact HK.out | apply Kept.alloc | apply Kept.drewN | apply Kept.drew) | exact HK.out)).1) : w.heap.size ≤ gb1635)); replace HK := aK (Kept.below (S := (fun k_ => P0_3_ k_ ∨ P0_6_ k_)) (by repeat (first | (with_reducible first | exact HK.out | apply Kept.alloc | apply Kept.drewN | apply Kept.drew) | exact HK.out)) hb); have GE1635 := aK ((by rw [hg]; exact (bSz (zH0 HB)) : w0.heap.size ≤ gb1635)); replace HB := aK (bSp (zH0 HB) hb); clear hb hbox hg) | ((with_reducible refine gate_dst (N := 4) rfl ?_); refine box_event ?hg (N := 4) ?hd (cs := #[.int .i64 0, .int .i64 0, .int .i64 0, .slice none 0 0, .int .i64 0, .int .i64 0, .slice none 0 0, .int .i64 0]) (t := 38) ?hr ?_; (case hd => rfl); (case hg => rfl); (case hr => first | (go_simp; done) | (go_simp; rfl)); intro gb1636 hg w7 hbox hb; replace HO0_3 := aK (Kd.R_below (zA HO0_3) hb); replace HO0_6 := aK (Kd.R_below (zA HO0_6) hb); have BK1636 := aK (hbox); have GW1636 := aK ((by rw [hg]; exact (by first | exact HK.out.1 | exact (show Kept w _ (fun k_ => P0_3_ k_ ∨ P0_6_ k_) from by repeat (first | (with_reducible first | exact HK.out | apply Kept.alloc | apply Kept.drewN | apply Kept.drew | refine Kept.setCell ?_ (.inr GW1635.out) _) | exact HK.out)).1) : w.heap.size ≤ gb1636)); replace HK := aK (Kept.below (S := (fun k_ => P0_3_ k_ ∨ P0_6_ k_)) (by repeat (first | (with_reducible first | exact HK.out | apply Kept.alloc | apply Kept.drewN | apply Kept.drew | refine Kept.setCell ?_ (.inr GW1635.out) _) | exact HK.out)) hb); have GE1636 := aK ((by rw [hg]; exact (bSz (zH1 HB GE1635)) : w0.heap.size ≤ gb1636)); replace HB := aK (bSp (zH1 HB GE1635) hb); have NB1635_1636 := nbl BK1635 hg (by intro z_; (with_reducible repeat (first | refine blk_drewN ?_ _ | refine kD ?_ | refine kA ?_ _)); exact z_); replace BK1635 := zB BK1635 hb; have NB1636_1635 := nbs NB1635_1636; clear hb hbox hg; have hnb8 := NB1635_1636.out; have hnc8 := NB1636_1635.out; obtain ⟨hcz9_0, hcz9_1, hcz9_2, hcz9_3, hcz9_4, hcz9_5, hcz9_6, hcz9_7, hfz9_0, hfz9_1, hfz9_2, hfz9_3, hfz9_4, hfz9_5, hfz9_6, hfz9_7⟩ := cl8 BK1635.out; obtain ⟨hcz10_0, hcz10_1, hcz10_2, hcz10_3, hcz10_4, hcz10_5, hcz10_6, hcz10_7, hfz10_0, hfz10_1, hfz10_2, hfz10_3, hfz10_4, hfz10_5, hfz10_6, hfz10_7⟩ := cl8 BK1636.out))
  refine bodyPost_ret (results_ct rfl _ _ gb1636 38 #[.int .i64 a0_0, .int .i64 a0_1, .int .i64 a0_2, .slice Ao4 l0_3.length co4, .int .i64 a0_4, .int .i64 a0_5, .slice Ao5 l0_6.length co5, .int .i64 a0_7] (0, 0) _ rfl (by (with_reducible repeat (first | refine blk_drewN ?_ _ | refine kD ?_ | refine kA ?_ _)); refine blk_put (cs := #[.int .i64 a0_0, .int .i64 a0_1, .int .i64 a0_2, .slice Ao4 l0_3.length co4, .int .i64 a0_4, .int .i64 a0_5, .slice Ao5 l0_6.length co5, .int .i64 0]) ?_ 7 _ rfl; (with_reducible repeat (first | refine blk_drewN ?_ _ | refine kD ?_ | refine kA ?_ _)); refine blk_put (cs := #[.int .i64 a0_0, .int .i64 a0_1, .int .i64 a0_2, .slice Ao4 l0_3.length co4, .int .i64 a0_4, .int .i64 a0_5, .slice none 0 0, .int .i64 0]) ?_ 6 _ rfl; (with_reducible repeat (first | refine blk_drewN ?_ _ | refine kD ?_ | refine kA ?_ _)); refine blk_put (cs := #[.int .i64 a0_0, .int .i64 a0_1, .int .i64 a0_2, .slice Ao4 l0_3.length co4, .int .i64 a0_4, .int .i64 0, .slice none 0 0, .int .i64 0]) ?_ 5 _ rfl; (with_reducible repeat (first | refine blk_drewN ?_ _ | refine kD ?_ | refine kA ?_ _)); refine blk_put (cs := #[.int .i64 a0_0, .int .i64 a0_1, .int .i64 a0_2, .slice Ao4 l0_3.length co4, .int .i64 0, .int .i64 0, .slice none 0 0, .int .i64 0]) ?_ 4 _ rfl; (with_reducible repeat (first | refine blk_drewN ?_ _ | refine kD ?_ | refine kA ?_ _)); refine blk_put (cs := #[.int .i64 a0_0, .int .i64 a0_1, .int .i64 a0_2, .slice none 0 0, .int .i64 0, .int .i64 0, .slice none 0 0, .int .i64 0]) ?_ 3 _ rfl; (with_reducible repeat (first | refine blk_drewN ?_ _ | refine kD ?_ | refine kA ?_ _)); refine blk_put (cs := #[.int .i64 a0_0, .int .i64 a0_1, .int .i64 0, .slice none 0 0, .int .i64 0, .int .i64 0, .slice none 0 0, .int .i64 0]) ?_ 2 _ rfl; (with_reducible repeat (first | refine blk_drewN ?_ _ | refine kD ?_ | refine kA ?_ _)); refine blk_put (cs := #[.int .i64 a0_0, .int .i64 0, .int .i64 0, .slice none 0 0, .int .i64 0, .int .i64 0, .slice none 0 0, .int .i64 0]) ?_ 1 _ rfl; (with_reducible repeat (first | refine blk_drewN ?_ _ | refine kD ?_ | refine kA ?_ _)); refine blk_put (cs := #[.int .i64 0, .int .i64 0, .int .i64 0, .slice none 0 0, .int .i64 0, .int .i64 0, .slice none 0 0, .int .i64 0]) ?_ 0 _ rfl; (with_reducible repeat (first | refine blk_drewN ?_ _ | refine kD ?_ | refine kA ?_ _)); exact BK1636.out) Tryz.underlying38 rfl (by kernel_rfl)) rfl ?_
  exact ⟨_, _, by first | rfl | (simp [errW_none, errW_some] <;> rfl) | (simp [*, errW_none, errW_some] <;> rfl), by (with_reducible repeat (first | apply Kd.R_alloc | apply Kd.R_drewN | apply Kd.R_drew)); exact Kd.R_mono (zT8 HO0_3 BK1636 (.int .i64 a0_0) (.int .i64 a0_1) (.int .i64 a0_2) (.slice Ao4 l0_3.length co4) (.int .i64 a0_4) (.int .i64 a0_5) (.slice Ao5 l0_6.length co5) (.int .i64 a0_7)) (fun _ hk => ⟨hk.1.1, hk.1.2⟩), by (with_reducible repeat (first | apply Kd.R_alloc | apply Kd.R_drewN | apply Kd.R_drew)); exact Kd.R_mono (zT8 HO0_6 BK1636 (.int .i64 a0_0) (.int .i64 a0_1) (.int .i64 a0_2) (.slice Ao4 l0_3.length co4) (.int .i64 a0_4) (.int .i64 a0_5) (.slice Ao5 l0_6.length co5) (.int .i64 a0_7)) (fun _ hk => ⟨hk.1.1, hk.1.2⟩), by repeat (first | (with_reducible first | exact HB.out | apply bAl | apply bDN | apply bD1 | refine bSt ?_ GE1635.out | refine bSt ?_ GE1636.out) | exact HB.out), by repeat (first | (with_reducible first | exact HK.out | apply Kept.alloc | apply Kept.drewN | apply Kept.drew | refine Kept.setCell ?_ (.inr GW1635.out) _ | refine Kept.setCell ?_ (.inr GW1636.out) _) | exact HK.out)⟩
 ·replace c3 := Bool.eq_false_iff.mpr c3
  subst c3
  have H1 : (some (a0_0, a0_1, a0_2, l0_3, a0_4, a0_5, l0_6, a0_7, 0)) = some (r1, r2, r3, r4, r5, r6, r7, r8, r9) := by rw [if_neg (show ¬ (false = true) by decide)] at H; exact H
  clear H
  have H := H1
  clear H1
  simp only [Option.some.injEq, Prod.mk.injEq] at H
  obtain ⟨rfl, rfl, rfl, rfl, rfl, rfl, rfl, rfl, rfl⟩ := H
  obtain ⟨Ao11, co11, eo11⟩ := Kd.R_slice HO0_3.out
  subst eo11
  obtain ⟨Ao12, co12, eo12⟩ := Kd.R_slice HO0_6.out
  subst eo12
  go_enter Tryz.func87, Tryz.ntmps87
  go_wp2_with (first | ((with_reducible refine gate_dst (N := 2) rfl ?_); refine box_event ?hg (N := 2) ?hd (cs := #[.int .i64 a0_0, .int .i64 a0_1, .int .i64 a0_2, .slice Ao11 l0_3.length co11, .int .i64 a0_4, .int .i64 a0_5, .slice Ao12 l0_6.length co12, .int .i64 a0_7]) (t := 38) ?hr ?_; (case hd => rfl); (case hg => rfl); (case hr => first | (go_simp; done) | (go_simp; rfl)); intro gb1635 hg w13 hbox hb; replace HO0_3 := aK (Kd.R_below (zA HO0_3) hb); replace HO0_6 := aK (Kd.R_below (zA HO0_6) hb); have BK1635 := aK (hbox); have GW1635 := aK ((by rw [hg]; exact (by first | exact HK.out.1 | exact (show Kept w _ (fun k_ => P0_3_ k_ ∨ P0_6_ k_) from by repeat (first | (with_reducible first | exact HK.out | apply Kept.alloc | apply Kept.drewN | apply Kept.drew) | exact HK.out)).1) : w.heap.size ≤ gb1635)); replace HK := aK (Kept.below (S := (fun k_ => P0_3_ k_ ∨ P0_6_ k_)) (by repeat (first | (with_reducible first | exact HK.out | apply Kept.alloc | apply Kept.drewN | apply Kept.drew) | exact HK.out)) hb); have GE1635 := aK ((by rw [hg]; exact (bSz (zH0 HB)) : w0.heap.size ≤ gb1635)); replace HB := aK (bSp (zH0 HB) hb); clear hb hbox hg) | ((with_reducible refine gate_dst (N := 4) rfl ?_); refine box_event ?hg (N := 4) ?hd (cs := #[.int .i64 0, .int .i64 0, .int .i64 0, .slice none 0 0, .int .i64 0, .int .i64 0, .slice none 0 0, .int .i64 0]) (t := 38) ?hr ?_; (case hd => rfl); (case hg => rfl); (case hr => first | (go_simp; done) | (go_simp; rfl)); intro gb1636 hg w14 hbox hb; replace HO0_3 := aK (Kd.R_below (zA HO0_3) hb); replace HO0_6 := aK (Kd.R_below (zA HO0_6) hb); have BK1636 := aK (hbox); have GW1636 := aK ((by rw [hg]; exact (by first | exact HK.out.1 | exact (show Kept w _ (fun k_ => P0_3_ k_ ∨ P0_6_ k_) from by repeat (first | (with_reducible first | exact HK.out | apply Kept.alloc | apply Kept.drewN | apply Kept.drew | refine Kept.setCell ?_ (.inr GW1635.out) _) | exact HK.out)).1) : w.heap.size ≤ gb1636)); replace HK := aK (Kept.below (S := (fun k_ => P0_3_ k_ ∨ P0_6_ k_)) (by repeat (first | (with_reducible first | exact HK.out | apply Kept.alloc | apply Kept.drewN | apply Kept.drew | refine Kept.setCell ?_ (.inr GW1635.out) _) | exact HK.out)) hb); have GE1636 := aK ((by rw [hg]; exact (bSz (zH1 HB GE1635)) : w0.heap.size ≤ gb1636)); replace HB := aK (bSp (zH1 HB GE1635) hb); have NB1635_1636 := nbl BK1635 hg (by intro z_; (with_reducible repeat (first | refine blk_drewN ?_ _ | refine kD ?_ | refine kA ?_ _)); exact z_); replace BK1635 := zB BK1635 hb; have NB1636_1635 := nbs NB1635_1636; clear hb hbox hg; have hnb15 := NB1635_1636.out; have hnc15 := NB1636_1635.out; obtain ⟨hcz16_0, hcz16_1, hcz16_2, hcz16_3, hcz16_4, hcz16_5, hcz16_6, hcz16_7, hfz16_0, hfz16_1, hfz16_2, hfz16_3, hfz16_4, hfz16_5, hfz16_6, hfz16_7⟩ := cl8 BK1635.out; obtain ⟨hcz17_0, hcz17_1, hcz17_2, hcz17_3, hcz17_4, hcz17_5, hcz17_6, hcz17_7, hfz17_0, hfz17_1, hfz17_2, hfz17_3, hfz17_4, hfz17_5, hfz17_6, hfz17_7⟩ := cl8 BK1636.out))
  refine bodyPost_ret (results_ct rfl _ _ gb1636 38 #[.int .i64 a0_0, .int .i64 a0_1, .int .i64 a0_2, .slice Ao11 l0_3.length co11, .int .i64 a0_4, .int .i64 a0_5, .slice Ao12 l0_6.length co12, .int .i64 a0_7] (0, 0) _ rfl (by (with_reducible repeat (first | refine blk_drewN ?_ _ | refine kD ?_ | refine kA ?_ _)); refine blk_put (cs := #[.int .i64 a0_0, .int .i64 a0_1, .int .i64 a0_2, .slice Ao11 l0_3.length co11, .int .i64 a0_4, .int .i64 a0_5, .slice Ao12 l0_6.length co12, .int .i64 0]) ?_ 7 _ rfl; (with_reducible repeat (first | refine blk_drewN ?_ _ | refine kD ?_ | refine kA ?_ _)); refine blk_put (cs := #[.int .i64 a0_0, .int .i64 a0_1, .int .i64 a0_2, .slice Ao11 l0_3.length co11, .int .i64 a0_4, .int .i64 a0_5, .slice none 0 0, .int .i64 0]) ?_ 6 _ rfl; (with_reducible repeat (first | refine blk_drewN ?_ _ | refine kD ?_ | refine kA ?_ _)); refine blk_put (cs := #[.int .i64 a0_0, .int .i64 a0_1, .int .i64 a0_2, .slice Ao11 l0_3.length co11, .int .i64 a0_4, .int .i64 0, .slice none 0 0, .int .i64 0]) ?_ 5 _ rfl; (with_reducible repeat (first | refine blk_drewN ?_ _ | refine kD ?_ | refine kA ?_ _)); refine blk_put (cs := #[.int .i64 a0_0, .int .i64 a0_1, .int .i64 a0_2, .slice Ao11 l0_3.length co11, .int .i64 0, .int .i64 0, .slice none 0 0, .int .i64 0]) ?_ 4 _ rfl; (with_reducible repeat (first | refine blk_drewN ?_ _ | refine kD ?_ | refine kA ?_ _)); refine blk_put (cs := #[.int .i64 a0_0, .int .i64 a0_1, .int .i64 a0_2, .slice none 0 0, .int .i64 0, .int .i64 0, .slice none 0 0, .int .i64 0]) ?_ 3 _ rfl; (with_reducible repeat (first | refine blk_drewN ?_ _ | refine kD ?_ | refine kA ?_ _)); refine blk_put (cs := #[.int .i64 a0_0, .int .i64 a0_1, .int .i64 0, .slice none 0 0, .int .i64 0, .int .i64 0, .slice none 0 0, .int .i64 0]) ?_ 2 _ rfl; (with_reducible repeat (first | refine blk_drewN ?_ _ | refine kD ?_ | refine kA ?_ _)); refine blk_put (cs := #[.int .i64 a0_0, .int .i64 0, .int .i64 0, .slice none 0 0, .int .i64 0, .int .i64 0, .slice none 0 0, .int .i64 0]) ?_ 1 _ rfl; (with_reducible repeat (first | refine blk_drewN ?_ _ | refine kD ?_ | refine kA ?_ _)); refine blk_put (cs := #[.int .i64 0, .int .i64 0, .int .i64 0, .slice none 0 0, .int .i64 0, .int .i64 0, .slice none 0 0, .int .i64 0]) ?_ 0 _ rfl; (with_reducible repeat (first | refine blk_drewN ?_ _ | refine kD ?_ | refine kA ?_ _)); exact BK1636.out) Tryz.underlying38 rfl (by kernel_rfl)) rfl ?_
  exact ⟨_, _, by first | rfl | (simp [errW_none, errW_some] <;> rfl) | (simp [*, errW_none, errW_some] <;> rfl), by (with_reducible repeat (first | apply Kd.R_alloc | apply Kd.R_drewN | apply Kd.R_drew)); exact Kd.R_mono (zT8 HO0_3 BK1636 (.int .i64 a0_0) (.int .i64 a0_1) (.int .i64 a0_2) (.slice Ao11 l0_3.length co11) (.int .i64 a0_4) (.int .i64 a0_5) (.slice Ao12 l0_6.length co12) (.int .i64 a0_7)) (fun _ hk => ⟨hk.1.1, hk.1.2⟩), by (with_reducible repeat (first | apply Kd.R_alloc | apply Kd.R_drewN | apply Kd.R_drew)); exact Kd.R_mono (zT8 HO0_6 BK1636 (.int .i64 a0_0) (.int .i64 a0_1) (.int .i64 a0_2) (.slice Ao11 l0_3.length co11) (.int .i64 a0_4) (.int .i64 a0_5) (.slice Ao12 l0_6.length co12) (.int .i64 a0_7)) (fun _ hk => ⟨hk.1.1, hk.1.2⟩), by repeat (first | (with_reducible first | exact HB.out | apply bAl | apply bDN | apply bD1 | refine bSt ?_ GE1635.out | refine bSt ?_ GE1636.out) | exact HB.out), by repeat (first | (with_reducible first | exact HK.out | apply Kept.alloc | apply Kept.drewN | apply Kept.drew | refine Kept.setCell ?_ (.inr GW1635.out) _ | refine Kept.setCell ?_ (.inr GW1636.out) _) | exact HK.out)⟩
end Go.Proofs.YtkindoepnganmaaGreat.F
end

section
namespace Go.Proofs.YtkindoepnganmaaGreat.F
open Go.RowKit Go.Proofs.YtkindoepnganmaaGreatW.PrintWords Go.Proofs.YtkindoepnganmaaGreatW.PrintLast Go.Proofs.YtkindoepnganmaaGreatW.PrintMore
set_option linter.unusedVariables false
set_option linter.unusedSimpArgs false
attribute [local go_sem] max2_int min2_int max_two min_two
def impl_DoAct.T18 : Bool × List (List Nat × List Nat) := (true, [([], []), ([], []), ([1], [1]), ([2], [2]), ([], []), ([], []), ([5], [5]), ([3, 4, 6, 3], [3, 4, 6]), ([0, 7], [0, 7]), ([8, 7, 0, 1, 2, 3, 4, 5, 6, 7, 8], [0, 8])])
def impl_DoAct.B18 : List Nat := [0, 0, 2, 6, 0, 0, 32, 126, 255, 511]
theorem impl_DoAct.tab18 : rtab .any (opsOf Tryz.f32 18) = impl_DoAct.T18 := by kernel_rfl
theorem impl_DoAct.bits18 : waitsOk impl_DoAct.T18.2 impl_DoAct.B18 = true := by kernel_rfl
set_option maxHeartbeats 8000000 in
set_option maxRecDepth 100000 in
theorem impl_DoAct.calls (k : Nat) (a0_0 : Int) (a0_1 : Int) (a0_2 : Int) (A0_3 : Option Addr) (c0_3 : Nat) (l0_3 : List Int) (a0_4 : Int) (a0_5 : Int) (A0_6 : Option Addr) (c0_6 : Nat) (l0_6 : List Int) (a0_7 : Int) (a1_0 : Int) (a1_1 : Int) (a1_2 : Int) (r1 : Int) (r2 : Int) (r3 : Int) (r4 : List Int) (r5 : Int) (r6 : Int) (r7 : List Int) (r8 : Int) (r9 : Int) (w : World) (hr0_3 : Kd.C (Kd.int .i64) w A0_3 l0_3.length l0_3) (hc0_3 : l0_3.length ≤ c0_3) (hr0_6 : Kd.C (Kd.int .i64) w A0_6 l0_6.length l0_6) (hc0_6 : l0_6.length ≤ c0_6) (h : impl_DoAct.f k a0_0 a0_1 a0_2 l0_3 a0_4 a0_5 l0_6 a0_7 a1_0 a1_1 a1_2 = some (r1, r2, r3, r4, r5, r6, r7, r8, r9)) :
  Calls Tryz.prog 32 #[.agg #[.int .i64 a0_0, .int .i64 a0_1, .int .i64 a0_2, .slice A0_3 l0_3.length c0_3, .int .i64 a0_4, .int .i64 a0_5, .slice A0_6 l0_6.length c0_6, .int .i64 a0_7], .agg #[.int .i64 a1_0, .int .i64 a1_1, .int .i64 a1_2]] w fun e w' => ∃ v3_ v6_ : Value, e = .returned (.tuple #[.agg #[.int .i64 r1, .int .i64 r2, .int .i64 r3, v3_, .int .i64 r5, .int .i64 r6, v6_, .int .i64 r8], .int .i64 r9]) ∧ Kd.R (Kd.int .i64) 3 w' w.heap.size (fun k_ => some k_ ≠ (v6_ : Value).ownBlock) v3_ r4 ∧ Kd.R (Kd.int .i64) 3 w' w.heap.size (fun k_ => some k_ ≠ (v3_ : Value).ownBlock) v6_ r7 ∧ Below w.heap.size w w' := by
 have hu38 := Tryz.underlying38
 have hu53 := Tryz.underlying53
 have hu36 := Tryz.underlying36
 have HR0_3 := aK hr0_3
 have HC0_3 := aK hc0_3
 clear hr0_3 hc0_3
 have HR0_6 := aK hr0_6
 have HC0_6 := aK hc0_6
 clear hr0_6 hc0_6
 have HB := aK (Below.refl w.heap.size w)
 have H : ((impl_GardenOk.f k a0_0 a0_1 a0_2 l0_3 a0_4 a0_5 l0_6 a0_7).bind fun t1640 => (if t1640 = true then ((impl_ActOk.f k a1_0 a1_1 a1_2).bind fun t1641 => (impl_DoAct.j0 k (!t1641) a0_0 a0_1 a0_2 l0_3 a0_4 a0_5 l0_6 a0_7 a1_0 a1_1 a1_2)) else (impl_DoAct.j0 k true a0_0 a0_1 a0_2 l0_3 a0_4 a0_5 l0_6 a0_7 a1_0 a1_1 a1_2))) = some (r1, r2, r3, r4, r5, r6, r7, r8, r9) := h
 clear h
 have HC3 := aK H
 clear H
 go_enter Tryz.func32, Tryz.ntmps32
 go_upto_region 1 with (first | ((with_reducible refine gate_dst (N := 2) rfl ?_); refine box_event ?hg (N := 2) ?hd (cs := #[.int .i64 a0_0, .int .i64 a0_1, .int .i64 a0_2, .slice A0_3 l0_3.length c0_3, .int .i64 a0_4, .int .i64 a0_5, .slice A0_6 l0_6.length c0_6, .int .i64 a0_7]) (t := 38) ?hr ?_; (case hd => rfl); (case hg => rfl); (case hr => first | (go_simp; done) | (go_simp; rfl)); intro gb1637 hg w4 hbox hb; have BK1637 := aK (hbox); have GW1637 := aK ((by rw [hg]; exact (bSz (zH0 HB)) : w.heap.size ≤ gb1637)); replace HB := aK (bSp (zH0 HB) hb); have GE1637 := GW1637; clear hb hbox hg) | ((with_reducible refine gate_dst (N := 3) rfl ?_); refine box_event ?hg (N := 3) ?hd (cs := #[.int .i64 a1_0, .int .i64 a1_1, .int .i64 a1_2]) (t := 53) ?hr ?_; (case hd => rfl); (case hg => rfl); (case hr => first | (go_simp; done) | (go_simp; rfl)); intro gb1638 hg w5 hbox hb; have BK1638 := aK (hbox); have GW1638 := aK ((by rw [hg]; exact (bSz (zH1 HB GE1637)) : w.heap.size ≤ gb1638)); replace HB := aK (bSp (zH1 HB GE1637) hb); have GE1638 := GW1638; have NB1637_1638 := nbl BK1637 hg (by intro z_; (with_reducible repeat (first | refine blk_drewN ?_ _ | refine kD ?_ | refine kA ?_ _)); exact z_); replace BK1637 := zB BK1637 hb; have NB1638_1637 := nbs NB1637_1638; clear hb hbox hg) | ((with_reducible refine gate_dst (N := 4) rfl ?_); refine box_event ?hg (N := 4) ?hd (cs := #[.int .i64 0, .int .i64 0, .int .i64 0, .slice none 0 0, .int .i64 0, .int .i64 0, .slice none 0 0, .int .i64 0]) (t := 38) ?hr ?_; (case hd => rfl); (case hg => rfl); (case hr => first | (go_simp; done) | (go_simp; rfl)); intro gb1639 hg w6 hbox hb; have BK1639 := aK (hbox); have GW1639 := aK ((by rw [hg]; exact (bSz (zH2 HB GE1637 GE1638)) : w.heap.size ≤ gb1639)); replace HB := aK (bSp (zH2 HB GE1637 GE1638) hb); have GE1639 := GW1639; have NB1637_1639 := nbl BK1637 hg (by intro z_; (with_reducible repeat (first | refine blk_drewN ?_ _ | refine kD ?_ | refine kA ?_ _)); exact z_); replace BK1637 := zB BK1637 hb; have NB1639_1637 := nbs NB1637_1639; have NB1638_1639 := nbl BK1638 hg (by intro z_; (with_reducible repeat (first | refine blk_drewN ?_ _ | refine kD ?_ | refine kA ?_ _)); exact z_); replace BK1638 := zB BK1638 hb; have NB1639_1638 := nbs NB1638_1639; clear hb hbox hg))
 (try simp only [Act.put, sTA, sZ, sS])
 go_cut [16] (fun v16 wc => ∃ (kq : Nat) (x16_2 : Bool), v16 = .bool x16_2 ∧ Aside0 (impl_DoAct.j0 kq x16_2 a0_0 a0_1 a0_2 l0_3 a0_4 a0_5 l0_6 a0_7 a1_0 a1_1 a1_2 = some (r1, r2, r3, r4, r5, r6, r7, r8, r9)) ∧ Aside0 (kq ≤ k) ∧ Aside0 (wc.heap[gb1637]? = some (.cells #[.int .i64 a0_0, .int .i64 a0_1, .int .i64 a0_2, (.slice A0_3 l0_3.length c0_3), .int .i64 a0_4, .int .i64 a0_5, (.slice A0_6 l0_6.length c0_6), .int .i64 a0_7] 38 (0, 0))) ∧ Aside0 (wc.heap[gb1638]? = some (.cells #[.int .i64 a1_0, .int .i64 a1_1, .int .i64 a1_2] 53 (0, 0))) ∧ Aside0 (wc.heap[gb1639]? = some (.cells #[.int .i64 0, .int .i64 0, .int .i64 0, (.slice none 0 0), .int .i64 0, .int .i64 0, (.slice none 0 0), .int .i64 0] 38 (0, 0))) ∧ Aside0 (Below w.heap.size w wc))
 case first =>
  have H := HC3.out
  clear HC3
  replace H := Option.bind_eq_some_iff.mp H
  obtain ⟨t1640, A70, H⟩ := H
  replace H : (if t1640 = true then ((impl_ActOk.f k a1_0 a1_1 a1_2).bind fun t1641 => (impl_DoAct.j0 k (!t1641) a0_0 a0_1 a0_2 l0_3 a0_4 a0_5 l0_6 a0_7 a1_0 a1_1 a1_2)) else (impl_DoAct.j0 k true a0_0 a0_1 a0_2 l0_3 a0_4 a0_5 l0_6 a0_7 a1_0 a1_1 a1_2)) = some (r1, r2, r3, r4, r5, r6, r7, r8, r9) := H
  have A7 := aK A70
  clear A70
  by_cases c8 : t1640 = true
  ·subst c8
   have H1 : ((impl_ActOk.f k a1_0 a1_1 a1_2).bind fun t1641 => (impl_DoAct.j0 k (!t1641) a0_0 a0_1 a0_2 l0_3 a0_4 a0_5 l0_6 a0_7 a1_0 a1_1 a1_2)) = some (r1, r2, r3, r4, r5, r6, r7, r8, r9) := by rw [if_pos rfl] at H; exact H
   clear H
   have H := H1
   clear H1
   replace H := Option.bind_eq_some_iff.mp H
   obtain ⟨t1641, A90, H⟩ := H
   replace H : (impl_DoAct.j0 k (!t1641) a0_0 a0_1 a0_2 l0_3 a0_4 a0_5 l0_6 a0_7 a1_0 a1_1 a1_2) = some (r1, r2, r3, r4, r5, r6, r7, r8, r9) := H
   have A9 := aK A90
   clear A90
   have H' := aK H
   clear H
   have hnb10 := NB1637_1638.out
   have hnc10 := NB1638_1637.out
   have hnb11 := NB1637_1639.out
   have hnc11 := NB1639_1637.out
   obtain ⟨hcz12_0, hcz12_1, hcz12_2, hcz12_3, hcz12_4, hcz12_5, hcz12_6, hcz12_7, hfz12_0, hfz12_1, hfz12_2, hfz12_3, hfz12_4, hfz12_5, hfz12_6, hfz12_7⟩ := cl8 BK1637.out
   go_wp2_with (first | ((with_reducible refine gate_callee (f := 48) rfl ?_); refine goesL_ (some 10) rfl rfl Tryz.func48 (by kernel_rfl) rfl #[.agg #[.int .i64 a0_0, .int .i64 a0_1, .int .i64 a0_2, .slice A0_3 l0_3.length c0_3, .int .i64 a0_4, .int .i64 a0_5, .slice A0_6 l0_6.length c0_6, .int .i64 a0_7]] rfl zD ?_; (with_reducible refine (impl_GardenOk.calls k a0_0 a0_1 a0_2 _ _ l0_3 a0_4 a0_5 _ _ l0_6 a0_7 true _ ?side1 ?side2 ?side3 ?side4 A7.out).mono ?_); (case side1 => exact zC (Kd.C_below HR0_3.out HB.out)); (case side2 => exact HC0_3.out); (case side3 => exact zC (Kd.C_below HR0_6.out HB.out)); (case side4 => exact HC0_6.out); rintro e w13 ⟨rfl, hb⟩; refine ⟨_, rfl, ?_⟩; replace BK1637 := zB BK1637 hb; replace BK1638 := zB BK1638 hb; replace BK1639 := zB BK1639 hb; replace HB := aK (bSp (zH3 HB GE1637 GE1638 GE1639) hb); (try clear hb); (try clear hb2); (try clear hk); (try clear hi); have hnb14 := NB1638_1639.out; have hnc14 := NB1639_1638.out; obtain ⟨hcz15_0, hcz15_1, hcz15_2, hfz15_0, hfz15_1, hfz15_2⟩ := cl3 BK1638.out) | (go_at_call 86; (with_reducible refine (impl_ActOk.calls k a1_0 a1_1 a1_2 t1641 _ A9.out).mono ?_); rintro e w16 ⟨rfl, hb⟩; replace BK1637 := zB BK1637 hb; replace BK1638 := zB BK1638 hb; replace BK1639 := zB BK1639 hb; replace HB := aK (bSp (zH3 HB GE1637 GE1638 GE1639) hb); (try clear hb); (try clear hb2); (try clear hk); (try clear hi)))
   go_meet
   case rel => exact ⟨_, (!t1641), (by first | rfl | (simp; done) | (simp [*]; done)), H', ⟨by first | omega | exact Nat.le_refl _⟩, ⟨zK BK1637⟩, ⟨zK BK1638⟩, ⟨zK BK1639⟩, ⟨zH3 HB GE1637 GE1638 GE1639⟩⟩
  ·replace c8 := Bool.eq_false_iff.mpr c8
   subst c8
   have H1 : (impl_DoAct.j0 k true a0_0 a0_1 a0_2 l0_3 a0_4 a0_5 l0_6 a0_7 a1_0 a1_1 a1_2) = some (r1, r2, r3, r4, r5, r6, r7, r8, r9) := by rw [if_neg (show ¬ (false = true) by decide)] at H; exact H
   clear H
   have H := H1
   clear H1
   have H' := aK H
   clear H
   have hnb17 := NB1637_1638.out
   have hnc17 := NB1638_1637.out
   have hnb18 := NB1637_1639.out
   have hnc18 := NB1639_1637.out
   obtain ⟨hcz19_0, hcz19_1, hcz19_2, hcz19_3, hcz19_4, hcz19_5, hcz19_6, hcz19_7, hfz19_0, hfz19_1, hfz19_2, hfz19_3, hfz19_4, hfz19_5, hfz19_6, hfz19_7⟩ := cl8 BK1637.out
   go_wp2_with (first | ((with_reducible refine gate_callee (f := 48) rfl ?_); refine goesL_ (some 10) rfl rfl Tryz.func48 (by kernel_rfl) rfl #[.agg #[.int .i64 a0_0, .int .i64 a0_1, .int .i64 a0_2, .slice A0_3 l0_3.length c0_3, .int .i64 a0_4, .int .i64 a0_5, .slice A0_6 l0_6.length c0_6, .int .i64 a0_7]] rfl zD ?_; (with_reducible refine (impl_GardenOk.calls k a0_0 a0_1 a0_2 _ _ l0_3 a0_4 a0_5 _ _ l0_6 a0_7 false _ ?side1 ?side2 ?side3 ?side4 A7.out).mono ?_); (case side1 => exact zC (Kd.C_below HR0_3.out HB.out)); (case side2 => exact HC0_3.out); (case side3 => exact zC (Kd.C_below HR0_6.out HB.out)); (case side4 => exact HC0_6.out); rintro e w20 ⟨rfl, hb⟩; refine ⟨_, rfl, ?_⟩; replace BK1637 := zB BK1637 hb; replace BK1638 := zB BK1638 hb; replace BK1639 := zB BK1639 hb; replace HB := aK (bSp (zH3 HB GE1637 GE1638 GE1639) hb); (try clear hb); (try clear hb2); (try clear hk); (try clear hi)))
   go_meet
   case rel => exact ⟨_, (true), (by first | rfl | (simp; done) | (simp [*]; done)), H', ⟨by first | omega | exact Nat.le_refl _⟩, ⟨zK BK1637⟩, ⟨zK BK1638⟩, ⟨zK BK1639⟩, ⟨zH3 HB GE1637 GE1638 GE1639⟩⟩
 case rest =>
  clear HC3
  try clear c1
  try clear p2
  try clear c3
  try clear c4
  try clear c8
  try clear c10
  try clear c11
  try clear c14
  try clear c17
  try clear c18
  try clear hcz12_0
  try clear hcz12_1
  try clear hcz12_2
  try clear hcz12_3
  try clear hcz12_4
  try clear hcz12_5
  try clear hcz12_6
  try clear hcz12_7
  try clear hcz15_0
  try clear hcz15_1
  try clear hcz15_2
  try clear hcz19_0
  try clear hcz19_1
  try clear hcz19_2
  try clear hcz19_3
  try clear hcz19_4
  try clear hcz19_5
  try clear hcz19_6
  try clear hcz19_7
  try clear hfz12_0
  try clear hfz12_1
  try clear hfz12_2
  try clear hfz12_3
  try clear hfz12_4
  try clear hfz12_5
  try clear hfz12_6
  try clear hfz12_7
  try clear hfz15_0
  try clear hfz15_1
  try clear hfz15_2
  try clear hfz19_0
  try clear hfz19_1
  try clear hfz19_2
  try clear hfz19_3
  try clear hfz19_4
  try clear hfz19_5
  try clear hfz19_6
  try clear hfz19_7
  obtain ⟨kq, x16_2, rfl, HA, HJ2, BK1637, BK1638, BK1639, HB⟩ := hcut
  cases kq with
  | zero => exact absurd HA.out (by simp [impl_DoAct.j0])
  | succ kj2 =>
   have H := HA.out
   clear HA
   simp only [impl_DoAct.j0] at H
   by_cases c21 : x16_2 = true
   ·subst c21
    have H1 : ((impl_copyGarden.f a0_0 a0_1 a0_2 l0_3 a0_4 a0_5 l0_6 a0_7).bind fun bt1642 => (some (bt1642.1, bt1642.2.1, bt1642.2.2.1, bt1642.2.2.2.1, bt1642.2.2.2.2.1, bt1642.2.2.2.2.2.1, bt1642.2.2.2.2.2.2.1, bt1642.2.2.2.2.2.2.2, (-1)))) = some (r1, r2, r3, r4, r5, r6, r7, r8, r9) := by rw [if_pos rfl] at H; exact H
    clear H
    have H := H1
    clear H1
    replace H := Option.bind_eq_some_iff.mp H
    obtain ⟨⟨t1642, t1643, t1644, t1645, t1648, t1649, t1650, t1653⟩, A220, H⟩ := H
    replace H : (some (t1642, t1643, t1644, t1645, t1648, t1649, t1650, t1653, (-1))) = some (r1, r2, r3, r4, r5, r6, r7, r8, r9) := H
    have A22 := aK A220
    clear A220
    simp only [Option.some.injEq, Prod.mk.injEq] at H
    obtain ⟨rfl, rfl, rfl, rfl, rfl, rfl, rfl, rfl, rfl⟩ := H
    have hnb23 := NB1637_1638.out
    have hnc23 := NB1638_1637.out
    have hnb24 := NB1637_1639.out
    have hnc24 := NB1639_1637.out
    obtain ⟨hcz25_0, hcz25_1, hcz25_2, hcz25_3, hcz25_4, hcz25_5, hcz25_6, hcz25_7, hfz25_0, hfz25_1, hfz25_2, hfz25_3, hfz25_4, hfz25_5, hfz25_6, hfz25_7⟩ := cl8 BK1637.out
    go_wp2_with (first | ((with_reducible refine gate_callee (f := 64) rfl ?_); refine goesL_ (some 18) rfl rfl Tryz.func64 (by kernel_rfl) rfl #[.agg #[.int .i64 a0_0, .int .i64 a0_1, .int .i64 a0_2, .slice A0_3 l0_3.length c0_3, .int .i64 a0_4, .int .i64 a0_5, .slice A0_6 l0_6.length c0_6, .int .i64 a0_7]] rfl zD ?_; (with_reducible refine (impl_copyGarden.calls a0_0 a0_1 a0_2 _ _ l0_3 a0_4 a0_5 _ _ l0_6 a0_7 t1642 t1643 t1644 t1645 t1648 t1649 t1650 t1653 _ ?side1 ?side2 ?side3 ?side4 A22.out).mono ?_); (case side1 => exact zC (Kd.C_below HR0_3.out HB.out)); (case side2 => exact HC0_3.out); (case side3 => exact zC (Kd.C_below HR0_6.out HB.out)); (case side4 => exact HC0_6.out); rintro e w26 ⟨v1646, v1651, rfl, ho0, ho1, hb⟩; refine ⟨_, rfl, ?_⟩; have HO1647 := aK (Kd.R_lower ho0 (bSz (zH3 HB GE1637 GE1638 GE1639))); have HO1652 := aK (Kd.R_lower ho1 (bSz (zH3 HB GE1637 GE1638 GE1639))); replace BK1637 := zB BK1637 hb; replace BK1638 := zB BK1638 hb; replace BK1639 := zB BK1639 hb; replace HB := aK (bSp (zH3 HB GE1637 GE1638 GE1639) hb); (try clear hb); (try clear hb2); (try clear hk); (try clear hi); (try clear ho0); (try clear ho1); have hnb27 := NB1639_1638.out; have hnc27 := NB1638_1639.out; obtain ⟨hcz28_0, hcz28_1, hcz28_2, hcz28_3, hcz28_4, hcz28_5, hcz28_6, hcz28_7, hfz28_0, hfz28_1, hfz28_2, hfz28_3, hfz28_4, hfz28_5, hfz28_6, hfz28_7⟩ := cl8 BK1639.out; obtain ⟨Ao29, co29, eo29⟩ := Kd.R_slice HO1647.out; subst eo29; obtain ⟨Ao30, co30, eo30⟩ := Kd.R_slice HO1652.out; subst eo30))
    refine bodyPost_ret (results_ct rfl _ _ gb1639 38 #[.int .i64 t1642, .int .i64 t1643, .int .i64 t1644, .slice Ao29 t1645.length co29, .int .i64 t1648, .int .i64 t1649, .slice Ao30 t1650.length co30, .int .i64 t1653] (0, 0) _ rfl (by (with_reducible repeat (first | refine blk_drewN ?_ _ | refine kD ?_ | refine kA ?_ _)); refine blk_put (cs := #[.int .i64 t1642, .int .i64 t1643, .int .i64 t1644, .slice Ao29 t1645.length co29, .int .i64 t1648, .int .i64 t1649, .slice Ao30 t1650.length co30, .int .i64 0]) ?_ 7 _ rfl; (with_reducible repeat (first | refine blk_drewN ?_ _ | refine kD ?_ | refine kA ?_ _)); refine blk_put (cs := #[.int .i64 t1642, .int .i64 t1643, .int .i64 t1644, .slice Ao29 t1645.length co29, .int .i64 t1648, .int .i64 t1649, .slice none 0 0, .int .i64 0]) ?_ 6 _ rfl; (with_reducible repeat (first | refine blk_drewN ?_ _ | refine kD ?_ | refine kA ?_ _)); refine blk_put (cs := #[.int .i64 t1642, .int .i64 t1643, .int .i64 t1644, .slice Ao29 t1645.length co29, .int .i64 t1648, .int .i64 0, .slice none 0 0, .int .i64 0]) ?_ 5 _ rfl; (with_reducible repeat (first | refine blk_drewN ?_ _ | refine kD ?_ | refine kA ?_ _)); refine blk_put (cs := #[.int .i64 t1642, .int .i64 t1643, .int .i64 t1644, .slice Ao29 t1645.length co29, .int .i64 0, .int .i64 0, .slice none 0 0, .int .i64 0]) ?_ 4 _ rfl; (with_reducible repeat (first | refine blk_drewN ?_ _ | refine kD ?_ | refine kA ?_ _)); refine blk_put (cs := #[.int .i64 t1642, .int .i64 t1643, .int .i64 t1644, .slice none 0 0, .int .i64 0, .int .i64 0, .slice none 0 0, .int .i64 0]) ?_ 3 _ rfl; (with_reducible repeat (first | refine blk_drewN ?_ _ | refine kD ?_ | refine kA ?_ _)); refine blk_put (cs := #[.int .i64 t1642, .int .i64 t1643, .int .i64 0, .slice none 0 0, .int .i64 0, .int .i64 0, .slice none 0 0, .int .i64 0]) ?_ 2 _ rfl; (with_reducible repeat (first | refine blk_drewN ?_ _ | refine kD ?_ | refine kA ?_ _)); refine blk_put (cs := #[.int .i64 t1642, .int .i64 0, .int .i64 0, .slice none 0 0, .int .i64 0, .int .i64 0, .slice none 0 0, .int .i64 0]) ?_ 1 _ rfl; (with_reducible repeat (first | refine blk_drewN ?_ _ | refine kD ?_ | refine kA ?_ _)); refine blk_put (cs := #[.int .i64 0, .int .i64 0, .int .i64 0, .slice none 0 0, .int .i64 0, .int .i64 0, .slice none 0 0, .int .i64 0]) ?_ 0 _ rfl; (with_reducible repeat (first | refine blk_drewN ?_ _ | refine kD ?_ | refine kA ?_ _)); exact BK1639.out) Tryz.underlying38 rfl (by kernel_rfl)) rfl ?_
    exact ⟨_, _, by first | rfl | (simp [errW_none, errW_some] <;> rfl) | (simp [*, errW_none, errW_some] <;> rfl), by (with_reducible repeat (first | apply Kd.R_alloc | apply Kd.R_drewN | apply Kd.R_drew)); exact Kd.R_mono (zT8 HO1647 BK1639 (.int .i64 t1642) (.int .i64 t1643) (.int .i64 t1644) (.slice Ao29 t1645.length co29) (.int .i64 t1648) (.int .i64 t1649) (.slice Ao30 t1650.length co30) (.int .i64 t1653)) (fun _ hk => hk.1), by (with_reducible repeat (first | apply Kd.R_alloc | apply Kd.R_drewN | apply Kd.R_drew)); exact Kd.R_mono (zT8 HO1652 BK1639 (.int .i64 t1642) (.int .i64 t1643) (.int .i64 t1644) (.slice Ao29 t1645.length co29) (.int .i64 t1648) (.int .i64 t1649) (.slice Ao30 t1650.length co30) (.int .i64 t1653)) (fun _ hk => hk.1), by repeat (first | (with_reducible first | exact HB.out | apply bAl | apply bDN | apply bD1 | refine bSt ?_ GE1637.out | refine bSt ?_ GE1638.out | refine bSt ?_ GE1639.out) | exact HB.out)⟩
   ·replace c21 := Bool.eq_false_iff.mpr c21
    subst c21
    have H1 : (if a1_0 = 1 then ((impl_NextDay.f kj2 a0_0 a0_1 a0_2 l0_3 a0_4 a0_5 l0_6 a0_7 a1_1).bind fun bt1654 => ((impl_done.f bt1654.1 bt1654.2.1 bt1654.2.2.1 bt1654.2.2.2.1 bt1654.2.2.2.2.1 bt1654.2.2.2.2.2.1 bt1654.2.2.2.2.2.2.1 bt1654.2.2.2.2.2.2.2.1 bt1654.2.2.2.2.2.2.2.2).bind fun bt1667 => (some (bt1667.1, bt1667.2.1, bt1667.2.2.1, bt1667.2.2.2.1, bt1667.2.2.2.2.1, bt1667.2.2.2.2.2.1, bt1667.2.2.2.2.2.2.1, bt1667.2.2.2.2.2.2.2.1, bt1667.2.2.2.2.2.2.2.2)))) else (if a1_0 = 2 then ((impl_Enter.f kj2 a0_0 a0_1 a0_2 l0_3 a0_4 a0_5 l0_6 a0_7).bind fun bt1680 => ((impl_done.f bt1680.1 bt1680.2.1 bt1680.2.2.1 bt1680.2.2.2.1 bt1680.2.2.2.2.1 bt1680.2.2.2.2.2.1 bt1680.2.2.2.2.2.2.1 bt1680.2.2.2.2.2.2.2.1 bt1680.2.2.2.2.2.2.2.2).bind fun bt1693 => (some (bt1693.1, bt1693.2.1, bt1693.2.2.1, bt1693.2.2.2.1, bt1693.2.2.2.2.1, bt1693.2.2.2.2.2.1, bt1693.2.2.2.2.2.2.1, bt1693.2.2.2.2.2.2.2.1, bt1693.2.2.2.2.2.2.2.2)))) else (if a1_0 = 3 then ((impl_WalkIn.f kj2 a0_0 a0_1 a0_2 l0_3 a0_4 a0_5 l0_6 a0_7 a1_1 a1_2).bind fun bt1706 => ((impl_done.f bt1706.1 bt1706.2.1 bt1706.2.2.1 bt1706.2.2.2.1 bt1706.2.2.2.2.1 bt1706.2.2.2.2.2.1 bt1706.2.2.2.2.2.2.1 bt1706.2.2.2.2.2.2.2.1 bt1706.2.2.2.2.2.2.2.2).bind fun bt1719 => (some (bt1719.1, bt1719.2.1, bt1719.2.2.1, bt1719.2.2.2.1, bt1719.2.2.2.2.1, bt1719.2.2.2.2.2.1, bt1719.2.2.2.2.2.2.1, bt1719.2.2.2.2.2.2.2.1, bt1719.2.2.2.2.2.2.2.2)))) else (if a1_0 = 4 then ((impl_Leave.f kj2 a0_0 a0_1 a0_2 l0_3 a0_4 a0_5 l0_6 a0_7).bind fun bt1732 => ((impl_done.f bt1732.1 bt1732.2.1 bt1732.2.2.1 bt1732.2.2.2.1 bt1732.2.2.2.2.1 bt1732.2.2.2.2.2.1 bt1732.2.2.2.2.2.2.1 bt1732.2.2.2.2.2.2.2.1 bt1732.2.2.2.2.2.2.2.2).bind fun bt1745 => (some (bt1745.1, bt1745.2.1, bt1745.2.2.1, bt1745.2.2.2.1, bt1745.2.2.2.2.1, bt1745.2.2.2.2.2.1, bt1745.2.2.2.2.2.2.1, bt1745.2.2.2.2.2.2.2.1, bt1745.2.2.2.2.2.2.2.2)))) else (if a1_0 = 5 then ((impl_Guide.f kj2 a0_0 a0_1 a0_2 l0_3 a0_4 a0_5 l0_6 a0_7 a1_1).bind fun bt1758 => ((impl_done.f bt1758.1 bt1758.2.1 bt1758.2.2.1 bt1758.2.2.2.1 bt1758.2.2.2.2.1 bt1758.2.2.2.2.2.1 bt1758.2.2.2.2.2.2.1 bt1758.2.2.2.2.2.2.2.1 bt1758.2.2.2.2.2.2.2.2).bind fun bt1771 => (some (bt1771.1, bt1771.2.1, bt1771.2.2.1, bt1771.2.2.2.1, bt1771.2.2.2.2.1, bt1771.2.2.2.2.2.1, bt1771.2.2.2.2.2.2.1, bt1771.2.2.2.2.2.2.2.1, bt1771.2.2.2.2.2.2.2.2)))) else (impl_DoAct.l0 kj2 0 l0_6 (l0_6.length : Int) 0 a0_0 a0_1 a0_2 l0_3 a0_4 a0_5 l0_6 a0_7)))))) = some (r1, r2, r3, r4, r5, r6, r7, r8, r9) := by rw [if_neg (show ¬ (false = true) by decide)] at H; exact H
    clear H
    have H := H1
    clear H1
    by_cases c31 : a1_0 = 1
    ·rw [if_pos c31] at H
     have c31b0 : (a1_0 == 1) = true := beq_iff_eq.mpr c31
     have c31b1 : (a1_0 != 1) = false := bne_eq_false_iff_eq.mpr c31
     clear c31
     replace H := Option.bind_eq_some_iff.mp H
     obtain ⟨⟨t1654, t1655, t1656, t1657, t1660, t1661, t1662, t1665, t1666⟩, A320, H⟩ := H
     replace H : ((impl_done.f t1654 t1655 t1656 t1657 t1660 t1661 t1662 t1665 t1666).bind fun bt1667 => (some (bt1667.1, bt1667.2.1, bt1667.2.2.1, bt1667.2.2.2.1, bt1667.2.2.2.2.1, bt1667.2.2.2.2.2.1, bt1667.2.2.2.2.2.2.1, bt1667.2.2.2.2.2.2.2.1, bt1667.2.2.2.2.2.2.2.2))) = some (r1, r2, r3, r4, r5, r6, r7, r8, r9) := H
     have A32 := aK A320
     clear A320
     replace H := Option.bind_eq_some_iff.mp H
     obtain ⟨⟨t1667, t1668, t1669, t1670, t1673, t1674, t1675, t1678, t1679⟩, A330, H⟩ := H
     replace H : (some (t1667, t1668, t1669, t1670, t1673, t1674, t1675, t1678, t1679)) = some (r1, r2, r3, r4, r5, r6, r7, r8, r9) := H
     have A33 := aK A330
     clear A330
     simp only [Option.some.injEq, Prod.mk.injEq] at H
     obtain ⟨rfl, rfl, rfl, rfl, rfl, rfl, rfl, rfl, rfl⟩ := H
     have hnb34 := NB1638_1637.out
     have hnc34 := NB1637_1638.out
     have hnb35 := NB1638_1639.out
     have hnc35 := NB1639_1638.out
     obtain ⟨hcz36_0, hcz36_1, hcz36_2, hfz36_0, hfz36_1, hfz36_2⟩ := cl3 BK1638.out
     have hnb37 := NB1637_1639.out
     have hnc37 := NB1639_1637.out
     obtain ⟨hcz38_0, hcz38_1, hcz38_2, hcz38_3, hcz38_4, hcz38_5, hcz38_6, hcz38_7, hfz38_0, hfz38_1, hfz38_2, hfz38_3, hfz38_4, hfz38_5, hfz38_6, hfz38_7⟩ := cl8 BK1637.out
     go_wp2_with (first | ((with_reducible refine gate_callee (f := 27) rfl ?_); refine goesL_ (some 26) rfl rfl Tryz.func27 (by kernel_rfl) rfl #[.agg #[.int .i64 a0_0, .int .i64 a0_1, .int .i64 a0_2, .slice A0_3 l0_3.length c0_3, .int .i64 a0_4, .int .i64 a0_5, .slice A0_6 l0_6.length c0_6, .int .i64 a0_7], .int .i64 a1_1] rfl zD ?_; (with_reducible refine (impl_NextDay.calls kj2 a0_0 a0_1 a0_2 _ _ l0_3 a0_4 a0_5 _ _ l0_6 a0_7 a1_1 t1654 t1655 t1656 t1657 t1660 t1661 t1662 t1665 t1666 _ ?side1 ?side2 ?side3 ?side4 A32.out).mono ?_); (case side1 => exact zC (Kd.C_below HR0_3.out HB.out)); (case side2 => exact HC0_3.out); (case side3 => exact zC (Kd.C_below HR0_6.out HB.out)); (case side4 => exact HC0_6.out); rintro e w39 ⟨v1658, v1663, rfl, ho0, ho1, hb⟩; refine ⟨_, rfl, ?_⟩; have HO1659 := aK (Kd.R_lower ho0 (bSz (zH3 HB GE1637 GE1638 GE1639))); have HO1664 := aK (Kd.R_lower ho1 (bSz (zH3 HB GE1637 GE1638 GE1639))); replace BK1637 := zB BK1637 hb; replace BK1638 := zB BK1638 hb; replace BK1639 := zB BK1639 hb; replace HB := aK (bSp (zH3 HB GE1637 GE1638 GE1639) hb); (try clear hb); (try clear hb2); (try clear hk); (try clear hi); (try clear ho0); (try clear ho1); obtain ⟨Ao40, co40, eo40⟩ := Kd.R_slice HO1659.out; subst eo40; obtain ⟨Ao41, co41, eo41⟩ := Kd.R_slice HO1664.out; subst eo41) | ((with_reducible refine gate_callee (f := 87) rfl ?_); refine goesL_ (some 29) rfl rfl Tryz.func87 (by kernel_rfl) rfl #[.agg #[.int .i64 t1654, .int .i64 t1655, .int .i64 t1656, .slice Ao40 t1657.length co40, .int .i64 t1660, .int .i64 t1661, .slice Ao41 t1662.length co41, .int .i64 t1665], .bool t1666] rfl zD ?_; (with_reducible refine (impl_done.calls t1654 t1655 t1656 (fun k_ => some k_ = (.slice Ao40 t1657.length co40 : Value).ownBlock) (.slice Ao40 t1657.length co40) t1657 t1660 t1661 (fun k_ => some k_ = (.slice Ao41 t1662.length co41 : Value).ownBlock) (.slice Ao41 t1662.length co41) t1662 t1665 t1666 t1667 t1668 t1669 t1670 t1673 t1674 t1675 t1678 t1679 w _ ?side1 ?side2 ?side3 ?side4 ?side5 A33.out).mono ?_); (case side1 => exact (zH3 HB GE1637 GE1638 GE1639)); (case side2 => exact Kd.R_tight rfl HO1659.out); (case side3 => exact fun k_ e_ => (HO1659.out.1 k_ e_.symm)); (case side4 => exact Kd.R_tight rfl HO1664.out); (case side5 => exact fun k_ e_ => (HO1664.out.1 k_ e_.symm)); rintro e w42 ⟨v1671, v1676, rfl, ho0, ho1, hb, hkp⟩; refine ⟨_, rfl, ?_⟩; have n0_ := aK (blk_kept (zK BK1637) hkp (fun hs_ => Or.elim hs_ (Kd.R_ne HO1659.out BK1637.out (by decide)) (Kd.R_ne HO1664.out BK1637.out (by decide)))); have n1_ := aK (blk_kept (zK BK1638) hkp (fun hs_ => Or.elim hs_ (Kd.R_ne HO1659.out BK1638.out (by decide)) (Kd.R_ne HO1664.out BK1638.out (by decide)))); have n2_ := aK (blk_kept (zK BK1639) hkp (fun hs_ => Or.elim hs_ (Kd.R_ne HO1659.out BK1639.out (by decide)) (Kd.R_ne HO1664.out BK1639.out (by decide)))); have n3_ := aK (Kd.R_mono (ok' := fun k_ => some k_ ≠ (v1676 : Value).ownBlock) ho0 (fun k_ hk_ => hk_.2)); have n4_ := aK (Kd.R_mono (ok' := fun k_ => some k_ ≠ (v1671 : Value).ownBlock) ho1 (fun k_ hk_ => hk_.2)); have n5_ := aK (hb); clear BK1637; clear BK1638; clear BK1639; clear HB; clear HO1659; clear HO1664; have BK1637 := n0_; have BK1638 := n1_; have BK1639 := n2_; have HO1672 := n3_; have HO1677 := n4_; have HB := n5_; clear n0_ n1_ n2_ n3_ n4_ n5_; (try clear hb); (try clear hkp); (try clear ho0); (try clear ho1); obtain ⟨hcz43_0, hcz43_1, hcz43_2, hcz43_3, hcz43_4, hcz43_5, hcz43_6, hcz43_7, hfz43_0, hfz43_1, hfz43_2, hfz43_3, hfz43_4, hfz43_5, hfz43_6, hfz43_7⟩ := cl8 BK1639.out; obtain ⟨Ao44, co44, eo44⟩ := Kd.R_slice HO1672.out; subst eo44; obtain ⟨Ao45, co45, eo45⟩ := Kd.R_slice HO1677.out; subst eo45))
     refine bodyPost_ret (results_ct rfl _ _ gb1639 38 #[.int .i64 t1667, .int .i64 t1668, .int .i64 t1669, .slice Ao44 t1670.length co44, .int .i64 t1673, .int .i64 t1674, .slice Ao45 t1675.length co45, .int .i64 t1678] (0, 0) _ rfl (by (with_reducible repeat (first | refine blk_drewN ?_ _ | refine kD ?_ | refine kA ?_ _)); refine blk_put (cs := #[.int .i64 t1667, .int .i64 t1668, .int .i64 t1669, .slice Ao44 t1670.length co44, .int .i64 t1673, .int .i64 t1674, .slice Ao45 t1675.length co45, .int .i64 0]) ?_ 7 _ rfl; (with_reducible repeat (first | refine blk_drewN ?_ _ | refine kD ?_ | refine kA ?_ _)); refine blk_put (cs := #[.int .i64 t1667, .int .i64 t1668, .int .i64 t1669, .slice Ao44 t1670.length co44, .int .i64 t1673, .int .i64 t1674, .slice none 0 0, .int .i64 0]) ?_ 6 _ rfl; (with_reducible repeat (first | refine blk_drewN ?_ _ | refine kD ?_ | refine kA ?_ _)); refine blk_put (cs := #[.int .i64 t1667, .int .i64 t1668, .int .i64 t1669, .slice Ao44 t1670.length co44, .int .i64 t1673, .int .i64 0, .slice none 0 0, .int .i64 0]) ?_ 5 _ rfl; (with_reducible repeat (first | refine blk_drewN ?_ _ | refine kD ?_ | refine kA ?_ _)); refine blk_put (cs := #[.int .i64 t1667, .int .i64 t1668, .int .i64 t1669, .slice Ao44 t1670.length co44, .int .i64 0, .int .i64 0, .slice none 0 0, .int .i64 0]) ?_ 4 _ rfl; (with_reducible repeat (first | refine blk_drewN ?_ _ | refine kD ?_ | refine kA ?_ _)); refine blk_put (cs := #[.int .i64 t1667, .int .i64 t1668, .int .i64 t1669, .slice none 0 0, .int .i64 0, .int .i64 0, .slice none 0 0, .int .i64 0]) ?_ 3 _ rfl; (with_reducible repeat (first | refine blk_drewN ?_ _ | refine kD ?_ | refine kA ?_ _)); refine blk_put (cs := #[.int .i64 t1667, .int .i64 t1668, .int .i64 0, .slice none 0 0, .int .i64 0, .int .i64 0, .slice none 0 0, .int .i64 0]) ?_ 2 _ rfl; (with_reducible repeat (first | refine blk_drewN ?_ _ | refine kD ?_ | refine kA ?_ _)); refine blk_put (cs := #[.int .i64 t1667, .int .i64 0, .int .i64 0, .slice none 0 0, .int .i64 0, .int .i64 0, .slice none 0 0, .int .i64 0]) ?_ 1 _ rfl; (with_reducible repeat (first | refine blk_drewN ?_ _ | refine kD ?_ | refine kA ?_ _)); refine blk_put (cs := #[.int .i64 0, .int .i64 0, .int .i64 0, .slice none 0 0, .int .i64 0, .int .i64 0, .slice none 0 0, .int .i64 0]) ?_ 0 _ rfl; (with_reducible repeat (first | refine blk_drewN ?_ _ | refine kD ?_ | refine kA ?_ _)); exact BK1639.out) Tryz.underlying38 rfl (by kernel_rfl)) rfl ?_
     exact ⟨_, _, by first | rfl | (simp [errW_none, errW_some] <;> rfl) | (simp [*, errW_none, errW_some] <;> rfl), by (with_reducible repeat (first | apply Kd.R_alloc | apply Kd.R_drewN | apply Kd.R_drew)); exact Kd.R_mono (zT8 HO1672 BK1639 (.int .i64 t1667) (.int .i64 t1668) (.int .i64 t1669) (.slice Ao44 t1670.length co44) (.int .i64 t1673) (.int .i64 t1674) (.slice Ao45 t1675.length co45) (.int .i64 t1678)) (fun _ hk => hk.1), by (with_reducible repeat (first | apply Kd.R_alloc | apply Kd.R_drewN | apply Kd.R_drew)); exact Kd.R_mono (zT8 HO1677 BK1639 (.int .i64 t1667) (.int .i64 t1668) (.int .i64 t1669) (.slice Ao44 t1670.length co44) (.int .i64 t1673) (.int .i64 t1674) (.slice Ao45 t1675.length co45) (.int .i64 t1678)) (fun _ hk => hk.1), by repeat (first | (with_reducible first | exact HB.out | apply bAl | apply bDN | apply bD1 | refine bSt ?_ GE1637.out | refine bSt ?_ GE1638.out | refine bSt ?_ GE1639.out) | exact HB.out)⟩
    ·rw [if_neg c31] at H
     have c31b0 : (a1_0 == 1) = false := beq_eq_false_iff_ne.mpr c31
     have c31b1 : (a1_0 != 1) = true := bne_iff_ne.mpr c31
     by_cases c46 : a1_0 = 2
     ·rw [if_pos c46] at H
      have c46b0 : (a1_0 == 2) = true := beq_iff_eq.mpr c46
      have c46b1 : (a1_0 != 2) = false := bne_eq_false_iff_eq.mpr c46
      clear c46
      replace H := Option.bind_eq_some_iff.mp H
      obtain ⟨⟨t1680, t1681, t1682, t1683, t1686, t1687, t1688, t1691, t1692⟩, A470, H⟩ := H
      replace H : ((impl_done.f t1680 t1681 t1682 t1683 t1686 t1687 t1688 t1691 t1692).bind fun bt1693 => (some (bt1693.1, bt1693.2.1, bt1693.2.2.1, bt1693.2.2.2.1, bt1693.2.2.2.2.1, bt1693.2.2.2.2.2.1, bt1693.2.2.2.2.2.2.1, bt1693.2.2.2.2.2.2.2.1, bt1693.2.2.2.2.2.2.2.2))) = some (r1, r2, r3, r4, r5, r6, r7, r8, r9) := H
      have A47 := aK A470
      clear A470
      replace H := Option.bind_eq_some_iff.mp H
      obtain ⟨⟨t1693, t1694, t1695, t1696, t1699, t1700, t1701, t1704, t1705⟩, A480, H⟩ := H
      replace H : (some (t1693, t1694, t1695, t1696, t1699, t1700, t1701, t1704, t1705)) = some (r1, r2, r3, r4, r5, r6, r7, r8, r9) := H
      have A48 := aK A480
      clear A480
      simp only [Option.some.injEq, Prod.mk.injEq] at H
      obtain ⟨rfl, rfl, rfl, rfl, rfl, rfl, rfl, rfl, rfl⟩ := H
      have hnb49 := NB1638_1637.out
      have hnc49 := NB1637_1638.out
      have hnb50 := NB1638_1639.out
      have hnc50 := NB1639_1638.out
      obtain ⟨hcz51_0, hcz51_1, hcz51_2, hfz51_0, hfz51_1, hfz51_2⟩ := cl3 BK1638.out
      have hnb52 := NB1637_1639.out
      have hnc52 := NB1639_1637.out
      obtain ⟨hcz53_0, hcz53_1, hcz53_2, hcz53_3, hcz53_4, hcz53_5, hcz53_6, hcz53_7, hfz53_0, hfz53_1, hfz53_2, hfz53_3, hfz53_4, hfz53_5, hfz53_6, hfz53_7⟩ := cl8 BK1637.out
      go_wp2_with (first | ((with_reducible refine gate_callee (f := 18) rfl ?_); refine goesL_ (some 35) rfl rfl Tryz.func18 (by kernel_rfl) rfl #[.agg #[.int .i64 a0_0, .int .i64 a0_1, .int .i64 a0_2, .slice A0_3 l0_3.length c0_3, .int .i64 a0_4, .int .i64 a0_5, .slice A0_6 l0_6.length c0_6, .int .i64 a0_7]] rfl zD ?_; (with_reducible refine (impl_Enter.calls kj2 a0_0 a0_1 a0_2 _ _ l0_3 a0_4 a0_5 _ _ l0_6 a0_7 t1680 t1681 t1682 t1683 t1686 t1687 t1688 t1691 t1692 _ ?side1 ?side2 ?side3 ?side4 A47.out).mono ?_); (case side1 => exact zC (Kd.C_below HR0_3.out HB.out)); (case side2 => exact HC0_3.out); (case side3 => exact zC (Kd.C_below HR0_6.out HB.out)); (case side4 => exact HC0_6.out); rintro e w54 ⟨v1684, v1689, rfl, ho0, ho1, hb⟩; refine ⟨_, rfl, ?_⟩; have HO1685 := aK (Kd.R_lower ho0 (bSz (zH3 HB GE1637 GE1638 GE1639))); have HO1690 := aK (Kd.R_lower ho1 (bSz (zH3 HB GE1637 GE1638 GE1639))); replace BK1637 := zB BK1637 hb; replace BK1638 := zB BK1638 hb; replace BK1639 := zB BK1639 hb; replace HB := aK (bSp (zH3 HB GE1637 GE1638 GE1639) hb); (try clear hb); (try clear hb2); (try clear hk); (try clear hi); (try clear ho0); (try clear ho1); obtain ⟨Ao55, co55, eo55⟩ := Kd.R_slice HO1685.out; subst eo55; obtain ⟨Ao56, co56, eo56⟩ := Kd.R_slice HO1690.out; subst eo56) | ((with_reducible refine gate_callee (f := 87) rfl ?_); refine goesL_ (some 38) rfl rfl Tryz.func87 (by kernel_rfl) rfl #[.agg #[.int .i64 t1680, .int .i64 t1681, .int .i64 t1682, .slice Ao55 t1683.length co55, .int .i64 t1686, .int .i64 t1687, .slice Ao56 t1688.length co56, .int .i64 t1691], .bool t1692] rfl zD ?_; (with_reducible refine (impl_done.calls t1680 t1681 t1682 (fun k_ => some k_ = (.slice Ao55 t1683.length co55 : Value).ownBlock) (.slice Ao55 t1683.length co55) t1683 t1686 t1687 (fun k_ => some k_ = (.slice Ao56 t1688.length co56 : Value).ownBlock) (.slice Ao56 t1688.length co56) t1688 t1691 t1692 t1693 t1694 t1695 t1696 t1699 t1700 t1701 t1704 t1705 w _ ?side1 ?side2 ?side3 ?side4 ?side5 A48.out).mono ?_); (case side1 => exact (zH3 HB GE1637 GE1638 GE1639)); (case side2 => exact Kd.R_tight rfl HO1685.out); (case side3 => exact fun k_ e_ => (HO1685.out.1 k_ e_.symm)); (case side4 => exact Kd.R_tight rfl HO1690.out); (case side5 => exact fun k_ e_ => (HO1690.out.1 k_ e_.symm)); rintro e w57 ⟨v1697, v1702, rfl, ho0, ho1, hb, hkp⟩; refine ⟨_, rfl, ?_⟩; have n0_ := aK (blk_kept (zK BK1637) hkp (fun hs_ => Or.elim hs_ (Kd.R_ne HO1685.out BK1637.out (by decide)) (Kd.R_ne HO1690.out BK1637.out (by decide)))); have n1_ := aK (blk_kept (zK BK1638) hkp (fun hs_ => Or.elim hs_ (Kd.R_ne HO1685.out BK1638.out (by decide)) (Kd.R_ne HO1690.out BK1638.out (by decide)))); have n2_ := aK (blk_kept (zK BK1639) hkp (fun hs_ => Or.elim hs_ (Kd.R_ne HO1685.out BK1639.out (by decide)) (Kd.R_ne HO1690.out BK1639.out (by decide)))); have n3_ := aK (Kd.R_mono (ok' := fun k_ => some k_ ≠ (v1702 : Value).ownBlock) ho0 (fun k_ hk_ => hk_.2)); have n4_ := aK (Kd.R_mono (ok' := fun k_ => some k_ ≠ (v1697 : Value).ownBlock) ho1 (fun k_ hk_ => hk_.2)); have n5_ := aK (hb); clear BK1637; clear BK1638; clear BK1639; clear HB; clear HO1685; clear HO1690; have BK1637 := n0_; have BK1638 := n1_; have BK1639 := n2_; have HO1698 := n3_; have HO1703 := n4_; have HB := n5_; clear n0_ n1_ n2_ n3_ n4_ n5_; (try clear hb); (try clear hkp); (try clear ho0); (try clear ho1); obtain ⟨hcz58_0, hcz58_1, hcz58_2, hcz58_3, hcz58_4, hcz58_5, hcz58_6, hcz58_7, hfz58_0, hfz58_1, hfz58_2, hfz58_3, hfz58_4, hfz58_5, hfz58_6, hfz58_7⟩ := cl8 BK1639.out; obtain ⟨Ao59, co59, eo59⟩ := Kd.R_slice HO1698.out; subst eo59; obtain ⟨Ao60, co60, eo60⟩ := Kd.R_slice HO1703.out; subst eo60))
      refine bodyPost_ret (results_ct rfl _ _ gb1639 38 #[.int .i64 t1693, .int .i64 t1694, .int .i64 t1695, .slice Ao59 t1696.length co59, .int .i64 t1699, .int .i64 t1700, .slice Ao60 t1701.length co60, .int .i64 t1704] (0, 0) _ rfl (by (with_reducible repeat (first | refine blk_drewN ?_ _ | refine kD ?_ | refine kA ?_ _)); refine blk_put (cs := #[.int .i64 t1693, .int .i64 t1694, .int .i64 t1695, .slice Ao59 t1696.length co59, .int .i64 t1699, .int .i64 t1700, .slice Ao60 t1701.length co60, .int .i64 0]) ?_ 7 _ rfl; (with_reducible repeat (first | refine blk_drewN ?_ _ | refine kD ?_ | refine kA ?_ _)); refine blk_put (cs := #[.int .i64 t1693, .int .i64 t1694, .int .i64 t1695, .slice Ao59 t1696.length co59, .int .i64 t1699, .int .i64 t1700, .slice none 0 0, .int .i64 0]) ?_ 6 _ rfl; (with_reducible repeat (first | refine blk_drewN ?_ _ | refine kD ?_ | refine kA ?_ _)); refine blk_put (cs := #[.int .i64 t1693, .int .i64 t1694, .int .i64 t1695, .slice Ao59 t1696.length co59, .int .i64 t1699, .int .i64 0, .slice none 0 0, .int .i64 0]) ?_ 5 _ rfl; (with_reducible repeat (first | refine blk_drewN ?_ _ | refine kD ?_ | refine kA ?_ _)); refine blk_put (cs := #[.int .i64 t1693, .int .i64 t1694, .int .i64 t1695, .slice Ao59 t1696.length co59, .int .i64 0, .int .i64 0, .slice none 0 0, .int .i64 0]) ?_ 4 _ rfl; (with_reducible repeat (first | refine blk_drewN ?_ _ | refine kD ?_ | refine kA ?_ _)); refine blk_put (cs := #[.int .i64 t1693, .int .i64 t1694, .int .i64 t1695, .slice none 0 0, .int .i64 0, .int .i64 0, .slice none 0 0, .int .i64 0]) ?_ 3 _ rfl; (with_reducible repeat (first | refine blk_drewN ?_ _ | refine kD ?_ | refine kA ?_ _)); refine blk_put (cs := #[.int .i64 t1693, .int .i64 t1694, .int .i64 0, .slice none 0 0, .int .i64 0, .int .i64 0, .slice none 0 0, .int .i64 0]) ?_ 2 _ rfl; (with_reducible repeat (first | refine blk_drewN ?_ _ | refine kD ?_ | refine kA ?_ _)); refine blk_put (cs := #[.int .i64 t1693, .int .i64 0, .int .i64 0, .slice none 0 0, .int .i64 0, .int .i64 0, .slice none 0 0, .int .i64 0]) ?_ 1 _ rfl; (with_reducible repeat (first | refine blk_drewN ?_ _ | refine kD ?_ | refine kA ?_ _)); refine blk_put (cs := #[.int .i64 0, .int .i64 0, .int .i64 0, .slice none 0 0, .int .i64 0, .int .i64 0, .slice none 0 0, .int .i64 0]) ?_ 0 _ rfl; (with_reducible repeat (first | refine blk_drewN ?_ _ | refine kD ?_ | refine kA ?_ _)); exact BK1639.out) Tryz.underlying38 rfl (by kernel_rfl)) rfl ?_
      exact ⟨_, _, by first | rfl | (simp [errW_none, errW_some] <;> rfl) | (simp [*, errW_none, errW_some] <;> rfl), by (with_reducible repeat (first | apply Kd.R_alloc | apply Kd.R_drewN | apply Kd.R_drew)); exact Kd.R_mono (zT8 HO1698 BK1639 (.int .i64 t1693) (.int .i64 t1694) (.int .i64 t1695) (.slice Ao59 t1696.length co59) (.int .i64 t1699) (.int .i64 t1700) (.slice Ao60 t1701.length co60) (.int .i64 t1704)) (fun _ hk => hk.1), by (with_reducible repeat (first | apply Kd.R_alloc | apply Kd.R_drewN | apply Kd.R_drew)); exact Kd.R_mono (zT8 HO1703 BK1639 (.int .i64 t1693) (.int .i64 t1694) (.int .i64 t1695) (.slice Ao59 t1696.length co59) (.int .i64 t1699) (.int .i64 t1700) (.slice Ao60 t1701.length co60) (.int .i64 t1704)) (fun _ hk => hk.1), by repeat (first | (with_reducible first | exact HB.out | apply bAl | apply bDN | apply bD1 | refine bSt ?_ GE1637.out | refine bSt ?_ GE1638.out | refine bSt ?_ GE1639.out) | exact HB.out)⟩
     ·rw [if_neg c46] at H
      have c46b0 : (a1_0 == 2) = false := beq_eq_false_iff_ne.mpr c46
      have c46b1 : (a1_0 != 2) = true := bne_iff_ne.mpr c46
      by_cases c61 : a1_0 = 3
      ·rw [if_pos c61] at H
       have c61b0 : (a1_0 == 3) = true := beq_iff_eq.mpr c61
       have c61b1 : (a1_0 != 3) = false := bne_eq_false_iff_eq.mpr c61
       clear c61
       replace H := Option.bind_eq_some_iff.mp H
       obtain ⟨⟨t1706, t1707, t1708, t1709, t1712, t1713, t1714, t1717, t1718⟩, A620, H⟩ := H
       replace H : ((impl_done.f t1706 t1707 t1708 t1709 t1712 t1713 t1714 t1717 t1718).bind fun bt1719 => (some (bt1719.1, bt1719.2.1, bt1719.2.2.1, bt1719.2.2.2.1, bt1719.2.2.2.2.1, bt1719.2.2.2.2.2.1, bt1719.2.2.2.2.2.2.1, bt1719.2.2.2.2.2.2.2.1, bt1719.2.2.2.2.2.2.2.2))) = some (r1, r2, r3, r4, r5, r6, r7, r8, r9) := H
       have A62 := aK A620
       clear A620
       replace H := Option.bind_eq_some_iff.mp H
       obtain ⟨⟨t1719, t1720, t1721, t1722, t1725, t1726, t1727, t1730, t1731⟩, A630, H⟩ := H
       replace H : (some (t1719, t1720, t1721, t1722, t1725, t1726, t1727, t1730, t1731)) = some (r1, r2, r3, r4, r5, r6, r7, r8, r9) := H
       have A63 := aK A630
       clear A630
       simp only [Option.some.injEq, Prod.mk.injEq] at H
       obtain ⟨rfl, rfl, rfl, rfl, rfl, rfl, rfl, rfl, rfl⟩ := H
       have hnb64 := NB1638_1637.out
       have hnc64 := NB1637_1638.out
       have hnb65 := NB1638_1639.out
       have hnc65 := NB1639_1638.out
       obtain ⟨hcz66_0, hcz66_1, hcz66_2, hfz66_0, hfz66_1, hfz66_2⟩ := cl3 BK1638.out
       have hnb67 := NB1637_1639.out
       have hnc67 := NB1639_1637.out
       obtain ⟨hcz68_0, hcz68_1, hcz68_2, hcz68_3, hcz68_4, hcz68_5, hcz68_6, hcz68_7, hfz68_0, hfz68_1, hfz68_2, hfz68_3, hfz68_4, hfz68_5, hfz68_6, hfz68_7⟩ := cl8 BK1637.out
       go_wp2_with (first | ((with_reducible refine gate_callee (f := 25) rfl ?_); refine goesL_ (some 48) rfl rfl Tryz.func25 (by kernel_rfl) rfl #[.agg #[.int .i64 a0_0, .int .i64 a0_1, .int .i64 a0_2, .slice A0_3 l0_3.length c0_3, .int .i64 a0_4, .int .i64 a0_5, .slice A0_6 l0_6.length c0_6, .int .i64 a0_7], .int .i64 a1_1, .int .i64 a1_2] rfl zD ?_; (with_reducible refine (impl_WalkIn.calls kj2 a0_0 a0_1 a0_2 _ _ l0_3 a0_4 a0_5 _ _ l0_6 a0_7 a1_1 a1_2 t1706 t1707 t1708 t1709 t1712 t1713 t1714 t1717 t1718 _ ?side1 ?side2 ?side3 ?side4 A62.out).mono ?_); (case side1 => exact zC (Kd.C_below HR0_3.out HB.out)); (case side2 => exact HC0_3.out); (case side3 => exact zC (Kd.C_below HR0_6.out HB.out)); (case side4 => exact HC0_6.out); rintro e w69 ⟨v1710, v1715, rfl, ho0, ho1, hb⟩; refine ⟨_, rfl, ?_⟩; have HO1711 := aK (Kd.R_lower ho0 (bSz (zH3 HB GE1637 GE1638 GE1639))); have HO1716 := aK (Kd.R_lower ho1 (bSz (zH3 HB GE1637 GE1638 GE1639))); replace BK1637 := zB BK1637 hb; replace BK1638 := zB BK1638 hb; replace BK1639 := zB BK1639 hb; replace HB := aK (bSp (zH3 HB GE1637 GE1638 GE1639) hb); (try clear hb); (try clear hb2); (try clear hk); (try clear hi); (try clear ho0); (try clear ho1); obtain ⟨Ao70, co70, eo70⟩ := Kd.R_slice HO1711.out; subst eo70; obtain ⟨Ao71, co71, eo71⟩ := Kd.R_slice HO1716.out; subst eo71) | ((with_reducible refine gate_callee (f := 87) rfl ?_); refine goesL_ (some 51) rfl rfl Tryz.func87 (by kernel_rfl) rfl #[.agg #[.int .i64 t1706, .int .i64 t1707, .int .i64 t1708, .slice Ao70 t1709.length co70, .int .i64 t1712, .int .i64 t1713, .slice Ao71 t1714.length co71, .int .i64 t1717], .bool t1718] rfl zD ?_; (with_reducible refine (impl_done.calls t1706 t1707 t1708 (fun k_ => some k_ = (.slice Ao70 t1709.length co70 : Value).ownBlock) (.slice Ao70 t1709.length co70) t1709 t1712 t1713 (fun k_ => some k_ = (.slice Ao71 t1714.length co71 : Value).ownBlock) (.slice Ao71 t1714.length co71) t1714 t1717 t1718 t1719 t1720 t1721 t1722 t1725 t1726 t1727 t1730 t1731 w _ ?side1 ?side2 ?side3 ?side4 ?side5 A63.out).mono ?_); (case side1 => exact (zH3 HB GE1637 GE1638 GE1639)); (case side2 => exact Kd.R_tight rfl HO1711.out); (case side3 => exact fun k_ e_ => (HO1711.out.1 k_ e_.symm)); (case side4 => exact Kd.R_tight rfl HO1716.out); (case side5 => exact fun k_ e_ => (HO1716.out.1 k_ e_.symm)); rintro e w72 ⟨v1723, v1728, rfl, ho0, ho1, hb, hkp⟩; refine ⟨_, rfl, ?_⟩; have n0_ := aK (blk_kept (zK BK1637) hkp (fun hs_ => Or.elim hs_ (Kd.R_ne HO1711.out BK1637.out (by decide)) (Kd.R_ne HO1716.out BK1637.out (by decide)))); have n1_ := aK (blk_kept (zK BK1638) hkp (fun hs_ => Or.elim hs_ (Kd.R_ne HO1711.out BK1638.out (by decide)) (Kd.R_ne HO1716.out BK1638.out (by decide)))); have n2_ := aK (blk_kept (zK BK1639) hkp (fun hs_ => Or.elim hs_ (Kd.R_ne HO1711.out BK1639.out (by decide)) (Kd.R_ne HO1716.out BK1639.out (by decide)))); have n3_ := aK (Kd.R_mono (ok' := fun k_ => some k_ ≠ (v1728 : Value).ownBlock) ho0 (fun k_ hk_ => hk_.2)); have n4_ := aK (Kd.R_mono (ok' := fun k_ => some k_ ≠ (v1723 : Value).ownBlock) ho1 (fun k_ hk_ => hk_.2)); have n5_ := aK (hb); clear BK1637; clear BK1638; clear BK1639; clear HB; clear HO1711; clear HO1716; have BK1637 := n0_; have BK1638 := n1_; have BK1639 := n2_; have HO1724 := n3_; have HO1729 := n4_; have HB := n5_; clear n0_ n1_ n2_ n3_ n4_ n5_; (try clear hb); (try clear hkp); (try clear ho0); (try clear ho1); obtain ⟨hcz73_0, hcz73_1, hcz73_2, hcz73_3, hcz73_4, hcz73_5, hcz73_6, hcz73_7, hfz73_0, hfz73_1, hfz73_2, hfz73_3, hfz73_4, hfz73_5, hfz73_6, hfz73_7⟩ := cl8 BK1639.out; obtain ⟨Ao74, co74, eo74⟩ := Kd.R_slice HO1724.out; subst eo74; obtain ⟨Ao75, co75, eo75⟩ := Kd.R_slice HO1729.out; subst eo75))
       refine bodyPost_ret (results_ct rfl _ _ gb1639 38 #[.int .i64 t1719, .int .i64 t1720, .int .i64 t1721, .slice Ao74 t1722.length co74, .int .i64 t1725, .int .i64 t1726, .slice Ao75 t1727.length co75, .int .i64 t1730] (0, 0) _ rfl (by (with_reducible repeat (first | refine blk_drewN ?_ _ | refine kD ?_ | refine kA ?_ _)); refine blk_put (cs := #[.int .i64 t1719, .int .i64 t1720, .int .i64 t1721, .slice Ao74 t1722.length co74, .int .i64 t1725, .int .i64 t1726, .slice Ao75 t1727.length co75, .int .i64 0]) ?_ 7 _ rfl; (with_reducible repeat (first | refine blk_drewN ?_ _ | refine kD ?_ | refine kA ?_ _)); refine blk_put (cs := #[.int .i64 t1719, .int .i64 t1720, .int .i64 t1721, .slice Ao74 t1722.length co74, .int .i64 t1725, .int .i64 t1726, .slice none 0 0, .int .i64 0]) ?_ 6 _ rfl; (with_reducible repeat (first | refine blk_drewN ?_ _ | refine kD ?_ | refine kA ?_ _)); refine blk_put (cs := #[.int .i64 t1719, .int .i64 t1720, .int .i64 t1721, .slice Ao74 t1722.length co74, .int .i64 t1725, .int .i64 0, .slice none 0 0, .int .i64 0]) ?_ 5 _ rfl; (with_reducible repeat (first | refine blk_drewN ?_ _ | refine kD ?_ | refine kA ?_ _)); refine blk_put (cs := #[.int .i64 t1719, .int .i64 t1720, .int .i64 t1721, .slice Ao74 t1722.length co74, .int .i64 0, .int .i64 0, .slice none 0 0, .int .i64 0]) ?_ 4 _ rfl; (with_reducible repeat (first | refine blk_drewN ?_ _ | refine kD ?_ | refine kA ?_ _)); refine blk_put (cs := #[.int .i64 t1719, .int .i64 t1720, .int .i64 t1721, .slice none 0 0, .int .i64 0, .int .i64 0, .slice none 0 0, .int .i64 0]) ?_ 3 _ rfl; (with_reducible repeat (first | refine blk_drewN ?_ _ | refine kD ?_ | refine kA ?_ _)); refine blk_put (cs := #[.int .i64 t1719, .int .i64 t1720, .int .i64 0, .slice none 0 0, .int .i64 0, .int .i64 0, .slice none 0 0, .int .i64 0]) ?_ 2 _ rfl; (with_reducible repeat (first | refine blk_drewN ?_ _ | refine kD ?_ | refine kA ?_ _)); refine blk_put (cs := #[.int .i64 t1719, .int .i64 0, .int .i64 0, .slice none 0 0, .int .i64 0, .int .i64 0, .slice none 0 0, .int .i64 0]) ?_ 1 _ rfl; (with_reducible repeat (first | refine blk_drewN ?_ _ | refine kD ?_ | refine kA ?_ _)); refine blk_put (cs := #[.int .i64 0, .int .i64 0, .int .i64 0, .slice none 0 0, .int .i64 0, .int .i64 0, .slice none 0 0, .int .i64 0]) ?_ 0 _ rfl; (with_reducible repeat (first | refine blk_drewN ?_ _ | refine kD ?_ | refine kA ?_ _)); exact BK1639.out) Tryz.underlying38 rfl (by kernel_rfl)) rfl ?_
       exact ⟨_, _, by first | rfl | (simp [errW_none, errW_some] <;> rfl) | (simp [*, errW_none, errW_some] <;> rfl), by (with_reducible repeat (first | apply Kd.R_alloc | apply Kd.R_drewN | apply Kd.R_drew)); exact Kd.R_mono (zT8 HO1724 BK1639 (.int .i64 t1719) (.int .i64 t1720) (.int .i64 t1721) (.slice Ao74 t1722.length co74) (.int .i64 t1725) (.int .i64 t1726) (.slice Ao75 t1727.length co75) (.int .i64 t1730)) (fun _ hk => hk.1), by (with_reducible repeat (first | apply Kd.R_alloc | apply Kd.R_drewN | apply Kd.R_drew)); exact Kd.R_mono (zT8 HO1729 BK1639 (.int .i64 t1719) (.int .i64 t1720) (.int .i64 t1721) (.slice Ao74 t1722.length co74) (.int .i64 t1725) (.int .i64 t1726) (.slice Ao75 t1727.length co75) (.int .i64 t1730)) (fun _ hk => hk.1), by repeat (first | (with_reducible first | exact HB.out | apply bAl | apply bDN | apply bD1 | refine bSt ?_ GE1637.out | refine bSt ?_ GE1638.out | refine bSt ?_ GE1639.out) | exact HB.out)⟩
      ·rw [if_neg c61] at H
       have c61b0 : (a1_0 == 3) = false := beq_eq_false_iff_ne.mpr c61
       have c61b1 : (a1_0 != 3) = true := bne_iff_ne.mpr c61
       by_cases c76 : a1_0 = 4
       ·rw [if_pos c76] at H
        have c76b0 : (a1_0 == 4) = true := beq_iff_eq.mpr c76
        have c76b1 : (a1_0 != 4) = false := bne_eq_false_iff_eq.mpr c76
        clear c76
        replace H := Option.bind_eq_some_iff.mp H
        obtain ⟨⟨t1732, t1733, t1734, t1735, t1738, t1739, t1740, t1743, t1744⟩, A770, H⟩ := H
        replace H : ((impl_done.f t1732 t1733 t1734 t1735 t1738 t1739 t1740 t1743 t1744).bind fun bt1745 => (some (bt1745.1, bt1745.2.1, bt1745.2.2.1, bt1745.2.2.2.1, bt1745.2.2.2.2.1, bt1745.2.2.2.2.2.1, bt1745.2.2.2.2.2.2.1, bt1745.2.2.2.2.2.2.2.1, bt1745.2.2.2.2.2.2.2.2))) = some (r1, r2, r3, r4, r5, r6, r7, r8, r9) := H
        have A77 := aK A770
        clear A770
        replace H := Option.bind_eq_some_iff.mp H
        obtain ⟨⟨t1745, t1746, t1747, t1748, t1751, t1752, t1753, t1756, t1757⟩, A780, H⟩ := H
        replace H : (some (t1745, t1746, t1747, t1748, t1751, t1752, t1753, t1756, t1757)) = some (r1, r2, r3, r4, r5, r6, r7, r8, r9) := H
        have A78 := aK A780
        clear A780
        simp only [Option.some.injEq, Prod.mk.injEq] at H
        obtain ⟨rfl, rfl, rfl, rfl, rfl, rfl, rfl, rfl, rfl⟩ := H
        have hnb79 := NB1638_1637.out
        have hnc79 := NB1637_1638.out
        have hnb80 := NB1638_1639.out
        have hnc80 := NB1639_1638.out
        obtain ⟨hcz81_0, hcz81_1, hcz81_2, hfz81_0, hfz81_1, hfz81_2⟩ := cl3 BK1638.out
        have hnb82 := NB1637_1639.out
        have hnc82 := NB1639_1637.out
        obtain ⟨hcz83_0, hcz83_1, hcz83_2, hcz83_3, hcz83_4, hcz83_5, hcz83_6, hcz83_7, hfz83_0, hfz83_1, hfz83_2, hfz83_3, hfz83_4, hfz83_5, hfz83_6, hfz83_7⟩ := cl8 BK1637.out
        go_wp2_with (first | ((with_reducible refine gate_callee (f := 23) rfl ?_); refine goesL_ (some 57) rfl rfl Tryz.func23 (by kernel_rfl) rfl #[.agg #[.int .i64 a0_0, .int .i64 a0_1, .int .i64 a0_2, .slice A0_3 l0_3.length c0_3, .int .i64 a0_4, .int .i64 a0_5, .slice A0_6 l0_6.length c0_6, .int .i64 a0_7]] rfl zD ?_; (with_reducible refine (impl_Leave.calls kj2 a0_0 a0_1 a0_2 _ _ l0_3 a0_4 a0_5 _ _ l0_6 a0_7 t1732 t1733 t1734 t1735 t1738 t1739 t1740 t1743 t1744 _ ?side1 ?side2 ?side3 ?side4 A77.out).mono ?_); (case side1 => exact zC (Kd.C_below HR0_3.out HB.out)); (case side2 => exact HC0_3.out); (case side3 => exact zC (Kd.C_below HR0_6.out HB.out)); (case side4 => exact HC0_6.out); rintro e w84 ⟨v1736, v1741, rfl, ho0, ho1, hb⟩; refine ⟨_, rfl, ?_⟩; have HO1737 := aK (Kd.R_lower ho0 (bSz (zH3 HB GE1637 GE1638 GE1639))); have HO1742 := aK (Kd.R_lower ho1 (bSz (zH3 HB GE1637 GE1638 GE1639))); replace BK1637 := zB BK1637 hb; replace BK1638 := zB BK1638 hb; replace BK1639 := zB BK1639 hb; replace HB := aK (bSp (zH3 HB GE1637 GE1638 GE1639) hb); (try clear hb); (try clear hb2); (try clear hk); (try clear hi); (try clear ho0); (try clear ho1); obtain ⟨Ao85, co85, eo85⟩ := Kd.R_slice HO1737.out; subst eo85; obtain ⟨Ao86, co86, eo86⟩ := Kd.R_slice HO1742.out; subst eo86) | ((with_reducible refine gate_callee (f := 87) rfl ?_); refine goesL_ (some 60) rfl rfl Tryz.func87 (by kernel_rfl) rfl #[.agg #[.int .i64 t1732, .int .i64 t1733, .int .i64 t1734, .slice Ao85 t1735.length co85, .int .i64 t1738, .int .i64 t1739, .slice Ao86 t1740.length co86, .int .i64 t1743], .bool t1744] rfl zD ?_; (with_reducible refine (impl_done.calls t1732 t1733 t1734 (fun k_ => some k_ = (.slice Ao85 t1735.length co85 : Value).ownBlock) (.slice Ao85 t1735.length co85) t1735 t1738 t1739 (fun k_ => some k_ = (.slice Ao86 t1740.length co86 : Value).ownBlock) (.slice Ao86 t1740.length co86) t1740 t1743 t1744 t1745 t1746 t1747 t1748 t1751 t1752 t1753 t1756 t1757 w _ ?side1 ?side2 ?side3 ?side4 ?side5 A78.out).mono ?_); (case side1 => exact (zH3 HB GE1637 GE1638 GE1639)); (case side2 => exact Kd.R_tight rfl HO1737.out); (case side3 => exact fun k_ e_ => (HO1737.out.1 k_ e_.symm)); (case side4 => exact Kd.R_tight rfl HO1742.out); (case side5 => exact fun k_ e_ => (HO1742.out.1 k_ e_.symm)); rintro e w87 ⟨v1749, v1754, rfl, ho0, ho1, hb, hkp⟩; refine ⟨_, rfl, ?_⟩; have n0_ := aK (blk_kept (zK BK1637) hkp (fun hs_ => Or.elim hs_ (Kd.R_ne HO1737.out BK1637.out (by decide)) (Kd.R_ne HO1742.out BK1637.out (by decide)))); have n1_ := aK (blk_kept (zK BK1638) hkp (fun hs_ => Or.elim hs_ (Kd.R_ne HO1737.out BK1638.out (by decide)) (Kd.R_ne HO1742.out BK1638.out (by decide)))); have n2_ := aK (blk_kept (zK BK1639) hkp (fun hs_ => Or.elim hs_ (Kd.R_ne HO1737.out BK1639.out (by decide)) (Kd.R_ne HO1742.out BK1639.out (by decide)))); have n3_ := aK (Kd.R_mono (ok' := fun k_ => some k_ ≠ (v1754 : Value).ownBlock) ho0 (fun k_ hk_ => hk_.2)); have n4_ := aK (Kd.R_mono (ok' := fun k_ => some k_ ≠ (v1749 : Value).ownBlock) ho1 (fun k_ hk_ => hk_.2)); have n5_ := aK (hb); clear BK1637; clear BK1638; clear BK1639; clear HB; clear HO1737; clear HO1742; have BK1637 := n0_; have BK1638 := n1_; have BK1639 := n2_; have HO1750 := n3_; have HO1755 := n4_; have HB := n5_; clear n0_ n1_ n2_ n3_ n4_ n5_; (try clear hb); (try clear hkp); (try clear ho0); (try clear ho1); obtain ⟨hcz88_0, hcz88_1, hcz88_2, hcz88_3, hcz88_4, hcz88_5, hcz88_6, hcz88_7, hfz88_0, hfz88_1, hfz88_2, hfz88_3, hfz88_4, hfz88_5, hfz88_6, hfz88_7⟩ := cl8 BK1639.out; obtain ⟨Ao89, co89, eo89⟩ := Kd.R_slice HO1750.out; subst eo89; obtain ⟨Ao90, co90, eo90⟩ := Kd.R_slice HO1755.out; subst eo90))
        refine bodyPost_ret (results_ct rfl _ _ gb1639 38 #[.int .i64 t1745, .int .i64 t1746, .int .i64 t1747, .slice Ao89 t1748.length co89, .int .i64 t1751, .int .i64 t1752, .slice Ao90 t1753.length co90, .int .i64 t1756] (0, 0) _ rfl (by (with_reducible repeat (first | refine blk_drewN ?_ _ | refine kD ?_ | refine kA ?_ _)); refine blk_put (cs := #[.int .i64 t1745, .int .i64 t1746, .int .i64 t1747, .slice Ao89 t1748.length co89, .int .i64 t1751, .int .i64 t1752, .slice Ao90 t1753.length co90, .int .i64 0]) ?_ 7 _ rfl; (with_reducible repeat (first | refine blk_drewN ?_ _ | refine kD ?_ | refine kA ?_ _)); refine blk_put (cs := #[.int .i64 t1745, .int .i64 t1746, .int .i64 t1747, .slice Ao89 t1748.length co89, .int .i64 t1751, .int .i64 t1752, .slice none 0 0, .int .i64 0]) ?_ 6 _ rfl; (with_reducible repeat (first | refine blk_drewN ?_ _ | refine kD ?_ | refine kA ?_ _)); refine blk_put (cs := #[.int .i64 t1745, .int .i64 t1746, .int .i64 t1747, .slice Ao89 t1748.length co89, .int .i64 t1751, .int .i64 0, .slice none 0 0, .int .i64 0]) ?_ 5 _ rfl; (with_reducible repeat (first | refine blk_drewN ?_ _ | refine kD ?_ | refine kA ?_ _)); refine blk_put (cs := #[.int .i64 t1745, .int .i64 t1746, .int .i64 t1747, .slice Ao89 t1748.length co89, .int .i64 0, .int .i64 0, .slice none 0 0, .int .i64 0]) ?_ 4 _ rfl; (with_reducible repeat (first | refine blk_drewN ?_ _ | refine kD ?_ | refine kA ?_ _)); refine blk_put (cs := #[.int .i64 t1745, .int .i64 t1746, .int .i64 t1747, .slice none 0 0, .int .i64 0, .int .i64 0, .slice none 0 0, .int .i64 0]) ?_ 3 _ rfl; (with_reducible repeat (first | refine blk_drewN ?_ _ | refine kD ?_ | refine kA ?_ _)); refine blk_put (cs := #[.int .i64 t1745, .int .i64 t1746, .int .i64 0, .slice none 0 0, .int .i64 0, .int .i64 0, .slice none 0 0, .int .i64 0]) ?_ 2 _ rfl; (with_reducible repeat (first | refine blk_drewN ?_ _ | refine kD ?_ | refine kA ?_ _)); refine blk_put (cs := #[.int .i64 t1745, .int .i64 0, .int .i64 0, .slice none 0 0, .int .i64 0, .int .i64 0, .slice none 0 0, .int .i64 0]) ?_ 1 _ rfl; (with_reducible repeat (first | refine blk_drewN ?_ _ | refine kD ?_ | refine kA ?_ _)); refine blk_put (cs := #[.int .i64 0, .int .i64 0, .int .i64 0, .slice none 0 0, .int .i64 0, .int .i64 0, .slice none 0 0, .int .i64 0]) ?_ 0 _ rfl; (with_reducible repeat (first | refine blk_drewN ?_ _ | refine kD ?_ | refine kA ?_ _)); exact BK1639.out) Tryz.underlying38 rfl (by kernel_rfl)) rfl ?_
        exact ⟨_, _, by first | rfl | (simp [errW_none, errW_some] <;> rfl) | (simp [*, errW_none, errW_some] <;> rfl), by (with_reducible repeat (first | apply Kd.R_alloc | apply Kd.R_drewN | apply Kd.R_drew)); exact Kd.R_mono (zT8 HO1750 BK1639 (.int .i64 t1745) (.int .i64 t1746) (.int .i64 t1747) (.slice Ao89 t1748.length co89) (.int .i64 t1751) (.int .i64 t1752) (.slice Ao90 t1753.length co90) (.int .i64 t1756)) (fun _ hk => hk.1), by (with_reducible repeat (first | apply Kd.R_alloc | apply Kd.R_drewN | apply Kd.R_drew)); exact Kd.R_mono (zT8 HO1755 BK1639 (.int .i64 t1745) (.int .i64 t1746) (.int .i64 t1747) (.slice Ao89 t1748.length co89) (.int .i64 t1751) (.int .i64 t1752) (.slice Ao90 t1753.length co90) (.int .i64 t1756)) (fun _ hk => hk.1), by repeat (first | (with_reducible first | exact HB.out | apply bAl | apply bDN | apply bD1 | refine bSt ?_ GE1637.out | refine bSt ?_ GE1638.out | refine bSt ?_ GE1639.out) | exact HB.out)⟩
       ·rw [if_neg c76] at H
        have c76b0 : (a1_0 == 4) = false := beq_eq_false_iff_ne.mpr c76
        have c76b1 : (a1_0 != 4) = true := bne_iff_ne.mpr c76
        by_cases c91 : a1_0 = 5
        ·rw [if_pos c91] at H
         have c91b0 : (a1_0 == 5) = true := beq_iff_eq.mpr c91
         have c91b1 : (a1_0 != 5) = false := bne_eq_false_iff_eq.mpr c91
         clear c91
         replace H := Option.bind_eq_some_iff.mp H
         obtain ⟨⟨t1758, t1759, t1760, t1761, t1764, t1765, t1766, t1769, t1770⟩, A920, H⟩ := H
         replace H : ((impl_done.f t1758 t1759 t1760 t1761 t1764 t1765 t1766 t1769 t1770).bind fun bt1771 => (some (bt1771.1, bt1771.2.1, bt1771.2.2.1, bt1771.2.2.2.1, bt1771.2.2.2.2.1, bt1771.2.2.2.2.2.1, bt1771.2.2.2.2.2.2.1, bt1771.2.2.2.2.2.2.2.1, bt1771.2.2.2.2.2.2.2.2))) = some (r1, r2, r3, r4, r5, r6, r7, r8, r9) := H
         have A92 := aK A920
         clear A920
         replace H := Option.bind_eq_some_iff.mp H
         obtain ⟨⟨t1771, t1772, t1773, t1774, t1777, t1778, t1779, t1782, t1783⟩, A930, H⟩ := H
         replace H : (some (t1771, t1772, t1773, t1774, t1777, t1778, t1779, t1782, t1783)) = some (r1, r2, r3, r4, r5, r6, r7, r8, r9) := H
         have A93 := aK A930
         clear A930
         simp only [Option.some.injEq, Prod.mk.injEq] at H
         obtain ⟨rfl, rfl, rfl, rfl, rfl, rfl, rfl, rfl, rfl⟩ := H
         have hnb94 := NB1638_1637.out
         have hnc94 := NB1637_1638.out
         have hnb95 := NB1638_1639.out
         have hnc95 := NB1639_1638.out
         obtain ⟨hcz96_0, hcz96_1, hcz96_2, hfz96_0, hfz96_1, hfz96_2⟩ := cl3 BK1638.out
         have hnb97 := NB1637_1639.out
         have hnc97 := NB1639_1637.out
         obtain ⟨hcz98_0, hcz98_1, hcz98_2, hcz98_3, hcz98_4, hcz98_5, hcz98_6, hcz98_7, hfz98_0, hfz98_1, hfz98_2, hfz98_3, hfz98_4, hfz98_5, hfz98_6, hfz98_7⟩ := cl8 BK1637.out
         go_wp2_with (first | ((with_reducible refine gate_callee (f := 29) rfl ?_); refine goesL_ (some 68) rfl rfl Tryz.func29 (by kernel_rfl) rfl #[.agg #[.int .i64 a0_0, .int .i64 a0_1, .int .i64 a0_2, .slice A0_3 l0_3.length c0_3, .int .i64 a0_4, .int .i64 a0_5, .slice A0_6 l0_6.length c0_6, .int .i64 a0_7], .int .i64 a1_1] rfl zD ?_; (with_reducible refine (impl_Guide.calls kj2 a0_0 a0_1 a0_2 _ _ l0_3 a0_4 a0_5 _ _ l0_6 a0_7 a1_1 t1758 t1759 t1760 t1761 t1764 t1765 t1766 t1769 t1770 _ ?side1 ?side2 ?side3 ?side4 A92.out).mono ?_); (case side1 => exact zC (Kd.C_below HR0_3.out HB.out)); (case side2 => exact HC0_3.out); (case side3 => exact zC (Kd.C_below HR0_6.out HB.out)); (case side4 => exact HC0_6.out); rintro e w99 ⟨v1762, v1767, rfl, ho0, ho1, hb⟩; refine ⟨_, rfl, ?_⟩; have HO1763 := aK (Kd.R_lower ho0 (bSz (zH3 HB GE1637 GE1638 GE1639))); have HO1768 := aK (Kd.R_lower ho1 (bSz (zH3 HB GE1637 GE1638 GE1639))); replace BK1637 := zB BK1637 hb; replace BK1638 := zB BK1638 hb; replace BK1639 := zB BK1639 hb; replace HB := aK (bSp (zH3 HB GE1637 GE1638 GE1639) hb); (try clear hb); (try clear hb2); (try clear hk); (try clear hi); (try clear ho0); (try clear ho1); obtain ⟨Ao100, co100, eo100⟩ := Kd.R_slice HO1763.out; subst eo100; obtain ⟨Ao101, co101, eo101⟩ := Kd.R_slice HO1768.out; subst eo101) | ((with_reducible refine gate_callee (f := 87) rfl ?_); refine goesL_ (some 71) rfl rfl Tryz.func87 (by kernel_rfl) rfl #[.agg #[.int .i64 t1758, .int .i64 t1759, .int .i64 t1760, .slice Ao100 t1761.length co100, .int .i64 t1764, .int .i64 t1765, .slice Ao101 t1766.length co101, .int .i64 t1769], .bool t1770] rfl zD ?_; (with_reducible refine (impl_done.calls t1758 t1759 t1760 (fun k_ => some k_ = (.slice Ao100 t1761.length co100 : Value).ownBlock) (.slice Ao100 t1761.length co100) t1761 t1764 t1765 (fun k_ => some k_ = (.slice Ao101 t1766.length co101 : Value).ownBlock) (.slice Ao101 t1766.length co101) t1766 t1769 t1770 t1771 t1772 t1773 t1774 t1777 t1778 t1779 t1782 t1783 w _ ?side1 ?side2 ?side3 ?side4 ?side5 A93.out).mono ?_); (case side1 => exact (zH3 HB GE1637 GE1638 GE1639)); (case side2 => exact Kd.R_tight rfl HO1763.out); (case side3 => exact fun k_ e_ => (HO1763.out.1 k_ e_.symm)); (case side4 => exact Kd.R_tight rfl HO1768.out); (case side5 => exact fun k_ e_ => (HO1768.out.1 k_ e_.symm)); rintro e w102 ⟨v1775, v1780, rfl, ho0, ho1, hb, hkp⟩; refine ⟨_, rfl, ?_⟩; have n0_ := aK (blk_kept (zK BK1637) hkp (fun hs_ => Or.elim hs_ (Kd.R_ne HO1763.out BK1637.out (by decide)) (Kd.R_ne HO1768.out BK1637.out (by decide)))); have n1_ := aK (blk_kept (zK BK1638) hkp (fun hs_ => Or.elim hs_ (Kd.R_ne HO1763.out BK1638.out (by decide)) (Kd.R_ne HO1768.out BK1638.out (by decide)))); have n2_ := aK (blk_kept (zK BK1639) hkp (fun hs_ => Or.elim hs_ (Kd.R_ne HO1763.out BK1639.out (by decide)) (Kd.R_ne HO1768.out BK1639.out (by decide)))); have n3_ := aK (Kd.R_mono (ok' := fun k_ => some k_ ≠ (v1780 : Value).ownBlock) ho0 (fun k_ hk_ => hk_.2)); have n4_ := aK (Kd.R_mono (ok' := fun k_ => some k_ ≠ (v1775 : Value).ownBlock) ho1 (fun k_ hk_ => hk_.2)); have n5_ := aK (hb); clear BK1637; clear BK1638; clear BK1639; clear HB; clear HO1763; clear HO1768; have BK1637 := n0_; have BK1638 := n1_; have BK1639 := n2_; have HO1776 := n3_; have HO1781 := n4_; have HB := n5_; clear n0_ n1_ n2_ n3_ n4_ n5_; (try clear hb); (try clear hkp); (try clear ho0); (try clear ho1); obtain ⟨hcz103_0, hcz103_1, hcz103_2, hcz103_3, hcz103_4, hcz103_5, hcz103_6, hcz103_7, hfz103_0, hfz103_1, hfz103_2, hfz103_3, hfz103_4, hfz103_5, hfz103_6, hfz103_7⟩ := cl8 BK1639.out; obtain ⟨Ao104, co104, eo104⟩ := Kd.R_slice HO1776.out; subst eo104; obtain ⟨Ao105, co105, eo105⟩ := Kd.R_slice HO1781.out; subst eo105))
         refine bodyPost_ret (results_ct rfl _ _ gb1639 38 #[.int .i64 t1771, .int .i64 t1772, .int .i64 t1773, .slice Ao104 t1774.length co104, .int .i64 t1777, .int .i64 t1778, .slice Ao105 t1779.length co105, .int .i64 t1782] (0, 0) _ rfl (by (with_reducible repeat (first | refine blk_drewN ?_ _ | refine kD ?_ | refine kA ?_ _)); refine blk_put (cs := #[.int .i64 t1771, .int .i64 t1772, .int .i64 t1773, .slice Ao104 t1774.length co104, .int .i64 t1777, .int .i64 t1778, .slice Ao105 t1779.length co105, .int .i64 0]) ?_ 7 _ rfl; (with_reducible repeat (first | refine blk_drewN ?_ _ | refine kD ?_ | refine kA ?_ _)); refine blk_put (cs := #[.int .i64 t1771, .int .i64 t1772, .int .i64 t1773, .slice Ao104 t1774.length co104, .int .i64 t1777, .int .i64 t1778, .slice none 0 0, .int .i64 0]) ?_ 6 _ rfl; (with_reducible repeat (first | refine blk_drewN ?_ _ | refine kD ?_ | refine kA ?_ _)); refine blk_put (cs := #[.int .i64 t1771, .int .i64 t1772, .int .i64 t1773, .slice Ao104 t1774.length co104, .int .i64 t1777, .int .i64 0, .slice none 0 0, .int .i64 0]) ?_ 5 _ rfl; (with_reducible repeat (first | refine blk_drewN ?_ _ | refine kD ?_ | refine kA ?_ _)); refine blk_put (cs := #[.int .i64 t1771, .int .i64 t1772, .int .i64 t1773, .slice Ao104 t1774.length co104, .int .i64 0, .int .i64 0, .slice none 0 0, .int .i64 0]) ?_ 4 _ rfl; (with_reducible repeat (first | refine blk_drewN ?_ _ | refine kD ?_ | refine kA ?_ _)); refine blk_put (cs := #[.int .i64 t1771, .int .i64 t1772, .int .i64 t1773, .slice none 0 0, .int .i64 0, .int .i64 0, .slice none 0 0, .int .i64 0]) ?_ 3 _ rfl; (with_reducible repeat (first | refine blk_drewN ?_ _ | refine kD ?_ | refine kA ?_ _)); refine blk_put (cs := #[.int .i64 t1771, .int .i64 t1772, .int .i64 0, .slice none 0 0, .int .i64 0, .int .i64 0, .slice none 0 0, .int .i64 0]) ?_ 2 _ rfl; (with_reducible repeat (first | refine blk_drewN ?_ _ | refine kD ?_ | refine kA ?_ _)); refine blk_put (cs := #[.int .i64 t1771, .int .i64 0, .int .i64 0, .slice none 0 0, .int .i64 0, .int .i64 0, .slice none 0 0, .int .i64 0]) ?_ 1 _ rfl; (with_reducible repeat (first | refine blk_drewN ?_ _ | refine kD ?_ | refine kA ?_ _)); refine blk_put (cs := #[.int .i64 0, .int .i64 0, .int .i64 0, .slice none 0 0, .int .i64 0, .int .i64 0, .slice none 0 0, .int .i64 0]) ?_ 0 _ rfl; (with_reducible repeat (first | refine blk_drewN ?_ _ | refine kD ?_ | refine kA ?_ _)); exact BK1639.out) Tryz.underlying38 rfl (by kernel_rfl)) rfl ?_
         exact ⟨_, _, by first | rfl | (simp [errW_none, errW_some] <;> rfl) | (simp [*, errW_none, errW_some] <;> rfl), by (with_reducible repeat (first | apply Kd.R_alloc | apply Kd.R_drewN | apply Kd.R_drew)); exact Kd.R_mono (zT8 HO1776 BK1639 (.int .i64 t1771) (.int .i64 t1772) (.int .i64 t1773) (.slice Ao104 t1774.length co104) (.int .i64 t1777) (.int .i64 t1778) (.slice Ao105 t1779.length co105) (.int .i64 t1782)) (fun _ hk => hk.1), by (with_reducible repeat (first | apply Kd.R_alloc | apply Kd.R_drewN | apply Kd.R_drew)); exact Kd.R_mono (zT8 HO1781 BK1639 (.int .i64 t1771) (.int .i64 t1772) (.int .i64 t1773) (.slice Ao104 t1774.length co104) (.int .i64 t1777) (.int .i64 t1778) (.slice Ao105 t1779.length co105) (.int .i64 t1782)) (fun _ hk => hk.1), by repeat (first | (with_reducible first | exact HB.out | apply bAl | apply bDN | apply bD1 | refine bSt ?_ GE1637.out | refine bSt ?_ GE1638.out | refine bSt ?_ GE1639.out) | exact HB.out)⟩
        ·rw [if_neg c91] at H
         have c91b0 : (a1_0 == 5) = false := beq_eq_false_iff_ne.mpr c91
         have c91b1 : (a1_0 != 5) = true := bne_iff_ne.mpr c91
         have H' := aK H
         clear H
         have hnb106 := NB1638_1637.out
         have hnc106 := NB1637_1638.out
         have hnb107 := NB1638_1639.out
         have hnc107 := NB1639_1638.out
         obtain ⟨hcz108_0, hcz108_1, hcz108_2, hfz108_0, hfz108_1, hfz108_2⟩ := cl3 BK1638.out
         have hnb109 := NB1637_1639.out
         have hnc109 := NB1639_1637.out
         obtain ⟨hcz110_0, hcz110_1, hcz110_2, hcz110_3, hcz110_4, hcz110_5, hcz110_6, hcz110_7, hfz110_0, hfz110_1, hfz110_2, hfz110_3, hfz110_4, hfz110_5, hfz110_6, hfz110_7⟩ := cl8 BK1637.out
         go_wp2
         go_loopg [6, 77] kj2 (fun kq v6 v77 w' => ∃ (x6_2 : Int) (x77_2 : Int), v6 = .int .i64 x6_2 ∧ v77 = .int .i64 x77_2 ∧ Aside0 (impl_DoAct.l0 kq x6_2 l0_6 (l0_6.length : Int) x77_2 a0_0 a0_1 a0_2 l0_3 a0_4 a0_5 l0_6 a0_7 = some (r1, r2, r3, r4, r5, r6, r7, r8, r9)) ∧ Aside0 (kq ≤ kj2) ∧ Aside0 (w'.heap[gb1637]? = some (.cells #[.int .i64 a0_0, .int .i64 a0_1, .int .i64 a0_2, (.slice A0_3 l0_3.length c0_3), .int .i64 a0_4, .int .i64 a0_5, (.slice A0_6 l0_6.length c0_6), .int .i64 a0_7] 38 (0, 0))) ∧ Aside0 (w'.heap[gb1638]? = some (.cells #[.int .i64 a1_0, .int .i64 a1_1, .int .i64 a1_2] 53 (0, 0))) ∧ Aside0 (w'.heap[gb1639]? = some (.cells #[.int .i64 0, .int .i64 0, .int .i64 0, (.slice none 0 0), .int .i64 0, .int .i64 0, (.slice none 0 0), .int .i64 0] 38 (0, 0))) ∧ Aside0 (Below w.heap.size w w'))
         case atStart => exact ⟨(0), (0), (by first | rfl | (simp; done) | (simp [*]; done)), (by first | rfl | (simp; done) | (simp [*]; done)), H', ⟨Nat.le_refl _⟩, ⟨zK BK1637⟩, ⟨zK BK1638⟩, ⟨zK BK1639⟩, ⟨zH3 HB GE1637 GE1638 GE1639⟩⟩
         case round =>
          clear H'
          try clear c1
          try clear c2
          try clear p2
          try clear c3
          try clear c4
          try clear c5
          try clear c6
          try clear c7
          try clear c8
          try clear c9
          try clear c10
          try clear c11
          try clear c14
          try clear c17
          try clear c18
          try clear c21
          try clear c23
          try clear c24
          try clear c25
          try clear c27
          try clear c29
          try clear c31
          try clear c31b0
          try clear c31b1
          try clear c32
          try clear c34
          try clear c35
          try clear c37
          try clear c46
          try clear c46b0
          try clear c46b1
          try clear c48
          try clear c49
          try clear c50
          try clear c52
          try clear c61
          try clear c61b0
          try clear c61b1
          try clear c64
          try clear c65
          try clear c67
          try clear c76
          try clear c76b0
          try clear c76b1
          try clear c79
          try clear c80
          try clear c82
          try clear c87
          try clear c91
          try clear c91b0
          try clear c91b1
          try clear c94
          try clear c95
          try clear c97
          try clear c106
          try clear c107
          try clear c109
          try clear hcz103_0
          try clear hcz103_1
          try clear hcz103_2
          try clear hcz103_3
          try clear hcz103_4
          try clear hcz103_5
          try clear hcz103_6
          try clear hcz103_7
          try clear hcz108_0
          try clear hcz108_1
          try clear hcz108_2
          try clear hcz110_0
          try clear hcz110_1
          try clear hcz110_2
          try clear hcz110_3
          try clear hcz110_4
          try clear hcz110_5
          try clear hcz110_6
          try clear hcz110_7
          try clear hcz12_0
          try clear hcz12_1
          try clear hcz12_2
          try clear hcz12_3
          try clear hcz12_4
          try clear hcz12_5
          try clear hcz12_6
          try clear hcz12_7
          try clear hcz15_0
          try clear hcz15_1
          try clear hcz15_2
          try clear hcz19_0
          try clear hcz19_1
          try clear hcz19_2
          try clear hcz19_3
          try clear hcz19_4
          try clear hcz19_5
          try clear hcz19_6
          try clear hcz19_7
          try clear hcz25_0
          try clear hcz25_1
          try clear hcz25_2
          try clear hcz25_3
          try clear hcz25_4
          try clear hcz25_5
          try clear hcz25_6
          try clear hcz25_7
          try clear hcz28_0
          try clear hcz28_1
          try clear hcz28_2
          try clear hcz28_3
          try clear hcz28_4
          try clear hcz28_5
          try clear hcz28_6
          try clear hcz28_7
          try clear hcz36_0
          try clear hcz36_1
          try clear hcz36_2
          try clear hcz38_0
          try clear hcz38_1
          try clear hcz38_2
          try clear hcz38_3
          try clear hcz38_4
          try clear hcz38_5
          try clear hcz38_6
          try clear hcz38_7
          try clear hcz43_0
          try clear hcz43_1
          try clear hcz43_2
          try clear hcz43_3
          try clear hcz43_4
          try clear hcz43_5
          try clear hcz43_6
          try clear hcz43_7
          try clear hcz51_0
          try clear hcz51_1
          try clear hcz51_2
          try clear hcz53_0
          try clear hcz53_1
          try clear hcz53_2
          try clear hcz53_3
          try clear hcz53_4
          try clear hcz53_5
          try clear hcz53_6
          try clear hcz53_7
          try clear hcz58_0
          try clear hcz58_1
          try clear hcz58_2
          try clear hcz58_3
          try clear hcz58_4
          try clear hcz58_5
          try clear hcz58_6
          try clear hcz58_7
          try clear hcz66_0
          try clear hcz66_1
          try clear hcz66_2
          try clear hcz68_0
          try clear hcz68_1
          try clear hcz68_2
          try clear hcz68_3
          try clear hcz68_4
          try clear hcz68_5
          try clear hcz68_6
          try clear hcz68_7
          try clear hcz73_0
          try clear hcz73_1
          try clear hcz73_2
          try clear hcz73_3
          try clear hcz73_4
          try clear hcz73_5
          try clear hcz73_6
          try clear hcz73_7
          try clear hcz81_0
          try clear hcz81_1
          try clear hcz81_2
          try clear hcz83_0
          try clear hcz83_1
          try clear hcz83_2
          try clear hcz83_3
          try clear hcz83_4
          try clear hcz83_5
          try clear hcz83_6
          try clear hcz83_7
          try clear hcz88_0
          try clear hcz88_1
          try clear hcz88_2
          try clear hcz88_3
          try clear hcz88_4
          try clear hcz88_5
          try clear hcz88_6
          try clear hcz88_7
          try clear hcz96_0
          try clear hcz96_1
          try clear hcz96_2
          try clear hcz98_0
          try clear hcz98_1
          try clear hcz98_2
          try clear hcz98_3
          try clear hcz98_4
          try clear hcz98_5
          try clear hcz98_6
          try clear hcz98_7
          try clear hfz103_0
          try clear hfz103_1
          try clear hfz103_2
          try clear hfz103_3
          try clear hfz103_4
          try clear hfz103_5
          try clear hfz103_6
          try clear hfz103_7
          try clear hfz108_0
          try clear hfz108_1
          try clear hfz108_2
          try clear hfz110_0
          try clear hfz110_1
          try clear hfz110_2
          try clear hfz110_3
          try clear hfz110_4
          try clear hfz110_5
          try clear hfz110_6
          try clear hfz110_7
          try clear hfz12_0
          try clear hfz12_1
          try clear hfz12_2
          try clear hfz12_3
          try clear hfz12_4
          try clear hfz12_5
          try clear hfz12_6
          try clear hfz12_7
          try clear hfz15_0
          try clear hfz15_1
          try clear hfz15_2
          try clear hfz19_0
          try clear hfz19_1
          try clear hfz19_2
          try clear hfz19_3
          try clear hfz19_4
          try clear hfz19_5
          try clear hfz19_6
          try clear hfz19_7
          try clear hfz25_0
          try clear hfz25_1
          try clear hfz25_2
          try clear hfz25_3
          try clear hfz25_4
          try clear hfz25_5
          try clear hfz25_6
          try clear hfz25_7
          try clear hfz28_0
          try clear hfz28_1
          try clear hfz28_2
          try clear hfz28_3
          try clear hfz28_4
          try clear hfz28_5
          try clear hfz28_6
          try clear hfz28_7
          try clear hfz36_0
          try clear hfz36_1
          try clear hfz36_2
          try clear hfz38_0
          try clear hfz38_1
          try clear hfz38_2
          try clear hfz38_3
          try clear hfz38_4
          try clear hfz38_5
          try clear hfz38_6
          try clear hfz38_7
          try clear hfz43_0
          try clear hfz43_1
          try clear hfz43_2
          try clear hfz43_3
          try clear hfz43_4
          try clear hfz43_5
          try clear hfz43_6
          try clear hfz43_7
          try clear hfz51_0
          try clear hfz51_1
          try clear hfz51_2
          try clear hfz53_0
          try clear hfz53_1
          try clear hfz53_2
          try clear hfz53_3
          try clear hfz53_4
          try clear hfz53_5
          try clear hfz53_6
          try clear hfz53_7
          try clear hfz58_0
          try clear hfz58_1
          try clear hfz58_2
          try clear hfz58_3
          try clear hfz58_4
          try clear hfz58_5
          try clear hfz58_6
          try clear hfz58_7
          try clear hfz66_0
          try clear hfz66_1
          try clear hfz66_2
          try clear hfz68_0
          try clear hfz68_1
          try clear hfz68_2
          try clear hfz68_3
          try clear hfz68_4
          try clear hfz68_5
          try clear hfz68_6
          try clear hfz68_7
          try clear hfz73_0
          try clear hfz73_1
          try clear hfz73_2
          try clear hfz73_3
          try clear hfz73_4
          try clear hfz73_5
          try clear hfz73_6
          try clear hfz73_7
          try clear hfz81_0
          try clear hfz81_1
          try clear hfz81_2
          try clear hfz83_0
          try clear hfz83_1
          try clear hfz83_2
          try clear hfz83_3
          try clear hfz83_4
          try clear hfz83_5
          try clear hfz83_6
          try clear hfz83_7
          try clear hfz88_0
          try clear hfz88_1
          try clear hfz88_2
          try clear hfz88_3
          try clear hfz88_4
          try clear hfz88_5
          try clear hfz88_6
          try clear hfz88_7
          try clear hfz96_0
          try clear hfz96_1
          try clear hfz96_2
          try clear hfz98_0
          try clear hfz98_1
          try clear hfz98_2
          try clear hfz98_3
          try clear hfz98_4
          try clear hfz98_5
          try clear hfz98_6
          try clear hfz98_7
          try clear p2
          obtain ⟨x6_2, x77_2, rfl, rfl, HA, HK2, BK1637, BK1638, BK1639, HB⟩ := hrel
          cases gk with
          | zero => exact absurd HA.out (by simp [impl_DoAct.l0])
          | succ k2 =>
           have H := HA.out
           clear HA
           simp only [impl_DoAct.l0] at H
           by_cases c111 : x77_2 < (l0_6.length : Int)
           ·rw [if_pos c111] at H
            have c111b0 : decide (x77_2 < (l0_6.length : Int)) = true := decide_eq_true c111
            clear c111
            by_cases c112 : 0 ≤ x77_2
            ·rw [if_pos c112] at H
             have c112b0 : decide (0 ≤ x77_2) = true := decide_eq_true c112
             clear c112
             by_cases c113 : x77_2 < (l0_6.length : Int)
             ·rw [if_pos c113] at H
              have c113b0 : decide (x77_2 < (l0_6.length : Int)) = true := decide_eq_true c113
              clear c113
              replace H := Option.bind_eq_some_iff.mp H
              obtain ⟨⟨t1785, t1786, t1787⟩, A1140, H⟩ := H
              replace H : ((impl_DistanceOf.f k2 t1785 t1786 t1787 (rd l0_6 x77_2) a0_5).bind fun t1788 => (impl_DoAct.l0 k2 (mx x6_2 t1788) l0_6 (l0_6.length : Int) (wrap64 (x77_2 + 1)) a0_0 a0_1 a0_2 l0_3 a0_4 a0_5 l0_6 a0_7)) = some (r1, r2, r3, r4, r5, r6, r7, r8, r9) := H
              have A114 := aK A1140
              clear A1140
              replace H := Option.bind_eq_some_iff.mp H
              obtain ⟨t1788, A1150, H⟩ := H
              replace H : (impl_DoAct.l0 k2 (mx x6_2 t1788) l0_6 (l0_6.length : Int) (wrap64 (x77_2 + 1)) a0_0 a0_1 a0_2 l0_3 a0_4 a0_5 l0_6 a0_7) = some (r1, r2, r3, r4, r5, r6, r7, r8, r9) := H
              have A115 := aK A1150
              clear A1150
              obtain ⟨ji116, hji116⟩ : ∃ j_ : Int, (mx x6_2 t1788) = j_ := ⟨_, rfl⟩
              replace H : (impl_DoAct.l0 k2 ji116 l0_6 (l0_6.length : Int) (wrap64 (x77_2 + 1)) a0_0 a0_1 a0_2 l0_3 a0_4 a0_5 l0_6 a0_7) = some (r1, r2, r3, r4, r5, r6, r7, r8, r9) := by first | (rw [hji116] at H; exact H) | (simp only [hji116] at H ⊢; exact H)
              (try rw [hji116] at A114)
              (try rw [hji116] at A115)
              have hji116_ : (if x6_2 < t1788 then t1788 else x6_2) = ji116 := hji116
              have H' := aK H
              clear H
              have p1784 : 0 ≤ (x77_2 : Int) := of_decide_eq_true (by first | (with_reducible assumption) | assumption)
              have q1784 : x77_2 < (l0_6.length : Int) := of_decide_eq_true (by first | (with_reducible assumption) | assumption)
              obtain ⟨ad1784, e1784, hx1784_0⟩ := Kd.at_int HR0_6.out x77_2 p1784 q1784
              cases e1784
              replace hx1784_0 := (HB.out.cell (World.block_lt_of_cell? w _ hx1784_0)).trans hx1784_0
              replace p1784 := eq_true p1784
              replace q1784 := eq_true q1784
              try go_wp2
              have n0_ := aK (kD BK1637.out)
              have n1_ := aK (kD BK1638.out)
              have n2_ := aK (kD BK1639.out)
              have n3_ := aK (bD1 HB.out)
              clear BK1637
              clear BK1638
              clear BK1639
              clear HB
              have BK1637 := n0_
              have BK1638 := n1_
              have BK1639 := n2_
              have HB := n3_
              clear n0_ n1_ n2_ n3_
              refine start_ (n := 10) (S := fun w' => w'.cell? ⟨gb1637, 0, none⟩ = some (.int .i64 a0_0) ∧ w'.cell? ⟨gb1637, 1, none⟩ = some (.int .i64 a0_1) ∧ w'.cell? ⟨gb1637, 2, none⟩ = some (.int .i64 a0_2) ∧ w'.cell? ⟨gb1637, 3, none⟩ = some (.slice A0_3 l0_3.length c0_3) ∧ w'.cell? ⟨gb1637, 4, none⟩ = some (.int .i64 a0_4) ∧ w'.cell? ⟨gb1637, 5, none⟩ = some (.int .i64 a0_5) ∧ w'.cell? ⟨gb1637, 6, none⟩ = some (.slice (some ad1784) l0_6.length c0_6) ∧ w'.cell? ⟨gb1637, 7, none⟩ = some (.int .i64 a0_7)) (ds := []) #[bN,bN,bN,bN,bN,bN,bN,bN,bN,bN] (by kernel_rfl) rfl rfl ⟨zQ BK1637 0, zQ BK1637 1, zQ BK1637 2, zQ BK1637 3, zQ BK1637 4, zQ BK1637 5, zQ BK1637 6, zQ BK1637 7⟩ (fun hHeld => ?_); refine with_tabW impl_DoAct.tab18 impl_DoAct.bits18 (fun HT_ HW_ => ?_)
              generalize wr.drew = w117 at BK1637 BK1638 BK1639 HB hHeld ⊢
              refine pure_ (i := 0) (N := some 81) (v := ?_) (a' := ?_) #[bY,bN,bN,bN,bN,bN,bN,bN,bN,bN] rfl rfl (any_of HT_.out (by kernel_rfl)) (fun _ _ _ h => h) (Or.inl ⟨by rfl, ?_⟩) ?_ ?_
              rotate_left
              ·intro w'
               go_simp
               with_reducible rfl
              rotate_left
              ·simp only [Act.put, sTA, sZ, sS, i64_w, i32_w]
               rfl
              refine pure_ (i := 1) (N := some 82) (v := ?_) (a' := ?_) #[bY,bY,bN,bN,bN,bN,bN,bN,bN,bN] rfl rfl (any_of HT_.out (by kernel_rfl)) (fun _ _ _ h => h) (Or.inl ⟨by rfl, ?_⟩) ?_ ?_
              rotate_left
              ·intro w'
               go_simp
               with_reducible rfl
              rotate_left
              ·simp only [Act.put, sTA, sZ, sS, i64_w, i32_w]
               rfl
              refine pure_ (i := 4) (N := some 85) (v := ?_) (a' := ?_) #[bY,bY,bN,bN,bY,bN,bN,bN,bN,bN] rfl rfl (any_of HT_.out (by kernel_rfl)) (fun _ _ _ h => h) (Or.inl ⟨by rfl, ?_⟩) ?_ ?_
              rotate_left
              ·intro w'
               go_simp
               with_reducible rfl
              rotate_left
              ·simp only [Act.put, sTA, sZ, sS, i64_w, i32_w]
               rfl
              refine pure_ (i := 5) (N := some 86) (v := ?_) (a' := ?_) #[bY,bY,bN,bN,bY,bY,bN,bN,bN,bN] rfl rfl (any_of HT_.out (by kernel_rfl)) (fun _ _ _ h => h) (Or.inl ⟨by rfl, ?_⟩) ?_ ?_
              rotate_left
              ·intro w'
               go_simp
               with_reducible rfl
              rotate_left
              ·simp only [Act.put, sTA, sZ, sS, i64_w, i32_w]
               rfl
              refine take_ (i := 2) (N := some 83) (v := ?_) (a' := ?_) #[bY,bY,bY,bN,bY,bY,bN,bN,bN,bN] rfl rfl (take_ofW HT_.out HW_.out (by kernel_rfl)) (fun _ _ _ h => h) (Or.inl ⟨by rfl, ?_⟩) hHeld ?_ ?_
              rotate_left
              ·rintro w' ⟨s0, s1, s2, s3, s4, s5, s6, s7⟩
               go_simp
               with_reducible rfl
              rotate_left
              ·simp only [Act.put, sTA, sZ, sS, i64_w, i32_w]
               rfl
              refine take_ (i := 6) (N := some 87) (v := ?_) (a' := ?_) #[bY,bY,bY,bN,bY,bY,bY,bN,bN,bN] rfl rfl (take_ofW HT_.out HW_.out (by kernel_rfl)) (fun _ _ _ h => h) (Or.inl ⟨by rfl, ?_⟩) hHeld ?_ ?_
              rotate_left
              ·rintro w' ⟨s0, s1, s2, s3, s4, s5, s6, s7⟩
               go_simp
               with_reducible rfl
              rotate_left
              ·simp only [Act.put, sTA, sZ, sS, i64_w, i32_w]
               rfl
              refine one_ (i := 3) (N := some 84) #[bY,bY,bY,bY,bY,bY,bY,bN,bN,bN] rfl rfl (one_of HT_.out (by kernel_rfl)) (by decide) (fun K hK => ?_)
              refine goes_ Tryz.func50 (by kernel_rfl) rfl #[.agg #[.int .i64 a0_0, .int .i64 a0_1, .int .i64 a0_2, .slice A0_3 l0_3.length c0_3, .int .i64 a0_4]] (by rfl) rfl rfl zD ?_
              with_reducible refine (impl_OpenNow.calls k2 a0_0 a0_1 a0_2 _ _ l0_3 a0_4 t1785 t1786 t1787 _ ?side1 ?side2 A114.out).mono ?_
              (case side1 => exact zC (Kd.C_below HR0_3.out HB.out))
              (case side2 => exact HC0_3.out)
              rintro e w118 ⟨rfl, hb⟩
              refine ⟨_, rfl, ?_⟩
              have n0_ := zB BK1637 hb
              have n1_ := zB BK1638 hb
              have n2_ := zB BK1639 hb
              have n3_ := aK (bSp (zH3 HB GE1637 GE1638 GE1639) hb)
              clear BK1637
              clear BK1638
              clear BK1639
              clear HB
              have BK1637 := n0_
              have BK1638 := n1_
              have BK1639 := n2_
              have HB := n3_
              clear n0_ n1_ n2_ n3_
              (try clear hb)
              (try clear hb2)
              (try clear hk)
              (try clear hi)
              refine hK.out _ _ ⟨zQ BK1637 0, zQ BK1637 1, zQ BK1637 2, zQ BK1637 3, zQ BK1637 4, zQ BK1637 5, zQ BK1637 6, zQ BK1637 7⟩ (fun hHeld => ?_)
              clear hK K
              refine norm_ (a' := ?_) ?_ ?_
              rotate_left
              ·show Act.put _ (some 84) _ = _
               simp only [Act.put, sTA, sZ, sS, i64_w, i32_w]
               rfl
              refine one_ (i := 7) (N := some 88) #[bY,bY,bY,bY,bY,bY,bY,bY,bN,bN] rfl rfl (one_of HT_.out (by kernel_rfl)) (by decide) (fun K hK => ?_)
              refine goes_ Tryz.func53 (by kernel_rfl) rfl #[.agg #[.int .i64 t1785, .int .i64 t1786, .int .i64 t1787], .int .i64 (rd l0_6 x77_2), .int .i64 a0_5] (by rfl) rfl rfl zD ?_
              with_reducible refine (impl_DistanceOf.calls k2 t1785 t1786 t1787 (rd l0_6 x77_2) a0_5 t1788 _ A115.out).mono ?_
              rintro e w119 ⟨rfl, hb⟩
              refine ⟨_, rfl, ?_⟩
              have n0_ := zB BK1637 hb
              have n1_ := zB BK1638 hb
              have n2_ := zB BK1639 hb
              have n3_ := aK (bSp (zH3 HB GE1637 GE1638 GE1639) hb)
              clear BK1637
              clear BK1638
              clear BK1639
              clear HB
              have BK1637 := n0_
              have BK1638 := n1_
              have BK1639 := n2_
              have HB := n3_
              clear n0_ n1_ n2_ n3_
              (try clear hb)
              (try clear hb2)
              (try clear hk)
              (try clear hi)
              refine hK.out _ _ ⟨zQ BK1637 0, zQ BK1637 1, zQ BK1637 2, zQ BK1637 3, zQ BK1637 4, zQ BK1637 5, zQ BK1637 6, zQ BK1637 7⟩ (fun hHeld => ?_)
              clear hK K
              refine norm_ (a' := ?_) ?_ ?_
              rotate_left
              ·show Act.put _ (some 88) _ = _
               simp only [Act.put, sTA, sZ, sS, i64_w, i32_w]
               rfl
              refine pure_ (i := 8) (N := some 89) (v := ?_) (a' := ?_) #[bY,bY,bY,bY,bY,bY,bY,bY,bY,bN] rfl rfl (any_of HT_.out (by kernel_rfl)) (fun _ _ _ h => h) (Or.inl ⟨by rfl, ?_⟩) ?_ ?_
              rotate_left
              ·intro w'
               go_simp
               with_reducible rfl
              rotate_left
              ·simp only [Act.put, sTA, sZ, sS, i64_w, i32_w]
               rfl
              refine pure_ (i := 9) (N := some 6) (v := ?_) (a' := ?_) #[bY,bY,bY,bY,bY,bY,bY,bY,bY,bY] rfl rfl (any_of HT_.out (by kernel_rfl)) (fun _ _ _ h => h) (Or.inl ⟨by rfl, ?_⟩) ?_ ?_
              rotate_left
              ·intro w'
               go_simp
               with_reducible rfl
              rotate_left
              ·simp only [Act.put, sTA, sZ, sS, i64_w, i32_w]
               rfl
              refine done_ (done_of HT_.out (by kernel_rfl)) ?_
              try go_wp2
              go_roundg k2
              case measure => have := HJ2.out; have := HK2.out; omega
              case rel => exact ⟨(ji116), (wrap64 (x77_2 + 1)), (by first | rfl | (simp; done) | (simp only [← hji116] <;> (first | rfl | simp)) | (simp [*]; done)), (by first | rfl | (simp; done) | (simp [*]; done)), H', ⟨by have := HJ2.out; have := HK2.out; omega⟩, ⟨zK BK1637⟩, ⟨zK BK1638⟩, ⟨zK BK1639⟩, ⟨zH3 HB GE1637 GE1638 GE1639⟩⟩
             ·rw [if_neg c113] at H
              exact absurd H (by simp)
            ·rw [if_neg c112] at H
             exact absurd H (by simp)
           ·rw [if_neg c111] at H
            have c111b0 : decide (x77_2 < (l0_6.length : Int)) = false := decide_eq_false c111
            clear c111
            replace H := Option.bind_eq_some_iff.mp H
            obtain ⟨⟨t1789, t1790, t1791, t1792, t1795, t1796, t1797, t1800⟩, A1200, H⟩ := H
            replace H : (some (t1789, t1790, t1791, t1792, t1795, t1796, t1797, t1800, x6_2)) = some (r1, r2, r3, r4, r5, r6, r7, r8, r9) := H
            have A120 := aK A1200
            clear A1200
            simp only [Option.some.injEq, Prod.mk.injEq] at H
            obtain ⟨rfl, rfl, rfl, rfl, rfl, rfl, rfl, rfl, rfl⟩ := H
            have hnb121 := NB1637_1638.out
            have hnc121 := NB1638_1637.out
            have hnb122 := NB1637_1639.out
            have hnc122 := NB1639_1637.out
            obtain ⟨hcz123_0, hcz123_1, hcz123_2, hcz123_3, hcz123_4, hcz123_5, hcz123_6, hcz123_7, hfz123_0, hfz123_1, hfz123_2, hfz123_3, hfz123_4, hfz123_5, hfz123_6, hfz123_7⟩ := cl8 BK1637.out
            go_wp2_with (first | ((with_reducible refine gate_callee (f := 64) rfl ?_); refine goesL_ (some 92) rfl rfl Tryz.func64 (by kernel_rfl) rfl #[.agg #[.int .i64 a0_0, .int .i64 a0_1, .int .i64 a0_2, .slice A0_3 l0_3.length c0_3, .int .i64 a0_4, .int .i64 a0_5, .slice A0_6 l0_6.length c0_6, .int .i64 a0_7]] rfl zD ?_; (with_reducible refine (impl_copyGarden.calls a0_0 a0_1 a0_2 _ _ l0_3 a0_4 a0_5 _ _ l0_6 a0_7 t1789 t1790 t1791 t1792 t1795 t1796 t1797 t1800 _ ?side1 ?side2 ?side3 ?side4 A120.out).mono ?_); (case side1 => exact zC (Kd.C_below HR0_3.out HB.out)); (case side2 => exact HC0_3.out); (case side3 => exact zC (Kd.C_below HR0_6.out HB.out)); (case side4 => exact HC0_6.out); rintro e w124 ⟨v1793, v1798, rfl, ho0, ho1, hb⟩; refine ⟨_, rfl, ?_⟩; have HO1794 := aK (Kd.R_lower ho0 (bSz (zH3 HB GE1637 GE1638 GE1639))); have HO1799 := aK (Kd.R_lower ho1 (bSz (zH3 HB GE1637 GE1638 GE1639))); replace BK1637 := zB BK1637 hb; replace BK1638 := zB BK1638 hb; replace BK1639 := zB BK1639 hb; replace HB := aK (bSp (zH3 HB GE1637 GE1638 GE1639) hb); (try clear hb); (try clear hb2); (try clear hk); (try clear hi); (try clear ho0); (try clear ho1); have hnb125 := NB1639_1638.out; have hnc125 := NB1638_1639.out; obtain ⟨hcz126_0, hcz126_1, hcz126_2, hcz126_3, hcz126_4, hcz126_5, hcz126_6, hcz126_7, hfz126_0, hfz126_1, hfz126_2, hfz126_3, hfz126_4, hfz126_5, hfz126_6, hfz126_7⟩ := cl8 BK1639.out; obtain ⟨Ao127, co127, eo127⟩ := Kd.R_slice HO1794.out; subst eo127; obtain ⟨Ao128, co128, eo128⟩ := Kd.R_slice HO1799.out; subst eo128))
            refine bodyPost_ret (results_ct rfl _ _ gb1639 38 #[.int .i64 t1789, .int .i64 t1790, .int .i64 t1791, .slice Ao127 t1792.length co127, .int .i64 t1795, .int .i64 t1796, .slice Ao128 t1797.length co128, .int .i64 t1800] (0, 0) _ rfl (by (with_reducible repeat (first | refine blk_drewN ?_ _ | refine kD ?_ | refine kA ?_ _)); refine blk_put (cs := #[.int .i64 t1789, .int .i64 t1790, .int .i64 t1791, .slice Ao127 t1792.length co127, .int .i64 t1795, .int .i64 t1796, .slice Ao128 t1797.length co128, .int .i64 0]) ?_ 7 _ rfl; (with_reducible repeat (first | refine blk_drewN ?_ _ | refine kD ?_ | refine kA ?_ _)); refine blk_put (cs := #[.int .i64 t1789, .int .i64 t1790, .int .i64 t1791, .slice Ao127 t1792.length co127, .int .i64 t1795, .int .i64 t1796, .slice none 0 0, .int .i64 0]) ?_ 6 _ rfl; (with_reducible repeat (first | refine blk_drewN ?_ _ | refine kD ?_ | refine kA ?_ _)); refine blk_put (cs := #[.int .i64 t1789, .int .i64 t1790, .int .i64 t1791, .slice Ao127 t1792.length co127, .int .i64 t1795, .int .i64 0, .slice none 0 0, .int .i64 0]) ?_ 5 _ rfl; (with_reducible repeat (first | refine blk_drewN ?_ _ | refine kD ?_ | refine kA ?_ _)); refine blk_put (cs := #[.int .i64 t1789, .int .i64 t1790, .int .i64 t1791, .slice Ao127 t1792.length co127, .int .i64 0, .int .i64 0, .slice none 0 0, .int .i64 0]) ?_ 4 _ rfl; (with_reducible repeat (first | refine blk_drewN ?_ _ | refine kD ?_ | refine kA ?_ _)); refine blk_put (cs := #[.int .i64 t1789, .int .i64 t1790, .int .i64 t1791, .slice none 0 0, .int .i64 0, .int .i64 0, .slice none 0 0, .int .i64 0]) ?_ 3 _ rfl; (with_reducible repeat (first | refine blk_drewN ?_ _ | refine kD ?_ | refine kA ?_ _)); refine blk_put (cs := #[.int .i64 t1789, .int .i64 t1790, .int .i64 0, .slice none 0 0, .int .i64 0, .int .i64 0, .slice none 0 0, .int .i64 0]) ?_ 2 _ rfl; (with_reducible repeat (first | refine blk_drewN ?_ _ | refine kD ?_ | refine kA ?_ _)); refine blk_put (cs := #[.int .i64 t1789, .int .i64 0, .int .i64 0, .slice none 0 0, .int .i64 0, .int .i64 0, .slice none 0 0, .int .i64 0]) ?_ 1 _ rfl; (with_reducible repeat (first | refine blk_drewN ?_ _ | refine kD ?_ | refine kA ?_ _)); refine blk_put (cs := #[.int .i64 0, .int .i64 0, .int .i64 0, .slice none 0 0, .int .i64 0, .int .i64 0, .slice none 0 0, .int .i64 0]) ?_ 0 _ rfl; (with_reducible repeat (first | refine blk_drewN ?_ _ | refine kD ?_ | refine kA ?_ _)); exact BK1639.out) Tryz.underlying38 rfl (by kernel_rfl)) rfl ?_
            exact ⟨_, _, by first | rfl | (simp [errW_none, errW_some] <;> rfl) | (simp [*, errW_none, errW_some] <;> rfl), by (with_reducible repeat (first | apply Kd.R_alloc | apply Kd.R_drewN | apply Kd.R_drew)); exact Kd.R_mono (zT8 HO1794 BK1639 (.int .i64 t1789) (.int .i64 t1790) (.int .i64 t1791) (.slice Ao127 t1792.length co127) (.int .i64 t1795) (.int .i64 t1796) (.slice Ao128 t1797.length co128) (.int .i64 t1800)) (fun _ hk => hk.1), by (with_reducible repeat (first | apply Kd.R_alloc | apply Kd.R_drewN | apply Kd.R_drew)); exact Kd.R_mono (zT8 HO1799 BK1639 (.int .i64 t1789) (.int .i64 t1790) (.int .i64 t1791) (.slice Ao127 t1792.length co127) (.int .i64 t1795) (.int .i64 t1796) (.slice Ao128 t1797.length co128) (.int .i64 t1800)) (fun _ hk => hk.1), by repeat (first | (with_reducible first | exact HB.out | apply bAl | apply bDN | apply bD1 | refine bSt ?_ GE1637.out | refine bSt ?_ GE1638.out | refine bSt ?_ GE1639.out) | exact HB.out)⟩
theorem impl_DoAct.ctr {k : Nat} {a0_0 : Int} {a0_1 : Int} {a0_2 : Int} {l0_3 : List Int} {a0_4 : Int} {a0_5 : Int} {l0_6 : List Int} {a0_7 : Int} {a1_0 : Int} {a1_1 : Int} {a1_2 : Int} {r1 : Int} {r2 : Int} {r3 : Int} {r4 : List Int} {r5 : Int} {r6 : Int} {r7 : List Int} {r8 : Int} {r9 : Int} (h : impl_DoAct.f k a0_0 a0_1 a0_2 l0_3 a0_4 a0_5 l0_6 a0_7 a1_0 a1_1 a1_2 = some (r1, r2, r3, r4, r5, r6, r7, r8, r9)) : Ctr Tryz.prog 32 [.ag [.v (.int .i64 a0_0), .v (.int .i64 a0_1), .v (.int .i64 a0_2), .pr 1 (l0_3.map eI), .v (.int .i64 a0_4), .v (.int .i64 a0_5), .pr 1 (l0_6.map eI), .v (.int .i64 a0_7)], .ag [.v (.int .i64 a1_0), .v (.int .i64 a1_1), .v (.int .i64 a1_2)]] (.tu [.ag [.v (.int .i64 r1), .v (.int .i64 r2), .v (.int .i64 r3), .ow 3 1 (r4.map eI), .v (.int .i64 r5), .v (.int .i64 r6), .ow 3 1 (r7.map eI), .v (.int .i64 r8)], .v (.int .i64 r9)]) := by
  refine ⟨enters_of Tryz.func32 rfl rfl, fun w ys hys => ?_⟩
  simp only [RepL, Rep] at hys
  obtain ⟨_, _, rfl, ⟨_, rfl, _, _, rfl, rfl, _, _, rfl, rfl, _, _, rfl, rfl, _, _, rfl, q1, _, _, rfl, rfl, _, _, rfl, rfl, _, _, rfl, q2, _, _, rfl, rfl, rfl⟩, _, _, rfl, ⟨_, rfl, _, _, rfl, rfl, _, _, rfl, rfl, _, _, rfl, rfl, rfl⟩, rfl⟩ := hys
  obtain ⟨_, _, rfl, hr1, hc1⟩ := C_of_at E_eI q1
  obtain ⟨_, _, rfl, hr2, hc2⟩ := C_of_at E_eI q2
  refine (impl_DoAct.calls _ _ _ _ _ _ _ _ _ _ _ _ _ _ _ _ _ _ _ _ _ _ _ _ _ w hr1 hc1 hr2 hc2 h).mono ?_
  rintro _ w' ⟨v1, v2, rfl, h1, h2, hb⟩
  have o1 := row_of_R E_eI h1
  have o2 := row_of_R E_eI h2
  refine ⟨_, (bk v1).toList ++ (bk v2).toList, rfl, ?_, by simpa using nd_own o1 o2 h1.1, hb⟩
  simp only [RepR, RepRL]
  exact ⟨_, rfl, _, _, (bk v1).toList ++ (bk v2).toList, [], rfl, by simp, ⟨_, rfl, _, _, [], (bk v1).toList ++ (bk v2).toList, rfl, by simp, ⟨rfl, rfl⟩, _, _, [], (bk v1).toList ++ (bk v2).toList, rfl, by simp, ⟨rfl, rfl⟩, _, _, [], (bk v1).toList ++ (bk v2).toList, rfl, by simp, ⟨rfl, rfl⟩, _, _, (bk v1).toList, (bk v2).toList, rfl, by simp, ⟨o1, E_eI.row _, E_eI.pos, rfl⟩, _, _, [], (bk v2).toList, rfl, by simp, ⟨rfl, rfl⟩, _, _, [], (bk v2).toList, rfl, by simp, ⟨rfl, rfl⟩, _, _, (bk v2).toList, [], rfl, by simp, ⟨o2, E_eI.row _, E_eI.pos, rfl⟩, _, _, [], [], rfl, by simp, ⟨rfl, rfl⟩, rfl, rfl⟩, _, _, [], [], rfl, by simp, ⟨rfl, rfl⟩, rfl, rfl⟩
end Go.Proofs.YtkindoepnganmaaGreat.F
end

section
namespace Go.Proofs.YtkindoepnganmaaGreat.F
open Go.RowKit Go.Proofs.YtkindoepnganmaaGreatW.PrintWords Go.Proofs.YtkindoepnganmaaGreatW.PrintLast Go.Proofs.YtkindoepnganmaaGreatW.PrintMore
set_option linter.unusedVariables false
set_option linter.unusedSimpArgs false
mutual
def laws_FnTop.l0 : Nat → List (SAct) → Int → Int → Int → Int → List Int → Int → Int → List Int → Int → Option (Bool)
  | 0, _, _, _, _, _, _, _, _, _, _ => none
  | k + 1, x4, x5, x2787000, x2787001, x2787002, x2787003, x2787004, x2787005, x2787006, x2787007 => if x5 < (x4.length : Int) then (if 0 ≤ x5 then ((impl_DoAct.f k x2787000 x2787001 x2787002 x2787003 x2787004 x2787005 x2787006 x2787007 ((rd_Act x4 x5).f0) ((rd_Act x4 x5).f1) ((rd_Act x4 x5).f2)).bind fun bt2788 => ((spec_DoAct.f k x2787000 x2787001 x2787002 x2787003 x2787004 x2787005 x2787006 x2787007 ((rd_Act x4 x5).f0) ((rd_Act x4 x5).f1) ((rd_Act x4 x5).f2)).bind fun bt2803 => (if bt2788.2.2.2.2.2.2.2.2 = bt2803.2.2.2.2.2.2.2.2 then ((impl_GardenOk.f k bt2788.1 bt2788.2.1 bt2788.2.2.1 bt2788.2.2.2.1 bt2788.2.2.2.2.1 bt2788.2.2.2.2.2.1 bt2788.2.2.2.2.2.2.1 bt2788.2.2.2.2.2.2.2.1).bind fun t2817 => (if t2817 = true then ((laws_sameInts.f k bt2788.2.2.2.2.2.2.1 bt2803.2.2.2.2.2.2.1).bind fun t2818 => (if t2818 = true then ((impl_OpenNow.f k bt2788.1 bt2788.2.1 bt2788.2.2.1 bt2788.2.2.2.1 bt2788.2.2.2.2.1).bind fun bt2819 => ((spec_OpenNow.f k bt2803.1 bt2803.2.1 bt2803.2.2.1 bt2803.2.2.2.1 bt2803.2.2.2.2.1).bind fun bt2822 => (if ((!(bt2819.1 == bt2822.1) || (!(bt2819.2.1 == bt2822.2.1))) || (!(bt2819.2.2 == bt2822.2.2))) = true then (some false) else (laws_FnTop.l0 k x4 (wrap64 (x5 + 1)) bt2803.1 bt2803.2.1 bt2803.2.2.1 bt2803.2.2.2.1 bt2803.2.2.2.2.1 bt2803.2.2.2.2.2.1 bt2803.2.2.2.2.2.2.1 bt2803.2.2.2.2.2.2.2.1)))) else (some false))) else (some false))) else (some false)))) else (none)) else (laws_FnTop.l1 k 0 x2787000 x2787001 x2787002 x2787003 x2787004 x2787005 x2787006 x2787007)
def laws_FnTop.l1 : Nat → Int → Int → Int → Int → List Int → Int → Int → List Int → Int → Option (Bool)
  | 0, _, _, _, _, _, _, _, _, _ => none
  | k + 1, x10, x2787000, x2787001, x2787002, x2787003, x2787004, x2787005, x2787006, x2787007 => if (x2787006.length : Int) > 0 then (laws_FnTop.j2 k x10 (decide (x10 < 200)) x2787000 x2787001 x2787002 x2787003 x2787004 x2787005 x2787006 x2787007) else (laws_FnTop.j2 k x10 false x2787000 x2787001 x2787002 x2787003 x2787004 x2787005 x2787006 x2787007)
def laws_FnTop.j2 : Nat → Int → Bool → Int → Int → Int → List Int → Int → Int → List Int → Int → Option (Bool)
  | 0, _, _, _, _, _, _, _, _, _, _ => none
  | k + 1, x10, x82, x2787000, x2787001, x2787002, x2787003, x2787004, x2787005, x2787006, x2787007 => if x82 = true then ((spec_OpenNow.f k x2787000 x2787001 x2787002 x2787003 x2787004).bind fun bt2825 => (laws_FnTop.l2 k x10 0 0 x2787000 x2787001 x2787002 x2787003 x2787004 x2787005 x2787006 x2787007 bt2825.1 bt2825.2.1 bt2825.2.2)) else (if (x2787006.length : Int) = 0 then (some (decide (x10 < 200))) else (some false))
def laws_FnTop.l2 : Nat → Int → Int → Int → Int → Int → Int → List Int → Int → Int → List Int → Int → Int → Int → Int → Option (Bool)
  | 0, _, _, _, _, _, _, _, _, _, _, _, _, _, _ => none
  | k + 1, x10, x12, x13, x2787000, x2787001, x2787002, x2787003, x2787004, x2787005, x2787006, x2787007, x2829000, x2829001, x2829002 => if x13 < (x2787006.length : Int) then (if 0 ≤ x13 then ((spec_DistanceOf.f k x2829000 x2829001 x2829002 (rd x2787006 x13) x2787005).bind fun t2830 => (if 0 ≤ x12 then (if x12 < (x2787006.length : Int) then ((spec_DistanceOf.f k x2829000 x2829001 x2829002 (rd x2787006 x12) x2787005).bind fun t2832 => (if t2830 < t2832 then (laws_FnTop.l2 k x10 x13 (wrap64 (x13 + 1)) x2787000 x2787001 x2787002 x2787003 x2787004 x2787005 x2787006 x2787007 x2829000 x2829001 x2829002) else (laws_FnTop.l2 k x10 x12 (wrap64 (x13 + 1)) x2787000 x2787001 x2787002 x2787003 x2787004 x2787005 x2787006 x2787007 x2829000 x2829001 x2829002))) else (none)) else (none))) else (none)) else (if 0 ≤ x12 then (if x12 < (x2787006.length : Int) then (if (rd x2787006 x12) = x2787005 then ((impl_Leave.f k x2787000 x2787001 x2787002 x2787003 x2787004 x2787005 x2787006 x2787007).bind fun bt2834 => (if bt2834.2.2.2.2.2.2.2.2 = true then (if (bt2834.2.2.2.2.2.2.1.length : Int) = (wrap64 ((x2787006.length : Int) - 1)) then ((spec_GardenOk.f k bt2834.1 bt2834.2.1 bt2834.2.2.1 bt2834.2.2.2.1 bt2834.2.2.2.2.1 bt2834.2.2.2.2.2.1 bt2834.2.2.2.2.2.2.1 bt2834.2.2.2.2.2.2.2.1).bind fun t2848 => (if t2848 = true then (laws_FnTop.l1 k x10 bt2834.1 bt2834.2.1 bt2834.2.2.1 bt2834.2.2.2.1 bt2834.2.2.2.2.1 bt2834.2.2.2.2.2.1 bt2834.2.2.2.2.2.2.1 bt2834.2.2.2.2.2.2.2.1) else (some false))) else (some false)) else (some false))) else ((impl_Guide.f k x2787000 x2787001 x2787002 x2787003 x2787004 x2787005 x2787006 x2787007 x12).bind fun bt2849 => (if bt2849.2.2.2.2.2.2.2.2 = true then (if (bt2849.2.2.2.2.2.2.1.length : Int) = (x2787006.length : Int) then ((spec_GardenOk.f k bt2849.1 bt2849.2.1 bt2849.2.2.1 bt2849.2.2.2.1 bt2849.2.2.2.2.1 bt2849.2.2.2.2.2.1 bt2849.2.2.2.2.2.2.1 bt2849.2.2.2.2.2.2.2.1).bind fun t2863 => (if t2863 = true then (laws_FnTop.l1 k (wrap64 (x10 + 1)) bt2849.1 bt2849.2.1 bt2849.2.2.1 bt2849.2.2.2.1 bt2849.2.2.2.2.1 bt2849.2.2.2.2.2.1 bt2849.2.2.2.2.2.2.1 bt2849.2.2.2.2.2.2.2.1) else (some false))) else (some false)) else (some false)))) else (none)) else (none))
end
def laws_FnTop.f (k : Nat) (l0 : List Int) : Option (Bool) := (laws_big.f l0).bind fun t2770 => (if t2770 = true then (some true) else ((spec_DrawActs.f k l0).bind fun bt2771 => (laws_FnTop.l0 k bt2771.2.2.2.2.2.2.2.2 0 bt2771.1 bt2771.2.1 bt2771.2.2.1 bt2771.2.2.2.1 bt2771.2.2.2.2.1 bt2771.2.2.2.2.2.1 bt2771.2.2.2.2.2.2.1 bt2771.2.2.2.2.2.2.2.1)))
end Go.Proofs.YtkindoepnganmaaGreat.F
end

section
namespace Go.Proofs.YtkindoepnganmaaGreat.F
open Go.RowKit Go.Proofs.YtkindoepnganmaaGreatW.PrintWords Go.Proofs.YtkindoepnganmaaGreatW.PrintLast Go.Proofs.YtkindoepnganmaaGreatW.PrintMore
set_option linter.unusedVariables false
set_option linter.unusedSimpArgs false
attribute [local go_sem] max2_int min2_int max_two min_two
attribute [local go_sem high] eqA34
set_option maxRecDepth 20000 in set_option maxHeartbeats 4000000 in open Nat renaming reduceAdd → p1, reduceSub → p2, reduceMul → p3, reduceDiv → p4, reduceBNe → p5, reduceBEq → p6, reduceEqDiff → p7, reduceLeDiff → p8, reduceLT → p9 in open Int renaming reduceLE → p10, reduceLT → p11, reduceEq → p12 in
theorem laws_FnTop.ctr {k : Nat} {l0 : List Int} {r : Bool} (h : laws_FnTop.f k l0 = some r) : Ctr Tryz.prog 14 [.pr 1 (l0.map eU8)] (.v (.bool r)) := by
  refine Ctr_of tyOk hm Tryz.func14 rfl rfl (by kernel_rfl) (n := 176) (rv := [.tmp 2]) rfl rfl ?_
  simp only [W, List.replicate]
  unfold laws_FnTop.f at h
  replace h := bnd h; obtain ⟨t1, A, h⟩ := h
  try simp only [W, p1, p2, p3, p4, p5, p6, p7, p8, p9, p10, p11, p12]
  refine callR (laws_big.ctr A) ?_
  replace h := ifT h; rcases h with ⟨rfl, h⟩ | ⟨rfl, h⟩
  · cases h
    try simp only [W, p1, p2, p3, p4, p5, p6, p7, p8, p9, p10, p11, p12]
  · replace h := bnd h; obtain ⟨⟨t3_1, t3_2, t3_3, t3_4, t3_5, t3_6, t3_7, t3_8, t3_9⟩, A, h⟩ := h
    dsimp only at h
    try simp only [W, p1, p2, p3, p4, p5, p6, p7, p8, p9, p10, p11, p12]
    refine callR (spec_DrawActs.ctr A) ?_
    try simp only [W, p1, p2, p3, p4, p5, p6, p7, p8, p9, p10, p11, p12]
    refine loopN (fun x : List (SAct) × Int × Int × Int × Int × List Int × Int × Int × List Int × Int => [.u, .u, .u, .bp 48 0, .lo 354, .v (.int .i64 x.2.1), .u, .u, .u, .u, .u, .u, .u, .u, .u, .u, .u, .u, .u, .u, .u, .u, .u, .u, .u, .u, .u, .u, .u, .u, .u, .u, .u, .u, .u, .u, .u, .u, .u, .u, .u, .u, .u, .u, .u, .u, .u, .u, .u, .u, .u, .u, .u, .u, .u, .u, .u, .u, .u, .u, .u, .u, .u, .u, .u, .u, .u, .u, .u, .u, .u, .u, .u, .u, .u, .u, .u, .u, .u, .u, .u, .u, .u, .u, .u, .u, .u, .u, .u, .u, .u, .u, .u, .u, .u, .u, .u, .u, .u, .u, .u, .u, .u, .u, .u, .u, .u, .u, .u, .u, .u, .u, .u, .u, .u, .u, .u, .u, .u, .u, .u, .u, .u, .u, .u, .u, .u, .u, .u, .u, .u, .u, .u, .u, .u, .u, .u, .u, .u, .u, .u, .u, .u, .u, .u, .u, .u, .u, .u, .u, .u, .u, .u, .u, .u, .u, .u, .u, .u, .u, .u, .u, .u, .u, .u, .u, .u, .u, .u, .u, .u, .u, .u, .u, .u, .u, .u]) (fun x => [(48, .box 38 [.v (.int .i64 x.2.2.1), .v (.int .i64 x.2.2.2.1), .v (.int .i64 x.2.2.2.2.1), .lo 352, .v (.int .i64 x.2.2.2.2.2.2.1), .v (.int .i64 x.2.2.2.2.2.2.2.1), .lo 353, .v (.int .i64 x.2.2.2.2.2.2.2.2.2)]), (352, .row 3 1 (List.map eI x.2.2.2.2.2.1)), (353, .row 3 1 (List.map eI x.2.2.2.2.2.2.2.2.1)), (354, .row 53 3 (List.map eAct x.1))]) (fun n x => laws_FnTop.l0 n x.1 x.2.1 x.2.2.1 x.2.2.2.1 x.2.2.2.2.1 x.2.2.2.2.2.1 x.2.2.2.2.2.2.1 x.2.2.2.2.2.2.2.1 x.2.2.2.2.2.2.2.2.1 x.2.2.2.2.2.2.2.2.2 = some r) (t3_9, 0, t3_1, t3_2, t3_3, t3_4, t3_5, t3_6, t3_7, t3_8) [] h (by simp only [W, p1, p2, p3, p4, p5, p6, p7, p8, p9, p10, p11, p12] <;> trivial) (by simp only [W, p1, p2, p3, p4, p5, p6, p7, p8, p9, p10, p11, p12] <;> trivial) rfl (fun _ h => by cases h) ?_
    intro n1 ⟨x4, x5, x6, x7, x8, x9, x10, x11, x12, x13⟩ _ h
    simp only [laws_FnTop.l0] at h
    replace h := ifS h; rcases h with ⟨c14, h⟩ | ⟨c14, h⟩
    · replace h := ifN h; obtain ⟨c15, h⟩ := h
      replace h := bnd h; obtain ⟨⟨t16_1, t16_2, t16_3, t16_4, t16_5, t16_6, t16_7, t16_8, t16_9⟩, A, h⟩ := h
      dsimp only at h
      try simp only [W, c14, c15, p1, p2, p3, p4, p5, p6, p7, p8, p9, p10, p11, p12]
      refine callR (impl_DoAct.ctr A) ?_
      replace h := bnd h; obtain ⟨⟨t17_1, t17_2, t17_3, t17_4, t17_5, t17_6, t17_7, t17_8, t17_9⟩, A, h⟩ := h
      dsimp only at h
      try simp only [W, c14, c15, p1, p2, p3, p4, p5, p6, p7, p8, p9, p10, p11, p12]
      refine callR (spec_DoAct.ctr A) ?_
      replace h := ifS h; rcases h with ⟨c18, h⟩ | ⟨c18, h⟩
      · replace h := bnd h; obtain ⟨t19, A, h⟩ := h
        try simp only [W, c14, c15, eq_true c18, p1, p2, p3, p4, p5, p6, p7, p8, p9, p10, p11, p12]
        refine callR (impl_GardenOk.ctr A) ?_
        replace h := ifT h; rcases h with ⟨rfl, h⟩ | ⟨rfl, h⟩
        · replace h := bnd h; obtain ⟨t21, A, h⟩ := h
          try simp only [W, c14, c15, eq_true c18, p1, p2, p3, p4, p5, p6, p7, p8, p9, p10, p11, p12]
          refine callR (laws_sameInts.ctr A) ?_
          replace h := ifT h; rcases h with ⟨rfl, h⟩ | ⟨rfl, h⟩
          · replace h := bnd h; obtain ⟨⟨t23_1, t23_2, t23_3⟩, A, h⟩ := h
            dsimp only at h
            try simp only [W, c14, c15, eq_true c18, p1, p2, p3, p4, p5, p6, p7, p8, p9, p10, p11, p12]
            refine callR (impl_OpenNow.ctr A) ?_
            replace h := bnd h; obtain ⟨⟨t24_1, t24_2, t24_3⟩, A, h⟩ := h
            dsimp only at h
            try simp only [W, c14, c15, eq_true c18, p1, p2, p3, p4, p5, p6, p7, p8, p9, p10, p11, p12]
            refine callR (spec_OpenNow.ctr A) ?_
            replace h := ifT h; rcases h with ⟨c25, h⟩ | ⟨c25, h⟩ <;> try simp only [bEq] at c25
            · cases h
              try simp only [W, c14, c15, eq_true c18, c25, p1, p2, p3, p4, p5, p6, p7, p8, p9, p10, p11, p12]
            · try simp only [W, c14, c15, eq_true c18, c25, p1, p2, p3, p4, p5, p6, p7, p8, p9, p10, p11, p12]
              exact nextN (x4, (wrap64 (x5 + 1)), t17_1, t17_2, t17_3, t17_4, t17_5, t17_6, t17_7, t17_8) [(352, 736), (353, 737)] n1 (by omega) h (by simp only [W, p1, p2, p3, p4, p5, p6, p7, p8, p9, p10, p11, p12] <;> trivial) (by simp only [W, p1, p2, p3, p4, p5, p6, p7, p8, p9, p10, p11, p12] <;> trivial) rfl
          · cases h
            try simp only [W, c14, c15, eq_true c18, p1, p2, p3, p4, p5, p6, p7, p8, p9, p10, p11, p12]
        · cases h
          try simp only [W, c14, c15, eq_true c18, p1, p2, p3, p4, p5, p6, p7, p8, p9, p10, p11, p12]
      · cases h
        try simp only [W, c14, c15, c18, p1, p2, p3, p4, p5, p6, p7, p8, p9, p10, p11, p12]
    · try simp only [W, c14, p1, p2, p3, p4, p5, p6, p7, p8, p9, p10, p11, p12]
      refine loopN (fun x : Int × Int × Int × Int × List Int × Int × Int × List Int × Int => [.u, .u, .u, .bp 48 0, .u, .u, .u, .u, .u, .u, .v (.int .i64 x.1), .u, .u, .u, .u, .u, .u, .u, .u, .u, .u, .u, .u, .u, .u, .u, .u, .u, .u, .u, .u, .u, .u, .u, .u, .u, .u, .u, .u, .u, .u, .u, .u, .u, .u, .u, .u, .u, .u, .u, .u, .u, .u, .u, .u, .u, .u, .u, .u, .u, .u, .u, .u, .u, .u, .u, .u, .u, .u, .u, .u, .u, .u, .u, .u, .u, .u, .u, .u, .u, .u, .u, .u, .u, .u, .u, .u, .u, .u, .u, .u, .u, .u, .u, .u, .u, .u, .u, .u, .u, .u, .u, .u, .u, .u, .u, .u, .u, .u, .u, .u, .u, .u, .u, .u, .u, .u, .u, .u, .u, .u, .u, .u, .u, .u, .u, .u, .u, .u, .u, .u, .u, .u, .u, .u, .u, .u, .u, .u, .u, .u, .u, .u, .u, .u, .u, .u, .u, .u, .u, .u, .u, .u, .u, .u, .u, .u, .u, .u, .u, .u, .u, .u, .u, .u, .u, .u, .u, .u, .u, .u, .u, .u, .u, .u, .u, .u]) (fun x => [(48, .box 38 [.v (.int .i64 x.2.1), .v (.int .i64 x.2.2.1), .v (.int .i64 x.2.2.2.1), .lo 352, .v (.int .i64 x.2.2.2.2.2.1), .v (.int .i64 x.2.2.2.2.2.2.1), .lo 353, .v (.int .i64 x.2.2.2.2.2.2.2.2)]), (352, .row 3 1 (List.map eI x.2.2.2.2.1)), (353, .row 3 1 (List.map eI x.2.2.2.2.2.2.2.1))]) (fun n x => laws_FnTop.l1 n x.1 x.2.1 x.2.2.1 x.2.2.2.1 x.2.2.2.2.1 x.2.2.2.2.2.1 x.2.2.2.2.2.2.1 x.2.2.2.2.2.2.2.1 x.2.2.2.2.2.2.2.2 = some r) (0, x6, x7, x8, x9, x10, x11, x12, x13) [] h (by simp only [W, p1, p2, p3, p4, p5, p6, p7, p8, p9, p10, p11, p12] <;> trivial) (by simp only [W, p1, p2, p3, p4, p5, p6, p7, p8, p9, p10, p11, p12] <;> trivial) rfl (fun _ h => by cases h) ?_
      intro n2 ⟨x26, x27, x28, x29, x30, x31, x32, x33, x34⟩ _ h
      simp only [laws_FnTop.l1] at h
      replace h := ifS h; rcases h with ⟨c35, h⟩ | ⟨c35, h⟩
      · rcases n2 with _ | m36; · cases h
        rw [laws_FnTop.j2] at h
        replace h := ifT h; rcases h with ⟨c37, h⟩ | ⟨c37, h⟩
        · replace h := bnd h; obtain ⟨⟨t38_1, t38_2, t38_3⟩, A, h⟩ := h
          dsimp only at h
          try simp only [W, c35, c37, p1, p2, p3, p4, p5, p6, p7, p8, p9, p10, p11, p12]
          refine callR (spec_OpenNow.ctr A) ?_
          try simp only [W, c35, c37, p1, p2, p3, p4, p5, p6, p7, p8, p9, p10, p11, p12]
          refine loopN (fun x : Int × Int × Int × Int × Int × Int × List Int × Int × Int × List Int × Int × Int × Int × Int => [.u, .u, .u, .bp 48 0, .u, .u, .u, .u, .u, .u, .v (.int .i64 x.1), .bp 176 0, .v (.int .i64 x.2.1), .v (.int .i64 x.2.2.1), .u, .u, .u, .u, .u, .u, .u, .u, .u, .u, .u, .u, .u, .u, .u, .u, .u, .u, .u, .u, .u, .u, .u, .u, .u, .u, .u, .u, .u, .u, .u, .u, .u, .u, .u, .u, .u, .u, .u, .u, .u, .u, .u, .u, .u, .u, .u, .u, .u, .u, .u, .u, .u, .u, .u, .u, .u, .u, .u, .u, .u, .bp 48 6, .u, .u, .u, .u, .u, .u, .u, .bp 48 0, .u, .u, .u, .u, .u, .u, .u, .u, .u, .u, .u, .u, .u, .u, .u, .u, .u, .u, .u, .u, .u, .u, .u, .u, .u, .u, .u, .u, .u, .u, .u, .u, .u, .u, .u, .u, .u, .u, .u, .u, .u, .u, .u, .u, .u, .u, .u, .u, .u, .u, .u, .u, .u, .u, .u, .u, .u, .u, .u, .u, .u, .u, .u, .u, .u, .u, .u, .u, .u, .u, .u, .u, .u, .u, .u, .u, .u, .u, .u, .u, .u, .u, .u, .u, .u, .u, .u, .u, .u, .u, .u, .u, .u]) (fun x => [(48, .box 38 [.v (.int .i64 x.2.2.2.1), .v (.int .i64 x.2.2.2.2.1), .v (.int .i64 x.2.2.2.2.2.1), .lo 352, .v (.int .i64 x.2.2.2.2.2.2.2.1), .v (.int .i64 x.2.2.2.2.2.2.2.2.1), .lo 353, .v (.int .i64 x.2.2.2.2.2.2.2.2.2.2.1)]), (176, .box 34 [.v (.int .i64 x.2.2.2.2.2.2.2.2.2.2.2.1), .v (.int .i64 x.2.2.2.2.2.2.2.2.2.2.2.2.1), .v (.int .i64 x.2.2.2.2.2.2.2.2.2.2.2.2.2)]), (352, .row 3 1 (List.map eI x.2.2.2.2.2.2.1)), (353, .row 3 1 (List.map eI x.2.2.2.2.2.2.2.2.2.1))]) (fun n x => laws_FnTop.l2 n x.1 x.2.1 x.2.2.1 x.2.2.2.1 x.2.2.2.2.1 x.2.2.2.2.2.1 x.2.2.2.2.2.2.1 x.2.2.2.2.2.2.2.1 x.2.2.2.2.2.2.2.2.1 x.2.2.2.2.2.2.2.2.2.1 x.2.2.2.2.2.2.2.2.2.2.1 x.2.2.2.2.2.2.2.2.2.2.2.1 x.2.2.2.2.2.2.2.2.2.2.2.2.1 x.2.2.2.2.2.2.2.2.2.2.2.2.2 = some r) (x26, 0, 0, x27, x28, x29, x30, x31, x32, x33, x34, t38_1, t38_2, t38_3) [] h (by simp only [W, p1, p2, p3, p4, p5, p6, p7, p8, p9, p10, p11, p12] <;> trivial) (by simp only [W, p1, p2, p3, p4, p5, p6, p7, p8, p9, p10, p11, p12] <;> trivial) rfl (fun _ h => by cases h) ?_
          intro n3 ⟨x39, x40, x41, x42, x43, x44, x45, x46, x47, x48, x49, x50, x51, x52⟩ _ h
          simp only [laws_FnTop.l2] at h
          replace h := ifS h; rcases h with ⟨c53, h⟩ | ⟨c53, h⟩
          · replace h := ifN h; obtain ⟨c54, h⟩ := h
            replace h := bnd h; obtain ⟨t55, A, h⟩ := h
            try simp only [W, c53, c54, p1, p2, p3, p4, p5, p6, p7, p8, p9, p10, p11, p12]
            refine callR (spec_DistanceOf.ctr A) ?_
            replace h := ifN h; obtain ⟨c56, h⟩ := h
            replace h := ifN h; obtain ⟨c57, h⟩ := h
            replace h := bnd h; obtain ⟨t58, A, h⟩ := h
            try simp only [W, c53, c54, c56, c57, p1, p2, p3, p4, p5, p6, p7, p8, p9, p10, p11, p12]
            refine callR (spec_DistanceOf.ctr A) ?_
            replace h := ifS h; rcases h with ⟨c59, h⟩ | ⟨c59, h⟩
            · try simp only [W, c53, c54, c56, c57, c59, p1, p2, p3, p4, p5, p6, p7, p8, p9, p10, p11, p12]
              exact nextN (x39, x41, (wrap64 (x41 + 1)), x42, x43, x44, x45, x46, x47, x48, x49, x50, x51, x52) [] n3 (by omega) h (by simp only [W, p1, p2, p3, p4, p5, p6, p7, p8, p9, p10, p11, p12] <;> trivial) (by simp only [W, p1, p2, p3, p4, p5, p6, p7, p8, p9, p10, p11, p12] <;> trivial) rfl
            · try simp only [W, c53, c54, c56, c57, c59, p1, p2, p3, p4, p5, p6, p7, p8, p9, p10, p11, p12]
              exact nextN (x39, x40, (wrap64 (x41 + 1)), x42, x43, x44, x45, x46, x47, x48, x49, x50, x51, x52) [] n3 (by omega) h (by simp only [W, p1, p2, p3, p4, p5, p6, p7, p8, p9, p10, p11, p12] <;> trivial) (by simp only [W, p1, p2, p3, p4, p5, p6, p7, p8, p9, p10, p11, p12] <;> trivial) rfl
          · replace h := ifN h; obtain ⟨c60, h⟩ := h
            replace h := ifN h; obtain ⟨c61, h⟩ := h
            replace h := ifS h; rcases h with ⟨c62, h⟩ | ⟨c62, h⟩
            · replace h := bnd h; obtain ⟨⟨t63_1, t63_2, t63_3, t63_4, t63_5, t63_6, t63_7, t63_8, t63_9⟩, A, h⟩ := h
              dsimp only at h
              try simp only [W, c53, c60, c61, eq_true c62, p1, p2, p3, p4, p5, p6, p7, p8, p9, p10, p11, p12]
              refine callR (impl_Leave.ctr A) ?_
              replace h := ifT h; rcases h with ⟨rfl, h⟩ | ⟨rfl, h⟩
              · replace h := ifS h; rcases h with ⟨c65, h⟩ | ⟨c65, h⟩
                · replace h := bnd h; obtain ⟨t66, A, h⟩ := h
                  try simp only [W, c53, c60, c61, eq_true c62, eq_true c65, p1, p2, p3, p4, p5, p6, p7, p8, p9, p10, p11, p12]
                  refine callR (spec_GardenOk.ctr A) ?_
                  replace h := ifT h; rcases h with ⟨rfl, h⟩ | ⟨rfl, h⟩
                  · try simp only [W, c53, c60, c61, eq_true c62, eq_true c65, p1, p2, p3, p4, p5, p6, p7, p8, p9, p10, p11, p12]
                    exact nextN (x39, t63_1, t63_2, t63_3, t63_4, t63_5, t63_6, t63_7, t63_8) [(352, 1968), (353, 1969)] n3 (by omega) h (by simp only [W, p1, p2, p3, p4, p5, p6, p7, p8, p9, p10, p11, p12] <;> trivial) (by simp only [W, p1, p2, p3, p4, p5, p6, p7, p8, p9, p10, p11, p12] <;> trivial) rfl
                  · cases h
                    try simp only [W, c53, c60, c61, eq_true c62, eq_true c65, p1, p2, p3, p4, p5, p6, p7, p8, p9, p10, p11, p12]
                · cases h
                  try simp only [W, c53, c60, c61, eq_true c62, c65, p1, p2, p3, p4, p5, p6, p7, p8, p9, p10, p11, p12]
              · cases h
                try simp only [W, c53, c60, c61, eq_true c62, p1, p2, p3, p4, p5, p6, p7, p8, p9, p10, p11, p12]
            · replace h := bnd h; obtain ⟨⟨t68_1, t68_2, t68_3, t68_4, t68_5, t68_6, t68_7, t68_8, t68_9⟩, A, h⟩ := h
              dsimp only at h
              try simp only [W, c53, c60, c61, c62, p1, p2, p3, p4, p5, p6, p7, p8, p9, p10, p11, p12]
              refine callR (impl_Guide.ctr A) ?_
              replace h := ifT h; rcases h with ⟨rfl, h⟩ | ⟨rfl, h⟩
              · replace h := ifS h; rcases h with ⟨c70, h⟩ | ⟨c70, h⟩
                · replace h := bnd h; obtain ⟨t71, A, h⟩ := h
                  try simp only [W, c53, c60, c61, c62, eq_true c70, p1, p2, p3, p4, p5, p6, p7, p8, p9, p10, p11, p12]
                  refine callR (spec_GardenOk.ctr A) ?_
                  replace h := ifT h; rcases h with ⟨rfl, h⟩ | ⟨rfl, h⟩
                  · try simp only [W, c53, c60, c61, c62, eq_true c70, p1, p2, p3, p4, p5, p6, p7, p8, p9, p10, p11, p12]
                    exact nextN ((wrap64 (x39 + 1)), t68_1, t68_2, t68_3, t68_4, t68_5, t68_6, t68_7, t68_8) [(352, 2352), (353, 2353)] n3 (by omega) h (by simp only [W, p1, p2, p3, p4, p5, p6, p7, p8, p9, p10, p11, p12] <;> trivial) (by simp only [W, p1, p2, p3, p4, p5, p6, p7, p8, p9, p10, p11, p12] <;> trivial) rfl
                  · cases h
                    try simp only [W, c53, c60, c61, c62, eq_true c70, p1, p2, p3, p4, p5, p6, p7, p8, p9, p10, p11, p12]
                · cases h
                  try simp only [W, c53, c60, c61, c62, c70, p1, p2, p3, p4, p5, p6, p7, p8, p9, p10, p11, p12]
              · cases h
                try simp only [W, c53, c60, c61, c62, p1, p2, p3, p4, p5, p6, p7, p8, p9, p10, p11, p12]
        · replace h := ifS h; rcases h with ⟨c73, h⟩ | ⟨c73, h⟩
          · cases h
            try simp only [W, c35, c37, eq_true c73, p1, p2, p3, p4, p5, p6, p7, p8, p9, p10, p11, p12]
          · cases h
            try simp only [W, c35, c37, c73, p1, p2, p3, p4, p5, p6, p7, p8, p9, p10, p11, p12]
      · rcases n2 with _ | m74; · cases h
        rw [laws_FnTop.j2] at h
        rw [if_neg (by decide)] at h
        replace h := ifS h; rcases h with ⟨c76, h⟩ | ⟨c76, h⟩
        · cases h
          try simp only [W, c35, eq_true c76, p1, p2, p3, p4, p5, p6, p7, p8, p9, p10, p11, p12]
        · cases h
          try simp only [W, c35, c76, p1, p2, p3, p4, p5, p6, p7, p8, p9, p10, p11, p12]
theorem laws_FnTop.calls (k : Nat) (A0 : Option Addr) (c0 : Nat) (l0 : List Int) (w : World) (hr0 : Kd.C (Kd.int .u8) w A0 l0.length l0) (hc0 : l0.length ≤ c0) (h : laws_FnTop.f k l0 = some true) :
    Calls Tryz.prog 14 #[.slice A0 l0.length c0] w fun e w' => e = .returned (.bool true) ∧ Below w.heap.size w w' := by
  refine ((laws_FnTop.ctr h).2 w [.slice A0 l0.length c0] (by simp only [RepL, Rep]; exact ⟨_, _, rfl, at_of_C E_eU8 hr0 hc0, rfl⟩)).mono ?_
  rintro _ _ ⟨y, L, rfl, hR, _, hb⟩
  exact ⟨congrArg Ending.returned (RepR_pln rfl hR).1, hb⟩
end Go.Proofs.YtkindoepnganmaaGreat.F
end

section
namespace Go.Proofs.YtkindoepnganmaaGreat.F
open Go.RowKit Go.Proofs.YtkindoepnganmaaGreatW.PrintWords Go.Proofs.YtkindoepnganmaaGreatW.PrintLast Go.Proofs.YtkindoepnganmaaGreatW.PrintMore
set_option linter.unusedVariables false
set_option linter.unusedSimpArgs false
theorem rd_set {D : List Int} {i x v : Int} (hi : 0 ≤ i) (hx : 0 ≤ x) (hl : i < D.length) : rd (D.set i.toNat v) x = if x = i then v else rd D x := by
  unfold rd
  rw [List.getD_eq_getElem?_getD, List.getElem?_set]
  by_cases h : x = i
  · subst h
    rw [if_pos rfl, if_pos (by omega), if_pos rfl]; rfl
  · rw [if_neg (by omega), if_neg h, List.getD_eq_getElem?_getD]
theorem rd_lt {D : List Int} {x : Int} (hx : 0 ≤ x) (hl : x < D.length) : ∃ h : x.toNat < D.length, rd D x = D[x.toNat] := by
  have h : x.toNat < D.length := by omega
  exact ⟨h, by unfold rd; rw [List.getD_eq_getElem?_getD, List.getElem?_eq_getElem h]; rfl⟩
theorem rd_memI {D : List Int} {x : Int} (hx : 0 ≤ x) (hl : x < D.length) : rd D x ∈ D := by
  obtain ⟨h, e⟩ := rd_lt hx hl
  rw [e]; exact List.getElem_mem h
theorem mem_rd {D : List Int} {v : Int} (h : v ∈ D) : ∃ j : Nat, j < D.length ∧ rd D (j : Int) = v := by
  obtain ⟨j, hj, rfl⟩ := List.getElem_of_mem h
  exact ⟨j, hj, by rw [rd_nat, List.getD_eq_getElem?_getD, List.getElem?_eq_getElem hj]; rfl⟩
theorem rd_app_left {D E : List Int} {j : Nat} (h : j < D.length) : rd (D ++ E) (j : Int) = rd D (j : Int) := by
  simp only [rd_nat, List.getD_eq_getElem?_getD]
  rw [List.getElem?_append_left h]
theorem rd_app_last {D : List Int} {v : Int} : rd (D ++ [v]) (D.length : Int) = v := by
  simp only [rd_nat, List.getD_eq_getElem?_getD]
  rw [List.getElem?_append_right (Nat.le_refl _)]
  simp
def bfsD (nx : Int → Int → Int) (c : Int) : List Int → List Int × List Int → List Int × List Int
  | [], s => s
  | d :: ds, s => if 0 ≤ nx c d ∧ rd s.1 (nx c d) < 0 then bfsD nx c ds (s.1.set (nx c d).toNat (rd s.1 c + 1), s.2 ++ [nx c d]) else bfsD nx c ds s
def bfs (nx : Int → Int → Int) : Nat → Nat → List Int × List Int → List Int
  | 0, _, s => s.1
  | f + 1, i, s => if i < s.2.length then bfs nx f (i + 1) (bfsD nx (rd s.2 i) [0, 1, 2, 3] s) else s.1
def dists (nx : Int → Int → Int) (N : Nat) (a : Int) : List Int := bfs nx (N + 1) 0 ((List.replicate N (-1)).set a.toNat 0, [a])
inductive Walk (nx : Int → Int → Int) (a : Int) : Nat → Int → Prop
  | nil : Walk nx a 0 a
  | snoc {n : Nat} {b d : Int} : Walk nx a n b → 0 ≤ nx b d → Walk nx a (n + 1) (nx b d)
structure Steps (nx : Int → Int → Int) (N : Nat) : Prop where
  rng : ∀ c d, 0 ≤ nx c d → 0 ≤ c ∧ c < N ∧ nx c d < N ∧ 0 ≤ d ∧ d ≤ 3
structure Bfs (nx : Int → Int → Int) (N : Nat) (a : Int) (D Q : List Int) : Prop where
  len : D.length = N
  cnt : D.countP (· < 0) + Q.length = N
  inq : ∀ x ∈ Q, 0 ≤ x ∧ x < N ∧ 0 ≤ rd D x ∧ Walk nx a (rd D x).toNat x
  out : ∀ x : Int, 0 ≤ x → x < N → x ∉ Q → rd D x = -1
  src : rd D a = 0 ∧ a ∈ Q
  mono : ∀ j k : Nat, j ≤ k → k < Q.length → rd D (rd Q j) ≤ rd D (rd Q k)
structure BfsAt (nx : Int → Int → Int) (N : Nat) (a : Int) (i : Nat) (D Q : List Int) : Prop extends Bfs nx N a D Q where
  near : i < Q.length → ∀ x ∈ Q, rd D x ≤ rd D (rd Q i) + 1
  done : ∀ j, j < i → j < Q.length → ∀ d, 0 ≤ nx (rd Q j) d → nx (rd Q j) d ∈ Q ∧ rd D (nx (rd Q j) d) ≤ rd D (rd Q j) + 1
theorem countP_lt_set {D : List Int} {i v : Int} (hi : 0 ≤ i) (hl : i < D.length) (hneg : rd D i < 0) (hv : 0 ≤ v) : (D.set i.toNat v).countP (· < 0) + 1 = D.countP (· < 0) := by
  obtain ⟨h, e⟩ := rd_lt hi hl
  rw [e] at hneg
  have hpos : 0 < D.countP (· < 0) := List.countP_pos_iff.2 ⟨D[i.toNat], List.getElem_mem h, by simpa using hneg⟩
  rw [List.countP_set h]
  simp [hneg, show ¬ v < 0 by omega]
  omega
theorem bfs_push {nx : Int → Int → Int} {N : Nat} {a : Int} {i : Nat} {D Q : List Int} (S : Steps nx N) (B : BfsAt nx N a i D Q) (hi : i < Q.length) {d : Int} (h0 : 0 ≤ nx (rd Q i) d) (hneg : rd D (nx (rd Q i) d) < 0) :
    BfsAt nx N a i (D.set (nx (rd Q i) d).toNat (rd D (rd Q i) + 1)) (Q ++ [nx (rd Q i) d]) := by
  have hci : rd Q i ∈ Q := rd_memI (by omega) (by omega)
  generalize hc : rd Q i = c at *
  generalize hn : nx c d = n at *
  have hr := S.rng c d (by omega)
  rw [hn] at hr
  obtain ⟨c0, c1, cd, cw⟩ := B.inq c hci
  have hnl : n < D.length := by rw [B.len]; omega
  have hnQ : n ∉ Q := fun h => by have := (B.inq n h).2.2.1; omega
  have same : ∀ x ∈ Q, rd (D.set n.toNat (rd D c + 1)) x = rd D x := fun x hx => by
    have := (B.inq x hx).1
    rw [rd_set h0 this hnl, if_neg (by rintro rfl; exact hnQ hx)]
  have newv : rd (D.set n.toNat (rd D c + 1)) n = rd D c + 1 := by rw [rd_set h0 h0 hnl, if_pos rfl]
  have rq : ∀ j : Nat, j < Q.length → rd (Q ++ [n]) (j : Int) = rd Q (j : Int) := fun j hj => rd_app_left hj
  have wn : Walk nx a (rd D c + 1).toNat n := by
    have := Walk.snoc (d := d) cw (by omega)
    rw [hn] at this
    rwa [show (rd D c).toNat + 1 = (rd D c + 1).toNat by omega] at this
  refine ⟨⟨by rw [List.length_set, B.len], ?_, ?_, ?_, ?_, ?_⟩, ?_, ?_⟩
  · have := countP_lt_set (v := rd D c + 1) h0 hnl hneg (by omega)
    have := B.cnt
    rw [List.length_append, List.length_singleton]
    omega
  · intro x hx
    rcases List.mem_append.1 hx with hx | hx
    · rw [same x hx]; exact B.inq x hx
    · rw [List.mem_singleton.1 hx, newv]
      exact ⟨h0, hr.2.2.1, by omega, wn⟩
  · intro x x0 x1 hx
    rw [List.mem_append, not_or] at hx
    rw [rd_set h0 x0 hnl, if_neg (by rintro rfl; exact hx.2 (by simp))]
    exact B.out x x0 x1 hx.1
  · exact ⟨by rw [same a B.src.2]; exact B.src.1, List.mem_append_left _ B.src.2⟩
  · intro j k hjk hk
    rw [List.length_append, List.length_singleton] at hk
    by_cases hk' : k < Q.length
    · rw [rq j (by omega), rq k hk', same _ (rd_memI (by omega) (by omega)), same _ (rd_memI (by omega) (by omega))]
      exact B.mono j k hjk hk'
    · have ek : k = Q.length := by omega
      subst ek
      rw [rd_app_last, newv]
      by_cases hj' : j < Q.length
      · rw [rq j hj', same _ (rd_memI (by omega) (by omega))]
        have := B.near hi _ (rd_memI (D := Q) (x := (j : Int)) (by omega) (by omega))
        rw [hc] at this
        exact this
      · have ej : j = Q.length := by omega
        subst ej
        rw [rd_app_last, newv]
        exact Int.le_refl _
  · intro _ x hx
    rw [rq i hi, hc]
    rcases List.mem_append.1 hx with hx | hx
    · rw [same x hx, same c hci]
      have := B.near hi x hx
      rwa [hc] at this
    · rw [List.mem_singleton.1 hx, newv, same c hci]
      exact Int.le_refl _
  · intro j hj hjl e he
    rw [rq j (by omega)] at he ⊢
    obtain ⟨m1, m2⟩ := B.done j hj (by omega) e he
    exact ⟨List.mem_append_left _ m1, by rw [same _ m1, same _ (rd_memI (by omega) (by omega))]; exact m2⟩
theorem bfs_dirs {nx : Int → Int → Int} {N : Nat} {a : Int} {i : Nat} (S : Steps nx N) : ∀ (ds : List Int) (D Q : List Int), BfsAt nx N a i D Q → i < Q.length → ∀ D' Q', bfsD nx (rd Q i) ds (D, Q) = (D', Q') →
    BfsAt nx N a i D' Q' ∧ i < Q'.length ∧ rd Q' i = rd Q i ∧ (∀ x ∈ Q, x ∈ Q') ∧ (∀ d ∈ ds, 0 ≤ nx (rd Q i) d → nx (rd Q i) d ∈ Q' ∧ rd D' (nx (rd Q i) d) ≤ rd D' (rd Q i) + 1)
  | [], D, Q, B, hi, D', Q', e => by
    simp only [bfsD, Prod.mk.injEq] at e
    obtain ⟨rfl, rfl⟩ := e
    exact ⟨B, hi, rfl, fun _ h => h, fun d hd => by simp at hd⟩
  | d :: ds, D, Q, B, hi, D', Q', e => by
    simp only [bfsD] at e
    by_cases h : 0 ≤ nx (rd Q i) d ∧ rd D (nx (rd Q i) d) < 0
    · rw [if_pos h] at e
      have B' := bfs_push S B hi h.1 h.2
      have hq : rd (Q ++ [nx (rd Q i) d]) (i : Int) = rd Q i := rd_app_left hi
      have hi' : i < (Q ++ [nx (rd Q i) d]).length := by rw [List.length_append]; omega
      rw [← hq] at e
      obtain ⟨r1, r2, r3, r4, r5⟩ := bfs_dirs S ds _ _ B' hi' D' Q' (by rw [hq] at e ⊢; exact e)
      rw [hq] at r3 r5
      refine ⟨r1, r2, r3, fun x hx => r4 x (List.mem_append_left _ hx), fun e' he h0 => ?_⟩
      rcases List.mem_cons.1 he with rfl | he
      · have hm := r4 (nx (rd Q i) e') (by simp)
        have := r1.near r2 _ hm
        rw [r3] at this
        exact ⟨hm, this⟩
      · exact r5 e' he h0
    · rw [if_neg h] at e
      obtain ⟨r1, r2, r3, r4, r5⟩ := bfs_dirs S ds D Q B hi D' Q' e
      refine ⟨r1, r2, r3, r4, fun e' he h0 => ?_⟩
      rcases List.mem_cons.1 he with rfl | he
      · have hr := S.rng _ _ h0
        have hge : ¬ rd D (nx (rd Q i) e') < 0 := fun hh => h ⟨h0, hh⟩
        have hm : nx (rd Q i) e' ∈ Q := by
          by_cases hx : nx (rd Q i) e' ∈ Q
          · exact hx
          · have := B.out _ h0 hr.2.2.1 hx
            omega
        have := r1.near r2 _ (r4 _ hm)
        rw [r3] at this
        exact ⟨r4 _ hm, this⟩
      · exact r5 e' he h0
theorem bfs_run {nx : Int → Int → Int} {N : Nat} {a : Int} (S : Steps nx N) : ∀ (f i : Nat) (D Q : List Int), BfsAt nx N a i D Q → N < f + i → ∃ Q', BfsAt nx N a Q'.length (bfs nx f i (D, Q)) Q' ∨ (∃ j, Q'.length ≤ j ∧ BfsAt nx N a j (bfs nx f i (D, Q)) Q')
  | 0, i, D, Q, B, hf => ⟨Q, .inr ⟨i, by have := B.cnt; omega, B⟩⟩
  | f + 1, i, D, Q, B, hf => by
    simp only [bfs]
    by_cases hi : i < Q.length
    · rw [if_pos hi]
      generalize hs : bfsD nx (rd Q i) [0, 1, 2, 3] (D, Q) = s
      obtain ⟨D', Q'⟩ := s
      obtain ⟨r1, r2, r3, r4, r5⟩ := bfs_dirs S _ D Q B hi D' Q' hs
      refine bfs_run S f (i + 1) D' Q' ⟨r1.toBfs, fun h x hx => ?_, fun j hj hjl d hd => ?_⟩ (by omega)
      · have h1 := r1.near r2 x hx
        have h2 := r1.mono i (i + 1) (by omega) h
        omega
      · by_cases hj' : j = i
        · subst hj'
          rw [r3] at hd ⊢
          have hr := S.rng _ _ hd
          exact r5 d (by have : d = 0 ∨ d = 1 ∨ d = 2 ∨ d = 3 := by omega
                         rcases this with rfl | rfl | rfl | rfl <;> simp) hd
        · exact r1.done j (by omega) hjl d hd
    · rw [if_neg hi]
      exact ⟨Q, .inr ⟨i, by omega, B⟩⟩
theorem dists_spec {nx : Int → Int → Int} {N : Nat} {a : Int} (S : Steps nx N) (h0 : 0 ≤ a) (h1 : a < N) : (dists nx N a).length = N ∧ rd (dists nx N a) a = 0 ∧
    ∀ x : Int, 0 ≤ x → x < N → (rd (dists nx N a) x = -1 ∧ ∀ n, ¬ Walk nx a n x) ∨ (0 ≤ rd (dists nx N a) x ∧ Walk nx a (rd (dists nx N a) x).toNat x ∧ ∀ n, Walk nx a n x → rd (dists nx N a) x ≤ n) := by
  have hrep : ∀ x : Int, 0 ≤ x → x < N → rd (List.replicate N (-1)) x = -1 := fun x x0 x1 => by
    obtain ⟨h, e⟩ := rd_lt (D := List.replicate N (-1 : Int)) x0 (by simpa using x1)
    rw [e, List.getElem_replicate]
  have hset : ∀ x : Int, 0 ≤ x → x < N → rd ((List.replicate N (-1)).set a.toNat 0) x = if x = a then 0 else -1 := fun x x0 x1 => by
    rw [rd_set h0 x0 (by simpa using h1)]
    split
    · rfl
    · exact hrep x x0 x1
  have B0 : BfsAt nx N a 0 ((List.replicate N (-1)).set a.toNat 0) [a] := by
    refine ⟨⟨by simp, ?_, ?_, ?_, ?_, ?_⟩, ?_, ?_⟩
    · have := countP_lt_set (D := List.replicate N (-1 : Int)) (i := a) (v := 0) h0 (by simpa using h1) (by rw [hrep a h0 h1]; decide) (by decide)
      rw [List.countP_replicate] at this
      simpa using this
    · intro x hx
      rw [List.mem_singleton.1 hx, hset a h0 h1, if_pos rfl]
      exact ⟨h0, h1, by decide, Walk.nil⟩
    · intro x x0 x1 hx
      rw [hset x x0 x1, if_neg (by simpa using hx)]
    · exact ⟨by rw [hset a h0 h1, if_pos rfl], by simp⟩
    · intro j k hjk hk
      have : j = 0 := by simp at hk; omega
      have : k = 0 := by simp at hk; omega
      subst_vars
      exact Int.le_refl _
    · intro _ x hx
      rw [List.mem_singleton.1 hx]
      simp [rd]
      omega
    · intro j hj; omega
  have fin : ∃ j Q', Q'.length ≤ j ∧ BfsAt nx N a j (dists nx N a) Q' := by
    obtain ⟨Q', h | ⟨j, hj, h⟩⟩ := bfs_run S (N + 1) 0 _ _ B0 (by omega)
    · exact ⟨_, Q', Nat.le_refl _, h⟩
    · exact ⟨j, Q', hj, h⟩
  obtain ⟨j, Q', hj, B⟩ := fin
  have close : ∀ n x, Walk nx a n x → x ∈ Q' ∧ rd (dists nx N a) x ≤ n := by
    intro n x h
    induction h with
    | nil => exact ⟨B.src.2, by rw [B.src.1]; simp⟩
    | @snoc n b d hw hd ih =>
      obtain ⟨m1, m2⟩ := ih
      obtain ⟨i, hi, rfl⟩ := mem_rd m1
      obtain ⟨q1, q2⟩ := B.done i (by omega) hi d hd
      exact ⟨q1, by omega⟩
  refine ⟨B.len, B.src.1, fun x x0 x1 => ?_⟩
  by_cases hx : x ∈ Q'
  · right
    obtain ⟨_, _, q1, q2⟩ := B.inq x hx
    exact ⟨q1, q2, fun n hn => (close n x hn).2⟩
  · left
    exact ⟨B.out x x0 x1 hx, fun n hn => hx (close n x hn).1⟩
structure Sym (nx : Int → Int → Int) : Prop where
  back : ∀ c d, 0 ≤ nx c d → ∃ e, nx (nx c d) e = c
theorem Walk.cons {nx : Int → Int → Int} {a d : Int} (h0 : 0 ≤ nx a d) {n : Nat} {b : Int} (h : Walk nx (nx a d) n b) : Walk nx a (n + 1) b := by
  induction h with
  | nil => exact Walk.snoc Walk.nil h0
  | snoc _ hd ih => exact Walk.snoc ih hd
theorem Walk.trans {nx : Int → Int → Int} {a b : Int} {n : Nat} (h : Walk nx a n b) {m : Nat} {c : Int} (k : Walk nx b m c) : Walk nx a (n + m) c := by
  induction k with
  | nil => exact h
  | snoc _ hd ih => exact Walk.snoc ih hd
theorem Walk.rev {nx : Int → Int → Int} {N : Nat} (S : Steps nx N) (Y : Sym nx) {a : Int} {n : Nat} {b : Int} (h : Walk nx a n b) : Walk nx b n a := by
  induction h with
  | nil => exact Walk.nil
  | @snoc n b d hw hd ih =>
    obtain ⟨e, he⟩ := Y.back b d hd
    have := S.rng b d hd
    have h2 : Walk nx (nx (nx b d) e) n a := by rw [he]; exact ih
    exact Walk.cons (by rw [he]; omega) h2
end Go.Proofs.YtkindoepnganmaaGreat.F
end

section
namespace Go.Proofs.YtkindoepnganmaaGreat.F
open Go.RowKit Go.Proofs.YtkindoepnganmaaGreatW.PrintWords Go.Proofs.YtkindoepnganmaaGreatW.PrintLast Go.Proofs.YtkindoepnganmaaGreatW.PrintMore
set_option linter.unusedVariables false
set_option linter.unusedSimpArgs false
theorem w64 {x : Int} (h1 : -9223372036854775808 ≤ x) (h2 : x ≤ 9223372036854775807) : wrap64 x = x := by unfold wrap64; omega
theorem wrapi_nat {n : Nat} (h : n < 9223372036854775808) : IntKind.i64.wrap (n : Int) = (n : Int) := by rw [IntKind.wrap_i64]; omega
theorem bits_and_i {a b : Nat} (ha : a < 2 ^ 63) (hb : b < 2 ^ 63) : Go.bits .and .i64 (a : Int) (b : Int) = ((a &&& b : Nat) : Int) :=
  (bits_nat .i64 63 (by decide) (fun n h0 h1 => by rw [IntKind.wrap_i64]; omega) a b ha hb).1
theorem bits_or_i {a b : Nat} (ha : a < 2 ^ 63) (hb : b < 2 ^ 63) : Go.bits .or .i64 (a : Int) (b : Int) = ((a ||| b : Nat) : Int) :=
  (bits_nat .i64 63 (by decide) (fun n h0 h1 => by rw [IntKind.wrap_i64]; omega) a b ha hb).2
theorem bits_xor_i {a b : Nat} (ha : a < 2 ^ 63) (hb : b < 2 ^ 63) : Go.bits .xor .i64 (a : Int) (b : Int) = ((a ^^^ b : Nat) : Int) := by
  have ha' : a % 2 ^ 64 = a := Nat.mod_eq_of_lt (by omega)
  have hb' : b % 2 ^ 64 = b := Nat.mod_eq_of_lt (by omega)
  have hx := Nat.xor_lt_two_pow ha hb
  show IntKind.i64.wrap (((BitVec.ofInt 64 (a : Int) ^^^ BitVec.ofInt 64 (b : Int)).toNat : Nat) : Int) = _
  rw [BitVec.ofInt_natCast, BitVec.ofInt_natCast, BitVec.toNat_xor, BitVec.toNat_ofNat, BitVec.toNat_ofNat, ha', hb']
  exact wrapi_nat (by omega)
theorem bits_andNot_i {a b : Nat} (ha : a < 2 ^ 63) (hb : b < 2 ^ 63) : Go.bits .andNot .i64 (a : Int) (b : Int) = ((a ^^^ (a &&& b) : Nat) : Int) := by
  have ha' : a % 2 ^ 64 = a := Nat.mod_eq_of_lt (by omega)
  have hb' : b % 2 ^ 64 = b := Nat.mod_eq_of_lt (by omega)
  have hx : a ^^^ (a &&& b) < 2 ^ 63 := Nat.xor_lt_two_pow ha (Nat.lt_of_le_of_lt Nat.and_le_left ha)
  have key : (BitVec.ofNat 64 a &&& ~~~BitVec.ofNat 64 b).toNat = a ^^^ (a &&& b) := by
    apply Nat.eq_of_testBit_eq
    intro i
    have e1 : (BitVec.ofNat 64 a &&& ~~~BitVec.ofNat 64 b).toNat.testBit i = (BitVec.ofNat 64 a &&& ~~~BitVec.ofNat 64 b).getLsbD i := rfl
    rw [e1]
    simp only [BitVec.getLsbD_and, BitVec.getLsbD_not, BitVec.getLsbD_ofNat, Nat.testBit_xor, Nat.testBit_and]
    by_cases hi : i < 64
    · simp [hi]
      cases a.testBit i <;> cases b.testBit i <;> rfl
    · have : a.testBit i = false := Nat.testBit_lt_two_pow (Nat.lt_of_lt_of_le ha (Nat.pow_le_pow_right (by decide) (by omega)))
      simp [hi, this]
  show IntKind.i64.wrap (((BitVec.ofInt 64 (a : Int) &&& ~~~BitVec.ofInt 64 (b : Int)).toNat : Nat) : Int) = _
  rw [BitVec.ofInt_natCast, BitVec.ofInt_natCast, key]
  exact wrapi_nat (by omega)
theorem shl_one {g : Nat} (h : g < 63) : shl .i64 1 (g : Int) = ((2 ^ g : Nat) : Int) := by
  unfold shl
  have : min ((g : Int).toNat) IntKind.i64.bits = g := by simp [IntKind.bits]; omega
  rw [this, Int.one_mul]
  have hp : (2 : Nat) ^ g ≤ 2 ^ 62 := Nat.pow_le_pow_right (by decide) (by omega)
  have : ((2 : Int) ^ g) = ((2 ^ g : Nat) : Int) := by simp
  rw [this]
  exact wrapi_nat (by omega)
theorem shr_nat {a g : Nat} (ha : a < 2 ^ 63) : shr .i64 (a : Int) (g : Int) = ((a >>> g : Nat) : Int) := by
  unfold shr
  rw [Nat.shiftRight_eq_div_pow]
  by_cases hg : g ≤ 64
  · have : min ((g : Int).toNat) IntKind.i64.bits = g := by simp [IntKind.bits]; omega
    rw [this]
    have : ((2 : Int) ^ g) = ((2 ^ g : Nat) : Int) := by simp
    rw [this]
    omega
  · have : min ((g : Int).toNat) IntKind.i64.bits = 64 := by simp [IntKind.bits]; omega
    rw [this]
    have hp : (2 : Nat) ^ 64 ≤ 2 ^ g := Nat.pow_le_pow_right (by decide) (by omega)
    rw [Nat.div_eq_of_lt (by omega)]
    have : (a : Int) / 2 ^ 64 = 0 := by omega
    simpa using this
def opn (o g : Int) : Bool := o.toNat.testBit g.toNat
theorem bit_test {o g : Int} (ho : 0 ≤ o) (ho2 : o < 9223372036854775808) (hg : 0 ≤ g) : (Go.bits .and .i64 (shr .i64 o g) 1 == 1) = opn o g := by
  obtain ⟨a, rfl⟩ := Int.eq_ofNat_of_zero_le ho
  obtain ⟨n, rfl⟩ := Int.eq_ofNat_of_zero_le hg
  have ha : a < 2 ^ 63 := by omega
  rw [shr_nat ha]
  have h2 : a >>> n < 2 ^ 63 := Nat.lt_of_le_of_lt (by rw [Nat.shiftRight_eq_div_pow]; exact Nat.div_le_self _ _) ha
  unfold opn
  simp only [Int.toNat_natCast]
  rw [show ((1 : Int)) = ((1 : Nat) : Int) from rfl, bits_and_i h2 (by decide), Nat.testBit, Nat.and_one_is_mod, Nat.one_and_eq_mod_two]
  rcases Nat.mod_two_eq_zero_or_one (a >>> n) with h | h <;> simp [h]
theorem fold_loop {σ ρ : Type} {F : Nat → σ → Int → Option ρ} {n c : Nat} {step : σ → Nat → σ} {fin : σ → ρ} {I : σ → Nat → Prop}
    (hF : ∀ k s (i : Nat), c ≤ k → i < n → I s i → F (k + 1) s (i : Int) = F k (step s i) ((i : Int) + 1)) (hI : ∀ s i, i < n → I s i → I (step s i) (i + 1))
    (hE : ∀ k s, c ≤ k → I s n → F (k + 1) s (n : Int) = some (fin s)) :
    ∀ (d i : Nat) (k : Nat) (s : σ), i + d = n → d + c + 1 ≤ k → I s i → F k s (i : Int) = some (fin ((List.range' i d).foldl step s))
  | 0, i, k, s, hi, hk, h => by
    obtain ⟨m, rfl⟩ : ∃ m, k = m + 1 := ⟨k - 1, by omega⟩
    obtain rfl : i = n := by omega
    simpa using hE m s (by omega) h
  | d + 1, i, k, s, hi, hk, h => by
    obtain ⟨m, rfl⟩ : ∃ m, k = m + 1 := ⟨k - 1, by omega⟩
    rw [hF m s i (by omega) (by omega) h, List.range'_succ, List.foldl_cons]
    have := fold_loop (c := c) (step := step) (fin := fin) hF hI hE d (i + 1) m (step s i) (by omega) (by omega) (hI s i (by omega) h)
    rwa [Int.natCast_add] at this
theorem inv_loop {σ ρ : Type} {F : Nat → σ → Int → Option ρ} {n c : Nat} {fin : σ → ρ} {I : σ → Nat → Prop}
    (hF : ∀ k s (i : Nat), c ≤ k → i < n → I s i → ∃ s', I s' (i + 1) ∧ F (k + 1) s (i : Int) = F k s' ((i : Int) + 1))
    (hE : ∀ k s, c ≤ k → I s n → F (k + 1) s (n : Int) = some (fin s)) :
    ∀ (d i : Nat) (k : Nat) (s : σ), i + d = n → d + c + 1 ≤ k → I s i → ∃ s', I s' n ∧ F k s (i : Int) = some (fin s')
  | 0, i, k, s, hi, hk, h => by
    obtain ⟨m, rfl⟩ : ∃ m, k = m + 1 := ⟨k - 1, by omega⟩
    obtain rfl : i = n := by omega
    exact ⟨s, h, hE m s (by omega) h⟩
  | d + 1, i, k, s, hi, hk, h => by
    obtain ⟨m, rfl⟩ : ∃ m, k = m + 1 := ⟨k - 1, by omega⟩
    obtain ⟨s', h', e⟩ := hF m s i (by omega) (by omega) h
    obtain ⟨s2, h2, e2⟩ := inv_loop (c := c) (fin := fin) hF hE d (i + 1) m s' (by omega) (by omega) h'
    rw [Int.natCast_add] at e2
    exact ⟨s2, h2, e.trans e2⟩
theorem range'_zero_foldl {α σ : Type} (z : α) (f : σ → α → σ) : ∀ (l : List α) (s : σ), (List.range' 0 l.length).foldl (fun s i => f s (l.getD i z)) s = l.foldl f s := by
  intro l s
  rw [← List.range_eq_range']
  have key : ∀ (l : List α), l = (List.range l.length).map fun i => l.getD i z := by
    intro l
    apply List.ext_getElem
    · simp
    · intro i h1 h2
      simp [List.getD_eq_getElem?_getD, List.getElem?_eq_getElem h1]
  conv => rhs; rw [key l, List.foldl_map]
theorem list_loop {α σ ρ : Type} (z : α) {F : Nat → σ → Int → Option ρ} {l : List α} {c : Nat} {step : σ → α → σ} {fin : σ → ρ}
    (hF : ∀ k s (i : Nat), c ≤ k → i < l.length → F (k + 1) s (i : Int) = F k (step s (l.getD i z)) ((i : Int) + 1)) (hE : ∀ k s, c ≤ k → F (k + 1) s (l.length : Int) = some (fin s)) {k : Nat} (s : σ) (hk : l.length + c + 1 ≤ k) :
    F k s 0 = some (fin (l.foldl step s)) := by
  have := fold_loop (F := F) (n := l.length) (c := c) (step := fun s i => step s (l.getD i z)) (fin := fin) (I := fun _ _ => True) (fun k s i hk hi _ => hF k s i hk hi) (fun _ _ _ _ => trivial) (fun k s hk _ => hE k s hk) l.length 0 k s (by omega) (by omega) trivial
  rw [range'_zero_foldl] at this
  exact this
theorem all_loop {α : Type} (z : α) {F : Nat → Int → Option Bool} {l : List α} {p : α → Bool} {c : Nat} {b : Bool}
    (hF : ∀ k (i : Nat), c ≤ k → i < l.length → F (k + 1) (i : Int) = if p (l.getD i z) = true then F k ((i : Int) + 1) else some false) (hE : ∀ k, c ≤ k → F (k + 1) (l.length : Int) = some b) {k : Nat} (hk : l.length + c + 1 ≤ k) :
    F k 0 = some (l.all p && b) := by
  have key : ∀ (d i : Nat) (k : Nat), i + d = l.length → d + c + 1 ≤ k → F k (i : Int) = some ((l.drop i).all p && b) := by
    intro d
    induction d with
    | zero =>
      intro i k hi hk
      obtain ⟨m, rfl⟩ : ∃ m, k = m + 1 := ⟨k - 1, by omega⟩
      obtain rfl : i = l.length := by omega
      rw [hE m (by omega), List.drop_of_length_le (by omega)]
      simp
    | succ d ih =>
      intro i k hi hk
      obtain ⟨m, rfl⟩ : ∃ m, k = m + 1 := ⟨k - 1, by omega⟩
      have hil : i < l.length := by omega
      rw [hF m i (by omega) hil, List.drop_eq_getElem_cons hil, List.all_cons]
      have e : l.getD i z = l[i] := by rw [List.getD_eq_getElem?_getD, List.getElem?_eq_getElem hil]; rfl
      rw [e]
      have := ih (i + 1) m (by omega) (by omega)
      rw [Int.natCast_add] at this
      by_cases h : p l[i] = true
      · rw [if_pos h, h]
        simpa using this
      · rw [if_neg h]
        simp at h
        simp [h]
  have := key l.length 0 k (by omega) (by omega)
  simpa using this
theorem w64_succ {i n : Nat} (h : i < n) (hn : n ≤ 9223372036854775807) : wrap64 ((i : Int) + 1) = (i : Int) + 1 := w64 (by omega) (by omega)
end Go.Proofs.YtkindoepnganmaaGreat.F
end

section
namespace Go.Proofs.YtkindoepnganmaaGreat.F
open Go.RowKit Go.Proofs.YtkindoepnganmaaGreatW.PrintWords Go.Proofs.YtkindoepnganmaaGreatW.PrintLast Go.Proofs.YtkindoepnganmaaGreatW.PrintMore
set_option linter.unusedVariables false
set_option linter.unusedSimpArgs false
def gok (w h : Int) : Bool := decide (1 ≤ w ∧ w ≤ 4 ∧ 1 ≤ h ∧ h ≤ 4)
theorem gok_iff {w h : Int} : gok w h = true ↔ 1 ≤ w ∧ w ≤ 4 ∧ 1 ≤ h ∧ h ≤ 4 := by simp [gok]
theorem gok_wide {w h : Int} (H : gok w h = true) : w = 1 ∨ w = 2 ∨ w = 3 ∨ w = 4 := by rw [gok_iff] at H; omega
theorem gok_high {w h : Int} (H : gok w h = true) : h = 1 ∨ h = 2 ∨ h = 3 ∨ h = 4 := by rw [gok_iff] at H; omega
def cells (w h : Int) : Int := if gok w h then w * h else 0
def gaps (w h : Int) : Int := if gok w h then (w - 1) * h + w * (h - 1) else 0
theorem cells_bd (w h : Int) : 0 ≤ cells w h ∧ cells w h ≤ 16 := by
  unfold cells
  by_cases H : gok w h = true
  · rw [if_pos H]
    rcases gok_wide H with rfl | rfl | rfl | rfl <;> rcases gok_high H with rfl | rfl | rfl | rfl <;> omega
  · rw [if_neg H]; omega
theorem gaps_bd (w h : Int) : 0 ≤ gaps w h ∧ gaps w h ≤ 24 := by
  unfold gaps
  by_cases H : gok w h = true
  · rw [if_pos H]
    rcases gok_wide H with rfl | rfl | rfl | rfl <;> rcases gok_high H with rfl | rfl | rfl | rfl <;> omega
  · rw [if_neg H]; omega
theorem impl_GridOk_eq (w h : Int) : impl_GridOk.f w h = some (gok w h) := by
  unfold impl_GridOk.f gok
  by_cases h1 : w ≥ 1 <;> by_cases h2 : w ≤ 4 <;> by_cases h3 : h ≥ 1 <;> simp [*] <;> omega
theorem spec_l01In_eq (x a b : Int) : spec_l01In.f x a b = some (decide (a ≤ x ∧ x ≤ b)) := by
  unfold spec_l01In.f
  by_cases h1 : x ≥ a
  · simp [h1]
  · rw [if_neg h1]; simp; omega
theorem spec_GridOk_eq (w h : Int) : spec_GridOk.f w h = some (gok w h) := by
  unfold spec_GridOk.f
  simp only [spec_l01In_eq, Option.bind_some]
  unfold gok
  by_cases h1 : 1 ≤ w ∧ w ≤ 4
  · simp [h1]
  · rw [if_neg (by simpa using h1)]; simp; omega
theorem gok_mul {w h : Int} (H : gok w h = true) : 1 ≤ w * h ∧ w * h ≤ 16 ∧ 0 ≤ (w - 1) * h ∧ (w - 1) * h ≤ 12 ∧ 0 ≤ w * (h - 1) ∧ w * (h - 1) ≤ 12 := by
  rcases gok_wide H with rfl | rfl | rfl | rfl <;> rcases gok_high H with rfl | rfl | rfl | rfl <;> omega
theorem impl_CountCells_eq (w h : Int) : impl_CountCells.f w h = some (cells w h) := by
  unfold impl_CountCells.f cells
  rw [impl_GridOk_eq, Option.bind_some]
  by_cases H : gok w h = true
  · have := gok_mul H
    rw [if_pos H, if_pos H, w64 (by omega) (by omega)]
  · rw [if_neg H, if_neg H]
theorem spec_CountCells_eq (w h : Int) : spec_CountCells.f w h = some (cells w h) := by
  unfold spec_CountCells.f cells
  rw [spec_GridOk_eq, Option.bind_some]
  by_cases H : gok w h = true
  · have := gok_mul H
    rw [if_pos H, if_pos H, w64 (by omega) (by omega)]
  · rw [if_neg H, if_neg H]
theorem impl_CountGaps_eq (w h : Int) : impl_CountGaps.f w h = some (gaps w h) := by
  unfold impl_CountGaps.f gaps
  rw [impl_GridOk_eq, Option.bind_some]
  by_cases H : gok w h = true
  · have := gok_mul H
    have b := gok_iff.1 H
    rw [if_pos H, if_pos H, w64 (x := w - 1) (by omega) (by omega), w64 (x := h - 1) (by omega) (by omega), w64 (x := (w - 1) * h) (by omega) (by omega), w64 (x := w * (h - 1)) (by omega) (by omega), w64 (by omega) (by omega)]
  · rw [if_neg H, if_neg H]
theorem spec_CountGaps_eq (w h : Int) : spec_CountGaps.f w h = some (gaps w h) := by
  unfold spec_CountGaps.f spec_l02East.f gaps
  rw [spec_GridOk_eq, Option.bind_some]
  by_cases H : gok w h = true
  · have := gok_mul H
    have b := gok_iff.1 H
    rw [if_pos H, if_pos H, Option.bind_some, w64 (x := w - 1) (by omega) (by omega), w64 (x := h - 1) (by omega) (by omega), Int.mul_comm h (w - 1), w64 (x := (w - 1) * h) (by omega) (by omega), w64 (x := w * (h - 1)) (by omega) (by omega), w64 (by omega) (by omega)]
  · rw [if_neg H, if_neg H]
def icell (w h c : Int) : Bool := decide (0 ≤ c ∧ c < cells w h)
def igap (w h g : Int) : Bool := decide (0 ≤ g ∧ g < gaps w h)
theorem icell_iff {w h c : Int} : icell w h c = true ↔ 0 ≤ c ∧ c < cells w h := by simp [icell]
theorem igap_iff {w h c : Int} : igap w h c = true ↔ 0 ≤ c ∧ c < gaps w h := by simp [igap]
theorem impl_isCell_eq (w h c : Int) : impl_isCell.f w h c = some (icell w h c) := by
  unfold impl_isCell.f icell
  rw [impl_CountCells_eq]
  by_cases h1 : c ≥ 0
  · rw [if_pos h1]; simp [h1]
  · rw [if_neg h1]; simp; omega
theorem impl_isGap_eq (w h c : Int) : impl_isGap.f w h c = some (igap w h c) := by
  unfold impl_isGap.f igap
  rw [impl_CountGaps_eq]
  by_cases h1 : c ≥ 0
  · rw [if_pos h1]; simp [h1]
  · rw [if_neg h1]; simp; omega
theorem in_cells (w h c : Int) : decide (0 ≤ c ∧ c ≤ wrap64 (cells w h - 1)) = icell w h c := by
  have := cells_bd w h
  rw [w64 (by omega) (by omega)]
  unfold icell
  rw [Bool.eq_iff_iff]; simp; omega
theorem in_gaps (w h c : Int) : decide (0 ≤ c ∧ c ≤ wrap64 (gaps w h - 1)) = igap w h c := by
  have := gaps_bd w h
  rw [w64 (by omega) (by omega)]
  unfold igap
  rw [Bool.eq_iff_iff]; simp; omega
theorem icell_gok {w h c : Int} (H : icell w h c = true) : gok w h = true := by
  rw [icell_iff] at H
  unfold cells at H
  by_cases G : gok w h = true
  · exact G
  · rw [if_neg G] at H; omega
theorem icell_mul {w h c : Int} (H : icell w h c = true) : 0 ≤ c ∧ c < w * h := by
  have G := icell_gok H
  rw [icell_iff] at H
  unfold cells at H
  rwa [if_pos G] at H
def nb (w h c d : Int) : Int :=
  if icell w h c then
    (if d = 0 then (if c / w > 0 then c - w else -1) else if d = 1 then (if c % w < w - 1 then c + 1 else -1) else if d = 2 then (if c / w < h - 1 then c + w else -1) else if d = 3 then (if c % w > 0 then c - 1 else -1) else -1)
  else -1
theorem div_facts {w h c : Int} (G : gok w h = true) (H : 0 ≤ c ∧ c < w * h) : Int.tdiv c w = c / w ∧ Int.tmod c w = c % w ∧ wrap64 (c / w) = c / w ∧ 0 ≤ c / w ∧ c / w < h ∧ 0 ≤ c % w ∧ c % w < w ∧ w * (c / w) + c % w = c := by
  have b := gok_iff.1 G
  have e1 : Int.tdiv c w = c / w := Int.tdiv_eq_ediv_of_nonneg H.1
  have e2 : Int.tmod c w = c % w := Int.tmod_eq_emod_of_nonneg H.1
  have e3 : 0 ≤ c / w := Int.ediv_nonneg H.1 (by omega)
  have e4 : c / w < h := by
    apply Int.ediv_lt_of_lt_mul (by omega)
    rw [Int.mul_comm]; exact H.2
  exact ⟨e1, e2, w64 (by omega) (by omega), e3, e4, Int.emod_nonneg _ (by omega), Int.emod_lt_of_pos _ (by omega), Int.mul_ediv_add_emod c w⟩
theorem impl_Neighbor_eq {k : Nat} (hk : 3 ≤ k) (w h c d : Int) : impl_Neighbor.f k w h c d = some (nb w h c d) := by
  obtain ⟨m, rfl⟩ : ∃ m, k = m + 3 := ⟨k - 3, by omega⟩
  unfold impl_Neighbor.f nb
  rw [impl_isCell_eq, Option.bind_some]
  by_cases H : icell w h c = true
  · have G := icell_gok H
    have b := gok_iff.1 G
    have hc := icell_mul H
    have hm := gok_mul G
    obtain ⟨e1, e2, e3, y0, y1, x0, x1, hq⟩ := div_facts G hc
    rw [if_pos H, if_pos H, if_neg (by omega), e1, e2, e3]
    simp only [impl_Neighbor.j0, impl_Neighbor.j1, impl_Neighbor.j2]
    rw [w64 (x := w - 1) (by omega) (by omega), w64 (x := h - 1) (by omega) (by omega)]
    by_cases d0 : d = 0
    · subst d0
      by_cases t : c / w > 0 <;> simp [t, w64 (x := c - w) (by omega) (by omega)]
    by_cases d1 : d = 1
    · subst d1
      by_cases t : c % w < w - 1 <;> simp [t, w64 (x := c + 1) (by omega) (by omega)]
    by_cases d2 : d = 2
    · subst d2
      by_cases t : c / w < h - 1 <;> simp [t, w64 (x := c + w) (by omega) (by omega)]
    by_cases d3 : d = 3
    · subst d3
      by_cases t : c % w > 0 <;> simp [t, w64 (x := c - 1) (by omega) (by omega)]
    simp [d0, d1, d2, d3]
  · rw [if_neg H, if_neg H]
theorem spec_j0_eq {w h : Int} (G : gok w h = true) (m : Nat) {x y : Int} : spec_Neighbor.j0 (m + 1) x y w h = some (if 0 ≤ x ∧ x ≤ w - 1 ∧ 0 ≤ y ∧ y ≤ h - 1 then y * w + x else -1) := by
  have b := gok_iff.1 G
  simp only [spec_Neighbor.j0, spec_l01In_eq, Option.bind_some, decide_eq_true_eq]
  rw [w64 (x := w - 1) (by omega) (by omega), w64 (x := h - 1) (by omega) (by omega)]
  by_cases h1 : 0 ≤ x ∧ x ≤ w - 1
  · rw [if_pos h1]
    by_cases h2 : 0 ≤ y ∧ y ≤ h - 1
    · have l1 : y * w ≤ 3 * 4 := Int.mul_le_mul (by omega) (by omega) (by omega) (by omega)
      have l0 : 0 ≤ y * w := Int.mul_nonneg (by omega) (by omega)
      rw [if_pos h2, if_pos ⟨h1.1, h1.2, h2.1, h2.2⟩, w64 (x := y * w) (by omega) (by omega), w64 (by omega) (by omega)]
    · rw [if_neg h2, if_neg (fun h => h2 ⟨h.2.2.1, h.2.2.2⟩)]
  · rw [if_neg h1, if_neg (fun h => h1 ⟨h.1, h.2.1⟩)]
theorem spec_Neighbor_eq {k : Nat} (hk : 1 ≤ k) (w h c d : Int) : spec_Neighbor.f k w h c d = some (nb w h c d) := by
  obtain ⟨m, rfl⟩ : ∃ m, k = m + 1 := ⟨k - 1, by omega⟩
  unfold spec_Neighbor.f nb
  rw [spec_CountCells_eq, Option.bind_some, spec_l01In_eq, Option.bind_some, in_cells]
  by_cases H : icell w h c = true
  · have G := icell_gok H
    have b := gok_iff.1 G
    have hc := icell_mul H
    have hm := gok_mul G
    obtain ⟨e1, e2, e3, y0, y1, x0, x1, hq⟩ := div_facts G hc
    rw [if_pos H, if_pos H, if_neg (by omega), e1, e2, e3, w64 (x := c / w - 1) (by omega) (by omega), w64 (x := c / w + 1) (by omega) (by omega), w64 (x := c % w - 1) (by omega) (by omega), w64 (x := c % w + 1) (by omega) (by omega)]
    simp only [spec_j0_eq G]
    have p1 : (c / w - 1) * w = w * (c / w) - w := by rw [Int.sub_mul, Int.one_mul, Int.mul_comm]
    have p2 : (c / w + 1) * w = w * (c / w) + w := by rw [Int.add_mul, Int.one_mul, Int.mul_comm]
    have p3 : (c / w) * w = w * (c / w) := Int.mul_comm _ _
    rw [p1, p2, p3]
    by_cases d0 : d = 0
    · rw [if_pos d0, if_pos d0]
      by_cases t : c / w > 0
      · rw [if_pos (by omega), if_pos t]; congr 1; omega
      · rw [if_neg (by omega), if_neg t]
    rw [if_neg d0, if_neg d0]
    by_cases d1 : d = 1
    · rw [if_pos d1, if_pos d1]
      by_cases t : c % w < w - 1
      · rw [if_pos (by omega), if_pos t]; congr 1; omega
      · rw [if_neg (by omega), if_neg t]
    rw [if_neg d1, if_neg d1]
    by_cases d2 : d = 2
    · rw [if_pos d2, if_pos d2]
      by_cases t : c / w < h - 1
      · rw [if_pos (by omega), if_pos t]; congr 1; omega
      · rw [if_neg (by omega), if_neg t]
    rw [if_neg d2, if_neg d2]
    by_cases d3 : d = 3
    · rw [if_pos d3, if_pos d3]
      by_cases t : c % w > 0
      · rw [if_pos (by omega), if_pos t]; congr 1; omega
      · rw [if_neg (by omega), if_neg t]
    rw [if_neg d3, if_neg d3]
  · rw [if_neg H, if_neg H]
end Go.Proofs.YtkindoepnganmaaGreat.F
end

section
namespace Go.Proofs.YtkindoepnganmaaGreat.F
open Go.RowKit Go.Proofs.YtkindoepnganmaaGreatW.PrintWords Go.Proofs.YtkindoepnganmaaGreatW.PrintLast Go.Proofs.YtkindoepnganmaaGreatW.PrintMore
set_option linter.unusedVariables false
set_option linter.unusedSimpArgs false
theorem mn_min (a b : Int) : mn a b = min a b := by unfold mn; omega
theorem mx_max (a b : Int) : mx a b = max a b := by unfold mx; omega
theorem nb_facts {w h c d : Int} (H : 0 ≤ nb w h c d) : icell w h c = true ∧ icell w h (nb w h c d) = true ∧ 0 ≤ d ∧ d ≤ 3 := by
  unfold nb at H ⊢
  by_cases hc : icell w h c = true
  · have G := icell_gok hc
    have b := gok_iff.1 G
    have hm := icell_mul hc
    obtain ⟨_, _, _, y0, y1, x0, x1, hq⟩ := div_facts G hm
    rw [if_pos hc] at H ⊢
    have m1 : w * (c / w) ≤ w * (h - 1) := Int.mul_le_mul_of_nonneg_left (by omega) (by omega)
    have m2 : w * (h - 1) = w * h - w := by rw [Int.mul_sub, Int.mul_one]
    have ce : cells w h = w * h := by unfold cells; rw [if_pos G]
    refine ⟨hc, ?_, ?_⟩
    · rw [icell_iff, ce]
      by_cases d0 : d = 0
      · subst d0
        by_cases t : c / w > 0
        · have m3 : w * 1 ≤ w * (c / w) := Int.mul_le_mul_of_nonneg_left (by omega) (by omega)
          simp [t]; omega
        · simp [t] at H
      by_cases d1 : d = 1
      · subst d1
        by_cases t : c % w < w - 1
        · simp [t]; omega
        · simp [t] at H
      by_cases d2 : d = 2
      · subst d2
        by_cases t : c / w < h - 1
        · have m4 : w * (c / w + 1) ≤ w * (h - 1) := Int.mul_le_mul_of_nonneg_left (by omega) (by omega)
          rw [Int.mul_add, Int.mul_one] at m4
          simp [t]; omega
        · simp [t] at H
      by_cases d3 : d = 3
      · subst d3
        by_cases t : c % w > 0
        · simp [t]; omega
        · simp [t] at H
      simp [d0, d1, d2, d3] at H
    · by_cases d0 : d = 0
      · omega
      by_cases d1 : d = 1
      · omega
      by_cases d2 : d = 2
      · omega
      by_cases d3 : d = 3
      · omega
      simp [d0, d1, d2, d3] at H
  · rw [if_neg hc] at H; omega
def gp (w h c d : Int) : Int :=
  if nb w h c d < 0 then -1 else if d = 1 ∨ d = 3 then min c (nb w h c d) / w * (w - 1) + min c (nb w h c d) % w else (w - 1) * h + min c (nb w h c d)
theorem gp_neg {w h c d : Int} (H : nb w h c d < 0) : gp w h c d = -1 := by unfold gp; rw [if_pos H]
theorem min_facts {w h c d : Int} (H : 0 ≤ nb w h c d) : 0 ≤ min c (nb w h c d) ∧ min c (nb w h c d) < w * h ∧ gok w h = true := by
  obtain ⟨h1, h2, _, _⟩ := nb_facts H
  have a := icell_mul h1
  have b := icell_mul h2
  exact ⟨by omega, by omega, icell_gok h1⟩
theorem impl_GapAt_eq {k : Nat} (hk : 3 ≤ k) (w h c d : Int) : impl_GapAt.f k w h c d = some (gp w h c d) := by
  unfold impl_GapAt.f gp
  rw [impl_Neighbor_eq hk, Option.bind_some]
  by_cases H : nb w h c d < 0
  · rw [if_pos H, if_pos H]
  · have H' : 0 ≤ nb w h c d := by omega
    obtain ⟨m0, m1, G⟩ := min_facts H'
    have b := gok_iff.1 G
    have hm := gok_mul G
    rw [if_neg H, if_neg H, mn_min]
    obtain ⟨e1, e2, e3, y0, y1, x0, x1, hq⟩ := div_facts G ⟨m0, m1⟩
    have l1 : min c (nb w h c d) / w * (w - 1) ≤ 3 * 3 := Int.mul_le_mul (by omega) (by omega) (by omega) (by omega)
    have l0 : 0 ≤ min c (nb w h c d) / w * (w - 1) := Int.mul_nonneg y0 (by omega)
    have t1 : wrap64 (wrap64 (wrap64 (Int.tdiv (min c (nb w h c d)) w) * wrap64 (w - 1)) + Int.tmod (min c (nb w h c d)) w) = min c (nb w h c d) / w * (w - 1) + min c (nb w h c d) % w := by
      rw [e1, e2, e3, w64 (x := w - 1) (by omega) (by omega), w64 (x := _ * _) (by omega) (by omega), w64 (by omega) (by omega)]
    have t2 : wrap64 (wrap64 (wrap64 (w - 1) * h) + min c (nb w h c d)) = (w - 1) * h + min c (nb w h c d) := by
      rw [w64 (x := w - 1) (by omega) (by omega), w64 (x := (w - 1) * h) (by omega) (by omega), w64 (by omega) (by omega)]
    rw [t1, t2]
    by_cases d1 : d = 1
    · simp [d1]; omega
    · by_cases d3 : d = 3
      · simp [d3]; omega
      · simp [d1, d3]
theorem spec_GapAt_eq {k : Nat} (hk : 1 ≤ k) (w h c d : Int) : spec_GapAt.f k w h c d = some (gp w h c d) := by
  unfold spec_GapAt.f gp
  rw [spec_Neighbor_eq hk, Option.bind_some]
  by_cases H : nb w h c d < 0
  · rw [if_pos H, if_pos H]
  · have H' : 0 ≤ nb w h c d := by omega
    obtain ⟨m0, m1, G⟩ := min_facts H'
    have b := gok_iff.1 G
    have hm := gok_mul G
    rw [if_neg H, if_neg H, mn_min]
    obtain ⟨e1, e2, e3, y0, y1, x0, x1, hq⟩ := div_facts G ⟨m0, m1⟩
    have l1 : min c (nb w h c d) / w * (w - 1) ≤ 3 * 3 := Int.mul_le_mul (by omega) (by omega) (by omega) (by omega)
    have l0 : 0 ≤ min c (nb w h c d) / w * (w - 1) := Int.mul_nonneg y0 (by omega)
    have t1 : wrap64 (wrap64 (wrap64 (Int.tdiv (min c (nb w h c d)) w) * wrap64 (w - 1)) + Int.tmod (min c (nb w h c d)) w) = min c (nb w h c d) / w * (w - 1) + min c (nb w h c d) % w := by
      rw [e1, e2, e3, w64 (x := w - 1) (by omega) (by omega), w64 (x := _ * _) (by omega) (by omega), w64 (by omega) (by omega)]
    have t2 : wrap64 (wrap64 (h * wrap64 (w - 1)) + min c (nb w h c d)) = (w - 1) * h + min c (nb w h c d) := by
      rw [w64 (x := w - 1) (by omega) (by omega), Int.mul_comm h, w64 (x := (w - 1) * h) (by omega) (by omega), w64 (by omega) (by omega)]
    simp only [spec_l02East.f, Option.bind_some]
    rw [t1, t2]
    by_cases d1 : d = 1
    · simp [d1]; omega
    · by_cases d3 : d = 3
      · simp [d3]; omega
      · simp [d1, d3]
def mok (w h o : Int) : Bool := gok w h && decide (0 ≤ o ∧ o < 2 ^ (gaps w h).toNat)
theorem mok_iff {w h o : Int} : mok w h o = true ↔ gok w h = true ∧ 0 ≤ o ∧ o < 2 ^ (gaps w h).toNat := by simp [mok]
theorem gpow (w h : Int) : (2 : Int) ^ (gaps w h).toNat ≤ 16777216 ∧ (1 : Int) ≤ 2 ^ (gaps w h).toNat := by
  have b := gaps_bd w h
  have p : (2 : Nat) ^ (gaps w h).toNat ≤ 2 ^ 24 := Nat.pow_le_pow_right (by decide) (by omega)
  have q : 0 < (2 : Nat) ^ (gaps w h).toNat := Nat.two_pow_pos _
  have e : ((2 : Int) ^ (gaps w h).toNat) = ((2 ^ (gaps w h).toNat : Nat) : Int) := by simp
  omega
theorem mok_small {w h o : Int} (H : mok w h o = true) : 0 ≤ o ∧ o < 16777216 := by
  have := mok_iff.1 H
  have := gpow w h
  omega
theorem shl_gaps (w h : Int) : shl .i64 1 (gaps w h) = 2 ^ (gaps w h).toNat := by
  have b := gaps_bd w h
  have := shl_one (g := (gaps w h).toNat) (by omega)
  rw [show (((gaps w h).toNat : Nat) : Int) = gaps w h from Int.toNat_of_nonneg b.1] at this
  rw [this]
  simp
theorem impl_MazeOk_eq (w h o : Int) : impl_MazeOk.f w h o = some (mok w h o) := by
  unfold impl_MazeOk.f mok
  have b := gaps_bd w h
  rw [impl_GridOk_eq, impl_CountGaps_eq]
  simp only [Option.bind_some, shl_gaps]
  by_cases G : gok w h = true
  · simp only [G, if_true, Bool.true_and]
    by_cases h0 : o ≥ 0
    · rw [if_pos h0, if_pos b.1]
      simp; omega
    · rw [if_neg h0]; simp; omega
  · simp [G]
theorem spec_MazeOk_eq (w h o : Int) : spec_MazeOk.f w h o = some (mok w h o) := by
  unfold spec_MazeOk.f mok
  have b := gaps_bd w h
  have p := gpow w h
  rw [spec_GridOk_eq, spec_CountGaps_eq]
  simp only [Option.bind_some, shl_gaps, w64 (x := (2 : Int) ^ (gaps w h).toNat - 1) (by omega) (by omega)]
  by_cases G : gok w h = true
  · simp only [Option.bind_some, G, if_true, Bool.true_and, spec_l01In_eq, if_pos b.1]
    congr 2
    exact propext ⟨fun h => ⟨h.1, by omega⟩, fun h => ⟨h.1, by omega⟩⟩
  · simp [G]
theorem impl_isOpen_eq {w h o : Int} (h0 : 0 ≤ o) (h1 : o < 9223372036854775808) (g : Int) : impl_isOpen.f w h o g = some (decide (0 ≤ g) && opn o g) := by
  unfold impl_isOpen.f
  by_cases hg : g ≥ 0
  · rw [if_pos hg, if_pos (by omega), bit_test h0 h1 (by omega)]
    simp; omega
  · rw [if_neg hg]
    simp; omega
theorem spec_l03Bit_eq {o : Int} (h0 : 0 ≤ o) (h1 : o < 9223372036854775808) {g : Int} (hg : 0 ≤ g) : spec_l03Bit.f o g = some (opn o g) := by
  unfold spec_l03Bit.f
  rw [if_pos hg, bit_test h0 h1 hg]
def psg (w h o g : Int) : Bool := mok w h o && igap w h g && opn o g
theorem spec_IsPassage_eq (w h o g : Int) : spec_IsPassage.f w h o g = some (psg w h o g) := by
  unfold spec_IsPassage.f psg
  rw [spec_MazeOk_eq, spec_CountGaps_eq]
  by_cases M : mok w h o = true
  · have s := mok_small M
    simp only [Option.bind_some, M, if_true, Bool.true_and, spec_l01In_eq, in_gaps]
    by_cases g1 : igap w h g = true
    · rw [if_pos g1, spec_l03Bit_eq s.1 (by omega) (igap_iff.1 g1).1]
      simp [g1]
    · rw [if_neg g1]; simp [g1]
  · simp [M]
theorem gp_range {w h c d : Int} (H : 0 ≤ nb w h c d) : igap w h (gp w h c d) = true := by
  obtain ⟨h1, h2, d0, d3⟩ := nb_facts H
  have G := icell_gok h1
  have a := icell_mul h1
  rw [igap_iff]
  unfold gp gaps
  rw [if_neg (by omega), if_pos G]
  have hd : d = 0 ∨ d = 1 ∨ d = 2 ∨ d = 3 := by omega
  revert H
  unfold nb
  rw [if_pos h1]
  rcases gok_wide G with rfl | rfl | rfl | rfl <;> rcases gok_high G with rfl | rfl | rfl | rfl <;> rcases hd with rfl | rfl | rfl | rfl <;> simp <;> split <;> omega
def st (w h o c d : Int) : Int := if psg w h o (gp w h c d) then nb w h c d else -1
theorem st_nb {w h o c d : Int} (H : 0 ≤ st w h o c d) : st w h o c d = nb w h c d ∧ psg w h o (gp w h c d) = true := by
  unfold st at H ⊢
  by_cases p : psg w h o (gp w h c d) = true
  · rw [if_pos p]; exact ⟨rfl, p⟩
  · rw [if_neg p] at H; omega
theorem impl_Step_eq {k : Nat} (hk : 3 ≤ k) (w h o c d : Int) : impl_Step.f k w h o c d = some (st w h o c d) := by
  unfold impl_Step.f st psg
  rw [impl_MazeOk_eq]
  by_cases M : mok w h o = true
  · have s := mok_small M
    simp only [Option.bind_some, M, if_true, Bool.true_and, impl_GapAt_eq hk, impl_isOpen_eq s.1 (show o < 9223372036854775808 by omega), impl_Neighbor_eq hk]
    by_cases H : 0 ≤ nb w h c d
    · have r := gp_range H
      have := (igap_iff.1 r).1
      simp [r, this]
      split <;> rfl
    · rw [gp_neg (by omega)]
      simp [igap]
  · simp [M]
theorem spec_Step_eq {k : Nat} (hk : 1 ≤ k) (w h o c d : Int) : spec_Step.f k w h o c d = some (st w h o c d) := by
  unfold spec_Step.f st
  rw [spec_MazeOk_eq]
  by_cases M : mok w h o = true
  · simp only [Option.bind_some, M, if_true, spec_GapAt_eq hk, spec_IsPassage_eq, spec_Neighbor_eq hk]
    split <;> rfl
  · simp [M, psg]
theorem st_facts {w h o c d : Int} (H : 0 ≤ st w h o c d) : mok w h o = true ∧ icell w h c = true ∧ icell w h (st w h o c d) = true ∧ 0 ≤ d ∧ d ≤ 3 := by
  obtain ⟨e, p⟩ := st_nb H
  rw [e] at H ⊢
  obtain ⟨h1, h2, h3, h4⟩ := nb_facts H
  unfold psg at p
  simp at p
  exact ⟨p.1.1, h1, h2, h3, h4⟩
end Go.Proofs.YtkindoepnganmaaGreat.F
end
