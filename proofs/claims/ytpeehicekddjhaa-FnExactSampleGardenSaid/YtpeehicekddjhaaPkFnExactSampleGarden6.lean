/- Packed by a program of the session (wip/tools/pack.py): what the claim's theorem reaches, of the texts that wip/ and the kit's printer lay. -/
import Derived.Test.YtpeehicekddjhaaPkFnExactSampleGarden5
import Derived.Laws.StructEq
section
namespace Go.Proofs.Ytpeehicekddjhaa.F
open Go.RowKit Go.Proofs.YtpeehicekddjhaaW.PrintWords Go.Proofs.YtpeehicekddjhaaW.PrintLast Go.Proofs.YtpeehicekddjhaaW.PrintMore
set_option linter.unusedVariables false
set_option linter.unusedSimpArgs false
attribute [local go_sem] max2_int min2_int max_two min_two
set_option maxRecDepth 20000 in set_option maxHeartbeats 4000000 in open Nat renaming reduceAdd → p1, reduceSub → p2, reduceMul → p3, reduceDiv → p4, reduceBNe → p5, reduceBEq → p6, reduceEqDiff → p7, reduceLeDiff → p8, reduceLT → p9 in open Int renaming reduceLE → p10, reduceLT → p11, reduceEq → p12 in
theorem impl_MazeOk.ctr {a0_0 : Int} {a0_1 : Int} {a0_2 : Int} {r : Bool} (h : impl_MazeOk.f a0_0 a0_1 a0_2 = some r) : Ctr Try.prog 84 [.ag [.v (.int .i64 a0_0), .v (.int .i64 a0_1), .v (.int .i64 a0_2)]] (.v (.bool r)) := by
  refine Ctr_of tyOk hm Try.func84 rfl rfl (by kernel_rfl) (n := 19) (rv := [.tmp 2]) rfl rfl ?_
  simp only [W, List.replicate]
  unfold impl_MazeOk.f at h
  replace h := bnd h; obtain ⟨t1, A, h⟩ := h
  try simp only [W, p1, p2, p3, p4, p5, p6, p7, p8, p9, p10, p11]
  refine callR (impl_GridOk.ctr A) ?_
  replace h := ifT h; rcases h with ⟨rfl, h⟩ | ⟨rfl, h⟩
  · replace h := ifS h; rcases h with ⟨c3, h⟩ | ⟨c3, h⟩
    · replace h := bnd h; obtain ⟨t4, A, h⟩ := h
      try simp only [W, c3, p1, p2, p3, p4, p5, p6, p7, p8, p9, p10, p11]
      refine callR (impl_CountGaps.ctr A) ?_
      replace h := ifN h; obtain ⟨c5, h⟩ := h
      cases h
      try simp only [W, c3, c5, p1, p2, p3, p4, p5, p6, p7, p8, p9, p10, p11]
    · cases h
      try simp only [W, c3, p1, p2, p3, p4, p5, p6, p7, p8, p9, p10, p11]
  · cases h
    try simp only [W, p1, p2, p3, p4, p5, p6, p7, p8, p9, p10, p11]
theorem impl_MazeOk.calls (a0_0 : Int) (a0_1 : Int) (a0_2 : Int) (r : Bool) (w : World) (h : impl_MazeOk.f a0_0 a0_1 a0_2 = some r) :
    Calls Try.prog 84 #[.agg #[.int .i64 a0_0, .int .i64 a0_1, .int .i64 a0_2]] w fun e w' => e = .returned (.bool r) ∧ Below w.heap.size w w' := by
  refine ((impl_MazeOk.ctr h).2 w [.agg #[.int .i64 a0_0, .int .i64 a0_1, .int .i64 a0_2]] (by simp only [RepL, Rep]; exact ⟨_, _, rfl, ⟨_, rfl, _, _, rfl, rfl, _, _, rfl, rfl, _, _, rfl, rfl, rfl⟩, rfl⟩)).mono ?_
  rintro _ _ ⟨y, L, rfl, hR, _, hb⟩
  exact ⟨congrArg Ending.returned (RepR_pln rfl hR).1, hb⟩
set_option maxRecDepth 20000 in set_option maxHeartbeats 4000000 in open Nat renaming reduceAdd → p1, reduceSub → p2, reduceMul → p3, reduceDiv → p4, reduceBNe → p5, reduceBEq → p6, reduceEqDiff → p7, reduceLeDiff → p8, reduceLT → p9 in open Int renaming reduceLE → p10, reduceLT → p11, reduceEq → p12 in
theorem impl_isOpen.ctr {a0_0 : Int} {a0_1 : Int} {a0_2 : Int} {a1 : Int} {r : Bool} (h : impl_isOpen.f a0_0 a0_1 a0_2 a1 = some r) : Ctr Try.prog 149 [.ag [.v (.int .i64 a0_0), .v (.int .i64 a0_1), .v (.int .i64 a0_2)], .v (.int .i64 a1)] (.v (.bool r)) := by
  refine Ctr_of tyOk hm Try.func149 rfl rfl (by kernel_rfl) (n := 13) (rv := [.tmp 4]) rfl rfl ?_
  simp only [W, List.replicate]
  unfold impl_isOpen.f at h
  replace h := ifS h; rcases h with ⟨c1, h⟩ | ⟨c1, h⟩
  · replace h := ifN h; obtain ⟨c2, h⟩ := h
    cases h
    try simp only [W, c1, c2, p1, p2, p3, p4, p5, p6, p7, p8, p9, p10, p11]
  · cases h
    try simp only [W, c1, p1, p2, p3, p4, p5, p6, p7, p8, p9, p10, p11]
set_option maxHeartbeats 2000000 in
theorem slices_IndexFunc_int.calls (p : Int → Bool) (g : Nat) (lb : Array Value) (eg : ∀ args w, (callFunc g args).run Try.prog w = .ok (.enter g args) w) (A0 : Option Addr) (c0 : Nat) (l0 : List Int) (w : World) (hr0 : Kd.C (Kd.int .i64) w A0 l0.length l0)
  (hp : ∀ (W : World) (x : Int), x ∈ l0 → Below w.heap.size w W → Calls Try.prog g (#[.int .i64 x] ++ lb) W fun e w' => e = .returned (.bool (p x)) ∧ Below w.heap.size w w') :
  Calls Try.prog 138 #[.slice A0 l0.length c0, .func (.func g) #[] lb] w fun e w' => e = .returned (.int .i64 (idxF p l0)) ∧ Below w.heap.size w w' := by
 have hn : l0.length ≤ 9223372036854775807 := hr0.2.1
 go_enter Try.func138, Try.ntmps138
 go_wp2
 go_loopg [5, 8] l0.length (fun gg _ s8 wr => ∃ kk : Nat, kk ≤ l0.length ∧ l0.length - kk ≤ gg ∧ s8 = .int .i64 kk ∧ Aside0 (Below w.heap.size w wr) ∧ Aside0 (∀ j, j < kk → p (rd l0 (j : Int)) = false))
 case atStart => exact ⟨0, Nat.zero_le _, by omega, rfl, ⟨Below.refl _ w⟩, ⟨fun j hj => absurd hj (Nat.not_lt_zero _)⟩⟩
 case round =>
  obtain ⟨kk, hkk, hg, rfl, BW, Av⟩ := hrel
  by_cases hlt : kk < l0.length
  ·have hltz : (kk : Int) < (l0.length : Int) := by omega
   have hz : (0 : Int) ≤ (kk : Int) := by omega
   obtain ⟨ad, rfl, hx⟩ := Kd.at_int (Kd.C_below hr0 BW.out) (kk : Int) hz hltz
   rw [Int.toNat_natCast] at hx
   have hmem : rd l0 (kk : Int) ∈ l0 := rd_mem hlt
   have hcall := hp wr (rd l0 (kk : Int)) hmem BW.out
   have HM := aK hmem
   clear hmem hp
   generalize hy : rd l0 (kk : Int) = y at hx hcall
   have HY := aK hy
   clear hy
   cases hq : p y with
   | true =>
    rw [hq] at hcall
    have HQ := aK hq
    clear hq
    go_wp2_with (go_at_fn g; refine hcall.mono ?_; rintro e w' ⟨rfl, hb'⟩)
    go_ret
    refine ⟨?_, hb'⟩
    rw [idxF_hit p l0 kk hlt (by rw [rd_nat l0 kk] at HY; rw [HY.out]; exact HQ.out) (fun j hj => by have := Av.out j hj; rwa [rd_nat l0 j] at this)]
    all_goals rfl
   | false =>
    rw [hq] at hcall
    have HQ := aK hq
    clear hq
    go_wp2_with (go_at_fn g; refine hcall.mono ?_; rintro e w' ⟨rfl, hb'⟩)
    go_roundg (l0.length - (kk + 1))
    case measure => omega
    case rel =>
     refine ⟨kk + 1, by omega, by omega, by go_num, ⟨hb'⟩, ⟨fun j hj => ?_⟩⟩
     by_cases e : j = kk
     ·subst e
      rw [HY.out]; exact HQ.out
     ·exact Av.out j (by omega)
  ·have hltz : ¬ (kk : Int) < (l0.length : Int) := by omega
   have : kk = l0.length := by omega
   subst this
   go_wp2
   go_ret
   refine ⟨?_, BW.out⟩
   rw [idxF_miss p l0 (fun j hj => by have := Av.out j hj; rwa [rd_nat l0 j] at this)]
   all_goals rfl
set_option maxHeartbeats 2000000 in
theorem slices_ContainsFunc_int.calls (p : Int → Bool) (g : Nat) (lb : Array Value) (eg : ∀ args w, (callFunc g args).run Try.prog w = .ok (.enter g args) w) (A0 : Option Addr) (c0 : Nat) (l0 : List Int) (w : World) (hr0 : Kd.C (Kd.int .i64) w A0 l0.length l0)
  (hp : ∀ (W : World) (x : Int), x ∈ l0 → Below w.heap.size w W → Calls Try.prog g (#[.int .i64 x] ++ lb) W fun e w' => e = .returned (.bool (p x)) ∧ Below w.heap.size w w') :
  Calls Try.prog 147 #[.slice A0 l0.length c0, .func (.func g) #[] lb] w fun e w' => e = .returned (.bool (l0.any p)) ∧ Below w.heap.size w w' := by
 rw [show l0.any p = decide (0 ≤ idxF p l0) from (idxF_any p l0).symm]
 go_enter Try.func147, Try.ntmps147
 go_wp2_with (go_at_call 138; refine (slices_IndexFunc_int.calls p g lb eg A0 c0 l0 _ hr0 hp).mono ?_; rintro e w' ⟨rfl, hb'⟩)
 go_ret
 exact ⟨rfl, hb'⟩
set_option maxHeartbeats 2000000 in
theorem impl_isIn_1.calls (a b o : Int) (B : Nat) (W : World) (hB : W.heap[B]? = some (.cells #[.int .i64 a, .int .i64 b, .int .i64 o] 27 (0, 0))) (x : Int) (r : Bool) (h : impl_isCell.f a b x = some r) :
  Calls Try.prog 148 #[.int .i64 x, .pointer (some ⟨B, 0, none⟩)] W fun e w' => e = .returned (.bool (!r)) ∧ Below W.heap.size W w' := by
 have hu := Try.underlying27
 have hug := Try.underlying25
 have h0 : W.cell? ⟨B, 0, none⟩ = some (.int .i64 a) := (kC hB 0).trans rfl
 have h1 : W.cell? ⟨B, 1, none⟩ = some (.int .i64 b) := (kC hB 1).trans rfl
 have h2 : W.cell? ⟨B, 2, none⟩ = some (.int .i64 o) := (kC hB 2).trans rfl
 clear hB
 go_enter Try.func148, Try.ntmps148
 go_wp2_with (go_at_call 63; refine (impl_isCell.calls a b x r _ h).mono ?_; rintro e w' ⟨rfl, hb⟩)
 go_ret
 exact ⟨rfl, hb⟩
set_option maxHeartbeats 4000000 in
theorem impl_isIn.calls (a0_0 : Int) (a0_1 : Int) (a0_2 : Int) (A1 : Option Addr) (c1 : Nat) (l1 : List Int) (r : Bool) (w : World) (hr1 : Kd.C (Kd.int .i64) w A1 l1.length l1) (hc1 : l1.length ≤ c1) (h : impl_isIn.f a0_0 a0_1 a0_2 l1 = some r) :
  Calls Try.prog 75 #[.agg #[.int .i64 a0_0, .int .i64 a0_1, .int .i64 a0_2], .slice A1 l1.length c1] w fun e w' => e = .returned (.bool r) ∧ Below w.heap.size w w' := by
 have hu := Try.underlying27
 obtain ⟨b, hm, H⟩ := Option.bind_eq_some_iff.mp h
 clear h
 cases b with
 | false =>
  rw [if_neg Bool.false_ne_true] at H
  obtain rfl := Option.some.inj H
  go_enter Try.func75, Try.ntmps75
  go_wp2_with (go_at_call 84; refine (impl_MazeOk.calls a0_0 a0_1 a0_2 false _ hm).mono ?_; rintro e w' ⟨rfl, hb⟩)
  go_ret
  exact ⟨rfl, ((Below.refl _ w).alloc (Nat.le_refl _) _).trans (hb.mono (by simp))⟩
 | true =>
  rw [if_pos rfl] at H
  obtain ⟨hx, hv⟩ := allO_some H
  have eg : ∀ args w, (callFunc 148 args).run Try.prog w = .ok (.enter 148 args) w := enters_of Try.func148 (by kernel_rfl) rfl
  have hcon := fun (W : World) (hb : Below (w.heap.size + 1) (w.alloc (.cells #[.int .i64 a0_0, .int .i64 a0_1, .int .i64 a0_2] 27)) W) =>
   slices_ContainsFunc_int.calls (fun x => !((impl_isCell.f a0_0 a0_1 x).getD false)) 148 #[.pointer (some ⟨w.heap.size, 0, none⟩)] eg A1 c1 l1 W (Kd.C_below hr1 (((Below.refl _ w).alloc (Nat.le_refl _) _).trans (hb.mono (by simp)))) (fun W' x hxm hb' => by
    have hW := hb.trans (hb'.mono (by have := hb.size; simpa using this))
    obtain ⟨v, hv'⟩ := hx x hxm
    have hB : W'.heap[w.heap.size]? = some (.cells #[.int .i64 a0_0, .int .i64 a0_1, .int .i64 a0_2] 27 (0, 0)) := (hW.block w.heap.size (by omega)).trans (heap_alloc_new w _)
    refine (impl_isIn_1.calls a0_0 a0_1 a0_2 w.heap.size W' hB x v hv').mono ?_
    rintro e w' ⟨rfl, hb2⟩
    exact ⟨by rw [hv']; rfl, hb'.trans (hb2.mono hb'.size)⟩)
  clear hr1
  rw [hv]
  clear hv H
  generalize hg : (l1.any fun x => !((impl_isCell.f a0_0 a0_1 x).getD false)) = q at hcon ⊢
  clear hg hx eg
  go_enter Try.func75, Try.ntmps75
  go_wp2_with (first | (go_at_call 84; refine (impl_MazeOk.calls a0_0 a0_1 a0_2 true _ hm).mono ?_; rintro e w' ⟨rfl, hb⟩) | (go_at_call 147; refine (hcon _ (by simpa using hb)).mono ?_; rintro e w2 ⟨rfl, hb2⟩))
  go_ret
  exact ⟨rfl, (((Below.refl _ w).alloc (Nat.le_refl _) _).trans (hb.mono (by simp))).trans (hb2.mono (by have := hb.size; simp at this; omega))⟩
theorem impl_isIn.ctr {a0_0 : Int} {a0_1 : Int} {a0_2 : Int} {l1 : List Int} {r : Bool} (h : impl_isIn.f a0_0 a0_1 a0_2 l1 = some r) : Ctr Try.prog 75 [.ag [.v (.int .i64 a0_0), .v (.int .i64 a0_1), .v (.int .i64 a0_2)], .pr 1 (l1.map eI)] (.v (.bool r)) := by
  refine ⟨enters_of Try.func75 rfl rfl, fun w ys hys => ?_⟩
  simp only [RepL, Rep] at hys
  obtain ⟨_, _, rfl, ⟨_, rfl, _, _, rfl, rfl, _, _, rfl, rfl, _, _, rfl, rfl, rfl⟩, _, _, rfl, q1, rfl⟩ := hys
  obtain ⟨_, _, rfl, hr1, hc1⟩ := C_of_at E_eI q1
  refine (impl_isIn.calls _ _ _ _ _ _ _ w hr1 hc1 h).mono ?_
  rintro _ _ ⟨rfl, hb⟩
  exact ⟨_, [], rfl, by simp [RepR, RepRL], List.nodup_nil, hb⟩
set_option maxRecDepth 20000 in set_option maxHeartbeats 4000000 in open Nat renaming reduceAdd → p1, reduceSub → p2, reduceMul → p3, reduceDiv → p4, reduceBNe → p5, reduceBEq → p6, reduceEqDiff → p7, reduceLeDiff → p8, reduceLT → p9 in open Int renaming reduceLE → p10, reduceLT → p11, reduceEq → p12 in
theorem impl_Neighbor.ctr {k : Nat} {a0_0 : Int} {a0_1 : Int} {a1 : Int} {a2 : Int} {r : Int} (h : impl_Neighbor.f k a0_0 a0_1 a1 a2 = some r) : Ctr Try.prog 151 [.ag [.v (.int .i64 a0_0), .v (.int .i64 a0_1)], .v (.int .i64 a1), .v (.int .i64 a2)] (.v (.int .i64 r)) := by
  refine Ctr_of tyOk hm Try.func151 rfl rfl (by kernel_rfl) (n := 64) (rv := [.tmp 6]) rfl rfl ?_
  simp only [W, List.replicate]
  unfold impl_Neighbor.f at h
  replace h := bnd h; obtain ⟨t1, A, h⟩ := h
  try simp only [W, p1, p2, p3, p4, p5, p6, p7, p8, p9, p10, p11]
  refine callR (impl_isCell.ctr A) ?_
  replace h := ifT h; rcases h with ⟨rfl, h⟩ | ⟨rfl, h⟩
  · replace h := ifM h; obtain ⟨c3, h⟩ := h
    replace h := ifS h; rcases h with ⟨c4, h⟩ | ⟨c4, h⟩
    · rcases k with _ | m5; · cases h
      rw [impl_Neighbor.j0] at h
      replace h := ifT h; rcases h with ⟨c6, h⟩ | ⟨c6, h⟩
      · cases h
        try simp only [W, c3, eq_true c4, c6, p1, p2, p3, p4, p5, p6, p7, p8, p9, p10, p11]
      · replace h := ifS h; rcases h with ⟨c7, h⟩ | ⟨c7, h⟩
        · rcases m5 with _ | m8; · cases h
          rw [impl_Neighbor.j1] at h
          replace h := ifT h; rcases h with ⟨c9, h⟩ | ⟨c9, h⟩
          · cases h
            try simp only [W, c3, eq_true c4, c6, eq_true c7, c9, p1, p2, p3, p4, p5, p6, p7, p8, p9, p10, p11]
          · replace h := ifS h; rcases h with ⟨c10, h⟩ | ⟨c10, h⟩
            · rcases m8 with _ | m11; · cases h
              rw [impl_Neighbor.j2] at h
              replace h := ifT h; rcases h with ⟨c12, h⟩ | ⟨c12, h⟩
              · cases h
                try simp only [W, c3, eq_true c4, c6, eq_true c7, c9, eq_true c10, c12, p1, p2, p3, p4, p5, p6, p7, p8, p9, p10, p11]
              · replace h := ifS h; rcases h with ⟨c13, h⟩ | ⟨c13, h⟩
                · replace h := ifS h; rcases h with ⟨c14, h⟩ | ⟨c14, h⟩
                  · cases h
                    try simp only [W, c3, eq_true c4, c6, eq_true c7, c9, eq_true c10, c12, eq_true c13, c14, p1, p2, p3, p4, p5, p6, p7, p8, p9, p10, p11]
                  · cases h
                    try simp only [W, c3, eq_true c4, c6, eq_true c7, c9, eq_true c10, c12, eq_true c13, c14, p1, p2, p3, p4, p5, p6, p7, p8, p9, p10, p11]
                · cases h
                  try simp only [W, c3, eq_true c4, c6, eq_true c7, c9, eq_true c10, c12, c13, p1, p2, p3, p4, p5, p6, p7, p8, p9, p10, p11]
            · rcases m8 with _ | m15; · cases h
              rw [impl_Neighbor.j2] at h
              rw [if_neg (by decide)] at h
              replace h := ifS h; rcases h with ⟨c17, h⟩ | ⟨c17, h⟩
              · replace h := ifS h; rcases h with ⟨c18, h⟩ | ⟨c18, h⟩
                · cases h
                  try simp only [W, c3, eq_true c4, c6, eq_true c7, c9, c10, eq_true c17, c18, p1, p2, p3, p4, p5, p6, p7, p8, p9, p10, p11]
                · cases h
                  try simp only [W, c3, eq_true c4, c6, eq_true c7, c9, c10, eq_true c17, c18, p1, p2, p3, p4, p5, p6, p7, p8, p9, p10, p11]
              · cases h
                try simp only [W, c3, eq_true c4, c6, eq_true c7, c9, c10, c17, p1, p2, p3, p4, p5, p6, p7, p8, p9, p10, p11]
        · rcases m5 with _ | m19; · cases h
          rw [impl_Neighbor.j1] at h
          rw [if_neg (by decide)] at h
          replace h := ifS h; rcases h with ⟨c21, h⟩ | ⟨c21, h⟩
          · rcases m19 with _ | m22; · cases h
            rw [impl_Neighbor.j2] at h
            replace h := ifT h; rcases h with ⟨c23, h⟩ | ⟨c23, h⟩
            · cases h
              try simp only [W, c3, eq_true c4, c6, c7, eq_true c21, c23, p1, p2, p3, p4, p5, p6, p7, p8, p9, p10, p11]
            · replace h := ifS h; rcases h with ⟨c24, h⟩ | ⟨c24, h⟩
              · replace h := ifS h; rcases h with ⟨c25, h⟩ | ⟨c25, h⟩
                · cases h
                  try simp only [W, c3, eq_true c4, c6, c7, eq_true c21, c23, eq_true c24, c25, p1, p2, p3, p4, p5, p6, p7, p8, p9, p10, p11]
                · cases h
                  try simp only [W, c3, eq_true c4, c6, c7, eq_true c21, c23, eq_true c24, c25, p1, p2, p3, p4, p5, p6, p7, p8, p9, p10, p11]
              · cases h
                try simp only [W, c3, eq_true c4, c6, c7, eq_true c21, c23, c24, p1, p2, p3, p4, p5, p6, p7, p8, p9, p10, p11]
          · rcases m19 with _ | m26; · cases h
            rw [impl_Neighbor.j2] at h
            rw [if_neg (by decide)] at h
            replace h := ifS h; rcases h with ⟨c28, h⟩ | ⟨c28, h⟩
            · replace h := ifS h; rcases h with ⟨c29, h⟩ | ⟨c29, h⟩
              · cases h
                try simp only [W, c3, eq_true c4, c6, c7, c21, eq_true c28, c29, p1, p2, p3, p4, p5, p6, p7, p8, p9, p10, p11]
              · cases h
                try simp only [W, c3, eq_true c4, c6, c7, c21, eq_true c28, c29, p1, p2, p3, p4, p5, p6, p7, p8, p9, p10, p11]
            · cases h
              try simp only [W, c3, eq_true c4, c6, c7, c21, c28, p1, p2, p3, p4, p5, p6, p7, p8, p9, p10, p11]
    · rcases k with _ | m30; · cases h
      rw [impl_Neighbor.j0] at h
      rw [if_neg (by decide)] at h
      replace h := ifS h; rcases h with ⟨c32, h⟩ | ⟨c32, h⟩
      · rcases m30 with _ | m33; · cases h
        rw [impl_Neighbor.j1] at h
        replace h := ifT h; rcases h with ⟨c34, h⟩ | ⟨c34, h⟩
        · cases h
          try simp only [W, c3, c4, eq_true c32, c34, p1, p2, p3, p4, p5, p6, p7, p8, p9, p10, p11]
        · replace h := ifS h; rcases h with ⟨c35, h⟩ | ⟨c35, h⟩
          · rcases m33 with _ | m36; · cases h
            rw [impl_Neighbor.j2] at h
            replace h := ifT h; rcases h with ⟨c37, h⟩ | ⟨c37, h⟩
            · cases h
              try simp only [W, c3, c4, eq_true c32, c34, eq_true c35, c37, p1, p2, p3, p4, p5, p6, p7, p8, p9, p10, p11]
            · replace h := ifS h; rcases h with ⟨c38, h⟩ | ⟨c38, h⟩
              · replace h := ifS h; rcases h with ⟨c39, h⟩ | ⟨c39, h⟩
                · cases h
                  try simp only [W, c3, c4, eq_true c32, c34, eq_true c35, c37, eq_true c38, c39, p1, p2, p3, p4, p5, p6, p7, p8, p9, p10, p11]
                · cases h
                  try simp only [W, c3, c4, eq_true c32, c34, eq_true c35, c37, eq_true c38, c39, p1, p2, p3, p4, p5, p6, p7, p8, p9, p10, p11]
              · cases h
                try simp only [W, c3, c4, eq_true c32, c34, eq_true c35, c37, c38, p1, p2, p3, p4, p5, p6, p7, p8, p9, p10, p11]
          · rcases m33 with _ | m40; · cases h
            rw [impl_Neighbor.j2] at h
            rw [if_neg (by decide)] at h
            replace h := ifS h; rcases h with ⟨c42, h⟩ | ⟨c42, h⟩
            · replace h := ifS h; rcases h with ⟨c43, h⟩ | ⟨c43, h⟩
              · cases h
                try simp only [W, c3, c4, eq_true c32, c34, c35, eq_true c42, c43, p1, p2, p3, p4, p5, p6, p7, p8, p9, p10, p11]
              · cases h
                try simp only [W, c3, c4, eq_true c32, c34, c35, eq_true c42, c43, p1, p2, p3, p4, p5, p6, p7, p8, p9, p10, p11]
            · cases h
              try simp only [W, c3, c4, eq_true c32, c34, c35, c42, p1, p2, p3, p4, p5, p6, p7, p8, p9, p10, p11]
      · rcases m30 with _ | m44; · cases h
        rw [impl_Neighbor.j1] at h
        rw [if_neg (by decide)] at h
        replace h := ifS h; rcases h with ⟨c46, h⟩ | ⟨c46, h⟩
        · rcases m44 with _ | m47; · cases h
          rw [impl_Neighbor.j2] at h
          replace h := ifT h; rcases h with ⟨c48, h⟩ | ⟨c48, h⟩
          · cases h
            try simp only [W, c3, c4, c32, eq_true c46, c48, p1, p2, p3, p4, p5, p6, p7, p8, p9, p10, p11]
          · replace h := ifS h; rcases h with ⟨c49, h⟩ | ⟨c49, h⟩
            · replace h := ifS h; rcases h with ⟨c50, h⟩ | ⟨c50, h⟩
              · cases h
                try simp only [W, c3, c4, c32, eq_true c46, c48, eq_true c49, c50, p1, p2, p3, p4, p5, p6, p7, p8, p9, p10, p11]
              · cases h
                try simp only [W, c3, c4, c32, eq_true c46, c48, eq_true c49, c50, p1, p2, p3, p4, p5, p6, p7, p8, p9, p10, p11]
            · cases h
              try simp only [W, c3, c4, c32, eq_true c46, c48, c49, p1, p2, p3, p4, p5, p6, p7, p8, p9, p10, p11]
        · rcases m44 with _ | m51; · cases h
          rw [impl_Neighbor.j2] at h
          rw [if_neg (by decide)] at h
          replace h := ifS h; rcases h with ⟨c53, h⟩ | ⟨c53, h⟩
          · replace h := ifS h; rcases h with ⟨c54, h⟩ | ⟨c54, h⟩
            · cases h
              try simp only [W, c3, c4, c32, c46, eq_true c53, c54, p1, p2, p3, p4, p5, p6, p7, p8, p9, p10, p11]
            · cases h
              try simp only [W, c3, c4, c32, c46, eq_true c53, c54, p1, p2, p3, p4, p5, p6, p7, p8, p9, p10, p11]
          · cases h
            try simp only [W, c3, c4, c32, c46, c53, p1, p2, p3, p4, p5, p6, p7, p8, p9, p10, p11]
  · cases h
    try simp only [W, p1, p2, p3, p4, p5, p6, p7, p8, p9, p10, p11]
end Go.Proofs.Ytpeehicekddjhaa.F
end

section
namespace Go.Proofs.Ytpeehicekddjhaa.F
open Go.RowKit Go.Proofs.YtpeehicekddjhaaW.PrintWords Go.Proofs.YtpeehicekddjhaaW.PrintLast Go.Proofs.YtpeehicekddjhaaW.PrintMore
set_option linter.unusedVariables false
set_option linter.unusedSimpArgs false
attribute [local go_sem] max2_int min2_int max_two min_two
set_option maxRecDepth 20000 in set_option maxHeartbeats 4000000 in open Nat renaming reduceAdd → p1, reduceSub → p2, reduceMul → p3, reduceDiv → p4, reduceBNe → p5, reduceBEq → p6, reduceEqDiff → p7, reduceLeDiff → p8, reduceLT → p9 in open Int renaming reduceLE → p10, reduceLT → p11, reduceEq → p12 in
theorem impl_GapAt.ctr {k : Nat} {a0_0 : Int} {a0_1 : Int} {a1 : Int} {a2 : Int} {r : Int} (h : impl_GapAt.f k a0_0 a0_1 a1 a2 = some r) : Ctr Try.prog 150 [.ag [.v (.int .i64 a0_0), .v (.int .i64 a0_1)], .v (.int .i64 a1), .v (.int .i64 a2)] (.v (.int .i64 r)) := by
  refine Ctr_of tyOk hm Try.func150 rfl rfl (by kernel_rfl) (n := 42) (rv := [.tmp 6]) rfl rfl ?_
  simp only [W, List.replicate]
  unfold impl_GapAt.f at h
  replace h := bnd h; obtain ⟨t1, A, h⟩ := h
  try simp only [W, p1, p2, p3, p4, p5, p6, p7, p8, p9, p10, p11]
  refine callR (impl_Neighbor.ctr A) ?_
  replace h := ifS h; rcases h with ⟨c2, h⟩ | ⟨c2, h⟩
  · cases h
    try simp only [W, c2, p1, p2, p3, p4, p5, p6, p7, p8, p9, p10, p11]
  · replace h := ifS h; rcases h with ⟨c3, h⟩ | ⟨c3, h⟩
    · replace h := ifM h; obtain ⟨c4, h⟩ := h
      cases h
      try simp only [W, c2, eq_true c3, c4, p1, p2, p3, p4, p5, p6, p7, p8, p9, p10, p11]
    · replace h := ifS h; rcases h with ⟨c5, h⟩ | ⟨c5, h⟩
      · replace h := ifM h; obtain ⟨c6, h⟩ := h
        cases h
        try simp only [W, c2, c3, eq_true c5, c6, p1, p2, p3, p4, p5, p6, p7, p8, p9, p10, p11]
      · cases h
        try simp only [W, c2, c3, c5, p1, p2, p3, p4, p5, p6, p7, p8, p9, p10, p11]
set_option maxRecDepth 20000 in set_option maxHeartbeats 4000000 in open Nat renaming reduceAdd → p1, reduceSub → p2, reduceMul → p3, reduceDiv → p4, reduceBNe → p5, reduceBEq → p6, reduceEqDiff → p7, reduceLeDiff → p8, reduceLT → p9 in open Int renaming reduceLE → p10, reduceLT → p11, reduceEq → p12 in
theorem impl_Step.ctr {k : Nat} {a0_0 : Int} {a0_1 : Int} {a0_2 : Int} {a1 : Int} {a2 : Int} {r : Int} (h : impl_Step.f k a0_0 a0_1 a0_2 a1 a2 = some r) : Ctr Try.prog 79 [.ag [.v (.int .i64 a0_0), .v (.int .i64 a0_1), .v (.int .i64 a0_2)], .v (.int .i64 a1), .v (.int .i64 a2)] (.v (.int .i64 r)) := by
  refine Ctr_of tyOk hm Try.func79 rfl rfl (by kernel_rfl) (n := 22) (rv := [.tmp 6]) rfl rfl ?_
  simp only [W, List.replicate]
  unfold impl_Step.f at h
  replace h := bnd h; obtain ⟨t1, A, h⟩ := h
  try simp only [W, p1, p2, p3, p4, p5, p6, p7, p8, p9, p10, p11]
  refine callR (impl_MazeOk.ctr A) ?_
  replace h := ifT h; rcases h with ⟨rfl, h⟩ | ⟨rfl, h⟩
  · replace h := bnd h; obtain ⟨t3, A, h⟩ := h
    try simp only [W, p1, p2, p3, p4, p5, p6, p7, p8, p9, p10, p11]
    refine callR (impl_GapAt.ctr A) ?_
    replace h := bnd h; obtain ⟨t4, A, h⟩ := h
    try simp only [W, p1, p2, p3, p4, p5, p6, p7, p8, p9, p10, p11]
    refine callR (impl_isOpen.ctr A) ?_
    replace h := ifT h; rcases h with ⟨rfl, h⟩ | ⟨rfl, h⟩
    · replace h := bnd h; obtain ⟨t6, A, h⟩ := h
      try simp only [W, p1, p2, p3, p4, p5, p6, p7, p8, p9, p10, p11]
      refine callR (impl_Neighbor.ctr A) ?_
      cases h
      try simp only [W, p1, p2, p3, p4, p5, p6, p7, p8, p9, p10, p11]
    · cases h
      try simp only [W, p1, p2, p3, p4, p5, p6, p7, p8, p9, p10, p11]
  · cases h
    try simp only [W, p1, p2, p3, p4, p5, p6, p7, p8, p9, p10, p11]
theorem impl_Step.calls (k : Nat) (a0_0 : Int) (a0_1 : Int) (a0_2 : Int) (a1 : Int) (a2 : Int) (r : Int) (w : World) (h : impl_Step.f k a0_0 a0_1 a0_2 a1 a2 = some r) :
    Calls Try.prog 79 #[.agg #[.int .i64 a0_0, .int .i64 a0_1, .int .i64 a0_2], .int .i64 a1, .int .i64 a2] w fun e w' => e = .returned (.int .i64 r) ∧ Below w.heap.size w w' := by
  refine ((impl_Step.ctr h).2 w [.agg #[.int .i64 a0_0, .int .i64 a0_1, .int .i64 a0_2], .int .i64 a1, .int .i64 a2] (by simp only [RepL, Rep]; exact ⟨_, _, rfl, ⟨_, rfl, _, _, rfl, rfl, _, _, rfl, rfl, _, _, rfl, rfl, rfl⟩, _, _, rfl, rfl, _, _, rfl, rfl, rfl⟩)).mono ?_
  rintro _ _ ⟨y, L, rfl, hR, _, hb⟩
  exact ⟨congrArg Ending.returned (RepR_pln rfl hR).1, hb⟩
set_option maxRecDepth 20000 in set_option maxHeartbeats 4000000 in open Nat renaming reduceAdd → p1, reduceSub → p2, reduceMul → p3, reduceDiv → p4, reduceBNe → p5, reduceBEq → p6, reduceEqDiff → p7, reduceLeDiff → p8, reduceLT → p9 in open Int renaming reduceLE → p10, reduceLT → p11, reduceEq → p12 in
theorem spec_l04Has.ctr {a0_0 : Int} {a0_1 : Int} {a0_2 : Int} {a1 : Int} {r : Bool} (h : spec_l04Has.f a0_0 a0_1 a0_2 a1 = some r) : Ctr Try.prog 77 [.ag [.v (.int .i64 a0_0), .v (.int .i64 a0_1), .v (.int .i64 a0_2)], .v (.int .i64 a1)] (.v (.bool r)) := by
  refine Ctr_of tyOk hm Try.func77 rfl rfl (by kernel_rfl) (n := 13) (rv := [.tmp 4]) rfl rfl ?_
  simp only [W, List.replicate]
  unfold spec_l04Has.f at h
  replace h := bnd h; obtain ⟨t1, A, h⟩ := h
  try simp only [W, p1, p2, p3, p4, p5, p6, p7, p8, p9, p10, p11]
  refine callR (spec_MazeOk.ctr A) ?_
  replace h := ifT h; rcases h with ⟨rfl, h⟩ | ⟨rfl, h⟩
  · replace h := bnd h; obtain ⟨t3, A, h⟩ := h
    try simp only [W, p1, p2, p3, p4, p5, p6, p7, p8, p9, p10, p11]
    refine callR (spec_CountCells.ctr A) ?_
    replace h := bnd h; obtain ⟨t4, A, h⟩ := h
    try simp only [W, p1, p2, p3, p4, p5, p6, p7, p8, p9, p10, p11]
    refine callR (spec_l01In.ctr A) ?_
    cases h
    try simp only [W, p1, p2, p3, p4, p5, p6, p7, p8, p9, p10, p11]
  · cases h
    try simp only [W, p1, p2, p3, p4, p5, p6, p7, p8, p9, p10, p11]
set_option maxRecDepth 20000 in set_option maxHeartbeats 4000000 in open Nat renaming reduceAdd → p1, reduceSub → p2, reduceMul → p3, reduceDiv → p4, reduceBNe → p5, reduceBEq → p6, reduceEqDiff → p7, reduceLeDiff → p8, reduceLT → p9 in open Int renaming reduceLE → p10, reduceLT → p11, reduceEq → p12 in
theorem spec_IsPassage.ctr {a0_0 : Int} {a0_1 : Int} {a0_2 : Int} {a1 : Int} {r : Bool} (h : spec_IsPassage.f a0_0 a0_1 a0_2 a1 = some r) : Ctr Try.prog 96 [.ag [.v (.int .i64 a0_0), .v (.int .i64 a0_1), .v (.int .i64 a0_2)], .v (.int .i64 a1)] (.v (.bool r)) := by
  refine Ctr_of tyOk hm Try.func96 rfl rfl (by kernel_rfl) (n := 19) (rv := [.tmp 4]) rfl rfl ?_
  simp only [W, List.replicate]
  unfold spec_IsPassage.f at h
  replace h := bnd h; obtain ⟨t1, A, h⟩ := h
  try simp only [W, p1, p2, p3, p4, p5, p6, p7, p8, p9, p10, p11]
  refine callR (spec_MazeOk.ctr A) ?_
  replace h := ifT h; rcases h with ⟨rfl, h⟩ | ⟨rfl, h⟩
  · replace h := bnd h; obtain ⟨t3, A, h⟩ := h
    try simp only [W, p1, p2, p3, p4, p5, p6, p7, p8, p9, p10, p11]
    refine callR (spec_CountGaps.ctr A) ?_
    replace h := bnd h; obtain ⟨t4, A, h⟩ := h
    try simp only [W, p1, p2, p3, p4, p5, p6, p7, p8, p9, p10, p11]
    refine callR (spec_l01In.ctr A) ?_
    replace h := ifT h; rcases h with ⟨rfl, h⟩ | ⟨rfl, h⟩
    · replace h := bnd h; obtain ⟨t6, A, h⟩ := h
      try simp only [W, p1, p2, p3, p4, p5, p6, p7, p8, p9, p10, p11]
      refine callR (spec_l03Bit.ctr A) ?_
      cases h
      try simp only [W, p1, p2, p3, p4, p5, p6, p7, p8, p9, p10, p11]
    · cases h
      try simp only [W, p1, p2, p3, p4, p5, p6, p7, p8, p9, p10, p11]
  · cases h
    try simp only [W, p1, p2, p3, p4, p5, p6, p7, p8, p9, p10, p11]
set_option maxRecDepth 20000 in set_option maxHeartbeats 4000000 in open Nat renaming reduceAdd → p1, reduceSub → p2, reduceMul → p3, reduceDiv → p4, reduceBNe → p5, reduceBEq → p6, reduceEqDiff → p7, reduceLeDiff → p8, reduceLT → p9 in open Int renaming reduceLE → p10, reduceLT → p11, reduceEq → p12 in
theorem spec_Neighbor.ctr {k : Nat} {a0_0 : Int} {a0_1 : Int} {a1 : Int} {a2 : Int} {r : Int} (h : spec_Neighbor.f k a0_0 a0_1 a1 a2 = some r) : Ctr Try.prog 98 [.ag [.v (.int .i64 a0_0), .v (.int .i64 a0_1)], .v (.int .i64 a1), .v (.int .i64 a2)] (.v (.int .i64 r)) := by
  refine Ctr_of tyOk hm Try.func98 rfl rfl (by kernel_rfl) (n := 57) (rv := [.tmp 6]) rfl rfl ?_
  simp only [W, List.replicate]
  unfold spec_Neighbor.f at h
  replace h := bnd h; obtain ⟨t1, A, h⟩ := h
  try simp only [W, p1, p2, p3, p4, p5, p6, p7, p8, p9, p10, p11]
  refine callR (spec_CountCells.ctr A) ?_
  replace h := bnd h; obtain ⟨t2, A, h⟩ := h
  try simp only [W, p1, p2, p3, p4, p5, p6, p7, p8, p9, p10, p11]
  refine callR (spec_l01In.ctr A) ?_
  replace h := ifT h; rcases h with ⟨rfl, h⟩ | ⟨rfl, h⟩
  · replace h := ifM h; obtain ⟨c4, h⟩ := h
    replace h := ifS h; rcases h with ⟨c5, h⟩ | ⟨c5, h⟩
    · rcases k with _ | m6; · cases h
      rw [spec_Neighbor.j0] at h
      replace h := bnd h; obtain ⟨t7, A, h⟩ := h
      try simp only [W, c4, eq_true c5, p1, p2, p3, p4, p5, p6, p7, p8, p9, p10, p11]
      refine callR (spec_l01In.ctr A) ?_
      replace h := ifT h; rcases h with ⟨rfl, h⟩ | ⟨rfl, h⟩
      · replace h := bnd h; obtain ⟨t9, A, h⟩ := h
        try simp only [W, c4, eq_true c5, p1, p2, p3, p4, p5, p6, p7, p8, p9, p10, p11]
        refine callR (spec_l01In.ctr A) ?_
        replace h := ifT h; rcases h with ⟨rfl, h⟩ | ⟨rfl, h⟩
        · cases h
          try simp only [W, c4, eq_true c5, p1, p2, p3, p4, p5, p6, p7, p8, p9, p10, p11]
        · cases h
          try simp only [W, c4, eq_true c5, p1, p2, p3, p4, p5, p6, p7, p8, p9, p10, p11]
      · cases h
        try simp only [W, c4, eq_true c5, p1, p2, p3, p4, p5, p6, p7, p8, p9, p10, p11]
    · replace h := ifS h; rcases h with ⟨c11, h⟩ | ⟨c11, h⟩
      · rcases k with _ | m12; · cases h
        rw [spec_Neighbor.j0] at h
        replace h := bnd h; obtain ⟨t13, A, h⟩ := h
        try simp only [W, c4, c5, eq_true c11, p1, p2, p3, p4, p5, p6, p7, p8, p9, p10, p11]
        refine callR (spec_l01In.ctr A) ?_
        replace h := ifT h; rcases h with ⟨rfl, h⟩ | ⟨rfl, h⟩
        · replace h := bnd h; obtain ⟨t15, A, h⟩ := h
          try simp only [W, c4, c5, eq_true c11, p1, p2, p3, p4, p5, p6, p7, p8, p9, p10, p11]
          refine callR (spec_l01In.ctr A) ?_
          replace h := ifT h; rcases h with ⟨rfl, h⟩ | ⟨rfl, h⟩
          · cases h
            try simp only [W, c4, c5, eq_true c11, p1, p2, p3, p4, p5, p6, p7, p8, p9, p10, p11]
          · cases h
            try simp only [W, c4, c5, eq_true c11, p1, p2, p3, p4, p5, p6, p7, p8, p9, p10, p11]
        · cases h
          try simp only [W, c4, c5, eq_true c11, p1, p2, p3, p4, p5, p6, p7, p8, p9, p10, p11]
      · replace h := ifS h; rcases h with ⟨c17, h⟩ | ⟨c17, h⟩
        · rcases k with _ | m18; · cases h
          rw [spec_Neighbor.j0] at h
          replace h := bnd h; obtain ⟨t19, A, h⟩ := h
          try simp only [W, c4, c5, c11, eq_true c17, p1, p2, p3, p4, p5, p6, p7, p8, p9, p10, p11]
          refine callR (spec_l01In.ctr A) ?_
          replace h := ifT h; rcases h with ⟨rfl, h⟩ | ⟨rfl, h⟩
          · replace h := bnd h; obtain ⟨t21, A, h⟩ := h
            try simp only [W, c4, c5, c11, eq_true c17, p1, p2, p3, p4, p5, p6, p7, p8, p9, p10, p11]
            refine callR (spec_l01In.ctr A) ?_
            replace h := ifT h; rcases h with ⟨rfl, h⟩ | ⟨rfl, h⟩
            · cases h
              try simp only [W, c4, c5, c11, eq_true c17, p1, p2, p3, p4, p5, p6, p7, p8, p9, p10, p11]
            · cases h
              try simp only [W, c4, c5, c11, eq_true c17, p1, p2, p3, p4, p5, p6, p7, p8, p9, p10, p11]
          · cases h
            try simp only [W, c4, c5, c11, eq_true c17, p1, p2, p3, p4, p5, p6, p7, p8, p9, p10, p11]
        · replace h := ifS h; rcases h with ⟨c23, h⟩ | ⟨c23, h⟩
          · rcases k with _ | m24; · cases h
            rw [spec_Neighbor.j0] at h
            replace h := bnd h; obtain ⟨t25, A, h⟩ := h
            try simp only [W, c4, c5, c11, c17, eq_true c23, p1, p2, p3, p4, p5, p6, p7, p8, p9, p10, p11]
            refine callR (spec_l01In.ctr A) ?_
            replace h := ifT h; rcases h with ⟨rfl, h⟩ | ⟨rfl, h⟩
            · replace h := bnd h; obtain ⟨t27, A, h⟩ := h
              try simp only [W, c4, c5, c11, c17, eq_true c23, p1, p2, p3, p4, p5, p6, p7, p8, p9, p10, p11]
              refine callR (spec_l01In.ctr A) ?_
              replace h := ifT h; rcases h with ⟨rfl, h⟩ | ⟨rfl, h⟩
              · cases h
                try simp only [W, c4, c5, c11, c17, eq_true c23, p1, p2, p3, p4, p5, p6, p7, p8, p9, p10, p11]
              · cases h
                try simp only [W, c4, c5, c11, c17, eq_true c23, p1, p2, p3, p4, p5, p6, p7, p8, p9, p10, p11]
            · cases h
              try simp only [W, c4, c5, c11, c17, eq_true c23, p1, p2, p3, p4, p5, p6, p7, p8, p9, p10, p11]
          · cases h
            try simp only [W, c4, c5, c11, c17, c23, p1, p2, p3, p4, p5, p6, p7, p8, p9, p10, p11]
  · cases h
    try simp only [W, p1, p2, p3, p4, p5, p6, p7, p8, p9, p10, p11]
end Go.Proofs.Ytpeehicekddjhaa.F
end

section
namespace Go.Proofs.Ytpeehicekddjhaa.F
open Go.RowKit Go.Proofs.YtpeehicekddjhaaW.PrintWords Go.Proofs.YtpeehicekddjhaaW.PrintLast Go.Proofs.YtpeehicekddjhaaW.PrintMore
set_option linter.unusedVariables false
set_option linter.unusedSimpArgs false
attribute [local go_sem] max2_int min2_int max_two min_two
set_option maxRecDepth 20000 in set_option maxHeartbeats 4000000 in open Nat renaming reduceAdd → p1, reduceSub → p2, reduceMul → p3, reduceDiv → p4, reduceBNe → p5, reduceBEq → p6, reduceEqDiff → p7, reduceLeDiff → p8, reduceLT → p9 in open Int renaming reduceLE → p10, reduceLT → p11, reduceEq → p12 in
theorem spec_SetGap.ctr {k : Nat} {a0_0 : Int} {a0_1 : Int} {a0_2 : Int} {a1 : Int} {a2 : Bool} {r1 : Int} {r2 : Int} {r3 : Int} {r4 : Bool} (h : spec_SetGap.f k a0_0 a0_1 a0_2 a1 a2 = some (r1, r2, r3, r4)) : Ctr Try.prog 106 [.ag [.v (.int .i64 a0_0), .v (.int .i64 a0_1), .v (.int .i64 a0_2)], .v (.int .i64 a1), .v (.bool a2)] (.tu [.ag [.v (.int .i64 r1), .v (.int .i64 r2), .v (.int .i64 r3)], .v (.bool r4)]) := by
  refine Ctr_of tyOk hm Try.func106 rfl rfl (by kernel_rfl) (n := 31) (rv := [.cell 6 27, .tmp 7]) rfl rfl ?_
  simp only [W, List.replicate]
  unfold spec_SetGap.f at h
  replace h := bnd h; obtain ⟨t1, A, h⟩ := h
  try simp only [W, p1, p2, p3, p4, p5, p6, p7, p8, p9, p10, p11]
  refine callR (spec_MazeOk.ctr A) ?_
  replace h := ifT h; rcases h with ⟨rfl, h⟩ | ⟨rfl, h⟩
  · replace h := bnd h; obtain ⟨t3, A, h⟩ := h
    try simp only [W, p1, p2, p3, p4, p5, p6, p7, p8, p9, p10, p11]
    refine callR (spec_CountGaps.ctr A) ?_
    replace h := bnd h; obtain ⟨t4, A, h⟩ := h
    try simp only [W, p1, p2, p3, p4, p5, p6, p7, p8, p9, p10, p11]
    refine callR (spec_l01In.ctr A) ?_
    rcases k with _ | m5; · cases h
    rw [spec_SetGap.j0] at h
    replace h := ifT h; rcases h with ⟨c6, h⟩ | ⟨c6, h⟩
    · cases h
      try simp only [W, c6, p1, p2, p3, p4, p5, p6, p7, p8, p9, p10, p11]
    · replace h := bnd h; obtain ⟨t7, A, h⟩ := h
      try simp only [W, c6, p1, p2, p3, p4, p5, p6, p7, p8, p9, p10, p11]
      refine callR (spec_l03Bit.ctr A) ?_
      replace h := ifT h; rcases h with ⟨c8, h⟩ | ⟨c8, h⟩
      · replace h := ifN h; obtain ⟨c9, h⟩ := h
        cases h
        try simp only [W, c6, c8, c9, p1, p2, p3, p4, p5, p6, p7, p8, p9, p10, p11]
      · cases h
        try simp only [W, c6, c8, p1, p2, p3, p4, p5, p6, p7, p8, p9, p10, p11]
  · rcases k with _ | m10; · cases h
    rw [spec_SetGap.j0] at h
    rw [if_pos rfl] at h
    cases h
    try simp only [W, p1, p2, p3, p4, p5, p6, p7, p8, p9, p10, p11]
set_option maxRecDepth 20000 in set_option maxHeartbeats 4000000 in open Nat renaming reduceAdd → p1, reduceSub → p2, reduceMul → p3, reduceDiv → p4, reduceBNe → p5, reduceBEq → p6, reduceEqDiff → p7, reduceLeDiff → p8, reduceLT → p9 in open Int renaming reduceLE → p10, reduceLT → p11, reduceEq → p12 in
theorem impl_WaysFrom.ctr {k : Nat} {a0_0 : Int} {a0_1 : Int} {a0_2 : Int} {a1 : Int} {r : List Int} (h : impl_WaysFrom.f k a0_0 a0_1 a0_2 a1 = some r) : Ctr Try.prog 137 [.ag [.v (.int .i64 a0_0), .v (.int .i64 a0_1), .v (.int .i64 a0_2)], .v (.int .i64 a1)] (.ow 3 1 (r.map eI)) := by
  refine Ctr_of tyOk hm Try.func137 rfl rfl (by kernel_rfl) (n := 19) (rv := [.tmp 4]) rfl rfl ?_
  simp only [W, List.replicate]
  unfold impl_WaysFrom.f at h
  try simp only [W, p1, p2, p3, p4, p5, p6, p7, p8, p9, p10, p11]
  refine loopN (fun x : Int × List Int × Int × Int × Int × Int => [.u, .v (.int .i64 x.1), .bp 32 0, .u, .u, .lo 80, .v (.int .i64 x.2.2.1), .u, .u, .u, .u, .u, .u, .u, .u, .u, .u, .u, .u, .u, .u]) (fun x => [(32, .box 27 [.v (.int .i64 x.2.2.2.1), .v (.int .i64 x.2.2.2.2.1), .v (.int .i64 x.2.2.2.2.2)]), (80, .row 3 1 (List.map eI x.2.1))]) (fun n x => impl_WaysFrom.l0 n x.1 x.2.1 x.2.2.1 x.2.2.2.1 x.2.2.2.2.1 x.2.2.2.2.2 = some r) (a1, ([] : List Int), 0, a0_0, a0_1, a0_2) [] h (by simp only [W, p1, p2, p3, p4, p5, p6, p7, p8, p9, p10, p11] <;> trivial) (by simp only [W, p1, p2, p3, p4, p5, p6, p7, p8, p9, p10, p11] <;> trivial) rfl (fun _ h => by cases h) ?_
  intro n1 ⟨x1, x2, x3, x4, x5, x6⟩ _ h
  simp only [impl_WaysFrom.l0] at h
  replace h := ifS h; rcases h with ⟨c7, h⟩ | ⟨c7, h⟩
  · replace h := bnd h; obtain ⟨t8, A, h⟩ := h
    try simp only [W, c7, p1, p2, p3, p4, p5, p6, p7, p8, p9, p10, p11]
    refine callR (impl_Step.ctr A) ?_
    replace h := ifS h; rcases h with ⟨c9, h⟩ | ⟨c9, h⟩
    · replace h := ifN h; obtain ⟨c10, h⟩ := h
      try simp only [W, c7, c9, c10, p1, p2, p3, p4, p5, p6, p7, p8, p9, p10, p11]
      exact nextN (x1, (x2 ++ [x3]), (wrap64 (x3 + 1)), x4, x5, x6) [(80, 304)] n1 (by omega) h (by simp only [W, p1, p2, p3, p4, p5, p6, p7, p8, p9, p10, p11] <;> trivial) (by simp only [W, p1, p2, p3, p4, p5, p6, p7, p8, p9, p10, p11] <;> trivial) rfl
    · try simp only [W, c7, c9, p1, p2, p3, p4, p5, p6, p7, p8, p9, p10, p11]
      exact nextN (x1, x2, (wrap64 (x3 + 1)), x4, x5, x6) [] n1 (by omega) h (by simp only [W, p1, p2, p3, p4, p5, p6, p7, p8, p9, p10, p11] <;> trivial) (by simp only [W, p1, p2, p3, p4, p5, p6, p7, p8, p9, p10, p11] <;> trivial) rfl
  · cases h
    try simp only [W, c7, p1, p2, p3, p4, p5, p6, p7, p8, p9, p10, p11]
theorem impl_WaysFrom.calls (k : Nat) (a0_0 : Int) (a0_1 : Int) (a0_2 : Int) (a1 : Int) (r : List Int) (w : World) (h : impl_WaysFrom.f k a0_0 a0_1 a0_2 a1 = some r) :
    Calls Try.prog 137 #[.agg #[.int .i64 a0_0, .int .i64 a0_1, .int .i64 a0_2], .int .i64 a1] w fun e w' => ∃ v0_ : Value, e = .returned (v0_) ∧ Kd.R (Kd.int .i64) 3 w' w.heap.size (fun _ => True) v0_ r ∧ Below w.heap.size w w' := by
  refine ((impl_WaysFrom.ctr h).2 w [.agg #[.int .i64 a0_0, .int .i64 a0_1, .int .i64 a0_2], .int .i64 a1] (by simp only [RepL, Rep]; exact ⟨_, _, rfl, ⟨_, rfl, _, _, rfl, rfl, _, _, rfl, rfl, _, _, rfl, rfl, rfl⟩, _, _, rfl, rfl, rfl⟩)).mono ?_
  rintro _ _ ⟨y, L, rfl, hR, _, hb⟩
  simp only [RepR] at hR
  exact ⟨y, rfl, R_of_row E_eI hR.1, hb⟩
def keptI (p : Int → Bool) (xs : List Int) (j : Nat) : List Int := (xs.take j).filter fun x => !p x
theorem keptI_succ (p : Int → Bool) (xs : List Int) (j : Nat) (hj : j < xs.length) : keptI p xs (j + 1) = if p (xs.getD j 0) then keptI p xs j else keptI p xs j ++ [xs.getD j 0] := by
  unfold keptI
  have e : xs.getD j 0 = xs[j] := by rw [List.getD_eq_getElem?_getD, List.getElem?_eq_getElem hj]; rfl
  rw [List.take_add_one, List.getElem?_eq_getElem hj, List.filter_append, e]
  cases h : p xs[j] <;> simp [h]
set_option maxHeartbeats 2000000 in
set_option maxRecDepth 100000 in
theorem slices_DeleteFunc_int.calls (p : Int → Bool) (g : Nat) (lb : Array Value) (eg : ∀ args w, (callFunc g args).run Try.prog w = .ok (.enter g args) w) (b cap : Nat) (xs : List Int) (cur : List Value) (w : World)
  (hb : w.heap[b]? = some (.cells cur.toArray 3 (0, 0))) (hl : cur.length = cap) (hn : xs.length ≤ cap) (hm : cap ≤ maxLen) (hx : ∀ j, j < xs.length → cur[j]? = some (.int .i64 (xs.getD j 0)))
  (hp : ∀ (W : World) (x : Int), x ∈ xs → w.grownBy W (some b) → Calls Try.prog g (#[.int .i64 x] ++ lb) W fun e w' => e = .returned (.bool (p x)) ∧ Below W.heap.size W w') :
  Calls Try.prog 66 #[.slice (some ⟨b, 0, none⟩) xs.length cap, .func (.func g) #[] lb] w fun e w' =>
   ∃ cur' : List Value, e = .returned (.slice (some ⟨b, 0, none⟩) (xs.filter fun x => !p x).length cap) ∧ w'.heap[b]? = some (.cells cur'.toArray 3 (0, 0)) ∧ cur'.length = cap ∧
    (∀ j, j < (xs.filter fun x => !p x).length → cur'[j]? = some (.int .i64 ((xs.filter fun x => !p x).getD j 0))) ∧ w.grownBy w' (some b) := by
 have hC : Kd.C (Kd.int .i64) w (some ⟨b, 0, none⟩) xs.length xs := by
  refine Kd.C_of_reads (d := (0 : Int)) (h1 := fun _ => rfl) ?_
  refine ⟨rfl, ?_, fun _ => ⟨⟨b, 0, none⟩, rfl, fun j hj => ?_⟩⟩
  ·have : maxLen = 9223372036854775807 := rfl
   omega
  ·rw [add_plain]
   exact ((kC hb j).trans (by simp)).trans (hx j hj)
 have hI := slices_IndexFunc_int.calls p g lb eg (some ⟨b, 0, none⟩) cap xs w hC (fun W x hxm hbel => (hp W x hxm (grown_below (grown_refl w _) hbel)).mono fun e w' ⟨h1, h2⟩ => ⟨h1, hbel.trans (h2.mono hbel.size)⟩)
 have hn63 : xs.length ≤ 9223372036854775807 := Nat.le_trans hn (Nat.le_trans hm (by decide))
 have HP := aK hp
 have HX := aK hx
 have HB := aK hb
 have HN := aK hn
 have HM := aK hm
 have HL := aK hl
 clear hp hC
 cases hf : xs.findIdx? p with
 | none =>
  have hno : ∀ x ∈ xs, p x = false := fun x hx => by simpa using (List.findIdx?_eq_none_iff.1 hf) x hx
  have e1 : idxF p xs = -1 := by unfold idxF; rw [hf]
  have e2 : (xs.filter fun x => !p x) = xs := List.filter_eq_self.2 fun x hx => by rw [hno x hx]; rfl
  rw [e1] at hI
  rw [e2]
  clear hb hx hn hm hl
  go_enter Try.func66, Try.ntmps66
  go_wp2_with (go_at_call 138; refine hI.mono ?_; rintro e w' ⟨rfl, hb'⟩; have HB' := aK hb'; clear hb')
  go_ret
  exact ⟨cur, rfl, (HB'.out.block b (blk_lt HB.out)).trans HB.out, HL.out, HX.out, grown_below (grown_refl w _) HB'.out⟩
 | some k0 =>
  obtain ⟨hk0, hpk, hlow⟩ := List.findIdx?_eq_some_iff_getElem.1 hf
  have e1 : idxF p xs = (k0 : Int) := by unfold idxF; rw [hf]
  rw [e1] at hI
  have hne1 : ((k0 : Int) == -1) = false := beq_eq_false_iff_ne.2 (by omega)
  have hkl : ∀ t, t ≤ k0 → keptI p xs t = xs.take t := fun t ht => by
   unfold keptI
   refine List.filter_eq_self.2 fun x hx => ?_
   obtain ⟨q, hq, rfl⟩ := List.getElem_of_mem hx
   rw [List.length_take] at hq
   rw [List.getElem_take]
   have := hlow q (by omega)
   simpa using this
  have hk1 : keptI p xs (k0 + 1) = xs.take k0 := by
   rw [keptI_succ p xs k0 hk0, show xs.getD k0 0 = xs[k0] by rw [List.getD_eq_getElem?_getD, List.getElem?_eq_getElem hk0]; rfl, hpk, if_pos rfl, hkl k0 (Nat.le_refl _)]
  have HK1 := aK hk1
  have HK0 := aK hk0
  clear hb hx hn hm hl hk1 hkl hlow hpk hf e1
  go_enter Try.func66, Try.ntmps66
  go_wp2_with (go_at_call 138; refine hI.mono ?_; rintro e w' ⟨rfl, hb'⟩; have HB' := aK hb'; clear hb')
  go_loopg [5, 6, 7] xs.length (fun gg s5 s6 _ wr => ∃ (i j : Nat) (c2 : List Value), s5 = .int .i64 i ∧ s6 = .int .i64 j ∧ i < j ∧ j ≤ xs.length ∧ xs.length - j ≤ gg ∧ Aside0 (i = (keptI p xs j).length) ∧ Aside0 (wr.heap[b]? = some (.cells c2.toArray 3 (0, 0))) ∧ Aside0 (c2.length = cap) ∧ Aside0 (∀ t, t < i → c2[t]? = some (.int .i64 ((keptI p xs j).getD t 0))) ∧ Aside0 (∀ t, j ≤ t → t < xs.length → c2[t]? = some (.int .i64 (xs.getD t 0))) ∧ Aside0 (w.grownBy wr (some b)))
  case atStart =>
   have hk := HK0.out
   refine ⟨k0, k0 + 1, cur, rfl, by go_num, by omega, by omega, by omega, ⟨by rw [HK1.out, List.length_take]; omega⟩, ⟨(HB'.out.block b (blk_lt HB.out)).trans HB.out⟩, HL, ⟨fun t ht => ?_⟩, ⟨fun t _ ht => HX.out t ht⟩, ⟨grown_below (grown_refl w _) HB'.out⟩⟩
   rw [HX.out t (by omega), HK1.out, List.getD_eq_getElem?_getD, List.getD_eq_getElem?_getD, List.getElem?_take, if_pos ht]
  case round =>
   obtain ⟨i, j, c2, rfl, rfl, hij, hjn, hgg, hil, B2, L2, A2, A3, G2⟩ := hrel
   by_cases hlt : j < xs.length
   ·have hltz : (j : Int) < (xs.length : Int) := by omega
    have hjz : (0 : Int) ≤ (j : Int) := by omega
    have hiz : (0 : Int) ≤ (i : Int) := by omega
    have hilz : (i : Int) < (xs.length : Int) := by omega
    have hmem : xs.getD j 0 ∈ xs := by rw [List.getD_eq_getElem?_getD, List.getElem?_eq_getElem hlt]; exact List.getElem_mem _
    have hcall := HP.out wr (xs.getD j 0) hmem G2.out
    have cj : wr.cell? ⟨b, j, none⟩ = some (.int .i64 (xs.getD j 0)) := ((kC B2.out j).trans (by simp)).trans (A3.out j (Nat.le_refl _) hlt)
    have KS := aK (keptI_succ p xs j hlt)
    generalize hu : xs.getD j 0 = u at cj hcall KS
    have HU := aK hu
    clear hu hmem
    cases hq : p u with
    | false =>
     rw [hq] at hcall
     have HQ := aK hq
     clear hq
     have ho : i < c2.length := by have := L2.out; have := HN.out; omega
     obtain ⟨old, hold⟩ : ∃ old, c2[i]? = some old := ⟨c2[i], List.getElem?_eq_getElem ho⟩
     have HO := aK hold
     clear hold ho
     go_wp2_with (go_at_fn g; refine hcall.mono ?_; rintro e w1 ⟨rfl, hb1⟩; have HB1 := aK hb1; clear hb1; have E1 := aK ((HB1.out.block b (blk_lt B2.out)).trans B2.out); have ci : w1.cell? ⟨b, i, none⟩ = some old := ((kC E1.out i).trans (by simp)).trans HO.out; have fi : w1.frozen? ⟨b, i, none⟩ = false := kF E1.out i)
     go_roundg (xs.length - (j + 1))
     case measure => omega
     case rel =>
      have hk : keptI p xs (j + 1) = keptI p xs j ++ [u] := by rw [KS.out, HQ.out]; rfl
      refine ⟨i + 1, j + 1, c2.set i (.int .i64 u), by go_num, by go_num, by omega, by omega, Nat.le_refl _, ⟨by rw [hk, List.length_append, ← hil.out]; rfl⟩, ⟨blk_put E1.out i _ (by simp)⟩, ⟨by rw [List.length_set]; exact L2.out⟩, ⟨fun t ht => ?_⟩, ⟨fun t h1 h2 => ?_⟩, ⟨grown_set (grown_below G2.out HB1.out) i _⟩⟩
      ·rw [hk, List.getElem?_set]
       by_cases e : i = t
       ·subst e
        rw [if_pos rfl, if_pos (by have := L2.out; have := HN.out; omega), List.getD_eq_getElem?_getD, List.getElem?_append_right (by have := hil.out; omega), ← hil.out]
        simp
       ·rw [if_neg e, A2.out t (by omega), List.getD_eq_getElem?_getD, List.getD_eq_getElem?_getD, List.getElem?_append_left (by have := hil.out; omega)]
      ·rw [List.getElem?_set, if_neg (by omega)]
       exact A3.out t (by omega) h2
    | true =>
     rw [hq] at hcall
     have HQ := aK hq
     clear hq
     go_wp2_with (go_at_fn g; refine hcall.mono ?_; rintro e w1 ⟨rfl, hb1⟩; have HB1 := aK hb1; clear hb1; have E1 := aK ((HB1.out.block b (blk_lt B2.out)).trans B2.out))
     go_roundg (xs.length - (j + 1))
     case measure => omega
     case rel =>
      have hk : keptI p xs (j + 1) = keptI p xs j := by rw [KS.out, HQ.out]; rfl
      exact ⟨i, j + 1, c2, rfl, by go_num, by omega, by omega, Nat.le_refl _, ⟨by rw [hk]; exact hil.out⟩, E1, L2, ⟨by rw [hk]; exact A2.out⟩, ⟨fun t h1 h2 => A3.out t (by omega) h2⟩, ⟨grown_below G2.out HB1.out⟩⟩
   ·have hltz : ¬ (j : Int) < (xs.length : Int) := by omega
    obtain rfl : j = xs.length := by omega
    have hE := B2.out
    have hlc := L2.out
    have hnc := HN.out
    have hmx := HM.out
    have k1 : (i ≤ cap) = True := eq_true (by omega)
    have k2 : (cap = i) = False := eq_false (by omega)
    have k3 : (i ≤ xs.length) = True := eq_true (by omega)
    have hiz : (0 : Int) ≤ (i : Int) := by omega
    have hcl : ∀ ty, (Builtin.clear_ #[39] ty #[.slice (some ⟨b, i, none⟩) (xs.length - i) (cap - i)]).run Try.prog wr = .ok (.tuple #[]) (wr.setCells b i (List.replicate (xs.length - i) (.int .i64 0))) :=
     fun ty => Go.Lib.run_clear_slice wr 39 3 ty (.int .i64 0) Try.underlying39 (fun w => by first | rfl | kernel_rfl) rfl rfl b i _ _ (by omega) (fun t ht => by rw [kC hE, List.getElem?_toArray, List.getElem?_eq_getElem (by omega)]; rfl) (fun t ht => kF hE _)
    obtain ⟨c3, q1, q2, q3, q4⟩ := setCells_row (w := w) (e := 3) (List.replicate (xs.length - i) (.int .i64 0)) i wr c2 hE (by rw [List.length_replicate]; omega) G2.out
    have Q1 := aK q1
    have Q2 := aK q2
    have Q3 := aK q3
    have Q4 := aK q4
    clear q1 q2 q3 q4 hE hlc hnc hmx
    go_wp2
    go_ret
    have hk : (xs.filter fun x => !p x) = keptI p xs xs.length := by unfold keptI; rw [List.take_length]
    refine ⟨by rw [hk, ← hil.out]; rfl, c3, Q1.out, by rw [Q2.out]; exact L2.out, fun t ht => ?_, Q4.out⟩
    rw [hk] at ht ⊢
    rw [Q3.out t (by have := hil.out; omega)]
    exact A2.out t (by have := hil.out; omega)
set_option maxRecDepth 20000 in set_option maxHeartbeats 4000000 in open Nat renaming reduceAdd → p1, reduceSub → p2, reduceMul → p3, reduceDiv → p4, reduceBNe → p5, reduceBEq → p6, reduceEqDiff → p7, reduceLeDiff → p8, reduceLT → p9 in open Int renaming reduceLE → p10, reduceLT → p11, reduceEq → p12 in
theorem impl_upTo.ctr {k : Nat} {a0 : Int} {r : List Int} (h : impl_upTo.f k a0 = some r) : Ctr Try.prog 67 [.v (.int .i64 a0)] (.ow 3 1 (r.map eI)) := by
  refine Ctr_of tyOk hm Try.func67 rfl rfl (by kernel_rfl) (n := 14) (rv := [.tmp 2]) rfl rfl ?_
  simp only [W, List.replicate]
  unfold impl_upTo.f at h
  try simp only [W, p1, p2, p3, p4, p5, p6, p7, p8, p9, p10, p11]
  refine loopN (fun x : Int × List Int × Int => [.v (.int .i64 x.1), .u, .u, .lo 48, .v (.int .i64 x.2.2), .u, .u, .u, .u, .u, .u, .u, .u, .u, .u]) (fun x => [(48, .row 3 1 (List.map eI x.2.1))]) (fun n x => impl_upTo.l0 n x.1 x.2.1 x.2.2 = some r) (a0, ([] : List Int), 0) [] h (by simp only [W, p1, p2, p3, p4, p5, p6, p7, p8, p9, p10, p11] <;> trivial) (by simp only [W, p1, p2, p3, p4, p5, p6, p7, p8, p9, p10, p11] <;> trivial) rfl (fun _ h => by cases h) ?_
  intro n1 ⟨x1, x2, x3⟩ _ h
  simp only [impl_upTo.l0] at h
  replace h := ifS h; rcases h with ⟨c4, h⟩ | ⟨c4, h⟩
  · replace h := ifN h; obtain ⟨c5, h⟩ := h
    try simp only [W, c4, c5, p1, p2, p3, p4, p5, p6, p7, p8, p9, p10, p11]
    exact nextN (x1, (x2 ++ [x3]), (wrap64 (x3 + 1))) [(48, 208)] n1 (by omega) h (by simp only [W, p1, p2, p3, p4, p5, p6, p7, p8, p9, p10, p11] <;> trivial) (by simp only [W, p1, p2, p3, p4, p5, p6, p7, p8, p9, p10, p11] <;> trivial) rfl
  · cases h
    try simp only [W, c4, p1, p2, p3, p4, p5, p6, p7, p8, p9, p10, p11]
theorem impl_upTo.calls (k : Nat) (a0 : Int) (r : List Int) (w : World) (h : impl_upTo.f k a0 = some r) :
    Calls Try.prog 67 #[.int .i64 a0] w fun e w' => ∃ v0_ : Value, e = .returned (v0_) ∧ Kd.R (Kd.int .i64) 3 w' w.heap.size (fun _ => True) v0_ r ∧ Below w.heap.size w w' := by
  refine ((impl_upTo.ctr h).2 w [.int .i64 a0] (by simp only [RepL, Rep]; exact ⟨_, _, rfl, rfl, rfl⟩)).mono ?_
  rintro _ _ ⟨y, L, rfl, hR, _, hb⟩
  simp only [RepR] at hR
  exact ⟨y, rfl, R_of_row E_eI hR.1, hb⟩
end Go.Proofs.Ytpeehicekddjhaa.F
end

section
namespace Go.Proofs.Ytpeehicekddjhaa.F
open Go.RowKit Go.Proofs.YtpeehicekddjhaaW.PrintWords Go.Proofs.YtpeehicekddjhaaW.PrintLast Go.Proofs.YtpeehicekddjhaaW.PrintMore
set_option linter.unusedVariables false
set_option linter.unusedSimpArgs false
attribute [local go_sem] max2_int min2_int max_two min_two
set_option maxRecDepth 20000 in set_option maxHeartbeats 4000000 in open Nat renaming reduceAdd → p1, reduceSub → p2, reduceMul → p3, reduceDiv → p4, reduceBNe → p5, reduceBEq → p6, reduceEqDiff → p7, reduceLeDiff → p8, reduceLT → p9 in open Int renaming reduceLE → p10, reduceLT → p11, reduceEq → p12 in
theorem spec_GapAt.ctr {k : Nat} {a0_0 : Int} {a0_1 : Int} {a1 : Int} {a2 : Int} {r : Int} (h : spec_GapAt.f k a0_0 a0_1 a1 a2 = some r) : Ctr Try.prog 97 [.ag [.v (.int .i64 a0_0), .v (.int .i64 a0_1)], .v (.int .i64 a1), .v (.int .i64 a2)] (.v (.int .i64 r)) := by
  refine Ctr_of tyOk hm Try.func97 rfl rfl (by kernel_rfl) (n := 38) (rv := [.tmp 6]) rfl rfl ?_
  simp only [W, List.replicate]
  unfold spec_GapAt.f at h
  replace h := bnd h; obtain ⟨t1, A, h⟩ := h
  try simp only [W, p1, p2, p3, p4, p5, p6, p7, p8, p9, p10, p11]
  refine callR (spec_Neighbor.ctr A) ?_
  replace h := ifS h; rcases h with ⟨c2, h⟩ | ⟨c2, h⟩
  · cases h
    try simp only [W, c2, p1, p2, p3, p4, p5, p6, p7, p8, p9, p10, p11]
  · replace h := ifS h; rcases h with ⟨c3, h⟩ | ⟨c3, h⟩
    · replace h := ifM h; obtain ⟨c4, h⟩ := h
      cases h
      try simp only [W, c2, eq_true c3, c4, p1, p2, p3, p4, p5, p6, p7, p8, p9, p10, p11]
    · replace h := ifS h; rcases h with ⟨c5, h⟩ | ⟨c5, h⟩
      · replace h := ifM h; obtain ⟨c6, h⟩ := h
        cases h
        try simp only [W, c2, c3, eq_true c5, c6, p1, p2, p3, p4, p5, p6, p7, p8, p9, p10, p11]
      · replace h := bnd h; obtain ⟨t7, A, h⟩ := h
        try simp only [W, c2, c3, c5, p1, p2, p3, p4, p5, p6, p7, p8, p9, p10, p11]
        refine callR (spec_l02East.ctr A) ?_
        cases h
        try simp only [W, c2, c3, c5, p1, p2, p3, p4, p5, p6, p7, p8, p9, p10, p11]
set_option maxRecDepth 20000 in set_option maxHeartbeats 4000000 in open Nat renaming reduceAdd → p1, reduceSub → p2, reduceMul → p3, reduceDiv → p4, reduceBNe → p5, reduceBEq → p6, reduceEqDiff → p7, reduceLeDiff → p8, reduceLT → p9 in open Int renaming reduceLE → p10, reduceLT → p11, reduceEq → p12 in
theorem spec_Step.ctr {k : Nat} {a0_0 : Int} {a0_1 : Int} {a0_2 : Int} {a1 : Int} {a2 : Int} {r : Int} (h : spec_Step.f k a0_0 a0_1 a0_2 a1 a2 = some r) : Ctr Try.prog 38 [.ag [.v (.int .i64 a0_0), .v (.int .i64 a0_1), .v (.int .i64 a0_2)], .v (.int .i64 a1), .v (.int .i64 a2)] (.v (.int .i64 r)) := by
  refine Ctr_of tyOk hm Try.func38 rfl rfl (by kernel_rfl) (n := 22) (rv := [.tmp 6]) rfl rfl ?_
  simp only [W, List.replicate]
  unfold spec_Step.f at h
  replace h := bnd h; obtain ⟨t1, A, h⟩ := h
  try simp only [W, p1, p2, p3, p4, p5, p6, p7, p8, p9, p10, p11]
  refine callR (spec_MazeOk.ctr A) ?_
  replace h := ifT h; rcases h with ⟨rfl, h⟩ | ⟨rfl, h⟩
  · replace h := bnd h; obtain ⟨t3, A, h⟩ := h
    try simp only [W, p1, p2, p3, p4, p5, p6, p7, p8, p9, p10, p11]
    refine callR (spec_GapAt.ctr A) ?_
    replace h := bnd h; obtain ⟨t4, A, h⟩ := h
    try simp only [W, p1, p2, p3, p4, p5, p6, p7, p8, p9, p10, p11]
    refine callR (spec_IsPassage.ctr A) ?_
    replace h := ifT h; rcases h with ⟨rfl, h⟩ | ⟨rfl, h⟩
    · replace h := bnd h; obtain ⟨t6, A, h⟩ := h
      try simp only [W, p1, p2, p3, p4, p5, p6, p7, p8, p9, p10, p11]
      refine callR (spec_Neighbor.ctr A) ?_
      cases h
      try simp only [W, p1, p2, p3, p4, p5, p6, p7, p8, p9, p10, p11]
    · cases h
      try simp only [W, p1, p2, p3, p4, p5, p6, p7, p8, p9, p10, p11]
  · cases h
    try simp only [W, p1, p2, p3, p4, p5, p6, p7, p8, p9, p10, p11]
set_option maxRecDepth 20000 in set_option maxHeartbeats 4000000 in open Nat renaming reduceAdd → p1, reduceSub → p2, reduceMul → p3, reduceDiv → p4, reduceBNe → p5, reduceBEq → p6, reduceEqDiff → p7, reduceLeDiff → p8, reduceLT → p9 in open Int renaming reduceLE → p10, reduceLT → p11, reduceEq → p12 in
theorem laws_eqIntS.ctr {k : Nat} {l0 : List Int} {l1 : List Int} {r : Bool} (h : laws_eqIntS.f k l0 l1 = some r) : Ctr Try.prog 35 [.pr 1 (l0.map eI), .pr 1 (l1.map eI)] (.v (.bool r)) := by
  refine Ctr_of tyOk hm Try.func35 rfl rfl (by kernel_rfl) (n := 24) (rv := [.tmp 4]) rfl rfl ?_
  simp only [W, List.replicate]
  unfold laws_eqIntS.f at h
  replace h := ifS h; rcases h with ⟨c1, h⟩ | ⟨c1, h⟩
  · try simp only [W, eq_true c1, p1, p2, p3, p4, p5, p6, p7, p8, p9, p10, p11, p12]
    refine loopN (fun x : List Int × List Int × Int => [.pr 1 (List.map eI x.1), .pr 1 (List.map eI x.2.1), .u, .u, .u, .v (.int .i64 x.2.2), .u, .u, .u, .u, .u, .u, .u, .u, .u, .u, .u, .u, .u, .u, .u, .u, .u, .u, .u, .u]) (fun x => []) (fun n x => laws_eqIntS.l0 n x.1 x.2.1 x.2.2 = some r) (l0, l1, 0) [] h (by simp only [W, p1, p2, p3, p4, p5, p6, p7, p8, p9, p10, p11, p12] <;> trivial) (by simp only [W, p1, p2, p3, p4, p5, p6, p7, p8, p9, p10, p11, p12] <;> trivial) rfl (fun _ h => by cases h) ?_
    intro n1 ⟨x2, x3, x4⟩ _ h
    simp only [laws_eqIntS.l0] at h
    replace h := ifS h; rcases h with ⟨c5, h⟩ | ⟨c5, h⟩
    · replace h := ifN h; obtain ⟨c6, h⟩ := h
      replace h := ifN h; obtain ⟨c7, h⟩ := h
      replace h := ifS h; rcases h with ⟨c8, h⟩ | ⟨c8, h⟩
      · try simp only [W, c5, c6, c7, eq_true c8, p1, p2, p3, p4, p5, p6, p7, p8, p9, p10, p11, p12]
        exact nextN (x2, x3, (wrap64 (x4 + 1))) [] n1 (by omega) h (by simp only [W, p1, p2, p3, p4, p5, p6, p7, p8, p9, p10, p11, p12] <;> trivial) (by simp only [W, p1, p2, p3, p4, p5, p6, p7, p8, p9, p10, p11, p12] <;> trivial) rfl
      · cases h
        try simp only [W, c5, c6, c7, c8, p1, p2, p3, p4, p5, p6, p7, p8, p9, p10, p11, p12]
    · cases h
      try simp only [W, c5, p1, p2, p3, p4, p5, p6, p7, p8, p9, p10, p11, p12]
  · cases h
    try simp only [W, c1, p1, p2, p3, p4, p5, p6, p7, p8, p9, p10, p11, p12]
end Go.Proofs.Ytpeehicekddjhaa.F
end

section
namespace Go.Proofs.Ytpeehicekddjhaa.F
open Go.RowKit Go.Proofs.YtpeehicekddjhaaW.PrintWords Go.Proofs.YtpeehicekddjhaaW.PrintLast Go.Proofs.YtpeehicekddjhaaW.PrintMore
set_option linter.unusedVariables false
set_option linter.unusedSimpArgs false
attribute [local go_sem] max2_int min2_int max_two min_two
set_option maxRecDepth 20000 in set_option maxHeartbeats 4000000 in open Nat renaming reduceAdd → p1, reduceSub → p2, reduceMul → p3, reduceDiv → p4, reduceBNe → p5, reduceBEq → p6, reduceEqDiff → p7, reduceLeDiff → p8, reduceLT → p9 in open Int renaming reduceLE → p10, reduceLT → p11, reduceEq → p12 in
theorem spec_l04Distances.ctr {k : Nat} {a0_0 : Int} {a0_1 : Int} {a0_2 : Int} {a1 : Int} {r : List Int} (h : spec_l04Distances.f k a0_0 a0_1 a0_2 a1 = some r) : Ctr Try.prog 78 [.ag [.v (.int .i64 a0_0), .v (.int .i64 a0_1), .v (.int .i64 a0_2)], .v (.int .i64 a1)] (.ow 3 1 (r.map eI)) := by
  refine Ctr_of tyOk hm Try.func78 rfl rfl (by kernel_rfl) (n := 69) (rv := [.tmp 4]) rfl rfl ?_
  simp only [W, List.replicate]
  unfold spec_l04Distances.f at h
  replace h := bnd h; obtain ⟨t1, A, h⟩ := h
  try simp only [W, p1, p2, p3, p4, p5, p6, p7, p8, p9, p10, p11]
  refine callR (spec_CountCells.ctr A) ?_
  replace h := ifN h; obtain ⟨c2, h⟩ := h
  replace h := ifN h; obtain ⟨c3, h⟩ := h
  try simp only [W, c2, c3, p1, p2, p3, p4, p5, p6, p7, p8, p9, p10, p11]
  refine loopN (fun x : Int × List Int × Int × Int × Int × Int => [.u, .v (.int .i64 x.1), .bp 32 0, .u, .u, .lo 224, .v (.int .i64 x.2.2.1), .u, .u, .u, .u, .bp 32 0, .u, .u, .u, .u, .u, .u, .u, .u, .u, .u, .u, .u, .u, .u, .u, .u, .u, .u, .u, .u, .u, .u, .u, .u, .u, .u, .u, .u, .u, .u, .u, .u, .u, .u, .u, .u, .u, .u, .u, .u, .u, .u, .u, .u, .u, .u, .u, .u, .u, .u, .u, .u, .u, .u, .u, .u, .u, .u, .u]) (fun x => [(32, .box 27 [.v (.int .i64 x.2.2.2.1), .v (.int .i64 x.2.2.2.2.1), .v (.int .i64 x.2.2.2.2.2)]), (224, .row 3 1 (List.map eI x.2.1))]) (fun n x => spec_l04Distances.l0 n x.1 x.2.1 x.2.2.1 x.2.2.2.1 x.2.2.2.2.1 x.2.2.2.2.2 = some r) (a1, (List.replicate (t1 : Int).toNat 0), 0, a0_0, a0_1, a0_2) [] h (by simp only [W, p1, p2, p3, p4, p5, p6, p7, p8, p9, p10, p11] <;> trivial) (by simp only [W, p1, p2, p3, p4, p5, p6, p7, p8, p9, p10, p11] <;> trivial) rfl (fun _ h => by cases h) ?_
  intro n1 ⟨x4, x5, x6, x7, x8, x9⟩ _ h
  simp only [spec_l04Distances.l0] at h
  replace h := ifS h; rcases h with ⟨c10, h⟩ | ⟨c10, h⟩
  · replace h := ifN h; obtain ⟨c11, h⟩ := h
    try simp only [W, c10, c11, p1, p2, p3, p4, p5, p6, p7, p8, p9, p10, p11]
    exact nextN (x4, (x5.set (x6 : Int).toNat (-1)), (wrap64 (x6 + 1)), x7, x8, x9) [] n1 (by omega) h (by simp only [W, p1, p2, p3, p4, p5, p6, p7, p8, p9, p10, p11] <;> trivial) (by simp only [W, p1, p2, p3, p4, p5, p6, p7, p8, p9, p10, p11] <;> trivial) rfl
  · replace h := ifN h; obtain ⟨c12, h⟩ := h
    replace h := ifN h; obtain ⟨c13, h⟩ := h
    try simp only [W, c10, c12, c13, p1, p2, p3, p4, p5, p6, p7, p8, p9, p10, p11]
    refine loopN (fun x : List Int × List Int × Int × Int × Int × Int => [.u, .u, .bp 32 0, .u, .u, .lo 224, .u, .lo 448, .v (.int .i64 x.2.2.1), .u, .u, .bp 32 0, .u, .u, .u, .u, .u, .u, .u, .u, .u, .u, .u, .u, .u, .u, .u, .u, .u, .u, .u, .u, .u, .u, .u, .u, .u, .u, .u, .u, .u, .u, .u, .u, .u, .u, .u, .u, .u, .u, .u, .u, .u, .u, .u, .u, .u, .u, .u, .u, .u, .u, .u, .u, .u, .u, .u, .u, .u, .u, .u]) (fun x => [(32, .box 27 [.v (.int .i64 x.2.2.2.1), .v (.int .i64 x.2.2.2.2.1), .v (.int .i64 x.2.2.2.2.2)]), (224, .row 3 1 (List.map eI x.1)), (448, .row 3 1 (List.map eI x.2.1))]) (fun n x => spec_l04Distances.l1 n x.1 x.2.1 x.2.2.1 x.2.2.2.1 x.2.2.2.2.1 x.2.2.2.2.2 = some r) ((x5.set (x4 : Int).toNat 0), (([x4] : List Int)), 0, x7, x8, x9) [] h (by simp only [W, p1, p2, p3, p4, p5, p6, p7, p8, p9, p10, p11] <;> trivial) (by simp only [W, p1, p2, p3, p4, p5, p6, p7, p8, p9, p10, p11] <;> trivial) rfl (fun _ h => by cases h) ?_
    intro n2 ⟨x14, x15, x16, x17, x18, x19⟩ _ h
    simp only [spec_l04Distances.l1] at h
    replace h := ifS h; rcases h with ⟨c20, h⟩ | ⟨c20, h⟩
    · try simp only [W, c20, p1, p2, p3, p4, p5, p6, p7, p8, p9, p10, p11]
      refine loopN (fun x : List Int × List Int × Int × Int × Int × Int × Int => [.u, .u, .bp 32 0, .u, .u, .lo 224, .u, .lo 448, .v (.int .i64 x.2.2.1), .v (.int .i64 x.2.2.2.1), .u, .bp 32 0, .u, .u, .u, .u, .u, .u, .u, .u, .u, .u, .u, .u, .u, .u, .u, .u, .u, .u, .u, .u, .u, .u, .u, .u, .u, .u, .u, .u, .u, .u, .u, .u, .u, .u, .u, .u, .u, .u, .u, .u, .u, .u, .u, .u, .u, .u, .u, .u, .u, .u, .u, .u, .u, .u, .u, .u, .u, .u, .u]) (fun x => [(32, .box 27 [.v (.int .i64 x.2.2.2.2.1), .v (.int .i64 x.2.2.2.2.2.1), .v (.int .i64 x.2.2.2.2.2.2)]), (224, .row 3 1 (List.map eI x.1)), (448, .row 3 1 (List.map eI x.2.1))]) (fun n x => spec_l04Distances.l2 n x.1 x.2.1 x.2.2.1 x.2.2.2.1 x.2.2.2.2.1 x.2.2.2.2.2.1 x.2.2.2.2.2.2 = some r) (x14, x15, x16, 0, x17, x18, x19) [] h (by simp only [W, p1, p2, p3, p4, p5, p6, p7, p8, p9, p10, p11] <;> trivial) (by simp only [W, p1, p2, p3, p4, p5, p6, p7, p8, p9, p10, p11] <;> trivial) rfl (fun _ h => by cases h) ?_
      intro n3 ⟨x21, x22, x23, x24, x25, x26, x27⟩ _ h
      simp only [spec_l04Distances.l2] at h
      replace h := ifS h; rcases h with ⟨c28, h⟩ | ⟨c28, h⟩
      · replace h := ifN h; obtain ⟨c29, h⟩ := h
        replace h := ifN h; obtain ⟨c30, h⟩ := h
        replace h := bnd h; obtain ⟨t31, A, h⟩ := h
        try simp only [W, c28, c29, c30, p1, p2, p3, p4, p5, p6, p7, p8, p9, p10, p11]
        refine callR (spec_Step.ctr A) ?_
        replace h := ifS h; rcases h with ⟨c32, h⟩ | ⟨c32, h⟩
        · replace h := ifN h; obtain ⟨c33, h⟩ := h
          replace h := ifN h; obtain ⟨c34, h⟩ := h
          replace h := ifS h; rcases h with ⟨c35, h⟩ | ⟨c35, h⟩
          · replace h := ifN h; obtain ⟨c36, h⟩ := h
            replace h := ifN h; obtain ⟨c37, h⟩ := h
            replace h := ifN h; obtain ⟨c38, h⟩ := h
            try simp only [W, c28, c29, c30, c32, c33, c34, c35, c36, c37, c38, p1, p2, p3, p4, p5, p6, p7, p8, p9, p10, p11]
            exact nextN ((x21.set (t31 : Int).toNat (wrap64 ((rd x21 (rd x22 x23)) + 1))), (x22 ++ [t31]), x23, (wrap64 (x24 + 1)), x25, x26, x27) [(448, 1104)] n3 (by omega) h (by simp only [W, p1, p2, p3, p4, p5, p6, p7, p8, p9, p10, p11] <;> trivial) (by simp only [W, p1, p2, p3, p4, p5, p6, p7, p8, p9, p10, p11] <;> trivial) rfl
          · try simp only [W, c28, c29, c30, c32, c33, c34, c35, p1, p2, p3, p4, p5, p6, p7, p8, p9, p10, p11]
            exact nextN (x21, x22, x23, (wrap64 (x24 + 1)), x25, x26, x27) [] n3 (by omega) h (by simp only [W, p1, p2, p3, p4, p5, p6, p7, p8, p9, p10, p11] <;> trivial) (by simp only [W, p1, p2, p3, p4, p5, p6, p7, p8, p9, p10, p11] <;> trivial) rfl
        · try simp only [W, c28, c29, c30, c32, p1, p2, p3, p4, p5, p6, p7, p8, p9, p10, p11]
          exact nextN (x21, x22, x23, (wrap64 (x24 + 1)), x25, x26, x27) [] n3 (by omega) h (by simp only [W, p1, p2, p3, p4, p5, p6, p7, p8, p9, p10, p11] <;> trivial) (by simp only [W, p1, p2, p3, p4, p5, p6, p7, p8, p9, p10, p11] <;> trivial) rfl
      · try simp only [W, c28, p1, p2, p3, p4, p5, p6, p7, p8, p9, p10, p11]
        exact nextN (x21, x22, (wrap64 (x23 + 1)), x25, x26, x27) [] n3 (by omega) h (by simp only [W, p1, p2, p3, p4, p5, p6, p7, p8, p9, p10, p11] <;> trivial) (by simp only [W, p1, p2, p3, p4, p5, p6, p7, p8, p9, p10, p11] <;> trivial) rfl
    · cases h
      try simp only [W, c20, p1, p2, p3, p4, p5, p6, p7, p8, p9, p10, p11]
set_option maxHeartbeats 8000000 in
set_option maxRecDepth 100000 in
theorem math_bits_Mul64.calls (a0 : Int) (a1 : Int) (r1 : Int) (r2 : Int) (w : World) (h : math_bits_Mul64.f a0 a1 = some (r1, r2)) :
  Calls Try.prog 197 #[.int .u64 a0, .int .u64 a1] w fun e w' => e = .returned (.tuple #[.int .u64 r1, .int .u64 r2]) ∧ Drawn0 w w' := by
 have H : (some (IntKind.u64.wrap ((IntKind.u64.wrap ((IntKind.u64.wrap ((a0 / 4294967296) * (a1 / 4294967296))) + ((IntKind.u64.wrap ((IntKind.u64.wrap ((a0 / 4294967296) * (Go.bits .and .u64 a1 4294967295))) + ((IntKind.u64.wrap ((Go.bits .and .u64 a0 4294967295) * (Go.bits .and .u64 a1 4294967295))) / 4294967296))) / 4294967296))) + ((IntKind.u64.wrap ((Go.bits .and .u64 (IntKind.u64.wrap ((IntKind.u64.wrap ((a0 / 4294967296) * (Go.bits .and .u64 a1 4294967295))) + ((IntKind.u64.wrap ((Go.bits .and .u64 a0 4294967295) * (Go.bits .and .u64 a1 4294967295))) / 4294967296))) 4294967295) + (IntKind.u64.wrap ((Go.bits .and .u64 a0 4294967295) * (a1 / 4294967296))))) / 4294967296)), IntKind.u64.wrap (a0 * a1))) = some (r1, r2) := h
 clear h
 simp only [Option.some.injEq, Prod.mk.injEq] at H
 obtain ⟨rfl, rfl⟩ := H
 go_enter Try.func197, Try.ntmps197
 go_wp2
 go_ret2
 exact ⟨by first | rfl | (simp; done) | (simp [*]; done), by repeat (first | exact Drawn0.refl _ | apply Drawn0.step)⟩
set_option maxHeartbeats 8000000 in
set_option maxRecDepth 100000 in
theorem math_bits_Mul.calls (a0 : Int) (a1 : Int) (r1 : Int) (r2 : Int) (w : World) (h : math_bits_Mul.f a0 a1 = some (r1, r2)) :
  Calls Try.prog 180 #[.int .u64 a0, .int .u64 a1] w fun e w' => e = .returned (.tuple #[.int .u64 r1, .int .u64 r2]) ∧ Drawn0 w w' := by
 have H : ((math_bits_Mul64.f a0 a1).bind fun bt542 => (some (bt542.1, bt542.2))) = some (r1, r2) := h
 clear h
 replace H := Option.bind_eq_some_iff.mp H
 obtain ⟨⟨t542, t543⟩, A30, H⟩ := H
 replace H : (some (t542, t543)) = some (r1, r2) := H
 have A3 := aK A30
 clear A30
 simp only [Option.some.injEq, Prod.mk.injEq] at H
 obtain ⟨rfl, rfl⟩ := H
 go_enter Try.func180, Try.ntmps180
 go_wp2_with (first | ((with_reducible refine gate_callee (f := 197) rfl ?_); refine goesL_ (some 25) rfl rfl Try.func197 (by kernel_rfl) rfl #[.int .u64 a0, .int .u64 a1] rfl (by (try simp only [List.map_toArray, List.map_cons, List.map_nil]); first | done | rfl | (simp only [List.length_drop, List.length_take]; rfl)) ?_; (with_reducible refine (math_bits_Mul64.calls a0 a1 t542 t543 _ A3.out).mono ?_); rintro e w' ⟨rfl, ⟨nd, rfl⟩⟩; refine ⟨_, rfl, ?_⟩))
 go_ret2
 exact ⟨by first | rfl | (simp; done) | (simp [*]; done), by repeat (first | exact Drawn0.refl _ | apply Drawn0.step)⟩
theorem bits_nat_u {a b : Nat} (ha : a < 2 ^ 63) (hb : b < 2 ^ 63) : Go.bits .and .u64 (a : Int) (b : Int) = ((a &&& b : Nat) : Int) :=
  (bits_nat .u64 63 (by decide) (fun n h0 h1 => by simp [IntKind.wrap, IntKind.bits, IntKind.signed]; omega) a b ha hb).1
theorem mul_one_small {n : Nat} (hn : n ≤ 4096) : math_bits_Mul.f 1 (n : Int) = some (0, (n : Int)) := by
  have w : ∀ m : Nat, m < 18446744073709551616 → IntKind.u64.wrap (m : Int) = (m : Int) := fun m h => by simp [IntKind.wrap, IntKind.bits, IntKind.signed]; omega
  have e1 : Go.bits .and .u64 (n : Int) 4294967295 = (n : Int) := by
    have := bits_nat_u (a := n) (b := 4294967295) (by omega) (by decide)
    rw [show ((4294967295 : Nat) : Int) = 4294967295 from rfl] at this
    rw [this, show (4294967295 : Nat) = 2 ^ 32 - 1 from rfl, Nat.and_two_pow_sub_one_eq_mod, Nat.mod_eq_of_lt (by omega)]
  have e2 : Go.bits .and .u64 (1 : Int) 4294967295 = 1 := by decide
  have e3 : (n : Int) / 4294967296 = 0 := by omega
  have e0 : (1 : Int) / 4294967296 = 0 := by decide
  have z : IntKind.u64.wrap (0 : Int) = 0 := by decide
  have wn : IntKind.u64.wrap (n : Int) = (n : Int) := w n (by omega)
  have b0 : Go.bits .and .u64 (0 : Int) 4294967295 = 0 := by decide
  unfold math_bits_Mul.f math_bits_Mul64.f
  simp only [Option.bind_some, e0, e1, e2, e3, Int.zero_mul, Int.one_mul, Int.mul_zero, z, wn, Int.add_zero, Int.zero_add, b0, show (0 : Int) / 4294967296 = 0 from by decide]
theorem own_open {w : World} {base : Nat} {v : Value} {xs : List Int} {e : Nat} (h : Kd.R (Kd.int .i64) e w base (fun _ => True) v xs) (hx : 0 < xs.length) :
    ∃ g cap cur, v = .slice (some ⟨g, 0, none⟩) xs.length cap ∧ xs.length ≤ cap ∧ base ≤ g ∧ w.heap[g]? = some (.cells (List.toArray cur) e (0, 0)) ∧ cur.length = cap ∧ cap ≤ maxLen := by
  obtain ⟨_, h⟩ := Kd.own_of_R h
  rcases h with ⟨rfl, h0⟩ | ⟨g, cap, cur, rfl, hb, hh, hn, hc, hs, _⟩
  · omega
  · exact ⟨g, cap, cur.toList, rfl, hn, hb, by simpa using hh, by simpa using hs, hc⟩
set_option maxHeartbeats 600000 in
set_option maxRecDepth 100000 in
theorem slices_Repeat_int.calls (A0 : Option Addr) (c0 : Nat) (l0 : List Int) (a1 : Int) (r : List Int) (w : World) (hr0 : Kd.C (Kd.int .i64) w A0 l0.length l0) (hc0 : l0.length ≤ c0) (h : slices_Repeat_int.f l0 a1 = some r) :
  Calls Try.prog 155 #[.slice A0 l0.length c0, .int .i64 a1] w fun e w' => ∃ v0_ : Value, e = .returned (v0_) ∧ Kd.R (Kd.int .i64) 3 w' w.heap.size (fun _ => True) v0_ r ∧ Below w.heap.size w w' := by
 unfold slices_Repeat_int.f at h
 by_cases hl : l0.length = 1 ∧ 1 ≤ a1 ∧ a1 ≤ 4096
 ·rw [if_pos hl] at h
  obtain rfl := Option.some.inj h
  obtain ⟨h1, h2, h3⟩ := hl
  obtain ⟨x, rfl⟩ := List.length_eq_one_iff.1 h1
  obtain ⟨n, rfl⟩ : ∃ n : Nat, (n : Int) = a1 := ⟨a1.toNat, by omega⟩
  have hn1 : 1 ≤ n := by omega
  have hn2 : n ≤ 4096 := by omega
  have HN := aK (And.intro hn1 hn2)
  obtain ⟨ad, rfl, hx⟩ := Kd.at_int hr0 0 (by decide) (by simp)
  have HX := aK hx
  have hmul := aK (mul_one_small hn2)
  have d1 : decide ((n : Int) < 0) = false := decide_eq_false (by omega)
  have d2 : decide ((n : Int) > 9223372036854775807) = false := decide_eq_false (by omega)
  have d3 : IntKind.i64.wrap (n : Int) = (n : Int) := by simp [IntKind.wrap, IntKind.bits, IntKind.signed]; omega
  have d4 : IntKind.u64.wrap (n : Int) = (n : Int) := by simp [IntKind.wrap, IntKind.bits, IntKind.signed]; omega
  have HB0 := aK (Below.refl w.heap.size w)
  clear hr0 h h1 h2 h3 hx hc0
  simp only [Int.toNat_natCast] at *
  go_enter Try.func155, Try.ntmps155
  obtain ⟨X, hX⟩ : ∃ X : List Value, X = [.int .i64 (rd [x] 0)] := ⟨_, rfl⟩
  go_wp2_with (first | ((with_reducible refine gate_callee (f := 180) rfl ?_); refine goesL_ (some 18) rfl rfl Try.func180 (by kernel_rfl) rfl #[.int .u64 1, .int .u64 n] rfl (by (try simp only [List.map_toArray, List.map_cons, List.map_nil]); first | done | rfl) ?_; (with_reducible refine (math_bits_Mul.calls 1 n 0 n _ hmul.out).mono ?_); rintro e w' ⟨rfl, ⟨nd, rfl⟩⟩; refine ⟨_, rfl, ?_⟩) | ((with_reducible refine gate_dst (N := 30) rfl ?_); refine Kd.R_make (Kd.int .i64) (w0 := w) w.heap.size 3 rfl (N := 30) rfl 39 _ _ rfl (n : Int) rfl rfl Try.underlying39 (.int .i64 0) 8 info3 rfl (by decide) (by omega) 0 (ok := fun _ => True) (okp := fun _ => True) rfl (fun _ hk => hk) trivial (by omega) (by have := HN.out.2; omega) (by exact bDN HB0.out _) (by simp) ?_; intro v1 w1 hR hB1 hG1 hA1; have HR1 := aK hR; have HB1 := aK hB1; clear hR hB1 hG1 hA1; obtain ⟨g, cap, cur, rfl, hcap, hg1, hg2, hg3, hg4⟩ := own_open HR1.out (by have := HN.out.1; simp; omega); simp only [Int.toNat_natCast, List.length_replicate] at hcap; clear HR1; simp only [Int.toNat_natCast, List.length_replicate]; have HG1 := aK hg1; have HG2 := aK hg2; have HG3 := aK hg3; have HCAP := aK hcap; have HMAX := aK hg4; clear hg4; clear hg1 hg2 hg3 hcap) | ((with_reducible refine wpList_copy_splice rfl (.tmp 31) (.tmp 32) 39 39 rfl 3 Try.underlying39 rfl (some ⟨g, 0, none⟩) (some ad) _ _ _ _ rfl rfl g 0 cur 3 HG2.out X ?cn ?cp ?cf ?c1 w.heap.size w HB1.out HG1.out ?_); (case cn => subst hX; show 1 = _; have := HN.out; simp [Nat.min_def]; omega); (case cp => intro _; refine ⟨rfl, ad, rfl, fun j v hj => ?_⟩; subst hX; cases j with | zero => (simp at hj; subst hj; exact pw_cell_below HB1.out HX.out) | succ j => simp at hj); (case cf => subst hX; have := HN.out; have := HCAP.out; have := HG3.out; simp; omega); (case c1 => subst hX; intro v hv; simp at hv; subst hv; rfl); intro w2 HS2 hB2; have HB2 := aK hB2; clear hB2))
  have HS3 : Aside0 (∃ c2 : List Value, w2.heap[g]? = some (.cells c2.toArray 3 (0, 0)) ∧ c2.length = cap ∧ ∀ j, j < 1 → c2[j]? = some (.int .i64 (rd [x] 0))) := by
   refine ⟨⟨splice cur 0 X, HS2.out, ?_, fun j hj => ?_⟩⟩
   ·rw [length_splice _ _ _ (by subst hX; have := HN.out; have := HCAP.out; have := HG3.out; simp; omega)]; exact HG3.out
   ·obtain rfl : j = 0 := by omega
    subst hX; simp [splice]
  clear HS2 HG2 hX hmul HX HB1
  go_loopg [8] n (fun gg s8 wr => ∃ (kk : Nat), s8 = .int .i64 kk ∧ 1 ≤ kk ∧ kk ≤ n ∧ n - kk ≤ gg ∧ Aside0 (∃ c2 : List Value, wr.heap[g]? = some (.cells c2.toArray 3 (0, 0)) ∧ c2.length = cap ∧ ∀ j, j < kk → c2[j]? = some (.int .i64 (rd [x] 0))) ∧ Aside0 (Below w.heap.size w wr))
  case atStart => exact ⟨1, rfl, by omega, by omega, by omega, HS3, HB2⟩
  case round =>
   clear HS3 HB2
   obtain ⟨kk, rfl, hk1, hkn, hkg, HS, HB⟩ := hrel
   obtain ⟨c2, e2, l2, a2⟩ := HS.out
   have E2 := aK e2
   have L2 := aK l2
   have A2 := aK a2
   clear HS e2 l2 a2
   by_cases hlt : kk < n
   ·have hltz : (kk : Int) < (n : Int) := by omega
    have hkz : (0 : Int) ≤ (kk : Int) := by omega
    have hkc : kk < cap := by have := HCAP.out; omega
    obtain ⟨m, hm⟩ : ∃ m, m = Nat.min kk (n - kk) := ⟨_, rfl⟩
    have hm1 : 1 ≤ m := by rw [hm]; simp only [Nat.min_def]; split <;> omega
    have hm2 : m ≤ kk := by rw [hm]; exact Nat.min_le_left _ _
    have hm3 : kk + m ≤ n := by rw [hm]; simp only [Nat.min_def]; split <;> omega
    have HM := aK (And.intro hm1 (And.intro hm2 hm3))
    have HM0 := aK hm
    obtain ⟨X1, hX1⟩ : ∃ X1 : List Value, X1 = List.replicate m (.int .i64 (rd [x] 0)) := ⟨_, rfl⟩
    have X1L : Aside0 (X1.length = m) := ⟨by rw [hX1]; simp⟩
    have X1M : Aside0 (∀ v ∈ X1, v.oneCell' = true) := ⟨by rw [hX1]; intro v hv; rw [List.eq_of_mem_replicate hv]; rfl⟩
    have X1J : Aside0 (∀ j v, X1[j]? = some v → j < m ∧ v = .int .i64 (rd [x] 0)) := ⟨fun j v hv => by rw [hX1, List.getElem?_replicate] at hv; split at hv <;> simp_all⟩
    have SRC : Aside0 (∀ j v, X1[j]? = some v → wr.cell? ((⟨g, 0, none⟩ : Addr).add j) = some v) := ⟨fun j v hv => by
     obtain ⟨h1, rfl⟩ := X1J.out j v hv
     rw [add_plain]
     refine (kC E2.out _).trans ?_
     simp only [Nat.zero_add, List.getElem?_toArray]
     exact A2.out j (by omega)⟩
    have SPL : Aside0 (∀ j, j < kk + m → (splice c2 kk X1)[j]? = some (.int .i64 (rd [x] 0))) := ⟨fun j hj => by
     have hl := L2.out
     unfold splice
     by_cases h : j < kk
     ·rw [List.getElem?_append_left (by simp; omega), List.getElem?_take, if_pos h]; exact A2.out j h
     ·rw [List.getElem?_append_right (by simp; omega), List.length_take, Nat.min_eq_left (by omega), List.getElem?_append_left (by rw [X1L.out]; omega), hX1, List.getElem?_replicate, if_pos (by omega)]⟩
    have d5 : IntKind.i64.wrap ((kk : Int) + (m : Int)) = ((kk + m : Nat) : Int) := by have := HN.out; simp [IntKind.wrap, IntKind.bits, IntKind.signed]; omega
    have k1 : (kk ≤ cap) = True := eq_true (by omega)
    have k2 : (cap = kk) = False := eq_false (by omega)
    have k3 : (kk ≤ n) = True := eq_true (by omega)
    clear hm hX1
    go_wp2
    go_region_law (refine step_copy_splice rfl (.tmp 41) (.tmp 44) 39 39 rfl 3 Try.underlying39 rfl (some ⟨g, kk, none⟩) (some ⟨g, 0, none⟩) (n - kk) (cap - kk) kk cap (by simp [Act.eval, Act.put]) (by simp [Act.eval, Act.put]) g kk c2 3 (by exact E2.out) X1 (by rw [X1L.out, HM0.out]) (fun _ => ⟨rfl, _, rfl, by exact SRC.out⟩) (by have := X1L.out; have := L2.out; have := HCAP.out; have := HM.out; omega) X1M.out w.heap.size w (bD1 HB.out) HG1.out ?_; intro w4 hg4 hb4)
    go_wp2
    go_roundg (n - (kk + m))
    case measure => have := HM.out; omega
    case rel =>
     refine ⟨kk + m, by rw [X1L.out]; exact congrArg _ d5, by have := HM.out; omega, by have := HM.out; omega, Nat.le_refl _, ⟨⟨splice c2 kk X1, hg4.out, ?_, SPL.out⟩⟩, ⟨hb4⟩⟩
     rw [length_splice _ _ _ (by have := X1L.out; have := L2.out; have := HCAP.out; have := HM.out; omega)]
     exact L2.out
   ·have hltz : ¬ (kk : Int) < (n : Int) := by omega
    obtain rfl : kk = n := by omega
    go_wp2
    go_ret
    refine ⟨_, rfl, ?_, HB.out⟩
    refine Kd.R_of_own ?_ (fun _ _ => trivial)
    refine ⟨by simp [encs], .inr ⟨g, cap, c2.toArray, by simp, HG1.out, E2.out, by simpa using HCAP.out, HMAX.out, by have := L2.out; simpa using this, ?_⟩⟩
    apply List.ext_getElem?
    intro j
    rw [List.getElem?_take]
    by_cases hj : j < kk
    ·rw [if_pos (by simpa using hj), List.toList_toArray, A2.out j hj]
     simp [encs, hj]
    ·rw [if_neg (by simpa using hj)]
     simp [encs]; omega
 ·rw [if_neg hl] at h
  exact absurd h (by simp)
end Go.Proofs.Ytpeehicekddjhaa.F
end

section
namespace Go.Proofs.Ytpeehicekddjhaa.F
open Go.RowKit Go.Proofs.YtpeehicekddjhaaW.PrintWords Go.Proofs.YtpeehicekddjhaaW.PrintLast Go.Proofs.YtpeehicekddjhaaW.PrintMore
set_option linter.unusedVariables false
set_option linter.unusedSimpArgs false
attribute [local go_sem] max2_int min2_int max_two min_two
def impl_distances.T7 : Bool × List (List Nat × List Nat) := (true, [([], []), ([], []), ([], []), ([1, 2], [1, 2]), ([3], [3]), ([0, 4], [0, 4]), ([5], [5]), ([], [])])
def impl_distances.B7 : List Nat := [0, 0, 0, 6, 14, 31, 63, 0]
theorem impl_distances.tab7 : rtab .any (opsOf Try.f86 7) = impl_distances.T7 := by kernel_rfl
theorem impl_distances.bits7 : waitsOk impl_distances.T7.2 impl_distances.B7 = true := by kernel_rfl
def impl_distances.T10 : Bool × List (List Nat × List Nat) := (true, [([], []), ([], []), ([], []), ([1, 2], [1, 2]), ([3], [3]), ([], []), ([0, 4, 5], [0, 4, 5]), ([6, 6, 0, 1, 2, 3, 4, 5, 6], [6])])
def impl_distances.B10 : List Nat := [0, 0, 0, 6, 14, 0, 63, 127]
theorem impl_distances.tab10 : rtab .any (opsOf Try.f86 10) = impl_distances.T10 := by kernel_rfl
theorem impl_distances.bits10 : waitsOk impl_distances.T10.2 impl_distances.B10 = true := by kernel_rfl
set_option maxHeartbeats 8000000 in
set_option maxRecDepth 100000 in
theorem impl_distances.calls (k : Nat) (a0_0 : Int) (a0_1 : Int) (a0_2 : Int) (a1 : Int) (r : List Int) (w : World) (h : impl_distances.f k a0_0 a0_1 a0_2 a1 = some r) :
  Calls Try.prog 86 #[.agg #[.int .i64 a0_0, .int .i64 a0_1, .int .i64 a0_2], .int .i64 a1] w fun e w' => ∃ v0_ : Value, e = .returned (v0_) ∧ Kd.R (Kd.int .i64) 3 w' w.heap.size (fun _ => True) v0_ r ∧ Below w.heap.size w w' := by
 have hu27 := Try.underlying27
 have hu25 := Try.underlying25
 have HB := aK (Below.refl w.heap.size w)
 have H : ((impl_CountCells.f a0_0 a0_1).bind fun t548 => ((slices_Repeat_int.f (([(-1)] : List Int)) t548).bind fun t549 => (if 0 ≤ a1 then (if a1 < (t549.length : Int) then (impl_distances.l0 k (t549.set (a1 : Int).toNat 0) (([a1] : List Int)) 0 a0_0 a0_1 a0_2) else (none)) else (none)))) = some r := h
 clear h
 obtain ⟨y545, hy545⟩ : ∃ y_ : List Int, y_ = (([(-1)] : List Int)) := ⟨_, rfl⟩
 replace H : ((impl_CountCells.f a0_0 a0_1).bind fun t548 => ((slices_Repeat_int.f y545 t548).bind fun t549 => (if 0 ≤ a1 then (if a1 < (t549.length : Int) then (impl_distances.l0 k (t549.set (a1 : Int).toNat 0) (([a1] : List Int)) 0 a0_0 a0_1 a0_2) else (none)) else (none)))) = some r := by first | (rw [hy545]; with_reducible exact H) | (have H2_ := (Option.bind_some _ _).symm.trans H; rw [hy545]; with_reducible exact H2_) | (have H2_ := (Option.bind_some _ _).symm.trans H; with_reducible exact H2_) | with_reducible exact H | (rw [hy545]; exact H) | exact H
 have Ny545 := aK hy545
 clear hy545
 replace H := Option.bind_eq_some_iff.mp H
 obtain ⟨t548, A30, H⟩ := H
 replace H : ((slices_Repeat_int.f y545 t548).bind fun t549 => (if 0 ≤ a1 then (if a1 < (t549.length : Int) then (impl_distances.l0 k (t549.set (a1 : Int).toNat 0) (([a1] : List Int)) 0 a0_0 a0_1 a0_2) else (none)) else (none))) = some r := H
 have A3 := aK A30
 clear A30
 replace H := Option.bind_eq_some_iff.mp H
 obtain ⟨t549, A40, H⟩ := H
 replace H : (if 0 ≤ a1 then (if a1 < (t549.length : Int) then (impl_distances.l0 k (t549.set (a1 : Int).toNat 0) (([a1] : List Int)) 0 a0_0 a0_1 a0_2) else (none)) else (none)) = some r := H
 have A4 := aK A40
 clear A40
 by_cases c5 : 0 ≤ a1
 ·rw [if_pos c5] at H
  have c5b0 : decide (0 ≤ a1) = true := decide_eq_true c5
  clear c5
  by_cases c6 : a1 < (t549.length : Int)
  ·rw [if_pos c6] at H
   have c6b0 : decide (a1 < (t549.length : Int)) = true := decide_eq_true c6
   clear c6
   obtain ⟨y552, hy552⟩ : ∃ y_ : List Int, y_ = (t549.set (a1 : Int).toNat 0) := ⟨_, rfl⟩
   replace H : (impl_distances.l0 k y552 (([a1] : List Int)) 0 a0_0 a0_1 a0_2) = some r := by first | (rw [hy552]; with_reducible exact H) | (have H2_ := (Option.bind_some _ _).symm.trans H; rw [hy552]; with_reducible exact H2_) | (have H2_ := (Option.bind_some _ _).symm.trans H; with_reducible exact H2_) | with_reducible exact H | (rw [hy552]; exact H) | exact H
   have Ny552 := aK hy552
   clear hy552
   obtain ⟨y553, hy553⟩ : ∃ y_ : List Int, y_ = (([a1] : List Int)) := ⟨_, rfl⟩
   replace H : (impl_distances.l0 k y552 y553 0 a0_0 a0_1 a0_2) = some r := by first | (rw [hy553]; with_reducible exact H) | (have H2_ := (Option.bind_some _ _).symm.trans H; rw [hy553]; with_reducible exact H2_) | (have H2_ := (Option.bind_some _ _).symm.trans H; with_reducible exact H2_) | with_reducible exact H | (rw [hy553]; exact H) | exact H
   have Ny553 := aK hy553
   clear hy553
   have H' := aK H
   clear H
   go_enter Try.func86, Try.ntmps86
   go_wp2_with (first | ((with_reducible refine gate_dst (N := 2) rfl ?_); refine box_event ?hg (N := 2) ?hd (cs := #[.int .i64 a0_0, .int .i64 a0_1, .int .i64 a0_2]) (t := 27) ?hr ?_; (case hd => rfl); (case hg => rfl); (case hr => first | (go_simp; done) | (go_simp; rfl)); intro gb544 hg w8 hbox hb; have n0_ := aK (bSp (by repeat (first | (with_reducible first | exact HB.out | apply bAl | apply bDN | apply bD1) | exact HB.out)) hb); have n1_ := aK (hbox); have n2_ := aK ((by rw [hg]; exact (bSz (by repeat (first | (with_reducible first | exact HB.out | apply bAl | apply bDN | apply bD1) | exact HB.out))) : w.heap.size ≤ gb544)); have n3_ := n2_; clear HB; have HB := n0_; have BK544 := n1_; have GW544 := n2_; have GE544 := n3_; clear n0_ n1_ n2_ n3_; clear hb hbox hg) | ((with_reducible refine gate_dst (N := 11) rfl ?_); refine Kd.R_lit (Kd.int .i64) _ 3 ?hg (N := 11) ?hd (xs := ([(-1)] : List Int)) (inner := [.int .i64 (-1)]) (ok := fun _ => True) (okp := fun _ => True) ?hr ?hp (fun _ hk => hk) trivial (Below.refl _ _) (Nat.le_refl _) (by simp) ?_; (case hd => rfl); (case hg => rfl); (case hr => first | (go_simp; done) | (go_simp; rfl)); (case hp => exact (Reps.one (show Kd.M (Kd.int .i64) _ _ _ (-1) [.int .i64 (-1)] from rfl) (Reps.none _ _))); intro v546 w9 ho10 hb hg_ hnew_; clear hg_ hnew_; (first | rw [← Ny545.out] at ho10 | (simp only [Int.reduceToNat] at ho10; rw [← Ny545.out] at ho10)); have n0_ := aK (Kd.R_lower ho10 (bSz (by repeat (first | (with_reducible first | exact HB.out | apply bAl | apply bDN | apply bD1 | refine bSt ?_ GE544.out) | exact HB.out)))); have n1_ := bkb BK544 hb (by intro z_; (with_reducible repeat (first | refine blk_drewN ?_ _ | refine kD ?_ | refine kA ?_ _)); exact z_); have n2_ := aK (bSp (by repeat (first | (with_reducible first | exact HB.out | apply bAl | apply bDN | apply bD1 | refine bSt ?_ GE544.out) | exact HB.out)) hb); clear BK544; clear HB; have HO547 := n0_; have BK544 := n1_; have HB := n2_; clear n0_ n1_ n2_; clear hb ho10; obtain ⟨hcz11_0, hcz11_1, hcz11_2, hfz11_0, hfz11_1, hfz11_2⟩ := cl3 BK544.out) | ((with_reducible refine gate_callee (f := 68) rfl ?_); refine goesL_ (some 14) rfl rfl Try.func68 (by kernel_rfl) rfl #[.agg #[.int .i64 a0_0, .int .i64 a0_1]] rfl (by (try simp only [List.map_toArray, List.map_cons, List.map_nil]); first | done | rfl | (simp only [List.length_drop, List.length_take]; rfl)) ?_; (with_reducible refine (impl_CountCells.calls a0_0 a0_1 t548 _ A3.out).mono ?_); rintro e w12 ⟨rfl, hb⟩; refine ⟨_, rfl, ?_⟩; have n0_ := aK (Kd.R_below (by (with_reducible repeat (first | apply Kd.R_alloc | apply Kd.R_drewN | apply Kd.R_drew)); exact HO547.out) hb); have n1_ := bkb BK544 hb (by intro z_; (with_reducible repeat (first | refine blk_drewN ?_ _ | refine kD ?_ | refine kA ?_ _)); exact z_); have n2_ := aK (bSp (by repeat (first | (with_reducible first | exact HB.out | apply bAl | apply bDN | apply bD1 | refine bSt ?_ GE544.out) | exact HB.out)) hb); clear HO547; clear BK544; clear HB; have HO547 := n0_; have BK544 := n1_; have HB := n2_; clear n0_ n1_ n2_; (try clear hb); (try clear hb2); (try clear hk); (try clear hi); obtain ⟨Ao13, co13, eo13⟩ := Kd.R_slice HO547.out; subst eo13) | ((with_reducible refine gate_callee (f := 155) rfl ?_); refine goesL_ (some 15) rfl rfl Try.func155 (by kernel_rfl) rfl #[.slice Ao13 y545.length co13, .int .i64 t548] rfl (by (try simp only [List.map_toArray, List.map_cons, List.map_nil]); first | done | rfl | (simp only [List.length_drop, List.length_take]; rfl)) ?_; (with_reducible refine (slices_Repeat_int.calls _ _ y545 t548 t549 _ ?side1 ?side2 A4.out).mono ?_); (case side1 => repeat (first | exact (Kd.R_reads' HO547.out).2.2 | (with_reducible refine Kd.C_alloc ?_ _) | (with_reducible refine Kd.C_drewN ?_ _) | (with_reducible refine Kd.C_drew ?_))); (case side2 => exact (Kd.R_reads' HO547.out).2.1); rintro e w14 ⟨v550, rfl, ho0, hb⟩; refine ⟨_, rfl, ?_⟩; have n0_ := aK (Kd.R_elder' (by (with_reducible repeat (first | apply Kd.R_alloc | apply Kd.R_drewN | apply Kd.R_drew)); exact HO547.out) (Kd.R_base ho0) hb); have n1_ := aK (Kd.R_lower (Kd.R_new' ho0 (Kd.R_lt (by (with_reducible repeat (first | apply Kd.R_alloc | apply Kd.R_drewN | apply Kd.R_drew)); exact HO547.out))) (bSz (by repeat (first | (with_reducible first | exact HB.out | apply bAl | apply bDN | apply bD1 | refine bSt ?_ GE544.out) | exact HB.out)))); have n2_ := bkb BK544 hb (by intro z_; (with_reducible repeat (first | refine blk_drewN ?_ _ | refine kD ?_ | refine kA ?_ _)); exact z_); have n3_ := aK (bSp (by repeat (first | (with_reducible first | exact HB.out | apply bAl | apply bDN | apply bD1 | refine bSt ?_ GE544.out) | exact HB.out)) hb); clear HO547; clear BK544; clear HB; have HO547 := n0_; have HO551 := n1_; have BK544 := n2_; have HB := n3_; clear n0_ n1_ n2_ n3_; (try clear hb); (try clear hb2); (try clear hk); (try clear hi); (try clear ho0); have p7 : 0 ≤ (a1 : Int) := of_decide_eq_true (by first | (with_reducible assumption) | assumption); have q7 : (a1 : Int) < ((t549.length : Int) : Int) := of_decide_eq_true (by first | (with_reducible assumption) | assumption); obtain ⟨go7, co7, eo7, gb7, gl7, cl7, HG7⟩ := Kd.R_form HO551.out (by omega); (first | cases eo7 | (injection eo7 with ea_ en_ ec_; (first | subst ea_ | (injection ea_ with ea_; subst ea_)); subst ec_; clear en_)); have GB7 := aK gb7; have GG7 := aK HG7; clear gb7 gl7 HG7; obtain ⟨hx7_0, hf7_0⟩ := Kd.R_celln 0 HO551.out (a1 : Int) p7 q7; replace p7 := eq_true p7; replace q7 := eq_true q7; have n_ := aK (Kd.R_mono (ok' := (fun k_ => some k_ ≠ (.slice Ao13 y545.length co13 : Value).ownBlock)) HO551.out (fun k_ hk => hk.2)); clear HO551; have HO551 := n_; clear n_; obtain ⟨hy15_, hz15_⟩ := Kd.R_celln 0 HO551.out (a1 : Int) (of_decide_eq_true (by first | (with_reducible assumption) | assumption)) (of_decide_eq_true (by first | (with_reducible assumption) | assumption)); have HP15 := Kd.R_putg HO551.out (a1 : Int) 0) | ((with_reducible refine gate_store (t := 3) (p := 18) rfl ?_); refine store_event (t := 3) (p := 18) (v := ?vo_w16) (w1 := (w14.setCell ⟨go7, (a1 : Int).toNat, none⟩ (.int .i64 0))) ?hg ?ho ?hn ?hr ?_; (case ho => rfl); (case hg => rfl); (case hn => rfl); (case hr => first | (go_simp; done) | (go_simp; rfl)); intro w16 hw; have hg : w14.grownBy w16 (some go7) := (by rw [hw]; exact HP15.2); have hp_ : Kd.R (Kd.int .i64) 3 w16 w.heap.size (fun k_ => some k_ ≠ (.slice Ao13 y545.length co13 : Value).ownBlock) (.slice (some ⟨go7, 0, none⟩) t549.length co7) y552 := (by rw [hw, Ny552.out]; exact HP15.1); clear HP15; have n0_ := aK (blk_grown (g := gb544) (o := .cells #[.int .i64 a0_0, .int .i64 a0_1, .int .i64 a0_2] 27 (0, 0)) (by (with_reducible repeat (first | refine blk_drewN ?_ _ | refine kD ?_ | refine kA ?_ _)); exact BK544.out) hg (Kd.R_ne HO551.out BK544.out (by decide))); have n1_ := aK (Kd.R_after (v := (.slice (some ⟨go7, 0, none⟩) t549.length co7)) (v1 := (.slice (some ⟨go7, 0, none⟩) t549.length co7)) (ok := (fun _ => True)) (by (with_reducible repeat (first | apply Kd.R_alloc | apply Kd.R_drewN | apply Kd.R_drew)); exact HO547.out) hg (.inl rfl)); have n2_ := aK (hp_); have n3_ := aK ((by rw [hw]; exact bSt (HB.out) GB7.out : Below w.heap.size w w16)); clear BK544; clear HO547; clear HO551; clear HB; have BK544 := n0_; have HO547 := n1_; have HO551 := n2_; have HB := n3_; clear n0_ n1_ n2_ n3_; clear hg hw hp_) | ((with_reducible refine gate_dst (N := 20) rfl ?_); refine Kd.R_lit (Kd.int .i64) _ 3 ?hg (N := 20) ?hd (xs := ([a1] : List Int)) (inner := [.int .i64 a1]) (ok := fun _ => True) (okp := fun _ => True) ?hr ?hp (fun _ hk => hk) trivial (Below.refl _ _) (Nat.le_refl _) (by simp) ?_; (case hd => rfl); (case hg => rfl); (case hr => first | (go_simp; done) | (go_simp; rfl)); (case hp => exact (Reps.one (show Kd.M (Kd.int .i64) _ _ _ a1 [.int .i64 a1] from rfl) (Reps.none _ _))); intro v554 w17 ho18 hb hg_ hnew_; clear hg_ hnew_; (first | rw [← Ny553.out] at ho18 | (simp only [Int.reduceToNat] at ho18; rw [← Ny553.out] at ho18)); have n0_ := aK (Kd.R_elder' (by (with_reducible repeat (first | apply Kd.R_alloc | apply Kd.R_drewN | apply Kd.R_drew)); exact HO547.out) (Kd.R_base ho18) hb); have n1_ := aK (Kd.R_elder' (by (with_reducible repeat (first | apply Kd.R_alloc | apply Kd.R_drewN | apply Kd.R_drew)); exact HO551.out) (Kd.R_base ho18) hb); have n2_ := aK (Kd.R_lower (Kd.R_new' (Kd.R_new' ho18 (Kd.R_lt (by (with_reducible repeat (first | apply Kd.R_alloc | apply Kd.R_drewN | apply Kd.R_drew)); exact HO547.out))) (Kd.R_lt (by (with_reducible repeat (first | apply Kd.R_alloc | apply Kd.R_drewN | apply Kd.R_drew)); exact HO551.out))) (bSz (by repeat (first | (with_reducible first | exact HB.out | apply bAl | apply bDN | apply bD1 | refine bSt ?_ GE544.out) | exact HB.out)))); have n3_ := bkb BK544 hb (by intro z_; (with_reducible repeat (first | refine blk_drewN ?_ _ | refine kD ?_ | refine kA ?_ _)); exact z_); have n4_ := aK (bSp (by repeat (first | (with_reducible first | exact HB.out | apply bAl | apply bDN | apply bD1 | refine bSt ?_ GE544.out) | exact HB.out)) hb); clear HO547; clear HO551; clear BK544; clear HB; have HO547 := n0_; have HO551 := n1_; have HO555 := n2_; have BK544 := n3_; have HB := n4_; clear n0_ n1_ n2_ n3_ n4_; clear hb ho18))
   go_loopg [6, 7] k (fun kq v6 v7 w' => ∃ (x5_1 : List Int) (x6_1 : List Int) (x7_1 : Int), v7 = .int .i64 x7_1 ∧ Aside0 (impl_distances.l0 kq x5_1 x6_1 x7_1 a0_0 a0_1 a0_2 = some r) ∧ Aside0 (kq ≤ k) ∧ Aside0 (Kd.R (Kd.int .i64) 3 w' w.heap.size (fun k_ => some k_ ≠ (v6 : Value).ownBlock) (.slice (some ⟨go7, 0, none⟩) t549.length co7) x5_1) ∧ Aside0 (Kd.R (Kd.int .i64) 3 w' w.heap.size (fun k_ => some k_ ≠ ((.slice (some ⟨go7, 0, none⟩) t549.length co7) : Value).ownBlock) v6 x6_1) ∧ Aside0 (w'.heap[gb544]? = some (.cells #[.int .i64 a0_0, .int .i64 a0_1, .int .i64 a0_2] 27 (0, 0))) ∧ Aside0 (Below w.heap.size w w'))
   case atStart => exact ⟨(y552), (y553), (0), (by first | rfl | (simp; done) | (simp [*]; done)), H', ⟨Nat.le_refl _⟩, ⟨by (with_reducible repeat (first | apply Kd.R_alloc | apply Kd.R_drewN | apply Kd.R_drew)); exact Kd.R_mono HO551.out (fun _ hk => hk.2)⟩, ⟨by (with_reducible repeat (first | apply Kd.R_alloc | apply Kd.R_drewN | apply Kd.R_drew)); exact Kd.R_mono HO555.out (fun _ hk => hk.2)⟩, ⟨by (with_reducible repeat (first | refine blk_drewN ?_ _ | refine kD ?_ | refine kA ?_ _)); exact BK544.out⟩, ⟨by repeat (first | (with_reducible first | exact HB.out | apply bAl | apply bDN | apply bD1 | refine bSt ?_ GE544.out) | exact HB.out)⟩⟩
   case round =>
    clear H'
    try clear c1
    try clear p2
    try clear c5
    try clear c5b0
    try clear c6
    try clear c6b0
    try clear p7
    try clear q7
    try clear hx7
    try clear hf7
    try clear c8
    try clear c15
    try clear hcz11_0
    try clear hcz11_1
    try clear hcz11_2
    try clear hfz11_0
    try clear hfz11_1
    try clear hfz11_2
    try clear hx7_0
    try clear p7
    try clear q7
    obtain ⟨x5_1, x6_1, x7_1, rfl, HA, HK1, HO_5, HO_6, BK544, HB⟩ := hrel
    have hl5_1 := (Kd.R_reads' HO_5.out).1
    rw [hl5_1] at HO_5
    (try simp only [hl5_1])
    (try simp only [hl5_1] at BK544)
    (try simp only [hl5_1] at HO_6)
    cases gk with
    | zero => exact absurd HA.out (by simp [impl_distances.l0])
    | succ k1 =>
     have H := HA.out
     clear HA
     simp only [impl_distances.l0] at H
     by_cases c19 : x7_1 < (x6_1.length : Int)
     ·rw [if_pos c19] at H
      have c19b0 : decide (x7_1 < (x6_1.length : Int)) = true := decide_eq_true c19
      clear c19
      by_cases c20 : 0 ≤ x7_1
      ·rw [if_pos c20] at H
       have c20b0 : decide (0 ≤ x7_1) = true := decide_eq_true c20
       clear c20
       replace H := Option.bind_eq_some_iff.mp H
       obtain ⟨t557, A210, H⟩ := H
       replace H : (impl_distances.l1 k1 x5_1 x6_1 x7_1 t557 (t557.length : Int) 0 a0_0 a0_1 a0_2) = some r := H
       have A21 := aK A210
       clear A210
       have H' := aK H
       clear H
       obtain ⟨Ao22, co22, eo22⟩ := Kd.R_slice HO_6.out
       subst eo22
       try go_wp2
       have n0_ := aK (Kd.R_drew HO_5.out)
       have n1_ := aK (Kd.R_drew HO_6.out)
       have n2_ := aK (kD BK544.out)
       have n3_ := aK (bD1 HB.out)
       clear HO_5
       clear HO_6
       clear BK544
       clear HB
       have HO_5 := n0_
       have HO_6 := n1_
       have BK544 := n2_
       have HB := n3_
       clear n0_ n1_ n2_ n3_
       have p556 : 0 ≤ (x7_1 : Int) := of_decide_eq_true (by first | (with_reducible assumption) | assumption)
       have q556 : x7_1 < (x6_1.length : Int) := of_decide_eq_true (by first | (with_reducible assumption) | assumption)
       obtain ⟨ad556, e556, hx556_0⟩ := Kd.at_int (Kd.R_reads' HO_6.out).2.2 x7_1 p556 q556
       cases e556
       replace p556 := eq_true p556
       replace q556 := eq_true q556
       refine start_ (n := 8) (S := fun w' => w'.cell? ⟨gb544, 0, none⟩ = some (.int .i64 a0_0) ∧ w'.cell? ⟨gb544, 1, none⟩ = some (.int .i64 a0_1) ∧ w'.cell? ⟨gb544, 2, none⟩ = some (.int .i64 a0_2) ∧ w'.cell? (ad556.add (x7_1).toNat) = some (.int .i64 (rd x6_1 x7_1))) (ds := []) #[bN,bN,bN,bN,bN,bN,bN,bN] (by kernel_rfl) rfl rfl ⟨(kC BK544.out 0).trans rfl, (kC BK544.out 1).trans rfl, (kC BK544.out 2).trans rfl, hx556_0⟩ (fun hHeld => ?_); refine with_tabW impl_distances.tab7 impl_distances.bits7 (fun HT_ HW_ => ?_)
       generalize wr.drew = w23 at HO_5 HO_6 BK544 HB hx556_0 hHeld ⊢
       refine pure_ (i := 1) (N := some 28) (v := ?_) (a' := ?_) #[bN,bY,bN,bN,bN,bN,bN,bN] rfl rfl (any_of HT_.out (by kernel_rfl)) (fun _ _ _ h => h) (Or.inl ⟨by rfl, ?_⟩) ?_ ?_
       rotate_left
       ·intro w'
        go_simp
        with_reducible rfl
       rotate_left
       ·simp only [Act.put, sTA, sZ, sS, i64_w, i32_w]
        rfl
       refine pure_ (i := 2) (N := some 29) (v := ?_) (a' := ?_) #[bN,bY,bY,bN,bN,bN,bN,bN] rfl rfl (any_of HT_.out (by kernel_rfl)) (fun _ _ _ h => h) (Or.inl ⟨by rfl, ?_⟩) ?_ ?_
       rotate_left
       ·intro w'
        go_simp
        with_reducible rfl
       rotate_left
       ·simp only [Act.put, sTA, sZ, sS, i64_w, i32_w]
        rfl
       refine pure_ (i := 3) (N := some 30) (v := ?_) (a' := ?_) #[bN,bY,bY,bY,bN,bN,bN,bN] rfl rfl (any_of HT_.out (by kernel_rfl)) (fun _ _ _ h => h) (Or.inl ⟨by rfl, ?_⟩) ?_ ?_
       rotate_left
       ·intro w'
        go_simp
        with_reducible rfl
       rotate_left
       ·simp only [Act.put, sTA, sZ, sS, i64_w, i32_w]
        rfl
       refine pure_ (i := 7) (N := some 34) (v := ?_) (a' := ?_) #[bN,bY,bY,bY,bN,bN,bN,bY] rfl rfl (any_of HT_.out (by kernel_rfl)) (fun _ _ _ h => h) (Or.inl ⟨by rfl, ?_⟩) ?_ ?_
       rotate_left
       ·intro w'
        go_simp
        with_reducible rfl
       rotate_left
       ·simp only [Act.put, sTA, sZ, sS, i64_w, i32_w]
        rfl
       refine take_ (i := 0) (N := some 27) (v := ?_) (a' := ?_) #[bY,bY,bY,bY,bN,bN,bN,bY] rfl rfl (take_ofW HT_.out HW_.out (by kernel_rfl)) (fun _ _ _ h => h) (Or.inl ⟨by rfl, ?_⟩) hHeld ?_ ?_
       rotate_left
       ·rintro w' ⟨s0, s1, s2, s3⟩
        go_simp
        with_reducible rfl
       rotate_left
       ·simp only [Act.put, sTA, sZ, sS, i64_w, i32_w]
        rfl
       refine take_ (i := 4) (N := some 31) (v := ?_) (a' := ?_) #[bY,bY,bY,bY,bY,bN,bN,bY] rfl rfl (take_ofW HT_.out HW_.out (by kernel_rfl)) (fun _ _ _ h => h) (Or.inl ⟨by rfl, ?_⟩) hHeld ?_ ?_
       rotate_left
       ·rintro w' ⟨s0, s1, s2, s3⟩
        go_simp
        with_reducible rfl
       rotate_left
       ·simp only [Act.put, sTA, sZ, sS, i64_w, i32_w]
        rfl
       refine one_ (i := 5) (N := some 32) #[bY,bY,bY,bY,bY,bY,bN,bY] rfl rfl (one_of HT_.out (by kernel_rfl)) (by decide) (fun K hK => ?_)
       refine goes_ Try.func137 (by kernel_rfl) rfl #[.agg #[.int .i64 a0_0, .int .i64 a0_1, .int .i64 a0_2], .int .i64 (rd x6_1 x7_1)] (by rfl) rfl rfl (by (try simp only [List.map_toArray, List.map_cons, List.map_nil]); first | done | rfl | (simp only [List.length_drop, List.length_take]; rfl)) ?_
       with_reducible refine (impl_WaysFrom.calls k1 a0_0 a0_1 a0_2 (rd x6_1 x7_1) t557 _ A21.out).mono ?_
       rintro e w24 ⟨v558, rfl, ho0, hb⟩
       have HS3_ := (hb.cell (World.block_lt_of_cell? _ _ (hHeld.2.2.2))).trans (hHeld.2.2.2)
       refine ⟨_, rfl, ?_⟩
       have n0_ := aK (Kd.R_elder' (by (with_reducible repeat (first | apply Kd.R_alloc | apply Kd.R_drewN | apply Kd.R_drew)); exact HO_5.out) (Kd.R_base ho0) hb)
       have n1_ := aK (Kd.R_elder' (by (with_reducible repeat (first | apply Kd.R_alloc | apply Kd.R_drewN | apply Kd.R_drew)); exact HO_6.out) (Kd.R_base ho0) hb)
       have n2_ := aK (Kd.R_lower (Kd.R_new' (Kd.R_new' ho0 (Kd.R_lt (by (with_reducible repeat (first | apply Kd.R_alloc | apply Kd.R_drewN | apply Kd.R_drew)); exact HO_5.out))) (Kd.R_lt (by (with_reducible repeat (first | apply Kd.R_alloc | apply Kd.R_drewN | apply Kd.R_drew)); exact HO_6.out))) (bSz (by repeat (first | (with_reducible first | exact HB.out | apply bAl | apply bDN | apply bD1 | refine bSt ?_ GE544.out) | exact HB.out))))
       have n3_ := bkb BK544 hb (by intro z_; (with_reducible repeat (first | refine blk_drewN ?_ _ | refine kD ?_ | refine kA ?_ _)); exact z_)
       have n4_ := aK (bSp (by repeat (first | (with_reducible first | exact HB.out | apply bAl | apply bDN | apply bD1 | refine bSt ?_ GE544.out) | exact HB.out)) hb)
       clear HO_5
       clear HO_6
       clear BK544
       clear HB
       have HO_5 := n0_
       have HO_6 := n1_
       have HO559 := n2_
       have BK544 := n3_
       have HB := n4_
       clear n0_ n1_ n2_ n3_ n4_
       (try clear hb)
       (try clear hb2)
       (try clear hk)
       (try clear hi)
       (try clear ho0)
       obtain ⟨Ao25, co25, eo25⟩ := Kd.R_slice HO559.out
       (first | subst eo25 | (injection eo25 with f1_ f2_ f3_; have f4_ := f1_.symm; have f5_ := f3_.symm; clear f1_ f2_ f3_; subst f4_; subst f5_))
       refine hK.out _ _ ⟨(kC BK544.out 0).trans rfl, (kC BK544.out 1).trans rfl, (kC BK544.out 2).trans rfl, HS3_⟩ (fun hHeld => ?_)
       clear hK K
       refine norm_ (a' := ?_) ?_ ?_
       rotate_left
       ·show Act.put _ (some 32) _ = _
        simp only [Act.put, sTA, sZ, sS, i64_w, i32_w]
        rfl
       refine pure_ (i := 6) (N := some 33) (v := ?_) (a' := ?_) #[bY,bY,bY,bY,bY,bY,bY,bY] rfl rfl (any_of HT_.out (by kernel_rfl)) (fun _ _ _ h => h) (Or.inl ⟨by rfl, ?_⟩) ?_ ?_
       rotate_left
       ·intro w'
        go_simp
        with_reducible rfl
       rotate_left
       ·simp only [Act.put, sTA, sZ, sS, i64_w, i32_w]
        rfl
       refine done_ (done_of HT_.out (by kernel_rfl)) ?_
       try go_wp2
       go_loopg [6, 34] k1 (fun kq v6 v34 w' => ∃ (x5_2 : List Int) (x6_2 : List Int) (x34_2 : Int), v34 = .int .i64 x34_2 ∧ Aside0 (impl_distances.l1 kq x5_2 x6_2 x7_1 t557 (t557.length : Int) x34_2 a0_0 a0_1 a0_2 = some r) ∧ Aside0 (kq ≤ k1) ∧ Aside0 (Kd.R (Kd.int .i64) 3 w' w.heap.size (fun k_ => some k_ ≠ (v6 : Value).ownBlock ∧ some k_ ≠ ((.slice Ao25 t557.length co25) : Value).ownBlock) (.slice (some ⟨go7, 0, none⟩) x5_1.length co7) x5_2) ∧ Aside0 (Kd.R (Kd.int .i64) 3 w' w.heap.size (fun k_ => some k_ ≠ ((.slice (some ⟨go7, 0, none⟩) x5_1.length co7) : Value).ownBlock ∧ some k_ ≠ ((.slice Ao25 t557.length co25) : Value).ownBlock) v6 x6_2) ∧ Aside0 (Kd.R (Kd.int .i64) 3 w' w.heap.size (fun k_ => some k_ ≠ ((.slice (some ⟨go7, 0, none⟩) x5_1.length co7) : Value).ownBlock ∧ some k_ ≠ (v6 : Value).ownBlock) (.slice Ao25 t557.length co25) t557) ∧ Aside0 (w'.heap[gb544]? = some (.cells #[.int .i64 a0_0, .int .i64 a0_1, .int .i64 a0_2] 27 (0, 0))) ∧ Aside0 (Below w.heap.size w w'))
       case atStart => exact ⟨(x5_1), (x6_1), (0), (by first | rfl | (simp; done) | (simp [*]; done)), H', ⟨Nat.le_refl _⟩, ⟨by (try simp only [hl5_1]); (with_reducible repeat (first | apply Kd.R_alloc | apply Kd.R_drewN | apply Kd.R_drew)); exact HO_5.out⟩, ⟨by (try simp only [hl5_1]); (with_reducible repeat (first | apply Kd.R_alloc | apply Kd.R_drewN | apply Kd.R_drew)); exact HO_6.out⟩, ⟨by (try simp only [hl5_1]); (with_reducible repeat (first | apply Kd.R_alloc | apply Kd.R_drewN | apply Kd.R_drew)); exact Kd.R_mono HO559.out (fun _ hk => ⟨hk.1.2, hk.2⟩)⟩, ⟨by (try simp only [hl5_1]); (with_reducible repeat (first | refine blk_drewN ?_ _ | refine kD ?_ | refine kA ?_ _)); exact BK544.out⟩, ⟨by repeat (first | (with_reducible first | exact HB.out | apply bAl | apply bDN | apply bD1 | refine bSt ?_ GE544.out) | exact HB.out)⟩⟩
       case round =>
        clear H'
        try clear c1
        try clear c2
        try clear p2
        try clear c5
        try clear c5b0
        try clear p5
        try clear q5
        try clear hx5
        try clear c6
        try clear c6b0
        try clear p7
        try clear q7
        try clear hx7
        try clear hf7
        try clear c8
        try clear c13
        try clear c15
        try clear c19
        try clear c19b0
        try clear c20
        try clear c20b0
        try clear hcz11_0
        try clear hcz11_1
        try clear hcz11_2
        try clear hfz11_0
        try clear hfz11_1
        try clear hfz11_2
        try clear hx556_0
        try clear hx7_0
        try clear p2
        try clear p556
        try clear p7
        try clear q556
        try clear q7
        obtain ⟨x5_2, x6_2, x34_2, rfl, HA, HK2, HO_5, HO_6, HO_32, BK544, HB⟩ := hrel
        have hl5_2 := (Kd.R_reads' HO_5.out).1
        rw [hl5_2] at HO_5
        (try simp only [hl5_2])
        (try simp only [hl5_2] at BK544)
        (try simp only [hl5_2] at HO_6)
        (try simp only [hl5_2] at HO_32)
        cases gk with
        | zero => exact absurd HA.out (by simp [impl_distances.l1])
        | succ k2 =>
         have H := HA.out
         clear HA
         simp only [impl_distances.l1] at H
         by_cases c26 : x34_2 < (t557.length : Int)
         ·rw [if_pos c26] at H
          have c26b0 : decide (x34_2 < (t557.length : Int)) = true := decide_eq_true c26
          clear c26
          by_cases c27 : 0 ≤ x34_2
          ·rw [if_pos c27] at H
           have c27b0 : decide (0 ≤ x34_2) = true := decide_eq_true c27
           clear c27
           by_cases c28 : x34_2 < (t557.length : Int)
           ·rw [if_pos c28] at H
            have c28b0 : decide (x34_2 < (t557.length : Int)) = true := decide_eq_true c28
            clear c28
            by_cases c29 : 0 ≤ x7_1
            ·rw [if_pos c29] at H
             have c29b0 : decide (0 ≤ x7_1) = true := decide_eq_true c29
             clear c29
             by_cases c30 : x7_1 < (x6_2.length : Int)
             ·rw [if_pos c30] at H
              have c30b0 : decide (x7_1 < (x6_2.length : Int)) = true := decide_eq_true c30
              clear c30
              replace H := Option.bind_eq_some_iff.mp H
              obtain ⟨t562, A310, H⟩ := H
              replace H : (if 0 ≤ t562 then (if t562 < (x5_2.length : Int) then (if (rd x5_2 t562) < 0 then (if 0 ≤ (rd x6_2 x7_1) then (if (rd x6_2 x7_1) < (x5_2.length : Int) then (if x6_2.length < 17592186044416 then (impl_distances.l1 k2 (x5_2.set (t562 : Int).toNat (wrap64 ((rd x5_2 (rd x6_2 x7_1)) + 1))) (x6_2 ++ [t562]) x7_1 t557 (t557.length : Int) (wrap64 (x34_2 + 1)) a0_0 a0_1 a0_2) else (none)) else (none)) else (none)) else (impl_distances.l1 k2 x5_2 x6_2 x7_1 t557 (t557.length : Int) (wrap64 (x34_2 + 1)) a0_0 a0_1 a0_2)) else (none)) else (none)) = some r := H
              have A31 := aK A310
              clear A310
              by_cases c32 : 0 ≤ t562
              ·rw [if_pos c32] at H
               have c32b0 : decide (0 ≤ t562) = true := decide_eq_true c32
               clear c32
               by_cases c33 : t562 < (x5_2.length : Int)
               ·rw [if_pos c33] at H
                have c33b0 : decide (t562 < (x5_2.length : Int)) = true := decide_eq_true c33
                clear c33
                by_cases c34 : (rd x5_2 t562) < 0
                ·rw [if_pos c34] at H
                 have c34b0 : decide ((rd x5_2 t562) < 0) = true := decide_eq_true c34
                 clear c34
                 by_cases c35 : 0 ≤ (rd x6_2 x7_1)
                 ·rw [if_pos c35] at H
                  have c35b0 : decide (0 ≤ (rd x6_2 x7_1)) = true := decide_eq_true c35
                  clear c35
                  by_cases c36 : (rd x6_2 x7_1) < (x5_2.length : Int)
                  ·rw [if_pos c36] at H
                   have c36b0 : decide ((rd x6_2 x7_1) < (x5_2.length : Int)) = true := decide_eq_true c36
                   clear c36
                   obtain ⟨y566, hy566⟩ : ∃ y_ : List Int, y_ = (x5_2.set (t562 : Int).toNat (wrap64 ((rd x5_2 (rd x6_2 x7_1)) + 1))) := ⟨_, rfl⟩
                   replace H : (if x6_2.length < 17592186044416 then (impl_distances.l1 k2 y566 (x6_2 ++ [t562]) x7_1 t557 (t557.length : Int) (wrap64 (x34_2 + 1)) a0_0 a0_1 a0_2) else (none)) = some r := by first | (rw [hy566]; with_reducible exact H) | (have H2_ := (Option.bind_some _ _).symm.trans H; rw [hy566]; with_reducible exact H2_) | (have H2_ := (Option.bind_some _ _).symm.trans H; with_reducible exact H2_) | with_reducible exact H | (rw [hy566]; exact H) | exact H
                   have Ny566 := aK hy566
                   clear hy566
                   by_cases c38 : x6_2.length < 17592186044416
                   ·rw [if_pos c38] at H
                    have LMc38 := aK c38
                    clear c38
                    obtain ⟨y567, hy567⟩ : ∃ y_ : List Int, y_ = (x6_2 ++ [t562]) := ⟨_, rfl⟩
                    replace H : (impl_distances.l1 k2 y566 y567 x7_1 t557 (t557.length : Int) (wrap64 (x34_2 + 1)) a0_0 a0_1 a0_2) = some r := by first | (rw [hy567]; with_reducible exact H) | (have H2_ := (Option.bind_some _ _).symm.trans H; rw [hy567]; with_reducible exact H2_) | (have H2_ := (Option.bind_some _ _).symm.trans H; with_reducible exact H2_) | with_reducible exact H | (rw [hy567]; exact H) | exact H
                    have Ny567 := aK hy567
                    clear hy567
                    have H' := aK H
                    clear H
                    have p560 : 0 ≤ (x34_2 : Int) := of_decide_eq_true (by first | (with_reducible assumption) | assumption)
                    have q560 : x34_2 < (t557.length : Int) := of_decide_eq_true (by first | (with_reducible assumption) | assumption)
                    obtain ⟨ad560, e560, hx560_0⟩ := Kd.at_int (Kd.R_reads' HO_32.out).2.2 x34_2 p560 q560
                    cases e560
                    replace p560 := eq_true p560
                    replace q560 := eq_true q560
                    try go_wp2
                    have n0_ := aK (Kd.R_drew HO_5.out)
                    have n1_ := aK (Kd.R_drew HO_6.out)
                    have n2_ := aK (Kd.R_drew HO_32.out)
                    have n3_ := aK (kD BK544.out)
                    have n4_ := aK (bD1 HB.out)
                    clear HO_5
                    clear HO_6
                    clear HO_32
                    clear BK544
                    clear HB
                    have HO_5 := n0_
                    have HO_6 := n1_
                    have HO_32 := n2_
                    have BK544 := n3_
                    have HB := n4_
                    clear n0_ n1_ n2_ n3_ n4_
                    obtain ⟨Ao40, co40, eo40⟩ := Kd.R_slice HO_6.out
                    (first | subst eo40 | (injection eo40 with f1_ f2_ f3_; have f4_ := f1_.symm; have f5_ := f3_.symm; clear f1_ f2_ f3_; subst f4_; subst f5_))
                    have p561 : 0 ≤ (x7_1 : Int) := of_decide_eq_true (by first | (with_reducible assumption) | assumption)
                    have q561 : x7_1 < (x6_2.length : Int) := of_decide_eq_true (by first | (with_reducible assumption) | assumption)
                    obtain ⟨ad561, e561, hx561_0⟩ := Kd.at_int (Kd.R_reads' HO_6.out).2.2 x7_1 p561 q561
                    cases e561
                    replace p561 := eq_true p561
                    replace q561 := eq_true q561
                    refine start_ (n := 8) (S := fun w' => w'.cell? ⟨gb544, 0, none⟩ = some (.int .i64 a0_0) ∧ w'.cell? ⟨gb544, 1, none⟩ = some (.int .i64 a0_1) ∧ w'.cell? ⟨gb544, 2, none⟩ = some (.int .i64 a0_2) ∧ w'.cell? (ad561.add (x7_1).toNat) = some (.int .i64 (rd x6_2 x7_1))) (ds := []) #[bN,bN,bN,bN,bN,bN,bN,bN] (by kernel_rfl) rfl rfl ⟨(kC BK544.out 0).trans rfl, (kC BK544.out 1).trans rfl, (kC BK544.out 2).trans rfl, hx561_0⟩ (fun hHeld => ?_); refine with_tabW impl_distances.tab10 impl_distances.bits10 (fun HT_ HW_ => ?_)
                    generalize wr.drew = w39 at HO_5 HO_6 HO_32 BK544 HB hx561_0 hHeld ⊢
                    refine pure_ (i := 1) (N := some 39) (v := ?_) (a' := ?_) #[bN,bY,bN,bN,bN,bN,bN,bN] rfl rfl (any_of HT_.out (by kernel_rfl)) (fun _ _ _ h => h) (Or.inl ⟨by rfl, ?_⟩) ?_ ?_
                    rotate_left
                    ·intro w'
                     go_simp
                     with_reducible rfl
                    rotate_left
                    ·simp only [Act.put, sTA, sZ, sS, i64_w, i32_w]
                     rfl
                    refine pure_ (i := 2) (N := some 40) (v := ?_) (a' := ?_) #[bN,bY,bY,bN,bN,bN,bN,bN] rfl rfl (any_of HT_.out (by kernel_rfl)) (fun _ _ _ h => h) (Or.inl ⟨by rfl, ?_⟩) ?_ ?_
                    rotate_left
                    ·intro w'
                     go_simp
                     with_reducible rfl
                    rotate_left
                    ·simp only [Act.put, sTA, sZ, sS, i64_w, i32_w]
                     rfl
                    refine pure_ (i := 3) (N := some 41) (v := ?_) (a' := ?_) #[bN,bY,bY,bY,bN,bN,bN,bN] rfl rfl (any_of HT_.out (by kernel_rfl)) (fun _ _ _ h => h) (Or.inl ⟨by rfl, ?_⟩) ?_ ?_
                    rotate_left
                    ·intro w'
                     go_simp
                     with_reducible rfl
                    rotate_left
                    ·simp only [Act.put, sTA, sZ, sS, i64_w, i32_w]
                     rfl
                    refine pure_ (i := 5) (N := some 43) (v := ?_) (a' := ?_) #[bN,bY,bY,bY,bN,bY,bN,bN] rfl rfl (any_of HT_.out (by kernel_rfl)) (fun _ _ _ h => h) (Or.inl ⟨by rfl, ?_⟩) ?_ ?_
                    rotate_left
                    ·intro w'
                     go_simp
                     with_reducible rfl
                    rotate_left
                    ·simp only [Act.put, sTA, sZ, sS, i64_w, i32_w]
                     rfl
                    refine take_ (i := 0) (N := some 38) (v := ?_) (a' := ?_) #[bY,bY,bY,bY,bN,bY,bN,bN] rfl rfl (take_ofW HT_.out HW_.out (by kernel_rfl)) (fun _ _ _ h => h) (Or.inl ⟨by rfl, ?_⟩) hHeld ?_ ?_
                    rotate_left
                    ·rintro w' ⟨s0, s1, s2, s3⟩
                     go_simp
                     with_reducible rfl
                    rotate_left
                    ·simp only [Act.put, sTA, sZ, sS, i64_w, i32_w]
                     rfl
                    refine take_ (i := 4) (N := some 42) (v := ?_) (a' := ?_) #[bY,bY,bY,bY,bY,bY,bN,bN] rfl rfl (take_ofW HT_.out HW_.out (by kernel_rfl)) (fun _ _ _ h => h) (Or.inl ⟨by rfl, ?_⟩) hHeld ?_ ?_
                    rotate_left
                    ·rintro w' ⟨s0, s1, s2, s3⟩
                     go_simp
                     with_reducible rfl
                    rotate_left
                    ·simp only [Act.put, sTA, sZ, sS, i64_w, i32_w]
                     rfl
                    refine one_ (i := 6) (N := some 44) #[bY,bY,bY,bY,bY,bY,bY,bN] rfl rfl (one_of HT_.out (by kernel_rfl)) (by decide) (fun K hK => ?_)
                    refine goes_ Try.func79 (by kernel_rfl) rfl #[.agg #[.int .i64 a0_0, .int .i64 a0_1, .int .i64 a0_2], .int .i64 (rd x6_2 x7_1), .int .i64 (rd t557 x34_2)] (by rfl) rfl rfl (by (try simp only [List.map_toArray, List.map_cons, List.map_nil]); first | done | rfl | (simp only [List.length_drop, List.length_take]; rfl)) ?_
                    with_reducible refine (impl_Step.calls k2 a0_0 a0_1 a0_2 (rd x6_2 x7_1) (rd t557 x34_2) t562 _ A31.out).mono ?_
                    rintro e w41 ⟨rfl, hb⟩
                    have HS3_ := (hb.cell (World.block_lt_of_cell? _ _ (hHeld.2.2.2))).trans (hHeld.2.2.2)
                    refine ⟨_, rfl, ?_⟩
                    have n0_ := aK (Kd.R_below (by (with_reducible repeat (first | apply Kd.R_alloc | apply Kd.R_drewN | apply Kd.R_drew)); exact HO_5.out) hb)
                    have n1_ := aK (Kd.R_below (by (with_reducible repeat (first | apply Kd.R_alloc | apply Kd.R_drewN | apply Kd.R_drew)); exact HO_6.out) hb)
                    have n2_ := aK (Kd.R_below (by (with_reducible repeat (first | apply Kd.R_alloc | apply Kd.R_drewN | apply Kd.R_drew)); exact HO_32.out) hb)
                    have n3_ := bkb BK544 hb (by intro z_; (with_reducible repeat (first | refine blk_drewN ?_ _ | refine kD ?_ | refine kA ?_ _)); exact z_)
                    have n4_ := aK (bSp (by repeat (first | (with_reducible first | exact HB.out | apply bAl | apply bDN | apply bD1 | refine bSt ?_ GE544.out) | exact HB.out)) hb)
                    clear HO_5
                    clear HO_6
                    clear HO_32
                    clear BK544
                    clear HB
                    have HO_5 := n0_
                    have HO_6 := n1_
                    have HO_32 := n2_
                    have BK544 := n3_
                    have HB := n4_
                    clear n0_ n1_ n2_ n3_ n4_
                    (try clear hb)
                    (try clear hb2)
                    (try clear hk)
                    (try clear hi)
                    refine hK.out _ _ ⟨(kC BK544.out 0).trans rfl, (kC BK544.out 1).trans rfl, (kC BK544.out 2).trans rfl, HS3_⟩ (fun hHeld => ?_)
                    clear hK K
                    refine norm_ (a' := ?_) ?_ ?_
                    rotate_left
                    ·show Act.put _ (some 44) _ = _
                     simp only [Act.put, sTA, sZ, sS, i64_w, i32_w]
                     rfl
                    refine pure_ (i := 7) (N := some 10) (v := ?_) (a' := ?_) #[bY,bY,bY,bY,bY,bY,bY,bY] rfl rfl (any_of HT_.out (by kernel_rfl)) (fun _ _ _ h => h) (Or.inl ⟨by rfl, ?_⟩) ?_ ?_
                    rotate_left
                    ·intro w'
                     go_simp
                     with_reducible rfl
                    rotate_left
                    ·simp only [Act.put, sTA, sZ, sS, i64_w, i32_w]
                     rfl
                    refine done_ (done_of HT_.out (by kernel_rfl)) ?_
                    have p563 : 0 ≤ (t562 : Int) := of_decide_eq_true (by first | (with_reducible assumption) | assumption)
                    have q563 : t562 < (x5_2.length : Int) := of_decide_eq_true (by first | (with_reducible assumption) | assumption)
                    obtain ⟨ad563, e563, hx563_0⟩ := Kd.at_int (Kd.R_reads' HO_5.out).2.2 t562 p563 q563
                    obtain rfl : (⟨go7, 0, none⟩ : Addr) = ad563 := (by injection e563)
                    (first | simp only [add_plain] at hx563_0 | simp only [add_at] at hx563_0 | simp only [Addr.add, Nat.zero_add] at hx563_0 | skip)
                    replace p563 := eq_true p563
                    replace q563 := eq_true q563
                    have p564 : 0 ≤ (x7_1 : Int) := of_decide_eq_true (by first | (with_reducible assumption) | assumption)
                    have q564 : x7_1 < (x6_2.length : Int) := of_decide_eq_true (by first | (with_reducible assumption) | assumption)
                    obtain ⟨ad564, e564, hx564_0⟩ := Kd.at_int (Kd.R_reads' HO_6.out).2.2 x7_1 p564 q564
                    obtain rfl : ad561 = ad564 := (by injection e564)
                    replace p564 := eq_true p564
                    replace q564 := eq_true q564
                    have p565 : 0 ≤ ((rd x6_2 x7_1) : Int) := of_decide_eq_true (by first | (with_reducible assumption) | assumption)
                    have q565 : (rd x6_2 x7_1) < (x5_2.length : Int) := of_decide_eq_true (by first | (with_reducible assumption) | assumption)
                    obtain ⟨ad565, e565, hx565_0⟩ := Kd.at_int (Kd.R_reads' HO_5.out).2.2 (rd x6_2 x7_1) p565 q565
                    obtain rfl : (⟨go7, 0, none⟩ : Addr) = ad565 := (by injection e565)
                    (first | simp only [add_plain] at hx565_0 | simp only [add_at] at hx565_0 | simp only [Addr.add, Nat.zero_add] at hx565_0 | skip)
                    replace p565 := eq_true p565
                    replace q565 := eq_true q565
                    have p37 : 0 ≤ (t562 : Int) := of_decide_eq_true (by first | (with_reducible assumption) | assumption)
                    have q37 : (t562 : Int) < ((x5_2.length : Int) : Int) := of_decide_eq_true (by first | (with_reducible assumption) | assumption)
                    obtain ⟨hx37_0, hf37_0⟩ := Kd.R_celln 0 HO_5.out (t562 : Int) p37 q37
                    replace p37 := eq_true p37
                    replace q37 := eq_true q37
                    obtain ⟨hy42_, hz42_⟩ := Kd.R_celln 0 HO_5.out (t562 : Int) (of_decide_eq_true (by first | (with_reducible assumption) | assumption)) (of_decide_eq_true (by first | (with_reducible assumption) | assumption))
                    have HP42 := Kd.R_putg HO_5.out (t562 : Int) (wrap64 ((rd x5_2 (rd x6_2 x7_1)) + 1))
                    try go_wp2_with (first | ((with_reducible refine gate_store (t := 3) (p := 60) rfl ?_); refine store_event (t := 3) (p := 60) (v := ?vo_w43) (w1 := (w41.setCell ⟨go7, (t562 : Int).toNat, none⟩ (.int .i64 (wrap64 ((rd x5_2 (rd x6_2 x7_1)) + 1))))) ?hg ?ho ?hn ?hr ?_; (case ho => rfl); (case hg => rfl); (case hn => rfl); (case hr => first | (go_simp; done) | (go_simp; rfl)); intro w43 hw; have hg : w41.grownBy w43 (some go7) := (by rw [hw]; exact HP42.2); have hp_ : Kd.R (Kd.int .i64) 3 w43 w.heap.size (fun k_ => some k_ ≠ (.slice (some ad561) x6_2.length co40 : Value).ownBlock ∧ some k_ ≠ (.slice (some ad560) t557.length co25 : Value).ownBlock) (.slice (some ⟨go7, 0, none⟩) x5_2.length co7) y566 := (by rw [hw, Ny566.out]; exact HP42.1); clear HP42; have n0_ := aK (hp_); have n1_ := aK (Kd.R_after (v := (.slice (some ⟨go7, 0, none⟩) x5_2.length co7)) (v1 := (.slice (some ⟨go7, 0, none⟩) x5_2.length co7)) (ok := (fun k_ => some k_ ≠ (.slice (some ad560) t557.length co25 : Value).ownBlock)) (by (with_reducible repeat (first | apply Kd.R_alloc | apply Kd.R_drewN | apply Kd.R_drew)); exact Kd.R_mono HO_6.out (fun _ hk => ⟨hk.2, hk.1⟩)) hg (.inl rfl)); have n2_ := aK (Kd.R_after (v := (.slice (some ⟨go7, 0, none⟩) x5_2.length co7)) (v1 := (.slice (some ⟨go7, 0, none⟩) x5_2.length co7)) (ok := (fun k_ => some k_ ≠ (.slice (some ad561) x6_2.length co40 : Value).ownBlock)) (by (with_reducible repeat (first | apply Kd.R_alloc | apply Kd.R_drewN | apply Kd.R_drew)); exact Kd.R_mono HO_32.out (fun _ hk => ⟨hk.2, hk.1⟩)) hg (.inl rfl)); have n3_ := aK (blk_grown (g := gb544) (o := .cells #[.int .i64 a0_0, .int .i64 a0_1, .int .i64 a0_2] 27 (0, 0)) (by (with_reducible repeat (first | refine blk_drewN ?_ _ | refine kD ?_ | refine kA ?_ _)); exact BK544.out) hg (Kd.R_ne HO_5.out BK544.out (by decide))); have n4_ := aK ((by rw [hw]; exact bSt (HB.out) GB7.out : Below w.heap.size w w43)); clear HO_5; clear HO_6; clear HO_32; clear BK544; clear HB; have HO_5 := n0_; have HO_6 := n1_; have HO_32 := n2_; have BK544 := n3_; have HB := n4_; clear n0_ n1_ n2_ n3_ n4_; clear hg hw hp_) | ((with_reducible refine gate_builtin (b := .append) (xs := #[.tmp 61, .tmp 63]) rfl ?_); at_builtin; refine Kd.R_append (Kd.int .i64) (w0 := w) w.heap.size rfl (.tmp 61) (.tmp 63) 39 3 (.int .i64 0) 8 rfl Try.underlying39 info3 rfl (by decide) (by omega) (.slice (some ad561) x6_2.length co40) x6_2 t562 [.int .i64 t562] (fun k_ => some k_ ≠ (.slice (some ⟨go7, 0, none⟩) x5_2.length co7 : Value).ownBlock ∧ some k_ ≠ (.slice (some ad560) t557.length co25 : Value).ownBlock) (fun _ => False) rfl rfl ?aP (fun _ hk => hk.elim) ?aF ?aO ?aB ?aS ?aL ?_; (case aP => exact rfl); (case aB => exact (by repeat (first | (with_reducible first | exact HB.out | apply bAl | apply bDN | apply bD1 | refine bSt ?_ GE544.out) | exact HB.out))); (case aF => exact (fun k_ hk => ⟨Kd.fresh' (Kd.R_lt (by (with_reducible repeat (first | apply Kd.R_alloc | apply Kd.R_drewN | apply Kd.R_drew)); exact HO_5.out)) k_ hk, Kd.fresh' (Kd.R_lt (by (with_reducible repeat (first | apply Kd.R_alloc | apply Kd.R_drewN | apply Kd.R_drew)); exact HO_32.out)) k_ hk⟩)); (case aO => exact (by (with_reducible repeat (first | apply Kd.R_alloc | apply Kd.R_drewN | apply Kd.R_drew)); exact Kd.R_mono HO_6.out (fun _ hk => ⟨hk.2, hk.1⟩))); (case aS => exact (bSz (by repeat (first | (with_reducible first | exact HB.out | apply bAl | apply bDN | apply bD1 | refine bSt ?_ GE544.out) | exact HB.out)))); (case aL => have := LMc38.out; omega); intro v568 w44 ho hb hg hat; rw [← Ny567.out] at ho; have n0_ := aK (Kd.R_after (ok := (fun k_ => some k_ ≠ (.slice (some ad560) t557.length co25 : Value).ownBlock)) (by (with_reducible repeat (first | apply Kd.R_alloc | apply Kd.R_drewN | apply Kd.R_drew)); exact Kd.R_mono HO_5.out (fun _ hk => ⟨hk.2, hk.1⟩)) hg hat); have n1_ := aK (Kd.R_after (ok := (fun k_ => some k_ ≠ (.slice (some ⟨go7, 0, none⟩) x5_2.length co7 : Value).ownBlock)) (by (with_reducible repeat (first | apply Kd.R_alloc | apply Kd.R_drewN | apply Kd.R_drew)); exact Kd.R_mono HO_32.out (fun _ hk => ⟨hk.2, hk.1⟩)) hg hat); have n2_ := aK (blk_grown (g := gb544) (o := .cells #[.int .i64 a0_0, .int .i64 a0_1, .int .i64 a0_2] 27 (0, 0)) (by (with_reducible repeat (first | refine blk_drewN ?_ _ | refine kD ?_ | refine kA ?_ _)); exact BK544.out) hg (Kd.R_ne HO_6.out BK544.out (by decide))); have n3_ := aK (hb); have n4_ := aK (ho); clear HO_5; clear HO_32; clear BK544; clear HB; clear HO_6; have HO_5 := n0_; have HO_32 := n1_; have BK544 := n2_; have HB := n3_; have HO569 := n4_; clear n0_ n1_ n2_ n3_ n4_; clear ho hb hg hat))
                    (try simp only [← hl5_2])
                    go_roundg k2
                    case measure => have := HK1.out; have := HK2.out; omega
                    case rel => exact ⟨(y566), (y567), (wrap64 (x34_2 + 1)), (by first | rfl | (simp; done) | (simp [*]; done)), H', ⟨by have := HK1.out; have := HK2.out; omega⟩, ⟨by (try simp only [hl5_1]); (try simp only [hl5_2]); (with_reducible repeat (first | apply Kd.R_alloc | apply Kd.R_drewN | apply Kd.R_drew)); exact Kd.R_mono HO_5.out (fun _ hk => ⟨hk.2, hk.1⟩)⟩, ⟨by (try simp only [hl5_1]); (try simp only [hl5_2]); (with_reducible repeat (first | apply Kd.R_alloc | apply Kd.R_drewN | apply Kd.R_drew)); exact HO569.out⟩, ⟨by (try simp only [hl5_1]); (try simp only [hl5_2]); (with_reducible repeat (first | apply Kd.R_alloc | apply Kd.R_drewN | apply Kd.R_drew)); exact HO_32.out⟩, ⟨by (try simp only [hl5_1]); (try simp only [hl5_2]); (with_reducible repeat (first | refine blk_drewN ?_ _ | refine kD ?_ | refine kA ?_ _)); exact BK544.out⟩, ⟨by repeat (first | (with_reducible first | exact HB.out | apply bAl | apply bDN | apply bD1 | refine bSt ?_ GE544.out) | exact HB.out)⟩⟩
                   ·rw [if_neg c38] at H
                    exact absurd H (by simp)
                  ·rw [if_neg c36] at H
                   exact absurd H (by simp)
                 ·rw [if_neg c35] at H
                  exact absurd H (by simp)
                ·rw [if_neg c34] at H
                 have c34b0 : decide ((rd x5_2 t562) < 0) = false := decide_eq_false c34
                 clear c34
                 have H' := aK H
                 clear H
                 have p560 : 0 ≤ (x34_2 : Int) := of_decide_eq_true (by first | (with_reducible assumption) | assumption)
                 have q560 : x34_2 < (t557.length : Int) := of_decide_eq_true (by first | (with_reducible assumption) | assumption)
                 obtain ⟨ad560, e560, hx560_0⟩ := Kd.at_int (Kd.R_reads' HO_32.out).2.2 x34_2 p560 q560
                 cases e560
                 replace p560 := eq_true p560
                 replace q560 := eq_true q560
                 try go_wp2
                 have n0_ := aK (Kd.R_drew HO_5.out)
                 have n1_ := aK (Kd.R_drew HO_6.out)
                 have n2_ := aK (Kd.R_drew HO_32.out)
                 have n3_ := aK (kD BK544.out)
                 have n4_ := aK (bD1 HB.out)
                 clear HO_5
                 clear HO_6
                 clear HO_32
                 clear BK544
                 clear HB
                 have HO_5 := n0_
                 have HO_6 := n1_
                 have HO_32 := n2_
                 have BK544 := n3_
                 have HB := n4_
                 clear n0_ n1_ n2_ n3_ n4_
                 obtain ⟨Ao46, co46, eo46⟩ := Kd.R_slice HO_6.out
                 (first | subst eo46 | (injection eo46 with f1_ f2_ f3_; have f4_ := f1_.symm; have f5_ := f3_.symm; clear f1_ f2_ f3_; subst f4_; subst f5_))
                 have p561 : 0 ≤ (x7_1 : Int) := of_decide_eq_true (by first | (with_reducible assumption) | assumption)
                 have q561 : x7_1 < (x6_2.length : Int) := of_decide_eq_true (by first | (with_reducible assumption) | assumption)
                 obtain ⟨ad561, e561, hx561_0⟩ := Kd.at_int (Kd.R_reads' HO_6.out).2.2 x7_1 p561 q561
                 cases e561
                 replace p561 := eq_true p561
                 replace q561 := eq_true q561
                 refine start_ (n := 8) (S := fun w' => w'.cell? ⟨gb544, 0, none⟩ = some (.int .i64 a0_0) ∧ w'.cell? ⟨gb544, 1, none⟩ = some (.int .i64 a0_1) ∧ w'.cell? ⟨gb544, 2, none⟩ = some (.int .i64 a0_2) ∧ w'.cell? (ad561.add (x7_1).toNat) = some (.int .i64 (rd x6_2 x7_1))) (ds := []) #[bN,bN,bN,bN,bN,bN,bN,bN] (by kernel_rfl) rfl rfl ⟨(kC BK544.out 0).trans rfl, (kC BK544.out 1).trans rfl, (kC BK544.out 2).trans rfl, hx561_0⟩ (fun hHeld => ?_); refine with_tabW impl_distances.tab10 impl_distances.bits10 (fun HT_ HW_ => ?_)
                 generalize wr.drew = w45 at HO_5 HO_6 HO_32 BK544 HB hx561_0 hHeld ⊢
                 refine pure_ (i := 1) (N := some 39) (v := ?_) (a' := ?_) #[bN,bY,bN,bN,bN,bN,bN,bN] rfl rfl (any_of HT_.out (by kernel_rfl)) (fun _ _ _ h => h) (Or.inl ⟨by rfl, ?_⟩) ?_ ?_
                 rotate_left
                 ·intro w'
                  go_simp
                  with_reducible rfl
                 rotate_left
                 ·simp only [Act.put, sTA, sZ, sS, i64_w, i32_w]
                  rfl
                 refine pure_ (i := 2) (N := some 40) (v := ?_) (a' := ?_) #[bN,bY,bY,bN,bN,bN,bN,bN] rfl rfl (any_of HT_.out (by kernel_rfl)) (fun _ _ _ h => h) (Or.inl ⟨by rfl, ?_⟩) ?_ ?_
                 rotate_left
                 ·intro w'
                  go_simp
                  with_reducible rfl
                 rotate_left
                 ·simp only [Act.put, sTA, sZ, sS, i64_w, i32_w]
                  rfl
                 refine pure_ (i := 3) (N := some 41) (v := ?_) (a' := ?_) #[bN,bY,bY,bY,bN,bN,bN,bN] rfl rfl (any_of HT_.out (by kernel_rfl)) (fun _ _ _ h => h) (Or.inl ⟨by rfl, ?_⟩) ?_ ?_
                 rotate_left
                 ·intro w'
                  go_simp
                  with_reducible rfl
                 rotate_left
                 ·simp only [Act.put, sTA, sZ, sS, i64_w, i32_w]
                  rfl
                 refine pure_ (i := 5) (N := some 43) (v := ?_) (a' := ?_) #[bN,bY,bY,bY,bN,bY,bN,bN] rfl rfl (any_of HT_.out (by kernel_rfl)) (fun _ _ _ h => h) (Or.inl ⟨by rfl, ?_⟩) ?_ ?_
                 rotate_left
                 ·intro w'
                  go_simp
                  with_reducible rfl
                 rotate_left
                 ·simp only [Act.put, sTA, sZ, sS, i64_w, i32_w]
                  rfl
                 refine take_ (i := 0) (N := some 38) (v := ?_) (a' := ?_) #[bY,bY,bY,bY,bN,bY,bN,bN] rfl rfl (take_ofW HT_.out HW_.out (by kernel_rfl)) (fun _ _ _ h => h) (Or.inl ⟨by rfl, ?_⟩) hHeld ?_ ?_
                 rotate_left
                 ·rintro w' ⟨s0, s1, s2, s3⟩
                  go_simp
                  with_reducible rfl
                 rotate_left
                 ·simp only [Act.put, sTA, sZ, sS, i64_w, i32_w]
                  rfl
                 refine take_ (i := 4) (N := some 42) (v := ?_) (a' := ?_) #[bY,bY,bY,bY,bY,bY,bN,bN] rfl rfl (take_ofW HT_.out HW_.out (by kernel_rfl)) (fun _ _ _ h => h) (Or.inl ⟨by rfl, ?_⟩) hHeld ?_ ?_
                 rotate_left
                 ·rintro w' ⟨s0, s1, s2, s3⟩
                  go_simp
                  with_reducible rfl
                 rotate_left
                 ·simp only [Act.put, sTA, sZ, sS, i64_w, i32_w]
                  rfl
                 refine one_ (i := 6) (N := some 44) #[bY,bY,bY,bY,bY,bY,bY,bN] rfl rfl (one_of HT_.out (by kernel_rfl)) (by decide) (fun K hK => ?_)
                 refine goes_ Try.func79 (by kernel_rfl) rfl #[.agg #[.int .i64 a0_0, .int .i64 a0_1, .int .i64 a0_2], .int .i64 (rd x6_2 x7_1), .int .i64 (rd t557 x34_2)] (by rfl) rfl rfl (by (try simp only [List.map_toArray, List.map_cons, List.map_nil]); first | done | rfl | (simp only [List.length_drop, List.length_take]; rfl)) ?_
                 with_reducible refine (impl_Step.calls k2 a0_0 a0_1 a0_2 (rd x6_2 x7_1) (rd t557 x34_2) t562 _ A31.out).mono ?_
                 rintro e w47 ⟨rfl, hb⟩
                 have HS3_ := (hb.cell (World.block_lt_of_cell? _ _ (hHeld.2.2.2))).trans (hHeld.2.2.2)
                 refine ⟨_, rfl, ?_⟩
                 have n0_ := aK (Kd.R_below (by (with_reducible repeat (first | apply Kd.R_alloc | apply Kd.R_drewN | apply Kd.R_drew)); exact HO_5.out) hb)
                 have n1_ := aK (Kd.R_below (by (with_reducible repeat (first | apply Kd.R_alloc | apply Kd.R_drewN | apply Kd.R_drew)); exact HO_6.out) hb)
                 have n2_ := aK (Kd.R_below (by (with_reducible repeat (first | apply Kd.R_alloc | apply Kd.R_drewN | apply Kd.R_drew)); exact HO_32.out) hb)
                 have n3_ := bkb BK544 hb (by intro z_; (with_reducible repeat (first | refine blk_drewN ?_ _ | refine kD ?_ | refine kA ?_ _)); exact z_)
                 have n4_ := aK (bSp (by repeat (first | (with_reducible first | exact HB.out | apply bAl | apply bDN | apply bD1 | refine bSt ?_ GE544.out) | exact HB.out)) hb)
                 clear HO_5
                 clear HO_6
                 clear HO_32
                 clear BK544
                 clear HB
                 have HO_5 := n0_
                 have HO_6 := n1_
                 have HO_32 := n2_
                 have BK544 := n3_
                 have HB := n4_
                 clear n0_ n1_ n2_ n3_ n4_
                 (try clear hb)
                 (try clear hb2)
                 (try clear hk)
                 (try clear hi)
                 refine hK.out _ _ ⟨(kC BK544.out 0).trans rfl, (kC BK544.out 1).trans rfl, (kC BK544.out 2).trans rfl, HS3_⟩ (fun hHeld => ?_)
                 clear hK K
                 refine norm_ (a' := ?_) ?_ ?_
                 rotate_left
                 ·show Act.put _ (some 44) _ = _
                  simp only [Act.put, sTA, sZ, sS, i64_w, i32_w]
                  rfl
                 refine pure_ (i := 7) (N := some 10) (v := ?_) (a' := ?_) #[bY,bY,bY,bY,bY,bY,bY,bY] rfl rfl (any_of HT_.out (by kernel_rfl)) (fun _ _ _ h => h) (Or.inl ⟨by rfl, ?_⟩) ?_ ?_
                 rotate_left
                 ·intro w'
                  go_simp
                  with_reducible rfl
                 rotate_left
                 ·simp only [Act.put, sTA, sZ, sS, i64_w, i32_w]
                  rfl
                 refine done_ (done_of HT_.out (by kernel_rfl)) ?_
                 have p563 : 0 ≤ (t562 : Int) := of_decide_eq_true (by first | (with_reducible assumption) | assumption)
                 have q563 : t562 < (x5_2.length : Int) := of_decide_eq_true (by first | (with_reducible assumption) | assumption)
                 obtain ⟨ad563, e563, hx563_0⟩ := Kd.at_int (Kd.R_reads' HO_5.out).2.2 t562 p563 q563
                 obtain rfl : (⟨go7, 0, none⟩ : Addr) = ad563 := (by injection e563)
                 (first | simp only [add_plain] at hx563_0 | simp only [add_at] at hx563_0 | simp only [Addr.add, Nat.zero_add] at hx563_0 | skip)
                 replace p563 := eq_true p563
                 replace q563 := eq_true q563
                 try go_wp2
                 (try simp only [← hl5_2])
                 go_roundg k2
                 case measure => have := HK1.out; have := HK2.out; omega
                 case rel => exact ⟨(x5_2), (x6_2), (wrap64 (x34_2 + 1)), (by first | rfl | (simp; done) | (simp [*]; done)), H', ⟨by have := HK1.out; have := HK2.out; omega⟩, ⟨by (try simp only [hl5_1]); (try simp only [hl5_2]); (with_reducible repeat (first | apply Kd.R_alloc | apply Kd.R_drewN | apply Kd.R_drew)); exact HO_5.out⟩, ⟨by (try simp only [hl5_1]); (try simp only [hl5_2]); (with_reducible repeat (first | apply Kd.R_alloc | apply Kd.R_drewN | apply Kd.R_drew)); exact HO_6.out⟩, ⟨by (try simp only [hl5_1]); (try simp only [hl5_2]); (with_reducible repeat (first | apply Kd.R_alloc | apply Kd.R_drewN | apply Kd.R_drew)); exact HO_32.out⟩, ⟨by (try simp only [hl5_1]); (try simp only [hl5_2]); (with_reducible repeat (first | refine blk_drewN ?_ _ | refine kD ?_ | refine kA ?_ _)); exact BK544.out⟩, ⟨by repeat (first | (with_reducible first | exact HB.out | apply bAl | apply bDN | apply bD1 | refine bSt ?_ GE544.out) | exact HB.out)⟩⟩
               ·rw [if_neg c33] at H
                exact absurd H (by simp)
              ·rw [if_neg c32] at H
               exact absurd H (by simp)
             ·rw [if_neg c30] at H
              exact absurd H (by simp)
            ·rw [if_neg c29] at H
             exact absurd H (by simp)
           ·rw [if_neg c28] at H
            exact absurd H (by simp)
          ·rw [if_neg c27] at H
           exact absurd H (by simp)
         ·rw [if_neg c26] at H
          have c26b0 : decide (x34_2 < (t557.length : Int)) = false := decide_eq_false c26
          clear c26
          have H' := aK H
          clear H
          go_wp2
          (try simp only [← hl5_1, ← hl5_2])
          go_roundg k2
          case measure => have := HK1.out; have := HK2.out; omega
          case rel => exact ⟨(x5_2), (x6_2), (wrap64 (x7_1 + 1)), (by first | rfl | (simp; done) | (simp [*]; done)), H', ⟨by have := HK1.out; have := HK2.out; omega⟩, ⟨by (try simp only [hl5_1]); (try simp only [hl5_2]); (with_reducible repeat (first | apply Kd.R_alloc | apply Kd.R_drewN | apply Kd.R_drew)); exact Kd.R_mono HO_5.out (fun _ hk => hk.1)⟩, ⟨by (try simp only [hl5_1]); (try simp only [hl5_2]); (with_reducible repeat (first | apply Kd.R_alloc | apply Kd.R_drewN | apply Kd.R_drew)); exact Kd.R_mono HO_6.out (fun _ hk => hk.1)⟩, ⟨by (try simp only [hl5_1]); (try simp only [hl5_2]); (with_reducible repeat (first | refine blk_drewN ?_ _ | refine kD ?_ | refine kA ?_ _)); exact BK544.out⟩, ⟨by repeat (first | (with_reducible first | exact HB.out | apply bAl | apply bDN | apply bD1 | refine bSt ?_ GE544.out) | exact HB.out)⟩⟩
      ·rw [if_neg c20] at H
       exact absurd H (by simp)
     ·rw [if_neg c19] at H
      have c19b0 : decide (x7_1 < (x6_1.length : Int)) = false := decide_eq_false c19
      clear c19
      obtain rfl := Option.some.inj H
      obtain ⟨Ao48, co48, eo48⟩ := Kd.R_slice HO_6.out
      subst eo48
      go_wp2
      go_ret
      exact ⟨_, by first | rfl | (simp [errW_none, errW_some] <;> rfl) | (simp [*, errW_none, errW_some] <;> rfl), by (with_reducible repeat (first | apply Kd.R_alloc | apply Kd.R_drewN | apply Kd.R_drew)); exact Kd.R_mono HO_5.out (fun _ hk => trivial), by repeat (first | (with_reducible first | exact HB.out | apply bAl | apply bDN | apply bD1 | refine bSt ?_ GE544.out) | exact HB.out)⟩
  ·rw [if_neg c6] at H
   exact absurd H (by simp)
 ·rw [if_neg c5] at H
  exact absurd H (by simp)
set_option maxRecDepth 20000 in set_option maxHeartbeats 4000000 in open Nat renaming reduceAdd → p1, reduceSub → p2, reduceMul → p3, reduceDiv → p4, reduceBNe → p5, reduceBEq → p6, reduceEqDiff → p7, reduceLeDiff → p8, reduceLT → p9 in open Int renaming reduceLE → p10, reduceLT → p11, reduceEq → p12 in
theorem spec_Reached.ctr {k : Nat} {a0_0 : Int} {a0_1 : Int} {a0_2 : Int} {a1 : Int} {r : List Int} (h : spec_Reached.f k a0_0 a0_1 a0_2 a1 = some r) : Ctr Try.prog 23 [.ag [.v (.int .i64 a0_0), .v (.int .i64 a0_1), .v (.int .i64 a0_2)], .v (.int .i64 a1)] (.ow 3 1 (r.map eI)) := by
  refine Ctr_of tyOk hm Try.func23 rfl rfl (by kernel_rfl) (n := 31) (rv := [.tmp 4]) rfl rfl ?_
  simp only [W, List.replicate]
  unfold spec_Reached.f at h
  rw [Option.bind_some] at h
  replace h := bnd h; obtain ⟨t1, A, h⟩ := h
  try simp only [W, p1, p2, p3, p4, p5, p6, p7, p8, p9, p10, p11]
  refine callR (spec_l04Has.ctr A) ?_
  replace h := ifT h; rcases h with ⟨rfl, h⟩ | ⟨rfl, h⟩
  · replace h := bnd h; obtain ⟨t3, A, h⟩ := h
    try simp only [W, p1, p2, p3, p4, p5, p6, p7, p8, p9, p10, p11]
    refine callR (spec_l04Distances.ctr A) ?_
    try simp only [W, p1, p2, p3, p4, p5, p6, p7, p8, p9, p10, p11]
    refine loopN (fun x : List Int × List Int × Int × Int × Int × Int => [.u, .u, .bp 32 0, .u, .u, .lo 128, .lo 256, .v (.int .i64 x.2.2.1), .u, .u, .u, .u, .u, .u, .u, .u, .u, .u, .u, .u, .u, .u, .u, .u, .u, .u, .u, .u, .u, .u, .u, .u, .u]) (fun x => [(32, .box 27 [.v (.int .i64 x.2.2.2.1), .v (.int .i64 x.2.2.2.2.1), .v (.int .i64 x.2.2.2.2.2)]), (128, .row 3 1 (List.map eI x.1)), (256, .row 3 1 (List.map eI x.2.1))]) (fun n x => spec_Reached.l0 n x.1 x.2.1 x.2.2.1 = some r) ((([] : List Int) : List Int), t3, 0, a0_0, a0_1, a0_2) [] h (by simp only [W, p1, p2, p3, p4, p5, p6, p7, p8, p9, p10, p11] <;> trivial) (by simp only [W, p1, p2, p3, p4, p5, p6, p7, p8, p9, p10, p11] <;> trivial) rfl (fun _ h => by cases h) ?_
    intro n1 ⟨x4, x5, x6, y7, y8, y9⟩ _ h
    simp only [spec_Reached.l0] at h
    replace h := ifS h; rcases h with ⟨c10, h⟩ | ⟨c10, h⟩
    · replace h := ifN h; obtain ⟨c11, h⟩ := h
      replace h := ifS h; rcases h with ⟨c12, h⟩ | ⟨c12, h⟩
      · replace h := ifN h; obtain ⟨c13, h⟩ := h
        try simp only [W, c10, c11, c12, c13, p1, p2, p3, p4, p5, p6, p7, p8, p9, p10, p11]
        exact nextN ((x4 ++ [x6]), x5, (wrap64 (x6 + 1)), y7, y8, y9) [(128, 496)] n1 (by omega) h (by simp only [W, p1, p2, p3, p4, p5, p6, p7, p8, p9, p10, p11] <;> trivial) (by simp only [W, p1, p2, p3, p4, p5, p6, p7, p8, p9, p10, p11] <;> trivial) rfl
      · try simp only [W, c10, c11, c12, p1, p2, p3, p4, p5, p6, p7, p8, p9, p10, p11]
        exact nextN (x4, x5, (wrap64 (x6 + 1)), y7, y8, y9) [] n1 (by omega) h (by simp only [W, p1, p2, p3, p4, p5, p6, p7, p8, p9, p10, p11] <;> trivial) (by simp only [W, p1, p2, p3, p4, p5, p6, p7, p8, p9, p10, p11] <;> trivial) rfl
    · cases h
      try simp only [W, c10, p1, p2, p3, p4, p5, p6, p7, p8, p9, p10, p11]
  · cases h
    try simp only [W, p1, p2, p3, p4, p5, p6, p7, p8, p9, p10, p11]
end Go.Proofs.Ytpeehicekddjhaa.F
end

section
namespace Go.Proofs.Ytpeehicekddjhaa.F
open Go.RowKit Go.Proofs.YtpeehicekddjhaaW.PrintWords Go.Proofs.YtpeehicekddjhaaW.PrintLast Go.Proofs.YtpeehicekddjhaaW.PrintMore
set_option linter.unusedVariables false
set_option linter.unusedSimpArgs false
attribute [local go_sem] max2_int min2_int max_two min_two
set_option maxRecDepth 20000 in set_option maxHeartbeats 4000000 in open Nat renaming reduceAdd → p1, reduceSub → p2, reduceMul → p3, reduceDiv → p4, reduceBNe → p5, reduceBEq → p6, reduceEqDiff → p7, reduceLeDiff → p8, reduceLT → p9 in open Int renaming reduceLE → p10, reduceLT → p11, reduceEq → p12 in
theorem spec_CountParts.ctr {k : Nat} {a0_0 : Int} {a0_1 : Int} {a0_2 : Int} {r : Int} (h : spec_CountParts.f k a0_0 a0_1 a0_2 = some r) : Ctr Try.prog 168 [.ag [.v (.int .i64 a0_0), .v (.int .i64 a0_1), .v (.int .i64 a0_2)]] (.v (.int .i64 r)) := by
  refine Ctr_of tyOk hm Try.func168 rfl rfl (by kernel_rfl) (n := 25) (rv := [.tmp 2]) rfl rfl ?_
  simp only [W, List.replicate]
  unfold spec_CountParts.f at h
  try simp only [W, p1, p2, p3, p4, p5, p6, p7, p8, p9, p10, p11]
  refine loopN (fun x : Int × Int × Int × Int × Int => [.u, .bp 16 0, .u, .v (.int .i64 x.1), .v (.int .i64 x.2.1), .u, .u, .u, .u, .u, .u, .u, .u, .u, .u, .u, .u, .u, .u, .u, .u, .u, .u, .u, .u, .u]) (fun x => [(16, .box 27 [.v (.int .i64 x.2.2.1), .v (.int .i64 x.2.2.2.1), .v (.int .i64 x.2.2.2.2)])]) (fun n x => spec_CountParts.l0 n x.1 x.2.1 x.2.2.1 x.2.2.2.1 x.2.2.2.2 = some r) (0, 0, a0_0, a0_1, a0_2) [] h (by simp only [W, p1, p2, p3, p4, p5, p6, p7, p8, p9, p10, p11] <;> trivial) (by simp only [W, p1, p2, p3, p4, p5, p6, p7, p8, p9, p10, p11] <;> trivial) rfl (fun _ h => by cases h) ?_
  intro n1 ⟨x1, x2, x3, x4, x5⟩ _ h
  simp only [spec_CountParts.l0] at h
  replace h := bnd h; obtain ⟨t6, A, h⟩ := h
  try simp only [W, p1, p2, p3, p4, p5, p6, p7, p8, p9, p10, p11]
  refine callR (spec_CountCells.ctr A) ?_
  replace h := ifS h; rcases h with ⟨c7, h⟩ | ⟨c7, h⟩
  · replace h := bnd h; obtain ⟨t8, A, h⟩ := h
    try simp only [W, c7, p1, p2, p3, p4, p5, p6, p7, p8, p9, p10, p11]
    refine callR (spec_MazeOk.ctr A) ?_
    rcases n1 with _ | m9; · cases h
    rw [spec_CountParts.j1] at h
    replace h := ifT h; rcases h with ⟨rfl, h⟩ | ⟨rfl, h⟩
    · replace h := bnd h; obtain ⟨t11, A, h⟩ := h
      try simp only [W, c7, p1, p2, p3, p4, p5, p6, p7, p8, p9, p10, p11]
      refine callR (spec_Reached.ctr A) ?_
      replace h := ifN h; obtain ⟨c12, h⟩ := h
      replace h := ifS h; rcases h with ⟨c13, h⟩ | ⟨c13, h⟩
      · try simp only [W, c7, c12, eq_true c13, p1, p2, p3, p4, p5, p6, p7, p8, p9, p10, p11]
        exact nextN ((wrap64 (x1 + 1)), (wrap64 (x2 + 1)), x3, x4, x5) [] m9 (by omega) h (by simp only [W, p1, p2, p3, p4, p5, p6, p7, p8, p9, p10, p11] <;> trivial) (by simp only [W, p1, p2, p3, p4, p5, p6, p7, p8, p9, p10, p11] <;> trivial) rfl
      · try simp only [W, c7, c12, c13, p1, p2, p3, p4, p5, p6, p7, p8, p9, p10, p11]
        exact nextN (x1, (wrap64 (x2 + 1)), x3, x4, x5) [] m9 (by omega) h (by simp only [W, p1, p2, p3, p4, p5, p6, p7, p8, p9, p10, p11] <;> trivial) (by simp only [W, p1, p2, p3, p4, p5, p6, p7, p8, p9, p10, p11] <;> trivial) rfl
    · cases h
      try simp only [W, c7, p1, p2, p3, p4, p5, p6, p7, p8, p9, p10, p11]
  · rcases n1 with _ | m14; · cases h
    rw [spec_CountParts.j1] at h
    rw [if_neg (by decide)] at h
    cases h
    try simp only [W, c7, p1, p2, p3, p4, p5, p6, p7, p8, p9, p10, p11]
set_option maxRecDepth 20000 in set_option maxHeartbeats 4000000 in open Nat renaming reduceAdd → p1, reduceSub → p2, reduceMul → p3, reduceDiv → p4, reduceBNe → p5, reduceBEq → p6, reduceEqDiff → p7, reduceLeDiff → p8, reduceLT → p9 in open Int renaming reduceLE → p10, reduceLT → p11, reduceEq → p12 in
theorem spec_IsConnected.ctr {k : Nat} {a0_0 : Int} {a0_1 : Int} {a0_2 : Int} {r : Bool} (h : spec_IsConnected.f k a0_0 a0_1 a0_2 = some r) : Ctr Try.prog 115 [.ag [.v (.int .i64 a0_0), .v (.int .i64 a0_1), .v (.int .i64 a0_2)]] (.v (.bool r)) := by
  refine Ctr_of tyOk hm Try.func115 rfl rfl (by kernel_rfl) (n := 5) (rv := [.tmp 2]) rfl rfl ?_
  simp only [W, List.replicate]
  unfold spec_IsConnected.f at h
  replace h := bnd h; obtain ⟨t1, A, h⟩ := h
  try simp only [W, p1, p2, p3, p4, p5, p6, p7, p8, p9, p10, p11]
  refine callR (spec_CountParts.ctr A) ?_
  cases h
  try simp only [W, p1, p2, p3, p4, p5, p6, p7, p8, p9, p10, p11]
set_option maxHeartbeats 2000000 in
theorem impl_Reached_1.calls (B g cap : Nat) (cur : List Value) (far : List Int) (W : World) (hB : W.heap[B]? = some (.cells #[.slice (some ⟨g, 0, none⟩) far.length cap] 39 (0, 0))) (hg : W.heap[g]? = some (.cells cur.toArray 3 (0, 0))) (hx : ∀ j, j < far.length → cur[j]? = some (.int .i64 (far.getD j 0))) (hn : far.length ≤ 9223372036854775807) (x : Int) (h0 : 0 ≤ x) (h1 : x < far.length) :
  Calls Try.prog 214 #[.int .i64 x, .pointer (some ⟨B, 0, none⟩)] W fun e w' => e = .returned (.bool (decide (rd far x < 0))) ∧ Below W.heap.size W w' := by
 obtain ⟨j, rfl⟩ : ∃ j : Nat, (j : Int) = x := ⟨x.toNat, by omega⟩
 have hj : j < far.length := by omega
 have c0 : W.cell? ⟨B, 0, none⟩ = some (.slice (some ⟨g, 0, none⟩) far.length cap) := (kC hB 0).trans rfl
 have c1 : W.cell? ⟨g, j, none⟩ = some (.int .i64 (rd far (j : Int))) := by
  rw [rd_nat]; exact ((kC hg j).trans (by simp)).trans (hx j hj)
 clear hB hg hx
 generalize rd far (j : Int) = y at c1 ⊢
 go_enter Try.func214, Try.ntmps214
 go_wp2
 go_ret
 exact ⟨rfl, Below.refl _ _⟩
set_option maxHeartbeats 4000000 in
set_option maxRecDepth 100000 in
theorem impl_Reached.calls (a0_0 a0_1 a0_2 a1 : Int) (r : List Int) (w : World) (h : impl_Reached.f a0_0 a0_1 a0_2 a1 = some r) :
  Calls Try.prog 194 #[.agg #[.int .i64 a0_0, .int .i64 a0_1, .int .i64 a0_2], .int .i64 a1] w fun e w' => ∃ v0_ : Value, e = .returned (v0_) ∧ Kd.R (Kd.int .i64) 3 w' w.heap.size (fun _ => True) v0_ r ∧ Below w.heap.size w w' := by
 have hu := Try.underlying27
 have hul := Try.underlying39
 obtain ⟨b, hm, H⟩ := Option.bind_eq_some_iff.mp h
 clear h
 have HI := fun (W : World) (A : Addr) (hA : W.cell? A = some (.int .i64 a1)) => impl_isIn.calls a0_0 a0_1 a0_2 (some A) 1 [a1] b W (Kd.C_of_reads (d := (0 : Int)) (h1 := fun _ => rfl) ⟨rfl, by simp, fun _ => ⟨A, rfl, fun j hj => by
  obtain rfl : j = 0 := by simpa using hj
  rw [show A.add 0 = A from by unfold Addr.add; split <;> simp_all]
  exact hA⟩⟩) (Nat.le_refl 1) hm
 simp only [List.length_singleton] at HI
 cases b with
 | false =>
  rw [if_neg Bool.false_ne_true] at H
  obtain rfl := Option.some.inj H
  go_enter Try.func194, Try.ntmps194
  go_wp2_with (go_at_call 75; refine (HI _ _ ?hA).mono ?_; (case hA => exact (kC (heap_new2 _ _ _) 0).trans rfl); rintro e w' ⟨rfl, hb⟩; have HB := aK hb; clear hb)
  go_ret
  exact ⟨_, rfl, Kd.R_nil _ _ _ _ _, (((Below.refl _ w).alloc (Nat.le_refl _) _).alloc (by simp) _).trans (HB.out.mono (by simp; omega))⟩
 | true =>
  rw [if_pos rfl] at H
  obtain ⟨far, hd, H2⟩ := Option.bind_eq_some_iff.mp H
  clear H
  by_cases hfar : 0 < far.length
  ·rw [if_pos hfar] at H2
   obtain ⟨u, hup, H3⟩ := Option.bind_eq_some_iff.mp H2
   clear H2
   by_cases hall : (u.all fun x => decide (0 ≤ x ∧ x < far.length)) = true ∧ 0 < u.length
   ·rw [if_pos hall] at H3
    obtain rfl := Option.some.inj H3
    have eg : ∀ args w, (callFunc 214 args).run Try.prog w = .ok (.enter 214 args) w := enters_of Try.func214 (by kernel_rfl) rfl
    have HP : ∀ (w1 w3 : World) (g cap gu : Nat) (cur : List Value), Below (w1.alloc (Obj.cells #[Value.slice (some ⟨g, 0, none⟩) far.length cap] 39)).heap.size (w1.alloc (Obj.cells #[Value.slice (some ⟨g, 0, none⟩) far.length cap] 39)) w3 → w1.heap[g]? = some (.cells cur.toArray 3 (0, 0)) → (∀ j, j < far.length → cur[j]? = some (.int .i64 (far.getD j 0))) → (w1.alloc (Obj.cells #[Value.slice (some ⟨g, 0, none⟩) far.length cap] 39)).heap.size ≤ gu → cap ≤ maxLen → far.length ≤ cap →
      ∀ (W : World) (x : Int), x ∈ u → w3.grownBy W (some gu) → Calls Try.prog 214 (#[.int .i64 x] ++ #[.pointer (some ⟨w1.heap.size, 0, none⟩)]) W fun e w' => e = .returned (.bool (decide (rd far x < 0))) ∧ Below W.heap.size W w' := by
     intro w1 w3 g cap gu cur h3 hg hc hu0 hcm hcap W x hx hG
     have hs0 : ∀ (W : World) (o : Obj), (W.alloc o).heap.size = W.heap.size + 1 := fun W o => by simp
     have hsz := h3.size
     have hgl := blk_lt hg
     rw [hs0] at hsz hu0
     have hx2 := List.all_eq_true.1 hall.1 x hx
     simp only [decide_eq_true_eq] at hx2
     exact impl_Reached_1.calls w1.heap.size g cap cur far W ((hG.block _ (by omega) (fun e => by have := Option.some.inj e; omega)).trans ((h3.block _ (by rw [hs0]; omega)).trans (heap_alloc_new w1 _))) ((hG.block _ (by omega) (fun e => by have := Option.some.inj e; omega)).trans ((h3.block _ (by rw [hs0]; omega)).trans (kA hg _))) hc (Nat.le_trans hcap (Nat.le_trans hcm (by decide))) x hx2.1 hx2.2
    have HALL := aK hall
    have HFAR := aK hfar
    clear H3 hall hfar
    go_enter Try.func194, Try.ntmps194
    go_wp2_with (first | (go_at_call 75; refine (HI _ _ ?hA).mono ?_; (case hA => exact (kC (heap_new2 _ _ _) 0).trans rfl); rintro e w0 ⟨rfl, hb⟩; have HB := aK hb; have c0 : w0.cell? ⟨w.heap.size, 0, none⟩ = some (.int .i64 a0_0) := (kC ((HB.out.block w.heap.size (by simp; omega)).trans (kA (heap_alloc_new w _) _)) 0).trans rfl; have c1 : w0.cell? ⟨w.heap.size, 1, none⟩ = some (.int .i64 a0_1) := (kC ((HB.out.block w.heap.size (by simp; omega)).trans (kA (heap_alloc_new w _) _)) 1).trans rfl; have c2 : w0.cell? ⟨w.heap.size, 2, none⟩ = some (.int .i64 a0_2) := (kC ((HB.out.block w.heap.size (by simp; omega)).trans (kA (heap_alloc_new w _) _)) 2).trans rfl; clear hb) | (go_at_call 86; refine (impl_distances.calls 1000 _ _ _ _ far _ hd).mono ?_; rintro e w1 ⟨v, rfl, hR, hB1⟩; have HR1 := aK hR; have HB1 := aK hB1; clear hR hB1; obtain ⟨g, cap, cur, rfl, hcap, hg0, hgh, hcl, hcm, hcx⟩ := row_open HR1.out HFAR.out; have HC1 := aK hcap; have HG0 := aK hg0; have HGH := aK hgh; have HCL := aK hcl; have HCM := aK hcm; have HCX := aK hcx; clear hcap hg0 hgh hcl hcm hcx) | (go_at_call 67; refine (impl_upTo.calls 1000 _ u _ hup).mono ?_; rintro e w3 ⟨v, rfl, hR, hB3⟩; have HB3 := aK hB3; have HR3 := aK hR; clear hR hB3; obtain ⟨gu, capu, curu, rfl, hcapu, hgu0, hguh, hul2, hum, hux⟩ := row_open HR3.out HALL.out.2; have HCU := aK hcapu; have HU0 := aK hgu0; have HUH := aK hguh; have HUL := aK hul2; have HUM := aK hum; have HUX := aK hux; clear hcapu hgu0 hguh hul2 hum hux) | (go_at_call 66; refine (slices_DeleteFunc_int.calls (fun x => decide (rd far x < 0)) 214 #[.pointer (some ⟨w1.heap.size, 0, none⟩)] eg gu capu u curu _ HUH.out HUL.out HCU.out HUM.out HUX.out ?hp).mono ?_; (case hp => exact HP w1 w3 g cap gu cur HB3.out HGH.out HCX.out HU0.out HCM.out HC1.out); rintro e w4 ⟨cur4, rfl, h41, h42, h43, h44⟩; have H41 := aK h41; have H42 := aK h42; have H43 := aK h43; have H44 := aK h44; clear h41 h42 h43 h44))
    go_ret
    refine ⟨_, rfl, row_close (cur := cur4) ?_ H41.out ?_ HUM.out H42.out H43.out, ?_⟩
    ·have h1 := HU0.out; have h2 := HB1.out.size; have h3 := HB.out.size; simp at h1 h3; omega
    ·exact Nat.le_trans (List.length_filter_le _ _) HCU.out
    ·refine ((((((Below.refl _ w).alloc (Nat.le_refl _) _).alloc (by simp) _).trans (HB.out.mono (by simp; omega))).trans (HB1.out.mono ?_)).alloc ?_ _).trans (HB3.out.mono ?_) |>.grown H44.out ?_ ?_
     all_goals first
      | (have h2 := HB1.out.size; have h3 := HB.out.size; have h4 := HB3.out.size; have h5 := HU0.out; simp at h3 h4 h5 ⊢; omega)
      | (intro j hj; cases hj; have h2 := HB1.out.size; have h3 := HB.out.size; have h5 := HU0.out; simp at h3 h5; omega)
   ·rw [if_neg hall] at H3; exact absurd H3 (by simp)
  ·rw [if_neg hfar] at H2; exact absurd H2 (by simp)
theorem impl_Reached.ctr {a0_0 : Int} {a0_1 : Int} {a0_2 : Int} {a1 : Int} {r : List Int} (h : impl_Reached.f a0_0 a0_1 a0_2 a1 = some r) : Ctr Try.prog 194 [.ag [.v (.int .i64 a0_0), .v (.int .i64 a0_1), .v (.int .i64 a0_2)], .v (.int .i64 a1)] (.ow 3 1 (r.map eI)) := by
  refine ⟨enters_of Try.func194 rfl rfl, fun w ys hys => ?_⟩
  simp only [RepL, Rep] at hys
  obtain ⟨_, _, rfl, ⟨_, rfl, _, _, rfl, rfl, _, _, rfl, rfl, _, _, rfl, rfl, rfl⟩, _, _, rfl, rfl, rfl⟩ := hys
  refine (impl_Reached.calls _ _ _ _ _ w h).mono ?_
  rintro _ _ ⟨v, rfl, hv, hb⟩
  exact ⟨v, (bk v).toList, rfl, by simp only [RepR]; exact ⟨row_of_R E_eI hv, E_eI.row _, E_eI.pos, trivial⟩, by cases bk v <;> simp, hb⟩
set_option maxRecDepth 20000 in set_option maxHeartbeats 4000000 in open Nat renaming reduceAdd → p1, reduceSub → p2, reduceMul → p3, reduceDiv → p4, reduceBNe → p5, reduceBEq → p6, reduceEqDiff → p7, reduceLeDiff → p8, reduceLT → p9 in open Int renaming reduceLE → p10, reduceLT → p11, reduceEq → p12 in
theorem impl_CountParts.ctr {k : Nat} {a0_0 : Int} {a0_1 : Int} {a0_2 : Int} {r : Int} (h : impl_CountParts.f k a0_0 a0_1 a0_2 = some r) : Ctr Try.prog 171 [.ag [.v (.int .i64 a0_0), .v (.int .i64 a0_1), .v (.int .i64 a0_2)]] (.v (.int .i64 r)) := by
  refine Ctr_of tyOk hm Try.func171 rfl rfl (by kernel_rfl) (n := 20) (rv := [.tmp 2]) rfl rfl ?_
  simp only [W, List.replicate]
  unfold impl_CountParts.f at h
  try simp only [W, p1, p2, p3, p4, p5, p6, p7, p8, p9, p10, p11]
  refine loopN (fun x : Int × Int × Int × Int × Int => [.u, .bp 16 0, .u, .v (.int .i64 x.1), .v (.int .i64 x.2.1), .u, .u, .u, .u, .u, .u, .u, .u, .u, .u, .u, .u, .u, .u, .u, .u]) (fun x => [(16, .box 27 [.v (.int .i64 x.2.2.1), .v (.int .i64 x.2.2.2.1), .v (.int .i64 x.2.2.2.2)])]) (fun n x => impl_CountParts.l0 n x.1 x.2.1 x.2.2.1 x.2.2.2.1 x.2.2.2.2 = some r) (0, 0, a0_0, a0_1, a0_2) [] h (by simp only [W, p1, p2, p3, p4, p5, p6, p7, p8, p9, p10, p11] <;> trivial) (by simp only [W, p1, p2, p3, p4, p5, p6, p7, p8, p9, p10, p11] <;> trivial) rfl (fun _ h => by cases h) ?_
  intro n1 ⟨x1, x2, x3, x4, x5⟩ _ h
  simp only [impl_CountParts.l0] at h
  replace h := bnd h; obtain ⟨t6, A, h⟩ := h
  try simp only [W, p1, p2, p3, p4, p5, p6, p7, p8, p9, p10, p11]
  refine callR (impl_isIn.ctr A) ?_
  replace h := ifT h; rcases h with ⟨rfl, h⟩ | ⟨rfl, h⟩
  · replace h := bnd h; obtain ⟨t8, A, h⟩ := h
    try simp only [W, p1, p2, p3, p4, p5, p6, p7, p8, p9, p10, p11]
    refine callR (impl_Reached.ctr A) ?_
    replace h := ifN h; obtain ⟨c9, h⟩ := h
    replace h := ifS h; rcases h with ⟨c10, h⟩ | ⟨c10, h⟩
    · try simp only [W, c9, eq_true c10, p1, p2, p3, p4, p5, p6, p7, p8, p9, p10, p11]
      exact nextN ((wrap64 (x1 + 1)), (wrap64 (x2 + 1)), x3, x4, x5) [] n1 (by omega) h (by simp only [W, p1, p2, p3, p4, p5, p6, p7, p8, p9, p10, p11] <;> trivial) (by simp only [W, p1, p2, p3, p4, p5, p6, p7, p8, p9, p10, p11] <;> trivial) rfl
    · try simp only [W, c9, c10, p1, p2, p3, p4, p5, p6, p7, p8, p9, p10, p11]
      exact nextN (x1, (wrap64 (x2 + 1)), x3, x4, x5) [] n1 (by omega) h (by simp only [W, p1, p2, p3, p4, p5, p6, p7, p8, p9, p10, p11] <;> trivial) (by simp only [W, p1, p2, p3, p4, p5, p6, p7, p8, p9, p10, p11] <;> trivial) rfl
  · cases h
    try simp only [W, p1, p2, p3, p4, p5, p6, p7, p8, p9, p10, p11]
set_option maxRecDepth 20000 in set_option maxHeartbeats 4000000 in open Nat renaming reduceAdd → p1, reduceSub → p2, reduceMul → p3, reduceDiv → p4, reduceBNe → p5, reduceBEq → p6, reduceEqDiff → p7, reduceLeDiff → p8, reduceLT → p9 in open Int renaming reduceLE → p10, reduceLT → p11, reduceEq → p12 in
theorem impl_IsConnected.ctr {k : Nat} {a0_0 : Int} {a0_1 : Int} {a0_2 : Int} {r : Bool} (h : impl_IsConnected.f k a0_0 a0_1 a0_2 = some r) : Ctr Try.prog 120 [.ag [.v (.int .i64 a0_0), .v (.int .i64 a0_1), .v (.int .i64 a0_2)]] (.v (.bool r)) := by
  refine Ctr_of tyOk hm Try.func120 rfl rfl (by kernel_rfl) (n := 5) (rv := [.tmp 2]) rfl rfl ?_
  simp only [W, List.replicate]
  unfold impl_IsConnected.f at h
  replace h := bnd h; obtain ⟨t1, A, h⟩ := h
  try simp only [W, p1, p2, p3, p4, p5, p6, p7, p8, p9, p10, p11]
  refine callR (impl_CountParts.ctr A) ?_
  cases h
  try simp only [W, p1, p2, p3, p4, p5, p6, p7, p8, p9, p10, p11]
end Go.Proofs.Ytpeehicekddjhaa.F
end

section
namespace Go.Proofs.Ytpeehicekddjhaa.F
open Go.RowKit Go.Proofs.YtpeehicekddjhaaW.PrintWords Go.Proofs.YtpeehicekddjhaaW.PrintLast Go.Proofs.YtpeehicekddjhaaW.PrintMore
set_option linter.unusedVariables false
set_option linter.unusedSimpArgs false
attribute [local go_sem] max2_int min2_int max_two min_two
set_option maxRecDepth 20000 in set_option maxHeartbeats 4000000 in open Nat renaming reduceAdd → p1, reduceSub → p2, reduceMul → p3, reduceDiv → p4, reduceBNe → p5, reduceBEq → p6, reduceEqDiff → p7, reduceLeDiff → p8, reduceLT → p9 in open Int renaming reduceLE → p10, reduceLT → p11, reduceEq → p12 in
theorem impl_with.ctr {a0_0 : Int} {a0_1 : Int} {a0_2 : Int} {a1 : Int} {a2 : Bool} {r1 : Int} {r2 : Int} {r3 : Int} (h : impl_with.f a0_0 a0_1 a0_2 a1 a2 = some (r1, r2, r3)) : Ctr Try.prog 172 [.ag [.v (.int .i64 a0_0), .v (.int .i64 a0_1), .v (.int .i64 a0_2)], .v (.int .i64 a1), .v (.bool a2)] (.ag [.v (.int .i64 r1), .v (.int .i64 r2), .v (.int .i64 r3)]) := by
  refine Ctr_of tyOk hm Try.func172 rfl rfl (by kernel_rfl) (n := 18) (rv := [.cell 6 27]) rfl rfl ?_
  simp only [W, List.replicate]
  unfold impl_with.f at h
  replace h := ifN h; obtain ⟨c1, h⟩ := h
  replace h := ifT h; rcases h with ⟨rfl, h⟩ | ⟨rfl, h⟩
  · cases h
    try simp only [W, c1, p1, p2, p3, p4, p5, p6, p7, p8, p9, p10, p11]
  · cases h
    try simp only [W, c1, p1, p2, p3, p4, p5, p6, p7, p8, p9, p10, p11]
set_option maxHeartbeats 8000000 in
set_option maxRecDepth 100000 in
theorem laws_markIntS.calls (k : Nat) (P0_ : Nat → Prop) (u9000_ : Value) (l0 : List Int) (a1 : Int) (r1 : Int) (r2 : List Int) (w0 w : World) (hB : Below w0.heap.size w0 w) (ho0 : Kd.R (Kd.int .i64) 3 w w0.heap.size P0_ u9000_ l0) (h : laws_markIntS.f k l0 a1 = some (r1, r2)) :
  Calls Try.prog 57 #[u9000_, .int .i64 a1] w fun e w' => e = .returned (.int .i64 r1) ∧ Kd.R (Kd.int .i64) 3 w' w0.heap.size (fun k_ => (P0_ k_ ∨ w.heap.size ≤ k_)) u9000_ r2 ∧ Below w0.heap.size w0 w' ∧ Kept w w' (fun k_ => P0_ k_) := by
 have HO0 := aK (show Kd.R (Kd.int .i64) 3 w w0.heap.size (fun k_ => (P0_ k_ ∨ w.heap.size ≤ k_)) u9000_ l0 from Kd.R_mono ho0 (fun k_ hk => (.inl hk)))
 have HK := aK (Kept.refl w (fun k_ => P0_ k_))
 have HW0 := aK hB.size
 have HB := aK hB
 clear hB
 have H : (laws_markIntS.l0 k l0 a1 0) = some (r1, r2) := h
 clear h
 have H' := aK H
 clear H
 go_enter Try.func57, Try.ntmps57
 go_wp2
 go_loopg [1, 5] k (fun kq v1 v5 w' => ∃ (x0_1 : List Int) (x1_1 : Int) (x5_1 : Int), v1 = .int .i64 x1_1 ∧ v5 = .int .i64 x5_1 ∧ Aside0 (laws_markIntS.l0 kq x0_1 x1_1 x5_1 = some (r1, r2)) ∧ Aside0 (kq ≤ k) ∧ Aside0 (Kd.R (Kd.int .i64) 3 w' w0.heap.size (fun k_ => (P0_ k_ ∨ w.heap.size ≤ k_)) u9000_ x0_1) ∧ Aside0 (Kept w w' (fun k_ => P0_ k_)) ∧ Aside0 (Below w0.heap.size w0 w'))
 case atStart => exact ⟨(l0), (a1), (0), (by first | rfl | (simp; done) | (simp [*]; done)), (by first | rfl | (simp; done) | (simp [*]; done)), H', ⟨Nat.le_refl _⟩, ⟨by (with_reducible repeat (first | apply Kd.R_alloc | apply Kd.R_drewN | apply Kd.R_drew)); exact HO0.out⟩, ⟨by repeat (first | (with_reducible first | exact HK.out | apply Kept.alloc | apply Kept.drewN | apply Kept.drew) | exact HK.out)⟩, ⟨by repeat (first | (with_reducible first | exact HB.out | apply bAl | apply bDN | apply bD1) | exact HB.out)⟩⟩
 case round =>
  clear H'
  try clear p2
  obtain ⟨x0_1, x1_1, x5_1, rfl, rfl, HA, HK1, HO_0, HK, HB⟩ := hrel
  cases gk with
  | zero => exact absurd HA.out (by simp [laws_markIntS.l0])
  | succ k1 =>
   have H := HA.out
   clear HA
   simp only [laws_markIntS.l0] at H
   by_cases c3 : x5_1 < (x0_1.length : Int)
   ·rw [if_pos c3] at H
    have c3b0 : decide (x5_1 < (x0_1.length : Int)) = true := decide_eq_true c3
    clear c3
    by_cases c4 : 0 ≤ x5_1
    ·rw [if_pos c4] at H
     have c4b0 : decide (0 ≤ x5_1) = true := decide_eq_true c4
     clear c4
     obtain ⟨y1294, hy1294⟩ : ∃ y_ : List Int, y_ = (x0_1.set (x5_1 : Int).toNat x1_1) := ⟨_, rfl⟩
     replace H : (laws_markIntS.l0 k1 y1294 (wrap64 (x1_1 + 1)) (wrap64 (x5_1 + 1))) = some (r1, r2) := by first | (rw [hy1294]; with_reducible exact H) | (have H2_ := (Option.bind_some _ _).symm.trans H; rw [hy1294]; with_reducible exact H2_) | (have H2_ := (Option.bind_some _ _).symm.trans H; with_reducible exact H2_) | with_reducible exact H | (rw [hy1294]; exact H) | exact H
     have Ny1294 := aK hy1294
     clear hy1294
     have H' := aK H
     clear H
     obtain ⟨Ao6, co6, eo6⟩ := Kd.R_slice HO_0.out
     subst eo6
     have p5 : 0 ≤ (x5_1 : Int) := of_decide_eq_true (by first | (with_reducible assumption) | assumption)
     have q5 : (x5_1 : Int) < ((x0_1.length : Int) : Int) := of_decide_eq_true (by first | (with_reducible assumption) | assumption)
     obtain ⟨go5, co5, eo5, gb5, gl5, cl5, HG5⟩ := Kd.R_form HO_0.out (by omega)
     (first | cases eo5 | (injection eo5 with ea_ en_ ec_; (first | subst ea_ | (injection ea_ with ea_; subst ea_)); subst ec_; clear en_))
     have GB5 := aK gb5
     have GG5 := aK HG5
     clear gb5 gl5 HG5
     have HMgo5 := aK (show (P0_ go5 ∨ w.heap.size ≤ go5) from (HO_0.out.1 _ rfl))
     obtain ⟨hx5_0, hf5_0⟩ := Kd.R_celln 0 HO_0.out (x5_1 : Int) p5 q5
     replace p5 := eq_true p5
     replace q5 := eq_true q5
     have HP7 := Kd.R_putg HO_0.out (x5_1 : Int) x1_1
     go_wp2_with (first | ((with_reducible refine gate_store (t := 3) (p := 15) rfl ?_); refine store_event (t := 3) (p := 15) (v := ?vo_w8) (w1 := (wr.setCell ⟨go5, (x5_1 : Int).toNat, none⟩ (.int .i64 x1_1))) ?hg ?ho ?hn ?hr ?_; (case ho => rfl); (case hg => rfl); (case hn => rfl); (case hr => first | (go_simp; done) | (go_simp; rfl)); intro w8 hw; have hg : wr.grownBy w8 (some go5) := (by rw [hw]; exact HP7.2); have hp_ : Kd.R (Kd.int .i64) 3 w8 w0.heap.size (fun k_ => (P0_ k_ ∨ w.heap.size ≤ k_)) (.slice (some ⟨go5, 0, none⟩) x0_1.length co6) y1294 := (by rw [hw, Ny1294.out]; exact HP7.1); clear HP7; have n0_ := aK (hp_); have n1_ := aK ((by rw [hw]; exact bSt (HB.out) GB5.out : Below w0.heap.size w0 w8)); have n2_ := aK (Kept.of_grown (S := (fun k_ => P0_ k_)) hg (by repeat (first | (with_reducible first | exact HK.out | apply Kept.alloc | apply Kept.drewN | apply Kept.drew) | exact HK.out)) (fun k_ e_ => (HO_0.out.1 k_ e_))); clear HO_0; clear HB; clear HK; have HO_0 := n0_; have HB := n1_; have HK := n2_; clear n0_ n1_ n2_; clear hg hw hp_))
     go_roundg k1
     case measure => have := HK1.out; omega
     case rel => exact ⟨(y1294), (wrap64 (x1_1 + 1)), (wrap64 (x5_1 + 1)), (by first | rfl | (simp; done) | (simp [*]; done)), (by first | rfl | (simp; done) | (simp [*]; done)), H', ⟨by have := HK1.out; omega⟩, ⟨by (with_reducible repeat (first | apply Kd.R_alloc | apply Kd.R_drewN | apply Kd.R_drew)); exact HO_0.out⟩, ⟨by repeat (first | (with_reducible first | exact HK.out | apply Kept.alloc | apply Kept.drewN | apply Kept.drew) | exact HK.out)⟩, ⟨by repeat (first | (with_reducible first | exact HB.out | apply bAl | apply bDN | apply bD1) | exact HB.out)⟩⟩
    ·rw [if_neg c4] at H
     exact absurd H (by simp)
   ·rw [if_neg c3] at H
    have c3b0 : decide (x5_1 < (x0_1.length : Int)) = false := decide_eq_false c3
    clear c3
    simp only [Option.some.injEq, Prod.mk.injEq] at H
    obtain ⟨rfl, rfl⟩ := H
    obtain ⟨Ao9, co9, eo9⟩ := Kd.R_slice HO_0.out
    subst eo9
    go_wp2
    go_ret
    exact ⟨by first | rfl | (simp [errW_none, errW_some] <;> rfl) | (simp [*, errW_none, errW_some] <;> rfl), by (with_reducible repeat (first | apply Kd.R_alloc | apply Kd.R_drewN | apply Kd.R_drew)); exact HO_0.out, by repeat (first | (with_reducible first | exact HB.out | apply bAl | apply bDN | apply bD1) | exact HB.out), by repeat (first | (with_reducible first | exact HK.out | apply Kept.alloc | apply Kept.drewN | apply Kept.drew) | exact HK.out)⟩
end Go.Proofs.Ytpeehicekddjhaa.F
end

section
namespace Go.Proofs.Ytpeehicekddjhaa.F
open Go.RowKit Go.Proofs.YtpeehicekddjhaaW.PrintWords Go.Proofs.YtpeehicekddjhaaW.PrintLast Go.Proofs.YtpeehicekddjhaaW.PrintMore
set_option linter.unusedVariables false
set_option linter.unusedSimpArgs false
attribute [local go_sem] max2_int min2_int max_two min_two
set_option maxRecDepth 20000 in set_option maxHeartbeats 4000000 in open Nat renaming reduceAdd → p1, reduceSub → p2, reduceMul → p3, reduceDiv → p4, reduceBNe → p5, reduceBEq → p6, reduceEqDiff → p7, reduceLeDiff → p8, reduceLT → p9 in open Int renaming reduceLE → p10, reduceLT → p11, reduceEq → p12 in
theorem spec_HedgeOk.ctr {k : Nat} {a0_0 : Int} {a0_1 : Int} {a0_2 : Int} {l0_3 : List Int} {a0_4 : Int} {r : Bool} (h : spec_HedgeOk.f k a0_0 a0_1 a0_2 l0_3 a0_4 = some r) : Ctr Try.prog 112 [.ag [.v (.int .i64 a0_0), .v (.int .i64 a0_1), .v (.int .i64 a0_2), .pr 1 (l0_3.map eI), .v (.int .i64 a0_4)]] (.v (.bool r)) := by
  refine Ctr_of tyOk hm Try.func112 rfl rfl (by kernel_rfl) (n := 35) (rv := [.tmp 2]) rfl rfl ?_
  simp only [W, List.replicate]
  unfold spec_HedgeOk.f at h
  try simp only [W, p1, p2, p3, p4, p5, p6, p7, p8, p9, p10, p11]
  refine loopN (fun x : Int × Int × Int × Int × List Int × Int => [.u, .bp 16 0, .u, .v (.int .i64 x.1), .u, .u, .u, .u, .u, .u, .u, .u, .u, .u, .u, .u, .u, .u, .u, .u, .u, .u, .u, .u, .u, .u, .u, .u, .u, .u, .u, .u, .u, .u, .u, .u]) (fun x => [(16, .box 82 [.v (.int .i64 x.2.1), .v (.int .i64 x.2.2.1), .v (.int .i64 x.2.2.2.1), .pr 1 (List.map eI x.2.2.2.2.1), .v (.int .i64 x.2.2.2.2.2)])]) (fun n x => spec_HedgeOk.l0 n x.1 x.2.1 x.2.2.1 x.2.2.2.1 x.2.2.2.2.1 x.2.2.2.2.2 = some r) (0, a0_0, a0_1, a0_2, l0_3, a0_4) [] h (by simp only [W, p1, p2, p3, p4, p5, p6, p7, p8, p9, p10, p11] <;> trivial) (by simp only [W, p1, p2, p3, p4, p5, p6, p7, p8, p9, p10, p11] <;> trivial) rfl (fun _ h => by cases h) ?_
  intro n1 ⟨x1, x2, x3, x4, x5, x6⟩ _ h
  simp only [spec_HedgeOk.l0] at h
  replace h := ifS h; rcases h with ⟨c7, h⟩ | ⟨c7, h⟩
  · replace h := ifN h; obtain ⟨c8, h⟩ := h
    replace h := bnd h; obtain ⟨t9, A, h⟩ := h
    try simp only [W, c7, c8, p1, p2, p3, p4, p5, p6, p7, p8, p9, p10, p11]
    refine callR (spec_l01In.ctr A) ?_
    replace h := ifT h; rcases h with ⟨rfl, h⟩ | ⟨rfl, h⟩
    · try simp only [W, c7, c8, p1, p2, p3, p4, p5, p6, p7, p8, p9, p10, p11]
      exact nextN ((wrap64 (x1 + 1)), x2, x3, x4, x5, x6) [] n1 (by omega) h (by simp only [W, p1, p2, p3, p4, p5, p6, p7, p8, p9, p10, p11] <;> trivial) (by simp only [W, p1, p2, p3, p4, p5, p6, p7, p8, p9, p10, p11] <;> trivial) rfl
    · cases h
      try simp only [W, c7, c8, p1, p2, p3, p4, p5, p6, p7, p8, p9, p10, p11]
  · replace h := bnd h; obtain ⟨t11, A, h⟩ := h
    try simp only [W, c7, p1, p2, p3, p4, p5, p6, p7, p8, p9, p10, p11]
    refine callR (spec_MazeOk.ctr A) ?_
    replace h := ifT h; rcases h with ⟨rfl, h⟩ | ⟨rfl, h⟩
    · replace h := bnd h; obtain ⟨t13, A, h⟩ := h
      try simp only [W, c7, p1, p2, p3, p4, p5, p6, p7, p8, p9, p10, p11]
      refine callR (spec_l01In.ctr A) ?_
      replace h := ifT h; rcases h with ⟨rfl, h⟩ | ⟨rfl, h⟩
      · replace h := bnd h; obtain ⟨t15, A, h⟩ := h
        try simp only [W, c7, p1, p2, p3, p4, p5, p6, p7, p8, p9, p10, p11]
        refine callR (spec_CountGaps.ctr A) ?_
        cases h
        try simp only [W, c7, p1, p2, p3, p4, p5, p6, p7, p8, p9, p10, p11]
      · cases h
        try simp only [W, c7, p1, p2, p3, p4, p5, p6, p7, p8, p9, p10, p11]
    · cases h
      try simp only [W, c7, p1, p2, p3, p4, p5, p6, p7, p8, p9, p10, p11]
set_option maxRecDepth 20000 in set_option maxHeartbeats 4000000 in open Nat renaming reduceAdd → p1, reduceSub → p2, reduceMul → p3, reduceDiv → p4, reduceBNe → p5, reduceBEq → p6, reduceEqDiff → p7, reduceLeDiff → p8, reduceLT → p9 in open Int renaming reduceLE → p10, reduceLT → p11, reduceEq → p12 in
theorem spec_l07In.ctr {k : Nat} {l0 : List Int} {a1 : Int} {r : Bool} (h : spec_l07In.f k l0 a1 = some r) : Ctr Try.prog 167 [.pr 1 (l0.map eI), .v (.int .i64 a1)] (.v (.bool r)) := by
  refine Ctr_of tyOk hm Try.func167 rfl rfl (by kernel_rfl) (n := 16) (rv := [.tmp 4]) rfl rfl ?_
  simp only [W, List.replicate]
  unfold spec_l07In.f at h
  try simp only [W, p1, p2, p3, p4, p5, p6, p7, p8, p9, p10, p11]
  refine loopN (fun x : List Int × Int × Int => [.pr 1 (List.map eI x.1), .v (.int .i64 x.2.1), .u, .u, .u, .v (.int .i64 x.2.2), .u, .u, .u, .u, .u, .u, .u, .u, .u, .u, .u, .u]) (fun x => []) (fun n x => spec_l07In.l0 n x.1 x.2.1 x.2.2 = some r) (l0, a1, 0) [] h (by simp only [W, p1, p2, p3, p4, p5, p6, p7, p8, p9, p10, p11] <;> trivial) (by simp only [W, p1, p2, p3, p4, p5, p6, p7, p8, p9, p10, p11] <;> trivial) rfl (fun _ h => by cases h) ?_
  intro n1 ⟨x1, x2, x3⟩ _ h
  simp only [spec_l07In.l0] at h
  replace h := ifS h; rcases h with ⟨c4, h⟩ | ⟨c4, h⟩
  · replace h := ifN h; obtain ⟨c5, h⟩ := h
    replace h := ifS h; rcases h with ⟨c6, h⟩ | ⟨c6, h⟩
    · cases h
      try simp only [W, c4, c5, eq_true c6, p1, p2, p3, p4, p5, p6, p7, p8, p9, p10, p11]
    · try simp only [W, c4, c5, c6, p1, p2, p3, p4, p5, p6, p7, p8, p9, p10, p11]
      exact nextN (x1, x2, (wrap64 (x3 + 1))) [] n1 (by omega) h (by simp only [W, p1, p2, p3, p4, p5, p6, p7, p8, p9, p10, p11] <;> trivial) (by simp only [W, p1, p2, p3, p4, p5, p6, p7, p8, p9, p10, p11] <;> trivial) rfl
  · cases h
    try simp only [W, c4, p1, p2, p3, p4, p5, p6, p7, p8, p9, p10, p11]
set_option maxRecDepth 20000 in set_option maxHeartbeats 4000000 in open Nat renaming reduceAdd → p1, reduceSub → p2, reduceMul → p3, reduceDiv → p4, reduceBNe → p5, reduceBEq → p6, reduceEqDiff → p7, reduceLeDiff → p8, reduceLT → p9 in open Int renaming reduceLE → p10, reduceLT → p11, reduceEq → p12 in
theorem spec_CrowdOk.ctr {k : Nat} {a0_0 : Int} {a0_1 : Int} {a0_2 : Int} {l1 : List Int} {r : Bool} (h : spec_CrowdOk.f k a0_0 a0_1 a0_2 l1 = some r) : Ctr Try.prog 113 [.ag [.v (.int .i64 a0_0), .v (.int .i64 a0_1), .v (.int .i64 a0_2)], .pr 1 (l1.map eI)] (.v (.bool r)) := by
  refine Ctr_of tyOk hm Try.func113 rfl rfl (by kernel_rfl) (n := 34) (rv := [.tmp 4]) rfl rfl ?_
  simp only [W, List.replicate]
  unfold spec_CrowdOk.f at h
  try simp only [W, p1, p2, p3, p4, p5, p6, p7, p8, p9, p10, p11, p12]
  refine loopN (fun x : List Int × Int × Int × Int × Int => [.u, .pr 1 (List.map eI x.1), .bp 32 0, .u, .u, .v (.int .i64 x.2.1), .u, .u, .u, .u, .u, .u, .u, .u, .u, .u, .u, .u, .u, .u, .u, .u, .u, .u, .u, .u, .u, .u, .u, .u, .u, .u, .u, .u, .u, .u]) (fun x => [(32, .box 27 [.v (.int .i64 x.2.2.1), .v (.int .i64 x.2.2.2.1), .v (.int .i64 x.2.2.2.2)])]) (fun n x => spec_CrowdOk.l0 n x.1 x.2.1 x.2.2.1 x.2.2.2.1 x.2.2.2.2 = some r) (l1, 0, a0_0, a0_1, a0_2) [] h (by simp only [W, p1, p2, p3, p4, p5, p6, p7, p8, p9, p10, p11, p12] <;> trivial) (by simp only [W, p1, p2, p3, p4, p5, p6, p7, p8, p9, p10, p11, p12] <;> trivial) rfl (fun _ h => by cases h) ?_
  intro n1 ⟨x1, x2, x3, x4, x5⟩ _ h
  simp only [spec_CrowdOk.l0] at h
  replace h := ifS h; rcases h with ⟨c6, h⟩ | ⟨c6, h⟩
  · replace h := ifN h; obtain ⟨c7, h⟩ := h
    replace h := bnd h; obtain ⟨t8, A, h⟩ := h
    try simp only [W, c6, c7, p1, p2, p3, p4, p5, p6, p7, p8, p9, p10, p11, p12]
    refine callR (spec_l04Has.ctr A) ?_
    replace h := ifT h; rcases h with ⟨rfl, h⟩ | ⟨rfl, h⟩
    · replace h := ifN h; obtain ⟨c10, h⟩ := h
      replace h := bnd h; obtain ⟨t11, A, h⟩ := h
      try simp only [W, c6, c7, c10, p1, p2, p3, p4, p5, p6, p7, p8, p9, p10, p11, p12]
      refine callR (spec_l07In.ctr A) ?_
      replace h := ifT h; rcases h with ⟨rfl, h⟩ | ⟨rfl, h⟩
      · cases h
        try simp only [W, c6, c7, c10, p1, p2, p3, p4, p5, p6, p7, p8, p9, p10, p11, p12]
      · try simp only [W, c6, c7, c10, p1, p2, p3, p4, p5, p6, p7, p8, p9, p10, p11, p12]
        exact nextN (x1, (wrap64 (x2 + 1)), x3, x4, x5) [] n1 (by omega) h (by simp only [W, p1, p2, p3, p4, p5, p6, p7, p8, p9, p10, p11, p12] <;> trivial) (by simp only [W, p1, p2, p3, p4, p5, p6, p7, p8, p9, p10, p11, p12] <;> trivial) rfl
    · cases h
      try simp only [W, c6, c7, p1, p2, p3, p4, p5, p6, p7, p8, p9, p10, p11, p12]
  · replace h := bnd h; obtain ⟨t13, A, h⟩ := h
    try simp only [W, c6, p1, p2, p3, p4, p5, p6, p7, p8, p9, p10, p11, p12]
    refine callR (spec_MazeOk.ctr A) ?_
    replace h := ifT h; rcases h with ⟨rfl, h⟩ | ⟨rfl, h⟩
    · cases h
      try simp only [W, c6, p1, p2, p3, p4, p5, p6, p7, p8, p9, p10, p11, p12]
    · cases h
      try simp only [W, c6, p1, p2, p3, p4, p5, p6, p7, p8, p9, p10, p11, p12]
end Go.Proofs.Ytpeehicekddjhaa.F
end

section
namespace Go.Proofs.Ytpeehicekddjhaa.F
open Go.RowKit Go.Proofs.YtpeehicekddjhaaW.PrintWords Go.Proofs.YtpeehicekddjhaaW.PrintLast Go.Proofs.YtpeehicekddjhaaW.PrintMore
set_option linter.unusedVariables false
set_option linter.unusedSimpArgs false
attribute [local go_sem] max2_int min2_int max_two min_two
set_option maxRecDepth 20000 in set_option maxHeartbeats 4000000 in open Nat renaming reduceAdd → p1, reduceSub → p2, reduceMul → p3, reduceDiv → p4, reduceBNe → p5, reduceBEq → p6, reduceEqDiff → p7, reduceLeDiff → p8, reduceLT → p9 in open Int renaming reduceLE → p10, reduceLT → p11, reduceEq → p12 in
theorem spec_OpenNow.ctr {k : Nat} {a0_0 : Int} {a0_1 : Int} {a0_2 : Int} {l0_3 : List Int} {a0_4 : Int} {r1 : Int} {r2 : Int} {r3 : Int} (h : spec_OpenNow.f k a0_0 a0_1 a0_2 l0_3 a0_4 = some (r1, r2, r3)) : Ctr Try.prog 116 [.ag [.v (.int .i64 a0_0), .v (.int .i64 a0_1), .v (.int .i64 a0_2), .pr 1 (l0_3.map eI), .v (.int .i64 a0_4)]] (.ag [.v (.int .i64 r1), .v (.int .i64 r2), .v (.int .i64 r3)]) := by
  refine Ctr_of tyOk hm Try.func116 rfl rfl (by kernel_rfl) (n := 32) (rv := [.cell 2 27]) rfl rfl ?_
  simp only [W, List.replicate]
  unfold spec_OpenNow.f at h
  replace h := bnd h; obtain ⟨t1, A, h⟩ := h
  try simp only [W, p1, p2, p3, p4, p5, p6, p7, p8, p9, p10, p11, p12]
  refine callR (spec_HedgeOk.ctr A) ?_
  replace h := ifT h; rcases h with ⟨rfl, h⟩ | ⟨rfl, h⟩
  · try simp only [W, p1, p2, p3, p4, p5, p6, p7, p8, p9, p10, p11, p12]
    refine loopN (fun x : Int × Int × Int × Int × List Int × Int × Int × Int × Int × Int × Int × Int => [.u, .bp 16 0, .bp 32 0, .bp 48 0, .v (.int .i64 x.1), .u, .u, .u, .u, .bp 16 0, .u, .u, .u, .u, .u, .u, .u, .u, .u, .u, .u, .u, .u, .u, .u, .u, .u, .u, .u, .u, .u, .u, .u]) (fun x => [(16, .box 82 [.v (.int .i64 x.2.1), .v (.int .i64 x.2.2.1), .v (.int .i64 x.2.2.2.1), .pr 1 (List.map eI x.2.2.2.2.1), .v (.int .i64 x.2.2.2.2.2.1)]), (32, .box 27 [.v (.int .i64 x.2.2.2.2.2.2.2.2.2.1), .v (.int .i64 x.2.2.2.2.2.2.2.2.2.2.1), .v (.int .i64 x.2.2.2.2.2.2.2.2.2.2.2)]), (48, .box 27 [.v (.int .i64 x.2.2.2.2.2.2.1), .v (.int .i64 x.2.2.2.2.2.2.2.1), .v (.int .i64 x.2.2.2.2.2.2.2.2.1)])]) (fun n x => spec_OpenNow.l0 n x.1 x.2.1 x.2.2.1 x.2.2.2.1 x.2.2.2.2.1 x.2.2.2.2.2.1 x.2.2.2.2.2.2.1 x.2.2.2.2.2.2.2.1 x.2.2.2.2.2.2.2.2.1 = some (r1, r2, r3)) (0, a0_0, a0_1, a0_2, l0_3, a0_4, a0_0, a0_1, a0_2, 0, 0, 0) [] h (by simp only [W, p1, p2, p3, p4, p5, p6, p7, p8, p9, p10, p11, p12] <;> trivial) (by simp only [W, p1, p2, p3, p4, p5, p6, p7, p8, p9, p10, p11, p12] <;> trivial) rfl (fun _ h => by cases h) ?_
    intro n1 ⟨x3, x4, x5, x6, x7, x8, x9, x10, x11, y12, y13, y14⟩ _ h
    simp only [spec_OpenNow.l0] at h
    replace h := ifS h; rcases h with ⟨c15, h⟩ | ⟨c15, h⟩
    · replace h := ifN h; obtain ⟨c16, h⟩ := h
      replace h := ifS h; rcases h with ⟨c17, h⟩ | ⟨c17, h⟩
      · replace h := bnd h; obtain ⟨⟨t18_1, t18_2, t18_3, t18_4⟩, A, h⟩ := h
        dsimp only at h
        try simp only [W, c15, c16, c17, p1, p2, p3, p4, p5, p6, p7, p8, p9, p10, p11, p12]
        refine callR (spec_SetGap.ctr A) ?_
        try simp only [W, c15, c16, c17, p1, p2, p3, p4, p5, p6, p7, p8, p9, p10, p11, p12]
        exact nextN ((wrap64 (x3 + 1)), x4, x5, x6, x7, x8, t18_1, t18_2, t18_3, y12, y13, y14) [] n1 (by omega) h (by simp only [W, p1, p2, p3, p4, p5, p6, p7, p8, p9, p10, p11, p12] <;> trivial) (by simp only [W, p1, p2, p3, p4, p5, p6, p7, p8, p9, p10, p11, p12] <;> trivial) rfl
      · try simp only [W, c15, c16, c17, p1, p2, p3, p4, p5, p6, p7, p8, p9, p10, p11, p12]
        exact nextN ((wrap64 (x3 + 1)), x4, x5, x6, x7, x8, x9, x10, x11, y12, y13, y14) [] n1 (by omega) h (by simp only [W, p1, p2, p3, p4, p5, p6, p7, p8, p9, p10, p11, p12] <;> trivial) (by simp only [W, p1, p2, p3, p4, p5, p6, p7, p8, p9, p10, p11, p12] <;> trivial) rfl
    · cases h
      try simp only [W, c15, p1, p2, p3, p4, p5, p6, p7, p8, p9, p10, p11, p12]
  · cases h
    try simp only [W, p1, p2, p3, p4, p5, p6, p7, p8, p9, p10, p11, p12]
end Go.Proofs.Ytpeehicekddjhaa.F
end
