/- Packed by a program of the session (wip/tools/pack.py): what the claim's theorem reaches, of the texts that wip/ and the kit's printer lay. -/
import Derived.Test.YtpeehicekddjhaaPkFnRecords6
import Derived.Laws.StructEq
section
namespace Go.Proofs.Ytpeehicekddjhaa.F
open Go.RowKit Go.Proofs.YtpeehicekddjhaaW.PrintWords Go.Proofs.YtpeehicekddjhaaW.PrintLast Go.Proofs.YtpeehicekddjhaaW.PrintMore
set_option linter.unusedVariables false
set_option linter.unusedSimpArgs false
attribute [local go_sem] max2_int min2_int max_two min_two
set_option maxRecDepth 20000 in set_option maxHeartbeats 4000000 in open Nat renaming reduceAdd → p1, reduceSub → p2, reduceMul → p3, reduceDiv → p4, reduceBNe → p5, reduceBEq → p6, reduceEqDiff → p7, reduceLeDiff → p8, reduceLT → p9 in open Int renaming reduceLE → p10, reduceLT → p11, reduceEq → p12 in
theorem spec_SetGap.ctr {k : Nat} {a0_0 : Int} {a0_1 : Int} {a0_2 : Int} {a1 : Int} {a2 : Bool} {r1 : Int} {r2 : Int} {r3 : Int} {r4 : Bool} (h : spec_SetGap.f k a0_0 a0_1 a0_2 a1 a2 = some (r1, r2, r3, r4)) : Ctr Try.prog 106 [.ag [.v (.int .i64 a0_0), .v (.int .i64 a0_1), .v (.int .i64 a0_2)], .v (.int .i64 a1), .v (.bool a2)] (.tu [.ag [.v (.int .i64 r1), .v (.int .i64 r2), .v (.int .i64 r3)], .v (.bool r4)]) := by
  refine Ctr_of tyOk hm Try.func106 rfl rfl (by kernel_rfl) (n := 31) (rv := [.cell 6 27, .tmp 7]) rfl rfl ?_
  simp only [W, List.replicate]
  unfold spec_SetGap.f at h
  replace h := bnd h; obtain ⟨t1, A, h⟩ := h
  try simp only [W, p1, p2, p3, p4, p5, p6, p7, p8, p9, p10, p11]
  refine callR (spec_MazeOk.ctr A) ?_
  replace h := ifT h; rcases h with ⟨rfl, h⟩ | ⟨rfl, h⟩
  · replace h := bnd h; obtain ⟨t3, A, h⟩ := h
    try simp only [W, p1, p2, p3, p4, p5, p6, p7, p8, p9, p10, p11]
    refine callR (spec_CountGaps.ctr A) ?_
    replace h := bnd h; obtain ⟨t4, A, h⟩ := h
    try simp only [W, p1, p2, p3, p4, p5, p6, p7, p8, p9, p10, p11]
    refine callR (spec_l01In.ctr A) ?_
    rcases k with _ | m5; · cases h
    rw [spec_SetGap.j0] at h
    replace h := ifT h; rcases h with ⟨c6, h⟩ | ⟨c6, h⟩
    · cases h
      try simp only [W, c6, p1, p2, p3, p4, p5, p6, p7, p8, p9, p10, p11]
    · replace h := bnd h; obtain ⟨t7, A, h⟩ := h
      try simp only [W, c6, p1, p2, p3, p4, p5, p6, p7, p8, p9, p10, p11]
      refine callR (spec_l03Bit.ctr A) ?_
      replace h := ifT h; rcases h with ⟨c8, h⟩ | ⟨c8, h⟩
      · replace h := ifN h; obtain ⟨c9, h⟩ := h
        cases h
        try simp only [W, c6, c8, c9, p1, p2, p3, p4, p5, p6, p7, p8, p9, p10, p11]
      · cases h
        try simp only [W, c6, c8, p1, p2, p3, p4, p5, p6, p7, p8, p9, p10, p11]
  · rcases k with _ | m10; · cases h
    rw [spec_SetGap.j0] at h
    rw [if_pos rfl] at h
    cases h
    try simp only [W, p1, p2, p3, p4, p5, p6, p7, p8, p9, p10, p11]
theorem spec_SetGap.calls (k : Nat) (a0_0 : Int) (a0_1 : Int) (a0_2 : Int) (a1 : Int) (a2 : Bool) (r1 : Int) (r2 : Int) (r3 : Int) (r4 : Bool) (w : World) (h : spec_SetGap.f k a0_0 a0_1 a0_2 a1 a2 = some (r1, r2, r3, r4)) :
    Calls Try.prog 106 #[.agg #[.int .i64 a0_0, .int .i64 a0_1, .int .i64 a0_2], .int .i64 a1, .bool a2] w fun e w' => e = .returned (.tuple #[.agg #[.int .i64 r1, .int .i64 r2, .int .i64 r3], .bool r4]) ∧ Below w.heap.size w w' := by
  refine ((spec_SetGap.ctr h).2 w [.agg #[.int .i64 a0_0, .int .i64 a0_1, .int .i64 a0_2], .int .i64 a1, .bool a2] (by simp only [RepL, Rep]; exact ⟨_, _, rfl, ⟨_, rfl, _, _, rfl, rfl, _, _, rfl, rfl, _, _, rfl, rfl, rfl⟩, _, _, rfl, rfl, _, _, rfl, rfl, rfl⟩)).mono ?_
  rintro _ _ ⟨y, L, rfl, hR, _, hb⟩
  exact ⟨congrArg Ending.returned (RepR_pln rfl hR).1, hb⟩
set_option maxRecDepth 20000 in set_option maxHeartbeats 4000000 in open Nat renaming reduceAdd → p1, reduceSub → p2, reduceMul → p3, reduceDiv → p4, reduceBNe → p5, reduceBEq → p6, reduceEqDiff → p7, reduceLeDiff → p8, reduceLT → p9 in open Int renaming reduceLE → p10, reduceLT → p11, reduceEq → p12 in
theorem impl_WaysFrom.ctr {k : Nat} {a0_0 : Int} {a0_1 : Int} {a0_2 : Int} {a1 : Int} {r : List Int} (h : impl_WaysFrom.f k a0_0 a0_1 a0_2 a1 = some r) : Ctr Try.prog 137 [.ag [.v (.int .i64 a0_0), .v (.int .i64 a0_1), .v (.int .i64 a0_2)], .v (.int .i64 a1)] (.ow 3 1 (r.map eI)) := by
  refine Ctr_of tyOk hm Try.func137 rfl rfl (by kernel_rfl) (n := 19) (rv := [.tmp 4]) rfl rfl ?_
  simp only [W, List.replicate]
  unfold impl_WaysFrom.f at h
  try simp only [W, p1, p2, p3, p4, p5, p6, p7, p8, p9, p10, p11]
  refine loopN (fun x : Int × List Int × Int × Int × Int × Int => [.u, .v (.int .i64 x.1), .bp 32 0, .u, .u, .lo 80, .v (.int .i64 x.2.2.1), .u, .u, .u, .u, .u, .u, .u, .u, .u, .u, .u, .u, .u, .u]) (fun x => [(32, .box 27 [.v (.int .i64 x.2.2.2.1), .v (.int .i64 x.2.2.2.2.1), .v (.int .i64 x.2.2.2.2.2)]), (80, .row 3 1 (List.map eI x.2.1))]) (fun n x => impl_WaysFrom.l0 n x.1 x.2.1 x.2.2.1 x.2.2.2.1 x.2.2.2.2.1 x.2.2.2.2.2 = some r) (a1, ([] : List Int), 0, a0_0, a0_1, a0_2) [] h (by simp only [W, p1, p2, p3, p4, p5, p6, p7, p8, p9, p10, p11] <;> trivial) (by simp only [W, p1, p2, p3, p4, p5, p6, p7, p8, p9, p10, p11] <;> trivial) rfl (fun _ h => by cases h) ?_
  intro n1 ⟨x1, x2, x3, x4, x5, x6⟩ _ h
  simp only [impl_WaysFrom.l0] at h
  replace h := ifS h; rcases h with ⟨c7, h⟩ | ⟨c7, h⟩
  · replace h := bnd h; obtain ⟨t8, A, h⟩ := h
    try simp only [W, c7, p1, p2, p3, p4, p5, p6, p7, p8, p9, p10, p11]
    refine callR (impl_Step.ctr A) ?_
    replace h := ifS h; rcases h with ⟨c9, h⟩ | ⟨c9, h⟩
    · replace h := ifN h; obtain ⟨c10, h⟩ := h
      try simp only [W, c7, c9, c10, p1, p2, p3, p4, p5, p6, p7, p8, p9, p10, p11]
      exact nextN (x1, (x2 ++ [x3]), (wrap64 (x3 + 1)), x4, x5, x6) [(80, 304)] n1 (by omega) h (by simp only [W, p1, p2, p3, p4, p5, p6, p7, p8, p9, p10, p11] <;> trivial) (by simp only [W, p1, p2, p3, p4, p5, p6, p7, p8, p9, p10, p11] <;> trivial) rfl
    · try simp only [W, c7, c9, p1, p2, p3, p4, p5, p6, p7, p8, p9, p10, p11]
      exact nextN (x1, x2, (wrap64 (x3 + 1)), x4, x5, x6) [] n1 (by omega) h (by simp only [W, p1, p2, p3, p4, p5, p6, p7, p8, p9, p10, p11] <;> trivial) (by simp only [W, p1, p2, p3, p4, p5, p6, p7, p8, p9, p10, p11] <;> trivial) rfl
  · cases h
    try simp only [W, c7, p1, p2, p3, p4, p5, p6, p7, p8, p9, p10, p11]
theorem impl_WaysFrom.calls (k : Nat) (a0_0 : Int) (a0_1 : Int) (a0_2 : Int) (a1 : Int) (r : List Int) (w : World) (h : impl_WaysFrom.f k a0_0 a0_1 a0_2 a1 = some r) :
    Calls Try.prog 137 #[.agg #[.int .i64 a0_0, .int .i64 a0_1, .int .i64 a0_2], .int .i64 a1] w fun e w' => ∃ v0_ : Value, e = .returned (v0_) ∧ Kd.R (Kd.int .i64) 3 w' w.heap.size (fun _ => True) v0_ r ∧ Below w.heap.size w w' := by
  refine ((impl_WaysFrom.ctr h).2 w [.agg #[.int .i64 a0_0, .int .i64 a0_1, .int .i64 a0_2], .int .i64 a1] (by simp only [RepL, Rep]; exact ⟨_, _, rfl, ⟨_, rfl, _, _, rfl, rfl, _, _, rfl, rfl, _, _, rfl, rfl, rfl⟩, _, _, rfl, rfl, rfl⟩)).mono ?_
  rintro _ _ ⟨y, L, rfl, hR, _, hb⟩
  simp only [RepR] at hR
  exact ⟨y, rfl, R_of_row E_eI hR.1, hb⟩
def keptI (p : Int → Bool) (xs : List Int) (j : Nat) : List Int := (xs.take j).filter fun x => !p x
theorem keptI_succ (p : Int → Bool) (xs : List Int) (j : Nat) (hj : j < xs.length) : keptI p xs (j + 1) = if p (xs.getD j 0) then keptI p xs j else keptI p xs j ++ [xs.getD j 0] := by
  unfold keptI
  have e : xs.getD j 0 = xs[j] := by rw [List.getD_eq_getElem?_getD, List.getElem?_eq_getElem hj]; rfl
  rw [List.take_add_one, List.getElem?_eq_getElem hj, List.filter_append, e]
  cases h : p xs[j] <;> simp [h]
set_option maxHeartbeats 2000000 in
set_option maxRecDepth 100000 in
theorem slices_DeleteFunc_int.calls (p : Int → Bool) (g : Nat) (lb : Array Value) (eg : ∀ args w, (callFunc g args).run Try.prog w = .ok (.enter g args) w) (b cap : Nat) (xs : List Int) (cur : List Value) (w : World)
  (hb : w.heap[b]? = some (.cells cur.toArray 3 (0, 0))) (hl : cur.length = cap) (hn : xs.length ≤ cap) (hm : cap ≤ maxLen) (hx : ∀ j, j < xs.length → cur[j]? = some (.int .i64 (xs.getD j 0)))
  (hp : ∀ (W : World) (x : Int), x ∈ xs → w.grownBy W (some b) → Calls Try.prog g (#[.int .i64 x] ++ lb) W fun e w' => e = .returned (.bool (p x)) ∧ Below W.heap.size W w') :
  Calls Try.prog 66 #[.slice (some ⟨b, 0, none⟩) xs.length cap, .func (.func g) #[] lb] w fun e w' =>
   ∃ cur' : List Value, e = .returned (.slice (some ⟨b, 0, none⟩) (xs.filter fun x => !p x).length cap) ∧ w'.heap[b]? = some (.cells cur'.toArray 3 (0, 0)) ∧ cur'.length = cap ∧
    (∀ j, j < (xs.filter fun x => !p x).length → cur'[j]? = some (.int .i64 ((xs.filter fun x => !p x).getD j 0))) ∧ w.grownBy w' (some b) := by
 have hC : Kd.C (Kd.int .i64) w (some ⟨b, 0, none⟩) xs.length xs := by
  refine Kd.C_of_reads (d := (0 : Int)) (h1 := fun _ => rfl) ?_
  refine ⟨rfl, ?_, fun _ => ⟨⟨b, 0, none⟩, rfl, fun j hj => ?_⟩⟩
  ·have : maxLen = 9223372036854775807 := rfl
   omega
  ·rw [add_plain]
   exact ((kC hb j).trans (by simp)).trans (hx j hj)
 have hI := slices_IndexFunc_int.calls p g lb eg (some ⟨b, 0, none⟩) cap xs w hC (fun W x hxm hbel => (hp W x hxm (grown_below (grown_refl w _) hbel)).mono fun e w' ⟨h1, h2⟩ => ⟨h1, hbel.trans (h2.mono hbel.size)⟩)
 have hn63 : xs.length ≤ 9223372036854775807 := Nat.le_trans hn (Nat.le_trans hm (by decide))
 have HP := aK hp
 have HX := aK hx
 have HB := aK hb
 have HN := aK hn
 have HM := aK hm
 have HL := aK hl
 clear hp hC
 cases hf : xs.findIdx? p with
 | none =>
  have hno : ∀ x ∈ xs, p x = false := fun x hx => by simpa using (List.findIdx?_eq_none_iff.1 hf) x hx
  have e1 : idxF p xs = -1 := by unfold idxF; rw [hf]
  have e2 : (xs.filter fun x => !p x) = xs := List.filter_eq_self.2 fun x hx => by rw [hno x hx]; rfl
  rw [e1] at hI
  rw [e2]
  clear hb hx hn hm hl
  go_enter Try.func66, Try.ntmps66
  go_wp2_with (go_at_call 138; refine hI.mono ?_; rintro e w' ⟨rfl, hb'⟩; have HB' := aK hb'; clear hb')
  go_ret
  exact ⟨cur, rfl, (HB'.out.block b (blk_lt HB.out)).trans HB.out, HL.out, HX.out, grown_below (grown_refl w _) HB'.out⟩
 | some k0 =>
  obtain ⟨hk0, hpk, hlow⟩ := List.findIdx?_eq_some_iff_getElem.1 hf
  have e1 : idxF p xs = (k0 : Int) := by unfold idxF; rw [hf]
  rw [e1] at hI
  have hne1 : ((k0 : Int) == -1) = false := beq_eq_false_iff_ne.2 (by omega)
  have hkl : ∀ t, t ≤ k0 → keptI p xs t = xs.take t := fun t ht => by
   unfold keptI
   refine List.filter_eq_self.2 fun x hx => ?_
   obtain ⟨q, hq, rfl⟩ := List.getElem_of_mem hx
   rw [List.length_take] at hq
   rw [List.getElem_take]
   have := hlow q (by omega)
   simpa using this
  have hk1 : keptI p xs (k0 + 1) = xs.take k0 := by
   rw [keptI_succ p xs k0 hk0, show xs.getD k0 0 = xs[k0] by rw [List.getD_eq_getElem?_getD, List.getElem?_eq_getElem hk0]; rfl, hpk, if_pos rfl, hkl k0 (Nat.le_refl _)]
  have HK1 := aK hk1
  have HK0 := aK hk0
  clear hb hx hn hm hl hk1 hkl hlow hpk hf e1
  go_enter Try.func66, Try.ntmps66
  go_wp2_with (go_at_call 138; refine hI.mono ?_; rintro e w' ⟨rfl, hb'⟩; have HB' := aK hb'; clear hb')
  go_loopg [5, 6, 7] xs.length (fun gg s5 s6 _ wr => ∃ (i j : Nat) (c2 : List Value), s5 = .int .i64 i ∧ s6 = .int .i64 j ∧ i < j ∧ j ≤ xs.length ∧ xs.length - j ≤ gg ∧ Aside0 (i = (keptI p xs j).length) ∧ Aside0 (wr.heap[b]? = some (.cells c2.toArray 3 (0, 0))) ∧ Aside0 (c2.length = cap) ∧ Aside0 (∀ t, t < i → c2[t]? = some (.int .i64 ((keptI p xs j).getD t 0))) ∧ Aside0 (∀ t, j ≤ t → t < xs.length → c2[t]? = some (.int .i64 (xs.getD t 0))) ∧ Aside0 (w.grownBy wr (some b)))
  case atStart =>
   have hk := HK0.out
   refine ⟨k0, k0 + 1, cur, rfl, by go_num, by omega, by omega, by omega, ⟨by rw [HK1.out, List.length_take]; omega⟩, ⟨(HB'.out.block b (blk_lt HB.out)).trans HB.out⟩, HL, ⟨fun t ht => ?_⟩, ⟨fun t _ ht => HX.out t ht⟩, ⟨grown_below (grown_refl w _) HB'.out⟩⟩
   rw [HX.out t (by omega), HK1.out, List.getD_eq_getElem?_getD, List.getD_eq_getElem?_getD, List.getElem?_take, if_pos ht]
  case round =>
   obtain ⟨i, j, c2, rfl, rfl, hij, hjn, hgg, hil, B2, L2, A2, A3, G2⟩ := hrel
   by_cases hlt : j < xs.length
   ·have hltz : (j : Int) < (xs.length : Int) := by omega
    have hjz : (0 : Int) ≤ (j : Int) := by omega
    have hiz : (0 : Int) ≤ (i : Int) := by omega
    have hilz : (i : Int) < (xs.length : Int) := by omega
    have hmem : xs.getD j 0 ∈ xs := by rw [List.getD_eq_getElem?_getD, List.getElem?_eq_getElem hlt]; exact List.getElem_mem _
    have hcall := HP.out wr (xs.getD j 0) hmem G2.out
    have cj : wr.cell? ⟨b, j, none⟩ = some (.int .i64 (xs.getD j 0)) := ((kC B2.out j).trans (by simp)).trans (A3.out j (Nat.le_refl _) hlt)
    have KS := aK (keptI_succ p xs j hlt)
    generalize hu : xs.getD j 0 = u at cj hcall KS
    have HU := aK hu
    clear hu hmem
    cases hq : p u with
    | false =>
     rw [hq] at hcall
     have HQ := aK hq
     clear hq
     have ho : i < c2.length := by have := L2.out; have := HN.out; omega
     obtain ⟨old, hold⟩ : ∃ old, c2[i]? = some old := ⟨c2[i], List.getElem?_eq_getElem ho⟩
     have HO := aK hold
     clear hold ho
     go_wp2_with (go_at_fn g; refine hcall.mono ?_; rintro e w1 ⟨rfl, hb1⟩; have HB1 := aK hb1; clear hb1; have E1 := aK ((HB1.out.block b (blk_lt B2.out)).trans B2.out); have ci : w1.cell? ⟨b, i, none⟩ = some old := ((kC E1.out i).trans (by simp)).trans HO.out; have fi : w1.frozen? ⟨b, i, none⟩ = false := kF E1.out i)
     go_roundg (xs.length - (j + 1))
     case measure => omega
     case rel =>
      have hk : keptI p xs (j + 1) = keptI p xs j ++ [u] := by rw [KS.out, HQ.out]; rfl
      refine ⟨i + 1, j + 1, c2.set i (.int .i64 u), by go_num, by go_num, by omega, by omega, Nat.le_refl _, ⟨by rw [hk, List.length_append, ← hil.out]; rfl⟩, ⟨blk_put E1.out i _ (by simp)⟩, ⟨by rw [List.length_set]; exact L2.out⟩, ⟨fun t ht => ?_⟩, ⟨fun t h1 h2 => ?_⟩, ⟨grown_set (grown_below G2.out HB1.out) i _⟩⟩
      ·rw [hk, List.getElem?_set]
       by_cases e : i = t
       ·subst e
        rw [if_pos rfl, if_pos (by have := L2.out; have := HN.out; omega), List.getD_eq_getElem?_getD, List.getElem?_append_right (by have := hil.out; omega), ← hil.out]
        simp
       ·rw [if_neg e, A2.out t (by omega), List.getD_eq_getElem?_getD, List.getD_eq_getElem?_getD, List.getElem?_append_left (by have := hil.out; omega)]
      ·rw [List.getElem?_set, if_neg (by omega)]
       exact A3.out t (by omega) h2
    | true =>
     rw [hq] at hcall
     have HQ := aK hq
     clear hq
     go_wp2_with (go_at_fn g; refine hcall.mono ?_; rintro e w1 ⟨rfl, hb1⟩; have HB1 := aK hb1; clear hb1; have E1 := aK ((HB1.out.block b (blk_lt B2.out)).trans B2.out))
     go_roundg (xs.length - (j + 1))
     case measure => omega
     case rel =>
      have hk : keptI p xs (j + 1) = keptI p xs j := by rw [KS.out, HQ.out]; rfl
      exact ⟨i, j + 1, c2, rfl, by go_num, by omega, by omega, Nat.le_refl _, ⟨by rw [hk]; exact hil.out⟩, E1, L2, ⟨by rw [hk]; exact A2.out⟩, ⟨fun t h1 h2 => A3.out t (by omega) h2⟩, ⟨grown_below G2.out HB1.out⟩⟩
   ·have hltz : ¬ (j : Int) < (xs.length : Int) := by omega
    obtain rfl : j = xs.length := by omega
    have hE := B2.out
    have hlc := L2.out
    have hnc := HN.out
    have hmx := HM.out
    have k1 : (i ≤ cap) = True := eq_true (by omega)
    have k2 : (cap = i) = False := eq_false (by omega)
    have k3 : (i ≤ xs.length) = True := eq_true (by omega)
    have hiz : (0 : Int) ≤ (i : Int) := by omega
    have hcl : ∀ ty, (Builtin.clear_ #[39] ty #[.slice (some ⟨b, i, none⟩) (xs.length - i) (cap - i)]).run Try.prog wr = .ok (.tuple #[]) (wr.setCells b i (List.replicate (xs.length - i) (.int .i64 0))) :=
     fun ty => Go.Lib.run_clear_slice wr 39 3 ty (.int .i64 0) Try.underlying39 (fun w => by first | rfl | kernel_rfl) rfl rfl b i _ _ (by omega) (fun t ht => by rw [kC hE, List.getElem?_toArray, List.getElem?_eq_getElem (by omega)]; rfl) (fun t ht => kF hE _)
    obtain ⟨c3, q1, q2, q3, q4⟩ := setCells_row (w := w) (e := 3) (List.replicate (xs.length - i) (.int .i64 0)) i wr c2 hE (by rw [List.length_replicate]; omega) G2.out
    have Q1 := aK q1
    have Q2 := aK q2
    have Q3 := aK q3
    have Q4 := aK q4
    clear q1 q2 q3 q4 hE hlc hnc hmx
    go_wp2
    go_ret
    have hk : (xs.filter fun x => !p x) = keptI p xs xs.length := by unfold keptI; rw [List.take_length]
    refine ⟨by rw [hk, ← hil.out]; rfl, c3, Q1.out, by rw [Q2.out]; exact L2.out, fun t ht => ?_, Q4.out⟩
    rw [hk] at ht ⊢
    rw [Q3.out t (by have := hil.out; omega)]
    exact A2.out t (by have := hil.out; omega)
set_option maxRecDepth 20000 in set_option maxHeartbeats 4000000 in open Nat renaming reduceAdd → p1, reduceSub → p2, reduceMul → p3, reduceDiv → p4, reduceBNe → p5, reduceBEq → p6, reduceEqDiff → p7, reduceLeDiff → p8, reduceLT → p9 in open Int renaming reduceLE → p10, reduceLT → p11, reduceEq → p12 in
theorem impl_upTo.ctr {k : Nat} {a0 : Int} {r : List Int} (h : impl_upTo.f k a0 = some r) : Ctr Try.prog 67 [.v (.int .i64 a0)] (.ow 3 1 (r.map eI)) := by
  refine Ctr_of tyOk hm Try.func67 rfl rfl (by kernel_rfl) (n := 14) (rv := [.tmp 2]) rfl rfl ?_
  simp only [W, List.replicate]
  unfold impl_upTo.f at h
  try simp only [W, p1, p2, p3, p4, p5, p6, p7, p8, p9, p10, p11]
  refine loopN (fun x : Int × List Int × Int => [.v (.int .i64 x.1), .u, .u, .lo 48, .v (.int .i64 x.2.2), .u, .u, .u, .u, .u, .u, .u, .u, .u, .u]) (fun x => [(48, .row 3 1 (List.map eI x.2.1))]) (fun n x => impl_upTo.l0 n x.1 x.2.1 x.2.2 = some r) (a0, ([] : List Int), 0) [] h (by simp only [W, p1, p2, p3, p4, p5, p6, p7, p8, p9, p10, p11] <;> trivial) (by simp only [W, p1, p2, p3, p4, p5, p6, p7, p8, p9, p10, p11] <;> trivial) rfl (fun _ h => by cases h) ?_
  intro n1 ⟨x1, x2, x3⟩ _ h
  simp only [impl_upTo.l0] at h
  replace h := ifS h; rcases h with ⟨c4, h⟩ | ⟨c4, h⟩
  · replace h := ifN h; obtain ⟨c5, h⟩ := h
    try simp only [W, c4, c5, p1, p2, p3, p4, p5, p6, p7, p8, p9, p10, p11]
    exact nextN (x1, (x2 ++ [x3]), (wrap64 (x3 + 1))) [(48, 208)] n1 (by omega) h (by simp only [W, p1, p2, p3, p4, p5, p6, p7, p8, p9, p10, p11] <;> trivial) (by simp only [W, p1, p2, p3, p4, p5, p6, p7, p8, p9, p10, p11] <;> trivial) rfl
  · cases h
    try simp only [W, c4, p1, p2, p3, p4, p5, p6, p7, p8, p9, p10, p11]
theorem impl_upTo.calls (k : Nat) (a0 : Int) (r : List Int) (w : World) (h : impl_upTo.f k a0 = some r) :
    Calls Try.prog 67 #[.int .i64 a0] w fun e w' => ∃ v0_ : Value, e = .returned (v0_) ∧ Kd.R (Kd.int .i64) 3 w' w.heap.size (fun _ => True) v0_ r ∧ Below w.heap.size w w' := by
  refine ((impl_upTo.ctr h).2 w [.int .i64 a0] (by simp only [RepL, Rep]; exact ⟨_, _, rfl, rfl, rfl⟩)).mono ?_
  rintro _ _ ⟨y, L, rfl, hR, _, hb⟩
  simp only [RepR] at hR
  exact ⟨y, rfl, R_of_row E_eI hR.1, hb⟩
end Go.Proofs.Ytpeehicekddjhaa.F
end

section
namespace Go.Proofs.Ytpeehicekddjhaa.F
open Go.RowKit Go.Proofs.YtpeehicekddjhaaW.PrintWords Go.Proofs.YtpeehicekddjhaaW.PrintLast Go.Proofs.YtpeehicekddjhaaW.PrintMore
set_option linter.unusedVariables false
set_option linter.unusedSimpArgs false
attribute [local go_sem] max2_int min2_int max_two min_two
def spec_l29Timed.T5 : Bool × List (List Nat × List Nat) := (true, [([], []), ([], []), ([], []), ([1, 2], [1, 2]), ([0, 3, 3], [0, 3]), ([4], [4]), ([5], [5]), ([5], [5]), ([6, 4, 0, 1, 2, 3, 4, 5, 6], [6])])
def spec_l29Timed.B5 : List Nat := [0, 0, 0, 6, 15, 31, 63, 63, 127]
theorem spec_l29Timed.tab5 : rtab .any (opsOf Try.f61 5) = spec_l29Timed.T5 := by kernel_rfl
theorem spec_l29Timed.bits5 : waitsOk spec_l29Timed.T5.2 spec_l29Timed.B5 = true := by kernel_rfl
def spec_l29Timed.T11 : Bool × List (List Nat × List Nat) := (true, [([], []), ([0], [0]), ([], []), ([], []), ([], []), ([4], [4]), ([5], [5]), ([3, 6], [3, 6]), ([2, 7], [2, 7]), ([8], [8]), ([1, 9, 7], [1, 9]), ([0, 1, 2, 3, 4, 5, 6, 7, 8, 9, 10], []), ([11, 10, 10, 0, 1, 2, 3, 4, 5, 6, 7, 8, 9, 10], [10, 11])])
def spec_l29Timed.B11 : List Nat := [0, 1, 0, 0, 0, 16, 48, 120, 252, 508, 1023, 2047, 4095]
theorem spec_l29Timed.tab11 : rtab .any (opsOf Try.f61 11) = spec_l29Timed.T11 := by kernel_rfl
theorem spec_l29Timed.bits11 : waitsOk spec_l29Timed.T11.2 spec_l29Timed.B11 = true := by kernel_rfl
set_option maxHeartbeats 8000000 in
set_option maxRecDepth 100000 in
theorem spec_l29Timed.calls (k : Nat) (g : Nat) (s0_0 : List Int) (s0_1 : Int) (s0_2 : Int) (r1 : Int) (r2 : Int) (r3 : Int) (r4 : Int) (r5 : List (SGate)) (r6 : Int) (r7 : Int) (w0 w : World) (hI : IsS146 w0 w g s0_0 s0_1 s0_2) (hB : Below w0.heap.size w0 w) (h : spec_l29Timed.f k s0_0 s0_1 s0_2 = some (r1, r2, r3, r4, r5, r6, r7)) :
  Calls Try.prog 61 #[.pointer (some ⟨g, 0, none⟩)] w fun e w' => ∃ v4_ : Value, e = .returned (.agg #[.int .i64 r1, .int .i64 r2, .int .i64 r3, .int .i64 r4, v4_]) ∧ Kd.R k150 150 w' w.heap.size (fun _ => True) v4_ r5 ∧ IsS146 w0 w' g s0_0 r6 r7 ∧ Below w0.heap.size w0 w' ∧ KeepBut w w' g none := by
 have hu30 := Try.underlying30
 have hu25 := Try.underlying25
 have hu27 := Try.underlying27
 have hu150 := Try.underlying150
 have HI0 := aK hI
 have HK := aK (KeepBut.refl w g none)
 have HL := aK hB.size
 clear hI
 have HW0 := aK hB.size
 have HB := aK hB
 clear hB
 have H : ((spec_l01Below.f s0_0 s0_1 s0_2 3).bind fun bt172 => ((spec_l01Below.f s0_0 bt172.2.1 bt172.2.2 3).bind fun bt175 => ((spec_l03Tree.f k s0_0 bt175.2.1 bt175.2.2 (wrap64 (1 + bt172.1)) (wrap64 (1 + bt175.1))).bind fun bt179 => ((spec_CountGaps.f (wrap64 (1 + bt172.1)) (wrap64 (1 + bt175.1))).bind fun t185 => (if t185 > 0 then ((spec_l01Once.f s0_0 bt179.2.2.2.1 bt179.2.2.2.2 2).bind fun bt186 => (spec_l29Timed.j0 k t185 bt186.1 s0_0 bt186.2.1 bt186.2.2 bt179.1 bt179.2.1 bt179.2.2.1)) else (spec_l29Timed.j0 k t185 false s0_0 bt179.2.2.2.1 bt179.2.2.2.2 bt179.1 bt179.2.1 bt179.2.2.1)))))) = some (r1, r2, r3, r4, r5, r6, r7) := h
 clear h
 replace H := Option.bind_eq_some_iff.mp H
 obtain ⟨⟨t172, t173, t174⟩, A20, H⟩ := H
 replace H : ((spec_l01Below.f s0_0 t173 t174 3).bind fun bt175 => ((spec_l03Tree.f k s0_0 bt175.2.1 bt175.2.2 (wrap64 (1 + t172)) (wrap64 (1 + bt175.1))).bind fun bt179 => ((spec_CountGaps.f (wrap64 (1 + t172)) (wrap64 (1 + bt175.1))).bind fun t185 => (if t185 > 0 then ((spec_l01Once.f s0_0 bt179.2.2.2.1 bt179.2.2.2.2 2).bind fun bt186 => (spec_l29Timed.j0 k t185 bt186.1 s0_0 bt186.2.1 bt186.2.2 bt179.1 bt179.2.1 bt179.2.2.1)) else (spec_l29Timed.j0 k t185 false s0_0 bt179.2.2.2.1 bt179.2.2.2.2 bt179.1 bt179.2.1 bt179.2.2.1))))) = some (r1, r2, r3, r4, r5, r6, r7) := H
 have A2 := aK A20
 clear A20
 replace H := Option.bind_eq_some_iff.mp H
 obtain ⟨⟨t175, t176, t177⟩, A30, H⟩ := H
 replace H : ((spec_l03Tree.f k s0_0 t176 t177 (wrap64 (1 + t172)) (wrap64 (1 + t175))).bind fun bt179 => ((spec_CountGaps.f (wrap64 (1 + t172)) (wrap64 (1 + t175))).bind fun t185 => (if t185 > 0 then ((spec_l01Once.f s0_0 bt179.2.2.2.1 bt179.2.2.2.2 2).bind fun bt186 => (spec_l29Timed.j0 k t185 bt186.1 s0_0 bt186.2.1 bt186.2.2 bt179.1 bt179.2.1 bt179.2.2.1)) else (spec_l29Timed.j0 k t185 false s0_0 bt179.2.2.2.1 bt179.2.2.2.2 bt179.1 bt179.2.1 bt179.2.2.1)))) = some (r1, r2, r3, r4, r5, r6, r7) := H
 have A3 := aK A30
 clear A30
 replace H := Option.bind_eq_some_iff.mp H
 obtain ⟨⟨t179, t180, t181, t182, t183⟩, A40, H⟩ := H
 replace H : ((spec_CountGaps.f (wrap64 (1 + t172)) (wrap64 (1 + t175))).bind fun t185 => (if t185 > 0 then ((spec_l01Once.f s0_0 t182 t183 2).bind fun bt186 => (spec_l29Timed.j0 k t185 bt186.1 s0_0 bt186.2.1 bt186.2.2 t179 t180 t181)) else (spec_l29Timed.j0 k t185 false s0_0 t182 t183 t179 t180 t181))) = some (r1, r2, r3, r4, r5, r6, r7) := H
 have A4 := aK A40
 clear A40
 replace H := Option.bind_eq_some_iff.mp H
 obtain ⟨t185, A50, H⟩ := H
 replace H : (if t185 > 0 then ((spec_l01Once.f s0_0 t182 t183 2).bind fun bt186 => (spec_l29Timed.j0 k t185 bt186.1 s0_0 bt186.2.1 bt186.2.2 t179 t180 t181)) else (spec_l29Timed.j0 k t185 false s0_0 t182 t183 t179 t180 t181)) = some (r1, r2, r3, r4, r5, r6, r7) := H
 have A5 := aK A50
 clear A50
 have HC6 := aK H
 clear H
 go_enter Try.func61, Try.ntmps61
 go_upto_region 4 with (first | ((with_reducible refine gate_dst (N := 2) rfl ?_); (try (refine gate_guard (by rfl) ?_; dsimp only)); refine box_event ?hg (N := 2) ?hd (cs := #[.int .i64 0, .int .i64 0, .int .i64 0, .int .i64 0, .slice none 0 0]) (t := 30) ?hr ?_; (case hd => rfl); (case hg => rfl); (case hr => first | (go_simp; done) | (go_simp; rfl)); intro gb171 hg w7 hbox hb; have n0_ := aK (IsS146.below (by repeat (first | (with_reducible first | exact HI0.out | apply IsS146.alloc | apply IsS146.drewN | apply IsS146.drew | apply IsS146.set_1 | apply IsS146.set_2) | exact HI0.out)) hb); have n1_ := aK (KeepBut.trans (by repeat (first | (with_reducible first | exact HK.out | apply KeepBut.set_ | apply keep_drewN | apply keep_drew | apply keep_alloc) | exact HK.out)) (KeepBut.of_below hb g none) (.inl rfl)); have n2_ := aK (bSp (by repeat (first | (with_reducible first | exact HB.out | apply bAl | apply bDN | apply bD1 | refine bSt ?_ (IsS146.ge HI0.out)) | exact HB.out)) hb); have n3_ := aK (hbox); have n4_ := aK ((by rw [hg]; exact (keep_size (w := w) (g := g) (row := none) (by repeat (first | (with_reducible first | exact HK.out | apply KeepBut.set_ | apply keep_drewN | apply keep_drew | apply keep_alloc) | exact HK.out))) : w.heap.size ≤ gb171)); have n5_ := aK ((Nat.le_trans HW0.out (by rw [hg]; exact (keep_size (w := w) (g := g) (row := none) (by repeat (first | (with_reducible first | exact HK.out | apply KeepBut.set_ | apply keep_drewN | apply keep_drew | apply keep_alloc) | exact HK.out))) : w.heap.size ≤ gb171) : w0.heap.size ≤ gb171)); have n6_ := aK ((by rw [hg]; exact Nat.ne_of_lt (IsS146.lt (show IsS146 w0 _ g s0_0 s0_1 s0_2 from by repeat (first | (with_reducible first | exact HI0.out | apply IsS146.alloc | apply IsS146.drewN | apply IsS146.drew | apply IsS146.set_1 | apply IsS146.set_2) | exact HI0.out))) : g ≠ gb171)); have n7_ := aK ((by rw [hg]; exact Nat.ne_of_gt (IsS146.lt (show IsS146 w0 _ g s0_0 s0_1 s0_2 from by repeat (first | (with_reducible first | exact HI0.out | apply IsS146.alloc | apply IsS146.drewN | apply IsS146.drew | apply IsS146.set_1 | apply IsS146.set_2) | exact HI0.out))) : gb171 ≠ g)); clear HI0; clear HK; clear HB; have HI0 := n0_; have HK := n1_; have HB := n2_; have BK171 := n3_; have GW171 := n4_; have GE171 := n5_; have NB0_171 := n6_; have NB171_0 := n7_; clear n0_ n1_ n2_ n3_ n4_ n5_ n6_ n7_; clear hb hbox hg) | ((with_reducible refine gate_callee (f := 72) rfl ?_); refine goesL_ (some 9) rfl rfl Try.func72 (by kernel_rfl) rfl #[.pointer (some ⟨g, 0, none⟩), .int .i64 3] rfl (by (try simp only [List.map_toArray, List.map_cons, List.map_nil]); first | done | rfl | (simp only [List.length_drop, List.length_take]; rfl)) ?_; (with_reducible refine (spec_l01Below.calls g s0_0 s0_1 s0_2 3 t172 t173 t174 w0 _ ?side1 ?side2 A2.out).mono ?_); (case side1 => repeat (first | (with_reducible first | exact HI0.out | apply IsS146.alloc | apply IsS146.drewN | apply IsS146.drew | apply IsS146.set_1 | apply IsS146.set_2 | refine IsS146.far ?_ NB0_171.out _) | exact HI0.out)); (case side2 => repeat (first | (with_reducible first | exact HB.out | apply bAl | apply bDN | apply bD1 | refine bSt ?_ (IsS146.ge HI0.out) | refine bSt ?_ GE171.out) | exact HB.out)); rintro e w8 ⟨rfl, hi, hb, hk⟩; refine ⟨_, rfl, ?_⟩; have n0_ := aK (KeepBut.blk hk (g' := gb171) (o := .cells #[.int .i64 0, .int .i64 0, .int .i64 0, .int .i64 0, .slice none 0 0] 30 (0, 0)) (by (with_reducible repeat (first | refine kDN ?_ _ | refine kD ?_ | refine kA ?_ _)); exact BK171.out) NB171_0.out (by simp)); have n1_ := aK (KeepBut.trans (by repeat (first | (with_reducible first | exact HK.out | apply KeepBut.set_ | apply keep_drewN | apply keep_drew | apply keep_alloc | refine keep_far ?_ GW171.out _) | exact HK.out)) hk (.inl rfl)); have n2_ := aK (hb); have n3_ := aK (hi); clear BK171; clear HK; clear HB; clear HI0; have BK171 := n0_; have HK := n1_; have HB := n2_; have HI0 := n3_; clear n0_ n1_ n2_ n3_; (try clear hb); (try clear hb2); (try clear hk); (try clear hi)) | ((with_reducible refine gate_callee (f := 72) rfl ?_); refine goesL_ (some 12) rfl rfl Try.func72 (by kernel_rfl) rfl #[.pointer (some ⟨g, 0, none⟩), .int .i64 3] rfl (by (try simp only [List.map_toArray, List.map_cons, List.map_nil]); first | done | rfl | (simp only [List.length_drop, List.length_take]; rfl)) ?_; (with_reducible refine (spec_l01Below.calls g s0_0 t173 t174 3 t175 t176 t177 w0 _ ?side1 ?side2 A3.out).mono ?_); (case side1 => repeat (first | (with_reducible first | exact HI0.out | apply IsS146.alloc | apply IsS146.drewN | apply IsS146.drew | apply IsS146.set_1 | apply IsS146.set_2 | refine IsS146.far ?_ NB0_171.out _) | exact HI0.out)); (case side2 => repeat (first | (with_reducible first | exact HB.out | apply bAl | apply bDN | apply bD1 | refine bSt ?_ (IsS146.ge HI0.out) | refine bSt ?_ GE171.out) | exact HB.out)); rintro e w9 ⟨rfl, hi, hb, hk⟩; refine ⟨_, rfl, ?_⟩; have n0_ := aK (KeepBut.blk hk (g' := gb171) (o := .cells #[.int .i64 0, .int .i64 0, .int .i64 0, .int .i64 0, .slice none 0 0] 30 (0, 0)) (by (with_reducible repeat (first | refine kDN ?_ _ | refine kD ?_ | refine kA ?_ _)); exact BK171.out) NB171_0.out (by simp)); have n1_ := aK (KeepBut.trans (by repeat (first | (with_reducible first | exact HK.out | apply KeepBut.set_ | apply keep_drewN | apply keep_drew | apply keep_alloc | refine keep_far ?_ GW171.out _) | exact HK.out)) hk (.inl rfl)); have n2_ := aK (hb); have n3_ := aK (hi); clear BK171; clear HK; clear HB; clear HI0; have BK171 := n0_; have HK := n1_; have HB := n2_; have HI0 := n3_; clear n0_ n1_ n2_ n3_; (try clear hb); (try clear hb2); (try clear hk); (try clear hi)) | ((with_reducible refine gate_dst (N := 3) rfl ?_); (try (refine gate_guard (by rfl) ?_; dsimp only)); refine box_event ?hg (N := 3) ?hd (cs := #[.int .i64 0, .int .i64 0]) (t := 25) ?hr ?_; (case hd => rfl); (case hg => rfl); (case hr => first | (go_simp; done) | (go_simp; rfl)); intro gb178 hg w10 hbox hb; have n0_ := aK (IsS146.below (by repeat (first | (with_reducible first | exact HI0.out | apply IsS146.alloc | apply IsS146.drewN | apply IsS146.drew | apply IsS146.set_1 | apply IsS146.set_2 | refine IsS146.far ?_ NB0_171.out _) | exact HI0.out)) hb); have n1_ := bkb BK171 hb (by intro z_; (with_reducible repeat (first | refine kDN ?_ _ | refine kD ?_ | refine kA ?_ _)); exact z_); have n2_ := aK (KeepBut.trans (by repeat (first | (with_reducible first | exact HK.out | apply KeepBut.set_ | apply keep_drewN | apply keep_drew | apply keep_alloc | refine keep_far ?_ GW171.out _) | exact HK.out)) (KeepBut.of_below hb g none) (.inl rfl)); have n3_ := aK (bSp (by repeat (first | (with_reducible first | exact HB.out | apply bAl | apply bDN | apply bD1 | refine bSt ?_ (IsS146.ge HI0.out) | refine bSt ?_ GE171.out) | exact HB.out)) hb); have n4_ := aK (hbox); have n5_ := aK ((by rw [hg]; exact (keep_size (w := w) (g := g) (row := none) (by repeat (first | (with_reducible first | exact HK.out | apply KeepBut.set_ | apply keep_drewN | apply keep_drew | apply keep_alloc | refine keep_far ?_ GW171.out _) | exact HK.out))) : w.heap.size ≤ gb178)); have n6_ := aK ((Nat.le_trans HW0.out (by rw [hg]; exact (keep_size (w := w) (g := g) (row := none) (by repeat (first | (with_reducible first | exact HK.out | apply KeepBut.set_ | apply keep_drewN | apply keep_drew | apply keep_alloc | refine keep_far ?_ GW171.out _) | exact HK.out))) : w.heap.size ≤ gb178) : w0.heap.size ≤ gb178)); have n7_ := nbl BK171 hg (by intro z_; (with_reducible repeat (first | refine kDN ?_ _ | refine kD ?_ | refine kA ?_ _)); exact z_); have n8_ := nbs n7_; have n9_ := aK ((by rw [hg]; exact Nat.ne_of_lt (IsS146.lt (show IsS146 w0 _ g s0_0 t176 t177 from by repeat (first | (with_reducible first | exact HI0.out | apply IsS146.alloc | apply IsS146.drewN | apply IsS146.drew | apply IsS146.set_1 | apply IsS146.set_2 | refine IsS146.far ?_ NB0_171.out _) | exact HI0.out))) : g ≠ gb178)); have n10_ := aK ((by rw [hg]; exact Nat.ne_of_gt (IsS146.lt (show IsS146 w0 _ g s0_0 t176 t177 from by repeat (first | (with_reducible first | exact HI0.out | apply IsS146.alloc | apply IsS146.drewN | apply IsS146.drew | apply IsS146.set_1 | apply IsS146.set_2 | refine IsS146.far ?_ NB0_171.out _) | exact HI0.out))) : gb178 ≠ g)); clear HI0; clear BK171; clear HK; clear HB; have HI0 := n0_; have BK171 := n1_; have HK := n2_; have HB := n3_; have BK178 := n4_; have GW178 := n5_; have GE178 := n6_; have NB171_178 := n7_; have NB178_171 := n8_; have NB0_178 := n9_; have NB178_0 := n10_; clear n0_ n1_ n2_ n3_ n4_ n5_ n6_ n7_ n8_ n9_ n10_; clear hb hbox hg; have hnb11 := NB178_171.out; have hnc11 := NB171_178.out; have hnb12 := NB178_0.out; have hnc12 := NB0_178.out; obtain ⟨hcz13_0, hcz13_1, hfz13_0, hfz13_1⟩ := cl2 BK178.out) | ((with_reducible refine gate_callee (f := 133) rfl ?_); refine goesL_ (some 17) rfl rfl Try.func133 (by kernel_rfl) rfl #[.pointer (some ⟨g, 0, none⟩), .agg #[.int .i64 (wrap64 (1 + t172)), .int .i64 (wrap64 (1 + t175))]] rfl (by (try simp only [List.map_toArray, List.map_cons, List.map_nil]); first | done | rfl | (simp only [List.length_drop, List.length_take]; rfl)) ?_; (with_reducible refine (spec_l03Tree.calls k g s0_0 t176 t177 (wrap64 (1 + t172)) (wrap64 (1 + t175)) t179 t180 t181 t182 t183 w0 _ ?side1 ?side2 A4.out).mono ?_); (case side1 => repeat (first | (with_reducible first | exact HI0.out | apply IsS146.alloc | apply IsS146.drewN | apply IsS146.drew | apply IsS146.set_1 | apply IsS146.set_2 | refine IsS146.far ?_ NB0_171.out _ | refine IsS146.far ?_ NB0_178.out _) | exact HI0.out)); (case side2 => repeat (first | (with_reducible first | exact HB.out | apply bAl | apply bDN | apply bD1 | refine bSt ?_ (IsS146.ge HI0.out) | refine bSt ?_ GE171.out | refine bSt ?_ GE178.out) | exact HB.out)); rintro e w14 ⟨rfl, hi, hb, hk⟩; refine ⟨_, rfl, ?_⟩; have n0_ := aK (KeepBut.blk hk (g' := gb171) (o := .cells #[.int .i64 0, .int .i64 0, .int .i64 0, .int .i64 0, .slice none 0 0] 30 (0, 0)) (by (with_reducible repeat (first | refine kDN ?_ _ | refine kD ?_ | refine kA ?_ _)); refine blk_far ?_ NB171_178.out _; (with_reducible repeat (first | refine kDN ?_ _ | refine kD ?_ | refine kA ?_ _)); refine blk_far ?_ NB171_178.out _; (with_reducible repeat (first | refine kDN ?_ _ | refine kD ?_ | refine kA ?_ _)); exact BK171.out) NB171_0.out (by simp)); have n1_ := aK (KeepBut.blk hk (g' := gb178) (o := .cells #[.int .i64 (wrap64 (1 + t172)), .int .i64 (wrap64 (1 + t175))] 25 (0, 0)) (by (with_reducible repeat (first | refine kDN ?_ _ | refine kD ?_ | refine kA ?_ _)); refine blk_put (cs := #[.int .i64 (wrap64 (1 + t172)), .int .i64 0]) ?_ 1 _ rfl; (with_reducible repeat (first | refine kDN ?_ _ | refine kD ?_ | refine kA ?_ _)); refine blk_put (cs := #[.int .i64 0, .int .i64 0]) ?_ 0 _ rfl; (with_reducible repeat (first | refine kDN ?_ _ | refine kD ?_ | refine kA ?_ _)); exact BK178.out) NB178_0.out (by simp)); have n2_ := aK (KeepBut.trans (by repeat (first | (with_reducible first | exact HK.out | apply KeepBut.set_ | apply keep_drewN | apply keep_drew | apply keep_alloc | refine keep_far ?_ GW171.out _ | refine keep_far ?_ GW178.out _) | exact HK.out)) hk (.inl rfl)); have n3_ := aK (hb); have n4_ := aK (hi); clear BK171; clear BK178; clear HK; clear HB; clear HI0; have BK171 := n0_; have BK178 := n1_; have HK := n2_; have HB := n3_; have HI0 := n4_; clear n0_ n1_ n2_ n3_ n4_; (try clear hb); (try clear hb2); (try clear hk); (try clear hi)) | ((with_reducible refine gate_dst (N := 4) rfl ?_); (try (refine gate_guard (by rfl) ?_; dsimp only)); refine box_event ?hg (N := 4) ?hd (cs := #[.int .i64 0, .int .i64 0, .int .i64 0]) (t := 27) ?hr ?_; (case hd => rfl); (case hg => rfl); (case hr => first | (go_simp; done) | (go_simp; rfl)); intro gb184 hg w15 hbox hb; have n0_ := aK (IsS146.below (by repeat (first | (with_reducible first | exact HI0.out | apply IsS146.alloc | apply IsS146.drewN | apply IsS146.drew | apply IsS146.set_1 | apply IsS146.set_2 | refine IsS146.far ?_ NB0_171.out _ | refine IsS146.far ?_ NB0_178.out _) | exact HI0.out)) hb); have n1_ := bkb BK171 hb (by intro z_; (with_reducible repeat (first | refine kDN ?_ _ | refine kD ?_ | refine kA ?_ _)); exact z_); have n2_ := bkb BK178 hb (by intro z_; (with_reducible repeat (first | refine kDN ?_ _ | refine kD ?_ | refine kA ?_ _)); exact z_); have n3_ := aK (KeepBut.trans (by repeat (first | (with_reducible first | exact HK.out | apply KeepBut.set_ | apply keep_drewN | apply keep_drew | apply keep_alloc | refine keep_far ?_ GW171.out _ | refine keep_far ?_ GW178.out _) | exact HK.out)) (KeepBut.of_below hb g none) (.inl rfl)); have n4_ := aK (bSp (by repeat (first | (with_reducible first | exact HB.out | apply bAl | apply bDN | apply bD1 | refine bSt ?_ (IsS146.ge HI0.out) | refine bSt ?_ GE171.out | refine bSt ?_ GE178.out) | exact HB.out)) hb); have n5_ := aK (hbox); have n6_ := aK ((by rw [hg]; exact (keep_size (w := w) (g := g) (row := none) (by repeat (first | (with_reducible first | exact HK.out | apply KeepBut.set_ | apply keep_drewN | apply keep_drew | apply keep_alloc | refine keep_far ?_ GW171.out _ | refine keep_far ?_ GW178.out _) | exact HK.out))) : w.heap.size ≤ gb184)); have n7_ := aK ((Nat.le_trans HW0.out (by rw [hg]; exact (keep_size (w := w) (g := g) (row := none) (by repeat (first | (with_reducible first | exact HK.out | apply KeepBut.set_ | apply keep_drewN | apply keep_drew | apply keep_alloc | refine keep_far ?_ GW171.out _ | refine keep_far ?_ GW178.out _) | exact HK.out))) : w.heap.size ≤ gb184) : w0.heap.size ≤ gb184)); have n8_ := nbl BK171 hg (by intro z_; (with_reducible repeat (first | refine kDN ?_ _ | refine kD ?_ | refine kA ?_ _)); exact z_); have n9_ := nbs n8_; have n10_ := nbl BK178 hg (by intro z_; (with_reducible repeat (first | refine kDN ?_ _ | refine kD ?_ | refine kA ?_ _)); exact z_); have n11_ := nbs n10_; have n12_ := aK ((by rw [hg]; exact Nat.ne_of_lt (IsS146.lt (show IsS146 w0 _ g s0_0 t182 t183 from by repeat (first | (with_reducible first | exact HI0.out | apply IsS146.alloc | apply IsS146.drewN | apply IsS146.drew | apply IsS146.set_1 | apply IsS146.set_2 | refine IsS146.far ?_ NB0_171.out _ | refine IsS146.far ?_ NB0_178.out _) | exact HI0.out))) : g ≠ gb184)); have n13_ := aK ((by rw [hg]; exact Nat.ne_of_gt (IsS146.lt (show IsS146 w0 _ g s0_0 t182 t183 from by repeat (first | (with_reducible first | exact HI0.out | apply IsS146.alloc | apply IsS146.drewN | apply IsS146.drew | apply IsS146.set_1 | apply IsS146.set_2 | refine IsS146.far ?_ NB0_171.out _ | refine IsS146.far ?_ NB0_178.out _) | exact HI0.out))) : gb184 ≠ g)); clear HI0; clear BK171; clear BK178; clear HK; clear HB; have HI0 := n0_; have BK171 := n1_; have BK178 := n2_; have HK := n3_; have HB := n4_; have BK184 := n5_; have GW184 := n6_; have GE184 := n7_; have NB171_184 := n8_; have NB184_171 := n9_; have NB178_184 := n10_; have NB184_178 := n11_; have NB0_184 := n12_; have NB184_0 := n13_; clear n0_ n1_ n2_ n3_ n4_ n5_ n6_ n7_ n8_ n9_ n10_ n11_ n12_ n13_; clear hb hbox hg; have hnb16 := NB184_171.out; have hnc16 := NB171_184.out; have hnb17 := NB184_178.out; have hnc17 := NB178_184.out; have hnb18 := NB184_0.out; have hnc18 := NB0_184.out; obtain ⟨hcz19_0, hcz19_1, hcz19_2, hfz19_0, hfz19_1, hfz19_2⟩ := cl3 BK184.out; obtain ⟨hcz20_0, hcz20_1, hfz20_0, hfz20_1⟩ := cl2 BK178.out) | ((with_reducible refine gate_callee (f := 104) rfl ?_); refine goesL_ (some 19) rfl rfl Try.func104 (by kernel_rfl) rfl #[.agg #[.int .i64 (wrap64 (1 + t172)), .int .i64 (wrap64 (1 + t175))]] rfl (by (try simp only [List.map_toArray, List.map_cons, List.map_nil]); first | done | rfl | (simp only [List.length_drop, List.length_take]; rfl)) ?_; (with_reducible refine (spec_CountGaps.calls (wrap64 (1 + t172)) (wrap64 (1 + t175)) t185 _ A5.out).mono ?_); rintro e w21 ⟨rfl, hb⟩; refine ⟨_, rfl, ?_⟩; have n0_ := aK (IsS146.below (show IsS146 w0 (((w15.setCell ⟨gb184, 0, none⟩ (.int .i64 t179)).setCell ⟨gb184, 1, none⟩ (.int .i64 t180)).setCell ⟨gb184, 2, none⟩ (.int .i64 t181)) g s0_0 t182 t183 from by repeat (first | (with_reducible first | exact HI0.out | apply IsS146.alloc | apply IsS146.drewN | apply IsS146.drew | apply IsS146.set_1 | apply IsS146.set_2 | refine IsS146.far ?_ NB0_171.out _ | refine IsS146.far ?_ NB0_178.out _ | refine IsS146.far ?_ NB0_184.out _) | exact HI0.out)) hb); have n1_ := bkb BK171 hb (by intro z_; (with_reducible repeat (first | refine kDN ?_ _ | refine kD ?_ | refine kA ?_ _)); refine blk_far ?_ NB171_184.out _; (with_reducible repeat (first | refine kDN ?_ _ | refine kD ?_ | refine kA ?_ _)); refine blk_far ?_ NB171_184.out _; (with_reducible repeat (first | refine kDN ?_ _ | refine kD ?_ | refine kA ?_ _)); refine blk_far ?_ NB171_184.out _; (with_reducible repeat (first | refine kDN ?_ _ | refine kD ?_ | refine kA ?_ _)); exact z_); have n2_ := bkb BK178 hb (by intro z_; (with_reducible repeat (first | refine kDN ?_ _ | refine kD ?_ | refine kA ?_ _)); refine blk_far ?_ NB178_184.out _; (with_reducible repeat (first | refine kDN ?_ _ | refine kD ?_ | refine kA ?_ _)); refine blk_far ?_ NB178_184.out _; (with_reducible repeat (first | refine kDN ?_ _ | refine kD ?_ | refine kA ?_ _)); refine blk_far ?_ NB178_184.out _; (with_reducible repeat (first | refine kDN ?_ _ | refine kD ?_ | refine kA ?_ _)); exact z_); have n3_ := aK (blk_below (g := gb184) (o := .cells #[.int .i64 t179, .int .i64 t180, .int .i64 t181] 27 (0, 0)) (by (with_reducible repeat (first | refine kDN ?_ _ | refine kD ?_ | refine kA ?_ _)); refine blk_put (cs := #[.int .i64 t179, .int .i64 t180, .int .i64 0]) ?_ 2 _ rfl; (with_reducible repeat (first | refine kDN ?_ _ | refine kD ?_ | refine kA ?_ _)); refine blk_put (cs := #[.int .i64 t179, .int .i64 0, .int .i64 0]) ?_ 1 _ rfl; (with_reducible repeat (first | refine kDN ?_ _ | refine kD ?_ | refine kA ?_ _)); refine blk_put (cs := #[.int .i64 0, .int .i64 0, .int .i64 0]) ?_ 0 _ rfl; (with_reducible repeat (first | refine kDN ?_ _ | refine kD ?_ | refine kA ?_ _)); exact BK184.out) hb); have n4_ := aK (KeepBut.trans (by repeat (first | (with_reducible first | exact HK.out | apply KeepBut.set_ | apply keep_drewN | apply keep_drew | apply keep_alloc | refine keep_far ?_ GW171.out _ | refine keep_far ?_ GW178.out _ | refine keep_far ?_ GW184.out _) | exact HK.out)) (KeepBut.of_below hb g none) (.inl rfl)); have n5_ := aK (bSp (by repeat (first | (with_reducible first | exact HB.out | apply bAl | apply bDN | apply bD1 | refine bSt ?_ (IsS146.ge HI0.out) | refine bSt ?_ GE171.out | refine bSt ?_ GE178.out | refine bSt ?_ GE184.out) | exact HB.out)) hb); clear HI0; clear BK171; clear BK178; clear BK184; clear HK; clear HB; have HI0 := n0_; have BK171 := n1_; have BK178 := n2_; have BK184 := n3_; have HK := n4_; have HB := n5_; clear n0_ n1_ n2_ n3_ n4_ n5_; (try clear hb); (try clear hb2); (try clear hk); (try clear hi)))
 (try simp only [Act.put, sTA, sZ, sS])
 go_cut [25] (fun v25 wc => ∃ (kq : Nat) (x25_5 : Bool) (x1001_5 : Int) (x1002_5 : Int), v25 = .bool x25_5 ∧ Aside0 (spec_l29Timed.j0 kq t185 x25_5 s0_0 x1001_5 x1002_5 t179 t180 t181 = some (r1, r2, r3, r4, r5, r6, r7)) ∧ Aside0 (kq ≤ k) ∧ Aside0 (wc.heap[gb171]? = some (.cells #[.int .i64 0, .int .i64 0, .int .i64 0, .int .i64 0, (.slice none 0 0)] 30 (0, 0))) ∧ Aside0 (wc.heap[gb178]? = some (.cells #[.int .i64 (wrap64 (1 + t172)), .int .i64 (wrap64 (1 + t175))] 25 (0, 0))) ∧ Aside0 (wc.heap[gb184]? = some (.cells #[.int .i64 t179, .int .i64 t180, .int .i64 t181] 27 (0, 0))) ∧ Aside0 (IsS146 w0 wc g s0_0 x1001_5 x1002_5) ∧ Aside0 (KeepBut w wc g none) ∧ Aside0 (Below w0.heap.size w0 wc))
 case first =>
  have H := HC6.out
  clear HC6
  by_cases c22 : t185 > 0
  ·rw [if_pos c22] at H
   have c22b0 : decide (0 < t185) = true := decide_eq_true c22
   clear c22
   (first | rw [c22b0] | (simp only [i64_w, i32_w]; rw [c22b0]) | skip)
   replace H := Option.bind_eq_some_iff.mp H
   obtain ⟨⟨t186, t187, t188⟩, A230, H⟩ := H
   replace H : (spec_l29Timed.j0 k t185 t186 s0_0 t187 t188 t179 t180 t181) = some (r1, r2, r3, r4, r5, r6, r7) := H
   have A23 := aK A230
   clear A230
   have H' := aK H
   clear H
   go_wp2_with (first | (go_at_call 134; (with_reducible refine (spec_l01Once.calls g s0_0 t182 t183 2 t186 t187 t188 w0 _ ?side1 ?side2 A23.out).mono ?_); (case side1 => repeat (first | (with_reducible first | exact HI0.out | apply IsS146.alloc | apply IsS146.drewN | apply IsS146.drew | apply IsS146.set_1 | apply IsS146.set_2 | refine IsS146.far ?_ NB0_171.out _ | refine IsS146.far ?_ NB0_178.out _ | refine IsS146.far ?_ NB0_184.out _) | exact HI0.out)); (case side2 => repeat (first | (with_reducible first | exact HB.out | apply bAl | apply bDN | apply bD1 | refine bSt ?_ (IsS146.ge HI0.out) | refine bSt ?_ GE171.out | refine bSt ?_ GE178.out | refine bSt ?_ GE184.out) | exact HB.out)); rintro e w24 ⟨rfl, hi, hb, hk⟩; have n0_ := aK (KeepBut.blk hk (g' := gb171) (o := .cells #[.int .i64 0, .int .i64 0, .int .i64 0, .int .i64 0, .slice none 0 0] 30 (0, 0)) (by (with_reducible repeat (first | refine kDN ?_ _ | refine kD ?_ | refine kA ?_ _)); exact BK171.out) NB171_0.out (by simp)); have n1_ := aK (KeepBut.blk hk (g' := gb178) (o := .cells #[.int .i64 (wrap64 (1 + t172)), .int .i64 (wrap64 (1 + t175))] 25 (0, 0)) (by (with_reducible repeat (first | refine kDN ?_ _ | refine kD ?_ | refine kA ?_ _)); exact BK178.out) NB178_0.out (by simp)); have n2_ := aK (KeepBut.blk hk (g' := gb184) (o := .cells #[.int .i64 t179, .int .i64 t180, .int .i64 t181] 27 (0, 0)) (by (with_reducible repeat (first | refine kDN ?_ _ | refine kD ?_ | refine kA ?_ _)); exact BK184.out) NB184_0.out (by simp)); have n3_ := aK (KeepBut.trans (by repeat (first | (with_reducible first | exact HK.out | apply KeepBut.set_ | apply keep_drewN | apply keep_drew | apply keep_alloc | refine keep_far ?_ GW171.out _ | refine keep_far ?_ GW178.out _ | refine keep_far ?_ GW184.out _) | exact HK.out)) hk (.inl rfl)); have n4_ := aK (hb); have n5_ := aK (hi); clear BK171; clear BK178; clear BK184; clear HK; clear HB; clear HI0; have BK171 := n0_; have BK178 := n1_; have BK184 := n2_; have HK := n3_; have HB := n4_; have HI0 := n5_; clear n0_ n1_ n2_ n3_ n4_ n5_; (try clear hb); (try clear hb2); (try clear hk); (try clear hi)))
   go_meet
   case rel => exact ⟨_, (t186), (t187), (t188), (by first | rfl | (simp; done) | (simp [*]; done)), H', ⟨by first | omega | exact Nat.le_refl _⟩, ⟨by (with_reducible repeat (first | refine kDN ?_ _ | refine kD ?_ | refine kA ?_ _)); exact BK171.out⟩, ⟨by (with_reducible repeat (first | refine kDN ?_ _ | refine kD ?_ | refine kA ?_ _)); exact BK178.out⟩, ⟨by (with_reducible repeat (first | refine kDN ?_ _ | refine kD ?_ | refine kA ?_ _)); exact BK184.out⟩, ⟨by repeat (first | (with_reducible first | exact HI0.out | apply IsS146.alloc | apply IsS146.drewN | apply IsS146.drew | apply IsS146.set_1 | apply IsS146.set_2 | refine IsS146.far ?_ NB0_171.out _ | refine IsS146.far ?_ NB0_178.out _ | refine IsS146.far ?_ NB0_184.out _) | exact HI0.out)⟩, ⟨by repeat (first | (with_reducible first | exact HK.out | apply KeepBut.set_ | apply keep_drewN | apply keep_drew | apply keep_alloc | refine keep_far ?_ GW171.out _ | refine keep_far ?_ GW178.out _ | refine keep_far ?_ GW184.out _) | exact HK.out)⟩, ⟨by repeat (first | (with_reducible first | exact HB.out | apply bAl | apply bDN | apply bD1 | refine bSt ?_ (IsS146.ge HI0.out) | refine bSt ?_ GE171.out | refine bSt ?_ GE178.out | refine bSt ?_ GE184.out) | exact HB.out)⟩⟩
  ·rw [if_neg c22] at H
   have c22b0 : decide (0 < t185) = false := decide_eq_false c22
   clear c22
   (first | rw [c22b0] | (simp only [i64_w, i32_w]; rw [c22b0]) | skip)
   have H' := aK H
   clear H
   go_wp2
   go_meet
   case rel => exact ⟨_, (false), (t182), (t183), (by first | rfl | (simp; done) | (simp [*]; done)), H', ⟨by first | omega | exact Nat.le_refl _⟩, ⟨by (with_reducible repeat (first | refine kDN ?_ _ | refine kD ?_ | refine kA ?_ _)); exact BK171.out⟩, ⟨by (with_reducible repeat (first | refine kDN ?_ _ | refine kD ?_ | refine kA ?_ _)); exact BK178.out⟩, ⟨by (with_reducible repeat (first | refine kDN ?_ _ | refine kD ?_ | refine kA ?_ _)); exact BK184.out⟩, ⟨by repeat (first | (with_reducible first | exact HI0.out | apply IsS146.alloc | apply IsS146.drewN | apply IsS146.drew | apply IsS146.set_1 | apply IsS146.set_2 | refine IsS146.far ?_ NB0_171.out _ | refine IsS146.far ?_ NB0_178.out _ | refine IsS146.far ?_ NB0_184.out _) | exact HI0.out)⟩, ⟨by repeat (first | (with_reducible first | exact HK.out | apply KeepBut.set_ | apply keep_drewN | apply keep_drew | apply keep_alloc | refine keep_far ?_ GW171.out _ | refine keep_far ?_ GW178.out _ | refine keep_far ?_ GW184.out _) | exact HK.out)⟩, ⟨by repeat (first | (with_reducible first | exact HB.out | apply bAl | apply bDN | apply bD1 | refine bSt ?_ (IsS146.ge HI0.out) | refine bSt ?_ GE171.out | refine bSt ?_ GE178.out | refine bSt ?_ GE184.out) | exact HB.out)⟩⟩
 case rest =>
  clear HC6
  try clear c1
  try clear c2
  try clear p2
  try clear c6
  try clear p6
  try clear c7
  try clear c10
  try clear c11
  try clear c12
  try clear c13
  try clear c16
  try clear c17
  try clear c18
  try clear c22
  try clear c22b0
  try clear hcz13_0
  try clear hcz13_1
  try clear hcz19_0
  try clear hcz19_1
  try clear hcz19_2
  try clear hcz20_0
  try clear hcz20_1
  try clear hfz13_0
  try clear hfz13_1
  try clear hfz19_0
  try clear hfz19_1
  try clear hfz19_2
  try clear hfz20_0
  try clear hfz20_1
  obtain ⟨kq, x25_5, x1001_5, x1002_5, rfl, HA, HJ5, BK171, BK178, BK184, HI0, HK, HB⟩ := hcut
  cases kq with
  | zero => exact absurd HA.out (by simp [spec_l29Timed.j0])
  | succ kj5 =>
   have H := HA.out
   clear HA
   simp only [spec_l29Timed.j0] at H
   have HC25 := aK H
   clear H
   go_upto_if 25 with (fail)
   go_cut [] (fun wc => ∃ (kq : Nat) (x1001_24 : Int) (x1002_24 : Int) (x185000_24 : Int) (x185001_24 : Int) (x185002_24 : Int), Aside0 (spec_l29Timed.j1 kq t185 s0_0 x1001_24 x1002_24 x185000_24 x185001_24 x185002_24 = some (r1, r2, r3, r4, r5, r6, r7)) ∧ Aside0 (kq ≤ kj5) ∧ Aside0 (wc.heap[gb171]? = some (.cells #[.int .i64 0, .int .i64 0, .int .i64 0, .int .i64 0, (.slice none 0 0)] 30 (0, 0))) ∧ Aside0 (wc.heap[gb178]? = some (.cells #[.int .i64 (wrap64 (1 + t172)), .int .i64 (wrap64 (1 + t175))] 25 (0, 0))) ∧ Aside0 (wc.heap[gb184]? = some (.cells #[.int .i64 x185000_24, .int .i64 x185001_24, .int .i64 x185002_24] 27 (0, 0))) ∧ Aside0 (IsS146 w0 wc g s0_0 x1001_24 x1002_24) ∧ Aside0 (KeepBut w wc g none) ∧ Aside0 (Below w0.heap.size w0 wc))
   case first =>
    have H := HC25.out
    clear HC25
    by_cases c26 : x25_5 = true
    ·subst c26
     have H1 : ((spec_l01Below.f s0_0 x1001_5 x1002_5 t185).bind fun bt189 => ((spec_SetGap.f kj5 t179 t180 t181 bt189.1 true).bind fun bt192 => (spec_l29Timed.j1 kj5 t185 s0_0 bt189.2.1 bt189.2.2 bt192.1 bt192.2.1 bt192.2.2.1))) = some (r1, r2, r3, r4, r5, r6, r7) := by rw [if_pos rfl] at H; exact H
     clear H
     have H := H1
     clear H1
     replace H := Option.bind_eq_some_iff.mp H
     obtain ⟨⟨t189, t190, t191⟩, A270, H⟩ := H
     replace H : ((spec_SetGap.f kj5 t179 t180 t181 t189 true).bind fun bt192 => (spec_l29Timed.j1 kj5 t185 s0_0 t190 t191 bt192.1 bt192.2.1 bt192.2.2.1)) = some (r1, r2, r3, r4, r5, r6, r7) := H
     have A27 := aK A270
     clear A270
     replace H := Option.bind_eq_some_iff.mp H
     obtain ⟨⟨t192, t193, t194, t195⟩, A280, H⟩ := H
     replace H : (spec_l29Timed.j1 kj5 t185 s0_0 t190 t191 t192 t193 t194) = some (r1, r2, r3, r4, r5, r6, r7) := H
     have A28 := aK A280
     clear A280
     have H' := aK H
     clear H
     try go_wp2
     have n0_ := aK (kD BK171.out)
     have n1_ := aK (kD BK178.out)
     have n2_ := aK (kD BK184.out)
     have n3_ := aK (IsS146.drew HI0.out)
     have n4_ := aK (keep_drew HK.out)
     have n5_ := aK (bD1 HB.out)
     clear BK171
     clear BK178
     clear BK184
     clear HI0
     clear HK
     clear HB
     have BK171 := n0_
     have BK178 := n1_
     have BK184 := n2_
     have HI0 := n3_
     have HK := n4_
     have HB := n5_
     clear n0_ n1_ n2_ n3_ n4_ n5_
     refine start_ (n := 9) (S := fun w' => w'.cell? ⟨gb184, 0, none⟩ = some (.int .i64 t179) ∧ w'.cell? ⟨gb184, 1, none⟩ = some (.int .i64 t180) ∧ w'.cell? ⟨gb184, 2, none⟩ = some (.int .i64 t181)) (ds := [8]) #[bN,bN,bN,bN,bN,bN,bN,bN,bN] (by kernel_rfl) rfl rfl ⟨(kC BK184.out 0).trans rfl, (kC BK184.out 1).trans rfl, (kC BK184.out 2).trans rfl⟩ (fun hHeld => ?_); refine with_tabW spec_l29Timed.tab5 spec_l29Timed.bits5 (fun HT_ HW_ => ?_)
     generalize wc.drew = w29 at BK171 BK178 BK184 HI0 HK HB hHeld ⊢
     refine pure_ (i := 1) (N := some 28) (v := ?_) (a' := ?_) #[bN,bY,bN,bN,bN,bN,bN,bN,bN] rfl rfl (any_of HT_.out (by kernel_rfl)) (fun _ _ _ h => h) (Or.inl ⟨by rfl, ?_⟩) ?_ ?_
     rotate_left
     ·intro w'
      go_simp
      with_reducible rfl
     rotate_left
     ·simp only [Act.put, sTA, sZ, sS, i64_w, i32_w]
      rfl
     refine pure_ (i := 2) (N := some 29) (v := ?_) (a' := ?_) #[bN,bY,bY,bN,bN,bN,bN,bN,bN] rfl rfl (any_of HT_.out (by kernel_rfl)) (fun _ _ _ h => h) (Or.inl ⟨by rfl, ?_⟩) ?_ ?_
     rotate_left
     ·intro w'
      go_simp
      with_reducible rfl
     rotate_left
     ·simp only [Act.put, sTA, sZ, sS, i64_w, i32_w]
      rfl
     refine take_ (i := 0) (N := some 27) (v := ?_) (a' := ?_) #[bY,bY,bY,bN,bN,bN,bN,bN,bN] rfl rfl (take_ofW HT_.out HW_.out (by kernel_rfl)) (fun _ _ _ h => h) (Or.inl ⟨by rfl, ?_⟩) hHeld ?_ ?_
     rotate_left
     ·rintro w' ⟨s0, s1, s2⟩
      go_simp
      with_reducible rfl
     rotate_left
     ·simp only [Act.put, sTA, sZ, sS, i64_w, i32_w]
      rfl
     refine one_ (i := 3) (N := some 30) #[bY,bY,bY,bY,bN,bN,bN,bN,bN] rfl rfl (one_of HT_.out (by kernel_rfl)) (by decide) (fun K hK => ?_)
     refine goes_ Try.func72 (by kernel_rfl) rfl #[.pointer (some ⟨g, 0, none⟩), .int .i64 t185] (by rfl) rfl rfl (by (try simp only [List.map_toArray, List.map_cons, List.map_nil]); first | done | rfl | (simp only [List.length_drop, List.length_take]; rfl)) ?_
     with_reducible refine (spec_l01Below.calls g s0_0 x1001_5 x1002_5 t185 t189 t190 t191 w0 _ ?side1 ?side2 A27.out).mono ?_
     (case side1 => repeat (first | (with_reducible first | exact HI0.out | apply IsS146.alloc | apply IsS146.drewN | apply IsS146.drew | apply IsS146.set_1 | apply IsS146.set_2 | refine IsS146.far ?_ NB0_171.out _ | refine IsS146.far ?_ NB0_178.out _ | refine IsS146.far ?_ NB0_184.out _) | exact HI0.out))
     (case side2 => repeat (first | (with_reducible first | exact HB.out | apply bAl | apply bDN | apply bD1 | refine bSt ?_ (IsS146.ge HI0.out) | refine bSt ?_ GE171.out | refine bSt ?_ GE178.out | refine bSt ?_ GE184.out) | exact HB.out))
     rintro e w30 ⟨rfl, hi, hb, hk⟩
     refine ⟨_, rfl, ?_⟩
     have n0_ := aK (KeepBut.blk hk (g' := gb171) (o := .cells #[.int .i64 0, .int .i64 0, .int .i64 0, .int .i64 0, .slice none 0 0] 30 (0, 0)) (by (with_reducible repeat (first | refine kDN ?_ _ | refine kD ?_ | refine kA ?_ _)); exact BK171.out) NB171_0.out (by simp))
     have n1_ := aK (KeepBut.blk hk (g' := gb178) (o := .cells #[.int .i64 (wrap64 (1 + t172)), .int .i64 (wrap64 (1 + t175))] 25 (0, 0)) (by (with_reducible repeat (first | refine kDN ?_ _ | refine kD ?_ | refine kA ?_ _)); exact BK178.out) NB178_0.out (by simp))
     have n2_ := aK (KeepBut.blk hk (g' := gb184) (o := .cells #[.int .i64 t179, .int .i64 t180, .int .i64 t181] 27 (0, 0)) (by (with_reducible repeat (first | refine kDN ?_ _ | refine kD ?_ | refine kA ?_ _)); exact BK184.out) NB184_0.out (by simp))
     have n3_ := aK (KeepBut.trans (by repeat (first | (with_reducible first | exact HK.out | apply KeepBut.set_ | apply keep_drewN | apply keep_drew | apply keep_alloc | refine keep_far ?_ GW171.out _ | refine keep_far ?_ GW178.out _ | refine keep_far ?_ GW184.out _) | exact HK.out)) hk (.inl rfl))
     have n4_ := aK (hb)
     have n5_ := aK (hi)
     clear BK171
     clear BK178
     clear BK184
     clear HK
     clear HB
     clear HI0
     have BK171 := n0_
     have BK178 := n1_
     have BK184 := n2_
     have HK := n3_
     have HB := n4_
     have HI0 := n5_
     clear n0_ n1_ n2_ n3_ n4_ n5_
     (try clear hb)
     (try clear hb2)
     (try clear hk)
     (try clear hi)
     refine hK.out _ _ ⟨(kC BK184.out 0).trans rfl, (kC BK184.out 1).trans rfl, (kC BK184.out 2).trans rfl⟩ (fun hHeld => ?_)
     clear hK K
     refine norm_ (a' := ?_) ?_ ?_
     rotate_left
     ·show Act.put _ (some 30) _ = _
      simp only [Act.put, sTA, sZ, sS, i64_w, i32_w]
      rfl
     refine one_ (i := 4) (N := some 31) #[bY,bY,bY,bY,bY,bN,bN,bN,bN] rfl rfl (one_of HT_.out (by kernel_rfl)) (by decide) (fun K hK => ?_)
     refine goes_ Try.func106 (by kernel_rfl) rfl #[.agg #[.int .i64 t179, .int .i64 t180, .int .i64 t181], .int .i64 t189, .bool true] (by rfl) rfl rfl (by (try simp only [List.map_toArray, List.map_cons, List.map_nil]); first | done | rfl | (simp only [List.length_drop, List.length_take]; rfl)) ?_
     with_reducible refine (spec_SetGap.calls kj5 t179 t180 t181 t189 true t192 t193 t194 t195 _ A28.out).mono ?_
     rintro e w31 ⟨rfl, hb⟩
     refine ⟨_, rfl, ?_⟩
     have n0_ := bkb BK171 hb (by intro z_; (with_reducible repeat (first | refine kDN ?_ _ | refine kD ?_ | refine kA ?_ _)); exact z_)
     have n1_ := bkb BK178 hb (by intro z_; (with_reducible repeat (first | refine kDN ?_ _ | refine kD ?_ | refine kA ?_ _)); exact z_)
     have n2_ := bkb BK184 hb (by intro z_; (with_reducible repeat (first | refine kDN ?_ _ | refine kD ?_ | refine kA ?_ _)); exact z_)
     have n3_ := aK (IsS146.below (by repeat (first | (with_reducible first | exact HI0.out | apply IsS146.alloc | apply IsS146.drewN | apply IsS146.drew | apply IsS146.set_1 | apply IsS146.set_2 | refine IsS146.far ?_ NB0_171.out _ | refine IsS146.far ?_ NB0_178.out _ | refine IsS146.far ?_ NB0_184.out _) | exact HI0.out)) hb)
     have n4_ := aK (KeepBut.trans (by repeat (first | (with_reducible first | exact HK.out | apply KeepBut.set_ | apply keep_drewN | apply keep_drew | apply keep_alloc | refine keep_far ?_ GW171.out _ | refine keep_far ?_ GW178.out _ | refine keep_far ?_ GW184.out _) | exact HK.out)) (KeepBut.of_below hb g none) (.inl rfl))
     have n5_ := aK (bSp (by repeat (first | (with_reducible first | exact HB.out | apply bAl | apply bDN | apply bD1 | refine bSt ?_ (IsS146.ge HI0.out) | refine bSt ?_ GE171.out | refine bSt ?_ GE178.out | refine bSt ?_ GE184.out) | exact HB.out)) hb)
     clear BK171
     clear BK178
     clear BK184
     clear HI0
     clear HK
     clear HB
     have BK171 := n0_
     have BK178 := n1_
     have BK184 := n2_
     have HI0 := n3_
     have HK := n4_
     have HB := n5_
     clear n0_ n1_ n2_ n3_ n4_ n5_
     (try clear hb)
     (try clear hb2)
     (try clear hk)
     (try clear hi)
     refine hK.out _ _ ⟨(kC BK184.out 0).trans rfl, (kC BK184.out 1).trans rfl, (kC BK184.out 2).trans rfl⟩ (fun hHeld => ?_)
     clear hK K
     refine norm_ (a' := ?_) ?_ ?_
     rotate_left
     ·show Act.put _ (some 31) _ = _
      simp only [Act.put, sTA, sZ, sS, i64_w, i32_w]
      rfl
     refine pure_ (i := 5) (N := some 26) (v := ?_) (a' := ?_) #[bY,bY,bY,bY,bY,bY,bN,bN,bN] rfl rfl (any_of HT_.out (by kernel_rfl)) (fun _ _ _ h => h) (Or.inl ⟨by rfl, ?_⟩) ?_ ?_
     rotate_left
     ·intro w'
      go_simp
      with_reducible rfl
     rotate_left
     ·simp only [Act.put, sTA, sZ, sS, i64_w, i32_w]
      rfl
     refine pure_ (i := 6) (N := some 32) (v := ?_) (a' := ?_) #[bY,bY,bY,bY,bY,bY,bY,bN,bN] rfl rfl (any_of HT_.out (by kernel_rfl)) (fun _ _ _ h => h) (Or.inl ⟨by rfl, ?_⟩) ?_ ?_
     rotate_left
     ·intro w'
      go_simp
      with_reducible rfl
     rotate_left
     ·simp only [Act.put, sTA, sZ, sS, i64_w, i32_w]
      rfl
     refine pure_ (i := 7) (N := some 33) (v := ?_) (a' := ?_) #[bY,bY,bY,bY,bY,bY,bY,bY,bN] rfl rfl (any_of HT_.out (by kernel_rfl)) (fun _ _ _ h => h) (Or.inl ⟨by rfl, ?_⟩) ?_ ?_
     rotate_left
     ·intro w'
      go_simp
      with_reducible rfl
     rotate_left
     ·simp only [Act.put, sTA, sZ, sS, i64_w, i32_w]
      rfl
     refine last_ (i := 8) (N := none) #[bY,bY,bY,bY,bY,bY,bY,bY,bY] rfl rfl (one_of HT_.out (by kernel_rfl)) (by decide) (fun K hK => ?_)
     have hs32 : w31.cell? ⟨gb184, 0, none⟩ = some (.int .i64 t179) := (kC BK184.out 0).trans rfl
     have hfs32 := kF BK184.out 0
     have hns32_0 := NB171_184.out
     have hns32_1 := NB178_184.out
     have hms32_0 := NB184_171.out
     have hms32_1 := NB184_178.out
     have hs33 : w31.cell? ⟨gb184, 1, none⟩ = some (.int .i64 t180) := (kC BK184.out 1).trans rfl
     have hfs33 := kF BK184.out 1
     have hns33_0 := NB171_184.out
     have hns33_1 := NB178_184.out
     have hms33_0 := NB184_171.out
     have hms33_1 := NB184_178.out
     have hs34 : w31.cell? ⟨gb184, 2, none⟩ = some (.int .i64 t181) := (kC BK184.out 2).trans rfl
     have hfs34 := kF BK184.out 2
     have hns34_0 := NB171_184.out
     have hns34_1 := NB178_184.out
     have hms34_0 := NB184_171.out
     have hms34_1 := NB184_178.out
     refine skip_ (w1 := ?_) (by rfl) rfl ?_ ?_
     rotate_left
     ·go_simp
      rfl
     refine hK.out _ _ ?_
     clear hK K
     refine done_ (done_of HT_.out (by kernel_rfl)) ?_
     try go_wp2
     go_meet
     case rel => exact ⟨_, (t190), (t191), (t192), (t193), (t194), H', ⟨by have := HJ5.out; first | omega | exact Nat.le_refl _⟩, ⟨by (with_reducible repeat (first | refine kDN ?_ _ | refine kD ?_ | refine kA ?_ _)); refine blk_far ?_ NB171_184.out _; (with_reducible repeat (first | refine kDN ?_ _ | refine kD ?_ | refine kA ?_ _)); refine blk_far ?_ NB171_184.out _; (with_reducible repeat (first | refine kDN ?_ _ | refine kD ?_ | refine kA ?_ _)); refine blk_far ?_ NB171_184.out _; (with_reducible repeat (first | refine kDN ?_ _ | refine kD ?_ | refine kA ?_ _)); exact BK171.out⟩, ⟨by (with_reducible repeat (first | refine kDN ?_ _ | refine kD ?_ | refine kA ?_ _)); refine blk_far ?_ NB178_184.out _; (with_reducible repeat (first | refine kDN ?_ _ | refine kD ?_ | refine kA ?_ _)); refine blk_far ?_ NB178_184.out _; (with_reducible repeat (first | refine kDN ?_ _ | refine kD ?_ | refine kA ?_ _)); refine blk_far ?_ NB178_184.out _; (with_reducible repeat (first | refine kDN ?_ _ | refine kD ?_ | refine kA ?_ _)); exact BK178.out⟩, ⟨by (with_reducible repeat (first | refine kDN ?_ _ | refine kD ?_ | refine kA ?_ _)); refine blk_put (cs := #[.int .i64 t192, .int .i64 t193, .int .i64 t181]) ?_ 2 _ rfl; (with_reducible repeat (first | refine kDN ?_ _ | refine kD ?_ | refine kA ?_ _)); refine blk_put (cs := #[.int .i64 t192, .int .i64 t180, .int .i64 t181]) ?_ 1 _ rfl; (with_reducible repeat (first | refine kDN ?_ _ | refine kD ?_ | refine kA ?_ _)); refine blk_put (cs := #[.int .i64 t179, .int .i64 t180, .int .i64 t181]) ?_ 0 _ rfl; (with_reducible repeat (first | refine kDN ?_ _ | refine kD ?_ | refine kA ?_ _)); exact BK184.out⟩, ⟨by repeat (first | (with_reducible first | exact HI0.out | apply IsS146.alloc | apply IsS146.drewN | apply IsS146.drew | apply IsS146.set_1 | apply IsS146.set_2 | refine IsS146.far ?_ NB0_171.out _ | refine IsS146.far ?_ NB0_178.out _ | refine IsS146.far ?_ NB0_184.out _) | exact HI0.out)⟩, ⟨by repeat (first | (with_reducible first | exact HK.out | apply KeepBut.set_ | apply keep_drewN | apply keep_drew | apply keep_alloc | refine keep_far ?_ GW171.out _ | refine keep_far ?_ GW178.out _ | refine keep_far ?_ GW184.out _) | exact HK.out)⟩, ⟨by repeat (first | (with_reducible first | exact HB.out | apply bAl | apply bDN | apply bD1 | refine bSt ?_ (IsS146.ge HI0.out) | refine bSt ?_ GE171.out | refine bSt ?_ GE178.out | refine bSt ?_ GE184.out) | exact HB.out)⟩⟩
    ·replace c26 := Bool.eq_false_iff.mpr c26
     subst c26
     have H1 : (spec_l29Timed.j1 kj5 t185 s0_0 x1001_5 x1002_5 t179 t180 t181) = some (r1, r2, r3, r4, r5, r6, r7) := by rw [if_neg (show ¬ (false = true) by decide)] at H; exact H
     clear H
     have H := H1
     clear H1
     have H' := aK H
     clear H
     go_wp2
     go_meet
     case rel => exact ⟨_, (x1001_5), (x1002_5), (t179), (t180), (t181), H', ⟨by have := HJ5.out; first | omega | exact Nat.le_refl _⟩, ⟨by (with_reducible repeat (first | refine kDN ?_ _ | refine kD ?_ | refine kA ?_ _)); exact BK171.out⟩, ⟨by (with_reducible repeat (first | refine kDN ?_ _ | refine kD ?_ | refine kA ?_ _)); exact BK178.out⟩, ⟨by (with_reducible repeat (first | refine kDN ?_ _ | refine kD ?_ | refine kA ?_ _)); exact BK184.out⟩, ⟨by repeat (first | (with_reducible first | exact HI0.out | apply IsS146.alloc | apply IsS146.drewN | apply IsS146.drew | apply IsS146.set_1 | apply IsS146.set_2 | refine IsS146.far ?_ NB0_171.out _ | refine IsS146.far ?_ NB0_178.out _ | refine IsS146.far ?_ NB0_184.out _) | exact HI0.out)⟩, ⟨by repeat (first | (with_reducible first | exact HK.out | apply KeepBut.set_ | apply keep_drewN | apply keep_drew | apply keep_alloc | refine keep_far ?_ GW171.out _ | refine keep_far ?_ GW178.out _ | refine keep_far ?_ GW184.out _) | exact HK.out)⟩, ⟨by repeat (first | (with_reducible first | exact HB.out | apply bAl | apply bDN | apply bD1 | refine bSt ?_ (IsS146.ge HI0.out) | refine bSt ?_ GE171.out | refine bSt ?_ GE178.out | refine bSt ?_ GE184.out) | exact HB.out)⟩⟩
   case rest =>
    clear HC25
    try clear c1
    try clear c2
    try clear p2
    try clear c6
    try clear p6
    try clear c7
    try clear c10
    try clear c11
    try clear c12
    try clear c13
    try clear c16
    try clear c17
    try clear c18
    try clear c22
    try clear c22b0
    try clear c26
    try clear hcz13_0
    try clear hcz13_1
    try clear hcz19_0
    try clear hcz19_1
    try clear hcz19_2
    try clear hcz20_0
    try clear hcz20_1
    try clear hfz13_0
    try clear hfz13_1
    try clear hfz19_0
    try clear hfz19_1
    try clear hfz19_2
    try clear hfz20_0
    try clear hfz20_1
    try clear p2
    try clear p6
    obtain ⟨kq, x1001_24, x1002_24, x185000_24, x185001_24, x185002_24, HA, HJ24, BK171, BK178, BK184, HI0, HK, HB⟩ := hcut
    cases kq with
    | zero => exact absurd HA.out (by simp [spec_l29Timed.j1])
    | succ kj24 =>
     have H := HA.out
     clear HA
     simp only [spec_l29Timed.j1] at H
     replace H := Option.bind_eq_some_iff.mp H
     obtain ⟨⟨t196, t197, t198⟩, A350, H⟩ := H
     replace H : (spec_l29Timed.l0 kj24 t185 0 s0_0 t197 t198 x185000_24 x185001_24 x185002_24 x185000_24 x185001_24 x185002_24 (wrap64 (1 + t196)) ([] : List (SGate))) = some (r1, r2, r3, r4, r5, r6, r7) := H
     have A35 := aK A350
     clear A350
     have H' := aK H
     clear H
     try go_wp2
     have n0_ := aK (kD BK171.out)
     have n1_ := aK (kD BK178.out)
     have n2_ := aK (kD BK184.out)
     have n3_ := aK (IsS146.drew HI0.out)
     have n4_ := aK (keep_drew HK.out)
     have n5_ := aK (bD1 HB.out)
     clear BK171
     clear BK178
     clear BK184
     clear HI0
     clear HK
     clear HB
     have BK171 := n0_
     have BK178 := n1_
     have BK184 := n2_
     have HI0 := n3_
     have HK := n4_
     have HB := n5_
     clear n0_ n1_ n2_ n3_ n4_ n5_
     refine start_ (n := 7) (S := fun w' => w'.cell? ⟨gb184, 0, none⟩ = some (.int .i64 x185000_24) ∧ w'.cell? ⟨gb184, 1, none⟩ = some (.int .i64 x185001_24) ∧ w'.cell? ⟨gb184, 2, none⟩ = some (.int .i64 x185002_24)) (ds := []) #[bN,bN,bN,bN,bN,bN,bN] (by kernel_rfl) rfl rfl ⟨(kC BK184.out 0).trans rfl, (kC BK184.out 1).trans rfl, (kC BK184.out 2).trans rfl⟩ (fun hHeld => ?_)
     generalize wc.drew = w36 at BK171 BK178 BK184 HI0 HK HB hHeld ⊢
     refine pure_ (i := 1) (N := some 35) (v := ?_) (a' := ?_) #[bN,bY,bN,bN,bN,bN,bN] rfl rfl (by kernel_rfl) (fun _ _ _ h => h) (Or.inl ⟨by rfl, ?_⟩) ?_ ?_
     rotate_left
     ·intro w'
      go_simp
      with_reducible rfl
     rotate_left
     ·simp only [Act.put, sTA, sZ, sS, i64_w, i32_w]
      rfl
     refine take_ (i := 0) (N := some 34) (v := ?_) (a' := ?_) #[bY,bY,bN,bN,bN,bN,bN] rfl rfl (by kernel_rfl) (fun _ _ _ h => h) (Or.inl ⟨by rfl, ?_⟩) hHeld ?_ ?_
     rotate_left
     ·rintro w' ⟨s0, s1, s2⟩
      go_simp
      with_reducible rfl
     rotate_left
     ·simp only [Act.put, sTA, sZ, sS, i64_w, i32_w]
      rfl
     refine join_ (σ := Nat) 1 #[bY,bY,bY,bY,bY,bY,bN] (fun s_ => [(36, .int .i64 t196), (6, .pointer (some ⟨s_, 0, none⟩)), (37, .int .i64 (wrap64 (1 + t196))), (38, .agg #[.int .i64 x185000_24, .int .i64 x185001_24, .int .i64 x185002_24, .int .i64 (wrap64 (1 + t196)), .slice none 0 0])]) (fun s_ w' => (w'.cell? ⟨gb184, 0, none⟩ = some (.int .i64 x185000_24) ∧ w'.cell? ⟨gb184, 1, none⟩ = some (.int .i64 x185001_24) ∧ w'.cell? ⟨gb184, 2, none⟩ = some (.int .i64 x185002_24)) ∧ (w'.heap[gb171]? = some (.cells #[.int .i64 0, .int .i64 0, .int .i64 0, .int .i64 0, .slice none 0 0] 30 (0, 0))) ∧ (w'.heap[gb178]? = some (.cells #[.int .i64 (wrap64 (1 + t172)), .int .i64 (wrap64 (1 + t175))] 25 (0, 0))) ∧ (w'.heap[gb184]? = some (.cells #[.int .i64 x185000_24, .int .i64 x185001_24, .int .i64 x185002_24] 27 (0, 0))) ∧ (w'.heap[s_]? = some (.cells #[.int .i64 0, .int .i64 0, .int .i64 0, .int .i64 0, .slice none 0 0] 30 (0, 0))) ∧ (w.heap.size ≤ s_) ∧ (w0.heap.size ≤ s_) ∧ (g ≠ s_) ∧ (s_ ≠ g) ∧ (gb171 ≠ s_) ∧ (s_ ≠ gb171) ∧ (gb178 ≠ s_) ∧ (s_ ≠ gb178) ∧ (gb184 ≠ s_) ∧ (s_ ≠ gb184) ∧ (IsS146 w0 w' g s0_0 t197 t198) ∧ (KeepBut w w' g none) ∧ (Below w0.heap.size w0 w')) ?_ ?_
     rotate_left
     ·intro hCont
      refine two_ (i := 2) (j := 5) (Ni := some 36) (Nj := some 6) #[bY,bY,bY,bN,bN,bN,bN] #[bY,bY,bN,bN,bN,bY,bN] rfl rfl rfl rfl (by kernel_rfl) (by decide) (by decide) (fun K hK => ?_) (fun K hK => ?_)
      ·skip
       refine goes_ Try.func72 (by kernel_rfl) rfl #[.pointer (some ⟨g, 0, none⟩), .int .i64 6] (by rfl) rfl rfl (by (try simp only [List.map_toArray, List.map_cons, List.map_nil]); first | done | rfl | (simp only [List.length_drop, List.length_take]; rfl)) ?_
       with_reducible refine (spec_l01Below.calls g s0_0 x1001_24 x1002_24 6 t196 t197 t198 w0 _ ?side1 ?side2 A35.out).mono ?_
       (case side1 => repeat (first | (with_reducible first | exact HI0.out | apply IsS146.alloc | apply IsS146.drewN | apply IsS146.drew | apply IsS146.set_1 | apply IsS146.set_2 | refine IsS146.far ?_ NB0_171.out _ | refine IsS146.far ?_ NB0_178.out _ | refine IsS146.far ?_ NB0_184.out _) | exact HI0.out))
       (case side2 => repeat (first | (with_reducible first | exact HB.out | apply bAl | apply bDN | apply bD1 | refine bSt ?_ (IsS146.ge HI0.out) | refine bSt ?_ GE171.out | refine bSt ?_ GE178.out | refine bSt ?_ GE184.out) | exact HB.out))
       rintro e w37 ⟨rfl, hi, hb, hk⟩
       refine ⟨_, rfl, ?_⟩
       have n0_ := aK (KeepBut.blk hk (g' := gb171) (o := .cells #[.int .i64 0, .int .i64 0, .int .i64 0, .int .i64 0, .slice none 0 0] 30 (0, 0)) (by (with_reducible repeat (first | refine kDN ?_ _ | refine kD ?_ | refine kA ?_ _)); exact BK171.out) NB171_0.out (by simp))
       have n1_ := aK (KeepBut.blk hk (g' := gb178) (o := .cells #[.int .i64 (wrap64 (1 + t172)), .int .i64 (wrap64 (1 + t175))] 25 (0, 0)) (by (with_reducible repeat (first | refine kDN ?_ _ | refine kD ?_ | refine kA ?_ _)); exact BK178.out) NB178_0.out (by simp))
       have n2_ := aK (KeepBut.blk hk (g' := gb184) (o := .cells #[.int .i64 x185000_24, .int .i64 x185001_24, .int .i64 x185002_24] 27 (0, 0)) (by (with_reducible repeat (first | refine kDN ?_ _ | refine kD ?_ | refine kA ?_ _)); exact BK184.out) NB184_0.out (by simp))
       have n3_ := aK (KeepBut.trans (by repeat (first | (with_reducible first | exact HK.out | apply KeepBut.set_ | apply keep_drewN | apply keep_drew | apply keep_alloc | refine keep_far ?_ GW171.out _ | refine keep_far ?_ GW178.out _ | refine keep_far ?_ GW184.out _) | exact HK.out)) hk (.inl rfl))
       have n4_ := aK (hb)
       have n5_ := aK (hi)
       clear BK171
       clear BK178
       clear BK184
       clear HK
       clear HB
       clear HI0
       have BK171 := n0_
       have BK178 := n1_
       have BK184 := n2_
       have HK := n3_
       have HB := n4_
       have HI0 := n5_
       clear n0_ n1_ n2_ n3_ n4_ n5_
       (try clear hb)
       (try clear hb2)
       (try clear hk)
       (try clear hi)
       refine hK.out _ _ ⟨(kC BK184.out 0).trans rfl, (kC BK184.out 1).trans rfl, (kC BK184.out 2).trans rfl⟩ (fun hHeld => ?_)
       clear hK K
       refine norm_ (a' := ?_) ?_ ?_
       rotate_left
       ·show Act.put _ (some 36) _ = _
        simp only [Act.put, sTA, sZ, sS, i64_w, i32_w]
        rfl
       refine pure_ (i := 3) (N := some 37) (v := ?_) (a' := ?_) #[bY,bY,bY,bY,bN,bN,bN] rfl rfl (by kernel_rfl) (fun _ _ _ h => h) (Or.inl ⟨by rfl, ?_⟩) ?_ ?_
       rotate_left
       ·intro w'
        go_simp
        with_reducible rfl
       rotate_left
       ·simp only [Act.put, sTA, sZ, sS, i64_w, i32_w]
        rfl
       refine pure_ (i := 4) (N := some 38) (v := ?_) (a' := ?_) #[bY,bY,bY,bY,bY,bN,bN] rfl rfl (by kernel_rfl) (fun _ _ _ h => h) (Or.inl ⟨by rfl, ?_⟩) ?_ ?_
       rotate_left
       ·intro w'
        go_simp
        with_reducible rfl
       rotate_left
       ·simp only [Act.put, sTA, sZ, sS, i64_w, i32_w]
        rfl
       refine one_ (i := 5) (N := some 6) #[bY,bY,bY,bY,bY,bY,bN] rfl rfl (by kernel_rfl) (by decide) (fun K hK => ?_)
       refine box_step ?hg (N := 6) ?hd (cs := #[.int .i64 0, .int .i64 0, .int .i64 0, .int .i64 0, .slice none 0 0]) (t := 30) ?hr ?_; (case hd => rfl); (case hg => rfl); (case hr => first | (go_simp; done) | (go_simp; rfl))
       intro gb199 hg w38 hbox hb
       have n0_ := bkb BK171 hb (by intro z_; (with_reducible repeat (first | refine kDN ?_ _ | refine kD ?_ | refine kA ?_ _)); exact z_)
       have n1_ := bkb BK178 hb (by intro z_; (with_reducible repeat (first | refine kDN ?_ _ | refine kD ?_ | refine kA ?_ _)); exact z_)
       have n2_ := bkb BK184 hb (by intro z_; (with_reducible repeat (first | refine kDN ?_ _ | refine kD ?_ | refine kA ?_ _)); exact z_)
       have n3_ := aK (IsS146.below (by repeat (first | (with_reducible first | exact HI0.out | apply IsS146.alloc | apply IsS146.drewN | apply IsS146.drew | apply IsS146.set_1 | apply IsS146.set_2 | refine IsS146.far ?_ NB0_171.out _ | refine IsS146.far ?_ NB0_178.out _ | refine IsS146.far ?_ NB0_184.out _) | exact HI0.out)) hb)
       have n4_ := aK (KeepBut.trans (by repeat (first | (with_reducible first | exact HK.out | apply KeepBut.set_ | apply keep_drewN | apply keep_drew | apply keep_alloc | refine keep_far ?_ GW171.out _ | refine keep_far ?_ GW178.out _ | refine keep_far ?_ GW184.out _) | exact HK.out)) (KeepBut.of_below hb g none) (.inl rfl))
       have n5_ := aK (bSp (by repeat (first | (with_reducible first | exact HB.out | apply bAl | apply bDN | apply bD1 | refine bSt ?_ (IsS146.ge HI0.out) | refine bSt ?_ GE171.out | refine bSt ?_ GE178.out | refine bSt ?_ GE184.out) | exact HB.out)) hb)
       have n6_ := aK (hbox)
       have n7_ := aK ((by rw [hg]; exact (keep_size (w := w) (g := g) (row := none) (by repeat (first | (with_reducible first | exact HK.out | apply KeepBut.set_ | apply keep_drewN | apply keep_drew | apply keep_alloc | refine keep_far ?_ GW171.out _ | refine keep_far ?_ GW178.out _ | refine keep_far ?_ GW184.out _) | exact HK.out))) : w.heap.size ≤ gb199))
       have n8_ := aK ((Nat.le_trans HW0.out (by rw [hg]; exact (keep_size (w := w) (g := g) (row := none) (by repeat (first | (with_reducible first | exact HK.out | apply KeepBut.set_ | apply keep_drewN | apply keep_drew | apply keep_alloc | refine keep_far ?_ GW171.out _ | refine keep_far ?_ GW178.out _ | refine keep_far ?_ GW184.out _) | exact HK.out))) : w.heap.size ≤ gb199) : w0.heap.size ≤ gb199))
       have n9_ := aK ((by rw [hg]; exact Nat.ne_of_lt (blk_lt (g := gb171) (o := .cells #[.int .i64 0, .int .i64 0, .int .i64 0, .int .i64 0, .slice none 0 0] 30 (0, 0)) (by (with_reducible repeat (first | refine kDN ?_ _ | refine kD ?_ | refine kA ?_ _)); exact BK171.out)) : gb171 ≠ gb199))
       have n10_ := aK ((by rw [hg]; exact Nat.ne_of_gt (blk_lt (g := gb171) (o := .cells #[.int .i64 0, .int .i64 0, .int .i64 0, .int .i64 0, .slice none 0 0] 30 (0, 0)) (by (with_reducible repeat (first | refine kDN ?_ _ | refine kD ?_ | refine kA ?_ _)); exact BK171.out)) : gb199 ≠ gb171))
       have n11_ := aK ((by rw [hg]; exact Nat.ne_of_lt (blk_lt (g := gb178) (o := .cells #[.int .i64 (wrap64 (1 + t172)), .int .i64 (wrap64 (1 + t175))] 25 (0, 0)) (by (with_reducible repeat (first | refine kDN ?_ _ | refine kD ?_ | refine kA ?_ _)); exact BK178.out)) : gb178 ≠ gb199))
       have n12_ := aK ((by rw [hg]; exact Nat.ne_of_gt (blk_lt (g := gb178) (o := .cells #[.int .i64 (wrap64 (1 + t172)), .int .i64 (wrap64 (1 + t175))] 25 (0, 0)) (by (with_reducible repeat (first | refine kDN ?_ _ | refine kD ?_ | refine kA ?_ _)); exact BK178.out)) : gb199 ≠ gb178))
       have n13_ := aK ((by rw [hg]; exact Nat.ne_of_lt (blk_lt (g := gb184) (o := .cells #[.int .i64 x185000_24, .int .i64 x185001_24, .int .i64 x185002_24] 27 (0, 0)) (by (with_reducible repeat (first | refine kDN ?_ _ | refine kD ?_ | refine kA ?_ _)); exact BK184.out)) : gb184 ≠ gb199))
       have n14_ := aK ((by rw [hg]; exact Nat.ne_of_gt (blk_lt (g := gb184) (o := .cells #[.int .i64 x185000_24, .int .i64 x185001_24, .int .i64 x185002_24] 27 (0, 0)) (by (with_reducible repeat (first | refine kDN ?_ _ | refine kD ?_ | refine kA ?_ _)); exact BK184.out)) : gb199 ≠ gb184))
       have n15_ := aK ((by rw [hg]; exact Nat.ne_of_lt (IsS146.lt (show IsS146 w0 _ g s0_0 t197 t198 from by repeat (first | (with_reducible first | exact HI0.out | apply IsS146.alloc | apply IsS146.drewN | apply IsS146.drew | apply IsS146.set_1 | apply IsS146.set_2 | refine IsS146.far ?_ NB0_171.out _ | refine IsS146.far ?_ NB0_178.out _ | refine IsS146.far ?_ NB0_184.out _) | exact HI0.out))) : g ≠ gb199))
       have n16_ := aK ((by rw [hg]; exact Nat.ne_of_gt (IsS146.lt (show IsS146 w0 _ g s0_0 t197 t198 from by repeat (first | (with_reducible first | exact HI0.out | apply IsS146.alloc | apply IsS146.drewN | apply IsS146.drew | apply IsS146.set_1 | apply IsS146.set_2 | refine IsS146.far ?_ NB0_171.out _ | refine IsS146.far ?_ NB0_178.out _ | refine IsS146.far ?_ NB0_184.out _) | exact HI0.out))) : gb199 ≠ g))
       clear BK171
       clear BK178
       clear BK184
       clear HI0
       clear HK
       clear HB
       have BK171 := n0_
       have BK178 := n1_
       have BK184 := n2_
       have HI0 := n3_
       have HK := n4_
       have HB := n5_
       have BK199 := n6_
       have GW199 := n7_
       have GE199 := n8_
       have NB171_199 := n9_
       have NB199_171 := n10_
       have NB178_199 := n11_
       have NB199_178 := n12_
       have NB184_199 := n13_
       have NB199_184 := n14_
       have NB0_199 := n15_
       have NB199_0 := n16_
       clear n0_ n1_ n2_ n3_ n4_ n5_ n6_ n7_ n8_ n9_ n10_ n11_ n12_ n13_ n14_ n15_ n16_
       clear hb hbox hg
       refine hK.out _ _ ⟨(kC BK184.out 0).trans rfl, (kC BK184.out 1).trans rfl, (kC BK184.out 2).trans rfl⟩ (fun hHeld => ?_)
       clear hK K
       refine norm_ (a' := ?_) ?_ ?_
       rotate_left
       ·show Act.put _ (some 6) _ = _
        simp only [Act.put, sTA, sZ, sS, i64_w, i32_w]
        rfl
       exact norm_ (by simp only [putAll, Act.put, sTA, sZ, sS]) (hCont (gb199) _ ⟨hHeld, (by (with_reducible repeat (first | refine kDN ?_ _ | refine kD ?_ | refine kA ?_ _)); exact BK171.out), (by (with_reducible repeat (first | refine kDN ?_ _ | refine kD ?_ | refine kA ?_ _)); exact BK178.out), (by (with_reducible repeat (first | refine kDN ?_ _ | refine kD ?_ | refine kA ?_ _)); exact BK184.out), (by (with_reducible repeat (first | refine kDN ?_ _ | refine kD ?_ | refine kA ?_ _)); exact BK199.out), GW199.out, GE199.out, NB0_199.out, NB199_0.out, NB171_199.out, NB199_171.out, NB178_199.out, NB199_178.out, NB184_199.out, NB199_184.out, (by repeat (first | (with_reducible first | exact HI0.out | apply IsS146.alloc | apply IsS146.drewN | apply IsS146.drew | apply IsS146.set_1 | apply IsS146.set_2 | refine IsS146.far ?_ NB0_171.out _ | refine IsS146.far ?_ NB0_178.out _ | refine IsS146.far ?_ NB0_184.out _ | refine IsS146.far ?_ NB0_199.out _) | exact HI0.out)), (by repeat (first | (with_reducible first | exact HK.out | apply KeepBut.set_ | apply keep_drewN | apply keep_drew | apply keep_alloc | refine keep_far ?_ GW171.out _ | refine keep_far ?_ GW178.out _ | refine keep_far ?_ GW184.out _ | refine keep_far ?_ GW199.out _) | exact HK.out)), (by repeat (first | (with_reducible first | exact HB.out | apply bAl | apply bDN | apply bD1 | refine bSt ?_ (IsS146.ge HI0.out) | refine bSt ?_ GE171.out | refine bSt ?_ GE178.out | refine bSt ?_ GE184.out | refine bSt ?_ GE199.out) | exact HB.out))⟩)
      ·skip
       refine box_step ?hg (N := 6) ?hd (cs := #[.int .i64 0, .int .i64 0, .int .i64 0, .int .i64 0, .slice none 0 0]) (t := 30) ?hr ?_; (case hd => rfl); (case hg => rfl); (case hr => first | (go_simp; done) | (go_simp; rfl))
       intro gb199 hg w37 hbox hb
       have n0_ := bkb BK171 hb (by intro z_; (with_reducible repeat (first | refine kDN ?_ _ | refine kD ?_ | refine kA ?_ _)); exact z_)
       have n1_ := bkb BK178 hb (by intro z_; (with_reducible repeat (first | refine kDN ?_ _ | refine kD ?_ | refine kA ?_ _)); exact z_)
       have n2_ := bkb BK184 hb (by intro z_; (with_reducible repeat (first | refine kDN ?_ _ | refine kD ?_ | refine kA ?_ _)); exact z_)
       have n3_ := aK (IsS146.below (by repeat (first | (with_reducible first | exact HI0.out | apply IsS146.alloc | apply IsS146.drewN | apply IsS146.drew | apply IsS146.set_1 | apply IsS146.set_2 | refine IsS146.far ?_ NB0_171.out _ | refine IsS146.far ?_ NB0_178.out _ | refine IsS146.far ?_ NB0_184.out _) | exact HI0.out)) hb)
       have n4_ := aK (KeepBut.trans (by repeat (first | (with_reducible first | exact HK.out | apply KeepBut.set_ | apply keep_drewN | apply keep_drew | apply keep_alloc | refine keep_far ?_ GW171.out _ | refine keep_far ?_ GW178.out _ | refine keep_far ?_ GW184.out _) | exact HK.out)) (KeepBut.of_below hb g none) (.inl rfl))
       have n5_ := aK (bSp (by repeat (first | (with_reducible first | exact HB.out | apply bAl | apply bDN | apply bD1 | refine bSt ?_ (IsS146.ge HI0.out) | refine bSt ?_ GE171.out | refine bSt ?_ GE178.out | refine bSt ?_ GE184.out) | exact HB.out)) hb)
       have n6_ := aK (hbox)
       have n7_ := aK ((by rw [hg]; exact (keep_size (w := w) (g := g) (row := none) (by repeat (first | (with_reducible first | exact HK.out | apply KeepBut.set_ | apply keep_drewN | apply keep_drew | apply keep_alloc | refine keep_far ?_ GW171.out _ | refine keep_far ?_ GW178.out _ | refine keep_far ?_ GW184.out _) | exact HK.out))) : w.heap.size ≤ gb199))
       have n8_ := aK ((Nat.le_trans HW0.out (by rw [hg]; exact (keep_size (w := w) (g := g) (row := none) (by repeat (first | (with_reducible first | exact HK.out | apply KeepBut.set_ | apply keep_drewN | apply keep_drew | apply keep_alloc | refine keep_far ?_ GW171.out _ | refine keep_far ?_ GW178.out _ | refine keep_far ?_ GW184.out _) | exact HK.out))) : w.heap.size ≤ gb199) : w0.heap.size ≤ gb199))
       have n9_ := aK ((by rw [hg]; exact Nat.ne_of_lt (blk_lt (g := gb171) (o := .cells #[.int .i64 0, .int .i64 0, .int .i64 0, .int .i64 0, .slice none 0 0] 30 (0, 0)) (by (with_reducible repeat (first | refine kDN ?_ _ | refine kD ?_ | refine kA ?_ _)); exact BK171.out)) : gb171 ≠ gb199))
       have n10_ := aK ((by rw [hg]; exact Nat.ne_of_gt (blk_lt (g := gb171) (o := .cells #[.int .i64 0, .int .i64 0, .int .i64 0, .int .i64 0, .slice none 0 0] 30 (0, 0)) (by (with_reducible repeat (first | refine kDN ?_ _ | refine kD ?_ | refine kA ?_ _)); exact BK171.out)) : gb199 ≠ gb171))
       have n11_ := aK ((by rw [hg]; exact Nat.ne_of_lt (blk_lt (g := gb178) (o := .cells #[.int .i64 (wrap64 (1 + t172)), .int .i64 (wrap64 (1 + t175))] 25 (0, 0)) (by (with_reducible repeat (first | refine kDN ?_ _ | refine kD ?_ | refine kA ?_ _)); exact BK178.out)) : gb178 ≠ gb199))
       have n12_ := aK ((by rw [hg]; exact Nat.ne_of_gt (blk_lt (g := gb178) (o := .cells #[.int .i64 (wrap64 (1 + t172)), .int .i64 (wrap64 (1 + t175))] 25 (0, 0)) (by (with_reducible repeat (first | refine kDN ?_ _ | refine kD ?_ | refine kA ?_ _)); exact BK178.out)) : gb199 ≠ gb178))
       have n13_ := aK ((by rw [hg]; exact Nat.ne_of_lt (blk_lt (g := gb184) (o := .cells #[.int .i64 x185000_24, .int .i64 x185001_24, .int .i64 x185002_24] 27 (0, 0)) (by (with_reducible repeat (first | refine kDN ?_ _ | refine kD ?_ | refine kA ?_ _)); exact BK184.out)) : gb184 ≠ gb199))
       have n14_ := aK ((by rw [hg]; exact Nat.ne_of_gt (blk_lt (g := gb184) (o := .cells #[.int .i64 x185000_24, .int .i64 x185001_24, .int .i64 x185002_24] 27 (0, 0)) (by (with_reducible repeat (first | refine kDN ?_ _ | refine kD ?_ | refine kA ?_ _)); exact BK184.out)) : gb199 ≠ gb184))
       have n15_ := aK ((by rw [hg]; exact Nat.ne_of_lt (IsS146.lt (show IsS146 w0 _ g s0_0 x1001_24 x1002_24 from by repeat (first | (with_reducible first | exact HI0.out | apply IsS146.alloc | apply IsS146.drewN | apply IsS146.drew | apply IsS146.set_1 | apply IsS146.set_2 | refine IsS146.far ?_ NB0_171.out _ | refine IsS146.far ?_ NB0_178.out _ | refine IsS146.far ?_ NB0_184.out _) | exact HI0.out))) : g ≠ gb199))
       have n16_ := aK ((by rw [hg]; exact Nat.ne_of_gt (IsS146.lt (show IsS146 w0 _ g s0_0 x1001_24 x1002_24 from by repeat (first | (with_reducible first | exact HI0.out | apply IsS146.alloc | apply IsS146.drewN | apply IsS146.drew | apply IsS146.set_1 | apply IsS146.set_2 | refine IsS146.far ?_ NB0_171.out _ | refine IsS146.far ?_ NB0_178.out _ | refine IsS146.far ?_ NB0_184.out _) | exact HI0.out))) : gb199 ≠ g))
       clear BK171
       clear BK178
       clear BK184
       clear HI0
       clear HK
       clear HB
       have BK171 := n0_
       have BK178 := n1_
       have BK184 := n2_
       have HI0 := n3_
       have HK := n4_
       have HB := n5_
       have BK199 := n6_
       have GW199 := n7_
       have GE199 := n8_
       have NB171_199 := n9_
       have NB199_171 := n10_
       have NB178_199 := n11_
       have NB199_178 := n12_
       have NB184_199 := n13_
       have NB199_184 := n14_
       have NB0_199 := n15_
       have NB199_0 := n16_
       clear n0_ n1_ n2_ n3_ n4_ n5_ n6_ n7_ n8_ n9_ n10_ n11_ n12_ n13_ n14_ n15_ n16_
       clear hb hbox hg
       refine hK.out _ _ ⟨(kC BK184.out 0).trans rfl, (kC BK184.out 1).trans rfl, (kC BK184.out 2).trans rfl⟩ (fun hHeld => ?_)
       clear hK K
       refine norm_ (a' := ?_) ?_ ?_
       rotate_left
       ·show Act.put _ (some 6) _ = _
        simp only [Act.put, sTA, sZ, sS, i64_w, i32_w]
        rfl
       refine one_ (i := 2) (N := some 36) #[bY,bY,bY,bN,bN,bY,bN] rfl rfl (by kernel_rfl) (by decide) (fun K hK => ?_)
       refine goes_ Try.func72 (by kernel_rfl) rfl #[.pointer (some ⟨g, 0, none⟩), .int .i64 6] (by rfl) rfl rfl (by (try simp only [List.map_toArray, List.map_cons, List.map_nil]); first | done | rfl | (simp only [List.length_drop, List.length_take]; rfl)) ?_
       with_reducible refine (spec_l01Below.calls g s0_0 x1001_24 x1002_24 6 t196 t197 t198 w0 _ ?side1 ?side2 A35.out).mono ?_
       (case side1 => repeat (first | (with_reducible first | exact HI0.out | apply IsS146.alloc | apply IsS146.drewN | apply IsS146.drew | apply IsS146.set_1 | apply IsS146.set_2 | refine IsS146.far ?_ NB0_171.out _ | refine IsS146.far ?_ NB0_178.out _ | refine IsS146.far ?_ NB0_184.out _ | refine IsS146.far ?_ NB0_199.out _) | exact HI0.out))
       (case side2 => repeat (first | (with_reducible first | exact HB.out | apply bAl | apply bDN | apply bD1 | refine bSt ?_ (IsS146.ge HI0.out) | refine bSt ?_ GE171.out | refine bSt ?_ GE178.out | refine bSt ?_ GE184.out | refine bSt ?_ GE199.out) | exact HB.out))
       rintro e w38 ⟨rfl, hi, hb, hk⟩
       refine ⟨_, rfl, ?_⟩
       have n0_ := aK (KeepBut.blk hk (g' := gb171) (o := .cells #[.int .i64 0, .int .i64 0, .int .i64 0, .int .i64 0, .slice none 0 0] 30 (0, 0)) (by (with_reducible repeat (first | refine kDN ?_ _ | refine kD ?_ | refine kA ?_ _)); exact BK171.out) NB171_0.out (by simp))
       have n1_ := aK (KeepBut.blk hk (g' := gb178) (o := .cells #[.int .i64 (wrap64 (1 + t172)), .int .i64 (wrap64 (1 + t175))] 25 (0, 0)) (by (with_reducible repeat (first | refine kDN ?_ _ | refine kD ?_ | refine kA ?_ _)); exact BK178.out) NB178_0.out (by simp))
       have n2_ := aK (KeepBut.blk hk (g' := gb184) (o := .cells #[.int .i64 x185000_24, .int .i64 x185001_24, .int .i64 x185002_24] 27 (0, 0)) (by (with_reducible repeat (first | refine kDN ?_ _ | refine kD ?_ | refine kA ?_ _)); exact BK184.out) NB184_0.out (by simp))
       have n3_ := aK (KeepBut.blk hk (g' := gb199) (o := .cells #[.int .i64 0, .int .i64 0, .int .i64 0, .int .i64 0, .slice none 0 0] 30 (0, 0)) (by (with_reducible repeat (first | refine kDN ?_ _ | refine kD ?_ | refine kA ?_ _)); exact BK199.out) NB199_0.out (by simp))
       have n4_ := aK (KeepBut.trans (by repeat (first | (with_reducible first | exact HK.out | apply KeepBut.set_ | apply keep_drewN | apply keep_drew | apply keep_alloc | refine keep_far ?_ GW171.out _ | refine keep_far ?_ GW178.out _ | refine keep_far ?_ GW184.out _ | refine keep_far ?_ GW199.out _) | exact HK.out)) hk (.inl rfl))
       have n5_ := aK (hb)
       have n6_ := aK (hi)
       clear BK171
       clear BK178
       clear BK184
       clear BK199
       clear HK
       clear HB
       clear HI0
       have BK171 := n0_
       have BK178 := n1_
       have BK184 := n2_
       have BK199 := n3_
       have HK := n4_
       have HB := n5_
       have HI0 := n6_
       clear n0_ n1_ n2_ n3_ n4_ n5_ n6_
       (try clear hb)
       (try clear hb2)
       (try clear hk)
       (try clear hi)
       refine hK.out _ _ ⟨(kC BK184.out 0).trans rfl, (kC BK184.out 1).trans rfl, (kC BK184.out 2).trans rfl⟩ (fun hHeld => ?_)
       clear hK K
       refine norm_ (a' := ?_) ?_ ?_
       rotate_left
       ·show Act.put _ (some 36) _ = _
        simp only [Act.put, sTA, sZ, sS, i64_w, i32_w]
        rfl
       refine pure_ (i := 3) (N := some 37) (v := ?_) (a' := ?_) #[bY,bY,bY,bY,bN,bY,bN] rfl rfl (by kernel_rfl) (fun _ _ _ h => h) (Or.inl ⟨by rfl, ?_⟩) ?_ ?_
       rotate_left
       ·intro w'
        go_simp
        with_reducible rfl
       rotate_left
       ·simp only [Act.put, sTA, sZ, sS, i64_w, i32_w]
        rfl
       refine pure_ (i := 4) (N := some 38) (v := ?_) (a' := ?_) #[bY,bY,bY,bY,bY,bY,bN] rfl rfl (by kernel_rfl) (fun _ _ _ h => h) (Or.inl ⟨by rfl, ?_⟩) ?_ ?_
       rotate_left
       ·intro w'
        go_simp
        with_reducible rfl
       rotate_left
       ·simp only [Act.put, sTA, sZ, sS, i64_w, i32_w]
        rfl
       exact norm_ (by simp only [putAll, Act.put, sTA, sZ, sS]) (hCont (gb199) _ ⟨hHeld, (by (with_reducible repeat (first | refine kDN ?_ _ | refine kD ?_ | refine kA ?_ _)); exact BK171.out), (by (with_reducible repeat (first | refine kDN ?_ _ | refine kD ?_ | refine kA ?_ _)); exact BK178.out), (by (with_reducible repeat (first | refine kDN ?_ _ | refine kD ?_ | refine kA ?_ _)); exact BK184.out), (by (with_reducible repeat (first | refine kDN ?_ _ | refine kD ?_ | refine kA ?_ _)); exact BK199.out), GW199.out, GE199.out, NB0_199.out, NB199_0.out, NB171_199.out, NB199_171.out, NB178_199.out, NB199_178.out, NB184_199.out, NB199_184.out, (by repeat (first | (with_reducible first | exact HI0.out | apply IsS146.alloc | apply IsS146.drewN | apply IsS146.drew | apply IsS146.set_1 | apply IsS146.set_2 | refine IsS146.far ?_ NB0_171.out _ | refine IsS146.far ?_ NB0_178.out _ | refine IsS146.far ?_ NB0_184.out _ | refine IsS146.far ?_ NB0_199.out _) | exact HI0.out)), (by repeat (first | (with_reducible first | exact HK.out | apply KeepBut.set_ | apply keep_drewN | apply keep_drew | apply keep_alloc | refine keep_far ?_ GW171.out _ | refine keep_far ?_ GW178.out _ | refine keep_far ?_ GW184.out _ | refine keep_far ?_ GW199.out _) | exact HK.out)), (by repeat (first | (with_reducible first | exact HB.out | apply bAl | apply bDN | apply bD1 | refine bSt ?_ (IsS146.ge HI0.out) | refine bSt ?_ GE171.out | refine bSt ?_ GE178.out | refine bSt ?_ GE184.out | refine bSt ?_ GE199.out) | exact HB.out))⟩)
     rintro gb199 w39 ⟨hS_, h0_, h1_, h2_, h3_, h4_, h5_, h6_, h7_, h8_, h9_, h10_, h11_, h12_, h13_, h14_, h15_, h16_⟩
     have n0_ : Aside0 (w39.heap[gb171]? = some (.cells #[.int .i64 0, .int .i64 0, .int .i64 0, .int .i64 0, .slice none 0 0] 30 (0, 0))) := ⟨h0_⟩
     have n1_ : Aside0 (w39.heap[gb178]? = some (.cells #[.int .i64 (wrap64 (1 + t172)), .int .i64 (wrap64 (1 + t175))] 25 (0, 0))) := ⟨h1_⟩
     have n2_ : Aside0 (w39.heap[gb184]? = some (.cells #[.int .i64 x185000_24, .int .i64 x185001_24, .int .i64 x185002_24] 27 (0, 0))) := ⟨h2_⟩
     have n3_ : Aside0 (w39.heap[gb199]? = some (.cells #[.int .i64 0, .int .i64 0, .int .i64 0, .int .i64 0, .slice none 0 0] 30 (0, 0))) := ⟨h3_⟩
     have n4_ : Aside0 (w.heap.size ≤ gb199) := ⟨h4_⟩
     have n5_ : Aside0 (w0.heap.size ≤ gb199) := ⟨h5_⟩
     have n6_ : Aside0 (g ≠ gb199) := ⟨h6_⟩
     have n7_ : Aside0 (gb199 ≠ g) := ⟨h7_⟩
     have n8_ : Aside0 (gb171 ≠ gb199) := ⟨h8_⟩
     have n9_ : Aside0 (gb199 ≠ gb171) := ⟨h9_⟩
     have n10_ : Aside0 (gb178 ≠ gb199) := ⟨h10_⟩
     have n11_ : Aside0 (gb199 ≠ gb178) := ⟨h11_⟩
     have n12_ : Aside0 (gb184 ≠ gb199) := ⟨h12_⟩
     have n13_ : Aside0 (gb199 ≠ gb184) := ⟨h13_⟩
     have n14_ : Aside0 (IsS146 w0 w39 g s0_0 t197 t198) := ⟨h14_⟩
     have n15_ : Aside0 (KeepBut w w39 g none) := ⟨h15_⟩
     have n16_ : Aside0 (Below w0.heap.size w0 w39) := ⟨h16_⟩
     clear BK171
     clear BK178
     clear BK184
     clear HI0
     clear HK
     clear HB
     clear h0_ h1_ h2_ h3_ h4_ h5_ h6_ h7_ h8_ h9_ h10_ h11_ h12_ h13_ h14_ h15_ h16_
     have BK171 := n0_
     have BK178 := n1_
     have BK184 := n2_
     have BK199 := n3_
     have GW199 := n4_
     have GE199 := n5_
     have NB0_199 := n6_
     have NB199_0 := n7_
     have NB171_199 := n8_
     have NB199_171 := n9_
     have NB178_199 := n10_
     have NB199_178 := n11_
     have NB184_199 := n12_
     have NB199_184 := n13_
     have HI0 := n14_
     have HK := n15_
     have HB := n16_
     clear n0_ n1_ n2_ n3_ n4_ n5_ n6_ n7_ n8_ n9_ n10_ n11_ n12_ n13_ n14_ n15_ n16_
     have hHeld : w39.cell? ⟨gb184, 0, none⟩ = some (.int .i64 x185000_24) ∧ w39.cell? ⟨gb184, 1, none⟩ = some (.int .i64 x185001_24) ∧ w39.cell? ⟨gb184, 2, none⟩ = some (.int .i64 x185002_24) := hS_
     refine norm_ (a' := ?_) ?_ ?_
     rotate_left
     ·simp only [putAll, Act.put, sTA, sZ, sS]
      rfl
     refine one_ (i := 6) (N := none) #[bY,bY,bY,bY,bY,bY,bY] rfl rfl (by kernel_rfl) (by decide) (fun K hK => ?_)
     have hs40 : w39.cell? ⟨gb199, 0, none⟩ = some (.int .i64 0) := (kC BK199.out 0).trans rfl
     have hfs40 := kF BK199.out 0
     have hns40_0 := NB171_199.out
     have hns40_1 := NB178_199.out
     have hns40_2 := NB184_199.out
     have hms40_0 := NB199_171.out
     have hms40_1 := NB199_178.out
     have hms40_2 := NB199_184.out
     have hs41 : w39.cell? ⟨gb199, 1, none⟩ = some (.int .i64 0) := (kC BK199.out 1).trans rfl
     have hfs41 := kF BK199.out 1
     have hns41_0 := NB171_199.out
     have hns41_1 := NB178_199.out
     have hns41_2 := NB184_199.out
     have hms41_0 := NB199_171.out
     have hms41_1 := NB199_178.out
     have hms41_2 := NB199_184.out
     have hs42 : w39.cell? ⟨gb199, 2, none⟩ = some (.int .i64 0) := (kC BK199.out 2).trans rfl
     have hfs42 := kF BK199.out 2
     have hns42_0 := NB171_199.out
     have hns42_1 := NB178_199.out
     have hns42_2 := NB184_199.out
     have hms42_0 := NB199_171.out
     have hms42_1 := NB199_178.out
     have hms42_2 := NB199_184.out
     have hs43 : w39.cell? ⟨gb199, 3, none⟩ = some (.int .i64 0) := (kC BK199.out 3).trans rfl
     have hfs43 := kF BK199.out 3
     have hns43_0 := NB171_199.out
     have hns43_1 := NB178_199.out
     have hns43_2 := NB184_199.out
     have hms43_0 := NB199_171.out
     have hms43_1 := NB199_178.out
     have hms43_2 := NB199_184.out
     have hs44 : w39.cell? ⟨gb199, 4, none⟩ = some (.slice none 0 0) := (kC BK199.out 4).trans rfl
     have hfs44 := kF BK199.out 4
     have hns44_0 := NB171_199.out
     have hns44_1 := NB178_199.out
     have hns44_2 := NB184_199.out
     have hms44_0 := NB199_171.out
     have hms44_1 := NB199_178.out
     have hms44_2 := NB199_184.out
     refine skip_ (w1 := ?_) (by rfl) rfl ?_ ?_
     rotate_left
     ·go_simp
      rfl
     refine hK.out _ _ ⟨((cell_far (p := ⟨gb199, _, none⟩) NB184_199.out _).trans (((cell_far (p := ⟨gb199, _, none⟩) NB184_199.out _).trans (((cell_far (p := ⟨gb199, _, none⟩) NB184_199.out _).trans (((cell_far (p := ⟨gb199, _, none⟩) NB184_199.out _).trans (((cell_far (p := ⟨gb199, _, none⟩) NB184_199.out _).trans (hHeld.1)))))))))), ((cell_far (p := ⟨gb199, _, none⟩) NB184_199.out _).trans (((cell_far (p := ⟨gb199, _, none⟩) NB184_199.out _).trans (((cell_far (p := ⟨gb199, _, none⟩) NB184_199.out _).trans (((cell_far (p := ⟨gb199, _, none⟩) NB184_199.out _).trans (((cell_far (p := ⟨gb199, _, none⟩) NB184_199.out _).trans (hHeld.2.1)))))))))), ((cell_far (p := ⟨gb199, _, none⟩) NB184_199.out _).trans (((cell_far (p := ⟨gb199, _, none⟩) NB184_199.out _).trans (((cell_far (p := ⟨gb199, _, none⟩) NB184_199.out _).trans (((cell_far (p := ⟨gb199, _, none⟩) NB184_199.out _).trans (((cell_far (p := ⟨gb199, _, none⟩) NB184_199.out _).trans (hHeld.2.2))))))))))⟩ (fun hHeld => ?_)
     clear hK K
     refine done_ (by kernel_rfl) ?_
     try go_wp2
     go_loopg [7] kj24 (fun kq v7 w' => ∃ (x7_3 : Int) (x1001_3 : Int) (x1002_3 : Int) (x200004_3 : List (SGate)) (u200004 : Value), v7 = .int .i64 x7_3 ∧ Aside0 (spec_l29Timed.l0 kq t185 x7_3 s0_0 x1001_3 x1002_3 x185000_24 x185001_24 x185002_24 x185000_24 x185001_24 x185002_24 (wrap64 (1 + t196)) x200004_3 = some (r1, r2, r3, r4, r5, r6, r7)) ∧ Aside0 (kq ≤ kj24) ∧ Aside0 (Kd.R k150 150 w' w.heap.size (fun _ => True) u200004 x200004_3) ∧ Aside0 (w'.heap[gb171]? = some (.cells #[.int .i64 0, .int .i64 0, .int .i64 0, .int .i64 0, (.slice none 0 0)] 30 (0, 0))) ∧ Aside0 (w'.heap[gb178]? = some (.cells #[.int .i64 (wrap64 (1 + t172)), .int .i64 (wrap64 (1 + t175))] 25 (0, 0))) ∧ Aside0 (w'.heap[gb184]? = some (.cells #[.int .i64 x185000_24, .int .i64 x185001_24, .int .i64 x185002_24] 27 (0, 0))) ∧ Aside0 (w'.heap[gb199]? = some (.cells #[.int .i64 x185000_24, .int .i64 x185001_24, .int .i64 x185002_24, .int .i64 (wrap64 (1 + t196)), u200004] 30 (0, 0))) ∧ Aside0 (IsS146 w0 w' g s0_0 x1001_3 x1002_3) ∧ Aside0 (KeepBut w w' g none) ∧ Aside0 (Below w0.heap.size w0 w'))
     case atStart => exact ⟨(0), (t197), (t198), (([] : List (SGate))), (.slice none 0 0), (by first | rfl | (simp; done) | (simp [*]; done)), H', ⟨Nat.le_refl _⟩, ⟨by first | exact Kd.R_nil _ _ _ _ _ | exact Kd.N_nil _ _ _ _ _ | exact Kd.V_nil _ _ _ _ _ | exact Kd.Q_nil _ _ _ _ _ | exact Kd.S_nil _ _ _ _ _⟩, ⟨by (with_reducible repeat (first | refine kDN ?_ _ | refine kD ?_ | refine kA ?_ _)); refine blk_far ?_ NB171_199.out _; (with_reducible repeat (first | refine kDN ?_ _ | refine kD ?_ | refine kA ?_ _)); refine blk_far ?_ NB171_199.out _; (with_reducible repeat (first | refine kDN ?_ _ | refine kD ?_ | refine kA ?_ _)); refine blk_far ?_ NB171_199.out _; (with_reducible repeat (first | refine kDN ?_ _ | refine kD ?_ | refine kA ?_ _)); refine blk_far ?_ NB171_199.out _; (with_reducible repeat (first | refine kDN ?_ _ | refine kD ?_ | refine kA ?_ _)); refine blk_far ?_ NB171_199.out _; (with_reducible repeat (first | refine kDN ?_ _ | refine kD ?_ | refine kA ?_ _)); exact BK171.out⟩, ⟨by (with_reducible repeat (first | refine kDN ?_ _ | refine kD ?_ | refine kA ?_ _)); refine blk_far ?_ NB178_199.out _; (with_reducible repeat (first | refine kDN ?_ _ | refine kD ?_ | refine kA ?_ _)); refine blk_far ?_ NB178_199.out _; (with_reducible repeat (first | refine kDN ?_ _ | refine kD ?_ | refine kA ?_ _)); refine blk_far ?_ NB178_199.out _; (with_reducible repeat (first | refine kDN ?_ _ | refine kD ?_ | refine kA ?_ _)); refine blk_far ?_ NB178_199.out _; (with_reducible repeat (first | refine kDN ?_ _ | refine kD ?_ | refine kA ?_ _)); refine blk_far ?_ NB178_199.out _; (with_reducible repeat (first | refine kDN ?_ _ | refine kD ?_ | refine kA ?_ _)); exact BK178.out⟩, ⟨by (with_reducible repeat (first | refine kDN ?_ _ | refine kD ?_ | refine kA ?_ _)); refine blk_far ?_ NB184_199.out _; (with_reducible repeat (first | refine kDN ?_ _ | refine kD ?_ | refine kA ?_ _)); refine blk_far ?_ NB184_199.out _; (with_reducible repeat (first | refine kDN ?_ _ | refine kD ?_ | refine kA ?_ _)); refine blk_far ?_ NB184_199.out _; (with_reducible repeat (first | refine kDN ?_ _ | refine kD ?_ | refine kA ?_ _)); refine blk_far ?_ NB184_199.out _; (with_reducible repeat (first | refine kDN ?_ _ | refine kD ?_ | refine kA ?_ _)); refine blk_far ?_ NB184_199.out _; (with_reducible repeat (first | refine kDN ?_ _ | refine kD ?_ | refine kA ?_ _)); exact BK184.out⟩, ⟨by (with_reducible repeat (first | refine kDN ?_ _ | refine kD ?_ | refine kA ?_ _)); refine blk_put (cs := #[.int .i64 x185000_24, .int .i64 x185001_24, .int .i64 x185002_24, .int .i64 (wrap64 (1 + t196)), .slice none 0 0]) ?_ 4 _ rfl; (with_reducible repeat (first | refine kDN ?_ _ | refine kD ?_ | refine kA ?_ _)); refine blk_put (cs := #[.int .i64 x185000_24, .int .i64 x185001_24, .int .i64 x185002_24, .int .i64 0, .slice none 0 0]) ?_ 3 _ rfl; (with_reducible repeat (first | refine kDN ?_ _ | refine kD ?_ | refine kA ?_ _)); refine blk_put (cs := #[.int .i64 x185000_24, .int .i64 x185001_24, .int .i64 0, .int .i64 0, .slice none 0 0]) ?_ 2 _ rfl; (with_reducible repeat (first | refine kDN ?_ _ | refine kD ?_ | refine kA ?_ _)); refine blk_put (cs := #[.int .i64 x185000_24, .int .i64 0, .int .i64 0, .int .i64 0, .slice none 0 0]) ?_ 1 _ rfl; (with_reducible repeat (first | refine kDN ?_ _ | refine kD ?_ | refine kA ?_ _)); refine blk_put (cs := #[.int .i64 0, .int .i64 0, .int .i64 0, .int .i64 0, .slice none 0 0]) ?_ 0 _ rfl; (with_reducible repeat (first | refine kDN ?_ _ | refine kD ?_ | refine kA ?_ _)); exact BK199.out⟩, ⟨by repeat (first | (with_reducible first | exact HI0.out | apply IsS146.alloc | apply IsS146.drewN | apply IsS146.drew | apply IsS146.set_1 | apply IsS146.set_2 | refine IsS146.far ?_ NB0_171.out _ | refine IsS146.far ?_ NB0_178.out _ | refine IsS146.far ?_ NB0_184.out _ | refine IsS146.far ?_ NB0_199.out _) | exact HI0.out)⟩, ⟨by repeat (first | (with_reducible first | exact HK.out | apply KeepBut.set_ | apply keep_drewN | apply keep_drew | apply keep_alloc | refine keep_far ?_ GW171.out _ | refine keep_far ?_ GW178.out _ | refine keep_far ?_ GW184.out _ | refine keep_far ?_ GW199.out _) | exact HK.out)⟩, ⟨by repeat (first | (with_reducible first | exact HB.out | apply bAl | apply bDN | apply bD1 | refine bSt ?_ (IsS146.ge HI0.out) | refine bSt ?_ GE171.out | refine bSt ?_ GE178.out | refine bSt ?_ GE184.out | refine bSt ?_ GE199.out) | exact HB.out)⟩⟩
     case round =>
      clear H'
      try clear c1
      try clear c2
      try clear p2
      try clear c6
      try clear p6
      try clear c7
      try clear c10
      try clear c11
      try clear c12
      try clear c13
      try clear c16
      try clear c17
      try clear c18
      try clear c22
      try clear c22b0
      try clear c26
      try clear hcz13_0
      try clear hcz13_1
      try clear hcz19_0
      try clear hcz19_1
      try clear hcz19_2
      try clear hcz20_0
      try clear hcz20_1
      try clear hfz13_0
      try clear hfz13_1
      try clear hfz19_0
      try clear hfz19_1
      try clear hfz19_2
      try clear hfz20_0
      try clear hfz20_1
      try clear p2
      try clear p6
      obtain ⟨x7_3, x1001_3, x1002_3, x200004_3, u200004, rfl, HA, HK3, HO_200004, BK171, BK178, BK184, BK199, HI0, HK, HB⟩ := hrel
      cases gk with
      | zero => exact absurd HA.out (by simp [spec_l29Timed.l0])
      | succ k3 =>
       have H := HA.out
       clear HA
       simp only [spec_l29Timed.l0] at H
       have HC45 := aK H
       clear H
       go_upto_region 8 with (fail)
       go_cut [47] (fun v47 wc => ∃ (kq : Nat) (x47_44 : Bool), v47 = .bool x47_44 ∧ Aside0 (spec_l29Timed.j3 kq t185 x7_3 x47_44 s0_0 x1001_3 x1002_3 x185000_24 x185001_24 x185002_24 x185000_24 x185001_24 x185002_24 (wrap64 (1 + t196)) x200004_3 = some (r1, r2, r3, r4, r5, r6, r7)) ∧ Aside0 (kq ≤ k3) ∧ Aside0 (Kd.R k150 150 wc w.heap.size (fun _ => True) u200004 x200004_3) ∧ Aside0 (wc.heap[gb171]? = some (.cells #[.int .i64 0, .int .i64 0, .int .i64 0, .int .i64 0, (.slice none 0 0)] 30 (0, 0))) ∧ Aside0 (wc.heap[gb178]? = some (.cells #[.int .i64 (wrap64 (1 + t172)), .int .i64 (wrap64 (1 + t175))] 25 (0, 0))) ∧ Aside0 (wc.heap[gb184]? = some (.cells #[.int .i64 x185000_24, .int .i64 x185001_24, .int .i64 x185002_24] 27 (0, 0))) ∧ Aside0 (wc.heap[gb199]? = some (.cells #[.int .i64 x185000_24, .int .i64 x185001_24, .int .i64 x185002_24, .int .i64 (wrap64 (1 + t196)), u200004] 30 (0, 0))) ∧ Aside0 (IsS146 w0 wc g s0_0 x1001_3 x1002_3) ∧ Aside0 (KeepBut w wc g none) ∧ Aside0 (Below w0.heap.size w0 wc))
       case first =>
        have H := HC45.out
        clear HC45
        by_cases c46 : x7_3 < t185
        ·rw [if_pos c46] at H
         have c46b0 : decide (x7_3 < t185) = true := decide_eq_true c46
         clear c46
         (first | rw [c46b0] | (simp only [i64_w, i32_w]; rw [c46b0]) | skip)
         have H' := aK H
         clear H
         have hnb47 := NB199_171.out
         have hnc47 := NB171_199.out
         have hnb48 := NB199_178.out
         have hnc48 := NB178_199.out
         have hnb49 := NB199_184.out
         have hnc49 := NB184_199.out
         have hnb50 := NB199_0.out
         have hnc50 := NB0_199.out
         obtain ⟨hcz51_0, hcz51_1, hcz51_2, hcz51_3, hcz51_4, hfz51_0, hfz51_1, hfz51_2, hfz51_3, hfz51_4⟩ := cl5 BK199.out
         obtain ⟨Ao52, co52, eo52⟩ := Kd.R_slice HO_200004.out
         subst eo52
         go_wp2
         go_meet
         case rel => exact ⟨_, (decide ((x200004_3.length : Int) < 5)), (by first | rfl | (simp; done) | (simp [*]; done)), H', ⟨by have := HJ5.out; have := HJ24.out; have := HK3.out; first | omega | exact Nat.le_refl _⟩, ⟨by (with_reducible repeat (first | apply Kd.R_alloc | apply Kd.R_drewN | apply Kd.R_drew)); exact HO_200004.out⟩, ⟨by (with_reducible repeat (first | refine kDN ?_ _ | refine kD ?_ | refine kA ?_ _)); exact BK171.out⟩, ⟨by (with_reducible repeat (first | refine kDN ?_ _ | refine kD ?_ | refine kA ?_ _)); exact BK178.out⟩, ⟨by (with_reducible repeat (first | refine kDN ?_ _ | refine kD ?_ | refine kA ?_ _)); exact BK184.out⟩, ⟨by (with_reducible repeat (first | refine kDN ?_ _ | refine kD ?_ | refine kA ?_ _)); exact BK199.out⟩, ⟨by repeat (first | (with_reducible first | exact HI0.out | apply IsS146.alloc | apply IsS146.drewN | apply IsS146.drew | apply IsS146.set_1 | apply IsS146.set_2 | refine IsS146.far ?_ NB0_171.out _ | refine IsS146.far ?_ NB0_178.out _ | refine IsS146.far ?_ NB0_184.out _ | refine IsS146.far ?_ NB0_199.out _) | exact HI0.out)⟩, ⟨by repeat (first | (with_reducible first | exact HK.out | apply KeepBut.set_ | apply keep_drewN | apply keep_drew | apply keep_alloc | refine keep_far ?_ GW171.out _ | refine keep_far ?_ GW178.out _ | refine keep_far ?_ GW184.out _ | refine keep_far ?_ GW199.out _) | exact HK.out)⟩, ⟨by repeat (first | (with_reducible first | exact HB.out | apply bAl | apply bDN | apply bD1 | refine bSt ?_ (IsS146.ge HI0.out) | refine bSt ?_ GE171.out | refine bSt ?_ GE178.out | refine bSt ?_ GE184.out | refine bSt ?_ GE199.out) | exact HB.out)⟩⟩
        ·rw [if_neg c46] at H
         have c46b0 : decide (x7_3 < t185) = false := decide_eq_false c46
         clear c46
         (first | rw [c46b0] | (simp only [i64_w, i32_w]; rw [c46b0]) | skip)
         have H' := aK H
         clear H
         go_wp2
         go_meet
         case rel => exact ⟨_, (false), (by first | rfl | (simp; done) | (simp [*]; done)), H', ⟨by have := HJ5.out; have := HJ24.out; have := HK3.out; first | omega | exact Nat.le_refl _⟩, ⟨by (with_reducible repeat (first | apply Kd.R_alloc | apply Kd.R_drewN | apply Kd.R_drew)); exact HO_200004.out⟩, ⟨by (with_reducible repeat (first | refine kDN ?_ _ | refine kD ?_ | refine kA ?_ _)); exact BK171.out⟩, ⟨by (with_reducible repeat (first | refine kDN ?_ _ | refine kD ?_ | refine kA ?_ _)); exact BK178.out⟩, ⟨by (with_reducible repeat (first | refine kDN ?_ _ | refine kD ?_ | refine kA ?_ _)); exact BK184.out⟩, ⟨by (with_reducible repeat (first | refine kDN ?_ _ | refine kD ?_ | refine kA ?_ _)); exact BK199.out⟩, ⟨by repeat (first | (with_reducible first | exact HI0.out | apply IsS146.alloc | apply IsS146.drewN | apply IsS146.drew | apply IsS146.set_1 | apply IsS146.set_2 | refine IsS146.far ?_ NB0_171.out _ | refine IsS146.far ?_ NB0_178.out _ | refine IsS146.far ?_ NB0_184.out _ | refine IsS146.far ?_ NB0_199.out _) | exact HI0.out)⟩, ⟨by repeat (first | (with_reducible first | exact HK.out | apply KeepBut.set_ | apply keep_drewN | apply keep_drew | apply keep_alloc | refine keep_far ?_ GW171.out _ | refine keep_far ?_ GW178.out _ | refine keep_far ?_ GW184.out _ | refine keep_far ?_ GW199.out _) | exact HK.out)⟩, ⟨by repeat (first | (with_reducible first | exact HB.out | apply bAl | apply bDN | apply bD1 | refine bSt ?_ (IsS146.ge HI0.out) | refine bSt ?_ GE171.out | refine bSt ?_ GE178.out | refine bSt ?_ GE184.out | refine bSt ?_ GE199.out) | exact HB.out)⟩⟩
       case rest =>
        clear HC45
        try clear c1
        try clear c2
        try clear p2
        try clear c4
        try clear c5
        try clear c6
        try clear p6
        try clear c7
        try clear c10
        try clear c11
        try clear c12
        try clear c13
        try clear c16
        try clear c17
        try clear c18
        try clear c22
        try clear c22b0
        try clear c26
        try clear c46
        try clear c46b0
        try clear c47
        try clear c48
        try clear c49
        try clear c50
        try clear hcz13_0
        try clear hcz13_1
        try clear hcz19_0
        try clear hcz19_1
        try clear hcz19_2
        try clear hcz20_0
        try clear hcz20_1
        try clear hcz51_0
        try clear hcz51_1
        try clear hcz51_2
        try clear hcz51_3
        try clear hcz51_4
        try clear hfz13_0
        try clear hfz13_1
        try clear hfz19_0
        try clear hfz19_1
        try clear hfz19_2
        try clear hfz20_0
        try clear hfz20_1
        try clear hfz51_0
        try clear hfz51_1
        try clear hfz51_2
        try clear hfz51_3
        try clear hfz51_4
        try clear p2
        try clear p6
        obtain ⟨kq, x47_44, rfl, HA, HJ44, HO_200004, BK171, BK178, BK184, BK199, HI0, HK, HB⟩ := hcut
        cases kq with
        | zero => exact absurd HA.out (by simp [spec_l29Timed.j3])
        | succ kj44 =>
         have H := HA.out
         clear HA
         simp only [spec_l29Timed.j3] at H
         by_cases c53 : x47_44 = true
         ·subst c53
          have H1 : ((spec_l03Bit.f x185002_24 x7_3).bind fun t200 => (if t200 = true then ((spec_l01Once.f s0_0 x1001_3 x1002_3 3).bind fun bt201 => (if bt201.1 = true then (if 0 ≤ (wrap64 (1 + t196)) then ((spec_l01Below.f s0_0 bt201.2.1 bt201.2.2 (shl .i64 1 (wrap64 (1 + t196)))).bind fun bt204 => (if x200004_3.length < 8796093022208 then (spec_l29Timed.l0 kj44 t185 (wrap64 (x7_3 + 1)) s0_0 bt204.2.1 bt204.2.2 x185000_24 x185001_24 x185002_24 x185000_24 x185001_24 x185002_24 (wrap64 (1 + t196)) (x200004_3 ++ [(⟨x7_3, bt204.1⟩ : SGate)])) else (none))) else (none)) else (spec_l29Timed.l0 kj44 t185 (wrap64 (x7_3 + 1)) s0_0 bt201.2.1 bt201.2.2 x185000_24 x185001_24 x185002_24 x185000_24 x185001_24 x185002_24 (wrap64 (1 + t196)) x200004_3))) else (spec_l29Timed.l0 kj44 t185 (wrap64 (x7_3 + 1)) s0_0 x1001_3 x1002_3 x185000_24 x185001_24 x185002_24 x185000_24 x185001_24 x185002_24 (wrap64 (1 + t196)) x200004_3))) = some (r1, r2, r3, r4, r5, r6, r7) := by rw [if_pos rfl] at H; exact H
          clear H
          have H := H1
          clear H1
          replace H := Option.bind_eq_some_iff.mp H
          obtain ⟨t200, A540, H⟩ := H
          replace H : (if t200 = true then ((spec_l01Once.f s0_0 x1001_3 x1002_3 3).bind fun bt201 => (if bt201.1 = true then (if 0 ≤ (wrap64 (1 + t196)) then ((spec_l01Below.f s0_0 bt201.2.1 bt201.2.2 (shl .i64 1 (wrap64 (1 + t196)))).bind fun bt204 => (if x200004_3.length < 8796093022208 then (spec_l29Timed.l0 kj44 t185 (wrap64 (x7_3 + 1)) s0_0 bt204.2.1 bt204.2.2 x185000_24 x185001_24 x185002_24 x185000_24 x185001_24 x185002_24 (wrap64 (1 + t196)) (x200004_3 ++ [(⟨x7_3, bt204.1⟩ : SGate)])) else (none))) else (none)) else (spec_l29Timed.l0 kj44 t185 (wrap64 (x7_3 + 1)) s0_0 bt201.2.1 bt201.2.2 x185000_24 x185001_24 x185002_24 x185000_24 x185001_24 x185002_24 (wrap64 (1 + t196)) x200004_3))) else (spec_l29Timed.l0 kj44 t185 (wrap64 (x7_3 + 1)) s0_0 x1001_3 x1002_3 x185000_24 x185001_24 x185002_24 x185000_24 x185001_24 x185002_24 (wrap64 (1 + t196)) x200004_3)) = some (r1, r2, r3, r4, r5, r6, r7) := H
          have A54 := aK A540
          clear A540
          by_cases c55 : t200 = true
          ·subst c55
           have H1 : ((spec_l01Once.f s0_0 x1001_3 x1002_3 3).bind fun bt201 => (if bt201.1 = true then (if 0 ≤ (wrap64 (1 + t196)) then ((spec_l01Below.f s0_0 bt201.2.1 bt201.2.2 (shl .i64 1 (wrap64 (1 + t196)))).bind fun bt204 => (if x200004_3.length < 8796093022208 then (spec_l29Timed.l0 kj44 t185 (wrap64 (x7_3 + 1)) s0_0 bt204.2.1 bt204.2.2 x185000_24 x185001_24 x185002_24 x185000_24 x185001_24 x185002_24 (wrap64 (1 + t196)) (x200004_3 ++ [(⟨x7_3, bt204.1⟩ : SGate)])) else (none))) else (none)) else (spec_l29Timed.l0 kj44 t185 (wrap64 (x7_3 + 1)) s0_0 bt201.2.1 bt201.2.2 x185000_24 x185001_24 x185002_24 x185000_24 x185001_24 x185002_24 (wrap64 (1 + t196)) x200004_3))) = some (r1, r2, r3, r4, r5, r6, r7) := by rw [if_pos rfl] at H; exact H
           clear H
           have H := H1
           clear H1
           replace H := Option.bind_eq_some_iff.mp H
           obtain ⟨⟨t201, t202, t203⟩, A560, H⟩ := H
           replace H : (if t201 = true then (if 0 ≤ (wrap64 (1 + t196)) then ((spec_l01Below.f s0_0 t202 t203 (shl .i64 1 (wrap64 (1 + t196)))).bind fun bt204 => (if x200004_3.length < 8796093022208 then (spec_l29Timed.l0 kj44 t185 (wrap64 (x7_3 + 1)) s0_0 bt204.2.1 bt204.2.2 x185000_24 x185001_24 x185002_24 x185000_24 x185001_24 x185002_24 (wrap64 (1 + t196)) (x200004_3 ++ [(⟨x7_3, bt204.1⟩ : SGate)])) else (none))) else (none)) else (spec_l29Timed.l0 kj44 t185 (wrap64 (x7_3 + 1)) s0_0 t202 t203 x185000_24 x185001_24 x185002_24 x185000_24 x185001_24 x185002_24 (wrap64 (1 + t196)) x200004_3)) = some (r1, r2, r3, r4, r5, r6, r7) := H
           have A56 := aK A560
           clear A560
           by_cases c57 : t201 = true
           ·subst c57
            have H1 : (if 0 ≤ (wrap64 (1 + t196)) then ((spec_l01Below.f s0_0 t202 t203 (shl .i64 1 (wrap64 (1 + t196)))).bind fun bt204 => (if x200004_3.length < 8796093022208 then (spec_l29Timed.l0 kj44 t185 (wrap64 (x7_3 + 1)) s0_0 bt204.2.1 bt204.2.2 x185000_24 x185001_24 x185002_24 x185000_24 x185001_24 x185002_24 (wrap64 (1 + t196)) (x200004_3 ++ [(⟨x7_3, bt204.1⟩ : SGate)])) else (none))) else (none)) = some (r1, r2, r3, r4, r5, r6, r7) := by rw [if_pos rfl] at H; exact H
            clear H
            have H := H1
            clear H1
            obtain ⟨ji58, hji58⟩ : ∃ j_ : Int, (wrap64 (1 + t196)) = j_ := ⟨_, rfl⟩
            (try rw [hji58] at BK171)
            (try rw [hji58] at BK178)
            (try rw [hji58] at BK184)
            (try rw [hji58] at BK199)
            replace H : (if 0 ≤ (ji58) then ((spec_l01Below.f s0_0 t202 t203 (shl .i64 1 (ji58))).bind fun bt204 => (if x200004_3.length < 8796093022208 then (spec_l29Timed.l0 kj44 t185 (wrap64 (x7_3 + 1)) s0_0 bt204.2.1 bt204.2.2 x185000_24 x185001_24 x185002_24 x185000_24 x185001_24 x185002_24 (ji58) (x200004_3 ++ [(⟨x7_3, bt204.1⟩ : SGate)])) else (none))) else (none)) = some (r1, r2, r3, r4, r5, r6, r7) := by first | (rw [hji58] at H; exact H) | (simp only [hji58] at H ⊢; exact H)
            (try rw [hji58] at A54)
            (try rw [hji58] at A56)
            have hji58w : (IntKind.i64.wrap (1 + t196)) = ji58 := (i64_w _).trans hji58
            by_cases c59 : 0 ≤ (ji58)
            ·rw [if_pos c59] at H
             have c59b0 := eq_true c59
             have c59b1 : decide (0 ≤ (ji58)) = true := decide_eq_true c59
             clear c59
             obtain ⟨ji60, hji60⟩ : ∃ j_ : Int, (shl .i64 1 (ji58)) = j_ := ⟨_, rfl⟩
             replace H : ((spec_l01Below.f s0_0 t202 t203 (ji60)).bind fun bt204 => (if x200004_3.length < 8796093022208 then (spec_l29Timed.l0 kj44 t185 (wrap64 (x7_3 + 1)) s0_0 bt204.2.1 bt204.2.2 x185000_24 x185001_24 x185002_24 x185000_24 x185001_24 x185002_24 (ji58) (x200004_3 ++ [(⟨x7_3, bt204.1⟩ : SGate)])) else (none))) = some (r1, r2, r3, r4, r5, r6, r7) := by first | (rw [hji60] at H; exact H) | (simp only [hji60] at H ⊢; exact H)
             (try rw [hji60] at A54)
             (try rw [hji60] at A56)
             have hji60_ : (IntKind.i64.wrap (1 * 2 ^ min (ji58).toNat 64)) = ji60 := hji60
             have hji60z : (ji58) ≤ 64 → (IntKind.i64.wrap (1 * 2 ^ (ji58).toNat)) = ji60 := shl_small hji60
             have hji60u : (IntKind.i64.wrap (2 ^ min (ji58).toNat 64)) = ji60 := by have h_ := hji60_; rw [Int.one_mul] at h_; exact h_
             have hji60v : (ji58) ≤ 64 → (IntKind.i64.wrap (2 ^ (ji58).toNat)) = ji60 := fun hle_ => by have h_ := hji60z hle_; rw [Int.one_mul] at h_; exact h_
             have hji60y : (wrap64 (1 * 2 ^ min (ji58).toNat 64)) = ji60 := (i64_w _).symm.trans hji60_
             have hji60x : (ji58) ≤ 64 → (wrap64 (1 * 2 ^ (ji58).toNat)) = ji60 := fun h_ => (i64_w _).symm.trans (hji60z h_)
             replace H := Option.bind_eq_some_iff.mp H
             obtain ⟨⟨t204, t205, t206⟩, A610, H⟩ := H
             replace H : (if x200004_3.length < 8796093022208 then (spec_l29Timed.l0 kj44 t185 (wrap64 (x7_3 + 1)) s0_0 t205 t206 x185000_24 x185001_24 x185002_24 x185000_24 x185001_24 x185002_24 (ji58) (x200004_3 ++ [(⟨x7_3, t204⟩ : SGate)])) else (none)) = some (r1, r2, r3, r4, r5, r6, r7) := H
             have A61 := aK A610
             clear A610
             by_cases c62 : x200004_3.length < 8796093022208
             ·rw [if_pos c62] at H
              have LMc62 := aK c62
              clear c62
              obtain ⟨y207, hy207⟩ : ∃ y_ : List (SGate), y_ = (x200004_3 ++ [(⟨x7_3, t204⟩ : SGate)]) := ⟨_, rfl⟩
              replace H : (spec_l29Timed.l0 kj44 t185 (wrap64 (x7_3 + 1)) s0_0 t205 t206 x185000_24 x185001_24 x185002_24 x185000_24 x185001_24 x185002_24 (ji58) y207) = some (r1, r2, r3, r4, r5, r6, r7) := by first | (rw [hy207]; with_reducible exact H) | (have H2_ := (Option.bind_some _ _).symm.trans H; rw [hy207]; with_reducible exact H2_) | (have H2_ := (Option.bind_some _ _).symm.trans H; with_reducible exact H2_) | with_reducible exact H | (rw [hy207]; exact H) | exact H
              have Ny207 := aK hy207
              clear hy207
              have H' := aK H
              clear H
              have hnb63 := NB184_171.out
              have hnc63 := NB171_184.out
              have hnb64 := NB184_178.out
              have hnc64 := NB178_184.out
              have hnb65 := NB184_199.out
              have hnc65 := NB199_184.out
              have hnb66 := NB184_0.out
              have hnc66 := NB0_184.out
              obtain ⟨hcz67_0, hcz67_1, hcz67_2, hfz67_0, hfz67_1, hfz67_2⟩ := cl3 BK184.out
              try go_wp2_with (first | ((with_reducible refine gate_callee (f := 105) rfl ?_); refine goesL_ (some 53) rfl rfl Try.func105 (by kernel_rfl) rfl #[.int .i64 x185002_24, .int .i64 x7_3] rfl (by (try simp only [List.map_toArray, List.map_cons, List.map_nil]); first | done | rfl | (simp only [List.length_drop, List.length_take]; rfl)) ?_; (with_reducible refine (spec_l03Bit.calls x185002_24 x7_3 true _ A54.out).mono ?_); rintro e w' ⟨rfl, ⟨nd, rfl⟩⟩; refine ⟨_, rfl, ?_⟩; (try (rw [drewN_self wc]; generalize hq_ : World.drewN wc _ = wc; have n0_ : Aside0 (Kd.R k150 150 wc w.heap.size (fun _ => True) u200004 x200004_3) := ⟨by rw [← hq_]; exact (by (with_reducible repeat (first | apply Kd.R_alloc | apply Kd.R_drewN | apply Kd.R_drew)); exact HO_200004.out)⟩; have n1_ : Aside0 (wc.heap[gb171]? = some (.cells #[.int .i64 0, .int .i64 0, .int .i64 0, .int .i64 0, .slice none 0 0] 30 (0, 0))) := ⟨by rw [← hq_]; exact (by (with_reducible repeat (first | refine kDN ?_ _ | refine kD ?_ | refine kA ?_ _)); exact BK171.out)⟩; have n2_ : Aside0 (wc.heap[gb178]? = some (.cells #[.int .i64 (wrap64 (1 + t172)), .int .i64 (wrap64 (1 + t175))] 25 (0, 0))) := ⟨by rw [← hq_]; exact (by (with_reducible repeat (first | refine kDN ?_ _ | refine kD ?_ | refine kA ?_ _)); exact BK178.out)⟩; have n3_ : Aside0 (wc.heap[gb184]? = some (.cells #[.int .i64 x185000_24, .int .i64 x185001_24, .int .i64 x185002_24] 27 (0, 0))) := ⟨by rw [← hq_]; exact (by (with_reducible repeat (first | refine kDN ?_ _ | refine kD ?_ | refine kA ?_ _)); exact BK184.out)⟩; have n4_ : Aside0 (wc.heap[gb199]? = some (.cells #[.int .i64 x185000_24, .int .i64 x185001_24, .int .i64 x185002_24, .int .i64 (ji58), u200004] 30 (0, 0))) := ⟨by rw [← hq_]; exact (by (with_reducible repeat (first | refine kDN ?_ _ | refine kD ?_ | refine kA ?_ _)); exact BK199.out)⟩; have n5_ : Aside0 (IsS146 w0 wc g s0_0 x1001_3 x1002_3) := ⟨by rw [← hq_]; exact (by repeat (first | (with_reducible first | exact HI0.out | apply IsS146.alloc | apply IsS146.drewN | apply IsS146.drew | apply IsS146.set_1 | apply IsS146.set_2 | refine IsS146.far ?_ NB0_171.out _ | refine IsS146.far ?_ NB0_178.out _ | refine IsS146.far ?_ NB0_184.out _ | refine IsS146.far ?_ NB0_199.out _) | exact HI0.out))⟩; have n6_ : Aside0 (KeepBut w wc g none) := ⟨by rw [← hq_]; exact (by repeat (first | (with_reducible first | exact HK.out | apply KeepBut.set_ | apply keep_drewN | apply keep_drew | apply keep_alloc | refine keep_far ?_ GW171.out _ | refine keep_far ?_ GW178.out _ | refine keep_far ?_ GW184.out _ | refine keep_far ?_ GW199.out _) | exact HK.out))⟩; have n7_ : Aside0 (Below w0.heap.size w0 wc) := ⟨by rw [← hq_]; exact (by repeat (first | (with_reducible first | exact HB.out | apply bAl | apply bDN | apply bD1 | refine bSt ?_ (IsS146.ge HI0.out) | refine bSt ?_ GE171.out | refine bSt ?_ GE178.out | refine bSt ?_ GE184.out | refine bSt ?_ GE199.out) | exact HB.out))⟩; clear HO_200004 BK171 BK178 BK184 BK199 HI0 HK HB hq_; have HO_200004 := n0_; have BK171 := n1_; have BK178 := n2_; have BK184 := n3_; have BK199 := n4_; have HI0 := n5_; have HK := n6_; have HB := n7_; clear n0_ n1_ n2_ n3_ n4_ n5_ n6_ n7_))) | (go_at_call 134; (with_reducible refine (spec_l01Once.calls g s0_0 x1001_3 x1002_3 3 true t202 t203 w0 _ ?side1 ?side2 A56.out).mono ?_); (case side1 => repeat (first | (with_reducible first | exact HI0.out | apply IsS146.alloc | apply IsS146.drewN | apply IsS146.drew | apply IsS146.set_1 | apply IsS146.set_2 | refine IsS146.far ?_ NB0_171.out _ | refine IsS146.far ?_ NB0_178.out _ | refine IsS146.far ?_ NB0_184.out _ | refine IsS146.far ?_ NB0_199.out _) | exact HI0.out)); (case side2 => repeat (first | (with_reducible first | exact HB.out | apply bAl | apply bDN | apply bD1 | refine bSt ?_ (IsS146.ge HI0.out) | refine bSt ?_ GE171.out | refine bSt ?_ GE178.out | refine bSt ?_ GE184.out | refine bSt ?_ GE199.out) | exact HB.out)); rintro e w68 ⟨rfl, hi, hb, hk⟩; have n0_ := aK (Kd.R_mono (Kd.R_keep (IsS146.apart (show IsS146 w0 _ g s0_0 x1001_3 x1002_3 from by repeat (first | (with_reducible first | exact HI0.out | apply IsS146.alloc | apply IsS146.drewN | apply IsS146.drew | apply IsS146.set_1 | apply IsS146.set_2 | refine IsS146.far ?_ NB0_171.out _ | refine IsS146.far ?_ NB0_178.out _ | refine IsS146.far ?_ NB0_184.out _ | refine IsS146.far ?_ NB0_199.out _) | exact HI0.out)) (by (with_reducible repeat (first | apply Kd.R_alloc | apply Kd.R_drewN | apply Kd.R_drew)); exact HO_200004.out) (by decide)) hk (fun _ h => h.2)) (fun _ h => h.1)); have n1_ := aK (KeepBut.blk hk (g' := gb171) (o := .cells #[.int .i64 0, .int .i64 0, .int .i64 0, .int .i64 0, .slice none 0 0] 30 (0, 0)) (by (with_reducible repeat (first | refine kDN ?_ _ | refine kD ?_ | refine kA ?_ _)); exact BK171.out) NB171_0.out (by simp)); have n2_ := aK (KeepBut.blk hk (g' := gb178) (o := .cells #[.int .i64 (wrap64 (1 + t172)), .int .i64 (wrap64 (1 + t175))] 25 (0, 0)) (by (with_reducible repeat (first | refine kDN ?_ _ | refine kD ?_ | refine kA ?_ _)); exact BK178.out) NB178_0.out (by simp)); have n3_ := aK (KeepBut.blk hk (g' := gb184) (o := .cells #[.int .i64 x185000_24, .int .i64 x185001_24, .int .i64 x185002_24] 27 (0, 0)) (by (with_reducible repeat (first | refine kDN ?_ _ | refine kD ?_ | refine kA ?_ _)); exact BK184.out) NB184_0.out (by simp)); have n4_ := aK (KeepBut.blk hk (g' := gb199) (o := .cells #[.int .i64 x185000_24, .int .i64 x185001_24, .int .i64 x185002_24, .int .i64 (ji58), u200004] 30 (0, 0)) (by (with_reducible repeat (first | refine kDN ?_ _ | refine kD ?_ | refine kA ?_ _)); exact BK199.out) NB199_0.out (by simp)); have n5_ := aK (KeepBut.trans (by repeat (first | (with_reducible first | exact HK.out | apply KeepBut.set_ | apply keep_drewN | apply keep_drew | apply keep_alloc | refine keep_far ?_ GW171.out _ | refine keep_far ?_ GW178.out _ | refine keep_far ?_ GW184.out _ | refine keep_far ?_ GW199.out _) | exact HK.out)) hk (.inl rfl)); have n6_ := aK (hb); have n7_ := aK (hi); clear HO_200004; clear BK171; clear BK178; clear BK184; clear BK199; clear HK; clear HB; clear HI0; have HO_200004 := n0_; have BK171 := n1_; have BK178 := n2_; have BK184 := n3_; have BK199 := n4_; have HK := n5_; have HB := n6_; have HI0 := n7_; clear n0_ n1_ n2_ n3_ n4_ n5_ n6_ n7_; (try clear hb); (try clear hb2); (try clear hk); (try clear hi)))
              have n0_ := aK (Kd.R_drew HO_200004.out)
              have n1_ := aK (kD BK171.out)
              have n2_ := aK (kD BK178.out)
              have n3_ := aK (kD BK184.out)
              have n4_ := aK (kD BK199.out)
              have n5_ := aK (IsS146.drew HI0.out)
              have n6_ := aK (keep_drew HK.out)
              have n7_ := aK (bD1 HB.out)
              clear HO_200004
              clear BK171
              clear BK178
              clear BK184
              clear BK199
              clear HI0
              clear HK
              clear HB
              have HO_200004 := n0_
              have BK171 := n1_
              have BK178 := n2_
              have BK184 := n3_
              have BK199 := n4_
              have HI0 := n5_
              have HK := n6_
              have HB := n7_
              clear n0_ n1_ n2_ n3_ n4_ n5_ n6_ n7_
              refine start_ (n := 13) (S := fun w' => w'.cell? ⟨gb199, 0, none⟩ = some (.int .i64 x185000_24) ∧ w'.cell? ⟨gb199, 1, none⟩ = some (.int .i64 x185001_24) ∧ w'.cell? ⟨gb199, 2, none⟩ = some (.int .i64 x185002_24) ∧ w'.cell? ⟨gb199, 3, none⟩ = some (.int .i64 (ji58)) ∧ w'.cell? ⟨gb199, 4, none⟩ = some (u200004)) (ds := [12]) #[bN,bN,bN,bN,bN,bN,bN,bN,bN,bN,bN,bN,bN] (by kernel_rfl) rfl rfl ⟨(kC BK199.out 0).trans rfl, (kC BK199.out 1).trans rfl, (kC BK199.out 2).trans rfl, (kC BK199.out 3).trans rfl, (kC BK199.out 4).trans rfl⟩ (fun hHeld => ?_); refine with_tabW spec_l29Timed.tab11 spec_l29Timed.bits11 (fun HT_ HW_ => ?_)
              generalize w68.drew = w69 at HO_200004 BK171 BK178 BK184 BK199 HI0 HK HB hHeld ⊢
              refine pure_ (i := 0) (N := some 58) (v := ?_) (a' := ?_) #[bY,bN,bN,bN,bN,bN,bN,bN,bN,bN,bN,bN,bN] rfl rfl (any_of HT_.out (by kernel_rfl)) (fun _ _ _ h => h) (Or.inl ⟨by rfl, ?_⟩) ?_ ?_
              rotate_left
              ·intro w'
               go_simp
               with_reducible rfl
              rotate_left
              ·simp only [Act.put, sTA, sZ, sS, i64_w, i32_w]
               rfl
              refine pure_ (i := 2) (N := some 60) (v := ?_) (a' := ?_) #[bY,bN,bY,bN,bN,bN,bN,bN,bN,bN,bN,bN,bN] rfl rfl (any_of HT_.out (by kernel_rfl)) (fun _ _ _ h => h) (Or.inl ⟨by rfl, ?_⟩) ?_ ?_
              rotate_left
              ·intro w'
               go_simp
               with_reducible rfl
              rotate_left
              ·simp only [Act.put, sTA, sZ, sS, i64_w, i32_w]
               rfl
              refine pure_ (i := 3) (N := some 61) (v := ?_) (a' := ?_) #[bY,bN,bY,bY,bN,bN,bN,bN,bN,bN,bN,bN,bN] rfl rfl (any_of HT_.out (by kernel_rfl)) (fun _ _ _ h => h) (Or.inl ⟨by rfl, ?_⟩) ?_ ?_
              rotate_left
              ·intro w'
               go_simp
               with_reducible rfl
              rotate_left
              ·simp only [Act.put, sTA, sZ, sS, i64_w, i32_w]
               rfl
              refine pure_ (i := 4) (N := some 62) (v := ?_) (a' := ?_) #[bY,bN,bY,bY,bY,bN,bN,bN,bN,bN,bN,bN,bN] rfl rfl (any_of HT_.out (by kernel_rfl)) (fun _ _ _ h => h) (Or.inl ⟨by rfl, ?_⟩) ?_ ?_
              rotate_left
              ·intro w'
               go_simp
               with_reducible rfl
              rotate_left
              ·simp only [Act.put, sTA, sZ, sS, i64_w, i32_w]
               rfl
              refine take_ (i := 1) (N := some 59) (v := ?_) (a' := ?_) #[bY,bY,bY,bY,bY,bN,bN,bN,bN,bN,bN,bN,bN] rfl rfl (take_ofW HT_.out HW_.out (by kernel_rfl)) (fun _ _ _ h => h) (Or.inl ⟨by rfl, ?_⟩) hHeld ?_ ?_
              rotate_left
              ·rintro w' ⟨s0, s1, s2, s3, s4⟩
               go_simp
               with_reducible rfl
              rotate_left
              ·simp only [Act.put, sTA, sZ, sS, i64_w, i32_w]
               rfl
              refine take_ (i := 5) (N := some 63) (v := ?_) (a' := ?_) #[bY,bY,bY,bY,bY,bY,bN,bN,bN,bN,bN,bN,bN] rfl rfl (take_ofW HT_.out HW_.out (by kernel_rfl)) (fun _ _ _ h => h) (Or.inl ⟨by rfl, ?_⟩) hHeld ?_ ?_
              rotate_left
              ·rintro w' ⟨s0, s1, s2, s3, s4⟩
               go_simp
               with_reducible rfl
              rotate_left
              ·simp only [Act.put, sTA, sZ, sS, i64_w, i32_w]
               rfl
              refine pure_ (i := 6) (N := some 64) (v := ?_) (a' := ?_) #[bY,bY,bY,bY,bY,bY,bY,bN,bN,bN,bN,bN,bN] rfl rfl (any_of HT_.out (by kernel_rfl)) (fun _ _ _ h => h) (Or.inl ⟨by rfl, ?_⟩) ?_ ?_
              rotate_left
              ·intro w'
               go_simp
               with_reducible rfl
              rotate_left
              ·simp only [Act.put, sTA, sZ, sS, i64_w, i32_w]
               rfl
              refine one_ (i := 7) (N := some 65) #[bY,bY,bY,bY,bY,bY,bY,bY,bN,bN,bN,bN,bN] rfl rfl (one_of HT_.out (by kernel_rfl)) (by decide) (fun K hK => ?_)
              refine goes_ Try.func72 (by kernel_rfl) rfl #[.pointer (some ⟨g, 0, none⟩), .int .i64 ji60] (by rfl) rfl rfl (by (try simp only [List.map_toArray, List.map_cons, List.map_nil]); first | done | (simp only [hji60]; rfl) | rfl | (simp only [List.length_drop, List.length_take]; rfl)) ?_
              with_reducible refine (spec_l01Below.calls g s0_0 t202 t203 ji60 t204 t205 t206 w0 _ ?side1 ?side2 A61.out).mono ?_
              (case side1 => repeat (first | (with_reducible first | exact HI0.out | apply IsS146.alloc | apply IsS146.drewN | apply IsS146.drew | apply IsS146.set_1 | apply IsS146.set_2 | refine IsS146.far ?_ NB0_171.out _ | refine IsS146.far ?_ NB0_178.out _ | refine IsS146.far ?_ NB0_184.out _ | refine IsS146.far ?_ NB0_199.out _) | exact HI0.out))
              (case side2 => repeat (first | (with_reducible first | exact HB.out | apply bAl | apply bDN | apply bD1 | refine bSt ?_ (IsS146.ge HI0.out) | refine bSt ?_ GE171.out | refine bSt ?_ GE178.out | refine bSt ?_ GE184.out | refine bSt ?_ GE199.out) | exact HB.out))
              rintro e w70 ⟨rfl, hi, hb, hk⟩
              refine ⟨_, rfl, ?_⟩
              have n0_ := aK (Kd.R_mono (Kd.R_keep (IsS146.apart (show IsS146 w0 _ g s0_0 t202 t203 from by repeat (first | (with_reducible first | exact HI0.out | apply IsS146.alloc | apply IsS146.drewN | apply IsS146.drew | apply IsS146.set_1 | apply IsS146.set_2 | refine IsS146.far ?_ NB0_171.out _ | refine IsS146.far ?_ NB0_178.out _ | refine IsS146.far ?_ NB0_184.out _ | refine IsS146.far ?_ NB0_199.out _) | exact HI0.out)) (by (with_reducible repeat (first | apply Kd.R_alloc | apply Kd.R_drewN | apply Kd.R_drew)); exact HO_200004.out) (by decide)) hk (fun _ h => h.2)) (fun _ h => h.1))
              have n1_ := aK (KeepBut.blk hk (g' := gb171) (o := .cells #[.int .i64 0, .int .i64 0, .int .i64 0, .int .i64 0, .slice none 0 0] 30 (0, 0)) (by (with_reducible repeat (first | refine kDN ?_ _ | refine kD ?_ | refine kA ?_ _)); exact BK171.out) NB171_0.out (by simp))
              have n2_ := aK (KeepBut.blk hk (g' := gb178) (o := .cells #[.int .i64 (wrap64 (1 + t172)), .int .i64 (wrap64 (1 + t175))] 25 (0, 0)) (by (with_reducible repeat (first | refine kDN ?_ _ | refine kD ?_ | refine kA ?_ _)); exact BK178.out) NB178_0.out (by simp))
              have n3_ := aK (KeepBut.blk hk (g' := gb184) (o := .cells #[.int .i64 x185000_24, .int .i64 x185001_24, .int .i64 x185002_24] 27 (0, 0)) (by (with_reducible repeat (first | refine kDN ?_ _ | refine kD ?_ | refine kA ?_ _)); exact BK184.out) NB184_0.out (by simp))
              have n4_ := aK (KeepBut.blk hk (g' := gb199) (o := .cells #[.int .i64 x185000_24, .int .i64 x185001_24, .int .i64 x185002_24, .int .i64 (ji58), u200004] 30 (0, 0)) (by (with_reducible repeat (first | refine kDN ?_ _ | refine kD ?_ | refine kA ?_ _)); exact BK199.out) NB199_0.out (by simp))
              have n5_ := aK (KeepBut.trans (by repeat (first | (with_reducible first | exact HK.out | apply KeepBut.set_ | apply keep_drewN | apply keep_drew | apply keep_alloc | refine keep_far ?_ GW171.out _ | refine keep_far ?_ GW178.out _ | refine keep_far ?_ GW184.out _ | refine keep_far ?_ GW199.out _) | exact HK.out)) hk (.inl rfl))
              have n6_ := aK (hb)
              have n7_ := aK (hi)
              clear HO_200004
              clear BK171
              clear BK178
              clear BK184
              clear BK199
              clear HK
              clear HB
              clear HI0
              have HO_200004 := n0_
              have BK171 := n1_
              have BK178 := n2_
              have BK184 := n3_
              have BK199 := n4_
              have HK := n5_
              have HB := n6_
              have HI0 := n7_
              clear n0_ n1_ n2_ n3_ n4_ n5_ n6_ n7_
              (try clear hb)
              (try clear hb2)
              (try clear hk)
              (try clear hi)
              refine hK.out _ _ ⟨(kC BK199.out 0).trans rfl, (kC BK199.out 1).trans rfl, (kC BK199.out 2).trans rfl, (kC BK199.out 3).trans rfl, (kC BK199.out 4).trans rfl⟩ (fun hHeld => ?_)
              clear hK K
              refine norm_ (a' := ?_) ?_ ?_
              rotate_left
              ·show Act.put _ (some 65) _ = _
               simp only [Act.put, sTA, sZ, sS, i64_w, i32_w]
               rfl
              refine pure_ (i := 8) (N := some 66) (v := ?_) (a' := ?_) #[bY,bY,bY,bY,bY,bY,bY,bY,bY,bN,bN,bN,bN] rfl rfl (any_of HT_.out (by kernel_rfl)) (fun _ _ _ h => h) (Or.inl ⟨by rfl, ?_⟩) ?_ ?_
              rotate_left
              ·intro w'
               go_simp
               with_reducible rfl
              rotate_left
              ·simp only [Act.put, sTA, sZ, sS, i64_w, i32_w]
               rfl
              refine one_ (i := 9) (N := some 67) #[bY,bY,bY,bY,bY,bY,bY,bY,bY,bY,bN,bN,bN] rfl rfl (one_of HT_.out (by kernel_rfl)) (by decide) (fun K hK => ?_)
              refine value_ (w1 := ?_) (v := ?_) (by rfl) rfl ?_ ?_
              rotate_left 2
              ·go_simp
               constructor
               ·rfl
               ·rfl
              refine hK.out _ _ ⟨(kC (kA BK199.out _) 0).trans rfl, (kC (kA BK199.out _) 1).trans rfl, (kC (kA BK199.out _) 2).trans rfl, (kC (kA BK199.out _) 3).trans rfl, (kC (kA BK199.out _) 4).trans rfl⟩ (fun hHeld => ?_)
              clear hK K
              refine norm_ (a' := ?_) ?_ ?_
              rotate_left
              ·show Act.put _ (some 67) _ = _
               simp only [Act.put, sTA, sZ, sS, i64_w, i32_w]
               rfl
              refine one_ (i := 10) (N := some 68) #[bY,bY,bY,bY,bY,bY,bY,bY,bY,bY,bY,bN,bN] rfl rfl (one_of HT_.out (by kernel_rfl)) (by decide) (fun K hK => ?_)
              refine Kd.R_append_step k150 w.heap.size (by rfl) (.tmp 59) (.tmp 67) 28 150 (.agg #[(.int .i64 0), (.int .i64 0)]) 16 rfl Try.underlying28 info150 rfl (by decide) (by omega) u200004 x200004_3 (⟨x7_3, t204⟩ : SGate) [.int .i64 x7_3, .int .i64 t204] (fun _ => True) (fun _ => False) rfl rfl ?aP (fun _ hk => hk.elim) ?aF ?aO (Below.refl _ _) ?aS ?aL ?_
              (case aP => exact k150_mkM _ _ _ (⟨x7_3, t204⟩ : SGate))
              (case aF => exact (fun _ _ => trivial))
              (case aO => exact (by (with_reducible repeat (first | apply Kd.R_alloc | apply Kd.R_drewN | apply Kd.R_drew)); exact HO_200004.out))
              (case aS => exact (keep_size (w := w) (g := g) (row := none) (by repeat (first | (with_reducible first | exact HK.out | apply KeepBut.set_ | apply keep_drewN | apply keep_drew | apply keep_alloc | refine keep_far ?_ GW171.out _ | refine keep_far ?_ GW178.out _ | refine keep_far ?_ GW184.out _ | refine keep_far ?_ GW199.out _) | exact HK.out))))
              (case aL => have := LMc62.out; omega)
              intro v208 w71 ho hb hg hat
              rw [← Ny207.out] at ho
              have n0_ := aK (blk_grown (g := gb171) (o := .cells #[.int .i64 0, .int .i64 0, .int .i64 0, .int .i64 0, .slice none 0 0] 30 (0, 0)) (by (with_reducible repeat (first | refine kDN ?_ _ | refine kD ?_ | refine kA ?_ _)); exact BK171.out) hg (Kd.R_ne HO_200004.out BK171.out (by decide)))
              have n1_ := aK (blk_grown (g := gb178) (o := .cells #[.int .i64 (wrap64 (1 + t172)), .int .i64 (wrap64 (1 + t175))] 25 (0, 0)) (by (with_reducible repeat (first | refine kDN ?_ _ | refine kD ?_ | refine kA ?_ _)); exact BK178.out) hg (Kd.R_ne HO_200004.out BK178.out (by decide)))
              have n2_ := aK (blk_grown (g := gb184) (o := .cells #[.int .i64 x185000_24, .int .i64 x185001_24, .int .i64 x185002_24] 27 (0, 0)) (by (with_reducible repeat (first | refine kDN ?_ _ | refine kD ?_ | refine kA ?_ _)); exact BK184.out) hg (Kd.R_ne HO_200004.out BK184.out (by decide)))
              have n3_ := aK (blk_grown (g := gb199) (o := .cells #[.int .i64 x185000_24, .int .i64 x185001_24, .int .i64 x185002_24, .int .i64 (ji58), u200004] 30 (0, 0)) (by (with_reducible repeat (first | refine kDN ?_ _ | refine kD ?_ | refine kA ?_ _)); exact BK199.out) hg (Kd.R_ne HO_200004.out BK199.out (by decide)))
              have n4_ := aK (IsS146.grown (show IsS146 w0 _ g s0_0 t205 t206 from by repeat (first | (with_reducible first | exact HI0.out | apply IsS146.alloc | apply IsS146.drewN | apply IsS146.drew | apply IsS146.set_1 | apply IsS146.set_2 | refine IsS146.far ?_ NB0_171.out _ | refine IsS146.far ?_ NB0_178.out _ | refine IsS146.far ?_ NB0_184.out _ | refine IsS146.far ?_ NB0_199.out _) | exact HI0.out)) hg (IsS146.own_ne HI0.out HO_200004.out (by decide)))
              have n5_ := aK (below_weaken (by repeat (first | (with_reducible first | exact HB.out | apply bAl | apply bDN | apply bD1 | refine bSt ?_ (IsS146.ge HI0.out) | refine bSt ?_ GE171.out | refine bSt ?_ GE178.out | refine bSt ?_ GE184.out | refine bSt ?_ GE199.out) | exact HB.out)) HL.out hb)
              have n6_ := aK (KeepBut.trans (by repeat (first | (with_reducible first | exact HK.out | apply KeepBut.set_ | apply keep_drewN | apply keep_drew | apply keep_alloc | refine keep_far ?_ GW171.out _ | refine keep_far ?_ GW178.out _ | refine keep_far ?_ GW184.out _ | refine keep_far ?_ GW199.out _) | exact HK.out)) (KeepBut.of_grown hg g) (Kd.R_base2 HO_200004.out))
              have n7_ := aK (ho)
              clear BK171
              clear BK178
              clear BK184
              clear BK199
              clear HI0
              clear HB
              clear HK
              clear HO_200004
              have BK171 := n0_
              have BK178 := n1_
              have BK184 := n2_
              have BK199 := n3_
              have HI0 := n4_
              have HB := n5_
              have HK := n6_
              have HO209 := n7_
              clear n0_ n1_ n2_ n3_ n4_ n5_ n6_ n7_
              clear ho hb hg hat
              obtain ⟨Ao72, co72, eo72⟩ := Kd.R_slice HO209.out
              (first | subst eo72 | (injection eo72 with f1_ f2_ f3_; have f4_ := f1_.symm; have f5_ := f3_.symm; clear f1_ f2_ f3_; subst f4_; subst f5_))
              refine hK.out _ _ ⟨(kC BK199.out 0).trans rfl, (kC BK199.out 1).trans rfl, (kC BK199.out 2).trans rfl, (kC BK199.out 3).trans rfl, (kC BK199.out 4).trans rfl⟩ (fun hHeld => ?_)
              clear hK K
              refine norm_ (a' := ?_) ?_ ?_
              rotate_left
              ·show Act.put _ (some 68) _ = _
               simp only [Act.put, sTA, sZ, sS, i64_w, i32_w]
               rfl
              refine pure_ (i := 11) (N := some 69) (v := ?_) (a' := ?_) #[bY,bY,bY,bY,bY,bY,bY,bY,bY,bY,bY,bY,bN] rfl rfl (any_of HT_.out (by kernel_rfl)) (fun _ _ _ h => h) (Or.inl ⟨by rfl, ?_⟩) ?_ ?_
              rotate_left
              ·intro w'
               go_simp
               with_reducible rfl
              rotate_left
              ·simp only [Act.put, sTA, sZ, sS, i64_w, i32_w]
               rfl
              refine last_ (i := 12) (N := none) #[bY,bY,bY,bY,bY,bY,bY,bY,bY,bY,bY,bY,bY] rfl rfl (one_of HT_.out (by kernel_rfl)) (by decide) (fun K hK => ?_)
              have hs73 : w71.cell? ⟨gb199, 4, none⟩ = some (u200004) := (kC BK199.out 4).trans rfl
              have hfs73 := kF BK199.out 4
              have hns73_0 := NB171_199.out
              have hns73_1 := NB178_199.out
              have hns73_2 := NB184_199.out
              have hms73_0 := NB199_171.out
              have hms73_1 := NB199_178.out
              have hms73_2 := NB199_184.out
              refine skip_ (w1 := ?_) (by rfl) rfl ?_ ?_
              rotate_left
              ·go_simp
               rfl
              refine hK.out _ _ ?_
              clear hK K
              refine done_ (done_of HT_.out (by kernel_rfl)) ?_
              try go_wp2
              (try subst hji58)
              go_roundg kj44
              case measure => have := HJ5.out; have := HJ24.out; have := HK3.out; have := HJ44.out; omega
              case rel => exact ⟨(wrap64 (x7_3 + 1)), (t205), (t206), (y207), (.slice Ao72 y207.length co72), (by first | rfl | (simp; done) | (simp [*]; done)), H', ⟨by have := HJ5.out; have := HJ24.out; have := HK3.out; have := HJ44.out; omega⟩, ⟨by (with_reducible repeat (first | apply Kd.R_alloc | apply Kd.R_drewN | apply Kd.R_drew)); exact Kd.R_mono (Kd.R_far (p := ⟨gb199, 4, none⟩) (Kd.R_types HO209.out BK199.out (by decide)) (fun _ hk => hk.2) (.slice Ao72 y207.length co72)) (fun _ hk => trivial)⟩, ⟨by (with_reducible repeat (first | refine kDN ?_ _ | refine kD ?_ | refine kA ?_ _)); refine blk_far ?_ NB171_199.out _; (with_reducible repeat (first | refine kDN ?_ _ | refine kD ?_ | refine kA ?_ _)); exact BK171.out⟩, ⟨by (with_reducible repeat (first | refine kDN ?_ _ | refine kD ?_ | refine kA ?_ _)); refine blk_far ?_ NB178_199.out _; (with_reducible repeat (first | refine kDN ?_ _ | refine kD ?_ | refine kA ?_ _)); exact BK178.out⟩, ⟨by (with_reducible repeat (first | refine kDN ?_ _ | refine kD ?_ | refine kA ?_ _)); refine blk_far ?_ NB184_199.out _; (with_reducible repeat (first | refine kDN ?_ _ | refine kD ?_ | refine kA ?_ _)); exact BK184.out⟩, ⟨by (with_reducible repeat (first | refine kDN ?_ _ | refine kD ?_ | refine kA ?_ _)); refine blk_put (cs := #[.int .i64 x185000_24, .int .i64 x185001_24, .int .i64 x185002_24, .int .i64 ((wrap64 (1 + t196))), u200004]) ?_ 4 _ rfl; (with_reducible repeat (first | refine kDN ?_ _ | refine kD ?_ | refine kA ?_ _)); exact BK199.out⟩, ⟨by repeat (first | (with_reducible first | exact HI0.out | apply IsS146.alloc | apply IsS146.drewN | apply IsS146.drew | apply IsS146.set_1 | apply IsS146.set_2 | refine IsS146.far ?_ NB0_171.out _ | refine IsS146.far ?_ NB0_178.out _ | refine IsS146.far ?_ NB0_184.out _ | refine IsS146.far ?_ NB0_199.out _) | exact HI0.out)⟩, ⟨by repeat (first | (with_reducible first | exact HK.out | apply KeepBut.set_ | apply keep_drewN | apply keep_drew | apply keep_alloc | refine keep_far ?_ GW171.out _ | refine keep_far ?_ GW178.out _ | refine keep_far ?_ GW184.out _ | refine keep_far ?_ GW199.out _) | exact HK.out)⟩, ⟨by repeat (first | (with_reducible first | exact HB.out | apply bAl | apply bDN | apply bD1 | refine bSt ?_ (IsS146.ge HI0.out) | refine bSt ?_ GE171.out | refine bSt ?_ GE178.out | refine bSt ?_ GE184.out | refine bSt ?_ GE199.out) | exact HB.out)⟩⟩
             ·rw [if_neg c62] at H
              exact absurd H (by simp)
            ·rw [if_neg c59] at H
             exact absurd H (by simp)
           ·replace c57 := Bool.eq_false_iff.mpr c57
            subst c57
            have H1 : (spec_l29Timed.l0 kj44 t185 (wrap64 (x7_3 + 1)) s0_0 t202 t203 x185000_24 x185001_24 x185002_24 x185000_24 x185001_24 x185002_24 (wrap64 (1 + t196)) x200004_3) = some (r1, r2, r3, r4, r5, r6, r7) := by rw [if_neg (show ¬ (false = true) by decide)] at H; exact H
            clear H
            have H := H1
            clear H1
            have H' := aK H
            clear H
            have hnb74 := NB184_171.out
            have hnc74 := NB171_184.out
            have hnb75 := NB184_178.out
            have hnc75 := NB178_184.out
            have hnb76 := NB184_199.out
            have hnc76 := NB199_184.out
            have hnb77 := NB184_0.out
            have hnc77 := NB0_184.out
            obtain ⟨hcz78_0, hcz78_1, hcz78_2, hfz78_0, hfz78_1, hfz78_2⟩ := cl3 BK184.out
            go_wp2_with (first | ((with_reducible refine gate_callee (f := 105) rfl ?_); refine goesL_ (some 53) rfl rfl Try.func105 (by kernel_rfl) rfl #[.int .i64 x185002_24, .int .i64 x7_3] rfl (by (try simp only [List.map_toArray, List.map_cons, List.map_nil]); first | done | rfl | (simp only [List.length_drop, List.length_take]; rfl)) ?_; (with_reducible refine (spec_l03Bit.calls x185002_24 x7_3 true _ A54.out).mono ?_); rintro e w' ⟨rfl, ⟨nd, rfl⟩⟩; refine ⟨_, rfl, ?_⟩) | (go_at_call 134; (with_reducible refine (spec_l01Once.calls g s0_0 x1001_3 x1002_3 3 false t202 t203 w0 _ ?side1 ?side2 A56.out).mono ?_); (case side1 => repeat (first | (with_reducible first | exact HI0.out | apply IsS146.alloc | apply IsS146.drewN | apply IsS146.drew | apply IsS146.set_1 | apply IsS146.set_2 | refine IsS146.far ?_ NB0_171.out _ | refine IsS146.far ?_ NB0_178.out _ | refine IsS146.far ?_ NB0_184.out _ | refine IsS146.far ?_ NB0_199.out _) | exact HI0.out)); (case side2 => repeat (first | (with_reducible first | exact HB.out | apply bAl | apply bDN | apply bD1 | refine bSt ?_ (IsS146.ge HI0.out) | refine bSt ?_ GE171.out | refine bSt ?_ GE178.out | refine bSt ?_ GE184.out | refine bSt ?_ GE199.out) | exact HB.out)); rintro e w79 ⟨rfl, hi, hb, hk⟩; have n0_ := aK (Kd.R_mono (Kd.R_keep (IsS146.apart (show IsS146 w0 _ g s0_0 x1001_3 x1002_3 from by repeat (first | (with_reducible first | exact HI0.out | apply IsS146.alloc | apply IsS146.drewN | apply IsS146.drew | apply IsS146.set_1 | apply IsS146.set_2 | refine IsS146.far ?_ NB0_171.out _ | refine IsS146.far ?_ NB0_178.out _ | refine IsS146.far ?_ NB0_184.out _ | refine IsS146.far ?_ NB0_199.out _) | exact HI0.out)) (by (with_reducible repeat (first | apply Kd.R_alloc | apply Kd.R_drewN | apply Kd.R_drew)); exact HO_200004.out) (by decide)) hk (fun _ h => h.2)) (fun _ h => h.1)); have n1_ := aK (KeepBut.blk hk (g' := gb171) (o := .cells #[.int .i64 0, .int .i64 0, .int .i64 0, .int .i64 0, .slice none 0 0] 30 (0, 0)) (by (with_reducible repeat (first | refine kDN ?_ _ | refine kD ?_ | refine kA ?_ _)); exact BK171.out) NB171_0.out (by simp)); have n2_ := aK (KeepBut.blk hk (g' := gb178) (o := .cells #[.int .i64 (wrap64 (1 + t172)), .int .i64 (wrap64 (1 + t175))] 25 (0, 0)) (by (with_reducible repeat (first | refine kDN ?_ _ | refine kD ?_ | refine kA ?_ _)); exact BK178.out) NB178_0.out (by simp)); have n3_ := aK (KeepBut.blk hk (g' := gb184) (o := .cells #[.int .i64 x185000_24, .int .i64 x185001_24, .int .i64 x185002_24] 27 (0, 0)) (by (with_reducible repeat (first | refine kDN ?_ _ | refine kD ?_ | refine kA ?_ _)); exact BK184.out) NB184_0.out (by simp)); have n4_ := aK (KeepBut.blk hk (g' := gb199) (o := .cells #[.int .i64 x185000_24, .int .i64 x185001_24, .int .i64 x185002_24, .int .i64 (wrap64 (1 + t196)), u200004] 30 (0, 0)) (by (with_reducible repeat (first | refine kDN ?_ _ | refine kD ?_ | refine kA ?_ _)); exact BK199.out) NB199_0.out (by simp)); have n5_ := aK (KeepBut.trans (by repeat (first | (with_reducible first | exact HK.out | apply KeepBut.set_ | apply keep_drewN | apply keep_drew | apply keep_alloc | refine keep_far ?_ GW171.out _ | refine keep_far ?_ GW178.out _ | refine keep_far ?_ GW184.out _ | refine keep_far ?_ GW199.out _) | exact HK.out)) hk (.inl rfl)); have n6_ := aK (hb); have n7_ := aK (hi); clear HO_200004; clear BK171; clear BK178; clear BK184; clear BK199; clear HK; clear HB; clear HI0; have HO_200004 := n0_; have BK171 := n1_; have BK178 := n2_; have BK184 := n3_; have BK199 := n4_; have HK := n5_; have HB := n6_; have HI0 := n7_; clear n0_ n1_ n2_ n3_ n4_ n5_ n6_ n7_; (try clear hb); (try clear hb2); (try clear hk); (try clear hi)))
            go_roundg kj44
            case measure => have := HJ5.out; have := HJ24.out; have := HK3.out; have := HJ44.out; omega
            case rel => exact ⟨(wrap64 (x7_3 + 1)), (t202), (t203), (x200004_3), (u200004), (by first | rfl | (simp; done) | (simp [*]; done)), H', ⟨by have := HJ5.out; have := HJ24.out; have := HK3.out; have := HJ44.out; omega⟩, ⟨by (with_reducible repeat (first | apply Kd.R_alloc | apply Kd.R_drewN | apply Kd.R_drew)); exact HO_200004.out⟩, ⟨by (with_reducible repeat (first | refine kDN ?_ _ | refine kD ?_ | refine kA ?_ _)); exact BK171.out⟩, ⟨by (with_reducible repeat (first | refine kDN ?_ _ | refine kD ?_ | refine kA ?_ _)); exact BK178.out⟩, ⟨by (with_reducible repeat (first | refine kDN ?_ _ | refine kD ?_ | refine kA ?_ _)); exact BK184.out⟩, ⟨by (with_reducible repeat (first | refine kDN ?_ _ | refine kD ?_ | refine kA ?_ _)); exact BK199.out⟩, ⟨by repeat (first | (with_reducible first | exact HI0.out | apply IsS146.alloc | apply IsS146.drewN | apply IsS146.drew | apply IsS146.set_1 | apply IsS146.set_2 | refine IsS146.far ?_ NB0_171.out _ | refine IsS146.far ?_ NB0_178.out _ | refine IsS146.far ?_ NB0_184.out _ | refine IsS146.far ?_ NB0_199.out _) | exact HI0.out)⟩, ⟨by repeat (first | (with_reducible first | exact HK.out | apply KeepBut.set_ | apply keep_drewN | apply keep_drew | apply keep_alloc | refine keep_far ?_ GW171.out _ | refine keep_far ?_ GW178.out _ | refine keep_far ?_ GW184.out _ | refine keep_far ?_ GW199.out _) | exact HK.out)⟩, ⟨by repeat (first | (with_reducible first | exact HB.out | apply bAl | apply bDN | apply bD1 | refine bSt ?_ (IsS146.ge HI0.out) | refine bSt ?_ GE171.out | refine bSt ?_ GE178.out | refine bSt ?_ GE184.out | refine bSt ?_ GE199.out) | exact HB.out)⟩⟩
          ·replace c55 := Bool.eq_false_iff.mpr c55
           subst c55
           have H1 : (spec_l29Timed.l0 kj44 t185 (wrap64 (x7_3 + 1)) s0_0 x1001_3 x1002_3 x185000_24 x185001_24 x185002_24 x185000_24 x185001_24 x185002_24 (wrap64 (1 + t196)) x200004_3) = some (r1, r2, r3, r4, r5, r6, r7) := by rw [if_neg (show ¬ (false = true) by decide)] at H; exact H
           clear H
           have H := H1
           clear H1
           have H' := aK H
           clear H
           have hnb80 := NB184_171.out
           have hnc80 := NB171_184.out
           have hnb81 := NB184_178.out
           have hnc81 := NB178_184.out
           have hnb82 := NB184_199.out
           have hnc82 := NB199_184.out
           have hnb83 := NB184_0.out
           have hnc83 := NB0_184.out
           obtain ⟨hcz84_0, hcz84_1, hcz84_2, hfz84_0, hfz84_1, hfz84_2⟩ := cl3 BK184.out
           go_wp2_with (first | ((with_reducible refine gate_callee (f := 105) rfl ?_); refine goesL_ (some 53) rfl rfl Try.func105 (by kernel_rfl) rfl #[.int .i64 x185002_24, .int .i64 x7_3] rfl (by (try simp only [List.map_toArray, List.map_cons, List.map_nil]); first | done | rfl | (simp only [List.length_drop, List.length_take]; rfl)) ?_; (with_reducible refine (spec_l03Bit.calls x185002_24 x7_3 false _ A54.out).mono ?_); rintro e w' ⟨rfl, ⟨nd, rfl⟩⟩; refine ⟨_, rfl, ?_⟩))
           go_roundg kj44
           case measure => have := HJ5.out; have := HJ24.out; have := HK3.out; have := HJ44.out; omega
           case rel => exact ⟨(wrap64 (x7_3 + 1)), (x1001_3), (x1002_3), (x200004_3), (u200004), (by first | rfl | (simp; done) | (simp [*]; done)), H', ⟨by have := HJ5.out; have := HJ24.out; have := HK3.out; have := HJ44.out; omega⟩, ⟨by (with_reducible repeat (first | apply Kd.R_alloc | apply Kd.R_drewN | apply Kd.R_drew)); exact HO_200004.out⟩, ⟨by (with_reducible repeat (first | refine kDN ?_ _ | refine kD ?_ | refine kA ?_ _)); exact BK171.out⟩, ⟨by (with_reducible repeat (first | refine kDN ?_ _ | refine kD ?_ | refine kA ?_ _)); exact BK178.out⟩, ⟨by (with_reducible repeat (first | refine kDN ?_ _ | refine kD ?_ | refine kA ?_ _)); exact BK184.out⟩, ⟨by (with_reducible repeat (first | refine kDN ?_ _ | refine kD ?_ | refine kA ?_ _)); exact BK199.out⟩, ⟨by repeat (first | (with_reducible first | exact HI0.out | apply IsS146.alloc | apply IsS146.drewN | apply IsS146.drew | apply IsS146.set_1 | apply IsS146.set_2 | refine IsS146.far ?_ NB0_171.out _ | refine IsS146.far ?_ NB0_178.out _ | refine IsS146.far ?_ NB0_184.out _ | refine IsS146.far ?_ NB0_199.out _) | exact HI0.out)⟩, ⟨by repeat (first | (with_reducible first | exact HK.out | apply KeepBut.set_ | apply keep_drewN | apply keep_drew | apply keep_alloc | refine keep_far ?_ GW171.out _ | refine keep_far ?_ GW178.out _ | refine keep_far ?_ GW184.out _ | refine keep_far ?_ GW199.out _) | exact HK.out)⟩, ⟨by repeat (first | (with_reducible first | exact HB.out | apply bAl | apply bDN | apply bD1 | refine bSt ?_ (IsS146.ge HI0.out) | refine bSt ?_ GE171.out | refine bSt ?_ GE178.out | refine bSt ?_ GE184.out | refine bSt ?_ GE199.out) | exact HB.out)⟩⟩
         ·replace c53 := Bool.eq_false_iff.mpr c53
          subst c53
          have H1 : (some (x185000_24, x185001_24, x185002_24, (wrap64 (1 + t196)), x200004_3, x1001_3, x1002_3)) = some (r1, r2, r3, r4, r5, r6, r7) := by rw [if_neg (show ¬ (false = true) by decide)] at H; exact H
          clear H
          have H := H1
          clear H1
          simp only [Option.some.injEq, Prod.mk.injEq] at H
          obtain ⟨rfl, rfl, rfl, rfl, rfl, rfl, rfl⟩ := H
          have hnb85 := NB199_171.out
          have hnc85 := NB171_199.out
          have hnb86 := NB199_178.out
          have hnc86 := NB178_199.out
          have hnb87 := NB199_184.out
          have hnc87 := NB184_199.out
          have hnb88 := NB199_0.out
          have hnc88 := NB0_199.out
          obtain ⟨hcz89_0, hcz89_1, hcz89_2, hcz89_3, hcz89_4, hfz89_0, hfz89_1, hfz89_2, hfz89_3, hfz89_4⟩ := cl5 BK199.out
          have hnb90 := NB171_178.out
          have hnc90 := NB178_171.out
          have hnb91 := NB171_184.out
          have hnc91 := NB184_171.out
          have hnb92 := NB171_0.out
          have hnc92 := NB0_171.out
          obtain ⟨hcz93_0, hcz93_1, hcz93_2, hcz93_3, hcz93_4, hfz93_0, hfz93_1, hfz93_2, hfz93_3, hfz93_4⟩ := cl5 BK171.out
          obtain ⟨Ao94, co94, eo94⟩ := Kd.R_slice HO_200004.out
          subst eo94
          go_wp2
          refine bodyPost_ret (results_cell_row rfl _ _ gb171 30 #[.int .i64 x185000_24, .int .i64 x185001_24, .int .i64 x185002_24, .int .i64 (wrap64 (1 + t196)), .slice Ao94 x200004_3.length co94] (0, 0) _ rfl (by (with_reducible repeat (first | refine kDN ?_ _ | refine kD ?_ | refine kA ?_ _)); refine blk_put (cs := #[.int .i64 x185000_24, .int .i64 x185001_24, .int .i64 x185002_24, .int .i64 (wrap64 (1 + t196)), .slice none 0 0]) ?_ 4 _ rfl; (with_reducible repeat (first | refine kDN ?_ _ | refine kD ?_ | refine kA ?_ _)); refine blk_put (cs := #[.int .i64 x185000_24, .int .i64 x185001_24, .int .i64 x185002_24, .int .i64 0, .slice none 0 0]) ?_ 3 _ rfl; (with_reducible repeat (first | refine kDN ?_ _ | refine kD ?_ | refine kA ?_ _)); refine blk_put (cs := #[.int .i64 x185000_24, .int .i64 x185001_24, .int .i64 0, .int .i64 0, .slice none 0 0]) ?_ 2 _ rfl; (with_reducible repeat (first | refine kDN ?_ _ | refine kD ?_ | refine kA ?_ _)); refine blk_put (cs := #[.int .i64 x185000_24, .int .i64 0, .int .i64 0, .int .i64 0, .slice none 0 0]) ?_ 1 _ rfl; (with_reducible repeat (first | refine kDN ?_ _ | refine kD ?_ | refine kA ?_ _)); refine blk_put (cs := #[.int .i64 0, .int .i64 0, .int .i64 0, .int .i64 0, .slice none 0 0]) ?_ 0 _ rfl; (with_reducible repeat (first | refine kDN ?_ _ | refine kD ?_ | refine kA ?_ _)); exact BK171.out) Try.underlying30 rfl (by kernel_rfl)) rfl ?_
          exact ⟨_, by first | rfl | (simp [errW_none, errW_some] <;> rfl) | (simp [*, errW_none, errW_some] <;> rfl), by (with_reducible repeat (first | apply Kd.R_alloc | apply Kd.R_drewN | apply Kd.R_drew)); exact Kd.R_mono (Kd.R_far (p := ⟨gb171, 4, none⟩) (Kd.R_far (p := ⟨gb171, 3, none⟩) (Kd.R_far (p := ⟨gb171, 2, none⟩) (Kd.R_far (p := ⟨gb171, 1, none⟩) (Kd.R_far (p := ⟨gb171, 0, none⟩) (Kd.R_types HO_200004.out BK171.out (by decide)) (fun _ hk => hk.2) (.int .i64 x185000_24)) (fun _ hk => hk.2) (.int .i64 x185001_24)) (fun _ hk => hk.2) (.int .i64 x185002_24)) (fun _ hk => hk.2) (.int .i64 (wrap64 (1 + t196)))) (fun _ hk => hk.2) (.slice Ao94 x200004_3.length co94)) (fun _ hk => trivial), by repeat (first | (with_reducible first | exact HI0.out | apply IsS146.alloc | apply IsS146.drewN | apply IsS146.drew | apply IsS146.set_1 | apply IsS146.set_2 | refine IsS146.far ?_ NB0_171.out _ | refine IsS146.far ?_ NB0_178.out _ | refine IsS146.far ?_ NB0_184.out _ | refine IsS146.far ?_ NB0_199.out _) | exact HI0.out), by repeat (first | (with_reducible first | exact HB.out | apply bAl | apply bDN | apply bD1 | refine bSt ?_ (IsS146.ge HI0.out) | refine bSt ?_ GE171.out | refine bSt ?_ GE178.out | refine bSt ?_ GE184.out | refine bSt ?_ GE199.out) | exact HB.out), by repeat (first | (with_reducible first | exact HK.out | apply KeepBut.set_ | apply keep_drewN | apply keep_drew | apply keep_alloc | refine keep_far ?_ GW171.out _ | refine keep_far ?_ GW178.out _ | refine keep_far ?_ GW184.out _ | refine keep_far ?_ GW199.out _) | exact HK.out)⟩
end Go.Proofs.Ytpeehicekddjhaa.F
end
