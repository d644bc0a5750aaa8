/- Packed by a program of the session (wip/tools/pack.py): what the claim's theorem reaches, of the texts that wip/ and the kit's printer lay. -/
import Derived.Test.YtccjanhdnheclaaPkFnRescues6
section
namespace Go.Proofs.Ytccjanhdnheclaa.F
open Go.RowKit Go.Proofs.YtccjanhdnheclaaW.PrintWords Go.Proofs.YtccjanhdnheclaaW.PrintLast Go.Proofs.YtccjanhdnheclaaW.PrintMore
set_option linter.unusedVariables false
set_option linter.unusedSimpArgs false
attribute [local go_sem] max2_int min2_int max_two min_two
def spec_l03Tree.T19 : Bool × List (List Nat × List Nat) := (true, [([], []), ([], []), ([0, 1], [0, 1]), ([2], [2]), ([], []), ([], []), ([4, 5], [4, 5]), ([6], [6]), ([3, 7], [3, 7])])
def spec_l03Tree.B19 : List Nat := [0, 0, 3, 7, 0, 0, 48, 112, 255]
theorem spec_l03Tree.tab19 : rtab .any (opsOf Try.f80 19) = spec_l03Tree.T19 := by kernel_rfl
theorem spec_l03Tree.bits19 : waitsOk spec_l03Tree.T19.2 spec_l03Tree.B19 = true := by kernel_rfl
set_option maxHeartbeats 8000000 in
set_option maxRecDepth 100000 in
theorem spec_l03Tree.calls (k : Nat) (g : Nat) (s0_0 : List Int) (s0_1 : Int) (s0_2 : Int) (a1_0 : Int) (a1_1 : Int) (r1 : Int) (r2 : Int) (r3 : Int) (r4 : Int) (r5 : Int) (w0 w : World) (hI : IsS94 w0 w g s0_0 s0_1 s0_2) (hB : Below w0.heap.size w0 w) (h : spec_l03Tree.f k s0_0 s0_1 s0_2 a1_0 a1_1 = some (r1, r2, r3, r4, r5)) :
  Calls Try.prog 80 #[.pointer (some ⟨g, 0, none⟩), .agg #[.int .i64 a1_0, .int .i64 a1_1]] w fun e w' => e = .returned (.agg #[.int .i64 r1, .int .i64 r2, .int .i64 r3]) ∧ IsS94 w0 w' g s0_0 r4 r5 ∧ Below w0.heap.size w0 w' ∧ KeepBut w w' g none := by
 have hu28 := Try.underlying28
 have hu30 := Try.underlying30
 have HI0 := aK hI
 have HK := aK (KeepBut.refl w g none)
 have HL := aK hB.size
 clear hI
 have HW0 := aK hB.size
 have HB := aK hB
 clear hB
 have H : ((spec_CountGaps.f a1_0 a1_1).bind fun t391 => ((spec_CountCells.f a1_0 a1_1).bind fun t392 => (if 0 ≤ t392 then (if (t392 : Int).toNat ≤ 35184372088832 then (spec_l03Tree.l0 k t391 (List.replicate (t392 : Int).toNat 0) 0 s0_0 s0_1 s0_2 a1_0 a1_1 a1_0 a1_1 0) else (none)) else (none)))) = some (r1, r2, r3, r4, r5) := h
 clear h
 replace H := Option.bind_eq_some_iff.mp H
 obtain ⟨t391, A30, H⟩ := H
 replace H : ((spec_CountCells.f a1_0 a1_1).bind fun t392 => (if 0 ≤ t392 then (if (t392 : Int).toNat ≤ 35184372088832 then (spec_l03Tree.l0 k t391 (List.replicate (t392 : Int).toNat 0) 0 s0_0 s0_1 s0_2 a1_0 a1_1 a1_0 a1_1 0) else (none)) else (none))) = some (r1, r2, r3, r4, r5) := H
 have A3 := aK A30
 clear A30
 replace H := Option.bind_eq_some_iff.mp H
 obtain ⟨t392, A40, H⟩ := H
 replace H : (if 0 ≤ t392 then (if (t392 : Int).toNat ≤ 35184372088832 then (spec_l03Tree.l0 k t391 (List.replicate (t392 : Int).toNat 0) 0 s0_0 s0_1 s0_2 a1_0 a1_1 a1_0 a1_1 0) else (none)) else (none)) = some (r1, r2, r3, r4, r5) := H
 have A4 := aK A40
 clear A40
 by_cases c5 : 0 ≤ t392
 ·rw [if_pos c5] at H
  have c5b0 := eq_true c5
  have c5b1 : decide (0 ≤ t392) = true := decide_eq_true c5
  clear c5
  by_cases c6 : (t392 : Int).toNat ≤ 35184372088832
  ·rw [if_pos c6] at H
   have c6b0 := eq_true c6
   have c6b1 : decide ((t392 : Int).toNat ≤ 35184372088832) = true := decide_eq_true c6
   clear c6
   obtain ⟨y393, hy393⟩ : ∃ y_ : List Int, y_ = (List.replicate (t392 : Int).toNat 0) := ⟨_, rfl⟩
   replace H : (spec_l03Tree.l0 k t391 y393 0 s0_0 s0_1 s0_2 a1_0 a1_1 a1_0 a1_1 0) = some (r1, r2, r3, r4, r5) := by first | (rw [hy393]; with_reducible exact H) | (have H2_ := (Option.bind_some _ _).symm.trans H; rw [hy393]; with_reducible exact H2_) | (have H2_ := (Option.bind_some _ _).symm.trans H; with_reducible exact H2_) | with_reducible exact H | (rw [hy393]; exact H) | exact H
   have Ny393 := aK hy393
   clear hy393
   have H' := aK H
   clear H
   go_enter Try.func80, Try.ntmps80
   go_wp2_with (first | ((with_reducible refine gate_dst (N := 3) rfl ?_); refine box_event ?hg (N := 3) ?hd (cs := #[.int .i64 a1_0, .int .i64 a1_1]) (t := 28) ?hr ?_; (case hd => rfl); (case hg => rfl); (case hr => first | (go_simp; done) | (go_simp; rfl)); intro gb388 hg w7 hbox hb; replace HB := aK (bSp (by repeat (first | (with_reducible first | exact HB.out | apply bAl | apply bDN | apply bD1 | refine bSt ?_ (IsS94.ge HI0.out)) | exact HB.out)) hb); have BK388 := aK (hbox); have GW388 := aK ((by rw [hg]; exact (keep_size (w := w) (g := g) (row := none) (by repeat (first | (with_reducible first | exact HK.out | apply KeepBut.set_ | apply keep_drewN | apply keep_drew | apply keep_alloc) | exact HK.out))) : w.heap.size ≤ gb388)); have GE388 := aK ((Nat.le_trans HW0.out (by rw [hg]; exact (keep_size (w := w) (g := g) (row := none) (by repeat (first | (with_reducible first | exact HK.out | apply KeepBut.set_ | apply keep_drewN | apply keep_drew | apply keep_alloc) | exact HK.out))) : w.heap.size ≤ gb388) : w0.heap.size ≤ gb388)); replace HK := aK (KeepBut.trans (by repeat (first | (with_reducible first | exact HK.out | apply KeepBut.set_ | apply keep_drewN | apply keep_drew | apply keep_alloc) | exact HK.out)) (KeepBut.of_below hb g none) (.inl rfl)); have NB0_388 := aK ((by rw [hg]; exact Nat.ne_of_lt (IsS94.lt (show IsS94 w0 _ g s0_0 s0_1 s0_2 from by repeat (first | (with_reducible first | exact HI0.out | apply IsS94.alloc | apply IsS94.drewN | apply IsS94.drew | apply IsS94.set_1 | apply IsS94.set_2) | exact HI0.out))) : g ≠ gb388)); have NB388_0 := aK ((by rw [hg]; exact Nat.ne_of_gt (IsS94.lt (show IsS94 w0 _ g s0_0 s0_1 s0_2 from by repeat (first | (with_reducible first | exact HI0.out | apply IsS94.alloc | apply IsS94.drewN | apply IsS94.drew | apply IsS94.set_1 | apply IsS94.set_2) | exact HI0.out))) : gb388 ≠ g)); replace HI0 := aK (IsS94.below (by repeat (first | (with_reducible first | exact HI0.out | apply IsS94.alloc | apply IsS94.drewN | apply IsS94.drew | apply IsS94.set_1 | apply IsS94.set_2) | exact HI0.out)) hb); clear hb hbox hg) | ((with_reducible refine gate_dst (N := 4) rfl ?_); refine box_event ?hg (N := 4) ?hd (cs := #[.int .i64 0, .int .i64 0, .int .i64 0]) (t := 30) ?hr ?_; (case hd => rfl); (case hg => rfl); (case hr => first | (go_simp; done) | (go_simp; rfl)); intro gb389 hg w8 hbox hb; replace HB := aK (bSp (by repeat (first | (with_reducible first | exact HB.out | apply bAl | apply bDN | apply bD1 | refine bSt ?_ (IsS94.ge HI0.out) | refine bSt ?_ GE388.out) | exact HB.out)) hb); have BK389 := aK (hbox); have GW389 := aK ((by rw [hg]; exact (keep_size (w := w) (g := g) (row := none) (by repeat (first | (with_reducible first | exact HK.out | apply KeepBut.set_ | apply keep_drewN | apply keep_drew | apply keep_alloc | refine keep_far ?_ GW388.out _) | exact HK.out))) : w.heap.size ≤ gb389)); have GE389 := aK ((Nat.le_trans HW0.out (by rw [hg]; exact (keep_size (w := w) (g := g) (row := none) (by repeat (first | (with_reducible first | exact HK.out | apply KeepBut.set_ | apply keep_drewN | apply keep_drew | apply keep_alloc | refine keep_far ?_ GW388.out _) | exact HK.out))) : w.heap.size ≤ gb389) : w0.heap.size ≤ gb389)); replace HK := aK (KeepBut.trans (by repeat (first | (with_reducible first | exact HK.out | apply KeepBut.set_ | apply keep_drewN | apply keep_drew | apply keep_alloc | refine keep_far ?_ GW388.out _) | exact HK.out)) (KeepBut.of_below hb g none) (.inl rfl)); have NB388_389 := nbl BK388 hg (by intro z_; (with_reducible repeat (first | refine kDN ?_ _ | refine kD ?_ | refine kA ?_ _)); exact z_); replace BK388 := zB BK388 hb; have NB389_388 := nbs NB388_389; have NB0_389 := aK ((by rw [hg]; exact Nat.ne_of_lt (IsS94.lt (show IsS94 w0 _ g s0_0 s0_1 s0_2 from by repeat (first | (with_reducible first | exact HI0.out | apply IsS94.alloc | apply IsS94.drewN | apply IsS94.drew | apply IsS94.set_1 | apply IsS94.set_2 | refine IsS94.far ?_ NB0_388.out _) | exact HI0.out))) : g ≠ gb389)); have NB389_0 := aK ((by rw [hg]; exact Nat.ne_of_gt (IsS94.lt (show IsS94 w0 _ g s0_0 s0_1 s0_2 from by repeat (first | (with_reducible first | exact HI0.out | apply IsS94.alloc | apply IsS94.drewN | apply IsS94.drew | apply IsS94.set_1 | apply IsS94.set_2 | refine IsS94.far ?_ NB0_388.out _) | exact HI0.out))) : gb389 ≠ g)); replace HI0 := aK (IsS94.below (by repeat (first | (with_reducible first | exact HI0.out | apply IsS94.alloc | apply IsS94.drewN | apply IsS94.drew | apply IsS94.set_1 | apply IsS94.set_2 | refine IsS94.far ?_ NB0_388.out _) | exact HI0.out)) hb); clear hb hbox hg; have hnb9 := NB388_389.out; have hnc9 := NB389_388.out; have hnb10 := NB388_0.out; have hnc10 := NB0_388.out; obtain ⟨hcz11_0, hcz11_1, hfz11_0, hfz11_1⟩ := cl2 BK388.out) | ((with_reducible refine gate_dst (N := 5) rfl ?_); refine box_event ?hg (N := 5) ?hd (cs := #[.int .i64 0, .int .i64 0, .int .i64 0]) (t := 30) ?hr ?_; (case hd => rfl); (case hg => rfl); (case hr => first | (go_simp; done) | (go_simp; rfl)); intro gb390 hg w12 hbox hb; replace HB := aK (bSp (by repeat (first | (with_reducible first | exact HB.out | apply bAl | apply bDN | apply bD1 | refine bSt ?_ (IsS94.ge HI0.out) | refine bSt ?_ GE388.out | refine bSt ?_ GE389.out) | exact HB.out)) hb); have BK390 := aK (hbox); have GW390 := aK ((by rw [hg]; exact (keep_size (w := w) (g := g) (row := none) (by repeat (first | (with_reducible first | exact HK.out | apply KeepBut.set_ | apply keep_drewN | apply keep_drew | apply keep_alloc | refine keep_far ?_ GW388.out _ | refine keep_far ?_ GW389.out _) | exact HK.out))) : w.heap.size ≤ gb390)); have GE390 := aK ((Nat.le_trans HW0.out (by rw [hg]; exact (keep_size (w := w) (g := g) (row := none) (by repeat (first | (with_reducible first | exact HK.out | apply KeepBut.set_ | apply keep_drewN | apply keep_drew | apply keep_alloc | refine keep_far ?_ GW388.out _ | refine keep_far ?_ GW389.out _) | exact HK.out))) : w.heap.size ≤ gb390) : w0.heap.size ≤ gb390)); replace HK := aK (KeepBut.trans (by repeat (first | (with_reducible first | exact HK.out | apply KeepBut.set_ | apply keep_drewN | apply keep_drew | apply keep_alloc | refine keep_far ?_ GW388.out _ | refine keep_far ?_ GW389.out _) | exact HK.out)) (KeepBut.of_below hb g none) (.inl rfl)); have NB388_390 := nbl BK388 hg (by intro z_; (with_reducible repeat (first | refine kDN ?_ _ | refine kD ?_ | refine kA ?_ _)); exact z_); replace BK388 := zB BK388 hb; have NB390_388 := nbs NB388_390; have NB389_390 := nbl BK389 hg (by intro z_; (with_reducible repeat (first | refine kDN ?_ _ | refine kD ?_ | refine kA ?_ _)); exact z_); replace BK389 := zB BK389 hb; have NB390_389 := nbs NB389_390; have NB0_390 := aK ((by rw [hg]; exact Nat.ne_of_lt (IsS94.lt (show IsS94 w0 _ g s0_0 s0_1 s0_2 from by repeat (first | (with_reducible first | exact HI0.out | apply IsS94.alloc | apply IsS94.drewN | apply IsS94.drew | apply IsS94.set_1 | apply IsS94.set_2 | refine IsS94.far ?_ NB0_388.out _ | refine IsS94.far ?_ NB0_389.out _) | exact HI0.out))) : g ≠ gb390)); have NB390_0 := aK ((by rw [hg]; exact Nat.ne_of_gt (IsS94.lt (show IsS94 w0 _ g s0_0 s0_1 s0_2 from by repeat (first | (with_reducible first | exact HI0.out | apply IsS94.alloc | apply IsS94.drewN | apply IsS94.drew | apply IsS94.set_1 | apply IsS94.set_2 | refine IsS94.far ?_ NB0_388.out _ | refine IsS94.far ?_ NB0_389.out _) | exact HI0.out))) : gb390 ≠ g)); replace HI0 := aK (IsS94.below (by repeat (first | (with_reducible first | exact HI0.out | apply IsS94.alloc | apply IsS94.drewN | apply IsS94.drew | apply IsS94.set_1 | apply IsS94.set_2 | refine IsS94.far ?_ NB0_388.out _ | refine IsS94.far ?_ NB0_389.out _) | exact HI0.out)) hb); clear hb hbox hg; have hnb13 := NB390_388.out; have hnc13 := NB388_390.out; have hnb14 := NB390_389.out; have hnc14 := NB389_390.out; have hnb15 := NB390_0.out; have hnc15 := NB0_390.out; obtain ⟨hcz16_0, hcz16_1, hcz16_2, hfz16_0, hfz16_1, hfz16_2⟩ := cl3 BK390.out; obtain ⟨hcz17_0, hcz17_1, hfz17_0, hfz17_1⟩ := cl2 BK388.out) | ((with_reducible refine gate_callee (f := 68) rfl ?_); refine goesL_ (some 20) rfl rfl Try.func68 (by kernel_rfl) rfl #[.agg #[.int .i64 a1_0, .int .i64 a1_1]] rfl zD ?_; (with_reducible refine (spec_CountGaps.calls a1_0 a1_1 t391 _ A3.out).mono ?_); rintro e w18 ⟨rfl, hb⟩; refine ⟨_, rfl, ?_⟩; replace BK388 := zG3 BK388 NB388_390 hb; replace BK389 := zG3 BK389 NB389_390 hb; replace BK390 := aK (blk_below (g := gb390) (o := .cells #[.int .i64 a1_0, .int .i64 a1_1, .int .i64 0] 30 (0, 0)) (by (with_reducible repeat (first | refine kDN ?_ _ | refine kD ?_ | refine kA ?_ _)); refine blk_put (cs := #[.int .i64 a1_0, .int .i64 a1_1, .int .i64 0]) ?_ 2 _ rfl; (with_reducible repeat (first | refine kDN ?_ _ | refine kD ?_ | refine kA ?_ _)); refine blk_put (cs := #[.int .i64 a1_0, .int .i64 0, .int .i64 0]) ?_ 1 _ rfl; (with_reducible repeat (first | refine kDN ?_ _ | refine kD ?_ | refine kA ?_ _)); refine blk_put (cs := #[.int .i64 0, .int .i64 0, .int .i64 0]) ?_ 0 _ rfl; (with_reducible repeat (first | refine kDN ?_ _ | refine kD ?_ | refine kA ?_ _)); exact BK390.out) hb); replace HK := aK (KeepBut.trans (by repeat (first | (with_reducible first | exact HK.out | apply KeepBut.set_ | apply keep_drewN | apply keep_drew | apply keep_alloc | refine keep_far ?_ GW388.out _ | refine keep_far ?_ GW389.out _ | refine keep_far ?_ GW390.out _) | exact HK.out)) (KeepBut.of_below hb g none) (.inl rfl)); replace HB := aK (bSp (by repeat (first | (with_reducible first | exact HB.out | apply bAl | apply bDN | apply bD1 | refine bSt ?_ (IsS94.ge HI0.out) | refine bSt ?_ GE388.out | refine bSt ?_ GE389.out | refine bSt ?_ GE390.out) | exact HB.out)) hb); replace HI0 := aK (IsS94.below (show IsS94 w0 (((w12.setCell ⟨gb390, 0, none⟩ (.int .i64 a1_0)).setCell ⟨gb390, 1, none⟩ (.int .i64 a1_1)).setCell ⟨gb390, 2, none⟩ (.int .i64 0)) g s0_0 s0_1 s0_2 from by repeat (first | (with_reducible first | exact HI0.out | apply IsS94.alloc | apply IsS94.drewN | apply IsS94.drew | apply IsS94.set_1 | apply IsS94.set_2 | refine IsS94.far ?_ NB0_388.out _ | refine IsS94.far ?_ NB0_389.out _ | refine IsS94.far ?_ NB0_390.out _) | exact HI0.out)) hb); (try clear hb); (try clear hb2); (try clear hk); (try clear hi); obtain ⟨hcz19_0, hcz19_1, hfz19_0, hfz19_1⟩ := cl2 BK388.out) | ((with_reducible refine gate_callee (f := 22) rfl ?_); refine goesL_ (some 22) rfl rfl Try.func22 (by kernel_rfl) rfl #[.agg #[.int .i64 a1_0, .int .i64 a1_1]] rfl zD ?_; (with_reducible refine (spec_CountCells.calls a1_0 a1_1 t392 _ A4.out).mono ?_); rintro e w20 ⟨rfl, hb⟩; refine ⟨_, rfl, ?_⟩; replace BK388 := zB BK388 hb; replace BK389 := zB BK389 hb; replace BK390 := zB BK390 hb; replace HK := aK (KeepBut.trans (by repeat (first | (with_reducible first | exact HK.out | apply KeepBut.set_ | apply keep_drewN | apply keep_drew | apply keep_alloc | refine keep_far ?_ GW388.out _ | refine keep_far ?_ GW389.out _ | refine keep_far ?_ GW390.out _) | exact HK.out)) (KeepBut.of_below hb g none) (.inl rfl)); replace HB := aK (bSp (by repeat (first | (with_reducible first | exact HB.out | apply bAl | apply bDN | apply bD1 | refine bSt ?_ (IsS94.ge HI0.out) | refine bSt ?_ GE388.out | refine bSt ?_ GE389.out | refine bSt ?_ GE390.out) | exact HB.out)) hb); replace HI0 := aK (IsS94.below (by repeat (first | (with_reducible first | exact HI0.out | apply IsS94.alloc | apply IsS94.drewN | apply IsS94.drew | apply IsS94.set_1 | apply IsS94.set_2 | refine IsS94.far ?_ NB0_388.out _ | refine IsS94.far ?_ NB0_389.out _ | refine IsS94.far ?_ NB0_390.out _) | exact HI0.out)) hb); (try clear hb); (try clear hb2); (try clear hk); (try clear hi)) | ((with_reducible refine gate_dst (N := 23) rfl ?_); refine Kd.R_make (Kd.int .i64) _ 3 rfl (N := 23) rfl 26 _ _ rfl t392 rfl rfl Try.underlying26 (.int .i64 0) 8 info3 rfl (by decide) (by omega) 0 (ok := fun _ => True) (okp := fun _ => True) rfl (fun _ hk => hk) trivial (of_decide_eq_true (by first | (with_reducible assumption) | assumption)) (Nat.le_trans (Nat.mul_le_mul_right _ (of_decide_eq_true (by first | (with_reducible assumption) | assumption) : t392.toNat ≤ 35184372088832)) (by omega)) (Below.refl _ _) (Nat.le_refl _) ?_; intro v394 w21 ho22 hb hg_ hnew_; clear hg_ hnew_; (first | rw [← Ny393.out] at ho22 | (simp only [Int.reduceToNat] at ho22; rw [← Ny393.out] at ho22)); have HO395 := aK (Kd.R_lower ho22 (keep_size (w := w) (g := g) (row := none) (by repeat (first | (with_reducible first | exact HK.out | apply KeepBut.set_ | apply keep_drewN | apply keep_drew | apply keep_alloc | refine keep_far ?_ GW388.out _ | refine keep_far ?_ GW389.out _ | refine keep_far ?_ GW390.out _) | exact HK.out)))); replace BK388 := zB BK388 hb; replace BK389 := zB BK389 hb; replace BK390 := zB BK390 hb; replace HK := aK (KeepBut.trans (by repeat (first | (with_reducible first | exact HK.out | apply KeepBut.set_ | apply keep_drewN | apply keep_drew | apply keep_alloc | refine keep_far ?_ GW388.out _ | refine keep_far ?_ GW389.out _ | refine keep_far ?_ GW390.out _) | exact HK.out)) (KeepBut.of_below hb g none) (.inl rfl)); replace HB := aK (bSp (by repeat (first | (with_reducible first | exact HB.out | apply bAl | apply bDN | apply bD1 | refine bSt ?_ (IsS94.ge HI0.out) | refine bSt ?_ GE388.out | refine bSt ?_ GE389.out | refine bSt ?_ GE390.out) | exact HB.out)) hb); replace HI0 := aK (IsS94.below (by repeat (first | (with_reducible first | exact HI0.out | apply IsS94.alloc | apply IsS94.drewN | apply IsS94.drew | apply IsS94.set_1 | apply IsS94.set_2 | refine IsS94.far ?_ NB0_388.out _ | refine IsS94.far ?_ NB0_389.out _ | refine IsS94.far ?_ NB0_390.out _) | exact HI0.out)) hb); clear hb ho22))
   go_loopg [8] k (fun kq v8 w' => ∃ (x7_1 : List Int) (x8_1 : Int), v8 = .int .i64 x8_1 ∧ Aside0 (spec_l03Tree.l0 kq t391 x7_1 x8_1 s0_0 s0_1 s0_2 a1_0 a1_1 a1_0 a1_1 0 = some (r1, r2, r3, r4, r5)) ∧ Aside0 (kq ≤ k) ∧ Aside0 (Kd.R (Kd.int .i64) 3 w' w.heap.size (fun _ => True) v394 x7_1) ∧ Aside0 (w'.heap[gb388]? = some (.cells #[.int .i64 a1_0, .int .i64 a1_1] 28 (0, 0))) ∧ Aside0 (w'.heap[gb389]? = some (.cells #[.int .i64 0, .int .i64 0, .int .i64 0] 30 (0, 0))) ∧ Aside0 (w'.heap[gb390]? = some (.cells #[.int .i64 a1_0, .int .i64 a1_1, .int .i64 0] 30 (0, 0))) ∧ Aside0 (IsS94 w0 w' g s0_0 s0_1 s0_2) ∧ Aside0 (KeepBut w w' g none) ∧ Aside0 (Below w0.heap.size w0 w'))
   case atStart => exact ⟨(y393), (0), (by first | rfl | (simp; done) | (simp [*]; done)), H', ⟨Nat.le_refl _⟩, ⟨zA HO395⟩, ⟨zK BK388⟩, ⟨zK BK389⟩, ⟨zK BK390⟩, ⟨by repeat (first | (with_reducible first | exact HI0.out | apply IsS94.alloc | apply IsS94.drewN | apply IsS94.drew | apply IsS94.set_1 | apply IsS94.set_2 | refine IsS94.far ?_ NB0_388.out _ | refine IsS94.far ?_ NB0_389.out _ | refine IsS94.far ?_ NB0_390.out _) | exact HI0.out)⟩, ⟨by repeat (first | (with_reducible first | exact HK.out | apply KeepBut.set_ | apply keep_drewN | apply keep_drew | apply keep_alloc | refine keep_far ?_ GW388.out _ | refine keep_far ?_ GW389.out _ | refine keep_far ?_ GW390.out _) | exact HK.out)⟩, ⟨by repeat (first | (with_reducible first | exact HB.out | apply bAl | apply bDN | apply bD1 | refine bSt ?_ (IsS94.ge HI0.out) | refine bSt ?_ GE388.out | refine bSt ?_ GE389.out | refine bSt ?_ GE390.out) | exact HB.out)⟩⟩
   case round =>
    clear H'
    try clear c1
    try clear c2
    try clear p2
    try clear c5
    try clear c5b0
    try clear c5b1
    try clear c6
    try clear c6b0
    try clear c6b1
    try clear c8
    try clear c9
    try clear c10
    try clear c13
    try clear c14
    try clear c15
    try clear c22
    try clear hcz11_0
    try clear hcz11_1
    try clear hcz16_0
    try clear hcz16_1
    try clear hcz16_2
    try clear hcz17_0
    try clear hcz17_1
    try clear hcz19_0
    try clear hcz19_1
    try clear hfz11_0
    try clear hfz11_1
    try clear hfz16_0
    try clear hfz16_1
    try clear hfz16_2
    try clear hfz17_0
    try clear hfz17_1
    try clear hfz19_0
    try clear hfz19_1
    obtain ⟨x7_1, x8_1, rfl, HA, HK1, HO_7, BK388, BK389, BK390, HI0, HK, HB⟩ := hrel
    cases gk with
    | zero => exact absurd HA.out (by simp [spec_l03Tree.l0])
    | succ k1 =>
     have H := HA.out
     clear HA
     simp only [spec_l03Tree.l0] at H
     by_cases c23 : x8_1 < (x7_1.length : Int)
     ·rw [if_pos c23] at H
      have c23b0 : decide (x8_1 < (x7_1.length : Int)) = true := decide_eq_true c23
      clear c23
      by_cases c24 : 0 ≤ x8_1
      ·rw [if_pos c24] at H
       have c24b0 : decide (0 ≤ x8_1) = true := decide_eq_true c24
       clear c24
       obtain ⟨y396, hy396⟩ : ∃ y_ : List Int, y_ = (x7_1.set (x8_1 : Int).toNat x8_1) := ⟨_, rfl⟩
       replace H : (spec_l03Tree.l0 k1 t391 y396 (wrap64 (x8_1 + 1)) s0_0 s0_1 s0_2 a1_0 a1_1 a1_0 a1_1 0) = some (r1, r2, r3, r4, r5) := by first | (rw [hy396]; with_reducible exact H) | (have H2_ := (Option.bind_some _ _).symm.trans H; rw [hy396]; with_reducible exact H2_) | (have H2_ := (Option.bind_some _ _).symm.trans H; with_reducible exact H2_) | with_reducible exact H | (rw [hy396]; exact H) | exact H
       have Ny396 := aK hy396
       clear hy396
       have H' := aK H
       clear H
       obtain ⟨Ao26, co26, eo26⟩ := Kd.R_slice HO_7.out
       subst eo26
       have p25 : 0 ≤ (x8_1 : Int) := of_decide_eq_true (by first | (with_reducible assumption) | assumption)
       have q25 : (x8_1 : Int) < ((x7_1.length : Int) : Int) := of_decide_eq_true (by first | (with_reducible assumption) | assumption)
       obtain ⟨go25, co25, eo25, gb25, gl25, cl25, HG25⟩ := Kd.R_form HO_7.out (by omega)
       (first | cases eo25 | (injection eo25 with ea_ en_ ec_; (first | subst ea_ | (injection ea_ with ea_; subst ea_)); subst ec_; clear en_))
       have GB25 := aK gb25
       have GG25 := aK HG25
       clear gb25 gl25 HG25
       obtain ⟨hx25_0, hf25_0⟩ := Kd.R_celln 0 HO_7.out (x8_1 : Int) p25 q25
       replace p25 := eq_true p25
       replace q25 := eq_true q25
       have HP27 := Kd.R_putg HO_7.out (x8_1 : Int) x8_1
       go_wp2_with (first | ((with_reducible refine gate_store (t := 3) (p := 33) rfl ?_); refine store_event (t := 3) (p := 33) (v := ?vo_w28) (w1 := (wr.setCell ⟨go25, (x8_1 : Int).toNat, none⟩ (.int .i64 x8_1))) ?hg ?ho ?hn ?hr ?_; (case ho => rfl); (case hg => rfl); (case hn => rfl); (case hr => first | (go_simp; done) | (go_simp; rfl)); intro w28 hw; have hg : wr.grownBy w28 (some go25) := (by rw [hw]; exact HP27.2); have hp_ : Kd.R (Kd.int .i64) 3 w28 w.heap.size (fun _ => True) (.slice (some ⟨go25, 0, none⟩) x7_1.length co26) y396 := (by rw [hw, Ny396.out]; exact HP27.1); clear HP27; replace BK388 := aK (blk_grown (g := gb388) (o := .cells #[.int .i64 a1_0, .int .i64 a1_1] 28 (0, 0)) (zK BK388) hg (Kd.R_ne HO_7.out BK388.out (by decide))); replace BK389 := aK (blk_grown (g := gb389) (o := .cells #[.int .i64 0, .int .i64 0, .int .i64 0] 30 (0, 0)) (zK BK389) hg (Kd.R_ne HO_7.out BK389.out (by decide))); replace BK390 := aK (blk_grown (g := gb390) (o := .cells #[.int .i64 a1_0, .int .i64 a1_1, .int .i64 0] 30 (0, 0)) (zK BK390) hg (Kd.R_ne HO_7.out BK390.out (by decide))); replace HI0 := aK (IsS94.grown (show IsS94 w0 _ g s0_0 s0_1 s0_2 from by repeat (first | (with_reducible first | exact HI0.out | apply IsS94.alloc | apply IsS94.drewN | apply IsS94.drew | apply IsS94.set_1 | apply IsS94.set_2 | refine IsS94.far ?_ NB0_388.out _ | refine IsS94.far ?_ NB0_389.out _ | refine IsS94.far ?_ NB0_390.out _) | exact HI0.out)) hg (IsS94.own_ne HI0.out HO_7.out (by decide))); replace HB := aK ((by rw [hw]; exact bSt (HB.out) (Nat.le_trans HL.out GB25.out) : Below w0.heap.size w0 w28)); replace HK := aK (KeepBut.trans (by repeat (first | (with_reducible first | exact HK.out | apply KeepBut.set_ | apply keep_drewN | apply keep_drew | apply keep_alloc | refine keep_far ?_ GW388.out _ | refine keep_far ?_ GW389.out _ | refine keep_far ?_ GW390.out _) | exact HK.out)) (KeepBut.of_grown hg g) (Kd.R_base2 HO_7.out)); replace HO_7 := aK (hp_); clear hg hw hp_))
       go_roundg k1
       case measure => have := HK1.out; omega
       case rel => exact ⟨(y396), (wrap64 (x8_1 + 1)), (by first | rfl | (simp; done) | (simp [*]; done)), H', ⟨by have := HK1.out; omega⟩, ⟨zA HO_7⟩, ⟨zK BK388⟩, ⟨zK BK389⟩, ⟨zK BK390⟩, ⟨by repeat (first | (with_reducible first | exact HI0.out | apply IsS94.alloc | apply IsS94.drewN | apply IsS94.drew | apply IsS94.set_1 | apply IsS94.set_2 | refine IsS94.far ?_ NB0_388.out _ | refine IsS94.far ?_ NB0_389.out _ | refine IsS94.far ?_ NB0_390.out _) | exact HI0.out)⟩, ⟨by repeat (first | (with_reducible first | exact HK.out | apply KeepBut.set_ | apply keep_drewN | apply keep_drew | apply keep_alloc | refine keep_far ?_ GW388.out _ | refine keep_far ?_ GW389.out _ | refine keep_far ?_ GW390.out _) | exact HK.out)⟩, ⟨by repeat (first | (with_reducible first | exact HB.out | apply bAl | apply bDN | apply bD1 | refine bSt ?_ (IsS94.ge HI0.out) | refine bSt ?_ GE388.out | refine bSt ?_ GE389.out | refine bSt ?_ GE390.out) | exact HB.out)⟩⟩
      ·rw [if_neg c24] at H
       exact absurd H (by simp)
     ·rw [if_neg c23] at H
      have c23b0 : decide (x8_1 < (x7_1.length : Int)) = false := decide_eq_false c23
      clear c23
      by_cases c29 : t391 = 0
      ·rw [if_pos c29] at H
       have c29b0 : (t391 == 0) = true := beq_iff_eq.mpr c29
       have c29b1 : (t391 != 0) = false := bne_eq_false_iff_eq.mpr c29
       clear c29
       simp only [Option.some.injEq, Prod.mk.injEq] at H
       obtain ⟨rfl, rfl, rfl, rfl, rfl⟩ := H
       obtain ⟨Ao30, co30, eo30⟩ := Kd.R_slice HO_7.out
       subst eo30
       have hnb31 := NB390_388.out
       have hnc31 := NB388_390.out
       have hnb32 := NB390_389.out
       have hnc32 := NB389_390.out
       have hnb33 := NB390_0.out
       have hnc33 := NB0_390.out
       obtain ⟨hcz34_0, hcz34_1, hcz34_2, hfz34_0, hfz34_1, hfz34_2⟩ := cl3 BK390.out
       have hnb35 := NB389_388.out
       have hnc35 := NB388_389.out
       have hnb36 := NB389_0.out
       have hnc36 := NB0_389.out
       obtain ⟨hcz37_0, hcz37_1, hcz37_2, hfz37_0, hfz37_1, hfz37_2⟩ := cl3 BK389.out
       go_wp2
       refine bodyPost_ret (results_cell_row rfl _ _ gb389 30 #[.int .i64 a1_0, .int .i64 a1_1, .int .i64 0] (0, 0) _ rfl (by (with_reducible repeat (first | refine kDN ?_ _ | refine kD ?_ | refine kA ?_ _)); refine blk_put (cs := #[.int .i64 a1_0, .int .i64 a1_1, .int .i64 0]) ?_ 2 _ rfl; (with_reducible repeat (first | refine kDN ?_ _ | refine kD ?_ | refine kA ?_ _)); refine blk_put (cs := #[.int .i64 a1_0, .int .i64 0, .int .i64 0]) ?_ 1 _ rfl; (with_reducible repeat (first | refine kDN ?_ _ | refine kD ?_ | refine kA ?_ _)); refine blk_put (cs := #[.int .i64 0, .int .i64 0, .int .i64 0]) ?_ 0 _ rfl; (with_reducible repeat (first | refine kDN ?_ _ | refine kD ?_ | refine kA ?_ _)); exact BK389.out) Try.underlying30 rfl (by kernel_rfl)) rfl ?_
       exact ⟨by first | rfl | (simp [errW_none, errW_some] <;> rfl) | (simp [*, errW_none, errW_some] <;> rfl), by repeat (first | (with_reducible first | exact HI0.out | apply IsS94.alloc | apply IsS94.drewN | apply IsS94.drew | apply IsS94.set_1 | apply IsS94.set_2 | refine IsS94.far ?_ NB0_388.out _ | refine IsS94.far ?_ NB0_389.out _ | refine IsS94.far ?_ NB0_390.out _) | exact HI0.out), by repeat (first | (with_reducible first | exact HB.out | apply bAl | apply bDN | apply bD1 | refine bSt ?_ (IsS94.ge HI0.out) | refine bSt ?_ GE388.out | refine bSt ?_ GE389.out | refine bSt ?_ GE390.out) | exact HB.out), by repeat (first | (with_reducible first | exact HK.out | apply KeepBut.set_ | apply keep_drewN | apply keep_drew | apply keep_alloc | refine keep_far ?_ GW388.out _ | refine keep_far ?_ GW389.out _ | refine keep_far ?_ GW390.out _) | exact HK.out)⟩
      ·rw [if_neg c29] at H
       have c29b0 : (t391 == 0) = false := beq_eq_false_iff_ne.mpr c29
       have c29b1 : (t391 != 0) = true := bne_iff_ne.mpr c29
       replace H := Option.bind_eq_some_iff.mp H
       obtain ⟨⟨t397, t398, t399⟩, A380, H⟩ := H
       replace H : ((spec_l01Below.f s0_0 t398 t399 t391).bind fun bt400 => (spec_l03Tree.l1 k1 t391 x7_1 t397 (wrap64 (1 + bt400.1)) s0_0 bt400.2.1 bt400.2.2 a1_0 a1_1 a1_0 a1_1 0)) = some (r1, r2, r3, r4, r5) := H
       have A38 := aK A380
       clear A380
       replace H := Option.bind_eq_some_iff.mp H
       obtain ⟨⟨t400, t401, t402⟩, A390, H⟩ := H
       replace H : (spec_l03Tree.l1 k1 t391 x7_1 t397 (wrap64 (1 + t400)) s0_0 t401 t402 a1_0 a1_1 a1_0 a1_1 0) = some (r1, r2, r3, r4, r5) := H
       have A39 := aK A390
       clear A390
       have H' := aK H
       clear H
       obtain ⟨Ao40, co40, eo40⟩ := Kd.R_slice HO_7.out
       subst eo40
       go_wp2_with (first | ((with_reducible refine gate_callee (f := 58) rfl ?_); refine goesL_ (some 39) rfl rfl Try.func58 (by kernel_rfl) rfl #[.pointer (some ⟨g, 0, none⟩), .int .i64 t391] rfl zD ?_; (with_reducible refine (spec_l01Below.calls g s0_0 s0_1 s0_2 t391 t397 t398 t399 w0 _ ?side1 ?side2 A38.out).mono ?_); (case side1 => repeat (first | (with_reducible first | exact HI0.out | apply IsS94.alloc | apply IsS94.drewN | apply IsS94.drew | apply IsS94.set_1 | apply IsS94.set_2 | refine IsS94.far ?_ NB0_388.out _ | refine IsS94.far ?_ NB0_389.out _ | refine IsS94.far ?_ NB0_390.out _) | exact HI0.out)); (case side2 => repeat (first | (with_reducible first | exact HB.out | apply bAl | apply bDN | apply bD1 | refine bSt ?_ (IsS94.ge HI0.out) | refine bSt ?_ GE388.out | refine bSt ?_ GE389.out | refine bSt ?_ GE390.out) | exact HB.out)); rintro e w41 ⟨rfl, hi, hb, hk⟩; refine ⟨_, rfl, ?_⟩; replace HO_7 := aK (Kd.R_mono (Kd.R_keep (IsS94.apart (show IsS94 w0 _ g s0_0 s0_1 s0_2 from by repeat (first | (with_reducible first | exact HI0.out | apply IsS94.alloc | apply IsS94.drewN | apply IsS94.drew | apply IsS94.set_1 | apply IsS94.set_2 | refine IsS94.far ?_ NB0_388.out _ | refine IsS94.far ?_ NB0_389.out _ | refine IsS94.far ?_ NB0_390.out _) | exact HI0.out)) (zA HO_7) (by decide)) hk (fun _ h => h.2)) (fun _ h => h.1)); replace BK388 := aK (KeepBut.blk hk (g' := gb388) (o := .cells #[.int .i64 a1_0, .int .i64 a1_1] 28 (0, 0)) (zK BK388) NB388_0.out (by simp)); replace BK389 := aK (KeepBut.blk hk (g' := gb389) (o := .cells #[.int .i64 0, .int .i64 0, .int .i64 0] 30 (0, 0)) (zK BK389) NB389_0.out (by simp)); replace BK390 := aK (KeepBut.blk hk (g' := gb390) (o := .cells #[.int .i64 a1_0, .int .i64 a1_1, .int .i64 0] 30 (0, 0)) (zK BK390) NB390_0.out (by simp)); replace HK := aK (KeepBut.trans (by repeat (first | (with_reducible first | exact HK.out | apply KeepBut.set_ | apply keep_drewN | apply keep_drew | apply keep_alloc | refine keep_far ?_ GW388.out _ | refine keep_far ?_ GW389.out _ | refine keep_far ?_ GW390.out _) | exact HK.out)) hk (.inl rfl)); replace HB := aK (hb); replace HI0 := aK (hi); (try clear hb); (try clear hb2); (try clear hk); (try clear hi)) | ((with_reducible refine gate_callee (f := 58) rfl ?_); refine goesL_ (some 42) rfl rfl Try.func58 (by kernel_rfl) rfl #[.pointer (some ⟨g, 0, none⟩), .int .i64 t391] rfl zD ?_; (with_reducible refine (spec_l01Below.calls g s0_0 t398 t399 t391 t400 t401 t402 w0 _ ?side1 ?side2 A39.out).mono ?_); (case side1 => repeat (first | (with_reducible first | exact HI0.out | apply IsS94.alloc | apply IsS94.drewN | apply IsS94.drew | apply IsS94.set_1 | apply IsS94.set_2 | refine IsS94.far ?_ NB0_388.out _ | refine IsS94.far ?_ NB0_389.out _ | refine IsS94.far ?_ NB0_390.out _) | exact HI0.out)); (case side2 => repeat (first | (with_reducible first | exact HB.out | apply bAl | apply bDN | apply bD1 | refine bSt ?_ (IsS94.ge HI0.out) | refine bSt ?_ GE388.out | refine bSt ?_ GE389.out | refine bSt ?_ GE390.out) | exact HB.out)); rintro e w42 ⟨rfl, hi, hb, hk⟩; refine ⟨_, rfl, ?_⟩; replace HO_7 := aK (Kd.R_mono (Kd.R_keep (IsS94.apart (show IsS94 w0 _ g s0_0 t398 t399 from by repeat (first | (with_reducible first | exact HI0.out | apply IsS94.alloc | apply IsS94.drewN | apply IsS94.drew | apply IsS94.set_1 | apply IsS94.set_2 | refine IsS94.far ?_ NB0_388.out _ | refine IsS94.far ?_ NB0_389.out _ | refine IsS94.far ?_ NB0_390.out _) | exact HI0.out)) (zA HO_7) (by decide)) hk (fun _ h => h.2)) (fun _ h => h.1)); replace BK388 := aK (KeepBut.blk hk (g' := gb388) (o := .cells #[.int .i64 a1_0, .int .i64 a1_1] 28 (0, 0)) (zK BK388) NB388_0.out (by simp)); replace BK389 := aK (KeepBut.blk hk (g' := gb389) (o := .cells #[.int .i64 0, .int .i64 0, .int .i64 0] 30 (0, 0)) (zK BK389) NB389_0.out (by simp)); replace BK390 := aK (KeepBut.blk hk (g' := gb390) (o := .cells #[.int .i64 a1_0, .int .i64 a1_1, .int .i64 0] 30 (0, 0)) (zK BK390) NB390_0.out (by simp)); replace HK := aK (KeepBut.trans (by repeat (first | (with_reducible first | exact HK.out | apply KeepBut.set_ | apply keep_drewN | apply keep_drew | apply keep_alloc | refine keep_far ?_ GW388.out _ | refine keep_far ?_ GW389.out _ | refine keep_far ?_ GW390.out _) | exact HK.out)) hk (.inl rfl)); replace HB := aK (hb); replace HI0 := aK (hi); (try clear hb); (try clear hb2); (try clear hk); (try clear hi)))
       go_loopg [10] k1 (fun kq v10 w' => ∃ (x10_2 : Int), v10 = .int .i64 x10_2 ∧ Aside0 (spec_l03Tree.l1 kq t391 x7_1 t397 x10_2 s0_0 t401 t402 a1_0 a1_1 a1_0 a1_1 0 = some (r1, r2, r3, r4, r5)) ∧ Aside0 (kq ≤ k1) ∧ Aside0 (Kd.R (Kd.int .i64) 3 w' w.heap.size (fun _ => True) (.slice Ao40 x7_1.length co40) x7_1) ∧ Aside0 (w'.heap[gb388]? = some (.cells #[.int .i64 a1_0, .int .i64 a1_1] 28 (0, 0))) ∧ Aside0 (w'.heap[gb389]? = some (.cells #[.int .i64 0, .int .i64 0, .int .i64 0] 30 (0, 0))) ∧ Aside0 (w'.heap[gb390]? = some (.cells #[.int .i64 a1_0, .int .i64 a1_1, .int .i64 0] 30 (0, 0))) ∧ Aside0 (IsS94 w0 w' g s0_0 t401 t402) ∧ Aside0 (KeepBut w w' g none) ∧ Aside0 (Below w0.heap.size w0 w'))
       case atStart => exact ⟨(wrap64 (1 + t400)), (by first | rfl | (simp; done) | (simp [*]; done)), H', ⟨Nat.le_refl _⟩, ⟨zA HO_7⟩, ⟨zK BK388⟩, ⟨zK BK389⟩, ⟨zK BK390⟩, ⟨by repeat (first | (with_reducible first | exact HI0.out | apply IsS94.alloc | apply IsS94.drewN | apply IsS94.drew | apply IsS94.set_1 | apply IsS94.set_2 | refine IsS94.far ?_ NB0_388.out _ | refine IsS94.far ?_ NB0_389.out _ | refine IsS94.far ?_ NB0_390.out _) | exact HI0.out)⟩, ⟨by repeat (first | (with_reducible first | exact HK.out | apply KeepBut.set_ | apply keep_drewN | apply keep_drew | apply keep_alloc | refine keep_far ?_ GW388.out _ | refine keep_far ?_ GW389.out _ | refine keep_far ?_ GW390.out _) | exact HK.out)⟩, ⟨by repeat (first | (with_reducible first | exact HB.out | apply bAl | apply bDN | apply bD1 | refine bSt ?_ (IsS94.ge HI0.out) | refine bSt ?_ GE388.out | refine bSt ?_ GE389.out | refine bSt ?_ GE390.out) | exact HB.out)⟩⟩
       case round =>
        clear H'
        try clear c1
        try clear c2
        try clear p2
        try clear q2
        try clear hx2
        try clear hf2
        try clear c3
        try clear c5
        try clear c5b0
        try clear c5b1
        try clear c6
        try clear c6b0
        try clear c6b1
        try clear p6
        try clear c8
        try clear c9
        try clear c10
        try clear c13
        try clear c14
        try clear c15
        try clear c22
        try clear c23
        try clear c23b0
        try clear c24
        try clear c24b0
        try clear p25
        try clear q25
        try clear hx25
        try clear hf25
        try clear c29
        try clear c29b0
        try clear c29b1
        try clear c31
        try clear c32
        try clear c33
        try clear c35
        try clear c36
        try clear hcz11_0
        try clear hcz11_1
        try clear hcz16_0
        try clear hcz16_1
        try clear hcz16_2
        try clear hcz17_0
        try clear hcz17_1
        try clear hcz19_0
        try clear hcz19_1
        try clear hcz34_0
        try clear hcz34_1
        try clear hcz34_2
        try clear hcz37_0
        try clear hcz37_1
        try clear hcz37_2
        try clear hfz11_0
        try clear hfz11_1
        try clear hfz16_0
        try clear hfz16_1
        try clear hfz16_2
        try clear hfz17_0
        try clear hfz17_1
        try clear hfz19_0
        try clear hfz19_1
        try clear hfz34_0
        try clear hfz34_1
        try clear hfz34_2
        try clear hfz37_0
        try clear hfz37_1
        try clear hfz37_2
        try clear hx25_0
        try clear p2
        try clear p25
        try clear q25
        obtain ⟨x10_2, rfl, HA, HK2, HO_7, BK388, BK389, BK390, HI0, HK, HB⟩ := hrel
        cases gk with
        | zero => exact absurd HA.out (by simp [spec_l03Tree.l1])
        | succ k2 =>
         have H := HA.out
         clear HA
         simp only [spec_l03Tree.l1] at H
         replace H := Option.bind_eq_some_iff.mp H
         obtain ⟨t403, A430, H⟩ := H
         replace H : (if t403 = true then (spec_l03Tree.l1 k2 t391 x7_1 t397 (wrap64 (x10_2 + 1)) s0_0 t401 t402 a1_0 a1_1 a1_0 a1_1 0) else (spec_l03Tree.l2 k2 t391 x7_1 t397 x10_2 0 s0_0 t401 t402 a1_0 a1_1 a1_0 a1_1 0)) = some (r1, r2, r3, r4, r5) := H
         have A43 := aK A430
         clear A430
         by_cases c44 : t403 = true
         ·subst c44
          have H1 : (spec_l03Tree.l1 k2 t391 x7_1 t397 (wrap64 (x10_2 + 1)) s0_0 t401 t402 a1_0 a1_1 a1_0 a1_1 0) = some (r1, r2, r3, r4, r5) := by rw [if_pos rfl] at H; exact H
          clear H
          have H := H1
          clear H1
          have H' := aK H
          clear H
          go_wp2_with (first | ((with_reducible refine gate_callee (f := 113) rfl ?_); refine goesL_ (some 46) rfl rfl Try.func113 (by kernel_rfl) rfl #[.int .i64 x10_2, .int .i64 t391] rfl zD ?_; (with_reducible refine (spec_l03Common.calls k2 x10_2 t391 true _ A43.out).mono ?_); rintro e w' ⟨rfl, ⟨nd, rfl⟩⟩; refine ⟨_, rfl, ?_⟩))
          go_roundg k2
          case measure => have := HK1.out; have := HK2.out; omega
          case rel => exact ⟨(wrap64 (x10_2 + 1)), (by first | rfl | (simp; done) | (simp [*]; done)), H', ⟨by have := HK1.out; have := HK2.out; omega⟩, ⟨zA HO_7⟩, ⟨zK BK388⟩, ⟨zK BK389⟩, ⟨zK BK390⟩, ⟨by repeat (first | (with_reducible first | exact HI0.out | apply IsS94.alloc | apply IsS94.drewN | apply IsS94.drew | apply IsS94.set_1 | apply IsS94.set_2 | refine IsS94.far ?_ NB0_388.out _ | refine IsS94.far ?_ NB0_389.out _ | refine IsS94.far ?_ NB0_390.out _) | exact HI0.out)⟩, ⟨by repeat (first | (with_reducible first | exact HK.out | apply KeepBut.set_ | apply keep_drewN | apply keep_drew | apply keep_alloc | refine keep_far ?_ GW388.out _ | refine keep_far ?_ GW389.out _ | refine keep_far ?_ GW390.out _) | exact HK.out)⟩, ⟨by repeat (first | (with_reducible first | exact HB.out | apply bAl | apply bDN | apply bD1 | refine bSt ?_ (IsS94.ge HI0.out) | refine bSt ?_ GE388.out | refine bSt ?_ GE389.out | refine bSt ?_ GE390.out) | exact HB.out)⟩⟩
         ·replace c44 := Bool.eq_false_iff.mpr c44
          subst c44
          have H1 : (spec_l03Tree.l2 k2 t391 x7_1 t397 x10_2 0 s0_0 t401 t402 a1_0 a1_1 a1_0 a1_1 0) = some (r1, r2, r3, r4, r5) := by rw [if_neg (show ¬ (false = true) by decide)] at H; exact H
          clear H
          have H := H1
          clear H1
          have H' := aK H
          clear H
          go_wp2_with (first | ((with_reducible refine gate_callee (f := 113) rfl ?_); refine goesL_ (some 46) rfl rfl Try.func113 (by kernel_rfl) rfl #[.int .i64 x10_2, .int .i64 t391] rfl zD ?_; (with_reducible refine (spec_l03Common.calls k2 x10_2 t391 false _ A43.out).mono ?_); rintro e w' ⟨rfl, ⟨nd, rfl⟩⟩; refine ⟨_, rfl, ?_⟩))
          go_loopg [11] k2 (fun kq v11 w' => ∃ (x7_3 : List Int) (x11_3 : Int) (x391002_3 : Int), v11 = .int .i64 x11_3 ∧ Aside0 (spec_l03Tree.l2 kq t391 x7_3 t397 x10_2 x11_3 s0_0 t401 t402 a1_0 a1_1 a1_0 a1_1 x391002_3 = some (r1, r2, r3, r4, r5)) ∧ Aside0 (kq ≤ k2) ∧ Aside0 (Kd.R (Kd.int .i64) 3 w' w.heap.size (fun _ => True) (.slice Ao40 x7_1.length co40) x7_3) ∧ Aside0 (w'.heap[gb388]? = some (.cells #[.int .i64 a1_0, .int .i64 a1_1] 28 (0, 0))) ∧ Aside0 (w'.heap[gb389]? = some (.cells #[.int .i64 0, .int .i64 0, .int .i64 0] 30 (0, 0))) ∧ Aside0 (w'.heap[gb390]? = some (.cells #[.int .i64 a1_0, .int .i64 a1_1, .int .i64 x391002_3] 30 (0, 0))) ∧ Aside0 (IsS94 w0 w' g s0_0 t401 t402) ∧ Aside0 (KeepBut w w' g none) ∧ Aside0 (Below w0.heap.size w0 w'))
          case atStart => exact ⟨(x7_1), (0), (0), (by first | rfl | (simp; done) | (simp [*]; done)), H', ⟨Nat.le_refl _⟩, ⟨zA HO_7⟩, ⟨zK BK388⟩, ⟨zK BK389⟩, ⟨zK BK390⟩, ⟨by repeat (first | (with_reducible first | exact HI0.out | apply IsS94.alloc | apply IsS94.drewN | apply IsS94.drew | apply IsS94.set_1 | apply IsS94.set_2 | refine IsS94.far ?_ NB0_388.out _ | refine IsS94.far ?_ NB0_389.out _ | refine IsS94.far ?_ NB0_390.out _) | exact HI0.out)⟩, ⟨by repeat (first | (with_reducible first | exact HK.out | apply KeepBut.set_ | apply keep_drewN | apply keep_drew | apply keep_alloc | refine keep_far ?_ GW388.out _ | refine keep_far ?_ GW389.out _ | refine keep_far ?_ GW390.out _) | exact HK.out)⟩, ⟨by repeat (first | (with_reducible first | exact HB.out | apply bAl | apply bDN | apply bD1 | refine bSt ?_ (IsS94.ge HI0.out) | refine bSt ?_ GE388.out | refine bSt ?_ GE389.out | refine bSt ?_ GE390.out) | exact HB.out)⟩⟩
          case round =>
           clear H'
           try clear c1
           try clear c2
           try clear p2
           try clear q2
           try clear hx2
           try clear hf2
           try clear c3
           try clear c4
           try clear c5
           try clear c5b0
           try clear c5b1
           try clear c6
           try clear c6b0
           try clear c6b1
           try clear p6
           try clear c8
           try clear c9
           try clear c10
           try clear c11
           try clear c13
           try clear c14
           try clear c15
           try clear c22
           try clear c23
           try clear c23b0
           try clear c24
           try clear c24b0
           try clear p25
           try clear q25
           try clear hx25
           try clear hf25
           try clear c29
           try clear c29b0
           try clear c29b1
           try clear c31
           try clear c32
           try clear c33
           try clear c35
           try clear c36
           try clear c44
           try clear hcz11_0
           try clear hcz11_1
           try clear hcz16_0
           try clear hcz16_1
           try clear hcz16_2
           try clear hcz17_0
           try clear hcz17_1
           try clear hcz19_0
           try clear hcz19_1
           try clear hcz34_0
           try clear hcz34_1
           try clear hcz34_2
           try clear hcz37_0
           try clear hcz37_1
           try clear hcz37_2
           try clear hfz11_0
           try clear hfz11_1
           try clear hfz16_0
           try clear hfz16_1
           try clear hfz16_2
           try clear hfz17_0
           try clear hfz17_1
           try clear hfz19_0
           try clear hfz19_1
           try clear hfz34_0
           try clear hfz34_1
           try clear hfz34_2
           try clear hfz37_0
           try clear hfz37_1
           try clear hfz37_2
           try clear hx25_0
           try clear p2
           try clear p25
           try clear p6
           try clear q2
           try clear q25
           obtain ⟨x7_3, x11_3, x391002_3, rfl, HA, HK3, HO_7, BK388, BK389, BK390, HI0, HK, HB⟩ := hrel
           have hl7_3 := (Kd.R_reads' HO_7.out).1
           rw [hl7_3] at HO_7
           (try simp only [hl7_3])
           (try simp only [hl7_3] at BK388)
           (try simp only [hl7_3] at BK389)
           (try simp only [hl7_3] at BK390)
           cases gk with
           | zero => exact absurd HA.out (by simp [spec_l03Tree.l2])
           | succ k3 =>
            have H := HA.out
            clear HA
            simp only [spec_l03Tree.l2] at H
            by_cases c45 : x11_3 < t391
            ·rw [if_pos c45] at H
             have c45b0 : decide (x11_3 < t391) = true := decide_eq_true c45
             clear c45
             by_cases c46 : t391 = 0
             ·rw [if_pos c46] at H
              exact absurd H (by simp)
             ·rw [if_neg c46] at H
              have c46b0 : (t391 == 0) = false := beq_eq_false_iff_ne.mpr c46
              have c46b1 : (t391 != 0) = true := bne_iff_ne.mpr c46
              replace H := Option.bind_eq_some_iff.mp H
              obtain ⟨⟨t404, t405⟩, A470, H⟩ := H
              replace H : (if 0 ≤ t404 then (if t404 < (x7_3.length : Int) then (if 0 ≤ t405 then (if t405 < (x7_3.length : Int) then (if (rd x7_3 t404) = (rd x7_3 t405) then (spec_l03Tree.l2 k3 t391 x7_3 t397 x10_2 (wrap64 (x11_3 + 1)) s0_0 t401 t402 a1_0 a1_1 a1_0 a1_1 x391002_3) else (if 0 ≤ (Int.tmod (wrap64 (t397 + (wrap64 (x11_3 * x10_2)))) t391) then (spec_l03Tree.l3 k3 t391 x7_3 t397 x10_2 x11_3 t404 (rd x7_3 t405) 0 s0_0 t401 t402 a1_0 a1_1 a1_0 a1_1 (Go.bits .or .i64 x391002_3 (shl .i64 1 (Int.tmod (wrap64 (t397 + (wrap64 (x11_3 * x10_2)))) t391)))) else (none))) else (none)) else (none)) else (none)) else (none)) = some (r1, r2, r3, r4, r5) := H
              have A47 := aK A470
              clear A470
              by_cases c48 : 0 ≤ t404
              ·rw [if_pos c48] at H
               have c48b0 : decide (0 ≤ t404) = true := decide_eq_true c48
               clear c48
               by_cases c49 : t404 < (x7_3.length : Int)
               ·rw [if_pos c49] at H
                have c49b0 : decide (t404 < (x7_3.length : Int)) = true := decide_eq_true c49
                clear c49
                by_cases c50 : 0 ≤ t405
                ·rw [if_pos c50] at H
                 have c50b0 : decide (0 ≤ t405) = true := decide_eq_true c50
                 clear c50
                 by_cases c51 : t405 < (x7_3.length : Int)
                 ·rw [if_pos c51] at H
                  have c51b0 : decide (t405 < (x7_3.length : Int)) = true := decide_eq_true c51
                  clear c51
                  by_cases c52 : (rd x7_3 t404) = (rd x7_3 t405)
                  ·rw [if_pos c52] at H
                   have c52b0 : ((rd x7_3 t404) == (rd x7_3 t405)) = true := beq_iff_eq.mpr c52
                   have c52b1 : ((rd x7_3 t404) != (rd x7_3 t405)) = false := bne_eq_false_iff_eq.mpr c52
                   clear c52
                   have H' := aK H
                   clear H
                   have hnb53 := NB388_389.out
                   have hnc53 := NB389_388.out
                   have hnb54 := NB388_390.out
                   have hnc54 := NB390_388.out
                   have hnb55 := NB388_0.out
                   have hnc55 := NB0_388.out
                   obtain ⟨hcz56_0, hcz56_1, hfz56_0, hfz56_1⟩ := cl2 BK388.out
                   try go_wp2_with (first | ((with_reducible refine gate_callee (f := 114) rfl ?_); refine goesL_ (some 64) rfl rfl Try.func114 (by kernel_rfl) rfl #[.agg #[.int .i64 a1_0, .int .i64 a1_1], .int .i64 (Int.tmod (wrap64 (t397 + (wrap64 (x11_3 * x10_2)))) t391)] rfl zD ?_; (with_reducible refine (spec_EndsOf.calls a1_0 a1_1 (Int.tmod (wrap64 (t397 + (wrap64 (x11_3 * x10_2)))) t391) t404 t405 _ A47.out).mono ?_); rintro e w57 ⟨rfl, hb⟩; refine ⟨_, rfl, ?_⟩; replace HO_7 := aK (Kd.R_below (zA HO_7) hb); replace BK388 := zB BK388 hb; replace BK389 := zB BK389 hb; replace BK390 := zB BK390 hb; replace HK := aK (KeepBut.trans (by repeat (first | (with_reducible first | exact HK.out | apply KeepBut.set_ | apply keep_drewN | apply keep_drew | apply keep_alloc | refine keep_far ?_ GW388.out _ | refine keep_far ?_ GW389.out _ | refine keep_far ?_ GW390.out _) | exact HK.out)) (KeepBut.of_below hb g none) (.inl rfl)); replace HB := aK (bSp (by repeat (first | (with_reducible first | exact HB.out | apply bAl | apply bDN | apply bD1 | refine bSt ?_ (IsS94.ge HI0.out) | refine bSt ?_ GE388.out | refine bSt ?_ GE389.out | refine bSt ?_ GE390.out) | exact HB.out)) hb); replace HI0 := aK (IsS94.below (by repeat (first | (with_reducible first | exact HI0.out | apply IsS94.alloc | apply IsS94.drewN | apply IsS94.drew | apply IsS94.set_1 | apply IsS94.set_2 | refine IsS94.far ?_ NB0_388.out _ | refine IsS94.far ?_ NB0_389.out _ | refine IsS94.far ?_ NB0_390.out _) | exact HI0.out)) hb); (try clear hb); (try clear hb2); (try clear hk); (try clear hi)))
                   have n0_ := aK (Kd.R_drew HO_7.out)
                   have n1_ := aK (kD BK388.out)
                   have n2_ := aK (kD BK389.out)
                   have n3_ := aK (kD BK390.out)
                   have n4_ := aK (IsS94.drew HI0.out)
                   have n5_ := aK (keep_drew HK.out)
                   have n6_ := aK (bD1 HB.out)
                   clear HO_7
                   clear BK388
                   clear BK389
                   clear BK390
                   clear HI0
                   clear HK
                   clear HB
                   have HO_7 := n0_
                   have BK388 := n1_
                   have BK389 := n2_
                   have BK390 := n3_
                   have HI0 := n4_
                   have HK := n5_
                   have HB := n6_
                   clear n0_ n1_ n2_ n3_ n4_ n5_ n6_
                   have p406 : 0 ≤ (t404 : Int) := of_decide_eq_true (by first | (with_reducible assumption) | assumption)
                   have q406 : t404 < (x7_3.length : Int) := of_decide_eq_true (by first | (with_reducible assumption) | assumption)
                   obtain ⟨ad406, e406, hx406_0⟩ := Kd.at_int (Kd.R_reads' HO_7.out).2.2 t404 p406 q406
                   cases e406
                   replace p406 := eq_true p406
                   replace q406 := eq_true q406
                   have p407 : 0 ≤ (t405 : Int) := of_decide_eq_true (by first | (with_reducible assumption) | assumption)
                   have q407 : t405 < (x7_3.length : Int) := of_decide_eq_true (by first | (with_reducible assumption) | assumption)
                   obtain ⟨ad407, e407, hx407_0⟩ := Kd.at_int (Kd.R_reads' HO_7.out).2.2 t405 p407 q407
                   obtain rfl : ad406 = ad407 := (by injection e407)
                   replace p407 := eq_true p407
                   replace q407 := eq_true q407
                   refine start_ (n := 9) (S := fun w' => w'.cell? (ad406.add (t404).toNat) = some (.int .i64 (rd x7_3 t404)) ∧ w'.cell? (ad406.add (t405).toNat) = some (.int .i64 (rd x7_3 t405))) (ds := []) #[bN,bN,bN,bN,bN,bN,bN,bN,bN] (by kernel_rfl) rfl rfl ⟨hx406_0, hx407_0⟩ (fun hHeld => ?_); refine with_tabW spec_l03Tree.tab19 spec_l03Tree.bits19 (fun HT_ HW_ => ?_)
                   generalize w57.drew = w58 at HO_7 BK388 BK389 BK390 HI0 HK HB hx406_0 hx407_0 hHeld ⊢
                   refine pure_ (i := 0) (N := some 67) (v := ?_) (a' := ?_) #[bY,bN,bN,bN,bN,bN,bN,bN,bN] rfl rfl (any_of HT_.out (by kernel_rfl)) (fun _ _ _ h => h) (Or.inl ⟨by rfl, ?_⟩) ?_ ?_
                   rotate_left
                   ·intro w'
                    go_simp
                    with_reducible rfl
                   rotate_left
                   ·simp only [Act.put, sTA, sZ, sS, i64_w, i32_w]
                    rfl
                   refine pure_ (i := 1) (N := some 68) (v := ?_) (a' := ?_) #[bY,bY,bN,bN,bN,bN,bN,bN,bN] rfl rfl (any_of HT_.out (by kernel_rfl)) (fun _ _ _ h => h) (Or.inl ⟨by rfl, ?_⟩) ?_ ?_
                   rotate_left
                   ·intro w'
                    go_simp
                    with_reducible rfl
                   rotate_left
                   ·simp only [Act.put, sTA, sZ, sS, i64_w, i32_w]
                    rfl
                   refine pure_ (i := 2) (N := some 69) (v := ?_) (a' := ?_) #[bY,bY,bY,bN,bN,bN,bN,bN,bN] rfl rfl (any_of HT_.out (by kernel_rfl)) (fun _ _ _ h => h) (Or.inl ⟨by rfl, ?_⟩) ?_ ?_
                   rotate_left
                   ·intro w'
                    go_simp
                    with_reducible rfl
                   rotate_left
                   ·simp only [Act.put, sTA, sZ, sS, i64_w, i32_w]
                    rfl
                   refine pure_ (i := 4) (N := some 71) (v := ?_) (a' := ?_) #[bY,bY,bY,bN,bY,bN,bN,bN,bN] rfl rfl (any_of HT_.out (by kernel_rfl)) (fun _ _ _ h => h) (Or.inl ⟨by rfl, ?_⟩) ?_ ?_
                   rotate_left
                   ·intro w'
                    go_simp
                    with_reducible rfl
                   rotate_left
                   ·simp only [Act.put, sTA, sZ, sS, i64_w, i32_w]
                    rfl
                   refine pure_ (i := 5) (N := some 72) (v := ?_) (a' := ?_) #[bY,bY,bY,bN,bY,bY,bN,bN,bN] rfl rfl (any_of HT_.out (by kernel_rfl)) (fun _ _ _ h => h) (Or.inl ⟨by rfl, ?_⟩) ?_ ?_
                   rotate_left
                   ·intro w'
                    go_simp
                    with_reducible rfl
                   rotate_left
                   ·simp only [Act.put, sTA, sZ, sS, i64_w, i32_w]
                    rfl
                   refine pure_ (i := 6) (N := some 73) (v := ?_) (a' := ?_) #[bY,bY,bY,bN,bY,bY,bY,bN,bN] rfl rfl (any_of HT_.out (by kernel_rfl)) (fun _ _ _ h => h) (Or.inl ⟨by rfl, ?_⟩) ?_ ?_
                   rotate_left
                   ·intro w'
                    go_simp
                    with_reducible rfl
                   rotate_left
                   ·simp only [Act.put, sTA, sZ, sS, i64_w, i32_w]
                    rfl
                   refine take_ (i := 3) (N := some 70) (v := ?_) (a' := ?_) #[bY,bY,bY,bY,bY,bY,bY,bN,bN] rfl rfl (take_ofW HT_.out HW_.out (by kernel_rfl)) (fun _ _ _ h => h) (Or.inl ⟨by rfl, ?_⟩) hHeld ?_ ?_
                   rotate_left
                   ·rintro w' ⟨s0, s1⟩
                    go_simp
                    with_reducible rfl
                   rotate_left
                   ·simp only [Act.put, sTA, sZ, sS, i64_w, i32_w]
                    rfl
                   refine take_ (i := 7) (N := some 74) (v := ?_) (a' := ?_) #[bY,bY,bY,bY,bY,bY,bY,bY,bN] rfl rfl (take_ofW HT_.out HW_.out (by kernel_rfl)) (fun _ _ _ h => h) (Or.inl ⟨by rfl, ?_⟩) hHeld ?_ ?_
                   rotate_left
                   ·rintro w' ⟨s0, s1⟩
                    go_simp
                    with_reducible rfl
                   rotate_left
                   ·simp only [Act.put, sTA, sZ, sS, i64_w, i32_w]
                    rfl
                   refine pure_ (i := 8) (N := some 75) (v := ?_) (a' := ?_) #[bY,bY,bY,bY,bY,bY,bY,bY,bY] rfl rfl (any_of HT_.out (by kernel_rfl)) (fun _ _ _ h => h) (Or.inl ⟨by rfl, ?_⟩) ?_ ?_
                   rotate_left
                   ·intro w'
                    go_simp
                    with_reducible rfl
                   rotate_left
                   ·simp only [Act.put, sTA, sZ, sS, i64_w, i32_w]
                    rfl
                   refine done_ (done_of HT_.out (by kernel_rfl)) ?_
                   try go_wp2
                   (try simp only [← hl7_3])
                   go_roundg k3
                   case measure => have := HK1.out; have := HK2.out; have := HK3.out; omega
                   case rel => exact ⟨(x7_3), (wrap64 (x11_3 + 1)), (x391002_3), (by first | rfl | (simp; done) | (simp [*]; done)), H', ⟨by have := HK1.out; have := HK2.out; have := HK3.out; omega⟩, ⟨by (try simp only [hl7_3]); (with_reducible repeat (first | apply Kd.R_alloc | apply Kd.R_drewN | apply Kd.R_drew)); exact HO_7.out⟩, ⟨by (try simp only [hl7_3]); (with_reducible repeat (first | refine kDN ?_ _ | refine kD ?_ | refine kA ?_ _)); exact BK388.out⟩, ⟨by (try simp only [hl7_3]); (with_reducible repeat (first | refine kDN ?_ _ | refine kD ?_ | refine kA ?_ _)); exact BK389.out⟩, ⟨by (try simp only [hl7_3]); (with_reducible repeat (first | refine kDN ?_ _ | refine kD ?_ | refine kA ?_ _)); exact BK390.out⟩, ⟨by repeat (first | (with_reducible first | exact HI0.out | apply IsS94.alloc | apply IsS94.drewN | apply IsS94.drew | apply IsS94.set_1 | apply IsS94.set_2 | refine IsS94.far ?_ NB0_388.out _ | refine IsS94.far ?_ NB0_389.out _ | refine IsS94.far ?_ NB0_390.out _) | exact HI0.out)⟩, ⟨by repeat (first | (with_reducible first | exact HK.out | apply KeepBut.set_ | apply keep_drewN | apply keep_drew | apply keep_alloc | refine keep_far ?_ GW388.out _ | refine keep_far ?_ GW389.out _ | refine keep_far ?_ GW390.out _) | exact HK.out)⟩, ⟨by repeat (first | (with_reducible first | exact HB.out | apply bAl | apply bDN | apply bD1 | refine bSt ?_ (IsS94.ge HI0.out) | refine bSt ?_ GE388.out | refine bSt ?_ GE389.out | refine bSt ?_ GE390.out) | exact HB.out)⟩⟩
                  ·rw [if_neg c52] at H
                   have c52b0 : ((rd x7_3 t404) == (rd x7_3 t405)) = false := beq_eq_false_iff_ne.mpr c52
                   have c52b1 : ((rd x7_3 t404) != (rd x7_3 t405)) = true := bne_iff_ne.mpr c52
                   obtain ⟨ji59, hji59⟩ : ∃ j_ : Int, (Int.tmod (wrap64 (t397 + (wrap64 (x11_3 * x10_2)))) t391) = j_ := ⟨_, rfl⟩
                   replace H : (if 0 ≤ (ji59) then (spec_l03Tree.l3 k3 t391 x7_3 t397 x10_2 x11_3 t404 (rd x7_3 t405) 0 s0_0 t401 t402 a1_0 a1_1 a1_0 a1_1 (Go.bits .or .i64 x391002_3 (shl .i64 1 (ji59)))) else (none)) = some (r1, r2, r3, r4, r5) := by first | (rw [hji59] at H; exact H) | (simp only [hji59] at H ⊢; exact H)
                   (try rw [hji59] at A47)
                   by_cases c60 : 0 ≤ (ji59)
                   ·rw [if_pos c60] at H
                    have c60b0 := eq_true c60
                    have c60b1 : decide (0 ≤ (ji59)) = true := decide_eq_true c60
                    clear c60
                    obtain ⟨ji61, hji61⟩ : ∃ j_ : Int, (shl .i64 1 (ji59)) = j_ := ⟨_, rfl⟩
                    replace H : (spec_l03Tree.l3 k3 t391 x7_3 t397 x10_2 x11_3 t404 (rd x7_3 t405) 0 s0_0 t401 t402 a1_0 a1_1 a1_0 a1_1 (Go.bits .or .i64 x391002_3 (ji61))) = some (r1, r2, r3, r4, r5) := by first | (rw [hji61] at H; exact H) | (simp only [hji61] at H ⊢; exact H)
                    (try rw [hji61] at A47)
                    have hji61_ : (IntKind.i64.wrap (1 * 2 ^ min (ji59).toNat 64)) = ji61 := hji61
                    have hji61z : (ji59) ≤ 64 → (IntKind.i64.wrap (1 * 2 ^ (ji59).toNat)) = ji61 := shl_small hji61
                    have hji61u : (IntKind.i64.wrap (2 ^ min (ji59).toNat 64)) = ji61 := by have h_ := hji61_; rw [Int.one_mul] at h_; exact h_
                    have hji61v : (ji59) ≤ 64 → (IntKind.i64.wrap (2 ^ (ji59).toNat)) = ji61 := fun hle_ => by have h_ := hji61z hle_; rw [Int.one_mul] at h_; exact h_
                    have hji61y : (wrap64 (1 * 2 ^ min (ji59).toNat 64)) = ji61 := (i64_w _).symm.trans hji61_
                    have hji61x : (ji59) ≤ 64 → (wrap64 (1 * 2 ^ (ji59).toNat)) = ji61 := fun h_ => (i64_w _).symm.trans (hji61z h_)
                    have H' := aK H
                    clear H
                    have hnb62 := NB388_389.out
                    have hnc62 := NB389_388.out
                    have hnb63 := NB388_390.out
                    have hnc63 := NB390_388.out
                    have hnb64 := NB388_0.out
                    have hnc64 := NB0_388.out
                    obtain ⟨hcz65_0, hcz65_1, hfz65_0, hfz65_1⟩ := cl2 BK388.out
                    try go_wp2_with (first | ((with_reducible refine gate_callee (f := 114) rfl ?_); refine goesL_ (some 64) rfl rfl Try.func114 (by kernel_rfl) rfl #[.agg #[.int .i64 a1_0, .int .i64 a1_1], .int .i64 ji59] rfl (by (try simp only [List.map_toArray, List.map_cons, List.map_nil]); first | done | (simp only [hji59]; rfl) | rfl | (simp only [List.length_drop, List.length_take]; rfl)) ?_; (with_reducible refine (spec_EndsOf.calls a1_0 a1_1 ji59 t404 t405 _ A47.out).mono ?_); rintro e w66 ⟨rfl, hb⟩; refine ⟨_, rfl, ?_⟩; replace HO_7 := aK (Kd.R_below (zA HO_7) hb); replace BK388 := zB BK388 hb; replace BK389 := zB BK389 hb; replace BK390 := zB BK390 hb; replace HK := aK (KeepBut.trans (by repeat (first | (with_reducible first | exact HK.out | apply KeepBut.set_ | apply keep_drewN | apply keep_drew | apply keep_alloc | refine keep_far ?_ GW388.out _ | refine keep_far ?_ GW389.out _ | refine keep_far ?_ GW390.out _) | exact HK.out)) (KeepBut.of_below hb g none) (.inl rfl)); replace HB := aK (bSp (by repeat (first | (with_reducible first | exact HB.out | apply bAl | apply bDN | apply bD1 | refine bSt ?_ (IsS94.ge HI0.out) | refine bSt ?_ GE388.out | refine bSt ?_ GE389.out | refine bSt ?_ GE390.out) | exact HB.out)) hb); replace HI0 := aK (IsS94.below (by repeat (first | (with_reducible first | exact HI0.out | apply IsS94.alloc | apply IsS94.drewN | apply IsS94.drew | apply IsS94.set_1 | apply IsS94.set_2 | refine IsS94.far ?_ NB0_388.out _ | refine IsS94.far ?_ NB0_389.out _ | refine IsS94.far ?_ NB0_390.out _) | exact HI0.out)) hb); (try clear hb); (try clear hb2); (try clear hk); (try clear hi)))
                    have n0_ := aK (Kd.R_drew HO_7.out)
                    have n1_ := aK (kD BK388.out)
                    have n2_ := aK (kD BK389.out)
                    have n3_ := aK (kD BK390.out)
                    have n4_ := aK (IsS94.drew HI0.out)
                    have n5_ := aK (keep_drew HK.out)
                    have n6_ := aK (bD1 HB.out)
                    clear HO_7
                    clear BK388
                    clear BK389
                    clear BK390
                    clear HI0
                    clear HK
                    clear HB
                    have HO_7 := n0_
                    have BK388 := n1_
                    have BK389 := n2_
                    have BK390 := n3_
                    have HI0 := n4_
                    have HK := n5_
                    have HB := n6_
                    clear n0_ n1_ n2_ n3_ n4_ n5_ n6_
                    have p406 : 0 ≤ (t404 : Int) := of_decide_eq_true (by first | (with_reducible assumption) | assumption)
                    have q406 : t404 < (x7_3.length : Int) := of_decide_eq_true (by first | (with_reducible assumption) | assumption)
                    obtain ⟨ad406, e406, hx406_0⟩ := Kd.at_int (Kd.R_reads' HO_7.out).2.2 t404 p406 q406
                    cases e406
                    replace p406 := eq_true p406
                    replace q406 := eq_true q406
                    have p407 : 0 ≤ (t405 : Int) := of_decide_eq_true (by first | (with_reducible assumption) | assumption)
                    have q407 : t405 < (x7_3.length : Int) := of_decide_eq_true (by first | (with_reducible assumption) | assumption)
                    obtain ⟨ad407, e407, hx407_0⟩ := Kd.at_int (Kd.R_reads' HO_7.out).2.2 t405 p407 q407
                    obtain rfl : ad406 = ad407 := (by injection e407)
                    replace p407 := eq_true p407
                    replace q407 := eq_true q407
                    refine start_ (n := 9) (S := fun w' => w'.cell? (ad406.add (t404).toNat) = some (.int .i64 (rd x7_3 t404)) ∧ w'.cell? (ad406.add (t405).toNat) = some (.int .i64 (rd x7_3 t405))) (ds := []) #[bN,bN,bN,bN,bN,bN,bN,bN,bN] (by kernel_rfl) rfl rfl ⟨hx406_0, hx407_0⟩ (fun hHeld => ?_); refine with_tabW spec_l03Tree.tab19 spec_l03Tree.bits19 (fun HT_ HW_ => ?_)
                    generalize w66.drew = w67 at HO_7 BK388 BK389 BK390 HI0 HK HB hx406_0 hx407_0 hHeld ⊢
                    refine pure_ (i := 0) (N := some 67) (v := ?_) (a' := ?_) #[bY,bN,bN,bN,bN,bN,bN,bN,bN] rfl rfl (any_of HT_.out (by kernel_rfl)) (fun _ _ _ h => h) (Or.inl ⟨by rfl, ?_⟩) ?_ ?_
                    rotate_left
                    ·intro w'
                     go_simp
                     with_reducible rfl
                    rotate_left
                    ·simp only [Act.put, sTA, sZ, sS, i64_w, i32_w]
                     rfl
                    refine pure_ (i := 1) (N := some 68) (v := ?_) (a' := ?_) #[bY,bY,bN,bN,bN,bN,bN,bN,bN] rfl rfl (any_of HT_.out (by kernel_rfl)) (fun _ _ _ h => h) (Or.inl ⟨by rfl, ?_⟩) ?_ ?_
                    rotate_left
                    ·intro w'
                     go_simp
                     with_reducible rfl
                    rotate_left
                    ·simp only [Act.put, sTA, sZ, sS, i64_w, i32_w]
                     rfl
                    refine pure_ (i := 2) (N := some 69) (v := ?_) (a' := ?_) #[bY,bY,bY,bN,bN,bN,bN,bN,bN] rfl rfl (any_of HT_.out (by kernel_rfl)) (fun _ _ _ h => h) (Or.inl ⟨by rfl, ?_⟩) ?_ ?_
                    rotate_left
                    ·intro w'
                     go_simp
                     with_reducible rfl
                    rotate_left
                    ·simp only [Act.put, sTA, sZ, sS, i64_w, i32_w]
                     rfl
                    refine pure_ (i := 4) (N := some 71) (v := ?_) (a' := ?_) #[bY,bY,bY,bN,bY,bN,bN,bN,bN] rfl rfl (any_of HT_.out (by kernel_rfl)) (fun _ _ _ h => h) (Or.inl ⟨by rfl, ?_⟩) ?_ ?_
                    rotate_left
                    ·intro w'
                     go_simp
                     with_reducible rfl
                    rotate_left
                    ·simp only [Act.put, sTA, sZ, sS, i64_w, i32_w]
                     rfl
                    refine pure_ (i := 5) (N := some 72) (v := ?_) (a' := ?_) #[bY,bY,bY,bN,bY,bY,bN,bN,bN] rfl rfl (any_of HT_.out (by kernel_rfl)) (fun _ _ _ h => h) (Or.inl ⟨by rfl, ?_⟩) ?_ ?_
                    rotate_left
                    ·intro w'
                     go_simp
                     with_reducible rfl
                    rotate_left
                    ·simp only [Act.put, sTA, sZ, sS, i64_w, i32_w]
                     rfl
                    refine pure_ (i := 6) (N := some 73) (v := ?_) (a' := ?_) #[bY,bY,bY,bN,bY,bY,bY,bN,bN] rfl rfl (any_of HT_.out (by kernel_rfl)) (fun _ _ _ h => h) (Or.inl ⟨by rfl, ?_⟩) ?_ ?_
                    rotate_left
                    ·intro w'
                     go_simp
                     with_reducible rfl
                    rotate_left
                    ·simp only [Act.put, sTA, sZ, sS, i64_w, i32_w]
                     rfl
                    refine take_ (i := 3) (N := some 70) (v := ?_) (a' := ?_) #[bY,bY,bY,bY,bY,bY,bY,bN,bN] rfl rfl (take_ofW HT_.out HW_.out (by kernel_rfl)) (fun _ _ _ h => h) (Or.inl ⟨by rfl, ?_⟩) hHeld ?_ ?_
                    rotate_left
                    ·rintro w' ⟨s0, s1⟩
                     go_simp
                     with_reducible rfl
                    rotate_left
                    ·simp only [Act.put, sTA, sZ, sS, i64_w, i32_w]
                     rfl
                    refine take_ (i := 7) (N := some 74) (v := ?_) (a' := ?_) #[bY,bY,bY,bY,bY,bY,bY,bY,bN] rfl rfl (take_ofW HT_.out HW_.out (by kernel_rfl)) (fun _ _ _ h => h) (Or.inl ⟨by rfl, ?_⟩) hHeld ?_ ?_
                    rotate_left
                    ·rintro w' ⟨s0, s1⟩
                     go_simp
                     with_reducible rfl
                    rotate_left
                    ·simp only [Act.put, sTA, sZ, sS, i64_w, i32_w]
                     rfl
                    refine pure_ (i := 8) (N := some 75) (v := ?_) (a' := ?_) #[bY,bY,bY,bY,bY,bY,bY,bY,bY] rfl rfl (any_of HT_.out (by kernel_rfl)) (fun _ _ _ h => h) (Or.inl ⟨by rfl, ?_⟩) ?_ ?_
                    rotate_left
                    ·intro w'
                     go_simp
                     with_reducible rfl
                    rotate_left
                    ·simp only [Act.put, sTA, sZ, sS, i64_w, i32_w]
                     rfl
                    refine done_ (done_of HT_.out (by kernel_rfl)) ?_
                    try go_wp2
                    have n0_ := aK (Kd.R_drew HO_7.out)
                    have n1_ := aK (kD BK388.out)
                    have n2_ := aK (kD BK389.out)
                    have n3_ := aK (kD BK390.out)
                    have n4_ := aK (IsS94.drew HI0.out)
                    have n5_ := aK (keep_drew HK.out)
                    have n6_ := aK (bD1 HB.out)
                    clear HO_7
                    clear BK388
                    clear BK389
                    clear BK390
                    clear HI0
                    clear HK
                    clear HB
                    have HO_7 := n0_
                    have BK388 := n1_
                    have BK389 := n2_
                    have BK390 := n3_
                    have HI0 := n4_
                    have HK := n5_
                    have HB := n6_
                    clear n0_ n1_ n2_ n3_ n4_ n5_ n6_
                    refine start_ (n := 7) (S := fun w' => w'.cell? ⟨gb390, 0, none⟩ = some (.int .i64 a1_0) ∧ w'.cell? ⟨gb390, 1, none⟩ = some (.int .i64 a1_1) ∧ w'.cell? ⟨gb390, 2, none⟩ = some (.int .i64 x391002_3)) (ds := [6]) #[bN,bN,bN,bN,bN,bN,bN] (by kernel_rfl) rfl rfl ⟨zQ BK390 0, zQ BK390 1, zQ BK390 2⟩ (fun hHeld => ?_)
                    generalize w67.drew = w68 at HO_7 BK388 BK389 BK390 HI0 HK HB hHeld ⊢
                    refine pure_ (i := 0) (N := some 76) (v := ?_) (a' := ?_) #[bY,bN,bN,bN,bN,bN,bN] rfl rfl (by kernel_rfl) (fun _ _ _ h => h) (Or.inl ⟨by rfl, ?_⟩) ?_ ?_
                    rotate_left
                    ·intro w'
                     go_simp
                     with_reducible rfl
                    rotate_left
                    ·simp only [Act.put, sTA, sZ, sS, i64_w, i32_w]
                     rfl
                    refine pure_ (i := 2) (N := some 78) (v := ?_) (a' := ?_) #[bY,bN,bY,bN,bN,bN,bN] rfl rfl (by kernel_rfl) (fun _ _ _ h => h) (Or.inl ⟨by rfl, ?_⟩) ?_ ?_
                    rotate_left
                    ·intro w'
                     go_simp
                     with_reducible rfl
                    rotate_left
                    ·simp only [Act.put, sTA, sZ, sS, i64_w, i32_w]
                     rfl
                    refine pure_ (i := 3) (N := some 79) (v := ?_) (a' := ?_) #[bY,bN,bY,bY,bN,bN,bN] rfl rfl (by kernel_rfl) (fun _ _ _ h => h) (Or.inl ⟨by rfl, ?_⟩) ?_ ?_
                    rotate_left
                    ·intro w'
                     go_simp
                     with_reducible rfl
                    rotate_left
                    ·simp only [Act.put, sTA, sZ, sS, i64_w, i32_w]
                     rfl
                    refine take_ (i := 1) (N := some 77) (v := ?_) (a' := ?_) #[bY,bY,bY,bY,bN,bN,bN] rfl rfl (by kernel_rfl) (fun _ _ _ h => h) (Or.inl ⟨by rfl, ?_⟩) hHeld ?_ ?_
                    rotate_left
                    ·rintro w' ⟨s0, s1, s2⟩
                     go_simp
                     with_reducible rfl
                    rotate_left
                    ·simp only [Act.put, sTA, sZ, sS, i64_w, i32_w]
                     rfl
                    refine pure_ (i := 4) (N := some 80) (v := ?_) (a' := ?_) #[bY,bY,bY,bY,bY,bN,bN] rfl rfl (by kernel_rfl) (fun _ _ _ h => h) (Or.inl ⟨by rfl, ?_⟩) ?_ ?_
                    rotate_left
                    ·intro w'
                     go_simp
                     with_reducible rfl
                    rotate_left
                    ·simp only [Act.put, sTA, sZ, sS, i64_w, i32_w]
                     rfl
                    refine pure_ (i := 5) (N := some 81) (v := ?_) (a' := ?_) #[bY,bY,bY,bY,bY,bY,bN] rfl rfl (by kernel_rfl) (fun _ _ _ h => h) (Or.inl ⟨by rfl, ?_⟩) ?_ ?_
                    rotate_left
                    ·intro w'
                     go_simp
                     with_reducible rfl
                    rotate_left
                    ·simp only [Act.put, sTA, sZ, sS, i64_w, i32_w]
                     rfl
                    refine last_ (i := 6) (N := none) #[bY,bY,bY,bY,bY,bY,bY] rfl rfl (by kernel_rfl) (by decide) (fun K hK => ?_)
                    have hs69 : w68.cell? ⟨gb390, 2, none⟩ = some (.int .i64 x391002_3) := (kC BK390.out 2).trans rfl
                    have hfs69 := kF BK390.out 2
                    have hns69_0 := NB388_390.out
                    have hns69_1 := NB389_390.out
                    have hms69_0 := NB390_388.out
                    have hms69_1 := NB390_389.out
                    refine skip_ (w1 := ?_) (by rfl) rfl ?_ ?_
                    rotate_left
                    ·go_simp
                     rfl
                    refine hK.out _ _ ?_
                    clear hK K
                    refine done_ (by kernel_rfl) ?_
                    have p408 : 0 ≤ (t405 : Int) := of_decide_eq_true (by first | (with_reducible assumption) | assumption)
                    have q408 : t405 < (x7_3.length : Int) := of_decide_eq_true (by first | (with_reducible assumption) | assumption)
                    obtain ⟨ad408, e408, hx408_0⟩ := Kd.at_int (Kd.R_reads' HO_7.out).2.2 t405 p408 q408
                    obtain rfl : ad406 = ad408 := (by injection e408)
                    have hn408_0 : ad406.block ≠ gb390 := Kd.own_blk (Kd.R_ne HO_7.out BK390.out (by decide))
                    replace hx408_0 := (cell_far (p := ⟨gb390, 2, none⟩) (by first | (rw [add_block]; exact hn408_0) | (show (Addr.add _ _).block ≠ _; rw [add_block]; exact hn408_0) | exact hn408_0) (.int .i64 (Go.bits .or .i64 x391002_3 (ji61)))).trans hx408_0
                    clear hn408_0
                    replace p408 := eq_true p408
                    replace q408 := eq_true q408
                    try go_wp2
                    go_loopg [16] k3 (fun kq v16 w' => ∃ (x7_4 : List Int) (x16_4 : Int), v16 = .int .i64 x16_4 ∧ Aside0 (spec_l03Tree.l3 kq t391 x7_4 t397 x10_2 x11_3 t404 (rd x7_3 t405) x16_4 s0_0 t401 t402 a1_0 a1_1 a1_0 a1_1 (Go.bits .or .i64 x391002_3 (ji61)) = some (r1, r2, r3, r4, r5)) ∧ Aside0 (kq ≤ k3) ∧ Aside0 (Kd.R (Kd.int .i64) 3 w' w.heap.size (fun _ => True) (.slice (some ad406) x7_3.length co40) x7_4) ∧ Aside0 (w'.heap[gb388]? = some (.cells #[.int .i64 a1_0, .int .i64 a1_1] 28 (0, 0))) ∧ Aside0 (w'.heap[gb389]? = some (.cells #[.int .i64 0, .int .i64 0, .int .i64 0] 30 (0, 0))) ∧ Aside0 (w'.heap[gb390]? = some (.cells #[.int .i64 a1_0, .int .i64 a1_1, .int .i64 (Go.bits .or .i64 x391002_3 (ji61))] 30 (0, 0))) ∧ Aside0 (IsS94 w0 w' g s0_0 t401 t402) ∧ Aside0 (KeepBut w w' g none) ∧ Aside0 (Below w0.heap.size w0 w'))
                    case atStart => exact ⟨(x7_3), (0), (by first | rfl | (simp; done) | (simp [*]; done)), H', ⟨Nat.le_refl _⟩, ⟨by (try simp only [hl7_3]); (with_reducible repeat (first | apply Kd.R_alloc | apply Kd.R_drewN | apply Kd.R_drew)); exact Kd.R_mono (Kd.R_far (p := ⟨gb390, 2, none⟩) (Kd.R_types HO_7.out BK390.out (by decide)) (fun _ hk => hk.2) (.int .i64 (Go.bits .or .i64 x391002_3 (ji61)))) (fun _ hk => trivial)⟩, ⟨by (try simp only [hl7_3]); (with_reducible repeat (first | refine kDN ?_ _ | refine kD ?_ | refine kA ?_ _)); refine blk_far ?_ NB388_390.out _; (with_reducible repeat (first | refine kDN ?_ _ | refine kD ?_ | refine kA ?_ _)); exact BK388.out⟩, ⟨by (try simp only [hl7_3]); (with_reducible repeat (first | refine kDN ?_ _ | refine kD ?_ | refine kA ?_ _)); refine blk_far ?_ NB389_390.out _; (with_reducible repeat (first | refine kDN ?_ _ | refine kD ?_ | refine kA ?_ _)); exact BK389.out⟩, ⟨by (try simp only [hl7_3]); (with_reducible repeat (first | refine kDN ?_ _ | refine kD ?_ | refine kA ?_ _)); refine blk_put (cs := #[.int .i64 a1_0, .int .i64 a1_1, .int .i64 x391002_3]) ?_ 2 _ rfl; (with_reducible repeat (first | refine kDN ?_ _ | refine kD ?_ | refine kA ?_ _)); exact BK390.out⟩, ⟨by repeat (first | (with_reducible first | exact HI0.out | apply IsS94.alloc | apply IsS94.drewN | apply IsS94.drew | apply IsS94.set_1 | apply IsS94.set_2 | refine IsS94.far ?_ NB0_388.out _ | refine IsS94.far ?_ NB0_389.out _ | refine IsS94.far ?_ NB0_390.out _) | exact HI0.out)⟩, ⟨by repeat (first | (with_reducible first | exact HK.out | apply KeepBut.set_ | apply keep_drewN | apply keep_drew | apply keep_alloc | refine keep_far ?_ GW388.out _ | refine keep_far ?_ GW389.out _ | refine keep_far ?_ GW390.out _) | exact HK.out)⟩, ⟨by repeat (first | (with_reducible first | exact HB.out | apply bAl | apply bDN | apply bD1 | refine bSt ?_ (IsS94.ge HI0.out) | refine bSt ?_ GE388.out | refine bSt ?_ GE389.out | refine bSt ?_ GE390.out) | exact HB.out)⟩⟩
                    case round =>
                     clear H'
                     try clear c1
                     try clear c2
                     try clear p2
                     try clear q2
                     try clear hx2
                     try clear hf2
                     try clear c3
                     try clear c4
                     try clear p4
                     try clear q4
                     try clear hx4
                     try clear c5
                     try clear c5b0
                     try clear c5b1
                     try clear c6
                     try clear c6b0
                     try clear c6b1
                     try clear p6
                     try clear c8
                     try clear c9
                     try clear c10
                     try clear c11
                     try clear c13
                     try clear c14
                     try clear c15
                     try clear c22
                     try clear c23
                     try clear c23b0
                     try clear c24
                     try clear c24b0
                     try clear p25
                     try clear q25
                     try clear hx25
                     try clear hf25
                     try clear c29
                     try clear c29b0
                     try clear c29b1
                     try clear c31
                     try clear c32
                     try clear c33
                     try clear c35
                     try clear c36
                     try clear p40
                     try clear q40
                     try clear hx40
                     try clear c44
                     try clear c45
                     try clear c45b0
                     try clear c46
                     try clear c46b0
                     try clear c46b1
                     try clear c48
                     try clear c48b0
                     try clear c49
                     try clear c49b0
                     try clear c50
                     try clear c50b0
                     try clear c51
                     try clear c51b0
                     try clear c52
                     try clear c52b0
                     try clear c52b1
                     try clear c53
                     try clear c54
                     try clear c55
                     try clear c60
                     try clear c60b0
                     try clear c60b1
                     try clear c62
                     try clear c63
                     try clear c64
                     try clear p64
                     try clear hcz11_0
                     try clear hcz11_1
                     try clear hcz16_0
                     try clear hcz16_1
                     try clear hcz16_2
                     try clear hcz17_0
                     try clear hcz17_1
                     try clear hcz19_0
                     try clear hcz19_1
                     try clear hcz34_0
                     try clear hcz34_1
                     try clear hcz34_2
                     try clear hcz37_0
                     try clear hcz37_1
                     try clear hcz37_2
                     try clear hcz56_0
                     try clear hcz56_1
                     try clear hcz65_0
                     try clear hcz65_1
                     try clear hfz11_0
                     try clear hfz11_1
                     try clear hfz16_0
                     try clear hfz16_1
                     try clear hfz16_2
                     try clear hfz17_0
                     try clear hfz17_1
                     try clear hfz19_0
                     try clear hfz19_1
                     try clear hfz34_0
                     try clear hfz34_1
                     try clear hfz34_2
                     try clear hfz37_0
                     try clear hfz37_1
                     try clear hfz37_2
                     try clear hfz56_0
                     try clear hfz56_1
                     try clear hfz65_0
                     try clear hfz65_1
                     try clear hx25_0
                     try clear hx406_0
                     try clear hx407_0
                     try clear hx408_0
                     try clear p2
                     try clear p25
                     try clear p406
                     try clear p407
                     try clear p408
                     try clear p6
                     try clear q2
                     try clear q25
                     try clear q406
                     try clear q407
                     try clear q408
                     obtain ⟨x7_4, x16_4, rfl, HA, HK4, HO_7, BK388, BK389, BK390, HI0, HK, HB⟩ := hrel
                     have hl7_4 := (Kd.R_reads' HO_7.out).1
                     rw [hl7_4] at HO_7
                     (try simp only [hl7_4])
                     (try simp only [hl7_4] at BK388)
                     (try simp only [hl7_4] at BK389)
                     (try simp only [hl7_4] at BK390)
                     cases gk with
                     | zero => exact absurd HA.out (by simp [spec_l03Tree.l3])
                     | succ k4 =>
                      have H := HA.out
                      clear HA
                      simp only [spec_l03Tree.l3] at H
                      by_cases c70 : x16_4 < (x7_4.length : Int)
                      ·rw [if_pos c70] at H
                       have c70b0 : decide (x16_4 < (x7_4.length : Int)) = true := decide_eq_true c70
                       clear c70
                       by_cases c71 : 0 ≤ x16_4
                       ·rw [if_pos c71] at H
                        have c71b0 : decide (0 ≤ x16_4) = true := decide_eq_true c71
                        clear c71
                        by_cases c72 : (rd x7_4 x16_4) = (rd x7_3 t405)
                        ·rw [if_pos c72] at H
                         have c72b0 : ((rd x7_4 x16_4) == (rd x7_3 t405)) = true := beq_iff_eq.mpr c72
                         have c72b1 : ((rd x7_4 x16_4) != (rd x7_3 t405)) = false := bne_eq_false_iff_eq.mpr c72
                         clear c72
                         by_cases c73 : 0 ≤ t404
                         ·rw [if_pos c73] at H
                          have c73b0 : decide (0 ≤ t404) = true := decide_eq_true c73
                          clear c73
                          by_cases c74 : t404 < (x7_4.length : Int)
                          ·rw [if_pos c74] at H
                           have c74b0 : decide (t404 < (x7_4.length : Int)) = true := decide_eq_true c74
                           clear c74
                           obtain ⟨y411, hy411⟩ : ∃ y_ : List Int, y_ = (x7_4.set (x16_4 : Int).toNat (rd x7_4 t404)) := ⟨_, rfl⟩
                           replace H : (spec_l03Tree.l3 k4 t391 y411 t397 x10_2 x11_3 t404 (rd x7_3 t405) (wrap64 (x16_4 + 1)) s0_0 t401 t402 a1_0 a1_1 a1_0 a1_1 (Go.bits .or .i64 x391002_3 (ji61))) = some (r1, r2, r3, r4, r5) := by first | (rw [hy411]; with_reducible exact H) | (have H2_ := (Option.bind_some _ _).symm.trans H; rw [hy411]; with_reducible exact H2_) | (have H2_ := (Option.bind_some _ _).symm.trans H; with_reducible exact H2_) | with_reducible exact H | (rw [hy411]; exact H) | exact H
                           have Ny411 := aK hy411
                           clear hy411
                           have H' := aK H
                           clear H
                           have p409 : 0 ≤ (x16_4 : Int) := of_decide_eq_true (by first | (with_reducible assumption) | assumption)
                           have q409 : x16_4 < (x7_4.length : Int) := of_decide_eq_true (by first | (with_reducible assumption) | assumption)
                           obtain ⟨ad409, e409, hx409_0⟩ := Kd.at_int (Kd.R_reads' HO_7.out).2.2 x16_4 p409 q409
                           obtain rfl : ad406 = ad409 := (by injection e409)
                           replace p409 := eq_true p409
                           replace q409 := eq_true q409
                           have p410 : 0 ≤ (t404 : Int) := of_decide_eq_true (by first | (with_reducible assumption) | assumption)
                           have q410 : t404 < (x7_4.length : Int) := of_decide_eq_true (by first | (with_reducible assumption) | assumption)
                           obtain ⟨ad410, e410, hx410_0⟩ := Kd.at_int (Kd.R_reads' HO_7.out).2.2 t404 p410 q410
                           obtain rfl : ad406 = ad410 := (by injection e410)
                           replace p410 := eq_true p410
                           replace q410 := eq_true q410
                           have p75 : 0 ≤ (x16_4 : Int) := of_decide_eq_true (by first | (with_reducible assumption) | assumption)
                           have q75 : (x16_4 : Int) < ((x7_4.length : Int) : Int) := of_decide_eq_true (by first | (with_reducible assumption) | assumption)
                           obtain ⟨go75, co75, eo75, gb75, gl75, cl75, HG75⟩ := Kd.R_form HO_7.out (by omega)
                           (first | cases eo75 | (injection eo75 with ea_ en_ ec_; (first | subst ea_ | (injection ea_ with ea_; subst ea_)); subst ec_; clear en_))
                           have GB75 := aK gb75
                           have GG75 := aK HG75
                           clear gb75 gl75 HG75
                           (first | simp only [add_plain] at hx406_0 | skip)
                           (first | simp only [add_plain] at hx407_0 | skip)
                           (first | simp only [add_plain] at hx408_0 | skip)
                           (first | simp only [add_plain] at hx409_0 | skip)
                           (first | simp only [add_plain] at hx410_0 | skip)
                           obtain ⟨hx75_0, hf75_0⟩ := Kd.R_celln 0 HO_7.out (x16_4 : Int) p75 q75
                           replace p75 := eq_true p75
                           replace q75 := eq_true q75
                           have HP76 := Kd.R_putg HO_7.out (x16_4 : Int) (rd x7_4 t404)
                           go_wp2_with (first | ((with_reducible refine gate_store (t := 3) (p := 104) rfl ?_); refine store_event (t := 3) (p := 104) (v := ?vo_w77) (w1 := (wr.setCell ⟨go75, (x16_4 : Int).toNat, none⟩ (.int .i64 (rd x7_4 t404)))) ?hg ?ho ?hn ?hr ?_; (case ho => rfl); (case hg => rfl); (case hn => rfl); (case hr => first | (go_simp; done) | (go_simp; rfl)); intro w77 hw; have hg : wr.grownBy w77 (some go75) := (by rw [hw]; exact HP76.2); have hp_ : Kd.R (Kd.int .i64) 3 w77 w.heap.size (fun _ => True) (.slice (some ⟨go75, 0, none⟩) x7_4.length co40) y411 := (by rw [hw, Ny411.out]; exact HP76.1); clear HP76; replace BK388 := aK (blk_grown (g := gb388) (o := .cells #[.int .i64 a1_0, .int .i64 a1_1] 28 (0, 0)) (zK BK388) hg (Kd.R_ne HO_7.out BK388.out (by decide))); replace BK389 := aK (blk_grown (g := gb389) (o := .cells #[.int .i64 0, .int .i64 0, .int .i64 0] 30 (0, 0)) (zK BK389) hg (Kd.R_ne HO_7.out BK389.out (by decide))); replace BK390 := aK (blk_grown (g := gb390) (o := .cells #[.int .i64 a1_0, .int .i64 a1_1, .int .i64 (Go.bits .or .i64 x391002_3 (ji61))] 30 (0, 0)) (zK BK390) hg (Kd.R_ne HO_7.out BK390.out (by decide))); replace HI0 := aK (IsS94.grown (show IsS94 w0 _ g s0_0 t401 t402 from by repeat (first | (with_reducible first | exact HI0.out | apply IsS94.alloc | apply IsS94.drewN | apply IsS94.drew | apply IsS94.set_1 | apply IsS94.set_2 | refine IsS94.far ?_ NB0_388.out _ | refine IsS94.far ?_ NB0_389.out _ | refine IsS94.far ?_ NB0_390.out _) | exact HI0.out)) hg (IsS94.own_ne HI0.out HO_7.out (by decide))); replace HB := aK ((by rw [hw]; exact bSt (HB.out) (Nat.le_trans HL.out GB75.out) : Below w0.heap.size w0 w77)); replace HK := aK (KeepBut.trans (by repeat (first | (with_reducible first | exact HK.out | apply KeepBut.set_ | apply keep_drewN | apply keep_drew | apply keep_alloc | refine keep_far ?_ GW388.out _ | refine keep_far ?_ GW389.out _ | refine keep_far ?_ GW390.out _) | exact HK.out)) (KeepBut.of_grown hg g) (Kd.R_base2 HO_7.out)); replace HO_7 := aK (hp_); clear hg hw hp_))
                           (try simp only [← hl7_4])
                           (try simp only [add_plain] at *)
                           go_roundg k4
                           case measure => have := HK1.out; have := HK2.out; have := HK3.out; have := HK4.out; omega
                           case rel => exact ⟨(y411), (wrap64 (x16_4 + 1)), (by first | rfl | (simp; done) | (simp [*]; done)), H', ⟨by have := HK1.out; have := HK2.out; have := HK3.out; have := HK4.out; omega⟩, ⟨by (try simp only [hl7_3]); (try simp only [hl7_4]); (with_reducible repeat (first | apply Kd.R_alloc | apply Kd.R_drewN | apply Kd.R_drew)); exact HO_7.out⟩, ⟨by (try simp only [hl7_3]); (try simp only [hl7_4]); (with_reducible repeat (first | refine kDN ?_ _ | refine kD ?_ | refine kA ?_ _)); exact BK388.out⟩, ⟨by (try simp only [hl7_3]); (try simp only [hl7_4]); (with_reducible repeat (first | refine kDN ?_ _ | refine kD ?_ | refine kA ?_ _)); exact BK389.out⟩, ⟨by (try simp only [hl7_3]); (try simp only [hl7_4]); (with_reducible repeat (first | refine kDN ?_ _ | refine kD ?_ | refine kA ?_ _)); exact BK390.out⟩, ⟨by repeat (first | (with_reducible first | exact HI0.out | apply IsS94.alloc | apply IsS94.drewN | apply IsS94.drew | apply IsS94.set_1 | apply IsS94.set_2 | refine IsS94.far ?_ NB0_388.out _ | refine IsS94.far ?_ NB0_389.out _ | refine IsS94.far ?_ NB0_390.out _) | exact HI0.out)⟩, ⟨by repeat (first | (with_reducible first | exact HK.out | apply KeepBut.set_ | apply keep_drewN | apply keep_drew | apply keep_alloc | refine keep_far ?_ GW388.out _ | refine keep_far ?_ GW389.out _ | refine keep_far ?_ GW390.out _) | exact HK.out)⟩, ⟨by repeat (first | (with_reducible first | exact HB.out | apply bAl | apply bDN | apply bD1 | refine bSt ?_ (IsS94.ge HI0.out) | refine bSt ?_ GE388.out | refine bSt ?_ GE389.out | refine bSt ?_ GE390.out) | exact HB.out)⟩⟩
                          ·rw [if_neg c74] at H
                           exact absurd H (by simp)
                         ·rw [if_neg c73] at H
                          exact absurd H (by simp)
                        ·rw [if_neg c72] at H
                         have c72b0 : ((rd x7_4 x16_4) == (rd x7_3 t405)) = false := beq_eq_false_iff_ne.mpr c72
                         have c72b1 : ((rd x7_4 x16_4) != (rd x7_3 t405)) = true := bne_iff_ne.mpr c72
                         have H' := aK H
                         clear H
                         have p409 : 0 ≤ (x16_4 : Int) := of_decide_eq_true (by first | (with_reducible assumption) | assumption)
                         have q409 : x16_4 < (x7_4.length : Int) := of_decide_eq_true (by first | (with_reducible assumption) | assumption)
                         obtain ⟨ad409, e409, hx409_0⟩ := Kd.at_int (Kd.R_reads' HO_7.out).2.2 x16_4 p409 q409
                         obtain rfl : ad406 = ad409 := (by injection e409)
                         replace p409 := eq_true p409
                         replace q409 := eq_true q409
                         go_wp2
                         (try simp only [← hl7_4])
                         (try simp only [add_plain] at *)
                         go_roundg k4
                         case measure => have := HK1.out; have := HK2.out; have := HK3.out; have := HK4.out; omega
                         case rel => exact ⟨(x7_4), (wrap64 (x16_4 + 1)), (by first | rfl | (simp; done) | (simp [*]; done)), H', ⟨by have := HK1.out; have := HK2.out; have := HK3.out; have := HK4.out; omega⟩, ⟨by (try simp only [hl7_3]); (try simp only [hl7_4]); (with_reducible repeat (first | apply Kd.R_alloc | apply Kd.R_drewN | apply Kd.R_drew)); exact HO_7.out⟩, ⟨by (try simp only [hl7_3]); (try simp only [hl7_4]); (with_reducible repeat (first | refine kDN ?_ _ | refine kD ?_ | refine kA ?_ _)); exact BK388.out⟩, ⟨by (try simp only [hl7_3]); (try simp only [hl7_4]); (with_reducible repeat (first | refine kDN ?_ _ | refine kD ?_ | refine kA ?_ _)); exact BK389.out⟩, ⟨by (try simp only [hl7_3]); (try simp only [hl7_4]); (with_reducible repeat (first | refine kDN ?_ _ | refine kD ?_ | refine kA ?_ _)); exact BK390.out⟩, ⟨by repeat (first | (with_reducible first | exact HI0.out | apply IsS94.alloc | apply IsS94.drewN | apply IsS94.drew | apply IsS94.set_1 | apply IsS94.set_2 | refine IsS94.far ?_ NB0_388.out _ | refine IsS94.far ?_ NB0_389.out _ | refine IsS94.far ?_ NB0_390.out _) | exact HI0.out)⟩, ⟨by repeat (first | (with_reducible first | exact HK.out | apply KeepBut.set_ | apply keep_drewN | apply keep_drew | apply keep_alloc | refine keep_far ?_ GW388.out _ | refine keep_far ?_ GW389.out _ | refine keep_far ?_ GW390.out _) | exact HK.out)⟩, ⟨by repeat (first | (with_reducible first | exact HB.out | apply bAl | apply bDN | apply bD1 | refine bSt ?_ (IsS94.ge HI0.out) | refine bSt ?_ GE388.out | refine bSt ?_ GE389.out | refine bSt ?_ GE390.out) | exact HB.out)⟩⟩
                       ·rw [if_neg c71] at H
                        exact absurd H (by simp)
                      ·rw [if_neg c70] at H
                       have c70b0 : decide (x16_4 < (x7_4.length : Int)) = false := decide_eq_false c70
                       clear c70
                       have H' := aK H
                       clear H
                       go_wp2
                       (try simp only [← hl7_3, ← hl7_4])
                       (try simp only [add_plain] at *)
                       go_roundg k4
                       case measure => have := HK1.out; have := HK2.out; have := HK3.out; have := HK4.out; omega
                       case rel => exact ⟨(x7_4), (wrap64 (x11_3 + 1)), ((Go.bits .or .i64 x391002_3 (ji61))), (by first | rfl | (simp; done) | (simp [*]; done)), H', ⟨by have := HK1.out; have := HK2.out; have := HK3.out; have := HK4.out; omega⟩, ⟨by (try simp only [hl7_3]); (try simp only [hl7_4]); (with_reducible repeat (first | apply Kd.R_alloc | apply Kd.R_drewN | apply Kd.R_drew)); exact HO_7.out⟩, ⟨by (try simp only [hl7_3]); (try simp only [hl7_4]); (with_reducible repeat (first | refine kDN ?_ _ | refine kD ?_ | refine kA ?_ _)); exact BK388.out⟩, ⟨by (try simp only [hl7_3]); (try simp only [hl7_4]); (with_reducible repeat (first | refine kDN ?_ _ | refine kD ?_ | refine kA ?_ _)); exact BK389.out⟩, ⟨by (try simp only [hl7_3]); (try simp only [hl7_4]); (with_reducible repeat (first | refine kDN ?_ _ | refine kD ?_ | refine kA ?_ _)); exact BK390.out⟩, ⟨by repeat (first | (with_reducible first | exact HI0.out | apply IsS94.alloc | apply IsS94.drewN | apply IsS94.drew | apply IsS94.set_1 | apply IsS94.set_2 | refine IsS94.far ?_ NB0_388.out _ | refine IsS94.far ?_ NB0_389.out _ | refine IsS94.far ?_ NB0_390.out _) | exact HI0.out)⟩, ⟨by repeat (first | (with_reducible first | exact HK.out | apply KeepBut.set_ | apply keep_drewN | apply keep_drew | apply keep_alloc | refine keep_far ?_ GW388.out _ | refine keep_far ?_ GW389.out _ | refine keep_far ?_ GW390.out _) | exact HK.out)⟩, ⟨by repeat (first | (with_reducible first | exact HB.out | apply bAl | apply bDN | apply bD1 | refine bSt ?_ (IsS94.ge HI0.out) | refine bSt ?_ GE388.out | refine bSt ?_ GE389.out | refine bSt ?_ GE390.out) | exact HB.out)⟩⟩
                   ·rw [if_neg c60] at H
                    exact absurd H (by simp)
                 ·rw [if_neg c51] at H
                  exact absurd H (by simp)
                ·rw [if_neg c50] at H
                 exact absurd H (by simp)
               ·rw [if_neg c49] at H
                exact absurd H (by simp)
              ·rw [if_neg c48] at H
               exact absurd H (by simp)
            ·rw [if_neg c45] at H
             have c45b0 : decide (x11_3 < t391) = false := decide_eq_false c45
             clear c45
             simp only [Option.some.injEq, Prod.mk.injEq] at H
             obtain ⟨rfl, rfl, rfl, rfl, rfl⟩ := H
             have hnb78 := NB390_388.out
             have hnc78 := NB388_390.out
             have hnb79 := NB390_389.out
             have hnc79 := NB389_390.out
             have hnb80 := NB390_0.out
             have hnc80 := NB0_390.out
             obtain ⟨hcz81_0, hcz81_1, hcz81_2, hfz81_0, hfz81_1, hfz81_2⟩ := cl3 BK390.out
             have hnb82 := NB389_388.out
             have hnc82 := NB388_389.out
             have hnb83 := NB389_0.out
             have hnc83 := NB0_389.out
             obtain ⟨hcz84_0, hcz84_1, hcz84_2, hfz84_0, hfz84_1, hfz84_2⟩ := cl3 BK389.out
             go_wp2
             refine bodyPost_ret (results_cell_row rfl _ _ gb389 30 #[.int .i64 a1_0, .int .i64 a1_1, .int .i64 x391002_3] (0, 0) _ rfl (by (with_reducible repeat (first | refine kDN ?_ _ | refine kD ?_ | refine kA ?_ _)); refine blk_put (cs := #[.int .i64 a1_0, .int .i64 a1_1, .int .i64 0]) ?_ 2 _ rfl; (with_reducible repeat (first | refine kDN ?_ _ | refine kD ?_ | refine kA ?_ _)); refine blk_put (cs := #[.int .i64 a1_0, .int .i64 0, .int .i64 0]) ?_ 1 _ rfl; (with_reducible repeat (first | refine kDN ?_ _ | refine kD ?_ | refine kA ?_ _)); refine blk_put (cs := #[.int .i64 0, .int .i64 0, .int .i64 0]) ?_ 0 _ rfl; (with_reducible repeat (first | refine kDN ?_ _ | refine kD ?_ | refine kA ?_ _)); exact BK389.out) Try.underlying30 rfl (by kernel_rfl)) rfl ?_
             exact ⟨by first | rfl | (simp [errW_none, errW_some] <;> rfl) | (simp [*, errW_none, errW_some] <;> rfl), by repeat (first | (with_reducible first | exact HI0.out | apply IsS94.alloc | apply IsS94.drewN | apply IsS94.drew | apply IsS94.set_1 | apply IsS94.set_2 | refine IsS94.far ?_ NB0_388.out _ | refine IsS94.far ?_ NB0_389.out _ | refine IsS94.far ?_ NB0_390.out _) | exact HI0.out), by repeat (first | (with_reducible first | exact HB.out | apply bAl | apply bDN | apply bD1 | refine bSt ?_ (IsS94.ge HI0.out) | refine bSt ?_ GE388.out | refine bSt ?_ GE389.out | refine bSt ?_ GE390.out) | exact HB.out), by repeat (first | (with_reducible first | exact HK.out | apply KeepBut.set_ | apply keep_drewN | apply keep_drew | apply keep_alloc | refine keep_far ?_ GW388.out _ | refine keep_far ?_ GW389.out _ | refine keep_far ?_ GW390.out _) | exact HK.out)⟩
  ·rw [if_neg c6] at H
   exact absurd H (by simp)
 ·rw [if_neg c5] at H
  exact absurd H (by simp)
end Go.Proofs.Ytccjanhdnheclaa.F
end

section
namespace Go.Proofs.Ytccjanhdnheclaa.F
open Go.RowKit Go.Proofs.YtccjanhdnheclaaW.PrintWords Go.Proofs.YtccjanhdnheclaaW.PrintLast Go.Proofs.YtccjanhdnheclaaW.PrintMore
set_option linter.unusedVariables false
set_option linter.unusedSimpArgs false
attribute [local go_sem] max2_int min2_int max_two min_two
set_option maxRecDepth 20000
set_option maxHeartbeats 4000000
open Nat renaming reduceAdd → p1, reduceSub → p2, reduceMul → p3, reduceDiv → p4, reduceBNe → p5, reduceBEq → p6, reduceEqDiff → p7, reduceLeDiff → p8, reduceLT → p9
open Int renaming reduceLE → p10, reduceLT → p11, reduceEq → p12
theorem spec_GapAt.ctr {k : Nat} {a0_0 : Int} {a0_1 : Int} {a1 : Int} {a2 : Int} {r : Int} (h : spec_GapAt.f k a0_0 a0_1 a1 a2 = some r) : Ctr Try.prog 52 [.ag [.v (.int .i64 a0_0), .v (.int .i64 a0_1)], .v (.int .i64 a1), .v (.int .i64 a2)] (.v (.int .i64 r)) := by
  refine Ctr_of tyOk hm Try.func52 rfl rfl (by kernel_rfl) (n := 38) (rv := [.tmp 6]) rfl rfl ?_
  simp only [W, List.replicate]
  unfold spec_GapAt.f at h
  replace h := bnd h; obtain ⟨t1, A, h⟩ := h
  try simp only [W, p1, p2, p3, p4, p5, p6, p7, p8, p9, p10, p11, p12]
  refine callR (spec_Neighbor.ctr A) ?_
  replace h := ifS h; rcases h with ⟨c2, h⟩ | ⟨c2, h⟩
  · cases h
    try simp only [W, c2, p1, p2, p3, p4, p5, p6, p7, p8, p9, p10, p11, p12]
  · replace h := ifS h; rcases h with ⟨c3, h⟩ | ⟨c3, h⟩
    · replace h := ifM h; obtain ⟨c4, h⟩ := h
      cases h
      try simp only [W, c2, eq_true c3, c4, p1, p2, p3, p4, p5, p6, p7, p8, p9, p10, p11, p12]
    · replace h := ifS h; rcases h with ⟨c4, h⟩ | ⟨c4, h⟩
      · replace h := ifM h; obtain ⟨c5, h⟩ := h
        cases h
        try simp only [W, c2, c3, eq_true c4, c5, p1, p2, p3, p4, p5, p6, p7, p8, p9, p10, p11, p12]
      · replace h := bnd h; obtain ⟨t5, A, h⟩ := h
        try simp only [W, c2, c3, c4, p1, p2, p3, p4, p5, p6, p7, p8, p9, p10, p11, p12]
        refine callR (spec_l02East.ctr A) ?_
        cases h
        try simp only [W, c2, c3, c4, p1, p2, p3, p4, p5, p6, p7, p8, p9, p10, p11, p12]
theorem spec_Step.ctr {k : Nat} {a0_0 : Int} {a0_1 : Int} {a0_2 : Int} {a1 : Int} {a2 : Int} {r : Int} (h : spec_Step.f k a0_0 a0_1 a0_2 a1 a2 = some r) : Ctr Try.prog 21 [.ag [.v (.int .i64 a0_0), .v (.int .i64 a0_1), .v (.int .i64 a0_2)], .v (.int .i64 a1), .v (.int .i64 a2)] (.v (.int .i64 r)) := by
  refine Ctr_of tyOk hm Try.func21 rfl rfl (by kernel_rfl) (n := 22) (rv := [.tmp 6]) rfl rfl ?_
  simp only [W, List.replicate]
  unfold spec_Step.f at h
  replace h := bnd h; obtain ⟨t1, A, h⟩ := h
  try simp only [W, p1, p2, p3, p4, p5, p6, p7, p8, p9, p10, p11, p12]
  refine callR (spec_MazeOk.ctr A) ?_
  replace h := ifT h; rcases h with ⟨rfl, h⟩ | ⟨rfl, h⟩
  · replace h := bnd h; obtain ⟨t3, A, h⟩ := h
    try simp only [W, p1, p2, p3, p4, p5, p6, p7, p8, p9, p10, p11, p12]
    refine callR (spec_GapAt.ctr A) ?_
    replace h := bnd h; obtain ⟨t4, A, h⟩ := h
    try simp only [W, p1, p2, p3, p4, p5, p6, p7, p8, p9, p10, p11, p12]
    refine callR (spec_IsPassage.ctr A) ?_
    replace h := ifT h; rcases h with ⟨rfl, h⟩ | ⟨rfl, h⟩
    · replace h := bnd h; obtain ⟨t6, A, h⟩ := h
      try simp only [W, p1, p2, p3, p4, p5, p6, p7, p8, p9, p10, p11, p12]
      refine callR (spec_Neighbor.ctr A) ?_
      cases h
      try simp only [W, p1, p2, p3, p4, p5, p6, p7, p8, p9, p10, p11, p12]
    · cases h
      try simp only [W, p1, p2, p3, p4, p5, p6, p7, p8, p9, p10, p11, p12]
  · cases h
    try simp only [W, p1, p2, p3, p4, p5, p6, p7, p8, p9, p10, p11, p12]
theorem impl_GridOk.ctr {a0_0 : Int} {a0_1 : Int} {r : Bool} (h : impl_GridOk.f a0_0 a0_1 = some r) : Ctr Try.prog 71 [.ag [.v (.int .i64 a0_0), .v (.int .i64 a0_1)]] (.v (.bool r)) := by
  refine Ctr_of tyOk hm Try.func71 rfl rfl (by kernel_rfl) (n := 20) (rv := [.tmp 2]) rfl rfl ?_
  simp only [W, List.replicate]
  unfold impl_GridOk.f at h
  replace h := ifS h; rcases h with ⟨c1, h⟩ | ⟨c1, h⟩
  · replace h := ifS h; rcases h with ⟨c2, h⟩ | ⟨c2, h⟩
    · replace h := ifS h; rcases h with ⟨c3, h⟩ | ⟨c3, h⟩
      · cases h
        try simp only [W, c1, c2, c3, p1, p2, p3, p4, p5, p6, p7, p8, p9, p10, p11, p12]
      · cases h
        try simp only [W, c1, c2, c3, p1, p2, p3, p4, p5, p6, p7, p8, p9, p10, p11, p12]
    · cases h
      try simp only [W, c1, c2, p1, p2, p3, p4, p5, p6, p7, p8, p9, p10, p11, p12]
  · cases h
    try simp only [W, c1, p1, p2, p3, p4, p5, p6, p7, p8, p9, p10, p11, p12]
theorem impl_CountGaps.ctr {a0_0 : Int} {a0_1 : Int} {r : Int} (h : impl_CountGaps.f a0_0 a0_1 = some r) : Ctr Try.prog 72 [.ag [.v (.int .i64 a0_0), .v (.int .i64 a0_1)]] (.v (.int .i64 r)) := by
  refine Ctr_of tyOk hm Try.func72 rfl rfl (by kernel_rfl) (n := 18) (rv := [.tmp 2]) rfl rfl ?_
  simp only [W, List.replicate]
  unfold impl_CountGaps.f at h
  replace h := bnd h; obtain ⟨t1, A, h⟩ := h
  try simp only [W, p1, p2, p3, p4, p5, p6, p7, p8, p9, p10, p11, p12]
  refine callR (impl_GridOk.ctr A) ?_
  replace h := ifT h; rcases h with ⟨rfl, h⟩ | ⟨rfl, h⟩
  · cases h
    try simp only [W, p1, p2, p3, p4, p5, p6, p7, p8, p9, p10, p11, p12]
  · cases h
    try simp only [W, p1, p2, p3, p4, p5, p6, p7, p8, p9, p10, p11, p12]
end Go.Proofs.Ytccjanhdnheclaa.F
end

section
namespace Go.Proofs.Ytccjanhdnheclaa.F
open Go.RowKit Go.Proofs.YtccjanhdnheclaaW.PrintWords Go.Proofs.YtccjanhdnheclaaW.PrintLast Go.Proofs.YtccjanhdnheclaaW.PrintMore
set_option linter.unusedVariables false
set_option linter.unusedSimpArgs false
attribute [local go_sem] max2_int min2_int max_two min_two
set_option maxRecDepth 20000
set_option maxHeartbeats 4000000
open Nat renaming reduceAdd → p1, reduceSub → p2, reduceMul → p3, reduceDiv → p4, reduceBNe → p5, reduceBEq → p6, reduceEqDiff → p7, reduceLeDiff → p8, reduceLT → p9
open Int renaming reduceLE → p10, reduceLT → p11, reduceEq → p12
theorem impl_MazeOk.ctr {a0_0 : Int} {a0_1 : Int} {a0_2 : Int} {r : Bool} (h : impl_MazeOk.f a0_0 a0_1 a0_2 = some r) : Ctr Try.prog 38 [.ag [.v (.int .i64 a0_0), .v (.int .i64 a0_1), .v (.int .i64 a0_2)]] (.v (.bool r)) := by
  refine Ctr_of tyOk hm Try.func38 rfl rfl (by kernel_rfl) (n := 19) (rv := [.tmp 2]) rfl rfl ?_
  simp only [W, List.replicate]
  unfold impl_MazeOk.f at h
  replace h := bnd h; obtain ⟨t1, A, h⟩ := h
  try simp only [W, p1, p2, p3, p4, p5, p6, p7, p8, p9, p10, p11, p12]
  refine callR (impl_GridOk.ctr A) ?_
  replace h := ifT h; rcases h with ⟨rfl, h⟩ | ⟨rfl, h⟩
  · replace h := ifS h; rcases h with ⟨c3, h⟩ | ⟨c3, h⟩
    · replace h := bnd h; obtain ⟨t4, A, h⟩ := h
      try simp only [W, c3, p1, p2, p3, p4, p5, p6, p7, p8, p9, p10, p11, p12]
      refine callR (impl_CountGaps.ctr A) ?_
      replace h := ifN h; obtain ⟨c5, h⟩ := h
      cases h
      try simp only [W, c3, c5, p1, p2, p3, p4, p5, p6, p7, p8, p9, p10, p11, p12]
    · cases h
      try simp only [W, c3, p1, p2, p3, p4, p5, p6, p7, p8, p9, p10, p11, p12]
  · cases h
    try simp only [W, p1, p2, p3, p4, p5, p6, p7, p8, p9, p10, p11, p12]
theorem impl_MazeOk.calls (a0_0 : Int) (a0_1 : Int) (a0_2 : Int) (r : Bool) (w : World) (h : impl_MazeOk.f a0_0 a0_1 a0_2 = some r) :
    Calls Try.prog 38 #[.agg #[.int .i64 a0_0, .int .i64 a0_1, .int .i64 a0_2]] w fun e w' => e = .returned (.bool r) ∧ Below w.heap.size w w' := by
  refine ((impl_MazeOk.ctr h).2 w [.agg #[.int .i64 a0_0, .int .i64 a0_1, .int .i64 a0_2]] (by simp only [RepL, Rep]; exact ⟨_, _, rfl, ⟨_, rfl, _, _, rfl, rfl, _, _, rfl, rfl, _, _, rfl, rfl, rfl⟩, rfl⟩)).mono ?_
  rintro _ _ ⟨y, L, rfl, hR, _, hb⟩
  exact ⟨congrArg Ending.returned (RepR_pln rfl hR).1, hb⟩
set_option maxHeartbeats 2000000 in
theorem slices_IndexFunc_int.calls (p : Int → Bool) (g : Nat) (lb : Array Value) (eg : ∀ args w, (callFunc g args).run Try.prog w = .ok (.enter g args) w) (A0 : Option Addr) (c0 : Nat) (l0 : List Int) (w : World) (hr0 : Kd.C (Kd.int .i64) w A0 l0.length l0)
  (hp : ∀ (W : World) (x : Int), x ∈ l0 → Below w.heap.size w W → Calls Try.prog g (#[.int .i64 x] ++ lb) W fun e w' => e = .returned (.bool (p x)) ∧ Below w.heap.size w w') :
  Calls Try.prog 101 #[.slice A0 l0.length c0, .func (.func g) #[] lb] w fun e w' => e = .returned (.int .i64 (idxF p l0)) ∧ Below w.heap.size w w' := by
 have hn : l0.length ≤ 9223372036854775807 := hr0.2.1
 go_enter Try.func101, Try.ntmps101
 go_wp2
 go_loopg [5, 8] l0.length (fun gg _ s8 wr => ∃ kk : Nat, kk ≤ l0.length ∧ l0.length - kk ≤ gg ∧ s8 = .int .i64 kk ∧ Aside0 (Below w.heap.size w wr) ∧ Aside0 (∀ j, j < kk → p (rd l0 (j : Int)) = false))
 case atStart => exact ⟨0, Nat.zero_le _, by omega, rfl, ⟨Below.refl _ w⟩, ⟨fun j hj => absurd hj (Nat.not_lt_zero _)⟩⟩
 case round =>
  obtain ⟨kk, hkk, hg, rfl, BW, Av⟩ := hrel
  by_cases hlt : kk < l0.length
  ·have hltz : (kk : Int) < (l0.length : Int) := by omega
   have hz : (0 : Int) ≤ (kk : Int) := by omega
   obtain ⟨ad, rfl, hx⟩ := Kd.at_int (Kd.C_below hr0 BW.out) (kk : Int) hz hltz
   rw [Int.toNat_natCast] at hx
   have hmem : rd l0 (kk : Int) ∈ l0 := rd_mem hlt
   have hcall := hp wr (rd l0 (kk : Int)) hmem BW.out
   have HM := aK hmem
   clear hmem hp
   generalize hy : rd l0 (kk : Int) = y at hx hcall
   have HY := aK hy
   clear hy
   cases hq : p y with
   | true =>
    rw [hq] at hcall
    have HQ := aK hq
    clear hq
    go_wp2_with (go_at_fn g; refine hcall.mono ?_; rintro e w' ⟨rfl, hb'⟩)
    go_ret
    refine ⟨?_, hb'⟩
    rw [idxF_hit p l0 kk hlt (by rw [rd_nat l0 kk] at HY; rw [HY.out]; exact HQ.out) (fun j hj => by have := Av.out j hj; rwa [rd_nat l0 j] at this)]
    all_goals rfl
   | false =>
    rw [hq] at hcall
    have HQ := aK hq
    clear hq
    go_wp2_with (go_at_fn g; refine hcall.mono ?_; rintro e w' ⟨rfl, hb'⟩)
    go_roundg (l0.length - (kk + 1))
    case measure => omega
    case rel =>
     refine ⟨kk + 1, by omega, by omega, by go_num, ⟨hb'⟩, ⟨fun j hj => ?_⟩⟩
     by_cases e : j = kk
     ·subst e
      rw [HY.out]; exact HQ.out
     ·exact Av.out j (by omega)
  ·have hltz : ¬ (kk : Int) < (l0.length : Int) := by omega
   have : kk = l0.length := by omega
   subst this
   go_wp2
   go_ret
   refine ⟨?_, BW.out⟩
   rw [idxF_miss p l0 (fun j hj => by have := Av.out j hj; rwa [rd_nat l0 j] at this)]
   all_goals rfl
set_option maxHeartbeats 2000000 in
theorem slices_ContainsFunc_int.calls (p : Int → Bool) (g : Nat) (lb : Array Value) (eg : ∀ args w, (callFunc g args).run Try.prog w = .ok (.enter g args) w) (A0 : Option Addr) (c0 : Nat) (l0 : List Int) (w : World) (hr0 : Kd.C (Kd.int .i64) w A0 l0.length l0)
  (hp : ∀ (W : World) (x : Int), x ∈ l0 → Below w.heap.size w W → Calls Try.prog g (#[.int .i64 x] ++ lb) W fun e w' => e = .returned (.bool (p x)) ∧ Below w.heap.size w w') :
  Calls Try.prog 73 #[.slice A0 l0.length c0, .func (.func g) #[] lb] w fun e w' => e = .returned (.bool (l0.any p)) ∧ Below w.heap.size w w' := by
 rw [show l0.any p = decide (0 ≤ idxF p l0) from (idxF_any p l0).symm]
 go_enter Try.func73, Try.ntmps73
 go_wp2_with (go_at_call 101; refine (slices_IndexFunc_int.calls p g lb eg A0 c0 l0 _ hr0 hp).mono ?_; rintro e w' ⟨rfl, hb'⟩)
 go_ret
 exact ⟨rfl, hb'⟩
theorem impl_CountCells.ctr {a0_0 : Int} {a0_1 : Int} {r : Int} (h : impl_CountCells.f a0_0 a0_1 = some r) : Ctr Try.prog 40 [.ag [.v (.int .i64 a0_0), .v (.int .i64 a0_1)]] (.v (.int .i64 r)) := by
  refine Ctr_of tyOk hm Try.func40 rfl rfl (by kernel_rfl) (n := 10) (rv := [.tmp 2]) rfl rfl ?_
  simp only [W, List.replicate]
  unfold impl_CountCells.f at h
  replace h := bnd h; obtain ⟨t1, A, h⟩ := h
  try simp only [W, p1, p2, p3, p4, p5, p6, p7, p8, p9, p10, p11, p12]
  refine callR (impl_GridOk.ctr A) ?_
  replace h := ifT h; rcases h with ⟨rfl, h⟩ | ⟨rfl, h⟩
  · cases h
    try simp only [W, p1, p2, p3, p4, p5, p6, p7, p8, p9, p10, p11, p12]
  · cases h
    try simp only [W, p1, p2, p3, p4, p5, p6, p7, p8, p9, p10, p11, p12]
theorem impl_isCell.ctr {a0_0 : Int} {a0_1 : Int} {a1 : Int} {r : Bool} (h : impl_isCell.f a0_0 a0_1 a1 = some r) : Ctr Try.prog 93 [.ag [.v (.int .i64 a0_0), .v (.int .i64 a0_1)], .v (.int .i64 a1)] (.v (.bool r)) := by
  refine Ctr_of tyOk hm Try.func93 rfl rfl (by kernel_rfl) (n := 11) (rv := [.tmp 4]) rfl rfl ?_
  simp only [W, List.replicate]
  unfold impl_isCell.f at h
  replace h := ifS h; rcases h with ⟨c1, h⟩ | ⟨c1, h⟩
  · replace h := bnd h; obtain ⟨t2, A, h⟩ := h
    try simp only [W, c1, p1, p2, p3, p4, p5, p6, p7, p8, p9, p10, p11, p12]
    refine callR (impl_CountCells.ctr A) ?_
    cases h
    try simp only [W, c1, p1, p2, p3, p4, p5, p6, p7, p8, p9, p10, p11, p12]
  · cases h
    try simp only [W, c1, p1, p2, p3, p4, p5, p6, p7, p8, p9, p10, p11, p12]
theorem impl_isCell.calls (a0_0 : Int) (a0_1 : Int) (a1 : Int) (r : Bool) (w : World) (h : impl_isCell.f a0_0 a0_1 a1 = some r) :
    Calls Try.prog 93 #[.agg #[.int .i64 a0_0, .int .i64 a0_1], .int .i64 a1] w fun e w' => e = .returned (.bool r) ∧ Below w.heap.size w w' := by
  refine ((impl_isCell.ctr h).2 w [.agg #[.int .i64 a0_0, .int .i64 a0_1], .int .i64 a1] (by simp only [RepL, Rep]; exact ⟨_, _, rfl, ⟨_, rfl, _, _, rfl, rfl, _, _, rfl, rfl, rfl⟩, _, _, rfl, rfl, rfl⟩)).mono ?_
  rintro _ _ ⟨y, L, rfl, hR, _, hb⟩
  exact ⟨congrArg Ending.returned (RepR_pln rfl hR).1, hb⟩
set_option maxHeartbeats 2000000 in
theorem impl_isIn_1.calls (a b o : Int) (B : Nat) (W : World) (hB : W.heap[B]? = some (.cells #[.int .i64 a, .int .i64 b, .int .i64 o] 30 (0, 0))) (x : Int) (r : Bool) (h : impl_isCell.f a b x = some r) :
  Calls Try.prog 92 #[.int .i64 x, .pointer (some ⟨B, 0, none⟩)] W fun e w' => e = .returned (.bool (!r)) ∧ Below W.heap.size W w' := by
 have hu := Try.underlying30
 have hug := Try.underlying28
 have h0 : W.cell? ⟨B, 0, none⟩ = some (.int .i64 a) := (kC hB 0).trans rfl
 have h1 : W.cell? ⟨B, 1, none⟩ = some (.int .i64 b) := (kC hB 1).trans rfl
 have h2 : W.cell? ⟨B, 2, none⟩ = some (.int .i64 o) := (kC hB 2).trans rfl
 clear hB
 go_enter Try.func92, Try.ntmps92
 go_wp2_with (go_at_call 93; refine (impl_isCell.calls a b x r _ h).mono ?_; rintro e w' ⟨rfl, hb⟩)
 go_ret
 exact ⟨rfl, hb⟩
set_option maxHeartbeats 4000000 in
theorem impl_isIn.calls (a0_0 : Int) (a0_1 : Int) (a0_2 : Int) (A1 : Option Addr) (c1 : Nat) (l1 : List Int) (r : Bool) (w : World) (hr1 : Kd.C (Kd.int .i64) w A1 l1.length l1) (hc1 : l1.length ≤ c1) (h : impl_isIn.f a0_0 a0_1 a0_2 l1 = some r) :
  Calls Try.prog 61 #[.agg #[.int .i64 a0_0, .int .i64 a0_1, .int .i64 a0_2], .slice A1 l1.length c1] w fun e w' => e = .returned (.bool r) ∧ Below w.heap.size w w' := by
 have hu := Try.underlying30
 obtain ⟨b, hm, H⟩ := Option.bind_eq_some_iff.mp h
 clear h
 cases b with
 | false =>
  rw [if_neg Bool.false_ne_true] at H
  obtain rfl := Option.some.inj H
  go_enter Try.func61, Try.ntmps61
  go_wp2_with (go_at_call 38; refine (impl_MazeOk.calls a0_0 a0_1 a0_2 false _ hm).mono ?_; rintro e w' ⟨rfl, hb⟩)
  go_ret
  exact ⟨rfl, ((Below.refl _ w).alloc (Nat.le_refl _) _).trans (hb.mono (by simp))⟩
 | true =>
  rw [if_pos rfl] at H
  obtain ⟨hx, hv⟩ := allO_some H
  have eg : ∀ args w, (callFunc 92 args).run Try.prog w = .ok (.enter 92 args) w := enters_of Try.func92 (by kernel_rfl) rfl
  have hcon := fun (W : World) (hb : Below (w.heap.size + 1) (w.alloc (.cells #[.int .i64 a0_0, .int .i64 a0_1, .int .i64 a0_2] 30)) W) =>
   slices_ContainsFunc_int.calls (fun x => !((impl_isCell.f a0_0 a0_1 x).getD false)) 92 #[.pointer (some ⟨w.heap.size, 0, none⟩)] eg A1 c1 l1 W (Kd.C_below hr1 (((Below.refl _ w).alloc (Nat.le_refl _) _).trans (hb.mono (by simp)))) (fun W' x hxm hb' => by
    have hW := hb.trans (hb'.mono (by have := hb.size; simpa using this))
    obtain ⟨v, hv'⟩ := hx x hxm
    have hB : W'.heap[w.heap.size]? = some (.cells #[.int .i64 a0_0, .int .i64 a0_1, .int .i64 a0_2] 30 (0, 0)) := (hW.block w.heap.size (by omega)).trans (heap_alloc_new w _)
    refine (impl_isIn_1.calls a0_0 a0_1 a0_2 w.heap.size W' hB x v hv').mono ?_
    rintro e w' ⟨rfl, hb2⟩
    exact ⟨by rw [hv']; rfl, hb'.trans (hb2.mono hb'.size)⟩)
  clear hr1
  rw [hv]
  clear hv H
  generalize hg : (l1.any fun x => !((impl_isCell.f a0_0 a0_1 x).getD false)) = q at hcon ⊢
  clear hg hx eg
  go_enter Try.func61, Try.ntmps61
  go_wp2_with (first | (go_at_call 38; refine (impl_MazeOk.calls a0_0 a0_1 a0_2 true _ hm).mono ?_; rintro e w' ⟨rfl, hb⟩) | (go_at_call 73; refine (hcon _ (by simpa using hb)).mono ?_; rintro e w2 ⟨rfl, hb2⟩))
  go_ret
  exact ⟨rfl, (((Below.refl _ w).alloc (Nat.le_refl _) _).trans (hb.mono (by simp))).trans (hb2.mono (by have := hb.size; simp at this; omega))⟩
theorem impl_isIn.ctr {a0_0 : Int} {a0_1 : Int} {a0_2 : Int} {l1 : List Int} {r : Bool} (h : impl_isIn.f a0_0 a0_1 a0_2 l1 = some r) : Ctr Try.prog 61 [.ag [.v (.int .i64 a0_0), .v (.int .i64 a0_1), .v (.int .i64 a0_2)], .pr 1 (l1.map eI)] (.v (.bool r)) := by
  refine ⟨enters_of Try.func61 rfl rfl, fun w ys hys => ?_⟩
  simp only [RepL, Rep] at hys
  obtain ⟨_, _, rfl, ⟨_, rfl, _, _, rfl, rfl, _, _, rfl, rfl, _, _, rfl, rfl, rfl⟩, _, _, rfl, q1, rfl⟩ := hys
  obtain ⟨_, _, rfl, hr1, hc1⟩ := C_of_at E_eI q1
  refine (impl_isIn.calls _ _ _ _ _ _ _ w hr1 hc1 h).mono ?_
  rintro _ _ ⟨rfl, hb⟩
  exact ⟨_, [], rfl, (by first | (simp [RepR, RepRL]; done) | exact repR_vlu _ _ _ rfl), List.nodup_nil, (by first | exact hb | exact hb.below)⟩
theorem impl_isOpen.ctr {a0_0 : Int} {a0_1 : Int} {a0_2 : Int} {a1 : Int} {r : Bool} (h : impl_isOpen.f a0_0 a0_1 a0_2 a1 = some r) : Ctr Try.prog 86 [.ag [.v (.int .i64 a0_0), .v (.int .i64 a0_1), .v (.int .i64 a0_2)], .v (.int .i64 a1)] (.v (.bool r)) := by
  refine Ctr_of tyOk hm Try.func86 rfl rfl (by kernel_rfl) (n := 13) (rv := [.tmp 4]) rfl rfl ?_
  simp only [W, List.replicate]
  unfold impl_isOpen.f at h
  replace h := ifS h; rcases h with ⟨c1, h⟩ | ⟨c1, h⟩
  · replace h := ifN h; obtain ⟨c2, h⟩ := h
    cases h
    try simp only [W, c1, c2, p1, p2, p3, p4, p5, p6, p7, p8, p9, p10, p11, p12]
  · cases h
    try simp only [W, c1, p1, p2, p3, p4, p5, p6, p7, p8, p9, p10, p11, p12]
theorem impl_Neighbor.ctr {k : Nat} {a0_0 : Int} {a0_1 : Int} {a1 : Int} {a2 : Int} {r : Int} (h : impl_Neighbor.f k a0_0 a0_1 a1 a2 = some r) : Ctr Try.prog 88 [.ag [.v (.int .i64 a0_0), .v (.int .i64 a0_1)], .v (.int .i64 a1), .v (.int .i64 a2)] (.v (.int .i64 r)) := by
  refine Ctr_of tyOk hm Try.func88 rfl rfl (by kernel_rfl) (n := 64) (rv := [.tmp 6]) rfl rfl ?_
  simp only [W, List.replicate]
  unfold impl_Neighbor.f at h
  replace h := bnd h; obtain ⟨t1, A, h⟩ := h
  try simp only [W, p1, p2, p3, p4, p5, p6, p7, p8, p9, p10, p11, p12]
  refine callR (impl_isCell.ctr A) ?_
  replace h := ifT h; rcases h with ⟨rfl, h⟩ | ⟨rfl, h⟩
  · replace h := ifM h; obtain ⟨c3, h⟩ := h
    replace h := ifS h; rcases h with ⟨c4, h⟩ | ⟨c4, h⟩
    · rcases k with _ | m5; · cases h
      rw [impl_Neighbor.j0] at h
      replace h := ifT h; rcases h with ⟨c6, h⟩ | ⟨c6, h⟩
      · cases h
        try simp only [W, c3, eq_true c4, c6, p1, p2, p3, p4, p5, p6, p7, p8, p9, p10, p11, p12]
      · replace h := ifS h; rcases h with ⟨c7, h⟩ | ⟨c7, h⟩
        · rcases m5 with _ | m8; · cases h
          rw [impl_Neighbor.j1] at h
          replace h := ifT h; rcases h with ⟨c9, h⟩ | ⟨c9, h⟩
          · cases h
            try simp only [W, c3, eq_true c4, c6, eq_true c7, c9, p1, p2, p3, p4, p5, p6, p7, p8, p9, p10, p11, p12]
          · replace h := ifS h; rcases h with ⟨c10, h⟩ | ⟨c10, h⟩
            · rcases m8 with _ | m11; · cases h
              rw [impl_Neighbor.j2] at h
              replace h := ifT h; rcases h with ⟨c12, h⟩ | ⟨c12, h⟩
              · cases h
                try simp only [W, c3, eq_true c4, c6, eq_true c7, c9, eq_true c10, c12, p1, p2, p3, p4, p5, p6, p7, p8, p9, p10, p11, p12]
              · replace h := ifS h; rcases h with ⟨c13, h⟩ | ⟨c13, h⟩
                · replace h := ifS h; rcases h with ⟨c14, h⟩ | ⟨c14, h⟩
                  · cases h
                    try simp only [W, c3, eq_true c4, c6, eq_true c7, c9, eq_true c10, c12, eq_true c13, c14, p1, p2, p3, p4, p5, p6, p7, p8, p9, p10, p11, p12]
                  · cases h
                    try simp only [W, c3, eq_true c4, c6, eq_true c7, c9, eq_true c10, c12, eq_true c13, c14, p1, p2, p3, p4, p5, p6, p7, p8, p9, p10, p11, p12]
                · cases h
                  try simp only [W, c3, eq_true c4, c6, eq_true c7, c9, eq_true c10, c12, c13, p1, p2, p3, p4, p5, p6, p7, p8, p9, p10, p11, p12]
            · rcases m8 with _ | m11; · cases h
              rw [impl_Neighbor.j2] at h
              rw [if_neg (by decide)] at h
              replace h := ifS h; rcases h with ⟨c13, h⟩ | ⟨c13, h⟩
              · replace h := ifS h; rcases h with ⟨c14, h⟩ | ⟨c14, h⟩
                · cases h
                  try simp only [W, c3, eq_true c4, c6, eq_true c7, c9, c10, eq_true c13, c14, p1, p2, p3, p4, p5, p6, p7, p8, p9, p10, p11, p12]
                · cases h
                  try simp only [W, c3, eq_true c4, c6, eq_true c7, c9, c10, eq_true c13, c14, p1, p2, p3, p4, p5, p6, p7, p8, p9, p10, p11, p12]
              · cases h
                try simp only [W, c3, eq_true c4, c6, eq_true c7, c9, c10, c13, p1, p2, p3, p4, p5, p6, p7, p8, p9, p10, p11, p12]
        · rcases m5 with _ | m8; · cases h
          rw [impl_Neighbor.j1] at h
          rw [if_neg (by decide)] at h
          replace h := ifS h; rcases h with ⟨c10, h⟩ | ⟨c10, h⟩
          · rcases m8 with _ | m11; · cases h
            rw [impl_Neighbor.j2] at h
            replace h := ifT h; rcases h with ⟨c12, h⟩ | ⟨c12, h⟩
            · cases h
              try simp only [W, c3, eq_true c4, c6, c7, eq_true c10, c12, p1, p2, p3, p4, p5, p6, p7, p8, p9, p10, p11, p12]
            · replace h := ifS h; rcases h with ⟨c13, h⟩ | ⟨c13, h⟩
              · replace h := ifS h; rcases h with ⟨c14, h⟩ | ⟨c14, h⟩
                · cases h
                  try simp only [W, c3, eq_true c4, c6, c7, eq_true c10, c12, eq_true c13, c14, p1, p2, p3, p4, p5, p6, p7, p8, p9, p10, p11, p12]
                · cases h
                  try simp only [W, c3, eq_true c4, c6, c7, eq_true c10, c12, eq_true c13, c14, p1, p2, p3, p4, p5, p6, p7, p8, p9, p10, p11, p12]
              · cases h
                try simp only [W, c3, eq_true c4, c6, c7, eq_true c10, c12, c13, p1, p2, p3, p4, p5, p6, p7, p8, p9, p10, p11, p12]
          · rcases m8 with _ | m11; · cases h
            rw [impl_Neighbor.j2] at h
            rw [if_neg (by decide)] at h
            replace h := ifS h; rcases h with ⟨c13, h⟩ | ⟨c13, h⟩
            · replace h := ifS h; rcases h with ⟨c14, h⟩ | ⟨c14, h⟩
              · cases h
                try simp only [W, c3, eq_true c4, c6, c7, c10, eq_true c13, c14, p1, p2, p3, p4, p5, p6, p7, p8, p9, p10, p11, p12]
              · cases h
                try simp only [W, c3, eq_true c4, c6, c7, c10, eq_true c13, c14, p1, p2, p3, p4, p5, p6, p7, p8, p9, p10, p11, p12]
            · cases h
              try simp only [W, c3, eq_true c4, c6, c7, c10, c13, p1, p2, p3, p4, p5, p6, p7, p8, p9, p10, p11, p12]
    · rcases k with _ | m5; · cases h
      rw [impl_Neighbor.j0] at h
      rw [if_neg (by decide)] at h
      replace h := ifS h; rcases h with ⟨c7, h⟩ | ⟨c7, h⟩
      · rcases m5 with _ | m8; · cases h
        rw [impl_Neighbor.j1] at h
        replace h := ifT h; rcases h with ⟨c9, h⟩ | ⟨c9, h⟩
        · cases h
          try simp only [W, c3, c4, eq_true c7, c9, p1, p2, p3, p4, p5, p6, p7, p8, p9, p10, p11, p12]
        · replace h := ifS h; rcases h with ⟨c10, h⟩ | ⟨c10, h⟩
          · rcases m8 with _ | m11; · cases h
            rw [impl_Neighbor.j2] at h
            replace h := ifT h; rcases h with ⟨c12, h⟩ | ⟨c12, h⟩
            · cases h
              try simp only [W, c3, c4, eq_true c7, c9, eq_true c10, c12, p1, p2, p3, p4, p5, p6, p7, p8, p9, p10, p11, p12]
            · replace h := ifS h; rcases h with ⟨c13, h⟩ | ⟨c13, h⟩
              · replace h := ifS h; rcases h with ⟨c14, h⟩ | ⟨c14, h⟩
                · cases h
                  try simp only [W, c3, c4, eq_true c7, c9, eq_true c10, c12, eq_true c13, c14, p1, p2, p3, p4, p5, p6, p7, p8, p9, p10, p11, p12]
                · cases h
                  try simp only [W, c3, c4, eq_true c7, c9, eq_true c10, c12, eq_true c13, c14, p1, p2, p3, p4, p5, p6, p7, p8, p9, p10, p11, p12]
              · cases h
                try simp only [W, c3, c4, eq_true c7, c9, eq_true c10, c12, c13, p1, p2, p3, p4, p5, p6, p7, p8, p9, p10, p11, p12]
          · rcases m8 with _ | m11; · cases h
            rw [impl_Neighbor.j2] at h
            rw [if_neg (by decide)] at h
            replace h := ifS h; rcases h with ⟨c13, h⟩ | ⟨c13, h⟩
            · replace h := ifS h; rcases h with ⟨c14, h⟩ | ⟨c14, h⟩
              · cases h
                try simp only [W, c3, c4, eq_true c7, c9, c10, eq_true c13, c14, p1, p2, p3, p4, p5, p6, p7, p8, p9, p10, p11, p12]
              · cases h
                try simp only [W, c3, c4, eq_true c7, c9, c10, eq_true c13, c14, p1, p2, p3, p4, p5, p6, p7, p8, p9, p10, p11, p12]
            · cases h
              try simp only [W, c3, c4, eq_true c7, c9, c10, c13, p1, p2, p3, p4, p5, p6, p7, p8, p9, p10, p11, p12]
      · rcases m5 with _ | m8; · cases h
        rw [impl_Neighbor.j1] at h
        rw [if_neg (by decide)] at h
        replace h := ifS h; rcases h with ⟨c10, h⟩ | ⟨c10, h⟩
        · rcases m8 with _ | m11; · cases h
          rw [impl_Neighbor.j2] at h
          replace h := ifT h; rcases h with ⟨c12, h⟩ | ⟨c12, h⟩
          · cases h
            try simp only [W, c3, c4, c7, eq_true c10, c12, p1, p2, p3, p4, p5, p6, p7, p8, p9, p10, p11, p12]
          · replace h := ifS h; rcases h with ⟨c13, h⟩ | ⟨c13, h⟩
            · replace h := ifS h; rcases h with ⟨c14, h⟩ | ⟨c14, h⟩
              · cases h
                try simp only [W, c3, c4, c7, eq_true c10, c12, eq_true c13, c14, p1, p2, p3, p4, p5, p6, p7, p8, p9, p10, p11, p12]
              · cases h
                try simp only [W, c3, c4, c7, eq_true c10, c12, eq_true c13, c14, p1, p2, p3, p4, p5, p6, p7, p8, p9, p10, p11, p12]
            · cases h
              try simp only [W, c3, c4, c7, eq_true c10, c12, c13, p1, p2, p3, p4, p5, p6, p7, p8, p9, p10, p11, p12]
        · rcases m8 with _ | m11; · cases h
          rw [impl_Neighbor.j2] at h
          rw [if_neg (by decide)] at h
          replace h := ifS h; rcases h with ⟨c13, h⟩ | ⟨c13, h⟩
          · replace h := ifS h; rcases h with ⟨c14, h⟩ | ⟨c14, h⟩
            · cases h
              try simp only [W, c3, c4, c7, c10, eq_true c13, c14, p1, p2, p3, p4, p5, p6, p7, p8, p9, p10, p11, p12]
            · cases h
              try simp only [W, c3, c4, c7, c10, eq_true c13, c14, p1, p2, p3, p4, p5, p6, p7, p8, p9, p10, p11, p12]
          · cases h
            try simp only [W, c3, c4, c7, c10, c13, p1, p2, p3, p4, p5, p6, p7, p8, p9, p10, p11, p12]
  · cases h
    try simp only [W, p1, p2, p3, p4, p5, p6, p7, p8, p9, p10, p11, p12]
end Go.Proofs.Ytccjanhdnheclaa.F
end

section
namespace Go.Proofs.Ytccjanhdnheclaa.F
open Go.RowKit Go.Proofs.YtccjanhdnheclaaW.PrintWords Go.Proofs.YtccjanhdnheclaaW.PrintLast Go.Proofs.YtccjanhdnheclaaW.PrintMore
set_option linter.unusedVariables false
set_option linter.unusedSimpArgs false
attribute [local go_sem] max2_int min2_int max_two min_two
set_option maxRecDepth 20000
set_option maxHeartbeats 4000000
open Nat renaming reduceAdd → p1, reduceSub → p2, reduceMul → p3, reduceDiv → p4, reduceBNe → p5, reduceBEq → p6, reduceEqDiff → p7, reduceLeDiff → p8, reduceLT → p9
open Int renaming reduceLE → p10, reduceLT → p11, reduceEq → p12
theorem impl_GapAt.ctr {k : Nat} {a0_0 : Int} {a0_1 : Int} {a1 : Int} {a2 : Int} {r : Int} (h : impl_GapAt.f k a0_0 a0_1 a1 a2 = some r) : Ctr Try.prog 87 [.ag [.v (.int .i64 a0_0), .v (.int .i64 a0_1)], .v (.int .i64 a1), .v (.int .i64 a2)] (.v (.int .i64 r)) := by
  refine Ctr_of tyOk hm Try.func87 rfl rfl (by kernel_rfl) (n := 42) (rv := [.tmp 6]) rfl rfl ?_
  simp only [W, List.replicate]
  unfold impl_GapAt.f at h
  replace h := bnd h; obtain ⟨t1, A, h⟩ := h
  try simp only [W, p1, p2, p3, p4, p5, p6, p7, p8, p9, p10, p11, p12]
  refine callR (impl_Neighbor.ctr A) ?_
  replace h := ifS h; rcases h with ⟨c2, h⟩ | ⟨c2, h⟩
  · cases h
    try simp only [W, c2, p1, p2, p3, p4, p5, p6, p7, p8, p9, p10, p11, p12]
  · replace h := ifS h; rcases h with ⟨c3, h⟩ | ⟨c3, h⟩
    · replace h := ifM h; obtain ⟨c4, h⟩ := h
      cases h
      try simp only [W, c2, eq_true c3, c4, p1, p2, p3, p4, p5, p6, p7, p8, p9, p10, p11, p12]
    · replace h := ifS h; rcases h with ⟨c4, h⟩ | ⟨c4, h⟩
      · replace h := ifM h; obtain ⟨c5, h⟩ := h
        cases h
        try simp only [W, c2, c3, eq_true c4, c5, p1, p2, p3, p4, p5, p6, p7, p8, p9, p10, p11, p12]
      · cases h
        try simp only [W, c2, c3, c4, p1, p2, p3, p4, p5, p6, p7, p8, p9, p10, p11, p12]
theorem impl_Step.ctr {k : Nat} {a0_0 : Int} {a0_1 : Int} {a0_2 : Int} {a1 : Int} {a2 : Int} {r : Int} (h : impl_Step.f k a0_0 a0_1 a0_2 a1 a2 = some r) : Ctr Try.prog 56 [.ag [.v (.int .i64 a0_0), .v (.int .i64 a0_1), .v (.int .i64 a0_2)], .v (.int .i64 a1), .v (.int .i64 a2)] (.v (.int .i64 r)) := by
  refine Ctr_of tyOk hm Try.func56 rfl rfl (by kernel_rfl) (n := 22) (rv := [.tmp 6]) rfl rfl ?_
  simp only [W, List.replicate]
  unfold impl_Step.f at h
  replace h := bnd h; obtain ⟨t1, A, h⟩ := h
  try simp only [W, p1, p2, p3, p4, p5, p6, p7, p8, p9, p10, p11, p12]
  refine callR (impl_MazeOk.ctr A) ?_
  replace h := ifT h; rcases h with ⟨rfl, h⟩ | ⟨rfl, h⟩
  · replace h := bnd h; obtain ⟨t3, A, h⟩ := h
    try simp only [W, p1, p2, p3, p4, p5, p6, p7, p8, p9, p10, p11, p12]
    refine callR (impl_GapAt.ctr A) ?_
    replace h := bnd h; obtain ⟨t4, A, h⟩ := h
    try simp only [W, p1, p2, p3, p4, p5, p6, p7, p8, p9, p10, p11, p12]
    refine callR (impl_isOpen.ctr A) ?_
    replace h := ifT h; rcases h with ⟨rfl, h⟩ | ⟨rfl, h⟩
    · replace h := bnd h; obtain ⟨t6, A, h⟩ := h
      try simp only [W, p1, p2, p3, p4, p5, p6, p7, p8, p9, p10, p11, p12]
      refine callR (impl_Neighbor.ctr A) ?_
      cases h
      try simp only [W, p1, p2, p3, p4, p5, p6, p7, p8, p9, p10, p11, p12]
    · cases h
      try simp only [W, p1, p2, p3, p4, p5, p6, p7, p8, p9, p10, p11, p12]
  · cases h
    try simp only [W, p1, p2, p3, p4, p5, p6, p7, p8, p9, p10, p11, p12]
end Go.Proofs.Ytccjanhdnheclaa.F
end

section
namespace Go.Proofs.Ytccjanhdnheclaa.F
open Go.RowKit Go.Proofs.YtccjanhdnheclaaW.PrintWords Go.Proofs.YtccjanhdnheclaaW.PrintLast Go.Proofs.YtccjanhdnheclaaW.PrintMore
set_option linter.unusedVariables false
set_option linter.unusedSimpArgs false
attribute [local go_sem] max2_int min2_int max_two min_two
set_option maxHeartbeats 8000000 in
set_option maxRecDepth 100000 in
theorem spec_l05Tree.calls (k : Nat) (g : Nat) (s0_0 : List Int) (s0_1 : Int) (s0_2 : Int) (r1 : Int) (r2 : Int) (r3 : Int) (r4 : Int) (r5 : Int) (w0 w : World) (hI : IsS94 w0 w g s0_0 s0_1 s0_2) (hB : Below w0.heap.size w0 w) (h : spec_l05Tree.f k s0_0 s0_1 s0_2 = some (r1, r2, r3, r4, r5)) :
  Calls Try.prog 57 #[.pointer (some ⟨g, 0, none⟩)] w fun e w' => e = .returned (.agg #[.int .i64 r1, .int .i64 r2, .int .i64 r3]) ∧ IsS94 w0 w' g s0_0 r4 r5 ∧ Below w0.heap.size w0 w' ∧ KeepBut w w' g none := by
 have hu30 := Try.underlying30
 have hu28 := Try.underlying28
 have HI0 := aK hI
 have HK := aK (KeepBut.refl w g none)
 have HL := aK hB.size
 clear hI
 have HW0 := aK hB.size
 have HB := aK hB
 clear hB
 have H : ((spec_l02Grid.f s0_0 s0_1 s0_2).bind fun bt581 => ((spec_l03Tree.f k s0_0 bt581.2.2.1 bt581.2.2.2 bt581.1 bt581.2.1).bind fun bt586 => (some (bt586.1, bt586.2.1, bt586.2.2.1, bt586.2.2.2.1, bt586.2.2.2.2)))) = some (r1, r2, r3, r4, r5) := h
 clear h
 replace H := Option.bind_eq_some_iff.mp H
 obtain ⟨⟨t581, t582, t583, t584⟩, A20, H⟩ := H
 replace H : ((spec_l03Tree.f k s0_0 t583 t584 t581 t582).bind fun bt586 => (some (bt586.1, bt586.2.1, bt586.2.2.1, bt586.2.2.2.1, bt586.2.2.2.2))) = some (r1, r2, r3, r4, r5) := H
 have A2 := aK A20
 clear A20
 replace H := Option.bind_eq_some_iff.mp H
 obtain ⟨⟨t586, t587, t588, t589, t590⟩, A30, H⟩ := H
 replace H : (some (t586, t587, t588, t589, t590)) = some (r1, r2, r3, r4, r5) := H
 have A3 := aK A30
 clear A30
 simp only [Option.some.injEq, Prod.mk.injEq] at H
 obtain ⟨rfl, rfl, rfl, rfl, rfl⟩ := H
 go_enter Try.func57, Try.ntmps57
 go_wp2_with (first | ((with_reducible refine gate_dst (N := 2) rfl ?_); refine box_event ?hg (N := 2) ?hd (cs := #[.int .i64 0, .int .i64 0, .int .i64 0]) (t := 30) ?hr ?_; (case hd => rfl); (case hg => rfl); (case hr => first | (go_simp; done) | (go_simp; rfl)); intro gb580 hg w4 hbox hb; replace HB := aK (bSp (by repeat (first | (with_reducible first | exact HB.out | apply bAl | apply bDN | apply bD1 | refine bSt ?_ (IsS94.ge HI0.out)) | exact HB.out)) hb); have BK580 := aK (hbox); have GW580 := aK ((by rw [hg]; exact (keep_size (w := w) (g := g) (row := none) (by repeat (first | (with_reducible first | exact HK.out | apply KeepBut.set_ | apply keep_drewN | apply keep_drew | apply keep_alloc) | exact HK.out))) : w.heap.size ≤ gb580)); have GE580 := aK ((Nat.le_trans HW0.out (by rw [hg]; exact (keep_size (w := w) (g := g) (row := none) (by repeat (first | (with_reducible first | exact HK.out | apply KeepBut.set_ | apply keep_drewN | apply keep_drew | apply keep_alloc) | exact HK.out))) : w.heap.size ≤ gb580) : w0.heap.size ≤ gb580)); replace HK := aK (KeepBut.trans (by repeat (first | (with_reducible first | exact HK.out | apply KeepBut.set_ | apply keep_drewN | apply keep_drew | apply keep_alloc) | exact HK.out)) (KeepBut.of_below hb g none) (.inl rfl)); have NB0_580 := aK ((by rw [hg]; exact Nat.ne_of_lt (IsS94.lt (show IsS94 w0 _ g s0_0 s0_1 s0_2 from by repeat (first | (with_reducible first | exact HI0.out | apply IsS94.alloc | apply IsS94.drewN | apply IsS94.drew | apply IsS94.set_1 | apply IsS94.set_2) | exact HI0.out))) : g ≠ gb580)); have NB580_0 := aK ((by rw [hg]; exact Nat.ne_of_gt (IsS94.lt (show IsS94 w0 _ g s0_0 s0_1 s0_2 from by repeat (first | (with_reducible first | exact HI0.out | apply IsS94.alloc | apply IsS94.drewN | apply IsS94.drew | apply IsS94.set_1 | apply IsS94.set_2) | exact HI0.out))) : gb580 ≠ g)); replace HI0 := aK (IsS94.below (by repeat (first | (with_reducible first | exact HI0.out | apply IsS94.alloc | apply IsS94.drewN | apply IsS94.drew | apply IsS94.set_1 | apply IsS94.set_2) | exact HI0.out)) hb); clear hb hbox hg) | ((with_reducible refine gate_callee (f := 79) rfl ?_); refine goesL_ (some 5) rfl rfl Try.func79 (by kernel_rfl) rfl #[.pointer (some ⟨g, 0, none⟩)] rfl zD ?_; (with_reducible refine (spec_l02Grid.calls g s0_0 s0_1 s0_2 t581 t582 t583 t584 w0 _ ?side1 ?side2 A2.out).mono ?_); (case side1 => repeat (first | (with_reducible first | exact HI0.out | apply IsS94.alloc | apply IsS94.drewN | apply IsS94.drew | apply IsS94.set_1 | apply IsS94.set_2 | refine IsS94.far ?_ NB0_580.out _) | exact HI0.out)); (case side2 => repeat (first | (with_reducible first | exact HB.out | apply bAl | apply bDN | apply bD1 | refine bSt ?_ (IsS94.ge HI0.out) | refine bSt ?_ GE580.out) | exact HB.out)); rintro e w5 ⟨rfl, hi, hb, hk⟩; refine ⟨_, rfl, ?_⟩; replace BK580 := aK (KeepBut.blk hk (g' := gb580) (o := .cells #[.int .i64 0, .int .i64 0, .int .i64 0] 30 (0, 0)) (zK BK580) NB580_0.out (by simp)); replace HK := aK (KeepBut.trans (by repeat (first | (with_reducible first | exact HK.out | apply KeepBut.set_ | apply keep_drewN | apply keep_drew | apply keep_alloc | refine keep_far ?_ GW580.out _) | exact HK.out)) hk (.inl rfl)); replace HB := aK (hb); replace HI0 := aK (hi); (try clear hb); (try clear hb2); (try clear hk); (try clear hi)) | ((with_reducible refine gate_dst (N := 3) rfl ?_); refine box_event ?hg (N := 3) ?hd (cs := #[.int .i64 0, .int .i64 0]) (t := 28) ?hr ?_; (case hd => rfl); (case hg => rfl); (case hr => first | (go_simp; done) | (go_simp; rfl)); intro gb585 hg w6 hbox hb; replace HB := aK (bSp (by repeat (first | (with_reducible first | exact HB.out | apply bAl | apply bDN | apply bD1 | refine bSt ?_ (IsS94.ge HI0.out) | refine bSt ?_ GE580.out) | exact HB.out)) hb); have BK585 := aK (hbox); have GW585 := aK ((by rw [hg]; exact (keep_size (w := w) (g := g) (row := none) (by repeat (first | (with_reducible first | exact HK.out | apply KeepBut.set_ | apply keep_drewN | apply keep_drew | apply keep_alloc | refine keep_far ?_ GW580.out _) | exact HK.out))) : w.heap.size ≤ gb585)); have GE585 := aK ((Nat.le_trans HW0.out (by rw [hg]; exact (keep_size (w := w) (g := g) (row := none) (by repeat (first | (with_reducible first | exact HK.out | apply KeepBut.set_ | apply keep_drewN | apply keep_drew | apply keep_alloc | refine keep_far ?_ GW580.out _) | exact HK.out))) : w.heap.size ≤ gb585) : w0.heap.size ≤ gb585)); replace HK := aK (KeepBut.trans (by repeat (first | (with_reducible first | exact HK.out | apply KeepBut.set_ | apply keep_drewN | apply keep_drew | apply keep_alloc | refine keep_far ?_ GW580.out _) | exact HK.out)) (KeepBut.of_below hb g none) (.inl rfl)); have NB580_585 := nbl BK580 hg (by intro z_; (with_reducible repeat (first | refine kDN ?_ _ | refine kD ?_ | refine kA ?_ _)); exact z_); replace BK580 := zB BK580 hb; have NB585_580 := nbs NB580_585; have NB0_585 := aK ((by rw [hg]; exact Nat.ne_of_lt (IsS94.lt (show IsS94 w0 _ g s0_0 t583 t584 from by repeat (first | (with_reducible first | exact HI0.out | apply IsS94.alloc | apply IsS94.drewN | apply IsS94.drew | apply IsS94.set_1 | apply IsS94.set_2 | refine IsS94.far ?_ NB0_580.out _) | exact HI0.out))) : g ≠ gb585)); have NB585_0 := aK ((by rw [hg]; exact Nat.ne_of_gt (IsS94.lt (show IsS94 w0 _ g s0_0 t583 t584 from by repeat (first | (with_reducible first | exact HI0.out | apply IsS94.alloc | apply IsS94.drewN | apply IsS94.drew | apply IsS94.set_1 | apply IsS94.set_2 | refine IsS94.far ?_ NB0_580.out _) | exact HI0.out))) : gb585 ≠ g)); replace HI0 := aK (IsS94.below (by repeat (first | (with_reducible first | exact HI0.out | apply IsS94.alloc | apply IsS94.drewN | apply IsS94.drew | apply IsS94.set_1 | apply IsS94.set_2 | refine IsS94.far ?_ NB0_580.out _) | exact HI0.out)) hb); clear hb hbox hg; have hnb7 := NB585_580.out; have hnc7 := NB580_585.out; have hnb8 := NB585_0.out; have hnc8 := NB0_585.out; obtain ⟨hcz9_0, hcz9_1, hfz9_0, hfz9_1⟩ := cl2 BK585.out) | ((with_reducible refine gate_callee (f := 80) rfl ?_); refine goesL_ (some 8) rfl rfl Try.func80 (by kernel_rfl) rfl #[.pointer (some ⟨g, 0, none⟩), .agg #[.int .i64 t581, .int .i64 t582]] rfl zD ?_; (with_reducible refine (spec_l03Tree.calls k g s0_0 t583 t584 t581 t582 t586 t587 t588 t589 t590 w0 _ ?side1 ?side2 A3.out).mono ?_); (case side1 => repeat (first | (with_reducible first | exact HI0.out | apply IsS94.alloc | apply IsS94.drewN | apply IsS94.drew | apply IsS94.set_1 | apply IsS94.set_2 | refine IsS94.far ?_ NB0_580.out _ | refine IsS94.far ?_ NB0_585.out _) | exact HI0.out)); (case side2 => repeat (first | (with_reducible first | exact HB.out | apply bAl | apply bDN | apply bD1 | refine bSt ?_ (IsS94.ge HI0.out) | refine bSt ?_ GE580.out | refine bSt ?_ GE585.out) | exact HB.out)); rintro e w10 ⟨rfl, hi, hb, hk⟩; refine ⟨_, rfl, ?_⟩; replace BK580 := aK (KeepBut.blk hk (g' := gb580) (o := .cells #[.int .i64 0, .int .i64 0, .int .i64 0] 30 (0, 0)) (by (with_reducible repeat (first | refine kDN ?_ _ | refine kD ?_ | refine kA ?_ _)); refine blk_far ?_ NB580_585.out _; (with_reducible repeat (first | refine kDN ?_ _ | refine kD ?_ | refine kA ?_ _)); refine blk_far ?_ NB580_585.out _; (with_reducible repeat (first | refine kDN ?_ _ | refine kD ?_ | refine kA ?_ _)); exact BK580.out) NB580_0.out (by simp)); replace BK585 := aK (KeepBut.blk hk (g' := gb585) (o := .cells #[.int .i64 t581, .int .i64 t582] 28 (0, 0)) (by (with_reducible repeat (first | refine kDN ?_ _ | refine kD ?_ | refine kA ?_ _)); refine blk_put (cs := #[.int .i64 t581, .int .i64 0]) ?_ 1 _ rfl; (with_reducible repeat (first | refine kDN ?_ _ | refine kD ?_ | refine kA ?_ _)); refine blk_put (cs := #[.int .i64 0, .int .i64 0]) ?_ 0 _ rfl; (with_reducible repeat (first | refine kDN ?_ _ | refine kD ?_ | refine kA ?_ _)); exact BK585.out) NB585_0.out (by simp)); replace HK := aK (KeepBut.trans (by repeat (first | (with_reducible first | exact HK.out | apply KeepBut.set_ | apply keep_drewN | apply keep_drew | apply keep_alloc | refine keep_far ?_ GW580.out _ | refine keep_far ?_ GW585.out _) | exact HK.out)) hk (.inl rfl)); replace HB := aK (hb); replace HI0 := aK (hi); (try clear hb); (try clear hb2); (try clear hk); (try clear hi); have hnb11 := NB580_0.out; have hnc11 := NB0_580.out; obtain ⟨hcz12_0, hcz12_1, hcz12_2, hfz12_0, hfz12_1, hfz12_2⟩ := cl3 BK580.out))
 refine bodyPost_ret (results_cell_row rfl _ _ gb580 30 #[.int .i64 t586, .int .i64 t587, .int .i64 t588] (0, 0) _ rfl (by (with_reducible repeat (first | refine kDN ?_ _ | refine kD ?_ | refine kA ?_ _)); refine blk_put (cs := #[.int .i64 t586, .int .i64 t587, .int .i64 0]) ?_ 2 _ rfl; (with_reducible repeat (first | refine kDN ?_ _ | refine kD ?_ | refine kA ?_ _)); refine blk_put (cs := #[.int .i64 t586, .int .i64 0, .int .i64 0]) ?_ 1 _ rfl; (with_reducible repeat (first | refine kDN ?_ _ | refine kD ?_ | refine kA ?_ _)); refine blk_put (cs := #[.int .i64 0, .int .i64 0, .int .i64 0]) ?_ 0 _ rfl; (with_reducible repeat (first | refine kDN ?_ _ | refine kD ?_ | refine kA ?_ _)); exact BK580.out) Try.underlying30 rfl (by kernel_rfl)) rfl ?_
 exact ⟨by first | rfl | (simp [errW_none, errW_some] <;> rfl) | (simp [*, errW_none, errW_some] <;> rfl), by repeat (first | (with_reducible first | exact HI0.out | apply IsS94.alloc | apply IsS94.drewN | apply IsS94.drew | apply IsS94.set_1 | apply IsS94.set_2 | refine IsS94.far ?_ NB0_580.out _ | refine IsS94.far ?_ NB0_585.out _) | exact HI0.out), by repeat (first | (with_reducible first | exact HB.out | apply bAl | apply bDN | apply bD1 | refine bSt ?_ (IsS94.ge HI0.out) | refine bSt ?_ GE580.out | refine bSt ?_ GE585.out) | exact HB.out), by repeat (first | (with_reducible first | exact HK.out | apply KeepBut.set_ | apply keep_drewN | apply keep_drew | apply keep_alloc | refine keep_far ?_ GW580.out _ | refine keep_far ?_ GW585.out _) | exact HK.out)⟩
set_option maxHeartbeats 8000000 in
set_option maxRecDepth 100000 in
theorem spec_l34Targets.calls (k : Nat) (g : Nat) (s0_0 : List Int) (s0_1 : Int) (s0_2 : Int) (a1_0 : Int) (a1_1 : Int) (a1_2 : Int) (a2 : Int) (r1 : List Int) (r2 : Int) (r3 : Int) (w0 w : World) (hI : IsS94 w0 w g s0_0 s0_1 s0_2) (hB : Below w0.heap.size w0 w) (h : spec_l34Targets.f k s0_0 s0_1 s0_2 a1_0 a1_1 a1_2 a2 = some (r1, r2, r3)) :
  Calls Try.prog 59 #[.pointer (some ⟨g, 0, none⟩), .agg #[.int .i64 a1_0, .int .i64 a1_1, .int .i64 a1_2], .int .i64 a2] w fun e w' => ∃ v0_ : Value, e = .returned (v0_) ∧ Kd.R (Kd.int .i64) 3 w' w.heap.size (fun _ => True) v0_ r1 ∧ IsS94 w0 w' g s0_0 r2 r3 ∧ Below w0.heap.size w0 w' ∧ KeepBut w w' g none := by
 have hu30 := Try.underlying30
 have hu28 := Try.underlying28
 have HI0 := aK hI
 have HK := aK (KeepBut.refl w g none)
 have HL := aK hB.size
 clear hI
 have HW0 := aK hB.size
 have HB := aK hB
 clear hB
 have H : ((spec_l01Below.f s0_0 s0_1 s0_2 (wrap64 (a2 + 1))).bind fun bt595 => (spec_l34Targets.l0 k (([] : List Int)) bt595.1 0 s0_0 bt595.2.1 bt595.2.2 a1_0 a1_1 a1_2)) = some (r1, r2, r3) := h
 clear h
 obtain ⟨y592, hy592⟩ : ∃ y_ : List Int, y_ = (([] : List Int)) := ⟨_, rfl⟩
 replace H : ((spec_l01Below.f s0_0 s0_1 s0_2 (wrap64 (a2 + 1))).bind fun bt595 => (spec_l34Targets.l0 k y592 bt595.1 0 s0_0 bt595.2.1 bt595.2.2 a1_0 a1_1 a1_2)) = some (r1, r2, r3) := by first | (rw [hy592]; with_reducible exact H) | (have H2_ := (Option.bind_some _ _).symm.trans H; rw [hy592]; with_reducible exact H2_) | (have H2_ := (Option.bind_some _ _).symm.trans H; with_reducible exact H2_) | with_reducible exact H | (rw [hy592]; exact H) | exact H
 have Ny592 := aK hy592
 clear hy592
 replace H := Option.bind_eq_some_iff.mp H
 obtain ⟨⟨t595, t596, t597⟩, A40, H⟩ := H
 replace H : (spec_l34Targets.l0 k y592 t595 0 s0_0 t596 t597 a1_0 a1_1 a1_2) = some (r1, r2, r3) := H
 have A4 := aK A40
 clear A40
 have H' := aK H
 clear H
 go_enter Try.func59, Try.ntmps59
 go_wp2_with (first | ((with_reducible refine gate_dst (N := 4) rfl ?_); refine box_event ?hg (N := 4) ?hd (cs := #[.int .i64 a1_0, .int .i64 a1_1, .int .i64 a1_2]) (t := 30) ?hr ?_; (case hd => rfl); (case hg => rfl); (case hr => first | (go_simp; done) | (go_simp; rfl)); intro gb591 hg w5 hbox hb; replace HB := aK (bSp (by repeat (first | (with_reducible first | exact HB.out | apply bAl | apply bDN | apply bD1 | refine bSt ?_ (IsS94.ge HI0.out)) | exact HB.out)) hb); have BK591 := aK (hbox); have GW591 := aK ((by rw [hg]; exact (keep_size (w := w) (g := g) (row := none) (by repeat (first | (with_reducible first | exact HK.out | apply KeepBut.set_ | apply keep_drewN | apply keep_drew | apply keep_alloc) | exact HK.out))) : w.heap.size ≤ gb591)); have GE591 := aK ((Nat.le_trans HW0.out (by rw [hg]; exact (keep_size (w := w) (g := g) (row := none) (by repeat (first | (with_reducible first | exact HK.out | apply KeepBut.set_ | apply keep_drewN | apply keep_drew | apply keep_alloc) | exact HK.out))) : w.heap.size ≤ gb591) : w0.heap.size ≤ gb591)); replace HK := aK (KeepBut.trans (by repeat (first | (with_reducible first | exact HK.out | apply KeepBut.set_ | apply keep_drewN | apply keep_drew | apply keep_alloc) | exact HK.out)) (KeepBut.of_below hb g none) (.inl rfl)); have NB0_591 := aK ((by rw [hg]; exact Nat.ne_of_lt (IsS94.lt (show IsS94 w0 _ g s0_0 s0_1 s0_2 from by repeat (first | (with_reducible first | exact HI0.out | apply IsS94.alloc | apply IsS94.drewN | apply IsS94.drew | apply IsS94.set_1 | apply IsS94.set_2) | exact HI0.out))) : g ≠ gb591)); have NB591_0 := aK ((by rw [hg]; exact Nat.ne_of_gt (IsS94.lt (show IsS94 w0 _ g s0_0 s0_1 s0_2 from by repeat (first | (with_reducible first | exact HI0.out | apply IsS94.alloc | apply IsS94.drewN | apply IsS94.drew | apply IsS94.set_1 | apply IsS94.set_2) | exact HI0.out))) : gb591 ≠ g)); replace HI0 := aK (IsS94.below (by repeat (first | (with_reducible first | exact HI0.out | apply IsS94.alloc | apply IsS94.drewN | apply IsS94.drew | apply IsS94.set_1 | apply IsS94.set_2) | exact HI0.out)) hb); clear hb hbox hg) | ((with_reducible refine gate_dst (N := 10) rfl ?_); refine Kd.R_lit (Kd.int .i64) _ 3 ?hg (N := 10) ?hd (xs := ([] : List Int)) (inner := []) (ok := fun _ => True) (okp := fun _ => True) ?hr ?hp (fun _ hk => hk) trivial (Below.refl _ _) (Nat.le_refl _) (by simp) ?_; (case hd => rfl); (case hg => rfl); (case hr => first | (go_simp; done) | (go_simp; rfl)); (case hp => exact (Reps.none _ _)); intro v593 w6 ho7 hb hg_ hnew_; clear hg_ hnew_; (first | rw [← Ny592.out] at ho7 | (simp only [Int.reduceToNat] at ho7; rw [← Ny592.out] at ho7)); have HO594 := aK (Kd.R_lower ho7 (keep_size (w := w) (g := g) (row := none) (by repeat (first | (with_reducible first | exact HK.out | apply KeepBut.set_ | apply keep_drewN | apply keep_drew | apply keep_alloc | refine keep_far ?_ GW591.out _) | exact HK.out)))); replace BK591 := zB BK591 hb; replace HK := aK (KeepBut.trans (by repeat (first | (with_reducible first | exact HK.out | apply KeepBut.set_ | apply keep_drewN | apply keep_drew | apply keep_alloc | refine keep_far ?_ GW591.out _) | exact HK.out)) (KeepBut.of_below hb g none) (.inl rfl)); replace HB := aK (bSp (by repeat (first | (with_reducible first | exact HB.out | apply bAl | apply bDN | apply bD1 | refine bSt ?_ (IsS94.ge HI0.out) | refine bSt ?_ GE591.out) | exact HB.out)) hb); replace HI0 := aK (IsS94.below (by repeat (first | (with_reducible first | exact HI0.out | apply IsS94.alloc | apply IsS94.drewN | apply IsS94.drew | apply IsS94.set_1 | apply IsS94.set_2 | refine IsS94.far ?_ NB0_591.out _) | exact HI0.out)) hb); clear hb ho7) | ((with_reducible refine gate_callee (f := 58) rfl ?_); refine goesL_ (some 14) rfl rfl Try.func58 (by kernel_rfl) rfl #[.pointer (some ⟨g, 0, none⟩), .int .i64 (wrap64 (a2 + 1))] rfl zD ?_; (with_reducible refine (spec_l01Below.calls g s0_0 s0_1 s0_2 (wrap64 (a2 + 1)) t595 t596 t597 w0 _ ?side1 ?side2 A4.out).mono ?_); (case side1 => repeat (first | (with_reducible first | exact HI0.out | apply IsS94.alloc | apply IsS94.drewN | apply IsS94.drew | apply IsS94.set_1 | apply IsS94.set_2 | refine IsS94.far ?_ NB0_591.out _) | exact HI0.out)); (case side2 => repeat (first | (with_reducible first | exact HB.out | apply bAl | apply bDN | apply bD1 | refine bSt ?_ (IsS94.ge HI0.out) | refine bSt ?_ GE591.out) | exact HB.out)); rintro e w8 ⟨rfl, hi, hb, hk⟩; refine ⟨_, rfl, ?_⟩; replace BK591 := aK (KeepBut.blk hk (g' := gb591) (o := .cells #[.int .i64 a1_0, .int .i64 a1_1, .int .i64 a1_2] 30 (0, 0)) (zK BK591) NB591_0.out (by simp)); replace HO594 := aK (Kd.R_mono (Kd.R_keep (IsS94.apart (show IsS94 w0 _ g s0_0 s0_1 s0_2 from by repeat (first | (with_reducible first | exact HI0.out | apply IsS94.alloc | apply IsS94.drewN | apply IsS94.drew | apply IsS94.set_1 | apply IsS94.set_2 | refine IsS94.far ?_ NB0_591.out _) | exact HI0.out)) (zA HO594) (by decide)) hk (fun _ h => h.2)) (fun _ h => h.1)); replace HK := aK (KeepBut.trans (by repeat (first | (with_reducible first | exact HK.out | apply KeepBut.set_ | apply keep_drewN | apply keep_drew | apply keep_alloc | refine keep_far ?_ GW591.out _) | exact HK.out)) hk (.inl rfl)); replace HB := aK (hb); replace HI0 := aK (hi); (try clear hb); (try clear hb2); (try clear hk); (try clear hi)))
 go_loopg [7, 9] k (fun kq v7 v9 w' => ∃ (x7_1 : List Int) (x9_1 : Int) (x1001_1 : Int) (x1002_1 : Int), v9 = .int .i64 x9_1 ∧ Aside0 (spec_l34Targets.l0 kq x7_1 t595 x9_1 s0_0 x1001_1 x1002_1 a1_0 a1_1 a1_2 = some (r1, r2, r3)) ∧ Aside0 (kq ≤ k) ∧ Aside0 (Kd.R (Kd.int .i64) 3 w' w.heap.size (fun _ => True) v7 x7_1) ∧ Aside0 (w'.heap[gb591]? = some (.cells #[.int .i64 a1_0, .int .i64 a1_1, .int .i64 a1_2] 30 (0, 0))) ∧ Aside0 (IsS94 w0 w' g s0_0 x1001_1 x1002_1) ∧ Aside0 (KeepBut w w' g none) ∧ Aside0 (Below w0.heap.size w0 w'))
 case atStart => exact ⟨(y592), (0), (t596), (t597), (by first | rfl | (simp; done) | (simp [*]; done)), H', ⟨Nat.le_refl _⟩, ⟨zA HO594⟩, ⟨zK BK591⟩, ⟨by repeat (first | (with_reducible first | exact HI0.out | apply IsS94.alloc | apply IsS94.drewN | apply IsS94.drew | apply IsS94.set_1 | apply IsS94.set_2 | refine IsS94.far ?_ NB0_591.out _) | exact HI0.out)⟩, ⟨by repeat (first | (with_reducible first | exact HK.out | apply KeepBut.set_ | apply keep_drewN | apply keep_drew | apply keep_alloc | refine keep_far ?_ GW591.out _) | exact HK.out)⟩, ⟨by repeat (first | (with_reducible first | exact HB.out | apply bAl | apply bDN | apply bD1 | refine bSt ?_ (IsS94.ge HI0.out) | refine bSt ?_ GE591.out) | exact HB.out)⟩⟩
 case round =>
  clear H'
  try clear p2
  try clear c5
  try clear p6
  obtain ⟨x7_1, x9_1, x1001_1, x1002_1, rfl, HA, HK1, HO_7, BK591, HI0, HK, HB⟩ := hrel
  cases gk with
  | zero => exact absurd HA.out (by simp [spec_l34Targets.l0])
  | succ k1 =>
   have H := HA.out
   clear HA
   simp only [spec_l34Targets.l0] at H
   by_cases c9 : x9_1 < t595
   ·rw [if_pos c9] at H
    have c9b0 : decide (x9_1 < t595) = true := decide_eq_true c9
    clear c9
    replace H := Option.bind_eq_some_iff.mp H
    obtain ⟨t598, A100, H⟩ := H
    replace H : ((spec_l01Below.f s0_0 x1001_1 x1002_1 (mx 1 t598)).bind fun bt599 => (if x7_1.length < 17592186044416 then (spec_l34Targets.l0 k1 (x7_1 ++ [bt599.1]) t595 (wrap64 (x9_1 + 1)) s0_0 bt599.2.1 bt599.2.2 a1_0 a1_1 a1_2) else (none))) = some (r1, r2, r3) := H
    have A10 := aK A100
    clear A100
    obtain ⟨ji11, hji11⟩ : ∃ j_ : Int, (mx 1 t598) = j_ := ⟨_, rfl⟩
    replace H : ((spec_l01Below.f s0_0 x1001_1 x1002_1 (ji11)).bind fun bt599 => (if x7_1.length < 17592186044416 then (spec_l34Targets.l0 k1 (x7_1 ++ [bt599.1]) t595 (wrap64 (x9_1 + 1)) s0_0 bt599.2.1 bt599.2.2 a1_0 a1_1 a1_2) else (none))) = some (r1, r2, r3) := by first | (rw [hji11] at H; exact H) | (simp only [hji11] at H ⊢; exact H)
    (try rw [hji11] at A10)
    (try (have hji11l : 1 ≤ ji11 := by (rw [← hji11]; unfold mx; (repeat' split) <;> omega)))
    (try (have hji11m : 0 ≤ ji11 := by omega))
    have hji11_ : (if 1 < t598 then t598 else 1) = ji11 := hji11
    replace H := Option.bind_eq_some_iff.mp H
    obtain ⟨⟨t599, t600, t601⟩, A120, H⟩ := H
    replace H : (if x7_1.length < 17592186044416 then (spec_l34Targets.l0 k1 (x7_1 ++ [t599]) t595 (wrap64 (x9_1 + 1)) s0_0 t600 t601 a1_0 a1_1 a1_2) else (none)) = some (r1, r2, r3) := H
    have A12 := aK A120
    clear A120
    by_cases c13 : x7_1.length < 17592186044416
    ·rw [if_pos c13] at H
     have LMc13 := aK c13
     clear c13
     obtain ⟨y602, hy602⟩ : ∃ y_ : List Int, y_ = (x7_1 ++ [t599]) := ⟨_, rfl⟩
     replace H : (spec_l34Targets.l0 k1 y602 t595 (wrap64 (x9_1 + 1)) s0_0 t600 t601 a1_0 a1_1 a1_2) = some (r1, r2, r3) := by first | (rw [hy602]; with_reducible exact H) | (have H2_ := (Option.bind_some _ _).symm.trans H; rw [hy602]; with_reducible exact H2_) | (have H2_ := (Option.bind_some _ _).symm.trans H; with_reducible exact H2_) | with_reducible exact H | (rw [hy602]; exact H) | exact H
     have Ny602 := aK hy602
     clear hy602
     have H' := aK H
     clear H
     have hnb14 := NB591_0.out
     have hnc14 := NB0_591.out
     obtain ⟨hcz15_0, hcz15_1, hcz15_2, hfz15_0, hfz15_1, hfz15_2⟩ := cl3 BK591.out
     go_wp2_with (first | ((with_reducible refine gate_callee (f := 22) rfl ?_); refine goesL_ (some 24) rfl rfl Try.func22 (by kernel_rfl) rfl #[.agg #[.int .i64 a1_0, .int .i64 a1_1]] rfl zD ?_; (with_reducible refine (spec_CountCells.calls a1_0 a1_1 t598 _ A10.out).mono ?_); rintro e w16 ⟨rfl, hb⟩; refine ⟨_, rfl, ?_⟩; replace HO_7 := aK (Kd.R_below (zA HO_7) hb); replace BK591 := zB BK591 hb; replace HK := aK (KeepBut.trans (by repeat (first | (with_reducible first | exact HK.out | apply KeepBut.set_ | apply keep_drewN | apply keep_drew | apply keep_alloc | refine keep_far ?_ GW591.out _) | exact HK.out)) (KeepBut.of_below hb g none) (.inl rfl)); replace HB := aK (bSp (by repeat (first | (with_reducible first | exact HB.out | apply bAl | apply bDN | apply bD1 | refine bSt ?_ (IsS94.ge HI0.out) | refine bSt ?_ GE591.out) | exact HB.out)) hb); replace HI0 := aK (IsS94.below (by repeat (first | (with_reducible first | exact HI0.out | apply IsS94.alloc | apply IsS94.drewN | apply IsS94.drew | apply IsS94.set_1 | apply IsS94.set_2 | refine IsS94.far ?_ NB0_591.out _) | exact HI0.out)) hb); (try clear hb); (try clear hb2); (try clear hk); (try clear hi)) | ((with_reducible refine gate_callee (f := 58) rfl ?_); refine goesL_ (some 26) rfl rfl Try.func58 (by kernel_rfl) rfl #[.pointer (some ⟨g, 0, none⟩), .int .i64 ji11] rfl (by (try simp only [List.map_toArray, List.map_cons, List.map_nil]); first | done | (simp only [hji11]; rfl) | rfl | (simp only [List.length_drop, List.length_take]; rfl)) ?_; (with_reducible refine (spec_l01Below.calls g s0_0 x1001_1 x1002_1 ji11 t599 t600 t601 w0 _ ?side1 ?side2 A12.out).mono ?_); (case side1 => repeat (first | (with_reducible first | exact HI0.out | apply IsS94.alloc | apply IsS94.drewN | apply IsS94.drew | apply IsS94.set_1 | apply IsS94.set_2 | refine IsS94.far ?_ NB0_591.out _) | exact HI0.out)); (case side2 => repeat (first | (with_reducible first | exact HB.out | apply bAl | apply bDN | apply bD1 | refine bSt ?_ (IsS94.ge HI0.out) | refine bSt ?_ GE591.out) | exact HB.out)); rintro e w17 ⟨rfl, hi, hb, hk⟩; refine ⟨_, rfl, ?_⟩; replace HO_7 := aK (Kd.R_mono (Kd.R_keep (IsS94.apart (show IsS94 w0 _ g s0_0 x1001_1 x1002_1 from by repeat (first | (with_reducible first | exact HI0.out | apply IsS94.alloc | apply IsS94.drewN | apply IsS94.drew | apply IsS94.set_1 | apply IsS94.set_2 | refine IsS94.far ?_ NB0_591.out _) | exact HI0.out)) (zA HO_7) (by decide)) hk (fun _ h => h.2)) (fun _ h => h.1)); replace BK591 := aK (KeepBut.blk hk (g' := gb591) (o := .cells #[.int .i64 a1_0, .int .i64 a1_1, .int .i64 a1_2] 30 (0, 0)) (zK BK591) NB591_0.out (by simp)); replace HK := aK (KeepBut.trans (by repeat (first | (with_reducible first | exact HK.out | apply KeepBut.set_ | apply keep_drewN | apply keep_drew | apply keep_alloc | refine keep_far ?_ GW591.out _) | exact HK.out)) hk (.inl rfl)); replace HB := aK (hb); replace HI0 := aK (hi); (try clear hb); (try clear hb2); (try clear hk); (try clear hi)) | ((with_reducible refine gate_builtin (b := .append) (xs := #[.tmp 20, .tmp 27]) rfl ?_); at_builtin; refine Kd.R_append (Kd.int .i64) w.heap.size rfl (.tmp 20) (.tmp 27) 26 3 (.int .i64 0) 8 rfl Try.underlying26 info3 rfl (by decide) (by omega) u7 x7_1 t599 [.int .i64 t599] (fun _ => True) (fun _ => False) rfl rfl ?aP (fun _ hk => hk.elim) ?aF ?aO (Below.refl _ _) ?aS ?aL ?_; (case aP => exact rfl); (case aF => exact (fun _ _ => trivial)); (case aO => exact (zA HO_7)); (case aS => exact (keep_size (w := w) (g := g) (row := none) (by repeat (first | (with_reducible first | exact HK.out | apply KeepBut.set_ | apply keep_drewN | apply keep_drew | apply keep_alloc | refine keep_far ?_ GW591.out _) | exact HK.out)))); (case aL => have := LMc13.out; omega); intro v603 w18 ho hb hg hat; rw [← Ny602.out] at ho; have n0_ := aK (blk_grown (g := gb591) (o := .cells #[.int .i64 a1_0, .int .i64 a1_1, .int .i64 a1_2] 30 (0, 0)) (zK BK591) hg (Kd.R_ne HO_7.out BK591.out (by decide))); have n1_ := aK (IsS94.grown (show IsS94 w0 _ g s0_0 t600 t601 from by repeat (first | (with_reducible first | exact HI0.out | apply IsS94.alloc | apply IsS94.drewN | apply IsS94.drew | apply IsS94.set_1 | apply IsS94.set_2 | refine IsS94.far ?_ NB0_591.out _) | exact HI0.out)) hg (IsS94.own_ne HI0.out HO_7.out (by decide))); have n2_ := aK (below_weaken (by repeat (first | (with_reducible first | exact HB.out | apply bAl | apply bDN | apply bD1 | refine bSt ?_ (IsS94.ge HI0.out) | refine bSt ?_ GE591.out) | exact HB.out)) HL.out hb); have n3_ := aK (KeepBut.trans (by repeat (first | (with_reducible first | exact HK.out | apply KeepBut.set_ | apply keep_drewN | apply keep_drew | apply keep_alloc | refine keep_far ?_ GW591.out _) | exact HK.out)) (KeepBut.of_grown hg g) (Kd.R_base2 HO_7.out)); have n4_ := aK (ho); clear BK591; clear HI0; clear HB; clear HK; clear HO_7; have BK591 := n0_; have HI0 := n1_; have HB := n2_; have HK := n3_; have HO604 := n4_; clear n0_ n1_ n2_ n3_ n4_; clear ho hb hg hat))
     go_roundg k1
     case measure => have := HK1.out; omega
     case rel => exact ⟨(y602), (wrap64 (x9_1 + 1)), (t600), (t601), (by first | rfl | (simp; done) | (simp [*]; done)), H', ⟨by have := HK1.out; omega⟩, ⟨zA HO604⟩, ⟨zK BK591⟩, ⟨by repeat (first | (with_reducible first | exact HI0.out | apply IsS94.alloc | apply IsS94.drewN | apply IsS94.drew | apply IsS94.set_1 | apply IsS94.set_2 | refine IsS94.far ?_ NB0_591.out _) | exact HI0.out)⟩, ⟨by repeat (first | (with_reducible first | exact HK.out | apply KeepBut.set_ | apply keep_drewN | apply keep_drew | apply keep_alloc | refine keep_far ?_ GW591.out _) | exact HK.out)⟩, ⟨by repeat (first | (with_reducible first | exact HB.out | apply bAl | apply bDN | apply bD1 | refine bSt ?_ (IsS94.ge HI0.out) | refine bSt ?_ GE591.out) | exact HB.out)⟩⟩
    ·rw [if_neg c13] at H
     exact absurd H (by simp)
   ·rw [if_neg c9] at H
    have c9b0 : decide (x9_1 < t595) = false := decide_eq_false c9
    clear c9
    simp only [Option.some.injEq, Prod.mk.injEq] at H
    obtain ⟨rfl, rfl, rfl⟩ := H
    go_wp2
    go_ret
    exact ⟨_, by first | rfl | (simp [errW_none, errW_some] <;> rfl) | (simp [*, errW_none, errW_some] <;> rfl), by (with_reducible repeat (first | apply Kd.R_alloc | apply Kd.R_drewN | apply Kd.R_drew)); exact HO_7.out, by repeat (first | (with_reducible first | exact HI0.out | apply IsS94.alloc | apply IsS94.drewN | apply IsS94.drew | apply IsS94.set_1 | apply IsS94.set_2 | refine IsS94.far ?_ NB0_591.out _) | exact HI0.out), by repeat (first | (with_reducible first | exact HB.out | apply bAl | apply bDN | apply bD1 | refine bSt ?_ (IsS94.ge HI0.out) | refine bSt ?_ GE591.out) | exact HB.out), by repeat (first | (with_reducible first | exact HK.out | apply KeepBut.set_ | apply keep_drewN | apply keep_drew | apply keep_alloc | refine keep_far ?_ GW591.out _) | exact HK.out)⟩
def spec_DrawRescue.T3 : Bool × List (List Nat × List Nat) := (true, [([], []), ([], []), ([], []), ([2], [2]), ([3], [3]), ([1, 4, 4], [1, 4]), ([], []), ([], []), ([6, 7, 5], [6, 7]), ([0, 8, 0], [0]), ([5, 9, 0, 1, 2, 3, 4, 5, 9], [5]), ([8, 10, 0, 1, 2, 3, 4, 5, 6, 7, 8, 9, 10], [8])])
def spec_DrawRescue.B3 : List Nat := [0, 0, 0, 4, 12, 30, 0, 0, 254, 511, 1023, 2047]
theorem spec_DrawRescue.tab3 : rtab .any (opsOf Try.f26 3) = spec_DrawRescue.T3 := by kernel_rfl
theorem spec_DrawRescue.bits3 : waitsOk spec_DrawRescue.T3.2 spec_DrawRescue.B3 = true := by kernel_rfl
set_option maxHeartbeats 8000000 in
set_option maxRecDepth 100000 in
theorem spec_DrawRescue.calls (k : Nat) (A0 : Option Addr) (c0 : Nat) (l0 : List Int) (r1 : Int) (r2 : Int) (r3 : Int) (r4 : Int) (r5 : List Int) (w : World) (hr0 : Kd.C (Kd.int .u8) w A0 l0.length l0) (hc0 : l0.length ≤ c0) (h : spec_DrawRescue.f k l0 = some (r1, r2, r3, r4, r5)) :
  Calls Try.prog 26 #[.slice A0 l0.length c0] w fun e w' => ∃ v4_ : Value, e = .returned (.tuple #[.agg #[.int .i64 r1, .int .i64 r2, .int .i64 r3], .int .i64 r4, v4_]) ∧ Kd.R (Kd.int .i64) 3 w' w.heap.size (fun _ => True) v4_ r5 ∧ Below w.heap.size w w' := by
 have hu30 := Try.underlying30
 have hu28 := Try.underlying28
 have HR0 := aK hr0
 have HC0 := aK hc0
 clear hr0 hc0
 have HB := aK (Below.refl w.heap.size w)
 have H : ((spec_l01New.f k l0).bind fun bt606 => ((spec_l05Tree.f k bt606.1 bt606.2.1 bt606.2.2).bind fun bt610 => ((spec_CountCells.f bt610.1 bt610.2.1).bind fun t616 => ((spec_l01Below.f bt606.1 bt610.2.2.2.1 bt610.2.2.2.2 t616).bind fun bt617 => ((spec_l34Targets.f k bt606.1 bt617.2.1 bt617.2.2 bt610.1 bt610.2.1 bt610.2.2.1 4).bind fun bt620 => (some (bt610.1, bt610.2.1, bt610.2.2.1, bt617.1, bt620.1))))))) = some (r1, r2, r3, r4, r5) := h
 clear h
 replace H := Option.bind_eq_some_iff.mp H
 obtain ⟨⟨t606, t607, t608⟩, A20, H⟩ := H
 replace H : ((spec_l05Tree.f k t606 t607 t608).bind fun bt610 => ((spec_CountCells.f bt610.1 bt610.2.1).bind fun t616 => ((spec_l01Below.f t606 bt610.2.2.2.1 bt610.2.2.2.2 t616).bind fun bt617 => ((spec_l34Targets.f k t606 bt617.2.1 bt617.2.2 bt610.1 bt610.2.1 bt610.2.2.1 4).bind fun bt620 => (some (bt610.1, bt610.2.1, bt610.2.2.1, bt617.1, bt620.1)))))) = some (r1, r2, r3, r4, r5) := H
 have A2 := aK A20
 clear A20
 replace H := Option.bind_eq_some_iff.mp H
 obtain ⟨⟨t610, t611, t612, t613, t614⟩, A30, H⟩ := H
 replace H : ((spec_CountCells.f t610 t611).bind fun t616 => ((spec_l01Below.f t606 t613 t614 t616).bind fun bt617 => ((spec_l34Targets.f k t606 bt617.2.1 bt617.2.2 t610 t611 t612 4).bind fun bt620 => (some (t610, t611, t612, bt617.1, bt620.1))))) = some (r1, r2, r3, r4, r5) := H
 have A3 := aK A30
 clear A30
 replace H := Option.bind_eq_some_iff.mp H
 obtain ⟨t616, A40, H⟩ := H
 replace H : ((spec_l01Below.f t606 t613 t614 t616).bind fun bt617 => ((spec_l34Targets.f k t606 bt617.2.1 bt617.2.2 t610 t611 t612 4).bind fun bt620 => (some (t610, t611, t612, bt617.1, bt620.1)))) = some (r1, r2, r3, r4, r5) := H
 have A4 := aK A40
 clear A40
 replace H := Option.bind_eq_some_iff.mp H
 obtain ⟨⟨t617, t618, t619⟩, A50, H⟩ := H
 replace H : ((spec_l34Targets.f k t606 t618 t619 t610 t611 t612 4).bind fun bt620 => (some (t610, t611, t612, t617, bt620.1))) = some (r1, r2, r3, r4, r5) := H
 have A5 := aK A50
 clear A50
 replace H := Option.bind_eq_some_iff.mp H
 obtain ⟨⟨t620, t623, t624⟩, A60, H⟩ := H
 replace H : (some (t610, t611, t612, t617, t620)) = some (r1, r2, r3, r4, r5) := H
 have A6 := aK A60
 clear A60
 simp only [Option.some.injEq, Prod.mk.injEq] at H
 obtain ⟨rfl, rfl, rfl, rfl, rfl⟩ := H
 go_enter Try.func26, Try.ntmps26
 try go_wp2_with (first | ((with_reducible refine gate_dst (N := 2) rfl ?_); refine box_event ?hg (N := 2) ?hd (cs := #[.int .i64 0, .int .i64 0, .int .i64 0]) (t := 30) ?hr ?_; (case hd => rfl); (case hg => rfl); (case hr => first | (go_simp; done) | (go_simp; rfl)); intro gb605 hg w7 hbox hb; have BK605 := aK (hbox); have GW605 := aK ((by rw [hg]; exact (bSz (zH0 HB)) : w.heap.size ≤ gb605)); replace HB := aK (bSp (zH0 HB) hb); have GE605 := GW605; clear hb hbox hg) | ((with_reducible refine gate_callee (f := 46) rfl ?_); refine goesL_ (some 8) rfl rfl Try.func46 (by kernel_rfl) rfl #[.slice A0 l0.length c0] rfl zD ?_; (with_reducible refine (spec_l01New.calls k _ _ l0 t606 t607 t608 w _ ?side1 ?side2 ?side3 A2.out).mono ?_); (case side1 => exact (zH1 HB GE605)); (case side2 => exact HR0.out); (case side3 => exact HC0.out); rintro e w8 ⟨g609, rfl, hi, hb, hb2⟩; refine ⟨_, rfl, ?_⟩; replace HB := aK (hb); have HI609 := aK (hi); have NB609_605 := aK (IsS94.ne_blk hi (blk_below (g := gb605) (o := .cells #[.int .i64 0, .int .i64 0, .int .i64 0] 30 (0, 0)) (zK BK605) hb2) (by decide)); have NB605_609 := aK (Ne.symm (IsS94.ne_blk hi (blk_below (g := gb605) (o := .cells #[.int .i64 0, .int .i64 0, .int .i64 0] 30 (0, 0)) (zK BK605) hb2) (by decide))); replace BK605 := aK (blk_below (g := gb605) (o := .cells #[.int .i64 0, .int .i64 0, .int .i64 0] 30 (0, 0)) (zK BK605) hb2); (try clear hb); (try clear hb2); (try clear hk); (try clear hi)) | ((with_reducible refine gate_callee (f := 57) rfl ?_); refine goesL_ (some 10) rfl rfl Try.func57 (by kernel_rfl) rfl #[.pointer (some ⟨g609, 0, none⟩)] rfl zD ?_; (with_reducible refine (spec_l05Tree.calls k g609 t606 t607 t608 t610 t611 t612 t613 t614 w _ ?side1 ?side2 A3.out).mono ?_); (case side1 => repeat (first | (with_reducible first | exact HI609.out | apply IsS94.alloc | apply IsS94.drewN | apply IsS94.drew | apply IsS94.set_1 | apply IsS94.set_2 | refine IsS94.far ?_ NB609_605.out _) | exact HI609.out)); (case side2 => repeat (first | (with_reducible first | exact HB.out | apply bAl | apply bDN | apply bD1 | refine bSt ?_ (IsS94.ge HI609.out) | refine bSt ?_ GE605.out) | exact HB.out)); rintro e w9 ⟨rfl, hi, hb, hk⟩; refine ⟨_, rfl, ?_⟩; replace BK605 := aK (KeepBut.blk hk (g' := gb605) (o := .cells #[.int .i64 0, .int .i64 0, .int .i64 0] 30 (0, 0)) (zK BK605) NB605_609.out (by simp)); replace HB := aK (hb); replace HI609 := aK (hi); (try clear hb); (try clear hb2); (try clear hk); (try clear hi)) | ((with_reducible refine gate_dst (N := 6) rfl ?_); refine box_event ?hg (N := 6) ?hd (cs := #[.int .i64 0, .int .i64 0, .int .i64 0]) (t := 30) ?hr ?_; (case hd => rfl); (case hg => rfl); (case hr => first | (go_simp; done) | (go_simp; rfl)); intro gb615 hg w10 hbox hb; have BK615 := aK (hbox); have GW615 := aK ((by rw [hg]; exact (bSz (by repeat (first | (with_reducible first | exact HB.out | apply bAl | apply bDN | apply bD1 | refine bSt ?_ (IsS94.ge HI609.out) | refine bSt ?_ GE605.out) | exact HB.out))) : w.heap.size ≤ gb615)); replace HB := aK (bSp (by repeat (first | (with_reducible first | exact HB.out | apply bAl | apply bDN | apply bD1 | refine bSt ?_ (IsS94.ge HI609.out) | refine bSt ?_ GE605.out) | exact HB.out)) hb); have GE615 := GW615; have NB605_615 := nbl BK605 hg (by intro z_; (with_reducible repeat (first | refine kDN ?_ _ | refine kD ?_ | refine kA ?_ _)); exact z_); replace BK605 := zB BK605 hb; have NB615_605 := nbs NB605_615; have NB609_615 := aK ((by rw [hg]; exact Nat.ne_of_lt (IsS94.lt (show IsS94 w _ g609 t606 t613 t614 from by repeat (first | (with_reducible first | exact HI609.out | apply IsS94.alloc | apply IsS94.drewN | apply IsS94.drew | apply IsS94.set_1 | apply IsS94.set_2 | refine IsS94.far ?_ NB609_605.out _) | exact HI609.out))) : g609 ≠ gb615)); have NB615_609 := aK ((by rw [hg]; exact Nat.ne_of_gt (IsS94.lt (show IsS94 w _ g609 t606 t613 t614 from by repeat (first | (with_reducible first | exact HI609.out | apply IsS94.alloc | apply IsS94.drewN | apply IsS94.drew | apply IsS94.set_1 | apply IsS94.set_2 | refine IsS94.far ?_ NB609_605.out _) | exact HI609.out))) : gb615 ≠ g609)); replace HI609 := aK (IsS94.below (by repeat (first | (with_reducible first | exact HI609.out | apply IsS94.alloc | apply IsS94.drewN | apply IsS94.drew | apply IsS94.set_1 | apply IsS94.set_2 | refine IsS94.far ?_ NB609_605.out _) | exact HI609.out)) hb); clear hb hbox hg; have hnb11 := NB615_605.out; have hnc11 := NB605_615.out; have hnb12 := NB615_609.out; have hnc12 := NB609_615.out; obtain ⟨hcz13_0, hcz13_1, hcz13_2, hfz13_0, hfz13_1, hfz13_2⟩ := cl3 BK615.out))
 have n0_ : Aside0 ((((w10.setCell ⟨gb615, 0, none⟩ (.int .i64 t610)).setCell ⟨gb615, 1, none⟩ (.int .i64 t611)).setCell ⟨gb615, 2, none⟩ (.int .i64 t612)).heap[gb605]? = some (.cells #[.int .i64 0, .int .i64 0, .int .i64 0] 30 (0, 0))) := ⟨by (with_reducible repeat (first | refine kDN ?_ _ | refine kD ?_ | refine kA ?_ _)); refine blk_far ?_ NB605_615.out _; (with_reducible repeat (first | refine kDN ?_ _ | refine kD ?_ | refine kA ?_ _)); refine blk_far ?_ NB605_615.out _; (with_reducible repeat (first | refine kDN ?_ _ | refine kD ?_ | refine kA ?_ _)); refine blk_far ?_ NB605_615.out _; (with_reducible repeat (first | refine kDN ?_ _ | refine kD ?_ | refine kA ?_ _)); exact BK605.out⟩
 have n1_ := zP3 BK615 (.int .i64 t610) (.int .i64 t611) (.int .i64 t612)
 have n2_ : Aside0 (IsS94 w (((w10.setCell ⟨gb615, 0, none⟩ (.int .i64 t610)).setCell ⟨gb615, 1, none⟩ (.int .i64 t611)).setCell ⟨gb615, 2, none⟩ (.int .i64 t612)) g609 t606 t613 t614) := ⟨by repeat (first | (with_reducible first | exact HI609.out | apply IsS94.alloc | apply IsS94.drewN | apply IsS94.drew | apply IsS94.set_1 | apply IsS94.set_2 | refine IsS94.far ?_ NB609_605.out _ | refine IsS94.far ?_ NB609_615.out _) | exact HI609.out)⟩
 have n3_ : Aside0 (Below w.heap.size w (((w10.setCell ⟨gb615, 0, none⟩ (.int .i64 t610)).setCell ⟨gb615, 1, none⟩ (.int .i64 t611)).setCell ⟨gb615, 2, none⟩ (.int .i64 t612))) := ⟨by repeat (first | (with_reducible first | exact HB.out | apply bAl | apply bDN | apply bD1 | refine bSt ?_ (IsS94.ge HI609.out) | refine bSt ?_ GE605.out | refine bSt ?_ GE615.out) | exact HB.out)⟩
 (try clear BK605)
 (try clear BK615)
 (try clear HI609)
 (try clear HB)
 generalize (((w10.setCell ⟨gb615, 0, none⟩ (.int .i64 t610)).setCell ⟨gb615, 1, none⟩ (.int .i64 t611)).setCell ⟨gb615, 2, none⟩ (.int .i64 t612)) = w14 at n0_ n1_ n2_ n3_ ⊢
 have BK605 := n0_
 have BK615 := n1_
 have HI609 := n2_
 have HB := n3_
 clear n0_ n1_ n2_ n3_
 have n0_ := aK (kD BK605.out)
 have n1_ := aK (kD BK615.out)
 have n2_ := aK (IsS94.drew HI609.out)
 have n3_ := aK (bD1 HB.out)
 clear BK605
 clear BK615
 clear HI609
 clear HB
 have BK605 := n0_
 have BK615 := n1_
 have HI609 := n2_
 have HB := n3_
 clear n0_ n1_ n2_ n3_
 refine start_ (n := 12) (S := fun w' => w'.cell? ⟨gb615, 0, none⟩ = some (.int .i64 t610) ∧ w'.cell? ⟨gb615, 1, none⟩ = some (.int .i64 t611) ∧ w'.cell? ⟨gb615, 2, none⟩ = some (.int .i64 t612)) (ds := []) #[bN,bN,bN,bN,bN,bN,bN,bN,bN,bN,bN,bN] (by kernel_rfl) rfl rfl ⟨zQ BK615 0, zQ BK615 1, zQ BK615 2⟩ (fun hHeld => ?_); refine with_tabW spec_DrawRescue.tab3 spec_DrawRescue.bits3 (fun HT_ HW_ => ?_)
 generalize w14.drew = w15 at BK605 BK615 HI609 HB hHeld ⊢
 refine pure_ (i := 1) (N := some 12) (v := ?_) (a' := ?_) #[bN,bY,bN,bN,bN,bN,bN,bN,bN,bN,bN,bN] rfl rfl (any_of HT_.out (by kernel_rfl)) (fun _ _ _ h => h) (Or.inl ⟨by rfl, ?_⟩) ?_ ?_
 rotate_left
 ·intro w'
  go_simp
  with_reducible rfl
 rotate_left
 ·simp only [Act.put, sTA, sZ, sS, i64_w, i32_w]
  rfl
 refine pure_ (i := 2) (N := some 13) (v := ?_) (a' := ?_) #[bN,bY,bY,bN,bN,bN,bN,bN,bN,bN,bN,bN] rfl rfl (any_of HT_.out (by kernel_rfl)) (fun _ _ _ h => h) (Or.inl ⟨by rfl, ?_⟩) ?_ ?_
 rotate_left
 ·intro w'
  go_simp
  with_reducible rfl
 rotate_left
 ·simp only [Act.put, sTA, sZ, sS, i64_w, i32_w]
  rfl
 refine pure_ (i := 6) (N := some 17) (v := ?_) (a' := ?_) #[bN,bY,bY,bN,bN,bN,bY,bN,bN,bN,bN,bN] rfl rfl (any_of HT_.out (by kernel_rfl)) (fun _ _ _ h => h) (Or.inl ⟨by rfl, ?_⟩) ?_ ?_
 rotate_left
 ·intro w'
  go_simp
  with_reducible rfl
 rotate_left
 ·simp only [Act.put, sTA, sZ, sS, i64_w, i32_w]
  rfl
 refine take_ (i := 0) (N := some 11) (v := ?_) (a' := ?_) #[bY,bY,bY,bN,bN,bN,bY,bN,bN,bN,bN,bN] rfl rfl (take_ofW HT_.out HW_.out (by kernel_rfl)) (fun _ _ _ h => h) (Or.inl ⟨by rfl, ?_⟩) hHeld ?_ ?_
 rotate_left
 ·rintro w' ⟨s0, s1, s2⟩
  go_simp
  with_reducible rfl
 rotate_left
 ·simp only [Act.put, sTA, sZ, sS, i64_w, i32_w]
  rfl
 refine take_ (i := 3) (N := some 14) (v := ?_) (a' := ?_) #[bY,bY,bY,bY,bN,bN,bY,bN,bN,bN,bN,bN] rfl rfl (take_ofW HT_.out HW_.out (by kernel_rfl)) (fun _ _ _ h => h) (Or.inl ⟨by rfl, ?_⟩) hHeld ?_ ?_
 rotate_left
 ·rintro w' ⟨s0, s1, s2⟩
  go_simp
  with_reducible rfl
 rotate_left
 ·simp only [Act.put, sTA, sZ, sS, i64_w, i32_w]
  rfl
 refine take_ (i := 7) (N := some 18) (v := ?_) (a' := ?_) #[bY,bY,bY,bY,bN,bN,bY,bY,bN,bN,bN,bN] rfl rfl (take_ofW HT_.out HW_.out (by kernel_rfl)) (fun _ _ _ h => h) (Or.inl ⟨by rfl, ?_⟩) hHeld ?_ ?_
 rotate_left
 ·rintro w' ⟨s0, s1, s2⟩
  go_simp
  with_reducible rfl
 rotate_left
 ·simp only [Act.put, sTA, sZ, sS, i64_w, i32_w]
  rfl
 refine one_ (i := 4) (N := some 15) #[bY,bY,bY,bY,bY,bN,bY,bY,bN,bN,bN,bN] rfl rfl (one_of HT_.out (by kernel_rfl)) (by decide) (fun K hK => ?_)
 refine goes_ Try.func22 (by kernel_rfl) rfl #[.agg #[.int .i64 t610, .int .i64 t611]] (by rfl) rfl rfl zD ?_
 with_reducible refine (spec_CountCells.calls t610 t611 t616 _ A4.out).mono ?_
 rintro e w16 ⟨rfl, hb⟩
 refine ⟨_, rfl, ?_⟩
 have n0_ := zB BK605 hb
 have n1_ := aK (IsS94.below (by repeat (first | (with_reducible first | exact HI609.out | apply IsS94.alloc | apply IsS94.drewN | apply IsS94.drew | apply IsS94.set_1 | apply IsS94.set_2 | refine IsS94.far ?_ NB609_605.out _ | refine IsS94.far ?_ NB609_615.out _) | exact HI609.out)) hb)
 have n2_ := zB BK615 hb
 have n3_ := aK (bSp (by repeat (first | (with_reducible first | exact HB.out | apply bAl | apply bDN | apply bD1 | refine bSt ?_ (IsS94.ge HI609.out) | refine bSt ?_ GE605.out | refine bSt ?_ GE615.out) | exact HB.out)) hb)
 clear BK605
 clear HI609
 clear BK615
 clear HB
 have BK605 := n0_
 have HI609 := n1_
 have BK615 := n2_
 have HB := n3_
 clear n0_ n1_ n2_ n3_
 (try clear hb)
 (try clear hb2)
 (try clear hk)
 (try clear hi)
 refine hK.out _ _ ⟨zQ BK615 0, zQ BK615 1, zQ BK615 2⟩ (fun hHeld => ?_)
 clear hK K
 refine norm_ (a' := ?_) ?_ ?_
 rotate_left
 ·show Act.put _ (some 15) _ = _
  simp only [Act.put, sTA, sZ, sS, i64_w, i32_w]
  rfl
 refine one_ (i := 5) (N := some 16) #[bY,bY,bY,bY,bY,bY,bY,bY,bN,bN,bN,bN] rfl rfl (one_of HT_.out (by kernel_rfl)) (by decide) (fun K hK => ?_)
 refine goes_ Try.func58 (by kernel_rfl) rfl #[.pointer (some ⟨g609, 0, none⟩), .int .i64 t616] (by rfl) rfl rfl zD ?_
 with_reducible refine (spec_l01Below.calls g609 t606 t613 t614 t616 t617 t618 t619 w _ ?side1 ?side2 A5.out).mono ?_
 (case side1 => repeat (first | (with_reducible first | exact HI609.out | apply IsS94.alloc | apply IsS94.drewN | apply IsS94.drew | apply IsS94.set_1 | apply IsS94.set_2 | refine IsS94.far ?_ NB609_605.out _ | refine IsS94.far ?_ NB609_615.out _) | exact HI609.out))
 (case side2 => repeat (first | (with_reducible first | exact HB.out | apply bAl | apply bDN | apply bD1 | refine bSt ?_ (IsS94.ge HI609.out) | refine bSt ?_ GE605.out | refine bSt ?_ GE615.out) | exact HB.out))
 rintro e w17 ⟨rfl, hi, hb, hk⟩
 refine ⟨_, rfl, ?_⟩
 have n0_ := aK (KeepBut.blk hk (g' := gb605) (o := .cells #[.int .i64 0, .int .i64 0, .int .i64 0] 30 (0, 0)) (zK BK605) NB605_609.out (by simp))
 have n1_ := aK (KeepBut.blk hk (g' := gb615) (o := .cells #[.int .i64 t610, .int .i64 t611, .int .i64 t612] 30 (0, 0)) (zK BK615) NB615_609.out (by simp))
 have n2_ := aK (hb)
 have n3_ := aK (hi)
 clear BK605
 clear BK615
 clear HB
 clear HI609
 have BK605 := n0_
 have BK615 := n1_
 have HB := n2_
 have HI609 := n3_
 clear n0_ n1_ n2_ n3_
 (try clear hb)
 (try clear hb2)
 (try clear hk)
 (try clear hi)
 refine hK.out _ _ ⟨zQ BK615 0, zQ BK615 1, zQ BK615 2⟩ (fun hHeld => ?_)
 clear hK K
 refine norm_ (a' := ?_) ?_ ?_
 rotate_left
 ·show Act.put _ (some 16) _ = _
  simp only [Act.put, sTA, sZ, sS, i64_w, i32_w]
  rfl
 refine one_ (i := 8) (N := some 19) #[bY,bY,bY,bY,bY,bY,bY,bY,bY,bN,bN,bN] rfl rfl (one_of HT_.out (by kernel_rfl)) (by decide) (fun K hK => ?_)
 refine goes_ Try.func59 (by kernel_rfl) rfl #[.pointer (some ⟨g609, 0, none⟩), .agg #[.int .i64 t610, .int .i64 t611, .int .i64 t612], .int .i64 4] (by rfl) rfl rfl zD ?_
 with_reducible refine (spec_l34Targets.calls k g609 t606 t618 t619 t610 t611 t612 4 t620 t623 t624 w _ ?side1 ?side2 A6.out).mono ?_
 (case side1 => repeat (first | (with_reducible first | exact HI609.out | apply IsS94.alloc | apply IsS94.drewN | apply IsS94.drew | apply IsS94.set_1 | apply IsS94.set_2 | refine IsS94.far ?_ NB609_605.out _ | refine IsS94.far ?_ NB609_615.out _) | exact HI609.out))
 (case side2 => repeat (first | (with_reducible first | exact HB.out | apply bAl | apply bDN | apply bD1 | refine bSt ?_ (IsS94.ge HI609.out) | refine bSt ?_ GE605.out | refine bSt ?_ GE615.out) | exact HB.out))
 rintro e w18 ⟨v621, rfl, ho0, hi, hb, hk⟩
 refine ⟨_, rfl, ?_⟩
 have n0_ := aK (KeepBut.blk hk (g' := gb605) (o := .cells #[.int .i64 0, .int .i64 0, .int .i64 0] 30 (0, 0)) (zK BK605) NB605_609.out (by simp))
 have n1_ := aK (KeepBut.blk hk (g' := gb615) (o := .cells #[.int .i64 t610, .int .i64 t611, .int .i64 t612] 30 (0, 0)) (zK BK615) NB615_609.out (by simp))
 have n2_ := aK (Kd.R_lower ho0 (bSz (by repeat (first | (with_reducible first | exact HB.out | apply bAl | apply bDN | apply bD1 | refine bSt ?_ (IsS94.ge HI609.out) | refine bSt ?_ GE605.out | refine bSt ?_ GE615.out) | exact HB.out))))
 have n3_ := aK (hb)
 have n4_ := aK (hi)
 clear BK605
 clear BK615
 clear HB
 clear HI609
 have BK605 := n0_
 have BK615 := n1_
 have HO622 := n2_
 have HB := n3_
 have HI609 := n4_
 clear n0_ n1_ n2_ n3_ n4_
 (try clear hb)
 (try clear hb2)
 (try clear hk)
 (try clear hi)
 (try clear ho0)
 refine hK.out _ _ ⟨zQ BK615 0, zQ BK615 1, zQ BK615 2⟩ (fun hHeld => ?_)
 clear hK K
 refine norm_ (a' := ?_) ?_ ?_
 rotate_left
 ·show Act.put _ (some 19) _ = _
  simp only [Act.put, sTA, sZ, sS, i64_w, i32_w]
  rfl
 refine one_ (i := 9) (N := none) #[bY,bY,bY,bY,bY,bY,bY,bY,bY,bY,bN,bN] rfl rfl (one_of HT_.out (by kernel_rfl)) (by decide) (fun K hK => ?_)
 have hs19 : w18.cell? ⟨gb605, 0, none⟩ = some (.int .i64 0) := (kC BK605.out 0).trans rfl
 have hfs19 := kF BK605.out 0
 have hns19_1 := NB615_605.out
 have hms19_1 := NB605_615.out
 have hs20 : w18.cell? ⟨gb605, 1, none⟩ = some (.int .i64 0) := (kC BK605.out 1).trans rfl
 have hfs20 := kF BK605.out 1
 have hns20_1 := NB615_605.out
 have hms20_1 := NB605_615.out
 have hs21 : w18.cell? ⟨gb605, 2, none⟩ = some (.int .i64 0) := (kC BK605.out 2).trans rfl
 have hfs21 := kF BK605.out 2
 have hns21_1 := NB615_605.out
 have hms21_1 := NB605_615.out
 refine skip_ (w1 := ?_) (by rfl) rfl ?_ ?_
 rotate_left
 ·go_simp
  rfl
 refine hK.out _ _ ⟨((cell_far (p := ⟨gb605, _, none⟩) NB615_605.out _).trans (((cell_far (p := ⟨gb605, _, none⟩) NB615_605.out _).trans (((cell_far (p := ⟨gb605, _, none⟩) NB615_605.out _).trans (hHeld.1)))))), ((cell_far (p := ⟨gb605, _, none⟩) NB615_605.out _).trans (((cell_far (p := ⟨gb605, _, none⟩) NB615_605.out _).trans (((cell_far (p := ⟨gb605, _, none⟩) NB615_605.out _).trans (hHeld.2.1)))))), ((cell_far (p := ⟨gb605, _, none⟩) NB615_605.out _).trans (((cell_far (p := ⟨gb605, _, none⟩) NB615_605.out _).trans (((cell_far (p := ⟨gb605, _, none⟩) NB615_605.out _).trans (hHeld.2.2))))))⟩ (fun hHeld => ?_)
 clear hK K
 refine pure_ (i := 10) (N := some 3) (v := ?_) (a' := ?_) #[bY,bY,bY,bY,bY,bY,bY,bY,bY,bY,bY,bN] rfl rfl (any_of HT_.out (by kernel_rfl)) (fun _ _ _ h => h) (Or.inl ⟨by rfl, ?_⟩) ?_ ?_
 rotate_left
 ·intro w'
  go_simp
  with_reducible rfl
 rotate_left
 ·simp only [Act.put, sTA, sZ, sS, i64_w, i32_w]
  rfl
 refine pure_ (i := 11) (N := some 4) (v := ?_) (a' := ?_) #[bY,bY,bY,bY,bY,bY,bY,bY,bY,bY,bY,bY] rfl rfl (any_of HT_.out (by kernel_rfl)) (fun _ _ _ h => h) (Or.inl ⟨by rfl, ?_⟩) ?_ ?_
 rotate_left
 ·intro w'
  go_simp
  with_reducible rfl
 rotate_left
 ·simp only [Act.put, sTA, sZ, sS, i64_w, i32_w]
  rfl
 refine done_ (done_of HT_.out (by kernel_rfl)) ?_
 try go_wp2
 refine bodyPost_ret (results_ctt rfl _ _ gb605 30 #[.int .i64 t610, .int .i64 t611, .int .i64 t612] (0, 0) _ rfl (by (with_reducible repeat (first | refine kDN ?_ _ | refine kD ?_ | refine kA ?_ _)); refine blk_put (cs := #[.int .i64 t610, .int .i64 t611, .int .i64 0]) ?_ 2 _ rfl; (with_reducible repeat (first | refine kDN ?_ _ | refine kD ?_ | refine kA ?_ _)); refine blk_put (cs := #[.int .i64 t610, .int .i64 0, .int .i64 0]) ?_ 1 _ rfl; (with_reducible repeat (first | refine kDN ?_ _ | refine kD ?_ | refine kA ?_ _)); refine blk_put (cs := #[.int .i64 0, .int .i64 0, .int .i64 0]) ?_ 0 _ rfl; (with_reducible repeat (first | refine kDN ?_ _ | refine kD ?_ | refine kA ?_ _)); exact BK605.out) Try.underlying30 rfl (by kernel_rfl)) rfl ?_
 exact ⟨_, by first | rfl | (simp [errW_none, errW_some] <;> rfl) | (simp [*, errW_none, errW_some] <;> rfl), by (with_reducible repeat (first | apply Kd.R_alloc | apply Kd.R_drewN | apply Kd.R_drew)); exact Kd.R_mono (zT3 HO622 BK605 (.int .i64 t610) (.int .i64 t611) (.int .i64 t612)) (fun _ hk => trivial), by repeat (first | (with_reducible first | exact HB.out | apply bAl | apply bDN | apply bD1 | refine bSt ?_ (IsS94.ge HI609.out) | refine bSt ?_ GE605.out | refine bSt ?_ GE615.out) | exact HB.out)⟩
theorem spec_DrawRescue.ctr {k : Nat} {l0 : List Int} {r1 : Int} {r2 : Int} {r3 : Int} {r4 : Int} {r5 : List Int} (h : spec_DrawRescue.f k l0 = some (r1, r2, r3, r4, r5)) : Ctr Try.prog 26 [.pr 1 (l0.map eU8)] (.tu [.ag [.v (.int .i64 r1), .v (.int .i64 r2), .v (.int .i64 r3)], .v (.int .i64 r4), .ow 3 1 (r5.map eI)]) := by
  refine ⟨enters_of Try.func26 rfl rfl, fun w ys hys => ?_⟩
  simp only [RepL, Rep] at hys
  obtain ⟨_, _, rfl, q1, rfl⟩ := hys
  obtain ⟨_, _, rfl, hr1, hc1⟩ := C_of_at E_eU8 q1
  refine (spec_DrawRescue.calls _ _ _ _ _ _ _ _ _ w hr1 hc1 h).mono ?_
  rintro _ w' ⟨v1, rfl, h1, hb⟩
  have o1 := row_of_R E_eI h1
  refine ⟨_, (bk v1).toList, rfl, ?_, by cases bk v1 <;> simp, (by first | exact hb | exact hb.below)⟩
  simp only [RepR, RepRL]
  exact ⟨_, rfl, _, _, [], (bk v1).toList, rfl, by simp, ⟨_, rfl, _, _, [], [], rfl, by simp, ⟨rfl, rfl⟩, _, _, [], [], rfl, by simp, ⟨rfl, rfl⟩, _, _, [], [], rfl, by simp, ⟨rfl, rfl⟩, rfl, rfl⟩, _, _, [], (bk v1).toList, rfl, by simp, ⟨rfl, rfl⟩, _, _, (bk v1).toList, [], rfl, by simp, ⟨o1, E_eI.row _, E_eI.pos, rfl⟩, rfl, rfl⟩
set_option maxRecDepth 20000 in set_option maxHeartbeats 4000000 in open Nat renaming reduceAdd → p1, reduceSub → p2, reduceMul → p3, reduceDiv → p4, reduceBNe → p5, reduceBEq → p6, reduceEqDiff → p7, reduceLeDiff → p8, reduceLT → p9 in open Int renaming reduceLE → p10, reduceLT → p11, reduceEq → p12 in
theorem impl_WaysFrom.ctr {k : Nat} {a0_0 : Int} {a0_1 : Int} {a0_2 : Int} {a1 : Int} {r : List Int} (h : impl_WaysFrom.f k a0_0 a0_1 a0_2 a1 = some r) : Ctr Try.prog 118 [.ag [.v (.int .i64 a0_0), .v (.int .i64 a0_1), .v (.int .i64 a0_2)], .v (.int .i64 a1)] (.ow 3 1 (r.map eI)) := by
  refine Ctr_of tyOk hm Try.func118 rfl rfl (by kernel_rfl) (n := 19) (rv := [.tmp 4]) rfl rfl ?_
  simp only [W, List.replicate]
  unfold impl_WaysFrom.f at h
  try simp only [W, p1, p2, p3, p4, p5, p6, p7, p8, p9, p10, p11, p12]
  refine loopN (fun x : Int × List Int × Int × Int × Int × Int => [.u, .v (.int .i64 x.1), .bp 32 0, .u, .u, .lo 80, .v (.int .i64 x.2.2.1), .u, .u, .u, .u, .u, .u, .u, .u, .u, .u, .u, .u, .u, .u]) (fun x => [(32, .box 30 [.v (.int .i64 x.2.2.2.1), .v (.int .i64 x.2.2.2.2.1), .v (.int .i64 x.2.2.2.2.2)]), (80, .row 3 1 (List.map eI x.2.1))]) (fun n x => impl_WaysFrom.l0 n x.1 x.2.1 x.2.2.1 x.2.2.2.1 x.2.2.2.2.1 x.2.2.2.2.2 = some r) (a1, ([] : List Int), 0, a0_0, a0_1, a0_2) [] h (by simp only [W, p1, p2, p3, p4, p5, p6, p7, p8, p9, p10, p11, p12] <;> trivial) (by simp only [W, p1, p2, p3, p4, p5, p6, p7, p8, p9, p10, p11, p12] <;> trivial) rfl (fun _ h => by cases h) ?_
  intro n1 ⟨x1, x2, x3, x4, x5, x6⟩ _ h
  simp only [impl_WaysFrom.l0] at h
  replace h := ifS h; rcases h with ⟨c7, h⟩ | ⟨c7, h⟩
  · replace h := bnd h; obtain ⟨t8, A, h⟩ := h
    try simp only [W, c7, p1, p2, p3, p4, p5, p6, p7, p8, p9, p10, p11, p12]
    refine callR (impl_Step.ctr A) ?_
    replace h := ifS h; rcases h with ⟨c9, h⟩ | ⟨c9, h⟩
    · replace h := ifN h; obtain ⟨c10, h⟩ := h
      try simp only [W, c7, c9, c10, p1, p2, p3, p4, p5, p6, p7, p8, p9, p10, p11, p12]
      exact nextN (x1, (x2 ++ [x3]), (wrap64 (x3 + 1)), x4, x5, x6) [(80, 304)] n1 (by omega) h (by simp only [W, p1, p2, p3, p4, p5, p6, p7, p8, p9, p10, p11, p12] <;> trivial) (by simp only [W, p1, p2, p3, p4, p5, p6, p7, p8, p9, p10, p11, p12] <;> trivial) rfl
    · try simp only [W, c7, c9, p1, p2, p3, p4, p5, p6, p7, p8, p9, p10, p11, p12]
      exact nextN (x1, x2, (wrap64 (x3 + 1)), x4, x5, x6) [] n1 (by omega) h (by simp only [W, p1, p2, p3, p4, p5, p6, p7, p8, p9, p10, p11, p12] <;> trivial) (by simp only [W, p1, p2, p3, p4, p5, p6, p7, p8, p9, p10, p11, p12] <;> trivial) rfl
  · cases h
    try simp only [W, c7, p1, p2, p3, p4, p5, p6, p7, p8, p9, p10, p11, p12]
set_option maxHeartbeats 8000000 in
set_option maxRecDepth 100000 in
theorem math_bits_Mul64.calls (a0 : Int) (a1 : Int) (r1 : Int) (r2 : Int) (w : World) (h : math_bits_Mul64.f a0 a1 = some (r1, r2)) :
  Calls Try.prog 149 #[.int .u64 a0, .int .u64 a1] w fun e w' => e = .returned (.tuple #[.int .u64 r1, .int .u64 r2]) ∧ Drawn0 w w' := by
 have H : (some (IntKind.u64.wrap ((IntKind.u64.wrap ((IntKind.u64.wrap ((a0 / 4294967296) * (a1 / 4294967296))) + ((IntKind.u64.wrap ((IntKind.u64.wrap ((a0 / 4294967296) * (Go.bits .and .u64 a1 4294967295))) + ((IntKind.u64.wrap ((Go.bits .and .u64 a0 4294967295) * (Go.bits .and .u64 a1 4294967295))) / 4294967296))) / 4294967296))) + ((IntKind.u64.wrap ((Go.bits .and .u64 (IntKind.u64.wrap ((IntKind.u64.wrap ((a0 / 4294967296) * (Go.bits .and .u64 a1 4294967295))) + ((IntKind.u64.wrap ((Go.bits .and .u64 a0 4294967295) * (Go.bits .and .u64 a1 4294967295))) / 4294967296))) 4294967295) + (IntKind.u64.wrap ((Go.bits .and .u64 a0 4294967295) * (a1 / 4294967296))))) / 4294967296)), IntKind.u64.wrap (a0 * a1))) = some (r1, r2) := h
 clear h
 simp only [Option.some.injEq, Prod.mk.injEq] at H
 obtain ⟨rfl, rfl⟩ := H
 go_enter Try.func149, Try.ntmps149
 go_wp2
 go_ret2
 exact ⟨by first | rfl | (simp; done) | (simp [*]; done), by repeat (first | exact Drawn0.refl _ | apply Drawn0.step)⟩
set_option maxHeartbeats 8000000 in
set_option maxRecDepth 100000 in
theorem math_bits_Mul.calls (a0 : Int) (a1 : Int) (r1 : Int) (r2 : Int) (w : World) (h : math_bits_Mul.f a0 a1 = some (r1, r2)) :
  Calls Try.prog 143 #[.int .u64 a0, .int .u64 a1] w fun e w' => e = .returned (.tuple #[.int .u64 r1, .int .u64 r2]) ∧ Drawn0 w w' := by
 have H : ((math_bits_Mul64.f a0 a1).bind fun bt630 => (some (bt630.1, bt630.2))) = some (r1, r2) := h
 clear h
 replace H := Option.bind_eq_some_iff.mp H
 obtain ⟨⟨t630, t631⟩, A30, H⟩ := H
 replace H : (some (t630, t631)) = some (r1, r2) := H
 have A3 := aK A30
 clear A30
 simp only [Option.some.injEq, Prod.mk.injEq] at H
 obtain ⟨rfl, rfl⟩ := H
 go_enter Try.func143, Try.ntmps143
 go_wp2_with (first | ((with_reducible refine gate_callee (f := 149) rfl ?_); refine goesL_ (some 25) rfl rfl Try.func149 (by kernel_rfl) rfl #[.int .u64 a0, .int .u64 a1] rfl zD ?_; (with_reducible refine (math_bits_Mul64.calls a0 a1 t630 t631 _ A3.out).mono ?_); rintro e w' ⟨rfl, ⟨nd, rfl⟩⟩; refine ⟨_, rfl, ?_⟩))
 go_ret2
 exact ⟨by first | rfl | (simp; done) | (simp [*]; done), by repeat (first | exact Drawn0.refl _ | apply Drawn0.step)⟩
theorem bits_nat_u {a b : Nat} (ha : a < 2 ^ 63) (hb : b < 2 ^ 63) : Go.bits .and .u64 (a : Int) (b : Int) = ((a &&& b : Nat) : Int) :=
  (bits_nat .u64 63 (by decide) (fun n h0 h1 => by simp [IntKind.wrap, IntKind.bits, IntKind.signed]; omega) a b ha hb).1
theorem mul_one_small {n : Nat} (hn : n ≤ 4096) : math_bits_Mul.f 1 (n : Int) = some (0, (n : Int)) := by
  have w : ∀ m : Nat, m < 18446744073709551616 → IntKind.u64.wrap (m : Int) = (m : Int) := fun m h => by simp [IntKind.wrap, IntKind.bits, IntKind.signed]; omega
  have e1 : Go.bits .and .u64 (n : Int) 4294967295 = (n : Int) := by
    have := bits_nat_u (a := n) (b := 4294967295) (by omega) (by decide)
    rw [show ((4294967295 : Nat) : Int) = 4294967295 from rfl] at this
    rw [this, show (4294967295 : Nat) = 2 ^ 32 - 1 from rfl, Nat.and_two_pow_sub_one_eq_mod, Nat.mod_eq_of_lt (by omega)]
  have e2 : Go.bits .and .u64 (1 : Int) 4294967295 = 1 := by decide
  have e3 : (n : Int) / 4294967296 = 0 := by omega
  have e0 : (1 : Int) / 4294967296 = 0 := by decide
  have z : IntKind.u64.wrap (0 : Int) = 0 := by decide
  have wn : IntKind.u64.wrap (n : Int) = (n : Int) := w n (by omega)
  have b0 : Go.bits .and .u64 (0 : Int) 4294967295 = 0 := by decide
  unfold math_bits_Mul.f math_bits_Mul64.f
  simp only [Option.bind_some, e0, e1, e2, e3, Int.zero_mul, Int.one_mul, Int.mul_zero, z, wn, Int.add_zero, Int.zero_add, b0, show (0 : Int) / 4294967296 = 0 from by decide]
theorem own_open {w : World} {base : Nat} {v : Value} {xs : List Int} {e : Nat} (h : Kd.R (Kd.int .i64) e w base (fun _ => True) v xs) (hx : 0 < xs.length) :
    ∃ g cap cur, v = .slice (some ⟨g, 0, none⟩) xs.length cap ∧ xs.length ≤ cap ∧ base ≤ g ∧ w.heap[g]? = some (.cells (List.toArray cur) e (0, 0)) ∧ cur.length = cap ∧ cap ≤ maxLen := by
  obtain ⟨_, h⟩ := Kd.own_of_R h
  rcases h with ⟨rfl, h0⟩ | ⟨g, cap, cur, rfl, hb, hh, hn, hc, hs, _⟩
  · omega
  · exact ⟨g, cap, cur.toList, rfl, hn, hb, by simpa using hh, by simpa using hs, hc⟩
set_option maxHeartbeats 600000 in
set_option maxRecDepth 100000 in
theorem slices_Repeat_int.calls (A0 : Option Addr) (c0 : Nat) (l0 : List Int) (a1 : Int) (r : List Int) (w : World) (hr0 : Kd.C (Kd.int .i64) w A0 l0.length l0) (hc0 : l0.length ≤ c0) (h : slices_Repeat_int.f l0 a1 = some r) :
  Calls Try.prog 129 #[.slice A0 l0.length c0, .int .i64 a1] w fun e w' => ∃ v0_ : Value, e = .returned (v0_) ∧ Kd.R (Kd.int .i64) 3 w' w.heap.size (fun _ => True) v0_ r ∧ Below w.heap.size w w' := by
 unfold slices_Repeat_int.f at h
 by_cases hl : l0.length = 1 ∧ 1 ≤ a1 ∧ a1 ≤ 4096
 ·rw [if_pos hl] at h
  obtain rfl := Option.some.inj h
  obtain ⟨h1, h2, h3⟩ := hl
  obtain ⟨x, rfl⟩ := List.length_eq_one_iff.1 h1
  obtain ⟨n, rfl⟩ : ∃ n : Nat, (n : Int) = a1 := ⟨a1.toNat, by omega⟩
  have hn1 : 1 ≤ n := by omega
  have hn2 : n ≤ 4096 := by omega
  have HN := aK (And.intro hn1 hn2)
  obtain ⟨ad, rfl, hx⟩ := Kd.at_int hr0 0 (by decide) (by simp)
  have HX := aK hx
  have hmul := aK (mul_one_small hn2)
  have d1 : decide ((n : Int) < 0) = false := decide_eq_false (by omega)
  have d2 : decide ((n : Int) > 9223372036854775807) = false := decide_eq_false (by omega)
  have d3 : IntKind.i64.wrap (n : Int) = (n : Int) := by simp [IntKind.wrap, IntKind.bits, IntKind.signed]; omega
  have d4 : IntKind.u64.wrap (n : Int) = (n : Int) := by simp [IntKind.wrap, IntKind.bits, IntKind.signed]; omega
  have HB0 := aK (Below.refl w.heap.size w)
  clear hr0 h h1 h2 h3 hx hc0
  simp only [Int.toNat_natCast] at *
  go_enter Try.func129, Try.ntmps129
  obtain ⟨X, hX⟩ : ∃ X : List Value, X = [.int .i64 (rd [x] 0)] := ⟨_, rfl⟩
  go_wp2_with (first | ((with_reducible refine gate_callee (f := 143) rfl ?_); refine goesL_ (some 18) rfl rfl Try.func143 (by kernel_rfl) rfl #[.int .u64 1, .int .u64 n] rfl (by (try simp only [List.map_toArray, List.map_cons, List.map_nil]); first | done | rfl) ?_; (with_reducible refine (math_bits_Mul.calls 1 n 0 n _ hmul.out).mono ?_); rintro e w' ⟨rfl, ⟨nd, rfl⟩⟩; refine ⟨_, rfl, ?_⟩) | ((with_reducible refine gate_dst (N := 30) rfl ?_); refine Kd.R_make (Kd.int .i64) (w0 := w) w.heap.size 3 rfl (N := 30) rfl 26 _ _ rfl (n : Int) rfl rfl Try.underlying26 (.int .i64 0) 8 info3 rfl (by decide) (by omega) 0 (ok := fun _ => True) (okp := fun _ => True) rfl (fun _ hk => hk) trivial (by omega) (by have := HN.out.2; omega) (by exact bDN HB0.out _) (by simp) ?_; intro v1 w1 hR hB1 hG1 hA1; have HR1 := aK hR; have HB1 := aK hB1; clear hR hB1 hG1 hA1; obtain ⟨g, cap, cur, rfl, hcap, hg1, hg2, hg3, hg4⟩ := own_open HR1.out (by have := HN.out.1; simp; omega); simp only [Int.toNat_natCast, List.length_replicate] at hcap; clear HR1; simp only [Int.toNat_natCast, List.length_replicate]; have HG1 := aK hg1; have HG2 := aK hg2; have HG3 := aK hg3; have HCAP := aK hcap; have HMAX := aK hg4; clear hg4; clear hg1 hg2 hg3 hcap) | ((with_reducible refine wpList_copy_splice rfl (.tmp 31) (.tmp 32) 26 26 rfl 3 Try.underlying26 rfl (some ⟨g, 0, none⟩) (some ad) _ _ _ _ rfl rfl g 0 cur 3 HG2.out X ?cn ?cp ?cf ?c1 w.heap.size w HB1.out HG1.out ?_); (case cn => subst hX; show 1 = _; have := HN.out; simp [Nat.min_def]; omega); (case cp => intro _; refine ⟨rfl, ad, rfl, fun j v hj => ?_⟩; subst hX; cases j with | zero => (simp at hj; subst hj; exact pw_cell_below HB1.out HX.out) | succ j => simp at hj); (case cf => subst hX; have := HN.out; have := HCAP.out; have := HG3.out; simp; omega); (case c1 => subst hX; intro v hv; simp at hv; subst hv; rfl); intro w2 HS2 hB2; have HB2 := aK hB2; clear hB2))
  have HS3 : Aside0 (∃ c2 : List Value, w2.heap[g]? = some (.cells c2.toArray 3 (0, 0)) ∧ c2.length = cap ∧ ∀ j, j < 1 → c2[j]? = some (.int .i64 (rd [x] 0))) := by
   refine ⟨⟨splice cur 0 X, HS2.out, ?_, fun j hj => ?_⟩⟩
   ·rw [length_splice _ _ _ (by subst hX; have := HN.out; have := HCAP.out; have := HG3.out; simp; omega)]; exact HG3.out
   ·obtain rfl : j = 0 := by omega
    subst hX; simp [splice]
  clear HS2 HG2 hX hmul HX HB1
  go_loopg [8] n (fun gg s8 wr => ∃ (kk : Nat), s8 = .int .i64 kk ∧ 1 ≤ kk ∧ kk ≤ n ∧ n - kk ≤ gg ∧ Aside0 (∃ c2 : List Value, wr.heap[g]? = some (.cells c2.toArray 3 (0, 0)) ∧ c2.length = cap ∧ ∀ j, j < kk → c2[j]? = some (.int .i64 (rd [x] 0))) ∧ Aside0 (Below w.heap.size w wr))
  case atStart => exact ⟨1, rfl, by omega, by omega, by omega, HS3, HB2⟩
  case round =>
   clear HS3 HB2
   obtain ⟨kk, rfl, hk1, hkn, hkg, HS, HB⟩ := hrel
   obtain ⟨c2, e2, l2, a2⟩ := HS.out
   have E2 := aK e2
   have L2 := aK l2
   have A2 := aK a2
   clear HS e2 l2 a2
   by_cases hlt : kk < n
   ·have hltz : (kk : Int) < (n : Int) := by omega
    have hkz : (0 : Int) ≤ (kk : Int) := by omega
    have hkc : kk < cap := by have := HCAP.out; omega
    obtain ⟨m, hm⟩ : ∃ m, m = Nat.min kk (n - kk) := ⟨_, rfl⟩
    have hm1 : 1 ≤ m := by rw [hm]; simp only [Nat.min_def]; split <;> omega
    have hm2 : m ≤ kk := by rw [hm]; exact Nat.min_le_left _ _
    have hm3 : kk + m ≤ n := by rw [hm]; simp only [Nat.min_def]; split <;> omega
    have HM := aK (And.intro hm1 (And.intro hm2 hm3))
    have HM0 := aK hm
    obtain ⟨X1, hX1⟩ : ∃ X1 : List Value, X1 = List.replicate m (.int .i64 (rd [x] 0)) := ⟨_, rfl⟩
    have X1L : Aside0 (X1.length = m) := ⟨by rw [hX1]; simp⟩
    have X1M : Aside0 (∀ v ∈ X1, v.oneCell' = true) := ⟨by rw [hX1]; intro v hv; rw [List.eq_of_mem_replicate hv]; rfl⟩
    have X1J : Aside0 (∀ j v, X1[j]? = some v → j < m ∧ v = .int .i64 (rd [x] 0)) := ⟨fun j v hv => by rw [hX1, List.getElem?_replicate] at hv; split at hv <;> simp_all⟩
    have SRC : Aside0 (∀ j v, X1[j]? = some v → wr.cell? ((⟨g, 0, none⟩ : Addr).add j) = some v) := ⟨fun j v hv => by
     obtain ⟨h1, rfl⟩ := X1J.out j v hv
     rw [add_plain]
     refine (kC E2.out _).trans ?_
     simp only [Nat.zero_add, List.getElem?_toArray]
     exact A2.out j (by omega)⟩
    have SPL : Aside0 (∀ j, j < kk + m → (splice c2 kk X1)[j]? = some (.int .i64 (rd [x] 0))) := ⟨fun j hj => by
     have hl := L2.out
     unfold splice
     by_cases h : j < kk
     ·rw [List.getElem?_append_left (by simp; omega), List.getElem?_take, if_pos h]; exact A2.out j h
     ·rw [List.getElem?_append_right (by simp; omega), List.length_take, Nat.min_eq_left (by omega), List.getElem?_append_left (by rw [X1L.out]; omega), hX1, List.getElem?_replicate, if_pos (by omega)]⟩
    have d5 : IntKind.i64.wrap ((kk : Int) + (m : Int)) = ((kk + m : Nat) : Int) := by have := HN.out; simp [IntKind.wrap, IntKind.bits, IntKind.signed]; omega
    have k1 : (kk ≤ cap) = True := eq_true (by omega)
    have k2 : (cap = kk) = False := eq_false (by omega)
    have k3 : (kk ≤ n) = True := eq_true (by omega)
    clear hm hX1
    go_wp2
    go_region_law (refine step_copy_splice rfl (.tmp 41) (.tmp 44) 26 26 rfl 3 Try.underlying26 rfl (some ⟨g, kk, none⟩) (some ⟨g, 0, none⟩) (n - kk) (cap - kk) kk cap (by simp [Act.eval, Act.put]) (by simp [Act.eval, Act.put]) g kk c2 3 (by exact E2.out) X1 (by rw [X1L.out, HM0.out]) (fun _ => ⟨rfl, _, rfl, by exact SRC.out⟩) (by have := X1L.out; have := L2.out; have := HCAP.out; have := HM.out; omega) X1M.out w.heap.size w (bD1 HB.out) HG1.out ?_; intro w4 hg4 hb4)
    go_wp2
    go_roundg (n - (kk + m))
    case measure => have := HM.out; omega
    case rel =>
     refine ⟨kk + m, by rw [X1L.out]; exact congrArg _ d5, by have := HM.out; omega, by have := HM.out; omega, Nat.le_refl _, ⟨⟨splice c2 kk X1, hg4.out, ?_, SPL.out⟩⟩, ⟨hb4⟩⟩
     rw [length_splice _ _ _ (by have := X1L.out; have := L2.out; have := HCAP.out; have := HM.out; omega)]
     exact L2.out
   ·have hltz : ¬ (kk : Int) < (n : Int) := by omega
    obtain rfl : kk = n := by omega
    go_wp2
    go_ret
    refine ⟨_, rfl, ?_, HB.out⟩
    refine Kd.R_of_own ?_ (fun _ _ => trivial)
    refine ⟨by simp [encs], .inr ⟨g, cap, c2.toArray, by simp, HG1.out, E2.out, by simpa using HCAP.out, HMAX.out, by have := L2.out; simpa using this, ?_⟩⟩
    apply List.ext_getElem?
    intro j
    rw [List.getElem?_take]
    by_cases hj : j < kk
    ·rw [if_pos (by simpa using hj), List.toList_toArray, A2.out j hj]
     simp [encs, hj]
    ·rw [if_neg (by simpa using hj)]
     simp [encs]; omega
 ·rw [if_neg hl] at h
  exact absurd h (by simp)
theorem slices_Repeat_int.ctr {l0 : List Int} {a1 : Int} {r : List Int} (h : slices_Repeat_int.f l0 a1 = some r) : Ctr Try.prog 129 [.pr 1 (l0.map eI), .v (.int .i64 a1)] (.ow 3 1 (r.map eI)) := by
  refine ⟨enters_of Try.func129 rfl rfl, fun w ys hys => ?_⟩
  simp only [RepL, Rep] at hys
  obtain ⟨_, _, rfl, q1, _, _, rfl, rfl, rfl⟩ := hys
  obtain ⟨_, _, rfl, hr1, hc1⟩ := C_of_at E_eI q1
  refine (slices_Repeat_int.calls _ _ _ _ _ w hr1 hc1 h).mono ?_
  rintro _ _ ⟨v, rfl, hv, hb⟩
  exact ⟨v, (bk v).toList, rfl, by simp only [RepR]; exact ⟨row_of_R E_eI hv, E_eI.row _, E_eI.pos, trivial⟩, by cases bk v <;> simp, (by first | exact hb | exact hb.below)⟩
end Go.Proofs.Ytccjanhdnheclaa.F
end
