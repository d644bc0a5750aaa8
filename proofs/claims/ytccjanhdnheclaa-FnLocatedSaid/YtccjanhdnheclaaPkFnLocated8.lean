/- Packed by a program of the session (wip/tools/pack.py): what the claim's theorem reaches, of the texts that wip/ and the kit's printer lay. -/
import Derived.Test.YtccjanhdnheclaaPkFnLocated7
import Derived.Deep.QuietTactic
import Derived.BigQuiet
import Derived.StillTailTactics
section
namespace Go.Proofs.Ytccjanhdnheclaa.F
open Go.RowKit Go.Proofs.YtccjanhdnheclaaW.PrintWords Go.Proofs.YtccjanhdnheclaaW.PrintLast Go.Proofs.YtccjanhdnheclaaW.PrintMore
set_option linter.unusedVariables false
set_option linter.unusedSimpArgs false
attribute [local go_sem] max2_int min2_int max_two min_two
def spec_l03Tree.T19 : Bool × List (List Nat × List Nat) := (true, [([], []), ([], []), ([0, 1], [0, 1]), ([2], [2]), ([], []), ([], []), ([4, 5], [4, 5]), ([6], [6]), ([3, 7], [3, 7])])
def spec_l03Tree.B19 : List Nat := [0, 0, 3, 7, 0, 0, 48, 112, 255]
theorem spec_l03Tree.tab19 : rtab .any (opsOf Try.f80 19) = spec_l03Tree.T19 := by kernel_rfl
theorem spec_l03Tree.bits19 : waitsOk spec_l03Tree.T19.2 spec_l03Tree.B19 = true := by kernel_rfl
set_option maxHeartbeats 8000000 in
set_option maxRecDepth 100000 in
theorem spec_l03Tree.calls (k : Nat) (g : Nat) (s0_0 : List Int) (s0_1 : Int) (s0_2 : Int) (a1_0 : Int) (a1_1 : Int) (r1 : Int) (r2 : Int) (r3 : Int) (r4 : Int) (r5 : Int) (w0 w : World) (hI : IsS94 w0 w g s0_0 s0_1 s0_2) (hB : Below w0.heap.size w0 w) (h : spec_l03Tree.f k s0_0 s0_1 s0_2 a1_0 a1_1 = some (r1, r2, r3, r4, r5)) :
  Calls Try.prog 80 #[.pointer (some ⟨g, 0, none⟩), .agg #[.int .i64 a1_0, .int .i64 a1_1]] w fun e w' => e = .returned (.agg #[.int .i64 r1, .int .i64 r2, .int .i64 r3]) ∧ IsS94 w0 w' g s0_0 r4 r5 ∧ Below w0.heap.size w0 w' ∧ KeepBut w w' g none := by
 have hu28 := Try.underlying28
 have hu30 := Try.underlying30
 have HI0 := aK hI
 have HK := aK (KeepBut.refl w g none)
 have HL := aK hB.size
 clear hI
 have HW0 := aK hB.size
 have HB := aK hB
 clear hB
 have H : ((spec_CountGaps.f a1_0 a1_1).bind fun t391 => ((spec_CountCells.f a1_0 a1_1).bind fun t392 => (if 0 ≤ t392 then (if (t392 : Int).toNat ≤ 35184372088832 then (spec_l03Tree.l0 k t391 (List.replicate (t392 : Int).toNat 0) 0 s0_0 s0_1 s0_2 a1_0 a1_1 a1_0 a1_1 0) else (none)) else (none)))) = some (r1, r2, r3, r4, r5) := h
 clear h
 replace H := Option.bind_eq_some_iff.mp H
 obtain ⟨t391, A30, H⟩ := H
 replace H : ((spec_CountCells.f a1_0 a1_1).bind fun t392 => (if 0 ≤ t392 then (if (t392 : Int).toNat ≤ 35184372088832 then (spec_l03Tree.l0 k t391 (List.replicate (t392 : Int).toNat 0) 0 s0_0 s0_1 s0_2 a1_0 a1_1 a1_0 a1_1 0) else (none)) else (none))) = some (r1, r2, r3, r4, r5) := H
 have A3 := aK A30
 clear A30
 replace H := Option.bind_eq_some_iff.mp H
 obtain ⟨t392, A40, H⟩ := H
 replace H : (if 0 ≤ t392 then (if (t392 : Int).toNat ≤ 35184372088832 then (spec_l03Tree.l0 k t391 (List.replicate (t392 : Int).toNat 0) 0 s0_0 s0_1 s0_2 a1_0 a1_1 a1_0 a1_1 0) else (none)) else (none)) = some (r1, r2, r3, r4, r5) := H
 have A4 := aK A40
 clear A40
 by_cases c5 : 0 ≤ t392
 ·rw [if_pos c5] at H
  have c5b0 := eq_true c5
  have c5b1 : decide (0 ≤ t392) = true := decide_eq_true c5
  clear c5
  by_cases c6 : (t392 : Int).toNat ≤ 35184372088832
  ·rw [if_pos c6] at H
   have c6b0 := eq_true c6
   have c6b1 : decide ((t392 : Int).toNat ≤ 35184372088832) = true := decide_eq_true c6
   clear c6
   obtain ⟨y393, hy393⟩ : ∃ y_ : List Int, y_ = (List.replicate (t392 : Int).toNat 0) := ⟨_, rfl⟩
   replace H : (spec_l03Tree.l0 k t391 y393 0 s0_0 s0_1 s0_2 a1_0 a1_1 a1_0 a1_1 0) = some (r1, r2, r3, r4, r5) := by first | (rw [hy393]; with_reducible exact H) | (have H2_ := (Option.bind_some _ _).symm.trans H; rw [hy393]; with_reducible exact H2_) | (have H2_ := (Option.bind_some _ _).symm.trans H; with_reducible exact H2_) | with_reducible exact H | (rw [hy393]; exact H) | exact H
   have Ny393 := aK hy393
   clear hy393
   have H' := aK H
   clear H
   go_enter Try.func80, Try.ntmps80
   go_wp2_with (first | ((with_reducible refine gate_dst (N := 3) rfl ?_); refine box_event ?hg (N := 3) ?hd (cs := #[.int .i64 a1_0, .int .i64 a1_1]) (t := 28) ?hr ?_; (case hd => rfl); (case hg => rfl); (case hr => first | (go_simp; done) | (go_simp; rfl)); intro gb388 hg w7 hbox hb; replace HB := aK (bSp (by repeat (first | (with_reducible first | exact HB.out | apply bAl | apply bDN | apply bD1 | refine bSt ?_ (IsS94.ge HI0.out)) | exact HB.out)) hb); have BK388 := aK (hbox); have GW388 := aK ((by rw [hg]; exact (keep_size (w := w) (g := g) (row := none) (by repeat (first | (with_reducible first | exact HK.out | apply KeepBut.set_ | apply keep_drewN | apply keep_drew | apply keep_alloc) | exact HK.out))) : w.heap.size ≤ gb388)); have GE388 := aK ((Nat.le_trans HW0.out (by rw [hg]; exact (keep_size (w := w) (g := g) (row := none) (by repeat (first | (with_reducible first | exact HK.out | apply KeepBut.set_ | apply keep_drewN | apply keep_drew | apply keep_alloc) | exact HK.out))) : w.heap.size ≤ gb388) : w0.heap.size ≤ gb388)); replace HK := aK (KeepBut.trans (by repeat (first | (with_reducible first | exact HK.out | apply KeepBut.set_ | apply keep_drewN | apply keep_drew | apply keep_alloc) | exact HK.out)) (KeepBut.of_below hb g none) (.inl rfl)); have NB0_388 := aK ((by rw [hg]; exact Nat.ne_of_lt (IsS94.lt (show IsS94 w0 _ g s0_0 s0_1 s0_2 from by repeat (first | (with_reducible first | exact HI0.out | apply IsS94.alloc | apply IsS94.drewN | apply IsS94.drew | apply IsS94.set_1 | apply IsS94.set_2) | exact HI0.out))) : g ≠ gb388)); have NB388_0 := aK ((by rw [hg]; exact Nat.ne_of_gt (IsS94.lt (show IsS94 w0 _ g s0_0 s0_1 s0_2 from by repeat (first | (with_reducible first | exact HI0.out | apply IsS94.alloc | apply IsS94.drewN | apply IsS94.drew | apply IsS94.set_1 | apply IsS94.set_2) | exact HI0.out))) : gb388 ≠ g)); replace HI0 := aK (IsS94.below (by repeat (first | (with_reducible first | exact HI0.out | apply IsS94.alloc | apply IsS94.drewN | apply IsS94.drew | apply IsS94.set_1 | apply IsS94.set_2) | exact HI0.out)) hb); clear hb hbox hg) | ((with_reducible refine gate_dst (N := 4) rfl ?_); refine box_event ?hg (N := 4) ?hd (cs := #[.int .i64 0, .int .i64 0, .int .i64 0]) (t := 30) ?hr ?_; (case hd => rfl); (case hg => rfl); (case hr => first | (go_simp; done) | (go_simp; rfl)); intro gb389 hg w8 hbox hb; replace HB := aK (bSp (by repeat (first | (with_reducible first | exact HB.out | apply bAl | apply bDN | apply bD1 | refine bSt ?_ (IsS94.ge HI0.out) | refine bSt ?_ GE388.out) | exact HB.out)) hb); have BK389 := aK (hbox); have GW389 := aK ((by rw [hg]; exact (keep_size (w := w) (g := g) (row := none) (by repeat (first | (with_reducible first | exact HK.out | apply KeepBut.set_ | apply keep_drewN | apply keep_drew | apply keep_alloc | refine keep_far ?_ GW388.out _) | exact HK.out))) : w.heap.size ≤ gb389)); have GE389 := aK ((Nat.le_trans HW0.out (by rw [hg]; exact (keep_size (w := w) (g := g) (row := none) (by repeat (first | (with_reducible first | exact HK.out | apply KeepBut.set_ | apply keep_drewN | apply keep_drew | apply keep_alloc | refine keep_far ?_ GW388.out _) | exact HK.out))) : w.heap.size ≤ gb389) : w0.heap.size ≤ gb389)); replace HK := aK (KeepBut.trans (by repeat (first | (with_reducible first | exact HK.out | apply KeepBut.set_ | apply keep_drewN | apply keep_drew | apply keep_alloc | refine keep_far ?_ GW388.out _) | exact HK.out)) (KeepBut.of_below hb g none) (.inl rfl)); have NB388_389 := nbl BK388 hg (by intro z_; (with_reducible repeat (first | refine kDN ?_ _ | refine kD ?_ | refine blk_alloc ?_ _)); exact z_); replace BK388 := zB BK388 hb; have NB389_388 := nbs NB388_389; have NB0_389 := aK ((by rw [hg]; exact Nat.ne_of_lt (IsS94.lt (show IsS94 w0 _ g s0_0 s0_1 s0_2 from by repeat (first | (with_reducible first | exact HI0.out | apply IsS94.alloc | apply IsS94.drewN | apply IsS94.drew | apply IsS94.set_1 | apply IsS94.set_2 | refine IsS94.far ?_ NB0_388.out _) | exact HI0.out))) : g ≠ gb389)); have NB389_0 := aK ((by rw [hg]; exact Nat.ne_of_gt (IsS94.lt (show IsS94 w0 _ g s0_0 s0_1 s0_2 from by repeat (first | (with_reducible first | exact HI0.out | apply IsS94.alloc | apply IsS94.drewN | apply IsS94.drew | apply IsS94.set_1 | apply IsS94.set_2 | refine IsS94.far ?_ NB0_388.out _) | exact HI0.out))) : gb389 ≠ g)); replace HI0 := aK (IsS94.below (by repeat (first | (with_reducible first | exact HI0.out | apply IsS94.alloc | apply IsS94.drewN | apply IsS94.drew | apply IsS94.set_1 | apply IsS94.set_2 | refine IsS94.far ?_ NB0_388.out _) | exact HI0.out)) hb); clear hb hbox hg; have hnb9 := NB388_389.out; have hnc9 := NB389_388.out; have hnb10 := NB388_0.out; have hnc10 := NB0_388.out; obtain ⟨hcz11_0, hcz11_1, hfz11_0, hfz11_1⟩ := cl2 BK388.out) | ((with_reducible refine gate_dst (N := 5) rfl ?_); refine box_event ?hg (N := 5) ?hd (cs := #[.int .i64 0, .int .i64 0, .int .i64 0]) (t := 30) ?hr ?_; (case hd => rfl); (case hg => rfl); (case hr => first | (go_simp; done) | (go_simp; rfl)); intro gb390 hg w12 hbox hb; replace HB := aK (bSp (by repeat (first | (with_reducible first | exact HB.out | apply bAl | apply bDN | apply bD1 | refine bSt ?_ (IsS94.ge HI0.out) | refine bSt ?_ GE388.out | refine bSt ?_ GE389.out) | exact HB.out)) hb); have BK390 := aK (hbox); have GW390 := aK ((by rw [hg]; exact (keep_size (w := w) (g := g) (row := none) (by repeat (first | (with_reducible first | exact HK.out | apply KeepBut.set_ | apply keep_drewN | apply keep_drew | apply keep_alloc | refine keep_far ?_ GW388.out _ | refine keep_far ?_ GW389.out _) | exact HK.out))) : w.heap.size ≤ gb390)); have GE390 := aK ((Nat.le_trans HW0.out (by rw [hg]; exact (keep_size (w := w) (g := g) (row := none) (by repeat (first | (with_reducible first | exact HK.out | apply KeepBut.set_ | apply keep_drewN | apply keep_drew | apply keep_alloc | refine keep_far ?_ GW388.out _ | refine keep_far ?_ GW389.out _) | exact HK.out))) : w.heap.size ≤ gb390) : w0.heap.size ≤ gb390)); replace HK := aK (KeepBut.trans (by repeat (first | (with_reducible first | exact HK.out | apply KeepBut.set_ | apply keep_drewN | apply keep_drew | apply keep_alloc | refine keep_far ?_ GW388.out _ | refine keep_far ?_ GW389.out _) | exact HK.out)) (KeepBut.of_below hb g none) (.inl rfl)); have NB388_390 := nbl BK388 hg (by intro z_; (with_reducible repeat (first | refine kDN ?_ _ | refine kD ?_ | refine blk_alloc ?_ _)); exact z_); replace BK388 := zB BK388 hb; have NB390_388 := nbs NB388_390; have NB389_390 := nbl BK389 hg (by intro z_; (with_reducible repeat (first | refine kDN ?_ _ | refine kD ?_ | refine blk_alloc ?_ _)); exact z_); replace BK389 := zB BK389 hb; have NB390_389 := nbs NB389_390; have NB0_390 := aK ((by rw [hg]; exact Nat.ne_of_lt (IsS94.lt (show IsS94 w0 _ g s0_0 s0_1 s0_2 from by repeat (first | (with_reducible first | exact HI0.out | apply IsS94.alloc | apply IsS94.drewN | apply IsS94.drew | apply IsS94.set_1 | apply IsS94.set_2 | refine IsS94.far ?_ NB0_388.out _ | refine IsS94.far ?_ NB0_389.out _) | exact HI0.out))) : g ≠ gb390)); have NB390_0 := aK ((by rw [hg]; exact Nat.ne_of_gt (IsS94.lt (show IsS94 w0 _ g s0_0 s0_1 s0_2 from by repeat (first | (with_reducible first | exact HI0.out | apply IsS94.alloc | apply IsS94.drewN | apply IsS94.drew | apply IsS94.set_1 | apply IsS94.set_2 | refine IsS94.far ?_ NB0_388.out _ | refine IsS94.far ?_ NB0_389.out _) | exact HI0.out))) : gb390 ≠ g)); replace HI0 := aK (IsS94.below (by repeat (first | (with_reducible first | exact HI0.out | apply IsS94.alloc | apply IsS94.drewN | apply IsS94.drew | apply IsS94.set_1 | apply IsS94.set_2 | refine IsS94.far ?_ NB0_388.out _ | refine IsS94.far ?_ NB0_389.out _) | exact HI0.out)) hb); clear hb hbox hg; have hnb13 := NB390_388.out; have hnc13 := NB388_390.out; have hnb14 := NB390_389.out; have hnc14 := NB389_390.out; have hnb15 := NB390_0.out; have hnc15 := NB0_390.out; obtain ⟨hcz16_0, hcz16_1, hcz16_2, hfz16_0, hfz16_1, hfz16_2⟩ := cl3 BK390.out; obtain ⟨hcz17_0, hcz17_1, hfz17_0, hfz17_1⟩ := cl2 BK388.out) | ((with_reducible refine gate_callee (f := 68) rfl ?_); refine goesL_ (some 20) rfl rfl Try.func68 (by kernel_rfl) rfl #[.agg #[.int .i64 a1_0, .int .i64 a1_1]] rfl zD ?_; (with_reducible refine (spec_CountGaps.calls a1_0 a1_1 t391 _ A3.out).mono ?_); rintro e w18 ⟨rfl, hb⟩; refine ⟨_, rfl, ?_⟩; replace BK388 := zG3 BK388 NB388_390 hb; replace BK389 := zG3 BK389 NB389_390 hb; replace BK390 := aK (blk_below (g := gb390) (o := .cells #[.int .i64 a1_0, .int .i64 a1_1, .int .i64 0] 30 (0, 0)) (by (with_reducible repeat (first | refine kDN ?_ _ | refine kD ?_ | refine blk_alloc ?_ _)); refine blk_put (cs := #[.int .i64 a1_0, .int .i64 a1_1, .int .i64 0]) ?_ 2 _ rfl; (with_reducible repeat (first | refine kDN ?_ _ | refine kD ?_ | refine blk_alloc ?_ _)); refine blk_put (cs := #[.int .i64 a1_0, .int .i64 0, .int .i64 0]) ?_ 1 _ rfl; (with_reducible repeat (first | refine kDN ?_ _ | refine kD ?_ | refine blk_alloc ?_ _)); refine blk_put (cs := #[.int .i64 0, .int .i64 0, .int .i64 0]) ?_ 0 _ rfl; (with_reducible repeat (first | refine kDN ?_ _ | refine kD ?_ | refine blk_alloc ?_ _)); exact BK390.out) hb); replace HK := aK (KeepBut.trans (by repeat (first | (with_reducible first | exact HK.out | apply KeepBut.set_ | apply keep_drewN | apply keep_drew | apply keep_alloc | refine keep_far ?_ GW388.out _ | refine keep_far ?_ GW389.out _ | refine keep_far ?_ GW390.out _) | exact HK.out)) (KeepBut.of_below hb g none) (.inl rfl)); replace HB := aK (bSp (by repeat (first | (with_reducible first | exact HB.out | apply bAl | apply bDN | apply bD1 | refine bSt ?_ (IsS94.ge HI0.out) | refine bSt ?_ GE388.out | refine bSt ?_ GE389.out | refine bSt ?_ GE390.out) | exact HB.out)) hb); replace HI0 := aK (IsS94.below (show IsS94 w0 (((w12.setCell ⟨gb390, 0, none⟩ (.int .i64 a1_0)).setCell ⟨gb390, 1, none⟩ (.int .i64 a1_1)).setCell ⟨gb390, 2, none⟩ (.int .i64 0)) g s0_0 s0_1 s0_2 from by repeat (first | (with_reducible first | exact HI0.out | apply IsS94.alloc | apply IsS94.drewN | apply IsS94.drew | apply IsS94.set_1 | apply IsS94.set_2 | refine IsS94.far ?_ NB0_388.out _ | refine IsS94.far ?_ NB0_389.out _ | refine IsS94.far ?_ NB0_390.out _) | exact HI0.out)) hb); (try clear hb); (try clear hb2); (try clear hk); (try clear hi); obtain ⟨hcz19_0, hcz19_1, hfz19_0, hfz19_1⟩ := cl2 BK388.out) | ((with_reducible refine gate_callee (f := 22) rfl ?_); refine goesL_ (some 22) rfl rfl Try.func22 (by kernel_rfl) rfl #[.agg #[.int .i64 a1_0, .int .i64 a1_1]] rfl zD ?_; (with_reducible refine (spec_CountCells.calls a1_0 a1_1 t392 _ A4.out).mono ?_); rintro e w20 ⟨rfl, hb⟩; refine ⟨_, rfl, ?_⟩; replace BK388 := zB BK388 hb; replace BK389 := zB BK389 hb; replace BK390 := zB BK390 hb; replace HK := aK (KeepBut.trans (by repeat (first | (with_reducible first | exact HK.out | apply KeepBut.set_ | apply keep_drewN | apply keep_drew | apply keep_alloc | refine keep_far ?_ GW388.out _ | refine keep_far ?_ GW389.out _ | refine keep_far ?_ GW390.out _) | exact HK.out)) (KeepBut.of_below hb g none) (.inl rfl)); replace HB := aK (bSp (by repeat (first | (with_reducible first | exact HB.out | apply bAl | apply bDN | apply bD1 | refine bSt ?_ (IsS94.ge HI0.out) | refine bSt ?_ GE388.out | refine bSt ?_ GE389.out | refine bSt ?_ GE390.out) | exact HB.out)) hb); replace HI0 := aK (IsS94.below (by repeat (first | (with_reducible first | exact HI0.out | apply IsS94.alloc | apply IsS94.drewN | apply IsS94.drew | apply IsS94.set_1 | apply IsS94.set_2 | refine IsS94.far ?_ NB0_388.out _ | refine IsS94.far ?_ NB0_389.out _ | refine IsS94.far ?_ NB0_390.out _) | exact HI0.out)) hb); (try clear hb); (try clear hb2); (try clear hk); (try clear hi)) | ((with_reducible refine gate_dst (N := 23) rfl ?_); refine Kd.R_make (Kd.int .i64) _ 3 rfl (N := 23) rfl 26 _ _ rfl t392 rfl rfl Try.underlying26 (.int .i64 0) 8 info3 rfl (by decide) (by omega) 0 (ok := fun _ => True) (okp := fun _ => True) rfl (fun _ hk => hk) trivial (of_decide_eq_true (by first | (with_reducible assumption) | assumption)) (Nat.le_trans (Nat.mul_le_mul_right _ (of_decide_eq_true (by first | (with_reducible assumption) | assumption) : t392.toNat ≤ 35184372088832)) (by omega)) (Below.refl _ _) (Nat.le_refl _) ?_; intro v394 w21 ho22 hb hg_ hnew_; clear hg_ hnew_; (first | rw [← Ny393.out] at ho22 | (simp only [Int.reduceToNat] at ho22; rw [← Ny393.out] at ho22)); have HO395 := aK (Kd.R_lower ho22 (keep_size (w := w) (g := g) (row := none) (by repeat (first | (with_reducible first | exact HK.out | apply KeepBut.set_ | apply keep_drewN | apply keep_drew | apply keep_alloc | refine keep_far ?_ GW388.out _ | refine keep_far ?_ GW389.out _ | refine keep_far ?_ GW390.out _) | exact HK.out)))); replace BK388 := zB BK388 hb; replace BK389 := zB BK389 hb; replace BK390 := zB BK390 hb; replace HK := aK (KeepBut.trans (by repeat (first | (with_reducible first | exact HK.out | apply KeepBut.set_ | apply keep_drewN | apply keep_drew | apply keep_alloc | refine keep_far ?_ GW388.out _ | refine keep_far ?_ GW389.out _ | refine keep_far ?_ GW390.out _) | exact HK.out)) (KeepBut.of_below hb g none) (.inl rfl)); replace HB := aK (bSp (by repeat (first | (with_reducible first | exact HB.out | apply bAl | apply bDN | apply bD1 | refine bSt ?_ (IsS94.ge HI0.out) | refine bSt ?_ GE388.out | refine bSt ?_ GE389.out | refine bSt ?_ GE390.out) | exact HB.out)) hb); replace HI0 := aK (IsS94.below (by repeat (first | (with_reducible first | exact HI0.out | apply IsS94.alloc | apply IsS94.drewN | apply IsS94.drew | apply IsS94.set_1 | apply IsS94.set_2 | refine IsS94.far ?_ NB0_388.out _ | refine IsS94.far ?_ NB0_389.out _ | refine IsS94.far ?_ NB0_390.out _) | exact HI0.out)) hb); clear hb ho22))
   go_loopg [8] k (fun kq v8 w' => ∃ (x7_1 : List Int) (x8_1 : Int), v8 = .int .i64 x8_1 ∧ Aside0 (spec_l03Tree.l0 kq t391 x7_1 x8_1 s0_0 s0_1 s0_2 a1_0 a1_1 a1_0 a1_1 0 = some (r1, r2, r3, r4, r5)) ∧ Aside0 (kq ≤ k) ∧ Aside0 (Kd.R (Kd.int .i64) 3 w' w.heap.size (fun _ => True) v394 x7_1) ∧ Aside0 (w'.heap[gb388]? = some (.cells #[.int .i64 a1_0, .int .i64 a1_1] 28 (0, 0))) ∧ Aside0 (w'.heap[gb389]? = some (.cells #[.int .i64 0, .int .i64 0, .int .i64 0] 30 (0, 0))) ∧ Aside0 (w'.heap[gb390]? = some (.cells #[.int .i64 a1_0, .int .i64 a1_1, .int .i64 0] 30 (0, 0))) ∧ Aside0 (IsS94 w0 w' g s0_0 s0_1 s0_2) ∧ Aside0 (KeepBut w w' g none) ∧ Aside0 (Below w0.heap.size w0 w'))
   case atStart => exact ⟨(y393), (0), (by first | rfl | (simp; done) | (simp [*]; done)), H', ⟨Nat.le_refl _⟩, ⟨zA HO395⟩, ⟨zK BK388⟩, ⟨zK BK389⟩, ⟨zK BK390⟩, ⟨by repeat (first | (with_reducible first | exact HI0.out | apply IsS94.alloc | apply IsS94.drewN | apply IsS94.drew | apply IsS94.set_1 | apply IsS94.set_2 | refine IsS94.far ?_ NB0_388.out _ | refine IsS94.far ?_ NB0_389.out _ | refine IsS94.far ?_ NB0_390.out _) | exact HI0.out)⟩, ⟨by repeat (first | (with_reducible first | exact HK.out | apply KeepBut.set_ | apply keep_drewN | apply keep_drew | apply keep_alloc | refine keep_far ?_ GW388.out _ | refine keep_far ?_ GW389.out _ | refine keep_far ?_ GW390.out _) | exact HK.out)⟩, ⟨by repeat (first | (with_reducible first | exact HB.out | apply bAl | apply bDN | apply bD1 | refine bSt ?_ (IsS94.ge HI0.out) | refine bSt ?_ GE388.out | refine bSt ?_ GE389.out | refine bSt ?_ GE390.out) | exact HB.out)⟩⟩
   case round =>
    clear H'
    try clear c1
    try clear c2
    try clear p2
    try clear c5
    try clear c5b0
    try clear c5b1
    try clear c6
    try clear c6b0
    try clear c6b1
    try clear c8
    try clear c9
    try clear c10
    try clear c13
    try clear c14
    try clear c15
    try clear c22
    try clear hcz11_0
    try clear hcz11_1
    try clear hcz16_0
    try clear hcz16_1
    try clear hcz16_2
    try clear hcz17_0
    try clear hcz17_1
    try clear hcz19_0
    try clear hcz19_1
    try clear hfz11_0
    try clear hfz11_1
    try clear hfz16_0
    try clear hfz16_1
    try clear hfz16_2
    try clear hfz17_0
    try clear hfz17_1
    try clear hfz19_0
    try clear hfz19_1
    obtain ⟨x7_1, x8_1, rfl, HA, HK1, HO_7, BK388, BK389, BK390, HI0, HK, HB⟩ := hrel
    cases gk with
    | zero => exact absurd HA.out (by simp [spec_l03Tree.l0])
    | succ k1 =>
     have H := HA.out
     clear HA
     simp only [spec_l03Tree.l0] at H
     by_cases c23 : x8_1 < (x7_1.length : Int)
     ·rw [if_pos c23] at H
      have c23b0 : decide (x8_1 < (x7_1.length : Int)) = true := decide_eq_true c23
      clear c23
      by_cases c24 : 0 ≤ x8_1
      ·rw [if_pos c24] at H
       have c24b0 : decide (0 ≤ x8_1) = true := decide_eq_true c24
       clear c24
       obtain ⟨y396, hy396⟩ : ∃ y_ : List Int, y_ = (x7_1.set (x8_1 : Int).toNat x8_1) := ⟨_, rfl⟩
       replace H : (spec_l03Tree.l0 k1 t391 y396 (wrap64 (x8_1 + 1)) s0_0 s0_1 s0_2 a1_0 a1_1 a1_0 a1_1 0) = some (r1, r2, r3, r4, r5) := by first | (rw [hy396]; with_reducible exact H) | (have H2_ := (Option.bind_some _ _).symm.trans H; rw [hy396]; with_reducible exact H2_) | (have H2_ := (Option.bind_some _ _).symm.trans H; with_reducible exact H2_) | with_reducible exact H | (rw [hy396]; exact H) | exact H
       have Ny396 := aK hy396
       clear hy396
       have H' := aK H
       clear H
       obtain ⟨Ao26, co26, eo26⟩ := Kd.R_slice HO_7.out
       subst eo26
       have p25 : 0 ≤ (x8_1 : Int) := of_decide_eq_true (by first | (with_reducible assumption) | assumption)
       have q25 : (x8_1 : Int) < ((x7_1.length : Int) : Int) := of_decide_eq_true (by first | (with_reducible assumption) | assumption)
       obtain ⟨go25, co25, eo25, gb25, gl25, cl25, HG25⟩ := Kd.R_form HO_7.out (by omega)
       (first | cases eo25 | (injection eo25 with ea_ en_ ec_; (first | subst ea_ | (injection ea_ with ea_; subst ea_)); subst ec_; clear en_))
       have GB25 := aK gb25
       have GG25 := aK HG25
       clear gb25 gl25 HG25
       obtain ⟨hx25_0, hf25_0⟩ := Kd.R_celln 0 HO_7.out (x8_1 : Int) p25 q25
       replace p25 := eq_true p25
       replace q25 := eq_true q25
       have HP27 := Kd.R_putg HO_7.out (x8_1 : Int) x8_1
       go_wp2_with (first | ((with_reducible refine gate_store (t := 3) (p := 33) rfl ?_); refine store_event (t := 3) (p := 33) (v := ?vo_w28) (w1 := (wr.setCell ⟨go25, (x8_1 : Int).toNat, none⟩ (.int .i64 x8_1))) ?hg ?ho ?hn ?hr ?_; (case ho => rfl); (case hg => rfl); (case hn => rfl); (case hr => first | (go_simp; done) | (go_simp; rfl)); intro w28 hw; have hg : wr.grownBy w28 (some go25) := (by rw [hw]; exact HP27.2); have hp_ : Kd.R (Kd.int .i64) 3 w28 w.heap.size (fun _ => True) (.slice (some ⟨go25, 0, none⟩) x7_1.length co26) y396 := (by rw [hw, Ny396.out]; exact HP27.1); clear HP27; replace BK388 := aK (blk_grown (g := gb388) (o := .cells #[.int .i64 a1_0, .int .i64 a1_1] 28 (0, 0)) (zK BK388) hg (Kd.R_ne HO_7.out BK388.out (by decide))); replace BK389 := aK (blk_grown (g := gb389) (o := .cells #[.int .i64 0, .int .i64 0, .int .i64 0] 30 (0, 0)) (zK BK389) hg (Kd.R_ne HO_7.out BK389.out (by decide))); replace BK390 := aK (blk_grown (g := gb390) (o := .cells #[.int .i64 a1_0, .int .i64 a1_1, .int .i64 0] 30 (0, 0)) (zK BK390) hg (Kd.R_ne HO_7.out BK390.out (by decide))); replace HI0 := aK (IsS94.grown (show IsS94 w0 _ g s0_0 s0_1 s0_2 from by repeat (first | (with_reducible first | exact HI0.out | apply IsS94.alloc | apply IsS94.drewN | apply IsS94.drew | apply IsS94.set_1 | apply IsS94.set_2 | refine IsS94.far ?_ NB0_388.out _ | refine IsS94.far ?_ NB0_389.out _ | refine IsS94.far ?_ NB0_390.out _) | exact HI0.out)) hg (IsS94.own_ne HI0.out HO_7.out (by decide))); replace HB := aK ((by rw [hw]; exact bSt (HB.out) (Nat.le_trans HL.out GB25.out) : Below w0.heap.size w0 w28)); replace HK := aK (KeepBut.trans (by repeat (first | (with_reducible first | exact HK.out | apply KeepBut.set_ | apply keep_drewN | apply keep_drew | apply keep_alloc | refine keep_far ?_ GW388.out _ | refine keep_far ?_ GW389.out _ | refine keep_far ?_ GW390.out _) | exact HK.out)) (KeepBut.of_grown hg g) (Kd.R_base2 HO_7.out)); replace HO_7 := aK (hp_); clear hg hw hp_))
       go_roundg k1
       case measure => have := HK1.out; omega
       case rel => exact ⟨(y396), (wrap64 (x8_1 + 1)), (by first | rfl | (simp; done) | (simp [*]; done)), H', ⟨by have := HK1.out; omega⟩, ⟨zA HO_7⟩, ⟨zK BK388⟩, ⟨zK BK389⟩, ⟨zK BK390⟩, ⟨by repeat (first | (with_reducible first | exact HI0.out | apply IsS94.alloc | apply IsS94.drewN | apply IsS94.drew | apply IsS94.set_1 | apply IsS94.set_2 | refine IsS94.far ?_ NB0_388.out _ | refine IsS94.far ?_ NB0_389.out _ | refine IsS94.far ?_ NB0_390.out _) | exact HI0.out)⟩, ⟨by repeat (first | (with_reducible first | exact HK.out | apply KeepBut.set_ | apply keep_drewN | apply keep_drew | apply keep_alloc | refine keep_far ?_ GW388.out _ | refine keep_far ?_ GW389.out _ | refine keep_far ?_ GW390.out _) | exact HK.out)⟩, ⟨by repeat (first | (with_reducible first | exact HB.out | apply bAl | apply bDN | apply bD1 | refine bSt ?_ (IsS94.ge HI0.out) | refine bSt ?_ GE388.out | refine bSt ?_ GE389.out | refine bSt ?_ GE390.out) | exact HB.out)⟩⟩
      ·rw [if_neg c24] at H
       exact absurd H (by simp)
     ·rw [if_neg c23] at H
      have c23b0 : decide (x8_1 < (x7_1.length : Int)) = false := decide_eq_false c23
      clear c23
      by_cases c29 : t391 = 0
      ·rw [if_pos c29] at H
       have c29b0 : (t391 == 0) = true := beq_iff_eq.mpr c29
       have c29b1 : (t391 != 0) = false := bne_eq_false_iff_eq.mpr c29
       clear c29
       simp only [Option.some.injEq, Prod.mk.injEq] at H
       obtain ⟨rfl, rfl, rfl, rfl, rfl⟩ := H
       obtain ⟨Ao30, co30, eo30⟩ := Kd.R_slice HO_7.out
       subst eo30
       have hnb31 := NB390_388.out
       have hnc31 := NB388_390.out
       have hnb32 := NB390_389.out
       have hnc32 := NB389_390.out
       have hnb33 := NB390_0.out
       have hnc33 := NB0_390.out
       obtain ⟨hcz34_0, hcz34_1, hcz34_2, hfz34_0, hfz34_1, hfz34_2⟩ := cl3 BK390.out
       have hnb35 := NB389_388.out
       have hnc35 := NB388_389.out
       have hnb36 := NB389_0.out
       have hnc36 := NB0_389.out
       obtain ⟨hcz37_0, hcz37_1, hcz37_2, hfz37_0, hfz37_1, hfz37_2⟩ := cl3 BK389.out
       go_wp2
       refine bodyPost_ret (results_cell_row rfl _ _ gb389 30 #[.int .i64 a1_0, .int .i64 a1_1, .int .i64 0] (0, 0) _ rfl (by (with_reducible repeat (first | refine kDN ?_ _ | refine kD ?_ | refine blk_alloc ?_ _)); refine blk_put (cs := #[.int .i64 a1_0, .int .i64 a1_1, .int .i64 0]) ?_ 2 _ rfl; (with_reducible repeat (first | refine kDN ?_ _ | refine kD ?_ | refine blk_alloc ?_ _)); refine blk_put (cs := #[.int .i64 a1_0, .int .i64 0, .int .i64 0]) ?_ 1 _ rfl; (with_reducible repeat (first | refine kDN ?_ _ | refine kD ?_ | refine blk_alloc ?_ _)); refine blk_put (cs := #[.int .i64 0, .int .i64 0, .int .i64 0]) ?_ 0 _ rfl; (with_reducible repeat (first | refine kDN ?_ _ | refine kD ?_ | refine blk_alloc ?_ _)); exact BK389.out) Try.underlying30 rfl (by kernel_rfl)) rfl ?_
       exact ⟨by first | rfl | (simp [errW_none, errW_some] <;> rfl) | (simp [*, errW_none, errW_some] <;> rfl), by repeat (first | (with_reducible first | exact HI0.out | apply IsS94.alloc | apply IsS94.drewN | apply IsS94.drew | apply IsS94.set_1 | apply IsS94.set_2 | refine IsS94.far ?_ NB0_388.out _ | refine IsS94.far ?_ NB0_389.out _ | refine IsS94.far ?_ NB0_390.out _) | exact HI0.out), by repeat (first | (with_reducible first | exact HB.out | apply bAl | apply bDN | apply bD1 | refine bSt ?_ (IsS94.ge HI0.out) | refine bSt ?_ GE388.out | refine bSt ?_ GE389.out | refine bSt ?_ GE390.out) | exact HB.out), by repeat (first | (with_reducible first | exact HK.out | apply KeepBut.set_ | apply keep_drewN | apply keep_drew | apply keep_alloc | refine keep_far ?_ GW388.out _ | refine keep_far ?_ GW389.out _ | refine keep_far ?_ GW390.out _) | exact HK.out)⟩
      ·rw [if_neg c29] at H
       have c29b0 : (t391 == 0) = false := beq_eq_false_iff_ne.mpr c29
       have c29b1 : (t391 != 0) = true := bne_iff_ne.mpr c29
       replace H := Option.bind_eq_some_iff.mp H
       obtain ⟨⟨t397, t398, t399⟩, A380, H⟩ := H
       replace H : ((spec_l01Below.f s0_0 t398 t399 t391).bind fun bt400 => (spec_l03Tree.l1 k1 t391 x7_1 t397 (wrap64 (1 + bt400.1)) s0_0 bt400.2.1 bt400.2.2 a1_0 a1_1 a1_0 a1_1 0)) = some (r1, r2, r3, r4, r5) := H
       have A38 := aK A380
       clear A380
       replace H := Option.bind_eq_some_iff.mp H
       obtain ⟨⟨t400, t401, t402⟩, A390, H⟩ := H
       replace H : (spec_l03Tree.l1 k1 t391 x7_1 t397 (wrap64 (1 + t400)) s0_0 t401 t402 a1_0 a1_1 a1_0 a1_1 0) = some (r1, r2, r3, r4, r5) := H
       have A39 := aK A390
       clear A390
       have H' := aK H
       clear H
       obtain ⟨Ao40, co40, eo40⟩ := Kd.R_slice HO_7.out
       subst eo40
       go_wp2_with (first | ((with_reducible refine gate_callee (f := 58) rfl ?_); refine goesL_ (some 39) rfl rfl Try.func58 (by kernel_rfl) rfl #[.pointer (some ⟨g, 0, none⟩), .int .i64 t391] rfl zD ?_; (with_reducible refine (spec_l01Below.calls g s0_0 s0_1 s0_2 t391 t397 t398 t399 w0 _ ?side1 ?side2 A38.out).mono ?_); (case side1 => repeat (first | (with_reducible first | exact HI0.out | apply IsS94.alloc | apply IsS94.drewN | apply IsS94.drew | apply IsS94.set_1 | apply IsS94.set_2 | refine IsS94.far ?_ NB0_388.out _ | refine IsS94.far ?_ NB0_389.out _ | refine IsS94.far ?_ NB0_390.out _) | exact HI0.out)); (case side2 => repeat (first | (with_reducible first | exact HB.out | apply bAl | apply bDN | apply bD1 | refine bSt ?_ (IsS94.ge HI0.out) | refine bSt ?_ GE388.out | refine bSt ?_ GE389.out | refine bSt ?_ GE390.out) | exact HB.out)); rintro e w41 ⟨rfl, hi, hb, hk⟩; refine ⟨_, rfl, ?_⟩; replace HO_7 := aK (Kd.R_mono (Kd.R_keep (IsS94.apart (show IsS94 w0 _ g s0_0 s0_1 s0_2 from by repeat (first | (with_reducible first | exact HI0.out | apply IsS94.alloc | apply IsS94.drewN | apply IsS94.drew | apply IsS94.set_1 | apply IsS94.set_2 | refine IsS94.far ?_ NB0_388.out _ | refine IsS94.far ?_ NB0_389.out _ | refine IsS94.far ?_ NB0_390.out _) | exact HI0.out)) (zA HO_7) (by decide)) hk (fun _ h => h.2)) (fun _ h => h.1)); replace BK388 := aK (KeepBut.blk hk (g' := gb388) (o := .cells #[.int .i64 a1_0, .int .i64 a1_1] 28 (0, 0)) (zK BK388) NB388_0.out (by simp)); replace BK389 := aK (KeepBut.blk hk (g' := gb389) (o := .cells #[.int .i64 0, .int .i64 0, .int .i64 0] 30 (0, 0)) (zK BK389) NB389_0.out (by simp)); replace BK390 := aK (KeepBut.blk hk (g' := gb390) (o := .cells #[.int .i64 a1_0, .int .i64 a1_1, .int .i64 0] 30 (0, 0)) (zK BK390) NB390_0.out (by simp)); replace HK := aK (KeepBut.trans (by repeat (first | (with_reducible first | exact HK.out | apply KeepBut.set_ | apply keep_drewN | apply keep_drew | apply keep_alloc | refine keep_far ?_ GW388.out _ | refine keep_far ?_ GW389.out _ | refine keep_far ?_ GW390.out _) | exact HK.out)) hk (.inl rfl)); replace HB := aK (hb); replace HI0 := aK (hi); (try clear hb); (try clear hb2); (try clear hk); (try clear hi)) | ((with_reducible refine gate_callee (f := 58) rfl ?_); refine goesL_ (some 42) rfl rfl Try.func58 (by kernel_rfl) rfl #[.pointer (some ⟨g, 0, none⟩), .int .i64 t391] rfl zD ?_; (with_reducible refine (spec_l01Below.calls g s0_0 t398 t399 t391 t400 t401 t402 w0 _ ?side1 ?side2 A39.out).mono ?_); (case side1 => repeat (first | (with_reducible first | exact HI0.out | apply IsS94.alloc | apply IsS94.drewN | apply IsS94.drew | apply IsS94.set_1 | apply IsS94.set_2 | refine IsS94.far ?_ NB0_388.out _ | refine IsS94.far ?_ NB0_389.out _ | refine IsS94.far ?_ NB0_390.out _) | exact HI0.out)); (case side2 => repeat (first | (with_reducible first | exact HB.out | apply bAl | apply bDN | apply bD1 | refine bSt ?_ (IsS94.ge HI0.out) | refine bSt ?_ GE388.out | refine bSt ?_ GE389.out | refine bSt ?_ GE390.out) | exact HB.out)); rintro e w42 ⟨rfl, hi, hb, hk⟩; refine ⟨_, rfl, ?_⟩; replace HO_7 := aK (Kd.R_mono (Kd.R_keep (IsS94.apart (show IsS94 w0 _ g s0_0 t398 t399 from by repeat (first | (with_reducible first | exact HI0.out | apply IsS94.alloc | apply IsS94.drewN | apply IsS94.drew | apply IsS94.set_1 | apply IsS94.set_2 | refine IsS94.far ?_ NB0_388.out _ | refine IsS94.far ?_ NB0_389.out _ | refine IsS94.far ?_ NB0_390.out _) | exact HI0.out)) (zA HO_7) (by decide)) hk (fun _ h => h.2)) (fun _ h => h.1)); replace BK388 := aK (KeepBut.blk hk (g' := gb388) (o := .cells #[.int .i64 a1_0, .int .i64 a1_1] 28 (0, 0)) (zK BK388) NB388_0.out (by simp)); replace BK389 := aK (KeepBut.blk hk (g' := gb389) (o := .cells #[.int .i64 0, .int .i64 0, .int .i64 0] 30 (0, 0)) (zK BK389) NB389_0.out (by simp)); replace BK390 := aK (KeepBut.blk hk (g' := gb390) (o := .cells #[.int .i64 a1_0, .int .i64 a1_1, .int .i64 0] 30 (0, 0)) (zK BK390) NB390_0.out (by simp)); replace HK := aK (KeepBut.trans (by repeat (first | (with_reducible first | exact HK.out | apply KeepBut.set_ | apply keep_drewN | apply keep_drew | apply keep_alloc | refine keep_far ?_ GW388.out _ | refine keep_far ?_ GW389.out _ | refine keep_far ?_ GW390.out _) | exact HK.out)) hk (.inl rfl)); replace HB := aK (hb); replace HI0 := aK (hi); (try clear hb); (try clear hb2); (try clear hk); (try clear hi)))
       go_loopg [10] k1 (fun kq v10 w' => ∃ (x10_2 : Int), v10 = .int .i64 x10_2 ∧ Aside0 (spec_l03Tree.l1 kq t391 x7_1 t397 x10_2 s0_0 t401 t402 a1_0 a1_1 a1_0 a1_1 0 = some (r1, r2, r3, r4, r5)) ∧ Aside0 (kq ≤ k1) ∧ Aside0 (Kd.R (Kd.int .i64) 3 w' w.heap.size (fun _ => True) (.slice Ao40 x7_1.length co40) x7_1) ∧ Aside0 (w'.heap[gb388]? = some (.cells #[.int .i64 a1_0, .int .i64 a1_1] 28 (0, 0))) ∧ Aside0 (w'.heap[gb389]? = some (.cells #[.int .i64 0, .int .i64 0, .int .i64 0] 30 (0, 0))) ∧ Aside0 (w'.heap[gb390]? = some (.cells #[.int .i64 a1_0, .int .i64 a1_1, .int .i64 0] 30 (0, 0))) ∧ Aside0 (IsS94 w0 w' g s0_0 t401 t402) ∧ Aside0 (KeepBut w w' g none) ∧ Aside0 (Below w0.heap.size w0 w'))
       case atStart => exact ⟨(wrap64 (1 + t400)), (by first | rfl | (simp; done) | (simp [*]; done)), H', ⟨Nat.le_refl _⟩, ⟨zA HO_7⟩, ⟨zK BK388⟩, ⟨zK BK389⟩, ⟨zK BK390⟩, ⟨by repeat (first | (with_reducible first | exact HI0.out | apply IsS94.alloc | apply IsS94.drewN | apply IsS94.drew | apply IsS94.set_1 | apply IsS94.set_2 | refine IsS94.far ?_ NB0_388.out _ | refine IsS94.far ?_ NB0_389.out _ | refine IsS94.far ?_ NB0_390.out _) | exact HI0.out)⟩, ⟨by repeat (first | (with_reducible first | exact HK.out | apply KeepBut.set_ | apply keep_drewN | apply keep_drew | apply keep_alloc | refine keep_far ?_ GW388.out _ | refine keep_far ?_ GW389.out _ | refine keep_far ?_ GW390.out _) | exact HK.out)⟩, ⟨by repeat (first | (with_reducible first | exact HB.out | apply bAl | apply bDN | apply bD1 | refine bSt ?_ (IsS94.ge HI0.out) | refine bSt ?_ GE388.out | refine bSt ?_ GE389.out | refine bSt ?_ GE390.out) | exact HB.out)⟩⟩
       case round =>
        clear H'
        try clear c1
        try clear c2
        try clear p2
        try clear q2
        try clear hx2
        try clear hf2
        try clear c3
        try clear c5
        try clear c5b0
        try clear c5b1
        try clear c6
        try clear c6b0
        try clear c6b1
        try clear p6
        try clear c8
        try clear c9
        try clear c10
        try clear c13
        try clear c14
        try clear c15
        try clear c22
        try clear c23
        try clear c23b0
        try clear c24
        try clear c24b0
        try clear p25
        try clear q25
        try clear hx25
        try clear hf25
        try clear c29
        try clear c29b0
        try clear c29b1
        try clear c31
        try clear c32
        try clear c33
        try clear c35
        try clear c36
        try clear hcz11_0
        try clear hcz11_1
        try clear hcz16_0
        try clear hcz16_1
        try clear hcz16_2
        try clear hcz17_0
        try clear hcz17_1
        try clear hcz19_0
        try clear hcz19_1
        try clear hcz34_0
        try clear hcz34_1
        try clear hcz34_2
        try clear hcz37_0
        try clear hcz37_1
        try clear hcz37_2
        try clear hfz11_0
        try clear hfz11_1
        try clear hfz16_0
        try clear hfz16_1
        try clear hfz16_2
        try clear hfz17_0
        try clear hfz17_1
        try clear hfz19_0
        try clear hfz19_1
        try clear hfz34_0
        try clear hfz34_1
        try clear hfz34_2
        try clear hfz37_0
        try clear hfz37_1
        try clear hfz37_2
        try clear hx25_0
        try clear p2
        try clear p25
        try clear q25
        obtain ⟨x10_2, rfl, HA, HK2, HO_7, BK388, BK389, BK390, HI0, HK, HB⟩ := hrel
        cases gk with
        | zero => exact absurd HA.out (by simp [spec_l03Tree.l1])
        | succ k2 =>
         have H := HA.out
         clear HA
         simp only [spec_l03Tree.l1] at H
         replace H := Option.bind_eq_some_iff.mp H
         obtain ⟨t403, A430, H⟩ := H
         replace H : (if t403 = true then (spec_l03Tree.l1 k2 t391 x7_1 t397 (wrap64 (x10_2 + 1)) s0_0 t401 t402 a1_0 a1_1 a1_0 a1_1 0) else (spec_l03Tree.l2 k2 t391 x7_1 t397 x10_2 0 s0_0 t401 t402 a1_0 a1_1 a1_0 a1_1 0)) = some (r1, r2, r3, r4, r5) := H
         have A43 := aK A430
         clear A430
         by_cases c44 : t403 = true
         ·subst c44
          have H1 : (spec_l03Tree.l1 k2 t391 x7_1 t397 (wrap64 (x10_2 + 1)) s0_0 t401 t402 a1_0 a1_1 a1_0 a1_1 0) = some (r1, r2, r3, r4, r5) := by rw [if_pos rfl] at H; exact H
          clear H
          have H := H1
          clear H1
          have H' := aK H
          clear H
          go_wp2_with (first | ((with_reducible refine gate_callee (f := 113) rfl ?_); refine goesL_ (some 46) rfl rfl Try.func113 (by kernel_rfl) rfl #[.int .i64 x10_2, .int .i64 t391] rfl zD ?_; (with_reducible refine (spec_l03Common.calls k2 x10_2 t391 true _ A43.out).mono ?_); rintro e w' ⟨rfl, ⟨nd, rfl⟩⟩; refine ⟨_, rfl, ?_⟩))
          go_roundg k2
          case measure => have := HK1.out; have := HK2.out; omega
          case rel => exact ⟨(wrap64 (x10_2 + 1)), (by first | rfl | (simp; done) | (simp [*]; done)), H', ⟨by have := HK1.out; have := HK2.out; omega⟩, ⟨zA HO_7⟩, ⟨zK BK388⟩, ⟨zK BK389⟩, ⟨zK BK390⟩, ⟨by repeat (first | (with_reducible first | exact HI0.out | apply IsS94.alloc | apply IsS94.drewN | apply IsS94.drew | apply IsS94.set_1 | apply IsS94.set_2 | refine IsS94.far ?_ NB0_388.out _ | refine IsS94.far ?_ NB0_389.out _ | refine IsS94.far ?_ NB0_390.out _) | exact HI0.out)⟩, ⟨by repeat (first | (with_reducible first | exact HK.out | apply KeepBut.set_ | apply keep_drewN | apply keep_drew | apply keep_alloc | refine keep_far ?_ GW388.out _ | refine keep_far ?_ GW389.out _ | refine keep_far ?_ GW390.out _) | exact HK.out)⟩, ⟨by repeat (first | (with_reducible first | exact HB.out | apply bAl | apply bDN | apply bD1 | refine bSt ?_ (IsS94.ge HI0.out) | refine bSt ?_ GE388.out | refine bSt ?_ GE389.out | refine bSt ?_ GE390.out) | exact HB.out)⟩⟩
         ·replace c44 := Bool.eq_false_iff.mpr c44
          subst c44
          have H1 : (spec_l03Tree.l2 k2 t391 x7_1 t397 x10_2 0 s0_0 t401 t402 a1_0 a1_1 a1_0 a1_1 0) = some (r1, r2, r3, r4, r5) := by rw [if_neg (show ¬ (false = true) by decide)] at H; exact H
          clear H
          have H := H1
          clear H1
          have H' := aK H
          clear H
          go_wp2_with (first | ((with_reducible refine gate_callee (f := 113) rfl ?_); refine goesL_ (some 46) rfl rfl Try.func113 (by kernel_rfl) rfl #[.int .i64 x10_2, .int .i64 t391] rfl zD ?_; (with_reducible refine (spec_l03Common.calls k2 x10_2 t391 false _ A43.out).mono ?_); rintro e w' ⟨rfl, ⟨nd, rfl⟩⟩; refine ⟨_, rfl, ?_⟩))
          go_loopg [11] k2 (fun kq v11 w' => ∃ (x7_3 : List Int) (x11_3 : Int) (x391002_3 : Int), v11 = .int .i64 x11_3 ∧ Aside0 (spec_l03Tree.l2 kq t391 x7_3 t397 x10_2 x11_3 s0_0 t401 t402 a1_0 a1_1 a1_0 a1_1 x391002_3 = some (r1, r2, r3, r4, r5)) ∧ Aside0 (kq ≤ k2) ∧ Aside0 (Kd.R (Kd.int .i64) 3 w' w.heap.size (fun _ => True) (.slice Ao40 x7_1.length co40) x7_3) ∧ Aside0 (w'.heap[gb388]? = some (.cells #[.int .i64 a1_0, .int .i64 a1_1] 28 (0, 0))) ∧ Aside0 (w'.heap[gb389]? = some (.cells #[.int .i64 0, .int .i64 0, .int .i64 0] 30 (0, 0))) ∧ Aside0 (w'.heap[gb390]? = some (.cells #[.int .i64 a1_0, .int .i64 a1_1, .int .i64 x391002_3] 30 (0, 0))) ∧ Aside0 (IsS94 w0 w' g s0_0 t401 t402) ∧ Aside0 (KeepBut w w' g none) ∧ Aside0 (Below w0.heap.size w0 w'))
          case atStart => exact ⟨(x7_1), (0), (0), (by first | rfl | (simp; done) | (simp [*]; done)), H', ⟨Nat.le_refl _⟩, ⟨zA HO_7⟩, ⟨zK BK388⟩, ⟨zK BK389⟩, ⟨zK BK390⟩, ⟨by repeat (first | (with_reducible first | exact HI0.out | apply IsS94.alloc | apply IsS94.drewN | apply IsS94.drew | apply IsS94.set_1 | apply IsS94.set_2 | refine IsS94.far ?_ NB0_388.out _ | refine IsS94.far ?_ NB0_389.out _ | refine IsS94.far ?_ NB0_390.out _) | exact HI0.out)⟩, ⟨by repeat (first | (with_reducible first | exact HK.out | apply KeepBut.set_ | apply keep_drewN | apply keep_drew | apply keep_alloc | refine keep_far ?_ GW388.out _ | refine keep_far ?_ GW389.out _ | refine keep_far ?_ GW390.out _) | exact HK.out)⟩, ⟨by repeat (first | (with_reducible first | exact HB.out | apply bAl | apply bDN | apply bD1 | refine bSt ?_ (IsS94.ge HI0.out) | refine bSt ?_ GE388.out | refine bSt ?_ GE389.out | refine bSt ?_ GE390.out) | exact HB.out)⟩⟩
          case round =>
           clear H'
           try clear c1
           try clear c2
           try clear p2
           try clear q2
           try clear hx2
           try clear hf2
           try clear c3
           try clear c4
           try clear c5
           try clear c5b0
           try clear c5b1
           try clear c6
           try clear c6b0
           try clear c6b1
           try clear p6
           try clear c8
           try clear c9
           try clear c10
           try clear c11
           try clear c13
           try clear c14
           try clear c15
           try clear c22
           try clear c23
           try clear c23b0
           try clear c24
           try clear c24b0
           try clear p25
           try clear q25
           try clear hx25
           try clear hf25
           try clear c29
           try clear c29b0
           try clear c29b1
           try clear c31
           try clear c32
           try clear c33
           try clear c35
           try clear c36
           try clear c44
           try clear hcz11_0
           try clear hcz11_1
           try clear hcz16_0
           try clear hcz16_1
           try clear hcz16_2
           try clear hcz17_0
           try clear hcz17_1
           try clear hcz19_0
           try clear hcz19_1
           try clear hcz34_0
           try clear hcz34_1
           try clear hcz34_2
           try clear hcz37_0
           try clear hcz37_1
           try clear hcz37_2
           try clear hfz11_0
           try clear hfz11_1
           try clear hfz16_0
           try clear hfz16_1
           try clear hfz16_2
           try clear hfz17_0
           try clear hfz17_1
           try clear hfz19_0
           try clear hfz19_1
           try clear hfz34_0
           try clear hfz34_1
           try clear hfz34_2
           try clear hfz37_0
           try clear hfz37_1
           try clear hfz37_2
           try clear hx25_0
           try clear p2
           try clear p25
           try clear p6
           try clear q2
           try clear q25
           obtain ⟨x7_3, x11_3, x391002_3, rfl, HA, HK3, HO_7, BK388, BK389, BK390, HI0, HK, HB⟩ := hrel
           have hl7_3 := (Kd.R_reads' HO_7.out).1
           rw [hl7_3] at HO_7
           (try simp only [hl7_3])
           (try simp only [hl7_3] at BK388)
           (try simp only [hl7_3] at BK389)
           (try simp only [hl7_3] at BK390)
           cases gk with
           | zero => exact absurd HA.out (by simp [spec_l03Tree.l2])
           | succ k3 =>
            have H := HA.out
            clear HA
            simp only [spec_l03Tree.l2] at H
            by_cases c45 : x11_3 < t391
            ·rw [if_pos c45] at H
             have c45b0 : decide (x11_3 < t391) = true := decide_eq_true c45
             clear c45
             by_cases c46 : t391 = 0
             ·rw [if_pos c46] at H
              exact absurd H (by simp)
             ·rw [if_neg c46] at H
              have c46b0 : (t391 == 0) = false := beq_eq_false_iff_ne.mpr c46
              have c46b1 : (t391 != 0) = true := bne_iff_ne.mpr c46
              replace H := Option.bind_eq_some_iff.mp H
              obtain ⟨⟨t404, t405⟩, A470, H⟩ := H
              replace H : (if 0 ≤ t404 then (if t404 < (x7_3.length : Int) then (if 0 ≤ t405 then (if t405 < (x7_3.length : Int) then (if (rd x7_3 t404) = (rd x7_3 t405) then (spec_l03Tree.l2 k3 t391 x7_3 t397 x10_2 (wrap64 (x11_3 + 1)) s0_0 t401 t402 a1_0 a1_1 a1_0 a1_1 x391002_3) else (if 0 ≤ (Int.tmod (wrap64 (t397 + (wrap64 (x11_3 * x10_2)))) t391) then (spec_l03Tree.l3 k3 t391 x7_3 t397 x10_2 x11_3 t404 (rd x7_3 t405) 0 s0_0 t401 t402 a1_0 a1_1 a1_0 a1_1 (Go.bits .or .i64 x391002_3 (shl .i64 1 (Int.tmod (wrap64 (t397 + (wrap64 (x11_3 * x10_2)))) t391)))) else (none))) else (none)) else (none)) else (none)) else (none)) = some (r1, r2, r3, r4, r5) := H
              have A47 := aK A470
              clear A470
              by_cases c48 : 0 ≤ t404
              ·rw [if_pos c48] at H
               have c48b0 : decide (0 ≤ t404) = true := decide_eq_true c48
               clear c48
               by_cases c49 : t404 < (x7_3.length : Int)
               ·rw [if_pos c49] at H
                have c49b0 : decide (t404 < (x7_3.length : Int)) = true := decide_eq_true c49
                clear c49
                by_cases c50 : 0 ≤ t405
                ·rw [if_pos c50] at H
                 have c50b0 : decide (0 ≤ t405) = true := decide_eq_true c50
                 clear c50
                 by_cases c51 : t405 < (x7_3.length : Int)
                 ·rw [if_pos c51] at H
                  have c51b0 : decide (t405 < (x7_3.length : Int)) = true := decide_eq_true c51
                  clear c51
                  by_cases c52 : (rd x7_3 t404) = (rd x7_3 t405)
                  ·rw [if_pos c52] at H
                   have c52b0 : ((rd x7_3 t404) == (rd x7_3 t405)) = true := beq_iff_eq.mpr c52
                   have c52b1 : ((rd x7_3 t404) != (rd x7_3 t405)) = false := bne_eq_false_iff_eq.mpr c52
                   clear c52
                   have H' := aK H
                   clear H
                   have hnb53 := NB388_389.out
                   have hnc53 := NB389_388.out
                   have hnb54 := NB388_390.out
                   have hnc54 := NB390_388.out
                   have hnb55 := NB388_0.out
                   have hnc55 := NB0_388.out
                   obtain ⟨hcz56_0, hcz56_1, hfz56_0, hfz56_1⟩ := cl2 BK388.out
                   try go_wp2_with (first | ((with_reducible refine gate_callee (f := 114) rfl ?_); refine goesL_ (some 64) rfl rfl Try.func114 (by kernel_rfl) rfl #[.agg #[.int .i64 a1_0, .int .i64 a1_1], .int .i64 (Int.tmod (wrap64 (t397 + (wrap64 (x11_3 * x10_2)))) t391)] rfl zD ?_; (with_reducible refine (spec_EndsOf.calls a1_0 a1_1 (Int.tmod (wrap64 (t397 + (wrap64 (x11_3 * x10_2)))) t391) t404 t405 _ A47.out).mono ?_); rintro e w57 ⟨rfl, hb⟩; refine ⟨_, rfl, ?_⟩; replace HO_7 := aK (Kd.R_below (zA HO_7) hb); replace BK388 := zB BK388 hb; replace BK389 := zB BK389 hb; replace BK390 := zB BK390 hb; replace HK := aK (KeepBut.trans (by repeat (first | (with_reducible first | exact HK.out | apply KeepBut.set_ | apply keep_drewN | apply keep_drew | apply keep_alloc | refine keep_far ?_ GW388.out _ | refine keep_far ?_ GW389.out _ | refine keep_far ?_ GW390.out _) | exact HK.out)) (KeepBut.of_below hb g none) (.inl rfl)); replace HB := aK (bSp (by repeat (first | (with_reducible first | exact HB.out | apply bAl | apply bDN | apply bD1 | refine bSt ?_ (IsS94.ge HI0.out) | refine bSt ?_ GE388.out | refine bSt ?_ GE389.out | refine bSt ?_ GE390.out) | exact HB.out)) hb); replace HI0 := aK (IsS94.below (by repeat (first | (with_reducible first | exact HI0.out | apply IsS94.alloc | apply IsS94.drewN | apply IsS94.drew | apply IsS94.set_1 | apply IsS94.set_2 | refine IsS94.far ?_ NB0_388.out _ | refine IsS94.far ?_ NB0_389.out _ | refine IsS94.far ?_ NB0_390.out _) | exact HI0.out)) hb); (try clear hb); (try clear hb2); (try clear hk); (try clear hi)))
                   have n0_ := aK (Kd.R_drew HO_7.out)
                   have n1_ := aK (kD BK388.out)
                   have n2_ := aK (kD BK389.out)
                   have n3_ := aK (kD BK390.out)
                   have n4_ := aK (IsS94.drew HI0.out)
                   have n5_ := aK (keep_drew HK.out)
                   have n6_ := aK (bD1 HB.out)
                   clear HO_7
                   clear BK388
                   clear BK389
                   clear BK390
                   clear HI0
                   clear HK
                   clear HB
                   have HO_7 := n0_
                   have BK388 := n1_
                   have BK389 := n2_
                   have BK390 := n3_
                   have HI0 := n4_
                   have HK := n5_
                   have HB := n6_
                   clear n0_ n1_ n2_ n3_ n4_ n5_ n6_
                   have p406 : 0 ≤ (t404 : Int) := of_decide_eq_true (by first | (with_reducible assumption) | assumption)
                   have q406 : t404 < (x7_3.length : Int) := of_decide_eq_true (by first | (with_reducible assumption) | assumption)
                   obtain ⟨ad406, e406, hx406_0⟩ := Kd.at_int (Kd.R_reads' HO_7.out).2.2 t404 p406 q406
                   cases e406
                   replace p406 := eq_true p406
                   replace q406 := eq_true q406
                   have p407 : 0 ≤ (t405 : Int) := of_decide_eq_true (by first | (with_reducible assumption) | assumption)
                   have q407 : t405 < (x7_3.length : Int) := of_decide_eq_true (by first | (with_reducible assumption) | assumption)
                   obtain ⟨ad407, e407, hx407_0⟩ := Kd.at_int (Kd.R_reads' HO_7.out).2.2 t405 p407 q407
                   obtain rfl : ad406 = ad407 := (by injection e407)
                   replace p407 := eq_true p407
                   replace q407 := eq_true q407
                   refine start_ (n := 9) (S := fun w' => w'.cell? (ad406.add (t404).toNat) = some (.int .i64 (rd x7_3 t404)) ∧ w'.cell? (ad406.add (t405).toNat) = some (.int .i64 (rd x7_3 t405))) (ds := []) #[bN,bN,bN,bN,bN,bN,bN,bN,bN] (by kernel_rfl) rfl rfl ⟨hx406_0, hx407_0⟩ (fun hHeld => ?_); refine with_tabW spec_l03Tree.tab19 spec_l03Tree.bits19 (fun HT_ HW_ => ?_)
                   generalize w57.drew = w58 at HO_7 BK388 BK389 BK390 HI0 HK HB hx406_0 hx407_0 hHeld ⊢
                   refine pure_ (i := 0) (N := some 67) (v := ?_) (a' := ?_) #[bY,bN,bN,bN,bN,bN,bN,bN,bN] rfl rfl (any_of HT_.out (by kernel_rfl)) (fun _ _ _ h => h) (Or.inl ⟨by rfl, ?_⟩) ?_ ?_
                   rotate_left
                   ·intro w'
                    go_simp
                    with_reducible rfl
                   rotate_left
                   ·simp only [Act.put, sTA, sZ, sS, i64_w, i32_w]
                    rfl
                   refine pure_ (i := 1) (N := some 68) (v := ?_) (a' := ?_) #[bY,bY,bN,bN,bN,bN,bN,bN,bN] rfl rfl (any_of HT_.out (by kernel_rfl)) (fun _ _ _ h => h) (Or.inl ⟨by rfl, ?_⟩) ?_ ?_
                   rotate_left
                   ·intro w'
                    go_simp
                    with_reducible rfl
                   rotate_left
                   ·simp only [Act.put, sTA, sZ, sS, i64_w, i32_w]
                    rfl
                   refine pure_ (i := 2) (N := some 69) (v := ?_) (a' := ?_) #[bY,bY,bY,bN,bN,bN,bN,bN,bN] rfl rfl (any_of HT_.out (by kernel_rfl)) (fun _ _ _ h => h) (Or.inl ⟨by rfl, ?_⟩) ?_ ?_
                   rotate_left
                   ·intro w'
                    go_simp
                    with_reducible rfl
                   rotate_left
                   ·simp only [Act.put, sTA, sZ, sS, i64_w, i32_w]
                    rfl
                   refine pure_ (i := 4) (N := some 71) (v := ?_) (a' := ?_) #[bY,bY,bY,bN,bY,bN,bN,bN,bN] rfl rfl (any_of HT_.out (by kernel_rfl)) (fun _ _ _ h => h) (Or.inl ⟨by rfl, ?_⟩) ?_ ?_
                   rotate_left
                   ·intro w'
                    go_simp
                    with_reducible rfl
                   rotate_left
                   ·simp only [Act.put, sTA, sZ, sS, i64_w, i32_w]
                    rfl
                   refine pure_ (i := 5) (N := some 72) (v := ?_) (a' := ?_) #[bY,bY,bY,bN,bY,bY,bN,bN,bN] rfl rfl (any_of HT_.out (by kernel_rfl)) (fun _ _ _ h => h) (Or.inl ⟨by rfl, ?_⟩) ?_ ?_
                   rotate_left
                   ·intro w'
                    go_simp
                    with_reducible rfl
                   rotate_left
                   ·simp only [Act.put, sTA, sZ, sS, i64_w, i32_w]
                    rfl
                   refine pure_ (i := 6) (N := some 73) (v := ?_) (a' := ?_) #[bY,bY,bY,bN,bY,bY,bY,bN,bN] rfl rfl (any_of HT_.out (by kernel_rfl)) (fun _ _ _ h => h) (Or.inl ⟨by rfl, ?_⟩) ?_ ?_
                   rotate_left
                   ·intro w'
                    go_simp
                    with_reducible rfl
                   rotate_left
                   ·simp only [Act.put, sTA, sZ, sS, i64_w, i32_w]
                    rfl
                   refine take_ (i := 3) (N := some 70) (v := ?_) (a' := ?_) #[bY,bY,bY,bY,bY,bY,bY,bN,bN] rfl rfl (take_ofW HT_.out HW_.out (by kernel_rfl)) (fun _ _ _ h => h) (Or.inl ⟨by rfl, ?_⟩) hHeld ?_ ?_
                   rotate_left
                   ·rintro w' ⟨s0, s1⟩
                    go_simp
                    with_reducible rfl
                   rotate_left
                   ·simp only [Act.put, sTA, sZ, sS, i64_w, i32_w]
                    rfl
                   refine take_ (i := 7) (N := some 74) (v := ?_) (a' := ?_) #[bY,bY,bY,bY,bY,bY,bY,bY,bN] rfl rfl (take_ofW HT_.out HW_.out (by kernel_rfl)) (fun _ _ _ h => h) (Or.inl ⟨by rfl, ?_⟩) hHeld ?_ ?_
                   rotate_left
                   ·rintro w' ⟨s0, s1⟩
                    go_simp
                    with_reducible rfl
                   rotate_left
                   ·simp only [Act.put, sTA, sZ, sS, i64_w, i32_w]
                    rfl
                   refine pure_ (i := 8) (N := some 75) (v := ?_) (a' := ?_) #[bY,bY,bY,bY,bY,bY,bY,bY,bY] rfl rfl (any_of HT_.out (by kernel_rfl)) (fun _ _ _ h => h) (Or.inl ⟨by rfl, ?_⟩) ?_ ?_
                   rotate_left
                   ·intro w'
                    go_simp
                    with_reducible rfl
                   rotate_left
                   ·simp only [Act.put, sTA, sZ, sS, i64_w, i32_w]
                    rfl
                   refine done_ (done_of HT_.out (by kernel_rfl)) ?_
                   try go_wp2
                   (try simp only [← hl7_3])
                   go_roundg k3
                   case measure => have := HK1.out; have := HK2.out; have := HK3.out; omega
                   case rel => exact ⟨(x7_3), (wrap64 (x11_3 + 1)), (x391002_3), (by first | rfl | (simp; done) | (simp [*]; done)), H', ⟨by have := HK1.out; have := HK2.out; have := HK3.out; omega⟩, ⟨by (try simp only [hl7_3]); (with_reducible repeat (first | apply Kd.R_alloc | apply Kd.R_drewN | apply Kd.R_drew)); exact HO_7.out⟩, ⟨by (try simp only [hl7_3]); (with_reducible repeat (first | refine kDN ?_ _ | refine kD ?_ | refine blk_alloc ?_ _)); exact BK388.out⟩, ⟨by (try simp only [hl7_3]); (with_reducible repeat (first | refine kDN ?_ _ | refine kD ?_ | refine blk_alloc ?_ _)); exact BK389.out⟩, ⟨by (try simp only [hl7_3]); (with_reducible repeat (first | refine kDN ?_ _ | refine kD ?_ | refine blk_alloc ?_ _)); exact BK390.out⟩, ⟨by repeat (first | (with_reducible first | exact HI0.out | apply IsS94.alloc | apply IsS94.drewN | apply IsS94.drew | apply IsS94.set_1 | apply IsS94.set_2 | refine IsS94.far ?_ NB0_388.out _ | refine IsS94.far ?_ NB0_389.out _ | refine IsS94.far ?_ NB0_390.out _) | exact HI0.out)⟩, ⟨by repeat (first | (with_reducible first | exact HK.out | apply KeepBut.set_ | apply keep_drewN | apply keep_drew | apply keep_alloc | refine keep_far ?_ GW388.out _ | refine keep_far ?_ GW389.out _ | refine keep_far ?_ GW390.out _) | exact HK.out)⟩, ⟨by repeat (first | (with_reducible first | exact HB.out | apply bAl | apply bDN | apply bD1 | refine bSt ?_ (IsS94.ge HI0.out) | refine bSt ?_ GE388.out | refine bSt ?_ GE389.out | refine bSt ?_ GE390.out) | exact HB.out)⟩⟩
                  ·rw [if_neg c52] at H
                   have c52b0 : ((rd x7_3 t404) == (rd x7_3 t405)) = false := beq_eq_false_iff_ne.mpr c52
                   have c52b1 : ((rd x7_3 t404) != (rd x7_3 t405)) = true := bne_iff_ne.mpr c52
                   obtain ⟨ji59, hji59⟩ : ∃ j_ : Int, (Int.tmod (wrap64 (t397 + (wrap64 (x11_3 * x10_2)))) t391) = j_ := ⟨_, rfl⟩
                   replace H : (if 0 ≤ (ji59) then (spec_l03Tree.l3 k3 t391 x7_3 t397 x10_2 x11_3 t404 (rd x7_3 t405) 0 s0_0 t401 t402 a1_0 a1_1 a1_0 a1_1 (Go.bits .or .i64 x391002_3 (shl .i64 1 (ji59)))) else (none)) = some (r1, r2, r3, r4, r5) := by first | (rw [hji59] at H; exact H) | (simp only [hji59] at H ⊢; exact H)
                   (try rw [hji59] at A47)
                   by_cases c60 : 0 ≤ (ji59)
                   ·rw [if_pos c60] at H
                    have c60b0 := eq_true c60
                    have c60b1 : decide (0 ≤ (ji59)) = true := decide_eq_true c60
                    clear c60
                    obtain ⟨ji61, hji61⟩ : ∃ j_ : Int, (shl .i64 1 (ji59)) = j_ := ⟨_, rfl⟩
                    replace H : (spec_l03Tree.l3 k3 t391 x7_3 t397 x10_2 x11_3 t404 (rd x7_3 t405) 0 s0_0 t401 t402 a1_0 a1_1 a1_0 a1_1 (Go.bits .or .i64 x391002_3 (ji61))) = some (r1, r2, r3, r4, r5) := by first | (rw [hji61] at H; exact H) | (simp only [hji61] at H ⊢; exact H)
                    (try rw [hji61] at A47)
                    have hji61_ : (IntKind.i64.wrap (1 * 2 ^ min (ji59).toNat 64)) = ji61 := hji61
                    have hji61z : (ji59) ≤ 64 → (IntKind.i64.wrap (1 * 2 ^ (ji59).toNat)) = ji61 := shl_small hji61
                    have hji61u : (IntKind.i64.wrap (2 ^ min (ji59).toNat 64)) = ji61 := by have h_ := hji61_; rw [Int.one_mul] at h_; exact h_
                    have hji61v : (ji59) ≤ 64 → (IntKind.i64.wrap (2 ^ (ji59).toNat)) = ji61 := fun hle_ => by have h_ := hji61z hle_; rw [Int.one_mul] at h_; exact h_
                    have hji61y : (wrap64 (1 * 2 ^ min (ji59).toNat 64)) = ji61 := (i64_w _).symm.trans hji61_
                    have hji61x : (ji59) ≤ 64 → (wrap64 (1 * 2 ^ (ji59).toNat)) = ji61 := fun h_ => (i64_w _).symm.trans (hji61z h_)
                    have H' := aK H
                    clear H
                    have hnb62 := NB388_389.out
                    have hnc62 := NB389_388.out
                    have hnb63 := NB388_390.out
                    have hnc63 := NB390_388.out
                    have hnb64 := NB388_0.out
                    have hnc64 := NB0_388.out
                    obtain ⟨hcz65_0, hcz65_1, hfz65_0, hfz65_1⟩ := cl2 BK388.out
                    try go_wp2_with (first | ((with_reducible refine gate_callee (f := 114) rfl ?_); refine goesL_ (some 64) rfl rfl Try.func114 (by kernel_rfl) rfl #[.agg #[.int .i64 a1_0, .int .i64 a1_1], .int .i64 ji59] rfl (by (try simp only [List.map_toArray, List.map_cons, List.map_nil]); first | done | (simp only [hji59]; rfl) | rfl | (simp only [List.length_drop, List.length_take]; rfl)) ?_; (with_reducible refine (spec_EndsOf.calls a1_0 a1_1 ji59 t404 t405 _ A47.out).mono ?_); rintro e w66 ⟨rfl, hb⟩; refine ⟨_, rfl, ?_⟩; replace HO_7 := aK (Kd.R_below (zA HO_7) hb); replace BK388 := zB BK388 hb; replace BK389 := zB BK389 hb; replace BK390 := zB BK390 hb; replace HK := aK (KeepBut.trans (by repeat (first | (with_reducible first | exact HK.out | apply KeepBut.set_ | apply keep_drewN | apply keep_drew | apply keep_alloc | refine keep_far ?_ GW388.out _ | refine keep_far ?_ GW389.out _ | refine keep_far ?_ GW390.out _) | exact HK.out)) (KeepBut.of_below hb g none) (.inl rfl)); replace HB := aK (bSp (by repeat (first | (with_reducible first | exact HB.out | apply bAl | apply bDN | apply bD1 | refine bSt ?_ (IsS94.ge HI0.out) | refine bSt ?_ GE388.out | refine bSt ?_ GE389.out | refine bSt ?_ GE390.out) | exact HB.out)) hb); replace HI0 := aK (IsS94.below (by repeat (first | (with_reducible first | exact HI0.out | apply IsS94.alloc | apply IsS94.drewN | apply IsS94.drew | apply IsS94.set_1 | apply IsS94.set_2 | refine IsS94.far ?_ NB0_388.out _ | refine IsS94.far ?_ NB0_389.out _ | refine IsS94.far ?_ NB0_390.out _) | exact HI0.out)) hb); (try clear hb); (try clear hb2); (try clear hk); (try clear hi)))
                    have n0_ := aK (Kd.R_drew HO_7.out)
                    have n1_ := aK (kD BK388.out)
                    have n2_ := aK (kD BK389.out)
                    have n3_ := aK (kD BK390.out)
                    have n4_ := aK (IsS94.drew HI0.out)
                    have n5_ := aK (keep_drew HK.out)
                    have n6_ := aK (bD1 HB.out)
                    clear HO_7
                    clear BK388
                    clear BK389
                    clear BK390
                    clear HI0
                    clear HK
                    clear HB
                    have HO_7 := n0_
                    have BK388 := n1_
                    have BK389 := n2_
                    have BK390 := n3_
                    have HI0 := n4_
                    have HK := n5_
                    have HB := n6_
                    clear n0_ n1_ n2_ n3_ n4_ n5_ n6_
                    have p406 : 0 ≤ (t404 : Int) := of_decide_eq_true (by first | (with_reducible assumption) | assumption)
                    have q406 : t404 < (x7_3.length : Int) := of_decide_eq_true (by first | (with_reducible assumption) | assumption)
                    obtain ⟨ad406, e406, hx406_0⟩ := Kd.at_int (Kd.R_reads' HO_7.out).2.2 t404 p406 q406
                    cases e406
                    replace p406 := eq_true p406
                    replace q406 := eq_true q406
                    have p407 : 0 ≤ (t405 : Int) := of_decide_eq_true (by first | (with_reducible assumption) | assumption)
                    have q407 : t405 < (x7_3.length : Int) := of_decide_eq_true (by first | (with_reducible assumption) | assumption)
                    obtain ⟨ad407, e407, hx407_0⟩ := Kd.at_int (Kd.R_reads' HO_7.out).2.2 t405 p407 q407
                    obtain rfl : ad406 = ad407 := (by injection e407)
                    replace p407 := eq_true p407
                    replace q407 := eq_true q407
                    refine start_ (n := 9) (S := fun w' => w'.cell? (ad406.add (t404).toNat) = some (.int .i64 (rd x7_3 t404)) ∧ w'.cell? (ad406.add (t405).toNat) = some (.int .i64 (rd x7_3 t405))) (ds := []) #[bN,bN,bN,bN,bN,bN,bN,bN,bN] (by kernel_rfl) rfl rfl ⟨hx406_0, hx407_0⟩ (fun hHeld => ?_); refine with_tabW spec_l03Tree.tab19 spec_l03Tree.bits19 (fun HT_ HW_ => ?_)
                    generalize w66.drew = w67 at HO_7 BK388 BK389 BK390 HI0 HK HB hx406_0 hx407_0 hHeld ⊢
                    refine pure_ (i := 0) (N := some 67) (v := ?_) (a' := ?_) #[bY,bN,bN,bN,bN,bN,bN,bN,bN] rfl rfl (any_of HT_.out (by kernel_rfl)) (fun _ _ _ h => h) (Or.inl ⟨by rfl, ?_⟩) ?_ ?_
                    rotate_left
                    ·intro w'
                     go_simp
                     with_reducible rfl
                    rotate_left
                    ·simp only [Act.put, sTA, sZ, sS, i64_w, i32_w]
                     rfl
                    refine pure_ (i := 1) (N := some 68) (v := ?_) (a' := ?_) #[bY,bY,bN,bN,bN,bN,bN,bN,bN] rfl rfl (any_of HT_.out (by kernel_rfl)) (fun _ _ _ h => h) (Or.inl ⟨by rfl, ?_⟩) ?_ ?_
                    rotate_left
                    ·intro w'
                     go_simp
                     with_reducible rfl
                    rotate_left
                    ·simp only [Act.put, sTA, sZ, sS, i64_w, i32_w]
                     rfl
                    refine pure_ (i := 2) (N := some 69) (v := ?_) (a' := ?_) #[bY,bY,bY,bN,bN,bN,bN,bN,bN] rfl rfl (any_of HT_.out (by kernel_rfl)) (fun _ _ _ h => h) (Or.inl ⟨by rfl, ?_⟩) ?_ ?_
                    rotate_left
                    ·intro w'
                     go_simp
                     with_reducible rfl
                    rotate_left
                    ·simp only [Act.put, sTA, sZ, sS, i64_w, i32_w]
                     rfl
                    refine pure_ (i := 4) (N := some 71) (v := ?_) (a' := ?_) #[bY,bY,bY,bN,bY,bN,bN,bN,bN] rfl rfl (any_of HT_.out (by kernel_rfl)) (fun _ _ _ h => h) (Or.inl ⟨by rfl, ?_⟩) ?_ ?_
                    rotate_left
                    ·intro w'
                     go_simp
                     with_reducible rfl
                    rotate_left
                    ·simp only [Act.put, sTA, sZ, sS, i64_w, i32_w]
                     rfl
                    refine pure_ (i := 5) (N := some 72) (v := ?_) (a' := ?_) #[bY,bY,bY,bN,bY,bY,bN,bN,bN] rfl rfl (any_of HT_.out (by kernel_rfl)) (fun _ _ _ h => h) (Or.inl ⟨by rfl, ?_⟩) ?_ ?_
                    rotate_left
                    ·intro w'
                     go_simp
                     with_reducible rfl
                    rotate_left
                    ·simp only [Act.put, sTA, sZ, sS, i64_w, i32_w]
                     rfl
                    refine pure_ (i := 6) (N := some 73) (v := ?_) (a' := ?_) #[bY,bY,bY,bN,bY,bY,bY,bN,bN] rfl rfl (any_of HT_.out (by kernel_rfl)) (fun _ _ _ h => h) (Or.inl ⟨by rfl, ?_⟩) ?_ ?_
                    rotate_left
                    ·intro w'
                     go_simp
                     with_reducible rfl
                    rotate_left
                    ·simp only [Act.put, sTA, sZ, sS, i64_w, i32_w]
                     rfl
                    refine take_ (i := 3) (N := some 70) (v := ?_) (a' := ?_) #[bY,bY,bY,bY,bY,bY,bY,bN,bN] rfl rfl (take_ofW HT_.out HW_.out (by kernel_rfl)) (fun _ _ _ h => h) (Or.inl ⟨by rfl, ?_⟩) hHeld ?_ ?_
                    rotate_left
                    ·rintro w' ⟨s0, s1⟩
                     go_simp
                     with_reducible rfl
                    rotate_left
                    ·simp only [Act.put, sTA, sZ, sS, i64_w, i32_w]
                     rfl
                    refine take_ (i := 7) (N := some 74) (v := ?_) (a' := ?_) #[bY,bY,bY,bY,bY,bY,bY,bY,bN] rfl rfl (take_ofW HT_.out HW_.out (by kernel_rfl)) (fun _ _ _ h => h) (Or.inl ⟨by rfl, ?_⟩) hHeld ?_ ?_
                    rotate_left
                    ·rintro w' ⟨s0, s1⟩
                     go_simp
                     with_reducible rfl
                    rotate_left
                    ·simp only [Act.put, sTA, sZ, sS, i64_w, i32_w]
                     rfl
                    refine pure_ (i := 8) (N := some 75) (v := ?_) (a' := ?_) #[bY,bY,bY,bY,bY,bY,bY,bY,bY] rfl rfl (any_of HT_.out (by kernel_rfl)) (fun _ _ _ h => h) (Or.inl ⟨by rfl, ?_⟩) ?_ ?_
                    rotate_left
                    ·intro w'
                     go_simp
                     with_reducible rfl
                    rotate_left
                    ·simp only [Act.put, sTA, sZ, sS, i64_w, i32_w]
                     rfl
                    refine done_ (done_of HT_.out (by kernel_rfl)) ?_
                    try go_wp2
                    have n0_ := aK (Kd.R_drew HO_7.out)
                    have n1_ := aK (kD BK388.out)
                    have n2_ := aK (kD BK389.out)
                    have n3_ := aK (kD BK390.out)
                    have n4_ := aK (IsS94.drew HI0.out)
                    have n5_ := aK (keep_drew HK.out)
                    have n6_ := aK (bD1 HB.out)
                    clear HO_7
                    clear BK388
                    clear BK389
                    clear BK390
                    clear HI0
                    clear HK
                    clear HB
                    have HO_7 := n0_
                    have BK388 := n1_
                    have BK389 := n2_
                    have BK390 := n3_
                    have HI0 := n4_
                    have HK := n5_
                    have HB := n6_
                    clear n0_ n1_ n2_ n3_ n4_ n5_ n6_
                    refine start_ (n := 7) (S := fun w' => w'.cell? ⟨gb390, 0, none⟩ = some (.int .i64 a1_0) ∧ w'.cell? ⟨gb390, 1, none⟩ = some (.int .i64 a1_1) ∧ w'.cell? ⟨gb390, 2, none⟩ = some (.int .i64 x391002_3)) (ds := [6]) #[bN,bN,bN,bN,bN,bN,bN] (by kernel_rfl) rfl rfl ⟨zQ BK390 0, zQ BK390 1, zQ BK390 2⟩ (fun hHeld => ?_)
                    generalize w67.drew = w68 at HO_7 BK388 BK389 BK390 HI0 HK HB hHeld ⊢
                    refine pure_ (i := 0) (N := some 76) (v := ?_) (a' := ?_) #[bY,bN,bN,bN,bN,bN,bN] rfl rfl (by kernel_rfl) (fun _ _ _ h => h) (Or.inl ⟨by rfl, ?_⟩) ?_ ?_
                    rotate_left
                    ·intro w'
                     go_simp
                     with_reducible rfl
                    rotate_left
                    ·simp only [Act.put, sTA, sZ, sS, i64_w, i32_w]
                     rfl
                    refine pure_ (i := 2) (N := some 78) (v := ?_) (a' := ?_) #[bY,bN,bY,bN,bN,bN,bN] rfl rfl (by kernel_rfl) (fun _ _ _ h => h) (Or.inl ⟨by rfl, ?_⟩) ?_ ?_
                    rotate_left
                    ·intro w'
                     go_simp
                     with_reducible rfl
                    rotate_left
                    ·simp only [Act.put, sTA, sZ, sS, i64_w, i32_w]
                     rfl
                    refine pure_ (i := 3) (N := some 79) (v := ?_) (a' := ?_) #[bY,bN,bY,bY,bN,bN,bN] rfl rfl (by kernel_rfl) (fun _ _ _ h => h) (Or.inl ⟨by rfl, ?_⟩) ?_ ?_
                    rotate_left
                    ·intro w'
                     go_simp
                     with_reducible rfl
                    rotate_left
                    ·simp only [Act.put, sTA, sZ, sS, i64_w, i32_w]
                     rfl
                    refine take_ (i := 1) (N := some 77) (v := ?_) (a' := ?_) #[bY,bY,bY,bY,bN,bN,bN] rfl rfl (by kernel_rfl) (fun _ _ _ h => h) (Or.inl ⟨by rfl, ?_⟩) hHeld ?_ ?_
                    rotate_left
                    ·rintro w' ⟨s0, s1, s2⟩
                     go_simp
                     with_reducible rfl
                    rotate_left
                    ·simp only [Act.put, sTA, sZ, sS, i64_w, i32_w]
                     rfl
                    refine pure_ (i := 4) (N := some 80) (v := ?_) (a' := ?_) #[bY,bY,bY,bY,bY,bN,bN] rfl rfl (by kernel_rfl) (fun _ _ _ h => h) (Or.inl ⟨by rfl, ?_⟩) ?_ ?_
                    rotate_left
                    ·intro w'
                     go_simp
                     with_reducible rfl
                    rotate_left
                    ·simp only [Act.put, sTA, sZ, sS, i64_w, i32_w]
                     rfl
                    refine pure_ (i := 5) (N := some 81) (v := ?_) (a' := ?_) #[bY,bY,bY,bY,bY,bY,bN] rfl rfl (by kernel_rfl) (fun _ _ _ h => h) (Or.inl ⟨by rfl, ?_⟩) ?_ ?_
                    rotate_left
                    ·intro w'
                     go_simp
                     with_reducible rfl
                    rotate_left
                    ·simp only [Act.put, sTA, sZ, sS, i64_w, i32_w]
                     rfl
                    refine last_ (i := 6) (N := none) #[bY,bY,bY,bY,bY,bY,bY] rfl rfl (by kernel_rfl) (by decide) (fun K hK => ?_)
                    have hs69 : w68.cell? ⟨gb390, 2, none⟩ = some (.int .i64 x391002_3) := (kC BK390.out 2).trans rfl
                    have hfs69 := kF BK390.out 2
                    have hns69_0 := NB388_390.out
                    have hns69_1 := NB389_390.out
                    have hms69_0 := NB390_388.out
                    have hms69_1 := NB390_389.out
                    refine skip_ (w1 := ?_) (by rfl) rfl ?_ ?_
                    rotate_left
                    ·go_simp
                     rfl
                    refine hK.out _ _ ?_
                    clear hK K
                    refine done_ (by kernel_rfl) ?_
                    have p408 : 0 ≤ (t405 : Int) := of_decide_eq_true (by first | (with_reducible assumption) | assumption)
                    have q408 : t405 < (x7_3.length : Int) := of_decide_eq_true (by first | (with_reducible assumption) | assumption)
                    obtain ⟨ad408, e408, hx408_0⟩ := Kd.at_int (Kd.R_reads' HO_7.out).2.2 t405 p408 q408
                    obtain rfl : ad406 = ad408 := (by injection e408)
                    have hn408_0 : ad406.block ≠ gb390 := Kd.own_blk (Kd.R_ne HO_7.out BK390.out (by decide))
                    replace hx408_0 := (cell_far (p := ⟨gb390, 2, none⟩) (by first | (rw [add_block]; exact hn408_0) | (show (Addr.add _ _).block ≠ _; rw [add_block]; exact hn408_0) | exact hn408_0) (.int .i64 (Go.bits .or .i64 x391002_3 (ji61)))).trans hx408_0
                    clear hn408_0
                    replace p408 := eq_true p408
                    replace q408 := eq_true q408
                    try go_wp2
                    go_loopg [16] k3 (fun kq v16 w' => ∃ (x7_4 : List Int) (x16_4 : Int), v16 = .int .i64 x16_4 ∧ Aside0 (spec_l03Tree.l3 kq t391 x7_4 t397 x10_2 x11_3 t404 (rd x7_3 t405) x16_4 s0_0 t401 t402 a1_0 a1_1 a1_0 a1_1 (Go.bits .or .i64 x391002_3 (ji61)) = some (r1, r2, r3, r4, r5)) ∧ Aside0 (kq ≤ k3) ∧ Aside0 (Kd.R (Kd.int .i64) 3 w' w.heap.size (fun _ => True) (.slice (some ad406) x7_3.length co40) x7_4) ∧ Aside0 (w'.heap[gb388]? = some (.cells #[.int .i64 a1_0, .int .i64 a1_1] 28 (0, 0))) ∧ Aside0 (w'.heap[gb389]? = some (.cells #[.int .i64 0, .int .i64 0, .int .i64 0] 30 (0, 0))) ∧ Aside0 (w'.heap[gb390]? = some (.cells #[.int .i64 a1_0, .int .i64 a1_1, .int .i64 (Go.bits .or .i64 x391002_3 (ji61))] 30 (0, 0))) ∧ Aside0 (IsS94 w0 w' g s0_0 t401 t402) ∧ Aside0 (KeepBut w w' g none) ∧ Aside0 (Below w0.heap.size w0 w'))
                    case atStart => exact ⟨(x7_3), (0), (by first | rfl | (simp; done) | (simp [*]; done)), H', ⟨Nat.le_refl _⟩, ⟨by (try simp only [hl7_3]); (with_reducible repeat (first | apply Kd.R_alloc | apply Kd.R_drewN | apply Kd.R_drew)); exact Kd.R_mono (Kd.R_far (p := ⟨gb390, 2, none⟩) (Kd.R_types HO_7.out BK390.out (by decide)) (fun _ hk => hk.2) (.int .i64 (Go.bits .or .i64 x391002_3 (ji61)))) (fun _ hk => trivial)⟩, ⟨by (try simp only [hl7_3]); (with_reducible repeat (first | refine kDN ?_ _ | refine kD ?_ | refine blk_alloc ?_ _)); refine blk_far ?_ NB388_390.out _; (with_reducible repeat (first | refine kDN ?_ _ | refine kD ?_ | refine blk_alloc ?_ _)); exact BK388.out⟩, ⟨by (try simp only [hl7_3]); (with_reducible repeat (first | refine kDN ?_ _ | refine kD ?_ | refine blk_alloc ?_ _)); refine blk_far ?_ NB389_390.out _; (with_reducible repeat (first | refine kDN ?_ _ | refine kD ?_ | refine blk_alloc ?_ _)); exact BK389.out⟩, ⟨by (try simp only [hl7_3]); (with_reducible repeat (first | refine kDN ?_ _ | refine kD ?_ | refine blk_alloc ?_ _)); refine blk_put (cs := #[.int .i64 a1_0, .int .i64 a1_1, .int .i64 x391002_3]) ?_ 2 _ rfl; (with_reducible repeat (first | refine kDN ?_ _ | refine kD ?_ | refine blk_alloc ?_ _)); exact BK390.out⟩, ⟨by repeat (first | (with_reducible first | exact HI0.out | apply IsS94.alloc | apply IsS94.drewN | apply IsS94.drew | apply IsS94.set_1 | apply IsS94.set_2 | refine IsS94.far ?_ NB0_388.out _ | refine IsS94.far ?_ NB0_389.out _ | refine IsS94.far ?_ NB0_390.out _) | exact HI0.out)⟩, ⟨by repeat (first | (with_reducible first | exact HK.out | apply KeepBut.set_ | apply keep_drewN | apply keep_drew | apply keep_alloc | refine keep_far ?_ GW388.out _ | refine keep_far ?_ GW389.out _ | refine keep_far ?_ GW390.out _) | exact HK.out)⟩, ⟨by repeat (first | (with_reducible first | exact HB.out | apply bAl | apply bDN | apply bD1 | refine bSt ?_ (IsS94.ge HI0.out) | refine bSt ?_ GE388.out | refine bSt ?_ GE389.out | refine bSt ?_ GE390.out) | exact HB.out)⟩⟩
                    case round =>
                     clear H'
                     try clear c1
                     try clear c2
                     try clear p2
                     try clear q2
                     try clear hx2
                     try clear hf2
                     try clear c3
                     try clear c4
                     try clear p4
                     try clear q4
                     try clear hx4
                     try clear c5
                     try clear c5b0
                     try clear c5b1
                     try clear c6
                     try clear c6b0
                     try clear c6b1
                     try clear p6
                     try clear c8
                     try clear c9
                     try clear c10
                     try clear c11
                     try clear c13
                     try clear c14
                     try clear c15
                     try clear c22
                     try clear c23
                     try clear c23b0
                     try clear c24
                     try clear c24b0
                     try clear p25
                     try clear q25
                     try clear hx25
                     try clear hf25
                     try clear c29
                     try clear c29b0
                     try clear c29b1
                     try clear c31
                     try clear c32
                     try clear c33
                     try clear c35
                     try clear c36
                     try clear p40
                     try clear q40
                     try clear hx40
                     try clear c44
                     try clear c45
                     try clear c45b0
                     try clear c46
                     try clear c46b0
                     try clear c46b1
                     try clear c48
                     try clear c48b0
                     try clear c49
                     try clear c49b0
                     try clear c50
                     try clear c50b0
                     try clear c51
                     try clear c51b0
                     try clear c52
                     try clear c52b0
                     try clear c52b1
                     try clear c53
                     try clear c54
                     try clear c55
                     try clear c60
                     try clear c60b0
                     try clear c60b1
                     try clear c62
                     try clear c63
                     try clear c64
                     try clear p64
                     try clear hcz11_0
                     try clear hcz11_1
                     try clear hcz16_0
                     try clear hcz16_1
                     try clear hcz16_2
                     try clear hcz17_0
                     try clear hcz17_1
                     try clear hcz19_0
                     try clear hcz19_1
                     try clear hcz34_0
                     try clear hcz34_1
                     try clear hcz34_2
                     try clear hcz37_0
                     try clear hcz37_1
                     try clear hcz37_2
                     try clear hcz56_0
                     try clear hcz56_1
                     try clear hcz65_0
                     try clear hcz65_1
                     try clear hfz11_0
                     try clear hfz11_1
                     try clear hfz16_0
                     try clear hfz16_1
                     try clear hfz16_2
                     try clear hfz17_0
                     try clear hfz17_1
                     try clear hfz19_0
                     try clear hfz19_1
                     try clear hfz34_0
                     try clear hfz34_1
                     try clear hfz34_2
                     try clear hfz37_0
                     try clear hfz37_1
                     try clear hfz37_2
                     try clear hfz56_0
                     try clear hfz56_1
                     try clear hfz65_0
                     try clear hfz65_1
                     try clear hx25_0
                     try clear hx406_0
                     try clear hx407_0
                     try clear hx408_0
                     try clear p2
                     try clear p25
                     try clear p406
                     try clear p407
                     try clear p408
                     try clear p6
                     try clear q2
                     try clear q25
                     try clear q406
                     try clear q407
                     try clear q408
                     obtain ⟨x7_4, x16_4, rfl, HA, HK4, HO_7, BK388, BK389, BK390, HI0, HK, HB⟩ := hrel
                     have hl7_4 := (Kd.R_reads' HO_7.out).1
                     rw [hl7_4] at HO_7
                     (try simp only [hl7_4])
                     (try simp only [hl7_4] at BK388)
                     (try simp only [hl7_4] at BK389)
                     (try simp only [hl7_4] at BK390)
                     cases gk with
                     | zero => exact absurd HA.out (by simp [spec_l03Tree.l3])
                     | succ k4 =>
                      have H := HA.out
                      clear HA
                      simp only [spec_l03Tree.l3] at H
                      by_cases c70 : x16_4 < (x7_4.length : Int)
                      ·rw [if_pos c70] at H
                       have c70b0 : decide (x16_4 < (x7_4.length : Int)) = true := decide_eq_true c70
                       clear c70
                       by_cases c71 : 0 ≤ x16_4
                       ·rw [if_pos c71] at H
                        have c71b0 : decide (0 ≤ x16_4) = true := decide_eq_true c71
                        clear c71
                        by_cases c72 : (rd x7_4 x16_4) = (rd x7_3 t405)
                        ·rw [if_pos c72] at H
                         have c72b0 : ((rd x7_4 x16_4) == (rd x7_3 t405)) = true := beq_iff_eq.mpr c72
                         have c72b1 : ((rd x7_4 x16_4) != (rd x7_3 t405)) = false := bne_eq_false_iff_eq.mpr c72
                         clear c72
                         by_cases c73 : 0 ≤ t404
                         ·rw [if_pos c73] at H
                          have c73b0 : decide (0 ≤ t404) = true := decide_eq_true c73
                          clear c73
                          by_cases c74 : t404 < (x7_4.length : Int)
                          ·rw [if_pos c74] at H
                           have c74b0 : decide (t404 < (x7_4.length : Int)) = true := decide_eq_true c74
                           clear c74
                           obtain ⟨y411, hy411⟩ : ∃ y_ : List Int, y_ = (x7_4.set (x16_4 : Int).toNat (rd x7_4 t404)) := ⟨_, rfl⟩
                           replace H : (spec_l03Tree.l3 k4 t391 y411 t397 x10_2 x11_3 t404 (rd x7_3 t405) (wrap64 (x16_4 + 1)) s0_0 t401 t402 a1_0 a1_1 a1_0 a1_1 (Go.bits .or .i64 x391002_3 (ji61))) = some (r1, r2, r3, r4, r5) := by first | (rw [hy411]; with_reducible exact H) | (have H2_ := (Option.bind_some _ _).symm.trans H; rw [hy411]; with_reducible exact H2_) | (have H2_ := (Option.bind_some _ _).symm.trans H; with_reducible exact H2_) | with_reducible exact H | (rw [hy411]; exact H) | exact H
                           have Ny411 := aK hy411
                           clear hy411
                           have H' := aK H
                           clear H
                           have p409 : 0 ≤ (x16_4 : Int) := of_decide_eq_true (by first | (with_reducible assumption) | assumption)
                           have q409 : x16_4 < (x7_4.length : Int) := of_decide_eq_true (by first | (with_reducible assumption) | assumption)
                           obtain ⟨ad409, e409, hx409_0⟩ := Kd.at_int (Kd.R_reads' HO_7.out).2.2 x16_4 p409 q409
                           obtain rfl : ad406 = ad409 := (by injection e409)
                           replace p409 := eq_true p409
                           replace q409 := eq_true q409
                           have p410 : 0 ≤ (t404 : Int) := of_decide_eq_true (by first | (with_reducible assumption) | assumption)
                           have q410 : t404 < (x7_4.length : Int) := of_decide_eq_true (by first | (with_reducible assumption) | assumption)
                           obtain ⟨ad410, e410, hx410_0⟩ := Kd.at_int (Kd.R_reads' HO_7.out).2.2 t404 p410 q410
                           obtain rfl : ad406 = ad410 := (by injection e410)
                           replace p410 := eq_true p410
                           replace q410 := eq_true q410
                           have p75 : 0 ≤ (x16_4 : Int) := of_decide_eq_true (by first | (with_reducible assumption) | assumption)
                           have q75 : (x16_4 : Int) < ((x7_4.length : Int) : Int) := of_decide_eq_true (by first | (with_reducible assumption) | assumption)
                           obtain ⟨go75, co75, eo75, gb75, gl75, cl75, HG75⟩ := Kd.R_form HO_7.out (by omega)
                           (first | cases eo75 | (injection eo75 with ea_ en_ ec_; (first | subst ea_ | (injection ea_ with ea_; subst ea_)); subst ec_; clear en_))
                           have GB75 := aK gb75
                           have GG75 := aK HG75
                           clear gb75 gl75 HG75
                           (first | simp only [add_plain] at hx406_0 | skip)
                           (first | simp only [add_plain] at hx407_0 | skip)
                           (first | simp only [add_plain] at hx408_0 | skip)
                           (first | simp only [add_plain] at hx409_0 | skip)
                           (first | simp only [add_plain] at hx410_0 | skip)
                           obtain ⟨hx75_0, hf75_0⟩ := Kd.R_celln 0 HO_7.out (x16_4 : Int) p75 q75
                           replace p75 := eq_true p75
                           replace q75 := eq_true q75
                           have HP76 := Kd.R_putg HO_7.out (x16_4 : Int) (rd x7_4 t404)
                           go_wp2_with (first | ((with_reducible refine gate_store (t := 3) (p := 104) rfl ?_); refine store_event (t := 3) (p := 104) (v := ?vo_w77) (w1 := (wr.setCell ⟨go75, (x16_4 : Int).toNat, none⟩ (.int .i64 (rd x7_4 t404)))) ?hg ?ho ?hn ?hr ?_; (case ho => rfl); (case hg => rfl); (case hn => rfl); (case hr => first | (go_simp; done) | (go_simp; rfl)); intro w77 hw; have hg : wr.grownBy w77 (some go75) := (by rw [hw]; exact HP76.2); have hp_ : Kd.R (Kd.int .i64) 3 w77 w.heap.size (fun _ => True) (.slice (some ⟨go75, 0, none⟩) x7_4.length co40) y411 := (by rw [hw, Ny411.out]; exact HP76.1); clear HP76; replace BK388 := aK (blk_grown (g := gb388) (o := .cells #[.int .i64 a1_0, .int .i64 a1_1] 28 (0, 0)) (zK BK388) hg (Kd.R_ne HO_7.out BK388.out (by decide))); replace BK389 := aK (blk_grown (g := gb389) (o := .cells #[.int .i64 0, .int .i64 0, .int .i64 0] 30 (0, 0)) (zK BK389) hg (Kd.R_ne HO_7.out BK389.out (by decide))); replace BK390 := aK (blk_grown (g := gb390) (o := .cells #[.int .i64 a1_0, .int .i64 a1_1, .int .i64 (Go.bits .or .i64 x391002_3 (ji61))] 30 (0, 0)) (zK BK390) hg (Kd.R_ne HO_7.out BK390.out (by decide))); replace HI0 := aK (IsS94.grown (show IsS94 w0 _ g s0_0 t401 t402 from by repeat (first | (with_reducible first | exact HI0.out | apply IsS94.alloc | apply IsS94.drewN | apply IsS94.drew | apply IsS94.set_1 | apply IsS94.set_2 | refine IsS94.far ?_ NB0_388.out _ | refine IsS94.far ?_ NB0_389.out _ | refine IsS94.far ?_ NB0_390.out _) | exact HI0.out)) hg (IsS94.own_ne HI0.out HO_7.out (by decide))); replace HB := aK ((by rw [hw]; exact bSt (HB.out) (Nat.le_trans HL.out GB75.out) : Below w0.heap.size w0 w77)); replace HK := aK (KeepBut.trans (by repeat (first | (with_reducible first | exact HK.out | apply KeepBut.set_ | apply keep_drewN | apply keep_drew | apply keep_alloc | refine keep_far ?_ GW388.out _ | refine keep_far ?_ GW389.out _ | refine keep_far ?_ GW390.out _) | exact HK.out)) (KeepBut.of_grown hg g) (Kd.R_base2 HO_7.out)); replace HO_7 := aK (hp_); clear hg hw hp_))
                           (try simp only [← hl7_4])
                           (try simp only [add_plain] at *)
                           go_roundg k4
                           case measure => have := HK1.out; have := HK2.out; have := HK3.out; have := HK4.out; omega
                           case rel => exact ⟨(y411), (wrap64 (x16_4 + 1)), (by first | rfl | (simp; done) | (simp [*]; done)), H', ⟨by have := HK1.out; have := HK2.out; have := HK3.out; have := HK4.out; omega⟩, ⟨by (try simp only [hl7_3]); (try simp only [hl7_4]); (with_reducible repeat (first | apply Kd.R_alloc | apply Kd.R_drewN | apply Kd.R_drew)); exact HO_7.out⟩, ⟨by (try simp only [hl7_3]); (try simp only [hl7_4]); (with_reducible repeat (first | refine kDN ?_ _ | refine kD ?_ | refine blk_alloc ?_ _)); exact BK388.out⟩, ⟨by (try simp only [hl7_3]); (try simp only [hl7_4]); (with_reducible repeat (first | refine kDN ?_ _ | refine kD ?_ | refine blk_alloc ?_ _)); exact BK389.out⟩, ⟨by (try simp only [hl7_3]); (try simp only [hl7_4]); (with_reducible repeat (first | refine kDN ?_ _ | refine kD ?_ | refine blk_alloc ?_ _)); exact BK390.out⟩, ⟨by repeat (first | (with_reducible first | exact HI0.out | apply IsS94.alloc | apply IsS94.drewN | apply IsS94.drew | apply IsS94.set_1 | apply IsS94.set_2 | refine IsS94.far ?_ NB0_388.out _ | refine IsS94.far ?_ NB0_389.out _ | refine IsS94.far ?_ NB0_390.out _) | exact HI0.out)⟩, ⟨by repeat (first | (with_reducible first | exact HK.out | apply KeepBut.set_ | apply keep_drewN | apply keep_drew | apply keep_alloc | refine keep_far ?_ GW388.out _ | refine keep_far ?_ GW389.out _ | refine keep_far ?_ GW390.out _) | exact HK.out)⟩, ⟨by repeat (first | (with_reducible first | exact HB.out | apply bAl | apply bDN | apply bD1 | refine bSt ?_ (IsS94.ge HI0.out) | refine bSt ?_ GE388.out | refine bSt ?_ GE389.out | refine bSt ?_ GE390.out) | exact HB.out)⟩⟩
                          ·rw [if_neg c74] at H
                           exact absurd H (by simp)
                         ·rw [if_neg c73] at H
                          exact absurd H (by simp)
                        ·rw [if_neg c72] at H
                         have c72b0 : ((rd x7_4 x16_4) == (rd x7_3 t405)) = false := beq_eq_false_iff_ne.mpr c72
                         have c72b1 : ((rd x7_4 x16_4) != (rd x7_3 t405)) = true := bne_iff_ne.mpr c72
                         have H' := aK H
                         clear H
                         have p409 : 0 ≤ (x16_4 : Int) := of_decide_eq_true (by first | (with_reducible assumption) | assumption)
                         have q409 : x16_4 < (x7_4.length : Int) := of_decide_eq_true (by first | (with_reducible assumption) | assumption)
                         obtain ⟨ad409, e409, hx409_0⟩ := Kd.at_int (Kd.R_reads' HO_7.out).2.2 x16_4 p409 q409
                         obtain rfl : ad406 = ad409 := (by injection e409)
                         replace p409 := eq_true p409
                         replace q409 := eq_true q409
                         go_wp2
                         (try simp only [← hl7_4])
                         (try simp only [add_plain] at *)
                         go_roundg k4
                         case measure => have := HK1.out; have := HK2.out; have := HK3.out; have := HK4.out; omega
                         case rel => exact ⟨(x7_4), (wrap64 (x16_4 + 1)), (by first | rfl | (simp; done) | (simp [*]; done)), H', ⟨by have := HK1.out; have := HK2.out; have := HK3.out; have := HK4.out; omega⟩, ⟨by (try simp only [hl7_3]); (try simp only [hl7_4]); (with_reducible repeat (first | apply Kd.R_alloc | apply Kd.R_drewN | apply Kd.R_drew)); exact HO_7.out⟩, ⟨by (try simp only [hl7_3]); (try simp only [hl7_4]); (with_reducible repeat (first | refine kDN ?_ _ | refine kD ?_ | refine blk_alloc ?_ _)); exact BK388.out⟩, ⟨by (try simp only [hl7_3]); (try simp only [hl7_4]); (with_reducible repeat (first | refine kDN ?_ _ | refine kD ?_ | refine blk_alloc ?_ _)); exact BK389.out⟩, ⟨by (try simp only [hl7_3]); (try simp only [hl7_4]); (with_reducible repeat (first | refine kDN ?_ _ | refine kD ?_ | refine blk_alloc ?_ _)); exact BK390.out⟩, ⟨by repeat (first | (with_reducible first | exact HI0.out | apply IsS94.alloc | apply IsS94.drewN | apply IsS94.drew | apply IsS94.set_1 | apply IsS94.set_2 | refine IsS94.far ?_ NB0_388.out _ | refine IsS94.far ?_ NB0_389.out _ | refine IsS94.far ?_ NB0_390.out _) | exact HI0.out)⟩, ⟨by repeat (first | (with_reducible first | exact HK.out | apply KeepBut.set_ | apply keep_drewN | apply keep_drew | apply keep_alloc | refine keep_far ?_ GW388.out _ | refine keep_far ?_ GW389.out _ | refine keep_far ?_ GW390.out _) | exact HK.out)⟩, ⟨by repeat (first | (with_reducible first | exact HB.out | apply bAl | apply bDN | apply bD1 | refine bSt ?_ (IsS94.ge HI0.out) | refine bSt ?_ GE388.out | refine bSt ?_ GE389.out | refine bSt ?_ GE390.out) | exact HB.out)⟩⟩
                       ·rw [if_neg c71] at H
                        exact absurd H (by simp)
                      ·rw [if_neg c70] at H
                       have c70b0 : decide (x16_4 < (x7_4.length : Int)) = false := decide_eq_false c70
                       clear c70
                       have H' := aK H
                       clear H
                       go_wp2
                       (try simp only [← hl7_3, ← hl7_4])
                       (try simp only [add_plain] at *)
                       go_roundg k4
                       case measure => have := HK1.out; have := HK2.out; have := HK3.out; have := HK4.out; omega
                       case rel => exact ⟨(x7_4), (wrap64 (x11_3 + 1)), ((Go.bits .or .i64 x391002_3 (ji61))), (by first | rfl | (simp; done) | (simp [*]; done)), H', ⟨by have := HK1.out; have := HK2.out; have := HK3.out; have := HK4.out; omega⟩, ⟨by (try simp only [hl7_3]); (try simp only [hl7_4]); (with_reducible repeat (first | apply Kd.R_alloc | apply Kd.R_drewN | apply Kd.R_drew)); exact HO_7.out⟩, ⟨by (try simp only [hl7_3]); (try simp only [hl7_4]); (with_reducible repeat (first | refine kDN ?_ _ | refine kD ?_ | refine blk_alloc ?_ _)); exact BK388.out⟩, ⟨by (try simp only [hl7_3]); (try simp only [hl7_4]); (with_reducible repeat (first | refine kDN ?_ _ | refine kD ?_ | refine blk_alloc ?_ _)); exact BK389.out⟩, ⟨by (try simp only [hl7_3]); (try simp only [hl7_4]); (with_reducible repeat (first | refine kDN ?_ _ | refine kD ?_ | refine blk_alloc ?_ _)); exact BK390.out⟩, ⟨by repeat (first | (with_reducible first | exact HI0.out | apply IsS94.alloc | apply IsS94.drewN | apply IsS94.drew | apply IsS94.set_1 | apply IsS94.set_2 | refine IsS94.far ?_ NB0_388.out _ | refine IsS94.far ?_ NB0_389.out _ | refine IsS94.far ?_ NB0_390.out _) | exact HI0.out)⟩, ⟨by repeat (first | (with_reducible first | exact HK.out | apply KeepBut.set_ | apply keep_drewN | apply keep_drew | apply keep_alloc | refine keep_far ?_ GW388.out _ | refine keep_far ?_ GW389.out _ | refine keep_far ?_ GW390.out _) | exact HK.out)⟩, ⟨by repeat (first | (with_reducible first | exact HB.out | apply bAl | apply bDN | apply bD1 | refine bSt ?_ (IsS94.ge HI0.out) | refine bSt ?_ GE388.out | refine bSt ?_ GE389.out | refine bSt ?_ GE390.out) | exact HB.out)⟩⟩
                   ·rw [if_neg c60] at H
                    exact absurd H (by simp)
                 ·rw [if_neg c51] at H
                  exact absurd H (by simp)
                ·rw [if_neg c50] at H
                 exact absurd H (by simp)
               ·rw [if_neg c49] at H
                exact absurd H (by simp)
              ·rw [if_neg c48] at H
               exact absurd H (by simp)
            ·rw [if_neg c45] at H
             have c45b0 : decide (x11_3 < t391) = false := decide_eq_false c45
             clear c45
             simp only [Option.some.injEq, Prod.mk.injEq] at H
             obtain ⟨rfl, rfl, rfl, rfl, rfl⟩ := H
             have hnb78 := NB390_388.out
             have hnc78 := NB388_390.out
             have hnb79 := NB390_389.out
             have hnc79 := NB389_390.out
             have hnb80 := NB390_0.out
             have hnc80 := NB0_390.out
             obtain ⟨hcz81_0, hcz81_1, hcz81_2, hfz81_0, hfz81_1, hfz81_2⟩ := cl3 BK390.out
             have hnb82 := NB389_388.out
             have hnc82 := NB388_389.out
             have hnb83 := NB389_0.out
             have hnc83 := NB0_389.out
             obtain ⟨hcz84_0, hcz84_1, hcz84_2, hfz84_0, hfz84_1, hfz84_2⟩ := cl3 BK389.out
             go_wp2
             refine bodyPost_ret (results_cell_row rfl _ _ gb389 30 #[.int .i64 a1_0, .int .i64 a1_1, .int .i64 x391002_3] (0, 0) _ rfl (by (with_reducible repeat (first | refine kDN ?_ _ | refine kD ?_ | refine blk_alloc ?_ _)); refine blk_put (cs := #[.int .i64 a1_0, .int .i64 a1_1, .int .i64 0]) ?_ 2 _ rfl; (with_reducible repeat (first | refine kDN ?_ _ | refine kD ?_ | refine blk_alloc ?_ _)); refine blk_put (cs := #[.int .i64 a1_0, .int .i64 0, .int .i64 0]) ?_ 1 _ rfl; (with_reducible repeat (first | refine kDN ?_ _ | refine kD ?_ | refine blk_alloc ?_ _)); refine blk_put (cs := #[.int .i64 0, .int .i64 0, .int .i64 0]) ?_ 0 _ rfl; (with_reducible repeat (first | refine kDN ?_ _ | refine kD ?_ | refine blk_alloc ?_ _)); exact BK389.out) Try.underlying30 rfl (by kernel_rfl)) rfl ?_
             exact ⟨by first | rfl | (simp [errW_none, errW_some] <;> rfl) | (simp [*, errW_none, errW_some] <;> rfl), by repeat (first | (with_reducible first | exact HI0.out | apply IsS94.alloc | apply IsS94.drewN | apply IsS94.drew | apply IsS94.set_1 | apply IsS94.set_2 | refine IsS94.far ?_ NB0_388.out _ | refine IsS94.far ?_ NB0_389.out _ | refine IsS94.far ?_ NB0_390.out _) | exact HI0.out), by repeat (first | (with_reducible first | exact HB.out | apply bAl | apply bDN | apply bD1 | refine bSt ?_ (IsS94.ge HI0.out) | refine bSt ?_ GE388.out | refine bSt ?_ GE389.out | refine bSt ?_ GE390.out) | exact HB.out), by repeat (first | (with_reducible first | exact HK.out | apply KeepBut.set_ | apply keep_drewN | apply keep_drew | apply keep_alloc | refine keep_far ?_ GW388.out _ | refine keep_far ?_ GW389.out _ | refine keep_far ?_ GW390.out _) | exact HK.out)⟩
  ·rw [if_neg c6] at H
   exact absurd H (by simp)
 ·rw [if_neg c5] at H
  exact absurd H (by simp)
end Go.Proofs.Ytccjanhdnheclaa.F
end

section
namespace Go.Proofs.Ytccjanhdnheclaa.F
open Go.RowKit Go.Proofs.YtccjanhdnheclaaW.PrintWords Go.Proofs.YtccjanhdnheclaaW.PrintLast Go.Proofs.YtccjanhdnheclaaW.PrintMore
set_option linter.unusedVariables false
set_option linter.unusedSimpArgs false
attribute [local go_sem] max2_int min2_int max_two min_two
set_option maxHeartbeats 8000000 in
set_option maxRecDepth 100000 in
theorem spec_l01Once.calls (g : Nat) (s0_0 : List Int) (s0_1 : Int) (s0_2 : Int) (a1 : Int) (r1 : Bool) (r2 : Int) (r3 : Int) (w0 w : World) (hI : IsS94 w0 w g s0_0 s0_1 s0_2) (hB : Below w0.heap.size w0 w) (h : spec_l01Once.f s0_0 s0_1 s0_2 a1 = some (r1, r2, r3)) :
  Calls Try.prog 81 #[.pointer (some ⟨g, 0, none⟩), .int .i64 a1] w fun e w' => e = .returned (.bool r1) ∧ IsS94 w0 w' g s0_0 r2 r3 ∧ Below w0.heap.size w0 w' ∧ KeepBut w w' g none := by
 have HI0 := aK hI
 have HK := aK (KeepBut.refl w g none)
 have HL := aK hB.size
 clear hI
 have HW0 := aK hB.size
 have HB := aK hB
 clear hB
 have H : ((spec_l01Below.f s0_0 s0_1 s0_2 a1).bind fun bt412 => (some ((bt412.1 == 0), bt412.2.1, bt412.2.2))) = some (r1, r2, r3) := h
 clear h
 replace H := Option.bind_eq_some_iff.mp H
 obtain ⟨⟨t412, t413, t414⟩, A30, H⟩ := H
 replace H : (some ((t412 == 0), t413, t414)) = some (r1, r2, r3) := H
 have A3 := aK A30
 clear A30
 simp only [Option.some.injEq, Prod.mk.injEq] at H
 obtain ⟨rfl, rfl, rfl⟩ := H
 go_enter Try.func81, Try.ntmps81
 go_wp2_with (first | ((with_reducible refine gate_callee (f := 58) rfl ?_); refine goesL_ (some 7) rfl rfl Try.func58 (by kernel_rfl) rfl #[.pointer (some ⟨g, 0, none⟩), .int .i64 a1] rfl zD ?_; (with_reducible refine (spec_l01Below.calls g s0_0 s0_1 s0_2 a1 t412 t413 t414 w0 _ ?side1 ?side2 A3.out).mono ?_); (case side1 => repeat (first | (with_reducible first | exact HI0.out | apply IsS94.alloc | apply IsS94.drewN | apply IsS94.drew | apply IsS94.set_1 | apply IsS94.set_2) | exact HI0.out)); (case side2 => repeat (first | (with_reducible first | exact HB.out | apply bAl | apply bDN | apply bD1 | refine bSt ?_ (IsS94.ge HI0.out)) | exact HB.out)); rintro e w4 ⟨rfl, hi, hb, hk⟩; refine ⟨_, rfl, ?_⟩; replace HK := aK (KeepBut.trans (by repeat (first | (with_reducible first | exact HK.out | apply KeepBut.set_ | apply keep_drewN | apply keep_drew | apply keep_alloc) | exact HK.out)) hk (.inl rfl)); replace HB := aK (hb); replace HI0 := aK (hi); (try clear hb); (try clear hb2); (try clear hk); (try clear hi)))
 go_ret
 exact ⟨by first | rfl | (simp [errW_none, errW_some] <;> rfl) | (simp [*, errW_none, errW_some] <;> rfl), by repeat (first | (with_reducible first | exact HI0.out | apply IsS94.alloc | apply IsS94.drewN | apply IsS94.drew | apply IsS94.set_1 | apply IsS94.set_2) | exact HI0.out), by repeat (first | (with_reducible first | exact HB.out | apply bAl | apply bDN | apply bD1 | refine bSt ?_ (IsS94.ge HI0.out)) | exact HB.out), by repeat (first | (with_reducible first | exact HK.out | apply KeepBut.set_ | apply keep_drewN | apply keep_drew | apply keep_alloc) | exact HK.out)⟩
def spec_l03Maze.T8 : Bool × List (List Nat × List Nat) := (true, [([], []), ([0], [0]), ([], []), ([], []), ([2, 3], [2, 3]), ([4], [4]), ([1, 5], [1, 5]), ([0, 1, 2, 3, 4, 5, 6], []), ([7, 6, 4, 0, 1, 2, 3, 4, 5, 6], [6, 7])])
def spec_l03Maze.B8 : List Nat := [0, 1, 0, 0, 12, 28, 63, 127, 255]
theorem spec_l03Maze.tab8 : rtab .any (opsOf Try.f47 8) = spec_l03Maze.T8 := by kernel_rfl
theorem spec_l03Maze.bits8 : waitsOk spec_l03Maze.T8.2 spec_l03Maze.B8 = true := by kernel_rfl
set_option maxHeartbeats 8000000 in
set_option maxRecDepth 100000 in
theorem spec_l03Maze.calls (k : Nat) (g : Nat) (s0_0 : List Int) (s0_1 : Int) (s0_2 : Int) (r1 : Int) (r2 : Int) (r3 : Int) (r4 : Int) (r5 : Int) (w0 w : World) (hI : IsS94 w0 w g s0_0 s0_1 s0_2) (hB : Below w0.heap.size w0 w) (h : spec_l03Maze.f k s0_0 s0_1 s0_2 = some (r1, r2, r3, r4, r5)) :
  Calls Try.prog 47 #[.pointer (some ⟨g, 0, none⟩)] w fun e w' => e = .returned (.agg #[.int .i64 r1, .int .i64 r2, .int .i64 r3]) ∧ IsS94 w0 w' g s0_0 r4 r5 ∧ Below w0.heap.size w0 w' ∧ KeepBut w w' g none := by
 have hu30 := Try.underlying30
 have hu28 := Try.underlying28
 have HI0 := aK hI
 have HK := aK (KeepBut.refl w g none)
 have HL := aK hB.size
 clear hI
 have HW0 := aK hB.size
 have HB := aK hB
 clear hB
 have H : ((spec_l02Grid.f s0_0 s0_1 s0_2).bind fun bt416 => ((spec_l03Tree.f k s0_0 bt416.2.2.1 bt416.2.2.2 bt416.1 bt416.2.1).bind fun bt421 => ((spec_CountGaps.f bt416.1 bt416.2.1).bind fun t427 => (if t427 > 0 then ((spec_l01Once.f s0_0 bt421.2.2.2.1 bt421.2.2.2.2 2).bind fun bt428 => (spec_l03Maze.j0 k t427 bt428.1 s0_0 bt428.2.1 bt428.2.2 bt421.1 bt421.2.1 bt421.2.2.1)) else (spec_l03Maze.j0 k t427 false s0_0 bt421.2.2.2.1 bt421.2.2.2.2 bt421.1 bt421.2.1 bt421.2.2.1))))) = some (r1, r2, r3, r4, r5) := h
 clear h
 replace H := Option.bind_eq_some_iff.mp H
 obtain ⟨⟨t416, t417, t418, t419⟩, A20, H⟩ := H
 replace H : ((spec_l03Tree.f k s0_0 t418 t419 t416 t417).bind fun bt421 => ((spec_CountGaps.f t416 t417).bind fun t427 => (if t427 > 0 then ((spec_l01Once.f s0_0 bt421.2.2.2.1 bt421.2.2.2.2 2).bind fun bt428 => (spec_l03Maze.j0 k t427 bt428.1 s0_0 bt428.2.1 bt428.2.2 bt421.1 bt421.2.1 bt421.2.2.1)) else (spec_l03Maze.j0 k t427 false s0_0 bt421.2.2.2.1 bt421.2.2.2.2 bt421.1 bt421.2.1 bt421.2.2.1)))) = some (r1, r2, r3, r4, r5) := H
 have A2 := aK A20
 clear A20
 replace H := Option.bind_eq_some_iff.mp H
 obtain ⟨⟨t421, t422, t423, t424, t425⟩, A30, H⟩ := H
 replace H : ((spec_CountGaps.f t416 t417).bind fun t427 => (if t427 > 0 then ((spec_l01Once.f s0_0 t424 t425 2).bind fun bt428 => (spec_l03Maze.j0 k t427 bt428.1 s0_0 bt428.2.1 bt428.2.2 t421 t422 t423)) else (spec_l03Maze.j0 k t427 false s0_0 t424 t425 t421 t422 t423))) = some (r1, r2, r3, r4, r5) := H
 have A3 := aK A30
 clear A30
 replace H := Option.bind_eq_some_iff.mp H
 obtain ⟨t427, A40, H⟩ := H
 replace H : (if t427 > 0 then ((spec_l01Once.f s0_0 t424 t425 2).bind fun bt428 => (spec_l03Maze.j0 k t427 bt428.1 s0_0 bt428.2.1 bt428.2.2 t421 t422 t423)) else (spec_l03Maze.j0 k t427 false s0_0 t424 t425 t421 t422 t423)) = some (r1, r2, r3, r4, r5) := H
 have A4 := aK A40
 clear A40
 have HC5 := aK H
 clear H
 go_enter Try.func47, Try.ntmps47
 go_upto_region 4 with (first | ((with_reducible refine gate_dst (N := 2) rfl ?_); refine box_event ?hg (N := 2) ?hd (cs := #[.int .i64 0, .int .i64 0, .int .i64 0]) (t := 30) ?hr ?_; (case hd => rfl); (case hg => rfl); (case hr => first | (go_simp; done) | (go_simp; rfl)); intro gb415 hg w6 hbox hb; replace HB := aK (bSp (by repeat (first | (with_reducible first | exact HB.out | apply bAl | apply bDN | apply bD1 | refine bSt ?_ (IsS94.ge HI0.out)) | exact HB.out)) hb); have BK415 := aK (hbox); have GW415 := aK ((by rw [hg]; exact (keep_size (w := w) (g := g) (row := none) (by repeat (first | (with_reducible first | exact HK.out | apply KeepBut.set_ | apply keep_drewN | apply keep_drew | apply keep_alloc) | exact HK.out))) : w.heap.size ≤ gb415)); have GE415 := aK ((Nat.le_trans HW0.out (by rw [hg]; exact (keep_size (w := w) (g := g) (row := none) (by repeat (first | (with_reducible first | exact HK.out | apply KeepBut.set_ | apply keep_drewN | apply keep_drew | apply keep_alloc) | exact HK.out))) : w.heap.size ≤ gb415) : w0.heap.size ≤ gb415)); replace HK := aK (KeepBut.trans (by repeat (first | (with_reducible first | exact HK.out | apply KeepBut.set_ | apply keep_drewN | apply keep_drew | apply keep_alloc) | exact HK.out)) (KeepBut.of_below hb g none) (.inl rfl)); have NB0_415 := aK ((by rw [hg]; exact Nat.ne_of_lt (IsS94.lt (show IsS94 w0 _ g s0_0 s0_1 s0_2 from by repeat (first | (with_reducible first | exact HI0.out | apply IsS94.alloc | apply IsS94.drewN | apply IsS94.drew | apply IsS94.set_1 | apply IsS94.set_2) | exact HI0.out))) : g ≠ gb415)); have NB415_0 := aK ((by rw [hg]; exact Nat.ne_of_gt (IsS94.lt (show IsS94 w0 _ g s0_0 s0_1 s0_2 from by repeat (first | (with_reducible first | exact HI0.out | apply IsS94.alloc | apply IsS94.drewN | apply IsS94.drew | apply IsS94.set_1 | apply IsS94.set_2) | exact HI0.out))) : gb415 ≠ g)); replace HI0 := aK (IsS94.below (by repeat (first | (with_reducible first | exact HI0.out | apply IsS94.alloc | apply IsS94.drewN | apply IsS94.drew | apply IsS94.set_1 | apply IsS94.set_2) | exact HI0.out)) hb); clear hb hbox hg) | ((with_reducible refine gate_callee (f := 79) rfl ?_); refine goesL_ (some 8) rfl rfl Try.func79 (by kernel_rfl) rfl #[.pointer (some ⟨g, 0, none⟩)] rfl zD ?_; (with_reducible refine (spec_l02Grid.calls g s0_0 s0_1 s0_2 t416 t417 t418 t419 w0 _ ?side1 ?side2 A2.out).mono ?_); (case side1 => repeat (first | (with_reducible first | exact HI0.out | apply IsS94.alloc | apply IsS94.drewN | apply IsS94.drew | apply IsS94.set_1 | apply IsS94.set_2 | refine IsS94.far ?_ NB0_415.out _) | exact HI0.out)); (case side2 => repeat (first | (with_reducible first | exact HB.out | apply bAl | apply bDN | apply bD1 | refine bSt ?_ (IsS94.ge HI0.out) | refine bSt ?_ GE415.out) | exact HB.out)); rintro e w7 ⟨rfl, hi, hb, hk⟩; refine ⟨_, rfl, ?_⟩; replace BK415 := aK (KeepBut.blk hk (g' := gb415) (o := .cells #[.int .i64 0, .int .i64 0, .int .i64 0] 30 (0, 0)) (zK BK415) NB415_0.out (by simp)); replace HK := aK (KeepBut.trans (by repeat (first | (with_reducible first | exact HK.out | apply KeepBut.set_ | apply keep_drewN | apply keep_drew | apply keep_alloc | refine keep_far ?_ GW415.out _) | exact HK.out)) hk (.inl rfl)); replace HB := aK (hb); replace HI0 := aK (hi); (try clear hb); (try clear hb2); (try clear hk); (try clear hi)) | ((with_reducible refine gate_dst (N := 3) rfl ?_); refine box_event ?hg (N := 3) ?hd (cs := #[.int .i64 0, .int .i64 0]) (t := 28) ?hr ?_; (case hd => rfl); (case hg => rfl); (case hr => first | (go_simp; done) | (go_simp; rfl)); intro gb420 hg w8 hbox hb; replace HB := aK (bSp (by repeat (first | (with_reducible first | exact HB.out | apply bAl | apply bDN | apply bD1 | refine bSt ?_ (IsS94.ge HI0.out) | refine bSt ?_ GE415.out) | exact HB.out)) hb); have BK420 := aK (hbox); have GW420 := aK ((by rw [hg]; exact (keep_size (w := w) (g := g) (row := none) (by repeat (first | (with_reducible first | exact HK.out | apply KeepBut.set_ | apply keep_drewN | apply keep_drew | apply keep_alloc | refine keep_far ?_ GW415.out _) | exact HK.out))) : w.heap.size ≤ gb420)); have GE420 := aK ((Nat.le_trans HW0.out (by rw [hg]; exact (keep_size (w := w) (g := g) (row := none) (by repeat (first | (with_reducible first | exact HK.out | apply KeepBut.set_ | apply keep_drewN | apply keep_drew | apply keep_alloc | refine keep_far ?_ GW415.out _) | exact HK.out))) : w.heap.size ≤ gb420) : w0.heap.size ≤ gb420)); replace HK := aK (KeepBut.trans (by repeat (first | (with_reducible first | exact HK.out | apply KeepBut.set_ | apply keep_drewN | apply keep_drew | apply keep_alloc | refine keep_far ?_ GW415.out _) | exact HK.out)) (KeepBut.of_below hb g none) (.inl rfl)); have NB415_420 := nbl BK415 hg (by intro z_; (with_reducible repeat (first | refine kDN ?_ _ | refine kD ?_ | refine blk_alloc ?_ _)); exact z_); replace BK415 := zB BK415 hb; have NB420_415 := nbs NB415_420; have NB0_420 := aK ((by rw [hg]; exact Nat.ne_of_lt (IsS94.lt (show IsS94 w0 _ g s0_0 t418 t419 from by repeat (first | (with_reducible first | exact HI0.out | apply IsS94.alloc | apply IsS94.drewN | apply IsS94.drew | apply IsS94.set_1 | apply IsS94.set_2 | refine IsS94.far ?_ NB0_415.out _) | exact HI0.out))) : g ≠ gb420)); have NB420_0 := aK ((by rw [hg]; exact Nat.ne_of_gt (IsS94.lt (show IsS94 w0 _ g s0_0 t418 t419 from by repeat (first | (with_reducible first | exact HI0.out | apply IsS94.alloc | apply IsS94.drewN | apply IsS94.drew | apply IsS94.set_1 | apply IsS94.set_2 | refine IsS94.far ?_ NB0_415.out _) | exact HI0.out))) : gb420 ≠ g)); replace HI0 := aK (IsS94.below (by repeat (first | (with_reducible first | exact HI0.out | apply IsS94.alloc | apply IsS94.drewN | apply IsS94.drew | apply IsS94.set_1 | apply IsS94.set_2 | refine IsS94.far ?_ NB0_415.out _) | exact HI0.out)) hb); clear hb hbox hg; have hnb9 := NB420_415.out; have hnc9 := NB415_420.out; have hnb10 := NB420_0.out; have hnc10 := NB0_420.out; obtain ⟨hcz11_0, hcz11_1, hfz11_0, hfz11_1⟩ := cl2 BK420.out) | ((with_reducible refine gate_callee (f := 80) rfl ?_); refine goesL_ (some 11) rfl rfl Try.func80 (by kernel_rfl) rfl #[.pointer (some ⟨g, 0, none⟩), .agg #[.int .i64 t416, .int .i64 t417]] rfl zD ?_; (with_reducible refine (spec_l03Tree.calls k g s0_0 t418 t419 t416 t417 t421 t422 t423 t424 t425 w0 _ ?side1 ?side2 A3.out).mono ?_); (case side1 => repeat (first | (with_reducible first | exact HI0.out | apply IsS94.alloc | apply IsS94.drewN | apply IsS94.drew | apply IsS94.set_1 | apply IsS94.set_2 | refine IsS94.far ?_ NB0_415.out _ | refine IsS94.far ?_ NB0_420.out _) | exact HI0.out)); (case side2 => repeat (first | (with_reducible first | exact HB.out | apply bAl | apply bDN | apply bD1 | refine bSt ?_ (IsS94.ge HI0.out) | refine bSt ?_ GE415.out | refine bSt ?_ GE420.out) | exact HB.out)); rintro e w12 ⟨rfl, hi, hb, hk⟩; refine ⟨_, rfl, ?_⟩; replace BK415 := aK (KeepBut.blk hk (g' := gb415) (o := .cells #[.int .i64 0, .int .i64 0, .int .i64 0] 30 (0, 0)) (by (with_reducible repeat (first | refine kDN ?_ _ | refine kD ?_ | refine blk_alloc ?_ _)); refine blk_far ?_ NB415_420.out _; (with_reducible repeat (first | refine kDN ?_ _ | refine kD ?_ | refine blk_alloc ?_ _)); refine blk_far ?_ NB415_420.out _; (with_reducible repeat (first | refine kDN ?_ _ | refine kD ?_ | refine blk_alloc ?_ _)); exact BK415.out) NB415_0.out (by simp)); replace BK420 := aK (KeepBut.blk hk (g' := gb420) (o := .cells #[.int .i64 t416, .int .i64 t417] 28 (0, 0)) (by (with_reducible repeat (first | refine kDN ?_ _ | refine kD ?_ | refine blk_alloc ?_ _)); refine blk_put (cs := #[.int .i64 t416, .int .i64 0]) ?_ 1 _ rfl; (with_reducible repeat (first | refine kDN ?_ _ | refine kD ?_ | refine blk_alloc ?_ _)); refine blk_put (cs := #[.int .i64 0, .int .i64 0]) ?_ 0 _ rfl; (with_reducible repeat (first | refine kDN ?_ _ | refine kD ?_ | refine blk_alloc ?_ _)); exact BK420.out) NB420_0.out (by simp)); replace HK := aK (KeepBut.trans (by repeat (first | (with_reducible first | exact HK.out | apply KeepBut.set_ | apply keep_drewN | apply keep_drew | apply keep_alloc | refine keep_far ?_ GW415.out _ | refine keep_far ?_ GW420.out _) | exact HK.out)) hk (.inl rfl)); replace HB := aK (hb); replace HI0 := aK (hi); (try clear hb); (try clear hb2); (try clear hk); (try clear hi)) | ((with_reducible refine gate_dst (N := 4) rfl ?_); refine box_event ?hg (N := 4) ?hd (cs := #[.int .i64 0, .int .i64 0, .int .i64 0]) (t := 30) ?hr ?_; (case hd => rfl); (case hg => rfl); (case hr => first | (go_simp; done) | (go_simp; rfl)); intro gb426 hg w13 hbox hb; replace HB := aK (bSp (by repeat (first | (with_reducible first | exact HB.out | apply bAl | apply bDN | apply bD1 | refine bSt ?_ (IsS94.ge HI0.out) | refine bSt ?_ GE415.out | refine bSt ?_ GE420.out) | exact HB.out)) hb); have BK426 := aK (hbox); have GW426 := aK ((by rw [hg]; exact (keep_size (w := w) (g := g) (row := none) (by repeat (first | (with_reducible first | exact HK.out | apply KeepBut.set_ | apply keep_drewN | apply keep_drew | apply keep_alloc | refine keep_far ?_ GW415.out _ | refine keep_far ?_ GW420.out _) | exact HK.out))) : w.heap.size ≤ gb426)); have GE426 := aK ((Nat.le_trans HW0.out (by rw [hg]; exact (keep_size (w := w) (g := g) (row := none) (by repeat (first | (with_reducible first | exact HK.out | apply KeepBut.set_ | apply keep_drewN | apply keep_drew | apply keep_alloc | refine keep_far ?_ GW415.out _ | refine keep_far ?_ GW420.out _) | exact HK.out))) : w.heap.size ≤ gb426) : w0.heap.size ≤ gb426)); replace HK := aK (KeepBut.trans (by repeat (first | (with_reducible first | exact HK.out | apply KeepBut.set_ | apply keep_drewN | apply keep_drew | apply keep_alloc | refine keep_far ?_ GW415.out _ | refine keep_far ?_ GW420.out _) | exact HK.out)) (KeepBut.of_below hb g none) (.inl rfl)); have NB415_426 := nbl BK415 hg (by intro z_; (with_reducible repeat (first | refine kDN ?_ _ | refine kD ?_ | refine blk_alloc ?_ _)); exact z_); replace BK415 := zB BK415 hb; have NB426_415 := nbs NB415_426; have NB420_426 := nbl BK420 hg (by intro z_; (with_reducible repeat (first | refine kDN ?_ _ | refine kD ?_ | refine blk_alloc ?_ _)); exact z_); replace BK420 := zB BK420 hb; have NB426_420 := nbs NB420_426; have NB0_426 := aK ((by rw [hg]; exact Nat.ne_of_lt (IsS94.lt (show IsS94 w0 _ g s0_0 t424 t425 from by repeat (first | (with_reducible first | exact HI0.out | apply IsS94.alloc | apply IsS94.drewN | apply IsS94.drew | apply IsS94.set_1 | apply IsS94.set_2 | refine IsS94.far ?_ NB0_415.out _ | refine IsS94.far ?_ NB0_420.out _) | exact HI0.out))) : g ≠ gb426)); have NB426_0 := aK ((by rw [hg]; exact Nat.ne_of_gt (IsS94.lt (show IsS94 w0 _ g s0_0 t424 t425 from by repeat (first | (with_reducible first | exact HI0.out | apply IsS94.alloc | apply IsS94.drewN | apply IsS94.drew | apply IsS94.set_1 | apply IsS94.set_2 | refine IsS94.far ?_ NB0_415.out _ | refine IsS94.far ?_ NB0_420.out _) | exact HI0.out))) : gb426 ≠ g)); replace HI0 := aK (IsS94.below (by repeat (first | (with_reducible first | exact HI0.out | apply IsS94.alloc | apply IsS94.drewN | apply IsS94.drew | apply IsS94.set_1 | apply IsS94.set_2 | refine IsS94.far ?_ NB0_415.out _ | refine IsS94.far ?_ NB0_420.out _) | exact HI0.out)) hb); clear hb hbox hg; have hnb14 := NB426_415.out; have hnc14 := NB415_426.out; have hnb15 := NB426_420.out; have hnc15 := NB420_426.out; have hnb16 := NB426_0.out; have hnc16 := NB0_426.out; obtain ⟨hcz17_0, hcz17_1, hcz17_2, hfz17_0, hfz17_1, hfz17_2⟩ := cl3 BK426.out; obtain ⟨hcz18_0, hcz18_1, hfz18_0, hfz18_1⟩ := cl2 BK420.out) | ((with_reducible refine gate_callee (f := 68) rfl ?_); refine goesL_ (some 13) rfl rfl Try.func68 (by kernel_rfl) rfl #[.agg #[.int .i64 t416, .int .i64 t417]] rfl zD ?_; (with_reducible refine (spec_CountGaps.calls t416 t417 t427 _ A4.out).mono ?_); rintro e w19 ⟨rfl, hb⟩; refine ⟨_, rfl, ?_⟩; replace BK415 := zG3 BK415 NB415_426 hb; replace BK420 := zG3 BK420 NB420_426 hb; replace BK426 := aK (blk_below (g := gb426) (o := .cells #[.int .i64 t421, .int .i64 t422, .int .i64 t423] 30 (0, 0)) (by (with_reducible repeat (first | refine kDN ?_ _ | refine kD ?_ | refine blk_alloc ?_ _)); refine blk_put (cs := #[.int .i64 t421, .int .i64 t422, .int .i64 0]) ?_ 2 _ rfl; (with_reducible repeat (first | refine kDN ?_ _ | refine kD ?_ | refine blk_alloc ?_ _)); refine blk_put (cs := #[.int .i64 t421, .int .i64 0, .int .i64 0]) ?_ 1 _ rfl; (with_reducible repeat (first | refine kDN ?_ _ | refine kD ?_ | refine blk_alloc ?_ _)); refine blk_put (cs := #[.int .i64 0, .int .i64 0, .int .i64 0]) ?_ 0 _ rfl; (with_reducible repeat (first | refine kDN ?_ _ | refine kD ?_ | refine blk_alloc ?_ _)); exact BK426.out) hb); replace HK := aK (KeepBut.trans (by repeat (first | (with_reducible first | exact HK.out | apply KeepBut.set_ | apply keep_drewN | apply keep_drew | apply keep_alloc | refine keep_far ?_ GW415.out _ | refine keep_far ?_ GW420.out _ | refine keep_far ?_ GW426.out _) | exact HK.out)) (KeepBut.of_below hb g none) (.inl rfl)); replace HB := aK (bSp (by repeat (first | (with_reducible first | exact HB.out | apply bAl | apply bDN | apply bD1 | refine bSt ?_ (IsS94.ge HI0.out) | refine bSt ?_ GE415.out | refine bSt ?_ GE420.out | refine bSt ?_ GE426.out) | exact HB.out)) hb); replace HI0 := aK (IsS94.below (show IsS94 w0 (((w13.setCell ⟨gb426, 0, none⟩ (.int .i64 t421)).setCell ⟨gb426, 1, none⟩ (.int .i64 t422)).setCell ⟨gb426, 2, none⟩ (.int .i64 t423)) g s0_0 t424 t425 from by repeat (first | (with_reducible first | exact HI0.out | apply IsS94.alloc | apply IsS94.drewN | apply IsS94.drew | apply IsS94.set_1 | apply IsS94.set_2 | refine IsS94.far ?_ NB0_415.out _ | refine IsS94.far ?_ NB0_420.out _ | refine IsS94.far ?_ NB0_426.out _) | exact HI0.out)) hb); (try clear hb); (try clear hb2); (try clear hk); (try clear hi)))
 (try simp only [Act.put, sTA, sZ, sS])
 go_cut [19] (fun v19 wc => ∃ (kq : Nat) (x19_4 : Bool) (x1001_4 : Int) (x1002_4 : Int), v19 = .bool x19_4 ∧ Aside0 (spec_l03Maze.j0 kq t427 x19_4 s0_0 x1001_4 x1002_4 t421 t422 t423 = some (r1, r2, r3, r4, r5)) ∧ Aside0 (kq ≤ k) ∧ Aside0 (wc.heap[gb415]? = some (.cells #[.int .i64 0, .int .i64 0, .int .i64 0] 30 (0, 0))) ∧ Aside0 (wc.heap[gb420]? = some (.cells #[.int .i64 t416, .int .i64 t417] 28 (0, 0))) ∧ Aside0 (wc.heap[gb426]? = some (.cells #[.int .i64 t421, .int .i64 t422, .int .i64 t423] 30 (0, 0))) ∧ Aside0 (IsS94 w0 wc g s0_0 x1001_4 x1002_4) ∧ Aside0 (KeepBut w wc g none) ∧ Aside0 (Below w0.heap.size w0 wc))
 case first =>
  have H := HC5.out
  clear HC5
  by_cases c20 : t427 > 0
  ·rw [if_pos c20] at H
   have c20b0 : decide (0 < t427) = true := decide_eq_true c20
   clear c20
   (first | rw [c20b0] | (simp only [i64_w, i32_w]; rw [c20b0]) | skip)
   replace H := Option.bind_eq_some_iff.mp H
   obtain ⟨⟨t428, t429, t430⟩, A210, H⟩ := H
   replace H : (spec_l03Maze.j0 k t427 t428 s0_0 t429 t430 t421 t422 t423) = some (r1, r2, r3, r4, r5) := H
   have A21 := aK A210
   clear A210
   have H' := aK H
   clear H
   go_wp2_with (first | (go_at_call 81; (with_reducible refine (spec_l01Once.calls g s0_0 t424 t425 2 t428 t429 t430 w0 _ ?side1 ?side2 A21.out).mono ?_); (case side1 => repeat (first | (with_reducible first | exact HI0.out | apply IsS94.alloc | apply IsS94.drewN | apply IsS94.drew | apply IsS94.set_1 | apply IsS94.set_2 | refine IsS94.far ?_ NB0_415.out _ | refine IsS94.far ?_ NB0_420.out _ | refine IsS94.far ?_ NB0_426.out _) | exact HI0.out)); (case side2 => repeat (first | (with_reducible first | exact HB.out | apply bAl | apply bDN | apply bD1 | refine bSt ?_ (IsS94.ge HI0.out) | refine bSt ?_ GE415.out | refine bSt ?_ GE420.out | refine bSt ?_ GE426.out) | exact HB.out)); rintro e w22 ⟨rfl, hi, hb, hk⟩; replace BK415 := aK (KeepBut.blk hk (g' := gb415) (o := .cells #[.int .i64 0, .int .i64 0, .int .i64 0] 30 (0, 0)) (zK BK415) NB415_0.out (by simp)); replace BK420 := aK (KeepBut.blk hk (g' := gb420) (o := .cells #[.int .i64 t416, .int .i64 t417] 28 (0, 0)) (zK BK420) NB420_0.out (by simp)); replace BK426 := aK (KeepBut.blk hk (g' := gb426) (o := .cells #[.int .i64 t421, .int .i64 t422, .int .i64 t423] 30 (0, 0)) (zK BK426) NB426_0.out (by simp)); replace HK := aK (KeepBut.trans (by repeat (first | (with_reducible first | exact HK.out | apply KeepBut.set_ | apply keep_drewN | apply keep_drew | apply keep_alloc | refine keep_far ?_ GW415.out _ | refine keep_far ?_ GW420.out _ | refine keep_far ?_ GW426.out _) | exact HK.out)) hk (.inl rfl)); replace HB := aK (hb); replace HI0 := aK (hi); (try clear hb); (try clear hb2); (try clear hk); (try clear hi)))
   go_meet
   case rel => exact ⟨_, (t428), (t429), (t430), (by first | rfl | (simp; done) | (simp [*]; done)), H', ⟨by first | omega | exact Nat.le_refl _⟩, ⟨zK BK415⟩, ⟨zK BK420⟩, ⟨zK BK426⟩, ⟨by repeat (first | (with_reducible first | exact HI0.out | apply IsS94.alloc | apply IsS94.drewN | apply IsS94.drew | apply IsS94.set_1 | apply IsS94.set_2 | refine IsS94.far ?_ NB0_415.out _ | refine IsS94.far ?_ NB0_420.out _ | refine IsS94.far ?_ NB0_426.out _) | exact HI0.out)⟩, ⟨by repeat (first | (with_reducible first | exact HK.out | apply KeepBut.set_ | apply keep_drewN | apply keep_drew | apply keep_alloc | refine keep_far ?_ GW415.out _ | refine keep_far ?_ GW420.out _ | refine keep_far ?_ GW426.out _) | exact HK.out)⟩, ⟨by repeat (first | (with_reducible first | exact HB.out | apply bAl | apply bDN | apply bD1 | refine bSt ?_ (IsS94.ge HI0.out) | refine bSt ?_ GE415.out | refine bSt ?_ GE420.out | refine bSt ?_ GE426.out) | exact HB.out)⟩⟩
  ·rw [if_neg c20] at H
   have c20b0 : decide (0 < t427) = false := decide_eq_false c20
   clear c20
   (first | rw [c20b0] | (simp only [i64_w, i32_w]; rw [c20b0]) | skip)
   have H' := aK H
   clear H
   go_wp2
   go_meet
   case rel => exact ⟨_, (false), (t424), (t425), (by first | rfl | (simp; done) | (simp [*]; done)), H', ⟨by first | omega | exact Nat.le_refl _⟩, ⟨zK BK415⟩, ⟨zK BK420⟩, ⟨zK BK426⟩, ⟨by repeat (first | (with_reducible first | exact HI0.out | apply IsS94.alloc | apply IsS94.drewN | apply IsS94.drew | apply IsS94.set_1 | apply IsS94.set_2 | refine IsS94.far ?_ NB0_415.out _ | refine IsS94.far ?_ NB0_420.out _ | refine IsS94.far ?_ NB0_426.out _) | exact HI0.out)⟩, ⟨by repeat (first | (with_reducible first | exact HK.out | apply KeepBut.set_ | apply keep_drewN | apply keep_drew | apply keep_alloc | refine keep_far ?_ GW415.out _ | refine keep_far ?_ GW420.out _ | refine keep_far ?_ GW426.out _) | exact HK.out)⟩, ⟨by repeat (first | (with_reducible first | exact HB.out | apply bAl | apply bDN | apply bD1 | refine bSt ?_ (IsS94.ge HI0.out) | refine bSt ?_ GE415.out | refine bSt ?_ GE420.out | refine bSt ?_ GE426.out) | exact HB.out)⟩⟩
 case rest =>
  clear HC5
  try clear c1
  try clear c2
  try clear p2
  try clear c4
  try clear c6
  try clear c7
  try clear c8
  try clear c9
  try clear c10
  try clear c14
  try clear c15
  try clear c16
  try clear c20
  try clear c20b0
  try clear hcz11_0
  try clear hcz11_1
  try clear hcz17_0
  try clear hcz17_1
  try clear hcz17_2
  try clear hcz18_0
  try clear hcz18_1
  try clear hfz11_0
  try clear hfz11_1
  try clear hfz17_0
  try clear hfz17_1
  try clear hfz17_2
  try clear hfz18_0
  try clear hfz18_1
  obtain ⟨kq, x19_4, x1001_4, x1002_4, rfl, HA, HJ4, BK415, BK420, BK426, HI0, HK, HB⟩ := hcut
  cases kq with
  | zero => exact absurd HA.out (by simp [spec_l03Maze.j0])
  | succ kj4 =>
   have H := HA.out
   clear HA
   simp only [spec_l03Maze.j0] at H
   by_cases c23 : x19_4 = true
   ·subst c23
    have H1 : ((spec_l01Below.f s0_0 x1001_4 x1002_4 4).bind fun bt431 => (spec_l03Maze.l0 kj4 t427 bt431.1 s0_0 bt431.2.1 bt431.2.2 t421 t422 t423)) = some (r1, r2, r3, r4, r5) := by rw [if_pos rfl] at H; exact H
    clear H
    have H := H1
    clear H1
    replace H := Option.bind_eq_some_iff.mp H
    obtain ⟨⟨t431, t432, t433⟩, A240, H⟩ := H
    replace H : (spec_l03Maze.l0 kj4 t427 t431 s0_0 t432 t433 t421 t422 t423) = some (r1, r2, r3, r4, r5) := H
    have A24 := aK A240
    clear A240
    have H' := aK H
    clear H
    go_wp2_with (first | ((with_reducible refine gate_callee (f := 58) rfl ?_); refine goesL_ (some 21) rfl rfl Try.func58 (by kernel_rfl) rfl #[.pointer (some ⟨g, 0, none⟩), .int .i64 4] rfl zD ?_; (with_reducible refine (spec_l01Below.calls g s0_0 x1001_4 x1002_4 4 t431 t432 t433 w0 _ ?side1 ?side2 A24.out).mono ?_); (case side1 => repeat (first | (with_reducible first | exact HI0.out | apply IsS94.alloc | apply IsS94.drewN | apply IsS94.drew | apply IsS94.set_1 | apply IsS94.set_2 | refine IsS94.far ?_ NB0_415.out _ | refine IsS94.far ?_ NB0_420.out _ | refine IsS94.far ?_ NB0_426.out _) | exact HI0.out)); (case side2 => repeat (first | (with_reducible first | exact HB.out | apply bAl | apply bDN | apply bD1 | refine bSt ?_ (IsS94.ge HI0.out) | refine bSt ?_ GE415.out | refine bSt ?_ GE420.out | refine bSt ?_ GE426.out) | exact HB.out)); rintro e w25 ⟨rfl, hi, hb, hk⟩; refine ⟨_, rfl, ?_⟩; replace BK415 := aK (KeepBut.blk hk (g' := gb415) (o := .cells #[.int .i64 0, .int .i64 0, .int .i64 0] 30 (0, 0)) (zK BK415) NB415_0.out (by simp)); replace BK420 := aK (KeepBut.blk hk (g' := gb420) (o := .cells #[.int .i64 t416, .int .i64 t417] 28 (0, 0)) (zK BK420) NB420_0.out (by simp)); replace BK426 := aK (KeepBut.blk hk (g' := gb426) (o := .cells #[.int .i64 t421, .int .i64 t422, .int .i64 t423] 30 (0, 0)) (zK BK426) NB426_0.out (by simp)); replace HK := aK (KeepBut.trans (by repeat (first | (with_reducible first | exact HK.out | apply KeepBut.set_ | apply keep_drewN | apply keep_drew | apply keep_alloc | refine keep_far ?_ GW415.out _ | refine keep_far ?_ GW420.out _ | refine keep_far ?_ GW426.out _) | exact HK.out)) hk (.inl rfl)); replace HB := aK (hb); replace HI0 := aK (hi); (try clear hb); (try clear hb2); (try clear hk); (try clear hi)))
    go_loopg [6] kj4 (fun kq v6 w' => ∃ (x6_2 : Int) (x1001_2 : Int) (x1002_2 : Int) (x427002_2 : Int), v6 = .int .i64 x6_2 ∧ Aside0 (spec_l03Maze.l0 kq t427 x6_2 s0_0 x1001_2 x1002_2 t421 t422 x427002_2 = some (r1, r2, r3, r4, r5)) ∧ Aside0 (kq ≤ kj4) ∧ Aside0 (w'.heap[gb415]? = some (.cells #[.int .i64 0, .int .i64 0, .int .i64 0] 30 (0, 0))) ∧ Aside0 (w'.heap[gb420]? = some (.cells #[.int .i64 t416, .int .i64 t417] 28 (0, 0))) ∧ Aside0 (w'.heap[gb426]? = some (.cells #[.int .i64 t421, .int .i64 t422, .int .i64 x427002_2] 30 (0, 0))) ∧ Aside0 (IsS94 w0 w' g s0_0 x1001_2 x1002_2) ∧ Aside0 (KeepBut w w' g none) ∧ Aside0 (Below w0.heap.size w0 w'))
    case atStart => exact ⟨(t431), (t432), (t433), (t423), (by first | rfl | (simp; done) | (simp [*]; done)), H', ⟨Nat.le_refl _⟩, ⟨zK BK415⟩, ⟨zK BK420⟩, ⟨zK BK426⟩, ⟨by repeat (first | (with_reducible first | exact HI0.out | apply IsS94.alloc | apply IsS94.drewN | apply IsS94.drew | apply IsS94.set_1 | apply IsS94.set_2 | refine IsS94.far ?_ NB0_415.out _ | refine IsS94.far ?_ NB0_420.out _ | refine IsS94.far ?_ NB0_426.out _) | exact HI0.out)⟩, ⟨by repeat (first | (with_reducible first | exact HK.out | apply KeepBut.set_ | apply keep_drewN | apply keep_drew | apply keep_alloc | refine keep_far ?_ GW415.out _ | refine keep_far ?_ GW420.out _ | refine keep_far ?_ GW426.out _) | exact HK.out)⟩, ⟨by repeat (first | (with_reducible first | exact HB.out | apply bAl | apply bDN | apply bD1 | refine bSt ?_ (IsS94.ge HI0.out) | refine bSt ?_ GE415.out | refine bSt ?_ GE420.out | refine bSt ?_ GE426.out) | exact HB.out)⟩⟩
    case round =>
     clear H'
     try clear c1
     try clear c2
     try clear p2
     try clear c4
     try clear c5
     try clear c6
     try clear c7
     try clear c8
     try clear c9
     try clear c10
     try clear c14
     try clear c15
     try clear c16
     try clear c20
     try clear c20b0
     try clear c23
     try clear hcz11_0
     try clear hcz11_1
     try clear hcz17_0
     try clear hcz17_1
     try clear hcz17_2
     try clear hcz18_0
     try clear hcz18_1
     try clear hfz11_0
     try clear hfz11_1
     try clear hfz17_0
     try clear hfz17_1
     try clear hfz17_2
     try clear hfz18_0
     try clear hfz18_1
     try clear p2
     obtain ⟨x6_2, x1001_2, x1002_2, x427002_2, rfl, HA, HK2, BK415, BK420, BK426, HI0, HK, HB⟩ := hrel
     cases gk with
     | zero => exact absurd HA.out (by simp [spec_l03Maze.l0])
     | succ k2 =>
      have H := HA.out
      clear HA
      simp only [spec_l03Maze.l0] at H
      by_cases c26 : x6_2 ≥ 0
      ·rw [if_pos c26] at H
       have c26b0 : decide (0 ≤ x6_2) = true := decide_eq_true c26
       clear c26
       replace H := Option.bind_eq_some_iff.mp H
       obtain ⟨⟨t434, t435, t436⟩, A270, H⟩ := H
       replace H : (if 0 ≤ t434 then (spec_l03Maze.l0 k2 t427 (wrap64 (x6_2 - 1)) s0_0 t435 t436 t421 t422 (Go.bits .xor .i64 x427002_2 (shl .i64 1 t434))) else (none)) = some (r1, r2, r3, r4, r5) := H
       have A27 := aK A270
       clear A270
       by_cases c28 : 0 ≤ t434
       ·rw [if_pos c28] at H
        have c28b0 := eq_true c28
        have c28b1 : decide (0 ≤ t434) = true := decide_eq_true c28
        clear c28
        obtain ⟨ji29, hji29⟩ : ∃ j_ : Int, (shl .i64 1 t434) = j_ := ⟨_, rfl⟩
        replace H : (spec_l03Maze.l0 k2 t427 (wrap64 (x6_2 - 1)) s0_0 t435 t436 t421 t422 (Go.bits .xor .i64 x427002_2 (ji29))) = some (r1, r2, r3, r4, r5) := by first | (rw [hji29] at H; exact H) | (simp only [hji29] at H ⊢; exact H)
        (try rw [hji29] at A27)
        have hji29_ : (IntKind.i64.wrap (1 * 2 ^ min t434.toNat 64)) = ji29 := hji29
        have hji29z : t434 ≤ 64 → (IntKind.i64.wrap (1 * 2 ^ t434.toNat)) = ji29 := shl_small hji29
        have hji29u : (IntKind.i64.wrap (2 ^ min t434.toNat 64)) = ji29 := by have h_ := hji29_; rw [Int.one_mul] at h_; exact h_
        have hji29v : t434 ≤ 64 → (IntKind.i64.wrap (2 ^ t434.toNat)) = ji29 := fun hle_ => by have h_ := hji29z hle_; rw [Int.one_mul] at h_; exact h_
        have hji29y : (wrap64 (1 * 2 ^ min t434.toNat 64)) = ji29 := (i64_w _).symm.trans hji29_
        have hji29x : t434 ≤ 64 → (wrap64 (1 * 2 ^ t434.toNat)) = ji29 := fun h_ => (i64_w _).symm.trans (hji29z h_)
        have H' := aK H
        clear H
        try go_wp2
        have n0_ := aK (kD BK415.out)
        have n1_ := aK (kD BK420.out)
        have n2_ := aK (kD BK426.out)
        have n3_ := aK (IsS94.drew HI0.out)
        have n4_ := aK (keep_drew HK.out)
        have n5_ := aK (bD1 HB.out)
        clear BK415
        clear BK420
        clear BK426
        clear HI0
        clear HK
        clear HB
        have BK415 := n0_
        have BK420 := n1_
        have BK426 := n2_
        have HI0 := n3_
        have HK := n4_
        have HB := n5_
        clear n0_ n1_ n2_ n3_ n4_ n5_
        refine start_ (n := 9) (S := fun w' => w'.cell? ⟨gb426, 0, none⟩ = some (.int .i64 t421) ∧ w'.cell? ⟨gb426, 1, none⟩ = some (.int .i64 t422) ∧ w'.cell? ⟨gb426, 2, none⟩ = some (.int .i64 x427002_2)) (ds := [8]) #[bN,bN,bN,bN,bN,bN,bN,bN,bN] (by kernel_rfl) rfl rfl ⟨zQ BK426 0, zQ BK426 1, zQ BK426 2⟩ (fun hHeld => ?_); refine with_tabW spec_l03Maze.tab8 spec_l03Maze.bits8 (fun HT_ HW_ => ?_)
        generalize wr.drew = w30 at BK415 BK420 BK426 HI0 HK HB hHeld ⊢
        refine pure_ (i := 0) (N := some 26) (v := ?_) (a' := ?_) #[bY,bN,bN,bN,bN,bN,bN,bN,bN] rfl rfl (any_of HT_.out (by kernel_rfl)) (fun _ _ _ h => h) (Or.inl ⟨by rfl, ?_⟩) ?_ ?_
        rotate_left
        ·intro w'
         go_simp
         with_reducible rfl
        rotate_left
        ·simp only [Act.put, sTA, sZ, sS, i64_w, i32_w]
         rfl
        refine pure_ (i := 2) (N := some 28) (v := ?_) (a' := ?_) #[bY,bN,bY,bN,bN,bN,bN,bN,bN] rfl rfl (any_of HT_.out (by kernel_rfl)) (fun _ _ _ h => h) (Or.inl ⟨by rfl, ?_⟩) ?_ ?_
        rotate_left
        ·intro w'
         go_simp
         with_reducible rfl
        rotate_left
        ·simp only [Act.put, sTA, sZ, sS, i64_w, i32_w]
         rfl
        refine pure_ (i := 3) (N := some 29) (v := ?_) (a' := ?_) #[bY,bN,bY,bY,bN,bN,bN,bN,bN] rfl rfl (any_of HT_.out (by kernel_rfl)) (fun _ _ _ h => h) (Or.inl ⟨by rfl, ?_⟩) ?_ ?_
        rotate_left
        ·intro w'
         go_simp
         with_reducible rfl
        rotate_left
        ·simp only [Act.put, sTA, sZ, sS, i64_w, i32_w]
         rfl
        refine take_ (i := 1) (N := some 27) (v := ?_) (a' := ?_) #[bY,bY,bY,bY,bN,bN,bN,bN,bN] rfl rfl (take_ofW HT_.out HW_.out (by kernel_rfl)) (fun _ _ _ h => h) (Or.inl ⟨by rfl, ?_⟩) hHeld ?_ ?_
        rotate_left
        ·rintro w' ⟨s0, s1, s2⟩
         go_simp
         with_reducible rfl
        rotate_left
        ·simp only [Act.put, sTA, sZ, sS, i64_w, i32_w]
         rfl
        refine one_ (i := 4) (N := some 30) #[bY,bY,bY,bY,bY,bN,bN,bN,bN] rfl rfl (one_of HT_.out (by kernel_rfl)) (by decide) (fun K hK => ?_)
        refine goes_ Try.func58 (by kernel_rfl) rfl #[.pointer (some ⟨g, 0, none⟩), .int .i64 t427] (by rfl) rfl rfl zD ?_
        with_reducible refine (spec_l01Below.calls g s0_0 x1001_2 x1002_2 t427 t434 t435 t436 w0 _ ?side1 ?side2 A27.out).mono ?_
        (case side1 => repeat (first | (with_reducible first | exact HI0.out | apply IsS94.alloc | apply IsS94.drewN | apply IsS94.drew | apply IsS94.set_1 | apply IsS94.set_2 | refine IsS94.far ?_ NB0_415.out _ | refine IsS94.far ?_ NB0_420.out _ | refine IsS94.far ?_ NB0_426.out _) | exact HI0.out))
        (case side2 => repeat (first | (with_reducible first | exact HB.out | apply bAl | apply bDN | apply bD1 | refine bSt ?_ (IsS94.ge HI0.out) | refine bSt ?_ GE415.out | refine bSt ?_ GE420.out | refine bSt ?_ GE426.out) | exact HB.out))
        rintro e w31 ⟨rfl, hi, hb, hk⟩
        refine ⟨_, rfl, ?_⟩
        have n0_ := aK (KeepBut.blk hk (g' := gb415) (o := .cells #[.int .i64 0, .int .i64 0, .int .i64 0] 30 (0, 0)) (zK BK415) NB415_0.out (by simp))
        have n1_ := aK (KeepBut.blk hk (g' := gb420) (o := .cells #[.int .i64 t416, .int .i64 t417] 28 (0, 0)) (zK BK420) NB420_0.out (by simp))
        have n2_ := aK (KeepBut.blk hk (g' := gb426) (o := .cells #[.int .i64 t421, .int .i64 t422, .int .i64 x427002_2] 30 (0, 0)) (zK BK426) NB426_0.out (by simp))
        have n3_ := aK (KeepBut.trans (by repeat (first | (with_reducible first | exact HK.out | apply KeepBut.set_ | apply keep_drewN | apply keep_drew | apply keep_alloc | refine keep_far ?_ GW415.out _ | refine keep_far ?_ GW420.out _ | refine keep_far ?_ GW426.out _) | exact HK.out)) hk (.inl rfl))
        have n4_ := aK (hb)
        have n5_ := aK (hi)
        clear BK415
        clear BK420
        clear BK426
        clear HK
        clear HB
        clear HI0
        have BK415 := n0_
        have BK420 := n1_
        have BK426 := n2_
        have HK := n3_
        have HB := n4_
        have HI0 := n5_
        clear n0_ n1_ n2_ n3_ n4_ n5_
        (try clear hb)
        (try clear hb2)
        (try clear hk)
        (try clear hi)
        refine hK.out _ _ ⟨zQ BK426 0, zQ BK426 1, zQ BK426 2⟩ (fun hHeld => ?_)
        clear hK K
        refine norm_ (a' := ?_) ?_ ?_
        rotate_left
        ·show Act.put _ (some 30) _ = _
         simp only [Act.put, sTA, sZ, sS, i64_w, i32_w]
         rfl
        refine pure_ (i := 5) (N := some 31) (v := ?_) (a' := ?_) #[bY,bY,bY,bY,bY,bY,bN,bN,bN] rfl rfl (any_of HT_.out (by kernel_rfl)) (fun _ _ _ h => h) (Or.inl ⟨by rfl, ?_⟩) ?_ ?_
        rotate_left
        ·intro w'
         go_simp
         with_reducible rfl
        rotate_left
        ·simp only [Act.put, sTA, sZ, sS, i64_w, i32_w]
         rfl
        refine pure_ (i := 6) (N := some 32) (v := ?_) (a' := ?_) #[bY,bY,bY,bY,bY,bY,bY,bN,bN] rfl rfl (any_of HT_.out (by kernel_rfl)) (fun _ _ _ h => h) (Or.inl ⟨by rfl, ?_⟩) ?_ ?_
        rotate_left
        ·intro w'
         go_simp
         with_reducible rfl
        rotate_left
        ·simp only [Act.put, sTA, sZ, sS, i64_w, i32_w]
         rfl
        refine pure_ (i := 7) (N := some 33) (v := ?_) (a' := ?_) #[bY,bY,bY,bY,bY,bY,bY,bY,bN] rfl rfl (any_of HT_.out (by kernel_rfl)) (fun _ _ _ h => h) (Or.inl ⟨by rfl, ?_⟩) ?_ ?_
        rotate_left
        ·intro w'
         go_simp
         with_reducible rfl
        rotate_left
        ·simp only [Act.put, sTA, sZ, sS, i64_w, i32_w]
         rfl
        refine last_ (i := 8) (N := none) #[bY,bY,bY,bY,bY,bY,bY,bY,bY] rfl rfl (one_of HT_.out (by kernel_rfl)) (by decide) (fun K hK => ?_)
        have hs32 : w31.cell? ⟨gb426, 2, none⟩ = some (.int .i64 x427002_2) := (kC BK426.out 2).trans rfl
        have hfs32 := kF BK426.out 2
        have hns32_0 := NB415_426.out
        have hns32_1 := NB420_426.out
        have hms32_0 := NB426_415.out
        have hms32_1 := NB426_420.out
        refine skip_ (w1 := ?_) (by rfl) rfl ?_ ?_
        rotate_left
        ·go_simp
         rfl
        refine hK.out _ _ ?_
        clear hK K
        refine done_ (done_of HT_.out (by kernel_rfl)) ?_
        try go_wp2
        go_roundg k2
        case measure => have := HJ4.out; have := HK2.out; omega
        case rel => exact ⟨(wrap64 (x6_2 - 1)), (t435), (t436), (Go.bits .xor .i64 x427002_2 (ji29)), (by first | rfl | (simp; done) | (simp [*]; done)), H', ⟨by have := HJ4.out; have := HK2.out; omega⟩, ⟨by (with_reducible repeat (first | refine kDN ?_ _ | refine kD ?_ | refine blk_alloc ?_ _)); refine blk_far ?_ NB415_426.out _; (with_reducible repeat (first | refine kDN ?_ _ | refine kD ?_ | refine blk_alloc ?_ _)); exact BK415.out⟩, ⟨by (with_reducible repeat (first | refine kDN ?_ _ | refine kD ?_ | refine blk_alloc ?_ _)); refine blk_far ?_ NB420_426.out _; (with_reducible repeat (first | refine kDN ?_ _ | refine kD ?_ | refine blk_alloc ?_ _)); exact BK420.out⟩, ⟨by (with_reducible repeat (first | refine kDN ?_ _ | refine kD ?_ | refine blk_alloc ?_ _)); refine blk_put (cs := #[.int .i64 t421, .int .i64 t422, .int .i64 x427002_2]) ?_ 2 _ rfl; (with_reducible repeat (first | refine kDN ?_ _ | refine kD ?_ | refine blk_alloc ?_ _)); exact BK426.out⟩, ⟨by repeat (first | (with_reducible first | exact HI0.out | apply IsS94.alloc | apply IsS94.drewN | apply IsS94.drew | apply IsS94.set_1 | apply IsS94.set_2 | refine IsS94.far ?_ NB0_415.out _ | refine IsS94.far ?_ NB0_420.out _ | refine IsS94.far ?_ NB0_426.out _) | exact HI0.out)⟩, ⟨by repeat (first | (with_reducible first | exact HK.out | apply KeepBut.set_ | apply keep_drewN | apply keep_drew | apply keep_alloc | refine keep_far ?_ GW415.out _ | refine keep_far ?_ GW420.out _ | refine keep_far ?_ GW426.out _) | exact HK.out)⟩, ⟨by repeat (first | (with_reducible first | exact HB.out | apply bAl | apply bDN | apply bD1 | refine bSt ?_ (IsS94.ge HI0.out) | refine bSt ?_ GE415.out | refine bSt ?_ GE420.out | refine bSt ?_ GE426.out) | exact HB.out)⟩⟩
       ·rw [if_neg c28] at H
        exact absurd H (by simp)
      ·rw [if_neg c26] at H
       have c26b0 : decide (0 ≤ x6_2) = false := decide_eq_false c26
       clear c26
       simp only [Option.some.injEq, Prod.mk.injEq] at H
       obtain ⟨rfl, rfl, rfl, rfl, rfl⟩ := H
       have hnb33 := NB426_415.out
       have hnc33 := NB415_426.out
       have hnb34 := NB426_420.out
       have hnc34 := NB420_426.out
       have hnb35 := NB426_0.out
       have hnc35 := NB0_426.out
       obtain ⟨hcz36_0, hcz36_1, hcz36_2, hfz36_0, hfz36_1, hfz36_2⟩ := cl3 BK426.out
       have hnb37 := NB415_420.out
       have hnc37 := NB420_415.out
       have hnb38 := NB415_0.out
       have hnc38 := NB0_415.out
       obtain ⟨hcz39_0, hcz39_1, hcz39_2, hfz39_0, hfz39_1, hfz39_2⟩ := cl3 BK415.out
       go_wp2
       refine bodyPost_ret (results_cell_row rfl _ _ gb415 30 #[.int .i64 t421, .int .i64 t422, .int .i64 x427002_2] (0, 0) _ rfl (by (with_reducible repeat (first | refine kDN ?_ _ | refine kD ?_ | refine blk_alloc ?_ _)); refine blk_put (cs := #[.int .i64 t421, .int .i64 t422, .int .i64 0]) ?_ 2 _ rfl; (with_reducible repeat (first | refine kDN ?_ _ | refine kD ?_ | refine blk_alloc ?_ _)); refine blk_put (cs := #[.int .i64 t421, .int .i64 0, .int .i64 0]) ?_ 1 _ rfl; (with_reducible repeat (first | refine kDN ?_ _ | refine kD ?_ | refine blk_alloc ?_ _)); refine blk_put (cs := #[.int .i64 0, .int .i64 0, .int .i64 0]) ?_ 0 _ rfl; (with_reducible repeat (first | refine kDN ?_ _ | refine kD ?_ | refine blk_alloc ?_ _)); exact BK415.out) Try.underlying30 rfl (by kernel_rfl)) rfl ?_
       exact ⟨by first | rfl | (simp [errW_none, errW_some] <;> rfl) | (simp [*, errW_none, errW_some] <;> rfl), by repeat (first | (with_reducible first | exact HI0.out | apply IsS94.alloc | apply IsS94.drewN | apply IsS94.drew | apply IsS94.set_1 | apply IsS94.set_2 | refine IsS94.far ?_ NB0_415.out _ | refine IsS94.far ?_ NB0_420.out _ | refine IsS94.far ?_ NB0_426.out _) | exact HI0.out), by repeat (first | (with_reducible first | exact HB.out | apply bAl | apply bDN | apply bD1 | refine bSt ?_ (IsS94.ge HI0.out) | refine bSt ?_ GE415.out | refine bSt ?_ GE420.out | refine bSt ?_ GE426.out) | exact HB.out), by repeat (first | (with_reducible first | exact HK.out | apply KeepBut.set_ | apply keep_drewN | apply keep_drew | apply keep_alloc | refine keep_far ?_ GW415.out _ | refine keep_far ?_ GW420.out _ | refine keep_far ?_ GW426.out _) | exact HK.out)⟩
   ·replace c23 := Bool.eq_false_iff.mpr c23
    subst c23
    have H1 : (some (t421, t422, t423, x1001_4, x1002_4)) = some (r1, r2, r3, r4, r5) := by rw [if_neg (show ¬ (false = true) by decide)] at H; exact H
    clear H
    have H := H1
    clear H1
    simp only [Option.some.injEq, Prod.mk.injEq] at H
    obtain ⟨rfl, rfl, rfl, rfl, rfl⟩ := H
    have hnb40 := NB426_415.out
    have hnc40 := NB415_426.out
    have hnb41 := NB426_420.out
    have hnc41 := NB420_426.out
    have hnb42 := NB426_0.out
    have hnc42 := NB0_426.out
    obtain ⟨hcz43_0, hcz43_1, hcz43_2, hfz43_0, hfz43_1, hfz43_2⟩ := cl3 BK426.out
    have hnb44 := NB415_420.out
    have hnc44 := NB420_415.out
    have hnb45 := NB415_0.out
    have hnc45 := NB0_415.out
    obtain ⟨hcz46_0, hcz46_1, hcz46_2, hfz46_0, hfz46_1, hfz46_2⟩ := cl3 BK415.out
    go_wp2
    refine bodyPost_ret (results_cell_row rfl _ _ gb415 30 #[.int .i64 t421, .int .i64 t422, .int .i64 t423] (0, 0) _ rfl (by (with_reducible repeat (first | refine kDN ?_ _ | refine kD ?_ | refine blk_alloc ?_ _)); refine blk_put (cs := #[.int .i64 t421, .int .i64 t422, .int .i64 0]) ?_ 2 _ rfl; (with_reducible repeat (first | refine kDN ?_ _ | refine kD ?_ | refine blk_alloc ?_ _)); refine blk_put (cs := #[.int .i64 t421, .int .i64 0, .int .i64 0]) ?_ 1 _ rfl; (with_reducible repeat (first | refine kDN ?_ _ | refine kD ?_ | refine blk_alloc ?_ _)); refine blk_put (cs := #[.int .i64 0, .int .i64 0, .int .i64 0]) ?_ 0 _ rfl; (with_reducible repeat (first | refine kDN ?_ _ | refine kD ?_ | refine blk_alloc ?_ _)); exact BK415.out) Try.underlying30 rfl (by kernel_rfl)) rfl ?_
    exact ⟨by first | rfl | (simp [errW_none, errW_some] <;> rfl) | (simp [*, errW_none, errW_some] <;> rfl), by repeat (first | (with_reducible first | exact HI0.out | apply IsS94.alloc | apply IsS94.drewN | apply IsS94.drew | apply IsS94.set_1 | apply IsS94.set_2 | refine IsS94.far ?_ NB0_415.out _ | refine IsS94.far ?_ NB0_420.out _ | refine IsS94.far ?_ NB0_426.out _) | exact HI0.out), by repeat (first | (with_reducible first | exact HB.out | apply bAl | apply bDN | apply bD1 | refine bSt ?_ (IsS94.ge HI0.out) | refine bSt ?_ GE415.out | refine bSt ?_ GE420.out | refine bSt ?_ GE426.out) | exact HB.out), by repeat (first | (with_reducible first | exact HK.out | apply KeepBut.set_ | apply keep_drewN | apply keep_drew | apply keep_alloc | refine keep_far ?_ GW415.out _ | refine keep_far ?_ GW420.out _ | refine keep_far ?_ GW426.out _) | exact HK.out)⟩
set_option maxHeartbeats 8000000 in
set_option maxRecDepth 100000 in
theorem spec_l10Walker.calls (g : Nat) (s0_0 : List Int) (s0_1 : Int) (s0_2 : Int) (a1_0 : Int) (a1_1 : Int) (a1_2 : Int) (r1 : Int) (r2 : Int) (r3 : Int) (r4 : Int) (w0 w : World) (hI : IsS94 w0 w g s0_0 s0_1 s0_2) (hB : Below w0.heap.size w0 w) (h : spec_l10Walker.f s0_0 s0_1 s0_2 a1_0 a1_1 a1_2 = some (r1, r2, r3, r4)) :
  Calls Try.prog 48 #[.pointer (some ⟨g, 0, none⟩), .agg #[.int .i64 a1_0, .int .i64 a1_1, .int .i64 a1_2]] w fun e w' => e = .returned (.agg #[.int .i64 r1, .int .i64 r2]) ∧ IsS94 w0 w' g s0_0 r3 r4 ∧ Below w0.heap.size w0 w' ∧ KeepBut w w' g none := by
 have hu30 := Try.underlying30
 have hu43 := Try.underlying43
 have hu28 := Try.underlying28
 have HI0 := aK hI
 have HK := aK (KeepBut.refl w g none)
 have HL := aK hB.size
 clear hI
 have HW0 := aK hB.size
 have HB := aK hB
 clear hB
 have H : ((spec_CountCells.f a1_0 a1_1).bind fun t439 => ((spec_l01Below.f s0_0 s0_1 s0_2 (mx 1 t439)).bind fun bt440 => ((spec_l01Below.f s0_0 bt440.2.1 bt440.2.2 4).bind fun bt443 => (some (bt440.1, bt443.1, bt443.2.1, bt443.2.2))))) = some (r1, r2, r3, r4) := h
 clear h
 replace H := Option.bind_eq_some_iff.mp H
 obtain ⟨t439, A30, H⟩ := H
 replace H : ((spec_l01Below.f s0_0 s0_1 s0_2 (mx 1 t439)).bind fun bt440 => ((spec_l01Below.f s0_0 bt440.2.1 bt440.2.2 4).bind fun bt443 => (some (bt440.1, bt443.1, bt443.2.1, bt443.2.2)))) = some (r1, r2, r3, r4) := H
 have A3 := aK A30
 clear A30
 obtain ⟨ji4, hji4⟩ : ∃ j_ : Int, (mx 1 t439) = j_ := ⟨_, rfl⟩
 replace H : ((spec_l01Below.f s0_0 s0_1 s0_2 (ji4)).bind fun bt440 => ((spec_l01Below.f s0_0 bt440.2.1 bt440.2.2 4).bind fun bt443 => (some (bt440.1, bt443.1, bt443.2.1, bt443.2.2)))) = some (r1, r2, r3, r4) := by first | (rw [hji4] at H; exact H) | (simp only [hji4] at H ⊢; exact H)
 (try rw [hji4] at A3)
 (try (have hji4l : 1 ≤ ji4 := by (rw [← hji4]; unfold mx; (repeat' split) <;> omega)))
 (try (have hji4m : 0 ≤ ji4 := by omega))
 have hji4_ : (if 1 < t439 then t439 else 1) = ji4 := hji4
 replace H := Option.bind_eq_some_iff.mp H
 obtain ⟨⟨t440, t441, t442⟩, A50, H⟩ := H
 replace H : ((spec_l01Below.f s0_0 t441 t442 4).bind fun bt443 => (some (t440, bt443.1, bt443.2.1, bt443.2.2))) = some (r1, r2, r3, r4) := H
 have A5 := aK A50
 clear A50
 replace H := Option.bind_eq_some_iff.mp H
 obtain ⟨⟨t443, t444, t445⟩, A60, H⟩ := H
 replace H : (some (t440, t443, t444, t445)) = some (r1, r2, r3, r4) := H
 have A6 := aK A60
 clear A60
 simp only [Option.some.injEq, Prod.mk.injEq] at H
 obtain ⟨rfl, rfl, rfl, rfl⟩ := H
 go_enter Try.func48, Try.ntmps48
 go_wp2_with (first | ((with_reducible refine gate_dst (N := 3) rfl ?_); refine box_event ?hg (N := 3) ?hd (cs := #[.int .i64 a1_0, .int .i64 a1_1, .int .i64 a1_2]) (t := 30) ?hr ?_; (case hd => rfl); (case hg => rfl); (case hr => first | (go_simp; done) | (go_simp; rfl)); intro gb437 hg w7 hbox hb; replace HB := aK (bSp (by repeat (first | (with_reducible first | exact HB.out | apply bAl | apply bDN | apply bD1 | refine bSt ?_ (IsS94.ge HI0.out)) | exact HB.out)) hb); have BK437 := aK (hbox); have GW437 := aK ((by rw [hg]; exact (keep_size (w := w) (g := g) (row := none) (by repeat (first | (with_reducible first | exact HK.out | apply KeepBut.set_ | apply keep_drewN | apply keep_drew | apply keep_alloc) | exact HK.out))) : w.heap.size ≤ gb437)); have GE437 := aK ((Nat.le_trans HW0.out (by rw [hg]; exact (keep_size (w := w) (g := g) (row := none) (by repeat (first | (with_reducible first | exact HK.out | apply KeepBut.set_ | apply keep_drewN | apply keep_drew | apply keep_alloc) | exact HK.out))) : w.heap.size ≤ gb437) : w0.heap.size ≤ gb437)); replace HK := aK (KeepBut.trans (by repeat (first | (with_reducible first | exact HK.out | apply KeepBut.set_ | apply keep_drewN | apply keep_drew | apply keep_alloc) | exact HK.out)) (KeepBut.of_below hb g none) (.inl rfl)); have NB0_437 := aK ((by rw [hg]; exact Nat.ne_of_lt (IsS94.lt (show IsS94 w0 _ g s0_0 s0_1 s0_2 from by repeat (first | (with_reducible first | exact HI0.out | apply IsS94.alloc | apply IsS94.drewN | apply IsS94.drew | apply IsS94.set_1 | apply IsS94.set_2) | exact HI0.out))) : g ≠ gb437)); have NB437_0 := aK ((by rw [hg]; exact Nat.ne_of_gt (IsS94.lt (show IsS94 w0 _ g s0_0 s0_1 s0_2 from by repeat (first | (with_reducible first | exact HI0.out | apply IsS94.alloc | apply IsS94.drewN | apply IsS94.drew | apply IsS94.set_1 | apply IsS94.set_2) | exact HI0.out))) : gb437 ≠ g)); replace HI0 := aK (IsS94.below (by repeat (first | (with_reducible first | exact HI0.out | apply IsS94.alloc | apply IsS94.drewN | apply IsS94.drew | apply IsS94.set_1 | apply IsS94.set_2) | exact HI0.out)) hb); clear hb hbox hg) | ((with_reducible refine gate_dst (N := 4) rfl ?_); refine box_event ?hg (N := 4) ?hd (cs := #[.int .i64 0, .int .i64 0]) (t := 43) ?hr ?_; (case hd => rfl); (case hg => rfl); (case hr => first | (go_simp; done) | (go_simp; rfl)); intro gb438 hg w8 hbox hb; replace HB := aK (bSp (by repeat (first | (with_reducible first | exact HB.out | apply bAl | apply bDN | apply bD1 | refine bSt ?_ (IsS94.ge HI0.out) | refine bSt ?_ GE437.out) | exact HB.out)) hb); have BK438 := aK (hbox); have GW438 := aK ((by rw [hg]; exact (keep_size (w := w) (g := g) (row := none) (by repeat (first | (with_reducible first | exact HK.out | apply KeepBut.set_ | apply keep_drewN | apply keep_drew | apply keep_alloc | refine keep_far ?_ GW437.out _) | exact HK.out))) : w.heap.size ≤ gb438)); have GE438 := aK ((Nat.le_trans HW0.out (by rw [hg]; exact (keep_size (w := w) (g := g) (row := none) (by repeat (first | (with_reducible first | exact HK.out | apply KeepBut.set_ | apply keep_drewN | apply keep_drew | apply keep_alloc | refine keep_far ?_ GW437.out _) | exact HK.out))) : w.heap.size ≤ gb438) : w0.heap.size ≤ gb438)); replace HK := aK (KeepBut.trans (by repeat (first | (with_reducible first | exact HK.out | apply KeepBut.set_ | apply keep_drewN | apply keep_drew | apply keep_alloc | refine keep_far ?_ GW437.out _) | exact HK.out)) (KeepBut.of_below hb g none) (.inl rfl)); have NB437_438 := nbl BK437 hg (by intro z_; (with_reducible repeat (first | refine kDN ?_ _ | refine kD ?_ | refine blk_alloc ?_ _)); exact z_); replace BK437 := zB BK437 hb; have NB438_437 := nbs NB437_438; have NB0_438 := aK ((by rw [hg]; exact Nat.ne_of_lt (IsS94.lt (show IsS94 w0 _ g s0_0 s0_1 s0_2 from by repeat (first | (with_reducible first | exact HI0.out | apply IsS94.alloc | apply IsS94.drewN | apply IsS94.drew | apply IsS94.set_1 | apply IsS94.set_2 | refine IsS94.far ?_ NB0_437.out _) | exact HI0.out))) : g ≠ gb438)); have NB438_0 := aK ((by rw [hg]; exact Nat.ne_of_gt (IsS94.lt (show IsS94 w0 _ g s0_0 s0_1 s0_2 from by repeat (first | (with_reducible first | exact HI0.out | apply IsS94.alloc | apply IsS94.drewN | apply IsS94.drew | apply IsS94.set_1 | apply IsS94.set_2 | refine IsS94.far ?_ NB0_437.out _) | exact HI0.out))) : gb438 ≠ g)); replace HI0 := aK (IsS94.below (by repeat (first | (with_reducible first | exact HI0.out | apply IsS94.alloc | apply IsS94.drewN | apply IsS94.drew | apply IsS94.set_1 | apply IsS94.set_2 | refine IsS94.far ?_ NB0_437.out _) | exact HI0.out)) hb); clear hb hbox hg; have hnb9 := NB437_438.out; have hnc9 := NB438_437.out; have hnb10 := NB437_0.out; have hnc10 := NB0_437.out; obtain ⟨hcz11_0, hcz11_1, hcz11_2, hfz11_0, hfz11_1, hfz11_2⟩ := cl3 BK437.out) | ((with_reducible refine gate_callee (f := 22) rfl ?_); refine goesL_ (some 8) rfl rfl Try.func22 (by kernel_rfl) rfl #[.agg #[.int .i64 a1_0, .int .i64 a1_1]] rfl zD ?_; (with_reducible refine (spec_CountCells.calls a1_0 a1_1 t439 _ A3.out).mono ?_); rintro e w12 ⟨rfl, hb⟩; refine ⟨_, rfl, ?_⟩; replace BK437 := zB BK437 hb; replace BK438 := zB BK438 hb; replace HK := aK (KeepBut.trans (by repeat (first | (with_reducible first | exact HK.out | apply KeepBut.set_ | apply keep_drewN | apply keep_drew | apply keep_alloc | refine keep_far ?_ GW437.out _ | refine keep_far ?_ GW438.out _) | exact HK.out)) (KeepBut.of_below hb g none) (.inl rfl)); replace HB := aK (bSp (by repeat (first | (with_reducible first | exact HB.out | apply bAl | apply bDN | apply bD1 | refine bSt ?_ (IsS94.ge HI0.out) | refine bSt ?_ GE437.out | refine bSt ?_ GE438.out) | exact HB.out)) hb); replace HI0 := aK (IsS94.below (by repeat (first | (with_reducible first | exact HI0.out | apply IsS94.alloc | apply IsS94.drewN | apply IsS94.drew | apply IsS94.set_1 | apply IsS94.set_2 | refine IsS94.far ?_ NB0_437.out _ | refine IsS94.far ?_ NB0_438.out _) | exact HI0.out)) hb); (try clear hb); (try clear hb2); (try clear hk); (try clear hi)) | ((with_reducible refine gate_callee (f := 58) rfl ?_); refine goesL_ (some 10) rfl rfl Try.func58 (by kernel_rfl) rfl #[.pointer (some ⟨g, 0, none⟩), .int .i64 ji4] rfl (by (try simp only [List.map_toArray, List.map_cons, List.map_nil]); first | done | (simp only [hji4]; rfl) | rfl | (simp only [List.length_drop, List.length_take]; rfl)) ?_; (with_reducible refine (spec_l01Below.calls g s0_0 s0_1 s0_2 ji4 t440 t441 t442 w0 _ ?side1 ?side2 A5.out).mono ?_); (case side1 => repeat (first | (with_reducible first | exact HI0.out | apply IsS94.alloc | apply IsS94.drewN | apply IsS94.drew | apply IsS94.set_1 | apply IsS94.set_2 | refine IsS94.far ?_ NB0_437.out _ | refine IsS94.far ?_ NB0_438.out _) | exact HI0.out)); (case side2 => repeat (first | (with_reducible first | exact HB.out | apply bAl | apply bDN | apply bD1 | refine bSt ?_ (IsS94.ge HI0.out) | refine bSt ?_ GE437.out | refine bSt ?_ GE438.out) | exact HB.out)); rintro e w13 ⟨rfl, hi, hb, hk⟩; refine ⟨_, rfl, ?_⟩; replace BK437 := aK (KeepBut.blk hk (g' := gb437) (o := .cells #[.int .i64 a1_0, .int .i64 a1_1, .int .i64 a1_2] 30 (0, 0)) (zK BK437) NB437_0.out (by simp)); replace BK438 := aK (KeepBut.blk hk (g' := gb438) (o := .cells #[.int .i64 0, .int .i64 0] 43 (0, 0)) (zK BK438) NB438_0.out (by simp)); replace HK := aK (KeepBut.trans (by repeat (first | (with_reducible first | exact HK.out | apply KeepBut.set_ | apply keep_drewN | apply keep_drew | apply keep_alloc | refine keep_far ?_ GW437.out _ | refine keep_far ?_ GW438.out _) | exact HK.out)) hk (.inl rfl)); replace HB := aK (hb); replace HI0 := aK (hi); (try clear hb); (try clear hb2); (try clear hk); (try clear hi)) | ((with_reducible refine gate_callee (f := 58) rfl ?_); refine goesL_ (some 12) rfl rfl Try.func58 (by kernel_rfl) rfl #[.pointer (some ⟨g, 0, none⟩), .int .i64 4] rfl zD ?_; (with_reducible refine (spec_l01Below.calls g s0_0 t441 t442 4 t443 t444 t445 w0 _ ?side1 ?side2 A6.out).mono ?_); (case side1 => repeat (first | (with_reducible first | exact HI0.out | apply IsS94.alloc | apply IsS94.drewN | apply IsS94.drew | apply IsS94.set_1 | apply IsS94.set_2 | refine IsS94.far ?_ NB0_437.out _ | refine IsS94.far ?_ NB0_438.out _) | exact HI0.out)); (case side2 => repeat (first | (with_reducible first | exact HB.out | apply bAl | apply bDN | apply bD1 | refine bSt ?_ (IsS94.ge HI0.out) | refine bSt ?_ GE437.out | refine bSt ?_ GE438.out) | exact HB.out)); rintro e w14 ⟨rfl, hi, hb, hk⟩; refine ⟨_, rfl, ?_⟩; replace BK437 := aK (KeepBut.blk hk (g' := gb437) (o := .cells #[.int .i64 a1_0, .int .i64 a1_1, .int .i64 a1_2] 30 (0, 0)) (zK BK437) NB437_0.out (by simp)); replace BK438 := aK (KeepBut.blk hk (g' := gb438) (o := .cells #[.int .i64 0, .int .i64 0] 43 (0, 0)) (zK BK438) NB438_0.out (by simp)); replace HK := aK (KeepBut.trans (by repeat (first | (with_reducible first | exact HK.out | apply KeepBut.set_ | apply keep_drewN | apply keep_drew | apply keep_alloc | refine keep_far ?_ GW437.out _ | refine keep_far ?_ GW438.out _) | exact HK.out)) hk (.inl rfl)); replace HB := aK (hb); replace HI0 := aK (hi); (try clear hb); (try clear hb2); (try clear hk); (try clear hi); have hnb15 := NB438_0.out; have hnc15 := NB0_438.out; obtain ⟨hcz16_0, hcz16_1, hfz16_0, hfz16_1⟩ := cl2 BK438.out))
 refine bodyPost_ret (results_cell_row rfl _ _ gb438 43 #[.int .i64 t440, .int .i64 t443] (0, 0) _ rfl (by (with_reducible repeat (first | refine kDN ?_ _ | refine kD ?_ | refine blk_alloc ?_ _)); refine blk_put (cs := #[.int .i64 t440, .int .i64 0]) ?_ 1 _ rfl; (with_reducible repeat (first | refine kDN ?_ _ | refine kD ?_ | refine blk_alloc ?_ _)); refine blk_put (cs := #[.int .i64 0, .int .i64 0]) ?_ 0 _ rfl; (with_reducible repeat (first | refine kDN ?_ _ | refine kD ?_ | refine blk_alloc ?_ _)); exact BK438.out) Try.underlying43 rfl (by kernel_rfl)) rfl ?_
 exact ⟨by first | rfl | (simp [errW_none, errW_some] <;> rfl) | (simp only [← hji4]; first | rfl | (simp [errW_none, errW_some] <;> rfl)) | (simp [*, errW_none, errW_some] <;> rfl), by repeat (first | (with_reducible first | exact HI0.out | apply IsS94.alloc | apply IsS94.drewN | apply IsS94.drew | apply IsS94.set_1 | apply IsS94.set_2 | refine IsS94.far ?_ NB0_437.out _ | refine IsS94.far ?_ NB0_438.out _) | exact HI0.out), by repeat (first | (with_reducible first | exact HB.out | apply bAl | apply bDN | apply bD1 | refine bSt ?_ (IsS94.ge HI0.out) | refine bSt ?_ GE437.out | refine bSt ?_ GE438.out) | exact HB.out), by repeat (first | (with_reducible first | exact HK.out | apply KeepBut.set_ | apply keep_drewN | apply keep_drew | apply keep_alloc | refine keep_far ?_ GW437.out _ | refine keep_far ?_ GW438.out _) | exact HK.out)⟩
set_option maxRecDepth 20000 in set_option maxHeartbeats 4000000 in open Nat renaming reduceAdd → p1, reduceSub → p2, reduceMul → p3, reduceDiv → p4, reduceBNe → p5, reduceBEq → p6, reduceEqDiff → p7, reduceLeDiff → p8, reduceLT → p9 in open Int renaming reduceLE → p10, reduceLT → p11, reduceEq → p12 in
theorem spec_WaysFrom.ctr {k : Nat} {a0_0 : Int} {a0_1 : Int} {a0_2 : Int} {a1 : Int} {r : List Int} (h : spec_WaysFrom.f k a0_0 a0_1 a0_2 a1 = some r) : Ctr Try.prog 82 [.ag [.v (.int .i64 a0_0), .v (.int .i64 a0_1), .v (.int .i64 a0_2)], .v (.int .i64 a1)] (.ow 3 1 (r.map eI)) := by
  refine Ctr_of tyOk hm Try.func82 rfl rfl (by kernel_rfl) (n := 20) (rv := [.tmp 4]) rfl rfl ?_
  simp only [W, List.replicate]
  unfold spec_WaysFrom.f at h
  try simp only [W, p1, p2, p3, p4, p5, p6, p7, p8, p9, p10, p11, p12]
  refine loopN (fun x : Int × List Int × Int × Int × Int × Int => [.u, .v (.int .i64 x.1), .bp 32 0, .u, .u, .lo 112, .v (.int .i64 x.2.2.1), .u, .u, .u, .u, .u, .u, .u, .u, .u, .u, .u, .u, .u, .u, .u]) (fun x => [(32, .box 30 [.v (.int .i64 x.2.2.2.1), .v (.int .i64 x.2.2.2.2.1), .v (.int .i64 x.2.2.2.2.2)]), (112, .row 3 1 (List.map eI x.2.1))]) (fun n x => spec_WaysFrom.l0 n x.1 x.2.1 x.2.2.1 x.2.2.2.1 x.2.2.2.2.1 x.2.2.2.2.2 = some r) (a1, (([] : List Int)), 0, a0_0, a0_1, a0_2) [] h (by simp only [W, p1, p2, p3, p4, p5, p6, p7, p8, p9, p10, p11, p12] <;> trivial) (by simp only [W, p1, p2, p3, p4, p5, p6, p7, p8, p9, p10, p11, p12] <;> trivial) rfl (fun _ h => by cases h) ?_
  intro n1 ⟨x1, x2, x3, x4, x5, x6⟩ _ h
  simp only [spec_WaysFrom.l0] at h
  replace h := ifS h; rcases h with ⟨c7, h⟩ | ⟨c7, h⟩
  · replace h := bnd h; obtain ⟨t8, A, h⟩ := h
    try simp only [W, c7, p1, p2, p3, p4, p5, p6, p7, p8, p9, p10, p11, p12]
    refine callR (spec_Step.ctr A) ?_
    replace h := ifS h; rcases h with ⟨c9, h⟩ | ⟨c9, h⟩
    · replace h := ifN h; obtain ⟨c10, h⟩ := h
      try simp only [W, c7, c9, c10, p1, p2, p3, p4, p5, p6, p7, p8, p9, p10, p11, p12]
      exact nextN (x1, (x2 ++ [x3]), (wrap64 (x3 + 1)), x4, x5, x6) [(112, 320)] n1 (by omega) h (by simp only [W, p1, p2, p3, p4, p5, p6, p7, p8, p9, p10, p11, p12] <;> trivial) (by simp only [W, p1, p2, p3, p4, p5, p6, p7, p8, p9, p10, p11, p12] <;> trivial) rfl
    · try simp only [W, c7, c9, p1, p2, p3, p4, p5, p6, p7, p8, p9, p10, p11, p12]
      exact nextN (x1, x2, (wrap64 (x3 + 1)), x4, x5, x6) [] n1 (by omega) h (by simp only [W, p1, p2, p3, p4, p5, p6, p7, p8, p9, p10, p11, p12] <;> trivial) (by simp only [W, p1, p2, p3, p4, p5, p6, p7, p8, p9, p10, p11, p12] <;> trivial) rfl
  · cases h
    try simp only [W, c7, p1, p2, p3, p4, p5, p6, p7, p8, p9, p10, p11, p12]
theorem spec_WaysFrom.calls (k : Nat) (a0_0 : Int) (a0_1 : Int) (a0_2 : Int) (a1 : Int) (r : List Int) (w : World) (h : spec_WaysFrom.f k a0_0 a0_1 a0_2 a1 = some r) :
    Calls Try.prog 82 #[.agg #[.int .i64 a0_0, .int .i64 a0_1, .int .i64 a0_2], .int .i64 a1] w fun e w' => ∃ v0_ : Value, e = .returned (v0_) ∧ Kd.R (Kd.int .i64) 3 w' w.heap.size (fun _ => True) v0_ r ∧ Below w.heap.size w w' := by
  refine ((spec_WaysFrom.ctr h).2 w [.agg #[.int .i64 a0_0, .int .i64 a0_1, .int .i64 a0_2], .int .i64 a1] (by simp only [RepL, Rep]; exact ⟨_, _, rfl, ⟨_, rfl, _, _, rfl, rfl, _, _, rfl, rfl, _, _, rfl, rfl, rfl⟩, _, _, rfl, rfl, rfl⟩)).mono ?_
  rintro _ _ ⟨y, L, rfl, hR, _, hb⟩
  simp only [RepR] at hR
  exact ⟨y, rfl, R_of_row E_eI hR.1, hb⟩
end Go.Proofs.Ytccjanhdnheclaa.F
end
