/- Packed by a program of the session (wip/tools/pack.py): what the claim's theorem reaches, of the texts that wip/ and the kit's printer lay. -/
import Derived.Test.YtdjdleldocfpaaaDoorPkFnCrowds7
import Derived.Lib.ItoaNum
import Derived.Lib.AtoiAll
import Derived.Lib.Split
section
namespace Go.Proofs.YtdjdleldocfpaaaDoor.F
open Go.RowKit Go.Proofs.YtdjdleldocfpaaaDoorW.PrintWords Go.Proofs.YtdjdleldocfpaaaDoorW.PrintLast Go.Proofs.YtdjdleldocfpaaaDoorW.PrintMore
set_option linter.unusedVariables false
set_option linter.unusedSimpArgs false
attribute [local go_sem] max2_int min2_int max_two min_two
def spec_l03Tree.T19 : Bool × List (List Nat × List Nat) := (true, [([], []), ([], []), ([0, 1], [0, 1]), ([2], [2]), ([], []), ([], []), ([4, 5], [4, 5]), ([6], [6]), ([3, 7], [3, 7])])
def spec_l03Tree.B19 : List Nat := [0, 0, 3, 7, 0, 0, 48, 112, 255]
theorem spec_l03Tree.tab19 : rtab .any (opsOf Tryd.f79 19) = spec_l03Tree.T19 := by kernel_rfl
theorem spec_l03Tree.bits19 : waitsOk spec_l03Tree.T19.2 spec_l03Tree.B19 = true := by kernel_rfl
set_option maxHeartbeats 8000000 in
set_option maxRecDepth 100000 in
theorem spec_l03Tree.calls (k : Nat) (g : Nat) (s0_0 : List Int) (s0_1 : Int) (s0_2 : Int) (a1_0 : Int) (a1_1 : Int) (r1 : Int) (r2 : Int) (r3 : Int) (r4 : Int) (r5 : Int) (w0 w : World) (hI : IsS103 w0 w g s0_0 s0_1 s0_2) (hB : Below w0.heap.size w0 w) (h : spec_l03Tree.f k s0_0 s0_1 s0_2 a1_0 a1_1 = some (r1, r2, r3, r4, r5)) :
  Calls Tryd.prog 79 #[.pointer (some ⟨g, 0, none⟩), .agg #[.int .i64 a1_0, .int .i64 a1_1]] w fun e w' => e = .returned (.agg #[.int .i64 r1, .int .i64 r2, .int .i64 r3]) ∧ IsS103 w0 w' g s0_0 r4 r5 ∧ Below w0.heap.size w0 w' ∧ KeepBut w w' g none := by
 have hu39 := Tryd.underlying39
 have hu41 := Tryd.underlying41
 have HI0 := aK hI
 have HK := aK (KeepBut.refl w g none)
 have HL := aK hB.size
 clear hI
 have HW0 := aK hB.size
 have HB := aK hB
 clear hB
 have H : ((spec_CountGaps.f a1_0 a1_1).bind fun t1149 => ((spec_CountCells.f a1_0 a1_1).bind fun t1150 => (if 0 ≤ t1150 then (if (t1150 : Int).toNat ≤ 35184372088832 then (spec_l03Tree.l0 k t1149 (List.replicate (t1150 : Int).toNat 0) 0 s0_0 s0_1 s0_2 a1_0 a1_1 a1_0 a1_1 0) else (none)) else (none)))) = some (r1, r2, r3, r4, r5) := h
 clear h
 replace H := Option.bind_eq_some_iff.mp H
 obtain ⟨t1149, A30, H⟩ := H
 replace H : ((spec_CountCells.f a1_0 a1_1).bind fun t1150 => (if 0 ≤ t1150 then (if (t1150 : Int).toNat ≤ 35184372088832 then (spec_l03Tree.l0 k t1149 (List.replicate (t1150 : Int).toNat 0) 0 s0_0 s0_1 s0_2 a1_0 a1_1 a1_0 a1_1 0) else (none)) else (none))) = some (r1, r2, r3, r4, r5) := H
 have A3 := aK A30
 clear A30
 replace H := Option.bind_eq_some_iff.mp H
 obtain ⟨t1150, A40, H⟩ := H
 replace H : (if 0 ≤ t1150 then (if (t1150 : Int).toNat ≤ 35184372088832 then (spec_l03Tree.l0 k t1149 (List.replicate (t1150 : Int).toNat 0) 0 s0_0 s0_1 s0_2 a1_0 a1_1 a1_0 a1_1 0) else (none)) else (none)) = some (r1, r2, r3, r4, r5) := H
 have A4 := aK A40
 clear A40
 by_cases c5 : 0 ≤ t1150
 ·rw [if_pos c5] at H
  have c5b0 := eq_true c5
  have c5b1 : decide (0 ≤ t1150) = true := decide_eq_true c5
  clear c5
  by_cases c6 : (t1150 : Int).toNat ≤ 35184372088832
  ·rw [if_pos c6] at H
   have c6b0 := eq_true c6
   have c6b1 : decide ((t1150 : Int).toNat ≤ 35184372088832) = true := decide_eq_true c6
   clear c6
   obtain ⟨y1151, hy1151⟩ : ∃ y_ : List Int, y_ = (List.replicate (t1150 : Int).toNat 0) := ⟨_, rfl⟩
   replace H : (spec_l03Tree.l0 k t1149 y1151 0 s0_0 s0_1 s0_2 a1_0 a1_1 a1_0 a1_1 0) = some (r1, r2, r3, r4, r5) := by first | (rw [hy1151]; with_reducible exact H) | (have H2_ := (Option.bind_some _ _).symm.trans H; rw [hy1151]; with_reducible exact H2_) | (have H2_ := (Option.bind_some _ _).symm.trans H; with_reducible exact H2_) | with_reducible exact H | (rw [hy1151]; exact H) | exact H
   have Ny1151 := aK hy1151
   clear hy1151
   have H' := aK H
   clear H
   go_enter Tryd.func79, Tryd.ntmps79
   go_wp2_with (first | ((with_reducible refine gate_dst (N := 3) rfl ?_); refine box_event ?hg (N := 3) ?hd (cs := #[.int .i64 a1_0, .int .i64 a1_1]) (t := 39) ?hr ?_; (case hd => rfl); (case hg => rfl); (case hr => first | (go_simp; done) | (go_simp; rfl)); intro gb1146 hg w7 hbox hb; replace HB := aK (bSp (by repeat (first | (with_reducible first | exact HB.out | apply bAl | apply bDN | apply bD1 | refine bSt ?_ (IsS103.ge HI0.out)) | exact HB.out)) hb); have BK1146 := aK (hbox); have GW1146 := aK ((by rw [hg]; exact (keep_size (w := w) (g := g) (row := none) (by repeat (first | (with_reducible first | exact HK.out | apply KeepBut.set_ | apply keep_drewN | apply keep_drew | apply keep_alloc) | exact HK.out))) : w.heap.size ≤ gb1146)); have GE1146 := aK ((Nat.le_trans HW0.out (by rw [hg]; exact (keep_size (w := w) (g := g) (row := none) (by repeat (first | (with_reducible first | exact HK.out | apply KeepBut.set_ | apply keep_drewN | apply keep_drew | apply keep_alloc) | exact HK.out))) : w.heap.size ≤ gb1146) : w0.heap.size ≤ gb1146)); replace HK := aK (KeepBut.trans (by repeat (first | (with_reducible first | exact HK.out | apply KeepBut.set_ | apply keep_drewN | apply keep_drew | apply keep_alloc) | exact HK.out)) (KeepBut.of_below hb g none) (.inl rfl)); have NB0_1146 := aK ((by rw [hg]; exact Nat.ne_of_lt (IsS103.lt (show IsS103 w0 _ g s0_0 s0_1 s0_2 from by repeat (first | (with_reducible first | exact HI0.out | apply IsS103.alloc | apply IsS103.drewN | apply IsS103.drew | apply IsS103.set_1 | apply IsS103.set_2) | exact HI0.out))) : g ≠ gb1146)); have NB1146_0 := aK ((by rw [hg]; exact Nat.ne_of_gt (IsS103.lt (show IsS103 w0 _ g s0_0 s0_1 s0_2 from by repeat (first | (with_reducible first | exact HI0.out | apply IsS103.alloc | apply IsS103.drewN | apply IsS103.drew | apply IsS103.set_1 | apply IsS103.set_2) | exact HI0.out))) : gb1146 ≠ g)); replace HI0 := aK (IsS103.below (by repeat (first | (with_reducible first | exact HI0.out | apply IsS103.alloc | apply IsS103.drewN | apply IsS103.drew | apply IsS103.set_1 | apply IsS103.set_2) | exact HI0.out)) hb); clear hb hbox hg) | ((with_reducible refine gate_dst (N := 4) rfl ?_); refine box_event ?hg (N := 4) ?hd (cs := #[.int .i64 0, .int .i64 0, .int .i64 0]) (t := 41) ?hr ?_; (case hd => rfl); (case hg => rfl); (case hr => first | (go_simp; done) | (go_simp; rfl)); intro gb1147 hg w8 hbox hb; replace HB := aK (bSp (by repeat (first | (with_reducible first | exact HB.out | apply bAl | apply bDN | apply bD1 | refine bSt ?_ (IsS103.ge HI0.out) | refine bSt ?_ GE1146.out) | exact HB.out)) hb); have BK1147 := aK (hbox); have GW1147 := aK ((by rw [hg]; exact (keep_size (w := w) (g := g) (row := none) (by repeat (first | (with_reducible first | exact HK.out | apply KeepBut.set_ | apply keep_drewN | apply keep_drew | apply keep_alloc | refine keep_far ?_ GW1146.out _) | exact HK.out))) : w.heap.size ≤ gb1147)); have GE1147 := aK ((Nat.le_trans HW0.out (by rw [hg]; exact (keep_size (w := w) (g := g) (row := none) (by repeat (first | (with_reducible first | exact HK.out | apply KeepBut.set_ | apply keep_drewN | apply keep_drew | apply keep_alloc | refine keep_far ?_ GW1146.out _) | exact HK.out))) : w.heap.size ≤ gb1147) : w0.heap.size ≤ gb1147)); replace HK := aK (KeepBut.trans (by repeat (first | (with_reducible first | exact HK.out | apply KeepBut.set_ | apply keep_drewN | apply keep_drew | apply keep_alloc | refine keep_far ?_ GW1146.out _) | exact HK.out)) (KeepBut.of_below hb g none) (.inl rfl)); have NB1146_1147 := nbl BK1146 hg (by intro z_; (with_reducible repeat (first | refine kDN ?_ _ | refine kD ?_ | refine kA ?_ _)); exact z_); replace BK1146 := zB BK1146 hb; have NB1147_1146 := nbs NB1146_1147; have NB0_1147 := aK ((by rw [hg]; exact Nat.ne_of_lt (IsS103.lt (show IsS103 w0 _ g s0_0 s0_1 s0_2 from by repeat (first | (with_reducible first | exact HI0.out | apply IsS103.alloc | apply IsS103.drewN | apply IsS103.drew | apply IsS103.set_1 | apply IsS103.set_2 | refine IsS103.far ?_ NB0_1146.out _) | exact HI0.out))) : g ≠ gb1147)); have NB1147_0 := aK ((by rw [hg]; exact Nat.ne_of_gt (IsS103.lt (show IsS103 w0 _ g s0_0 s0_1 s0_2 from by repeat (first | (with_reducible first | exact HI0.out | apply IsS103.alloc | apply IsS103.drewN | apply IsS103.drew | apply IsS103.set_1 | apply IsS103.set_2 | refine IsS103.far ?_ NB0_1146.out _) | exact HI0.out))) : gb1147 ≠ g)); replace HI0 := aK (IsS103.below (by repeat (first | (with_reducible first | exact HI0.out | apply IsS103.alloc | apply IsS103.drewN | apply IsS103.drew | apply IsS103.set_1 | apply IsS103.set_2 | refine IsS103.far ?_ NB0_1146.out _) | exact HI0.out)) hb); clear hb hbox hg; have hnb9 := NB1146_1147.out; have hnc9 := NB1147_1146.out; have hnb10 := NB1146_0.out; have hnc10 := NB0_1146.out; obtain ⟨hcz11_0, hcz11_1, hfz11_0, hfz11_1⟩ := cl2 BK1146.out) | ((with_reducible refine gate_dst (N := 5) rfl ?_); refine box_event ?hg (N := 5) ?hd (cs := #[.int .i64 0, .int .i64 0, .int .i64 0]) (t := 41) ?hr ?_; (case hd => rfl); (case hg => rfl); (case hr => first | (go_simp; done) | (go_simp; rfl)); intro gb1148 hg w12 hbox hb; replace HB := aK (bSp (by repeat (first | (with_reducible first | exact HB.out | apply bAl | apply bDN | apply bD1 | refine bSt ?_ (IsS103.ge HI0.out) | refine bSt ?_ GE1146.out | refine bSt ?_ GE1147.out) | exact HB.out)) hb); have BK1148 := aK (hbox); have GW1148 := aK ((by rw [hg]; exact (keep_size (w := w) (g := g) (row := none) (by repeat (first | (with_reducible first | exact HK.out | apply KeepBut.set_ | apply keep_drewN | apply keep_drew | apply keep_alloc | refine keep_far ?_ GW1146.out _ | refine keep_far ?_ GW1147.out _) | exact HK.out))) : w.heap.size ≤ gb1148)); have GE1148 := aK ((Nat.le_trans HW0.out (by rw [hg]; exact (keep_size (w := w) (g := g) (row := none) (by repeat (first | (with_reducible first | exact HK.out | apply KeepBut.set_ | apply keep_drewN | apply keep_drew | apply keep_alloc | refine keep_far ?_ GW1146.out _ | refine keep_far ?_ GW1147.out _) | exact HK.out))) : w.heap.size ≤ gb1148) : w0.heap.size ≤ gb1148)); replace HK := aK (KeepBut.trans (by repeat (first | (with_reducible first | exact HK.out | apply KeepBut.set_ | apply keep_drewN | apply keep_drew | apply keep_alloc | refine keep_far ?_ GW1146.out _ | refine keep_far ?_ GW1147.out _) | exact HK.out)) (KeepBut.of_below hb g none) (.inl rfl)); have NB1146_1148 := nbl BK1146 hg (by intro z_; (with_reducible repeat (first | refine kDN ?_ _ | refine kD ?_ | refine kA ?_ _)); exact z_); replace BK1146 := zB BK1146 hb; have NB1148_1146 := nbs NB1146_1148; have NB1147_1148 := nbl BK1147 hg (by intro z_; (with_reducible repeat (first | refine kDN ?_ _ | refine kD ?_ | refine kA ?_ _)); exact z_); replace BK1147 := zB BK1147 hb; have NB1148_1147 := nbs NB1147_1148; have NB0_1148 := aK ((by rw [hg]; exact Nat.ne_of_lt (IsS103.lt (show IsS103 w0 _ g s0_0 s0_1 s0_2 from by repeat (first | (with_reducible first | exact HI0.out | apply IsS103.alloc | apply IsS103.drewN | apply IsS103.drew | apply IsS103.set_1 | apply IsS103.set_2 | refine IsS103.far ?_ NB0_1146.out _ | refine IsS103.far ?_ NB0_1147.out _) | exact HI0.out))) : g ≠ gb1148)); have NB1148_0 := aK ((by rw [hg]; exact Nat.ne_of_gt (IsS103.lt (show IsS103 w0 _ g s0_0 s0_1 s0_2 from by repeat (first | (with_reducible first | exact HI0.out | apply IsS103.alloc | apply IsS103.drewN | apply IsS103.drew | apply IsS103.set_1 | apply IsS103.set_2 | refine IsS103.far ?_ NB0_1146.out _ | refine IsS103.far ?_ NB0_1147.out _) | exact HI0.out))) : gb1148 ≠ g)); replace HI0 := aK (IsS103.below (by repeat (first | (with_reducible first | exact HI0.out | apply IsS103.alloc | apply IsS103.drewN | apply IsS103.drew | apply IsS103.set_1 | apply IsS103.set_2 | refine IsS103.far ?_ NB0_1146.out _ | refine IsS103.far ?_ NB0_1147.out _) | exact HI0.out)) hb); clear hb hbox hg; have hnb13 := NB1148_1146.out; have hnc13 := NB1146_1148.out; have hnb14 := NB1148_1147.out; have hnc14 := NB1147_1148.out; have hnb15 := NB1148_0.out; have hnc15 := NB0_1148.out; obtain ⟨hcz16_0, hcz16_1, hcz16_2, hfz16_0, hfz16_1, hfz16_2⟩ := cl3 BK1148.out; obtain ⟨hcz17_0, hcz17_1, hfz17_0, hfz17_1⟩ := cl2 BK1146.out) | ((with_reducible refine gate_callee (f := 80) rfl ?_); refine goesL_ (some 20) rfl rfl Tryd.func80 (by kernel_rfl) rfl #[.agg #[.int .i64 a1_0, .int .i64 a1_1]] rfl zD ?_; (with_reducible refine (spec_CountGaps.calls a1_0 a1_1 t1149 _ A3.out).mono ?_); rintro e w18 ⟨rfl, hb⟩; refine ⟨_, rfl, ?_⟩; replace BK1146 := zG3 BK1146 NB1146_1148 hb; replace BK1147 := zG3 BK1147 NB1147_1148 hb; replace BK1148 := aK (blk_below (g := gb1148) (o := .cells #[.int .i64 a1_0, .int .i64 a1_1, .int .i64 0] 41 (0, 0)) (by (with_reducible repeat (first | refine kDN ?_ _ | refine kD ?_ | refine kA ?_ _)); refine blk_put (cs := #[.int .i64 a1_0, .int .i64 a1_1, .int .i64 0]) ?_ 2 _ rfl; (with_reducible repeat (first | refine kDN ?_ _ | refine kD ?_ | refine kA ?_ _)); refine blk_put (cs := #[.int .i64 a1_0, .int .i64 0, .int .i64 0]) ?_ 1 _ rfl; (with_reducible repeat (first | refine kDN ?_ _ | refine kD ?_ | refine kA ?_ _)); refine blk_put (cs := #[.int .i64 0, .int .i64 0, .int .i64 0]) ?_ 0 _ rfl; (with_reducible repeat (first | refine kDN ?_ _ | refine kD ?_ | refine kA ?_ _)); exact BK1148.out) hb); replace HK := aK (KeepBut.trans (by repeat (first | (with_reducible first | exact HK.out | apply KeepBut.set_ | apply keep_drewN | apply keep_drew | apply keep_alloc | refine keep_far ?_ GW1146.out _ | refine keep_far ?_ GW1147.out _ | refine keep_far ?_ GW1148.out _) | exact HK.out)) (KeepBut.of_below hb g none) (.inl rfl)); replace HB := aK (bSp (by repeat (first | (with_reducible first | exact HB.out | apply bAl | apply bDN | apply bD1 | refine bSt ?_ (IsS103.ge HI0.out) | refine bSt ?_ GE1146.out | refine bSt ?_ GE1147.out | refine bSt ?_ GE1148.out) | exact HB.out)) hb); replace HI0 := aK (IsS103.below (show IsS103 w0 (((w12.setCell ⟨gb1148, 0, none⟩ (.int .i64 a1_0)).setCell ⟨gb1148, 1, none⟩ (.int .i64 a1_1)).setCell ⟨gb1148, 2, none⟩ (.int .i64 0)) g s0_0 s0_1 s0_2 from by repeat (first | (with_reducible first | exact HI0.out | apply IsS103.alloc | apply IsS103.drewN | apply IsS103.drew | apply IsS103.set_1 | apply IsS103.set_2 | refine IsS103.far ?_ NB0_1146.out _ | refine IsS103.far ?_ NB0_1147.out _ | refine IsS103.far ?_ NB0_1148.out _) | exact HI0.out)) hb); (try clear hb); (try clear hb2); (try clear hk); (try clear hi); obtain ⟨hcz19_0, hcz19_1, hfz19_0, hfz19_1⟩ := cl2 BK1146.out) | ((with_reducible refine gate_callee (f := 46) rfl ?_); refine goesL_ (some 22) rfl rfl Tryd.func46 (by kernel_rfl) rfl #[.agg #[.int .i64 a1_0, .int .i64 a1_1]] rfl zD ?_; (with_reducible refine (spec_CountCells.calls a1_0 a1_1 t1150 _ A4.out).mono ?_); rintro e w20 ⟨rfl, hb⟩; refine ⟨_, rfl, ?_⟩; replace BK1146 := zB BK1146 hb; replace BK1147 := zB BK1147 hb; replace BK1148 := zB BK1148 hb; replace HK := aK (KeepBut.trans (by repeat (first | (with_reducible first | exact HK.out | apply KeepBut.set_ | apply keep_drewN | apply keep_drew | apply keep_alloc | refine keep_far ?_ GW1146.out _ | refine keep_far ?_ GW1147.out _ | refine keep_far ?_ GW1148.out _) | exact HK.out)) (KeepBut.of_below hb g none) (.inl rfl)); replace HB := aK (bSp (by repeat (first | (with_reducible first | exact HB.out | apply bAl | apply bDN | apply bD1 | refine bSt ?_ (IsS103.ge HI0.out) | refine bSt ?_ GE1146.out | refine bSt ?_ GE1147.out | refine bSt ?_ GE1148.out) | exact HB.out)) hb); replace HI0 := aK (IsS103.below (by repeat (first | (with_reducible first | exact HI0.out | apply IsS103.alloc | apply IsS103.drewN | apply IsS103.drew | apply IsS103.set_1 | apply IsS103.set_2 | refine IsS103.far ?_ NB0_1146.out _ | refine IsS103.far ?_ NB0_1147.out _ | refine IsS103.far ?_ NB0_1148.out _) | exact HI0.out)) hb); (try clear hb); (try clear hb2); (try clear hk); (try clear hi)) | ((with_reducible refine gate_dst (N := 23) rfl ?_); refine Kd.R_make (Kd.int .i64) _ 3 rfl (N := 23) rfl 42 _ _ rfl t1150 rfl rfl Tryd.underlying42 (.int .i64 0) 8 info3 rfl (by decide) (by omega) 0 (ok := fun _ => True) (okp := fun _ => True) rfl (fun _ hk => hk) trivial (of_decide_eq_true (by first | (with_reducible assumption) | assumption)) (Nat.le_trans (Nat.mul_le_mul_right _ (of_decide_eq_true (by first | (with_reducible assumption) | assumption) : t1150.toNat ≤ 35184372088832)) (by omega)) (Below.refl _ _) (Nat.le_refl _) ?_; intro v1152 w21 ho22 hb hg_ hnew_; clear hg_ hnew_; (first | rw [← Ny1151.out] at ho22 | (simp only [Int.reduceToNat] at ho22; rw [← Ny1151.out] at ho22)); have HO1153 := aK (Kd.R_lower ho22 (keep_size (w := w) (g := g) (row := none) (by repeat (first | (with_reducible first | exact HK.out | apply KeepBut.set_ | apply keep_drewN | apply keep_drew | apply keep_alloc | refine keep_far ?_ GW1146.out _ | refine keep_far ?_ GW1147.out _ | refine keep_far ?_ GW1148.out _) | exact HK.out)))); replace BK1146 := zB BK1146 hb; replace BK1147 := zB BK1147 hb; replace BK1148 := zB BK1148 hb; replace HK := aK (KeepBut.trans (by repeat (first | (with_reducible first | exact HK.out | apply KeepBut.set_ | apply keep_drewN | apply keep_drew | apply keep_alloc | refine keep_far ?_ GW1146.out _ | refine keep_far ?_ GW1147.out _ | refine keep_far ?_ GW1148.out _) | exact HK.out)) (KeepBut.of_below hb g none) (.inl rfl)); replace HB := aK (bSp (by repeat (first | (with_reducible first | exact HB.out | apply bAl | apply bDN | apply bD1 | refine bSt ?_ (IsS103.ge HI0.out) | refine bSt ?_ GE1146.out | refine bSt ?_ GE1147.out | refine bSt ?_ GE1148.out) | exact HB.out)) hb); replace HI0 := aK (IsS103.below (by repeat (first | (with_reducible first | exact HI0.out | apply IsS103.alloc | apply IsS103.drewN | apply IsS103.drew | apply IsS103.set_1 | apply IsS103.set_2 | refine IsS103.far ?_ NB0_1146.out _ | refine IsS103.far ?_ NB0_1147.out _ | refine IsS103.far ?_ NB0_1148.out _) | exact HI0.out)) hb); clear hb ho22))
   go_loopg [8] k (fun kq v8 w' => ∃ (x7_1 : List Int) (x8_1 : Int), v8 = .int .i64 x8_1 ∧ Aside0 (spec_l03Tree.l0 kq t1149 x7_1 x8_1 s0_0 s0_1 s0_2 a1_0 a1_1 a1_0 a1_1 0 = some (r1, r2, r3, r4, r5)) ∧ Aside0 (kq ≤ k) ∧ Aside0 (Kd.R (Kd.int .i64) 3 w' w.heap.size (fun _ => True) v1152 x7_1) ∧ Aside0 (w'.heap[gb1146]? = some (.cells #[.int .i64 a1_0, .int .i64 a1_1] 39 (0, 0))) ∧ Aside0 (w'.heap[gb1147]? = some (.cells #[.int .i64 0, .int .i64 0, .int .i64 0] 41 (0, 0))) ∧ Aside0 (w'.heap[gb1148]? = some (.cells #[.int .i64 a1_0, .int .i64 a1_1, .int .i64 0] 41 (0, 0))) ∧ Aside0 (IsS103 w0 w' g s0_0 s0_1 s0_2) ∧ Aside0 (KeepBut w w' g none) ∧ Aside0 (Below w0.heap.size w0 w'))
   case atStart => exact ⟨(y1151), (0), (by first | rfl | (simp; done) | (simp [*]; done)), H', ⟨Nat.le_refl _⟩, ⟨zA HO1153⟩, ⟨zK BK1146⟩, ⟨zK BK1147⟩, ⟨zK BK1148⟩, ⟨by repeat (first | (with_reducible first | exact HI0.out | apply IsS103.alloc | apply IsS103.drewN | apply IsS103.drew | apply IsS103.set_1 | apply IsS103.set_2 | refine IsS103.far ?_ NB0_1146.out _ | refine IsS103.far ?_ NB0_1147.out _ | refine IsS103.far ?_ NB0_1148.out _) | exact HI0.out)⟩, ⟨by repeat (first | (with_reducible first | exact HK.out | apply KeepBut.set_ | apply keep_drewN | apply keep_drew | apply keep_alloc | refine keep_far ?_ GW1146.out _ | refine keep_far ?_ GW1147.out _ | refine keep_far ?_ GW1148.out _) | exact HK.out)⟩, ⟨by repeat (first | (with_reducible first | exact HB.out | apply bAl | apply bDN | apply bD1 | refine bSt ?_ (IsS103.ge HI0.out) | refine bSt ?_ GE1146.out | refine bSt ?_ GE1147.out | refine bSt ?_ GE1148.out) | exact HB.out)⟩⟩
   case round =>
    clear H'
    try clear c1
    try clear p2
    try clear c4
    try clear c5
    try clear c5b0
    try clear c5b1
    try clear c6
    try clear c6b0
    try clear c6b1
    try clear c7
    try clear c8
    try clear c9
    try clear c10
    try clear c13
    try clear c14
    try clear c15
    try clear hcz11_0
    try clear hcz11_1
    try clear hcz16_0
    try clear hcz16_1
    try clear hcz16_2
    try clear hcz17_0
    try clear hcz17_1
    try clear hcz19_0
    try clear hcz19_1
    try clear hfz11_0
    try clear hfz11_1
    try clear hfz16_0
    try clear hfz16_1
    try clear hfz16_2
    try clear hfz17_0
    try clear hfz17_1
    try clear hfz19_0
    try clear hfz19_1
    obtain ⟨x7_1, x8_1, rfl, HA, HK1, HO_7, BK1146, BK1147, BK1148, HI0, HK, HB⟩ := hrel
    cases gk with
    | zero => exact absurd HA.out (by simp [spec_l03Tree.l0])
    | succ k1 =>
     have H := HA.out
     clear HA
     simp only [spec_l03Tree.l0] at H
     by_cases c23 : x8_1 < (x7_1.length : Int)
     ·rw [if_pos c23] at H
      have c23b0 : decide (x8_1 < (x7_1.length : Int)) = true := decide_eq_true c23
      clear c23
      by_cases c24 : 0 ≤ x8_1
      ·rw [if_pos c24] at H
       have c24b0 : decide (0 ≤ x8_1) = true := decide_eq_true c24
       clear c24
       obtain ⟨y1154, hy1154⟩ : ∃ y_ : List Int, y_ = (x7_1.set (x8_1 : Int).toNat x8_1) := ⟨_, rfl⟩
       replace H : (spec_l03Tree.l0 k1 t1149 y1154 (wrap64 (x8_1 + 1)) s0_0 s0_1 s0_2 a1_0 a1_1 a1_0 a1_1 0) = some (r1, r2, r3, r4, r5) := by first | (rw [hy1154]; with_reducible exact H) | (have H2_ := (Option.bind_some _ _).symm.trans H; rw [hy1154]; with_reducible exact H2_) | (have H2_ := (Option.bind_some _ _).symm.trans H; with_reducible exact H2_) | with_reducible exact H | (rw [hy1154]; exact H) | exact H
       have Ny1154 := aK hy1154
       clear hy1154
       have H' := aK H
       clear H
       obtain ⟨Ao26, co26, eo26⟩ := Kd.R_slice HO_7.out
       subst eo26
       have p25 : 0 ≤ (x8_1 : Int) := of_decide_eq_true (by first | (with_reducible assumption) | assumption)
       have q25 : (x8_1 : Int) < ((x7_1.length : Int) : Int) := of_decide_eq_true (by first | (with_reducible assumption) | assumption)
       obtain ⟨go25, co25, eo25, gb25, gl25, cl25, HG25⟩ := Kd.R_form HO_7.out (by omega)
       (first | cases eo25 | (injection eo25 with ea_ en_ ec_; (first | subst ea_ | (injection ea_ with ea_; subst ea_)); subst ec_; clear en_))
       have GB25 := aK gb25
       have GG25 := aK HG25
       clear gb25 gl25 HG25
       obtain ⟨hx25_0, hf25_0⟩ := Kd.R_celln 0 HO_7.out (x8_1 : Int) p25 q25
       replace p25 := eq_true p25
       replace q25 := eq_true q25
       have HP27 := Kd.R_putg HO_7.out (x8_1 : Int) x8_1
       go_wp2_with (first | ((with_reducible refine gate_store (t := 3) (p := 33) rfl ?_); refine store_event (t := 3) (p := 33) (v := ?vo_w28) (w1 := (wr.setCell ⟨go25, (x8_1 : Int).toNat, none⟩ (.int .i64 x8_1))) ?hg ?ho ?hn ?hr ?_; (case ho => rfl); (case hg => rfl); (case hn => rfl); (case hr => first | (go_simp; done) | (go_simp; rfl)); intro w28 hw; have hg : wr.grownBy w28 (some go25) := (by rw [hw]; exact HP27.2); have hp_ : Kd.R (Kd.int .i64) 3 w28 w.heap.size (fun _ => True) (.slice (some ⟨go25, 0, none⟩) x7_1.length co26) y1154 := (by rw [hw, Ny1154.out]; exact HP27.1); clear HP27; replace BK1146 := aK (blk_grown (g := gb1146) (o := .cells #[.int .i64 a1_0, .int .i64 a1_1] 39 (0, 0)) (zK BK1146) hg (Kd.R_ne HO_7.out BK1146.out (by decide))); replace BK1147 := aK (blk_grown (g := gb1147) (o := .cells #[.int .i64 0, .int .i64 0, .int .i64 0] 41 (0, 0)) (zK BK1147) hg (Kd.R_ne HO_7.out BK1147.out (by decide))); replace BK1148 := aK (blk_grown (g := gb1148) (o := .cells #[.int .i64 a1_0, .int .i64 a1_1, .int .i64 0] 41 (0, 0)) (zK BK1148) hg (Kd.R_ne HO_7.out BK1148.out (by decide))); replace HI0 := aK (IsS103.grown (show IsS103 w0 _ g s0_0 s0_1 s0_2 from by repeat (first | (with_reducible first | exact HI0.out | apply IsS103.alloc | apply IsS103.drewN | apply IsS103.drew | apply IsS103.set_1 | apply IsS103.set_2 | refine IsS103.far ?_ NB0_1146.out _ | refine IsS103.far ?_ NB0_1147.out _ | refine IsS103.far ?_ NB0_1148.out _) | exact HI0.out)) hg (IsS103.own_ne HI0.out HO_7.out (by decide))); replace HB := aK ((by rw [hw]; exact bSt (HB.out) (Nat.le_trans HL.out GB25.out) : Below w0.heap.size w0 w28)); replace HK := aK (KeepBut.trans (by repeat (first | (with_reducible first | exact HK.out | apply KeepBut.set_ | apply keep_drewN | apply keep_drew | apply keep_alloc | refine keep_far ?_ GW1146.out _ | refine keep_far ?_ GW1147.out _ | refine keep_far ?_ GW1148.out _) | exact HK.out)) (KeepBut.of_grown hg g) (Kd.R_base2 HO_7.out)); replace HO_7 := aK (hp_); clear hg hw hp_))
       go_roundg k1
       case measure => have := HK1.out; omega
       case rel => exact ⟨(y1154), (wrap64 (x8_1 + 1)), (by first | rfl | (simp; done) | (simp [*]; done)), H', ⟨by have := HK1.out; omega⟩, ⟨zA HO_7⟩, ⟨zK BK1146⟩, ⟨zK BK1147⟩, ⟨zK BK1148⟩, ⟨by repeat (first | (with_reducible first | exact HI0.out | apply IsS103.alloc | apply IsS103.drewN | apply IsS103.drew | apply IsS103.set_1 | apply IsS103.set_2 | refine IsS103.far ?_ NB0_1146.out _ | refine IsS103.far ?_ NB0_1147.out _ | refine IsS103.far ?_ NB0_1148.out _) | exact HI0.out)⟩, ⟨by repeat (first | (with_reducible first | exact HK.out | apply KeepBut.set_ | apply keep_drewN | apply keep_drew | apply keep_alloc | refine keep_far ?_ GW1146.out _ | refine keep_far ?_ GW1147.out _ | refine keep_far ?_ GW1148.out _) | exact HK.out)⟩, ⟨by repeat (first | (with_reducible first | exact HB.out | apply bAl | apply bDN | apply bD1 | refine bSt ?_ (IsS103.ge HI0.out) | refine bSt ?_ GE1146.out | refine bSt ?_ GE1147.out | refine bSt ?_ GE1148.out) | exact HB.out)⟩⟩
      ·rw [if_neg c24] at H
       exact absurd H (by simp)
     ·rw [if_neg c23] at H
      have c23b0 : decide (x8_1 < (x7_1.length : Int)) = false := decide_eq_false c23
      clear c23
      by_cases c29 : t1149 = 0
      ·rw [if_pos c29] at H
       have c29b0 : (t1149 == 0) = true := beq_iff_eq.mpr c29
       have c29b1 : (t1149 != 0) = false := bne_eq_false_iff_eq.mpr c29
       clear c29
       simp only [Option.some.injEq, Prod.mk.injEq] at H
       obtain ⟨rfl, rfl, rfl, rfl, rfl⟩ := H
       obtain ⟨Ao30, co30, eo30⟩ := Kd.R_slice HO_7.out
       subst eo30
       have hnb31 := NB1148_1146.out
       have hnc31 := NB1146_1148.out
       have hnb32 := NB1148_1147.out
       have hnc32 := NB1147_1148.out
       have hnb33 := NB1148_0.out
       have hnc33 := NB0_1148.out
       obtain ⟨hcz34_0, hcz34_1, hcz34_2, hfz34_0, hfz34_1, hfz34_2⟩ := cl3 BK1148.out
       have hnb35 := NB1147_1146.out
       have hnc35 := NB1146_1147.out
       have hnb36 := NB1147_0.out
       have hnc36 := NB0_1147.out
       obtain ⟨hcz37_0, hcz37_1, hcz37_2, hfz37_0, hfz37_1, hfz37_2⟩ := cl3 BK1147.out
       go_wp2
       refine bodyPost_ret (results_cell_row rfl _ _ gb1147 41 #[.int .i64 a1_0, .int .i64 a1_1, .int .i64 0] (0, 0) _ rfl (by (with_reducible repeat (first | refine kDN ?_ _ | refine kD ?_ | refine kA ?_ _)); refine blk_put (cs := #[.int .i64 a1_0, .int .i64 a1_1, .int .i64 0]) ?_ 2 _ rfl; (with_reducible repeat (first | refine kDN ?_ _ | refine kD ?_ | refine kA ?_ _)); refine blk_put (cs := #[.int .i64 a1_0, .int .i64 0, .int .i64 0]) ?_ 1 _ rfl; (with_reducible repeat (first | refine kDN ?_ _ | refine kD ?_ | refine kA ?_ _)); refine blk_put (cs := #[.int .i64 0, .int .i64 0, .int .i64 0]) ?_ 0 _ rfl; (with_reducible repeat (first | refine kDN ?_ _ | refine kD ?_ | refine kA ?_ _)); exact BK1147.out) Tryd.underlying41 rfl (by kernel_rfl)) rfl ?_
       exact ⟨by first | rfl | (simp [errW_none, errW_some] <;> rfl) | (simp [*, errW_none, errW_some] <;> rfl), by repeat (first | (with_reducible first | exact HI0.out | apply IsS103.alloc | apply IsS103.drewN | apply IsS103.drew | apply IsS103.set_1 | apply IsS103.set_2 | refine IsS103.far ?_ NB0_1146.out _ | refine IsS103.far ?_ NB0_1147.out _ | refine IsS103.far ?_ NB0_1148.out _) | exact HI0.out), by repeat (first | (with_reducible first | exact HB.out | apply bAl | apply bDN | apply bD1 | refine bSt ?_ (IsS103.ge HI0.out) | refine bSt ?_ GE1146.out | refine bSt ?_ GE1147.out | refine bSt ?_ GE1148.out) | exact HB.out), by repeat (first | (with_reducible first | exact HK.out | apply KeepBut.set_ | apply keep_drewN | apply keep_drew | apply keep_alloc | refine keep_far ?_ GW1146.out _ | refine keep_far ?_ GW1147.out _ | refine keep_far ?_ GW1148.out _) | exact HK.out)⟩
      ·rw [if_neg c29] at H
       have c29b0 : (t1149 == 0) = false := beq_eq_false_iff_ne.mpr c29
       have c29b1 : (t1149 != 0) = true := bne_iff_ne.mpr c29
       replace H := Option.bind_eq_some_iff.mp H
       obtain ⟨⟨t1155, t1156, t1157⟩, A380, H⟩ := H
       replace H : ((spec_l01Below.f s0_0 t1156 t1157 t1149).bind fun bt1158 => (spec_l03Tree.l1 k1 t1149 x7_1 t1155 (wrap64 (1 + bt1158.1)) s0_0 bt1158.2.1 bt1158.2.2 a1_0 a1_1 a1_0 a1_1 0)) = some (r1, r2, r3, r4, r5) := H
       have A38 := aK A380
       clear A380
       replace H := Option.bind_eq_some_iff.mp H
       obtain ⟨⟨t1158, t1159, t1160⟩, A390, H⟩ := H
       replace H : (spec_l03Tree.l1 k1 t1149 x7_1 t1155 (wrap64 (1 + t1158)) s0_0 t1159 t1160 a1_0 a1_1 a1_0 a1_1 0) = some (r1, r2, r3, r4, r5) := H
       have A39 := aK A390
       clear A390
       have H' := aK H
       clear H
       obtain ⟨Ao40, co40, eo40⟩ := Kd.R_slice HO_7.out
       subst eo40
       go_wp2_with (first | ((with_reducible refine gate_callee (f := 71) rfl ?_); refine goesL_ (some 39) rfl rfl Tryd.func71 (by kernel_rfl) rfl #[.pointer (some ⟨g, 0, none⟩), .int .i64 t1149] rfl zD ?_; (with_reducible refine (spec_l01Below.calls g s0_0 s0_1 s0_2 t1149 t1155 t1156 t1157 w0 _ ?side1 ?side2 A38.out).mono ?_); (case side1 => repeat (first | (with_reducible first | exact HI0.out | apply IsS103.alloc | apply IsS103.drewN | apply IsS103.drew | apply IsS103.set_1 | apply IsS103.set_2 | refine IsS103.far ?_ NB0_1146.out _ | refine IsS103.far ?_ NB0_1147.out _ | refine IsS103.far ?_ NB0_1148.out _) | exact HI0.out)); (case side2 => repeat (first | (with_reducible first | exact HB.out | apply bAl | apply bDN | apply bD1 | refine bSt ?_ (IsS103.ge HI0.out) | refine bSt ?_ GE1146.out | refine bSt ?_ GE1147.out | refine bSt ?_ GE1148.out) | exact HB.out)); rintro e w41 ⟨rfl, hi, hb, hk⟩; refine ⟨_, rfl, ?_⟩; replace HO_7 := aK (Kd.R_mono (Kd.R_keep (IsS103.apart (show IsS103 w0 _ g s0_0 s0_1 s0_2 from by repeat (first | (with_reducible first | exact HI0.out | apply IsS103.alloc | apply IsS103.drewN | apply IsS103.drew | apply IsS103.set_1 | apply IsS103.set_2 | refine IsS103.far ?_ NB0_1146.out _ | refine IsS103.far ?_ NB0_1147.out _ | refine IsS103.far ?_ NB0_1148.out _) | exact HI0.out)) (zA HO_7) (by decide)) hk (fun _ h => h.2)) (fun _ h => h.1)); replace BK1146 := aK (KeepBut.blk hk (g' := gb1146) (o := .cells #[.int .i64 a1_0, .int .i64 a1_1] 39 (0, 0)) (zK BK1146) NB1146_0.out (by simp)); replace BK1147 := aK (KeepBut.blk hk (g' := gb1147) (o := .cells #[.int .i64 0, .int .i64 0, .int .i64 0] 41 (0, 0)) (zK BK1147) NB1147_0.out (by simp)); replace BK1148 := aK (KeepBut.blk hk (g' := gb1148) (o := .cells #[.int .i64 a1_0, .int .i64 a1_1, .int .i64 0] 41 (0, 0)) (zK BK1148) NB1148_0.out (by simp)); replace HK := aK (KeepBut.trans (by repeat (first | (with_reducible first | exact HK.out | apply KeepBut.set_ | apply keep_drewN | apply keep_drew | apply keep_alloc | refine keep_far ?_ GW1146.out _ | refine keep_far ?_ GW1147.out _ | refine keep_far ?_ GW1148.out _) | exact HK.out)) hk (.inl rfl)); replace HB := aK (hb); replace HI0 := aK (hi); (try clear hb); (try clear hb2); (try clear hk); (try clear hi)) | ((with_reducible refine gate_callee (f := 71) rfl ?_); refine goesL_ (some 42) rfl rfl Tryd.func71 (by kernel_rfl) rfl #[.pointer (some ⟨g, 0, none⟩), .int .i64 t1149] rfl zD ?_; (with_reducible refine (spec_l01Below.calls g s0_0 t1156 t1157 t1149 t1158 t1159 t1160 w0 _ ?side1 ?side2 A39.out).mono ?_); (case side1 => repeat (first | (with_reducible first | exact HI0.out | apply IsS103.alloc | apply IsS103.drewN | apply IsS103.drew | apply IsS103.set_1 | apply IsS103.set_2 | refine IsS103.far ?_ NB0_1146.out _ | refine IsS103.far ?_ NB0_1147.out _ | refine IsS103.far ?_ NB0_1148.out _) | exact HI0.out)); (case side2 => repeat (first | (with_reducible first | exact HB.out | apply bAl | apply bDN | apply bD1 | refine bSt ?_ (IsS103.ge HI0.out) | refine bSt ?_ GE1146.out | refine bSt ?_ GE1147.out | refine bSt ?_ GE1148.out) | exact HB.out)); rintro e w42 ⟨rfl, hi, hb, hk⟩; refine ⟨_, rfl, ?_⟩; replace HO_7 := aK (Kd.R_mono (Kd.R_keep (IsS103.apart (show IsS103 w0 _ g s0_0 t1156 t1157 from by repeat (first | (with_reducible first | exact HI0.out | apply IsS103.alloc | apply IsS103.drewN | apply IsS103.drew | apply IsS103.set_1 | apply IsS103.set_2 | refine IsS103.far ?_ NB0_1146.out _ | refine IsS103.far ?_ NB0_1147.out _ | refine IsS103.far ?_ NB0_1148.out _) | exact HI0.out)) (zA HO_7) (by decide)) hk (fun _ h => h.2)) (fun _ h => h.1)); replace BK1146 := aK (KeepBut.blk hk (g' := gb1146) (o := .cells #[.int .i64 a1_0, .int .i64 a1_1] 39 (0, 0)) (zK BK1146) NB1146_0.out (by simp)); replace BK1147 := aK (KeepBut.blk hk (g' := gb1147) (o := .cells #[.int .i64 0, .int .i64 0, .int .i64 0] 41 (0, 0)) (zK BK1147) NB1147_0.out (by simp)); replace BK1148 := aK (KeepBut.blk hk (g' := gb1148) (o := .cells #[.int .i64 a1_0, .int .i64 a1_1, .int .i64 0] 41 (0, 0)) (zK BK1148) NB1148_0.out (by simp)); replace HK := aK (KeepBut.trans (by repeat (first | (with_reducible first | exact HK.out | apply KeepBut.set_ | apply keep_drewN | apply keep_drew | apply keep_alloc | refine keep_far ?_ GW1146.out _ | refine keep_far ?_ GW1147.out _ | refine keep_far ?_ GW1148.out _) | exact HK.out)) hk (.inl rfl)); replace HB := aK (hb); replace HI0 := aK (hi); (try clear hb); (try clear hb2); (try clear hk); (try clear hi)))
       go_loopg [10] k1 (fun kq v10 w' => ∃ (x10_2 : Int), v10 = .int .i64 x10_2 ∧ Aside0 (spec_l03Tree.l1 kq t1149 x7_1 t1155 x10_2 s0_0 t1159 t1160 a1_0 a1_1 a1_0 a1_1 0 = some (r1, r2, r3, r4, r5)) ∧ Aside0 (kq ≤ k1) ∧ Aside0 (Kd.R (Kd.int .i64) 3 w' w.heap.size (fun _ => True) (.slice Ao40 x7_1.length co40) x7_1) ∧ Aside0 (w'.heap[gb1146]? = some (.cells #[.int .i64 a1_0, .int .i64 a1_1] 39 (0, 0))) ∧ Aside0 (w'.heap[gb1147]? = some (.cells #[.int .i64 0, .int .i64 0, .int .i64 0] 41 (0, 0))) ∧ Aside0 (w'.heap[gb1148]? = some (.cells #[.int .i64 a1_0, .int .i64 a1_1, .int .i64 0] 41 (0, 0))) ∧ Aside0 (IsS103 w0 w' g s0_0 t1159 t1160) ∧ Aside0 (KeepBut w w' g none) ∧ Aside0 (Below w0.heap.size w0 w'))
       case atStart => exact ⟨(wrap64 (1 + t1158)), (by first | rfl | (simp; done) | (simp [*]; done)), H', ⟨Nat.le_refl _⟩, ⟨zA HO_7⟩, ⟨zK BK1146⟩, ⟨zK BK1147⟩, ⟨zK BK1148⟩, ⟨by repeat (first | (with_reducible first | exact HI0.out | apply IsS103.alloc | apply IsS103.drewN | apply IsS103.drew | apply IsS103.set_1 | apply IsS103.set_2 | refine IsS103.far ?_ NB0_1146.out _ | refine IsS103.far ?_ NB0_1147.out _ | refine IsS103.far ?_ NB0_1148.out _) | exact HI0.out)⟩, ⟨by repeat (first | (with_reducible first | exact HK.out | apply KeepBut.set_ | apply keep_drewN | apply keep_drew | apply keep_alloc | refine keep_far ?_ GW1146.out _ | refine keep_far ?_ GW1147.out _ | refine keep_far ?_ GW1148.out _) | exact HK.out)⟩, ⟨by repeat (first | (with_reducible first | exact HB.out | apply bAl | apply bDN | apply bD1 | refine bSt ?_ (IsS103.ge HI0.out) | refine bSt ?_ GE1146.out | refine bSt ?_ GE1147.out | refine bSt ?_ GE1148.out) | exact HB.out)⟩⟩
       case round =>
        clear H'
        try clear c1
        try clear c2
        try clear p2
        try clear q2
        try clear hx2
        try clear hf2
        try clear c3
        try clear c4
        try clear c5
        try clear c5b0
        try clear c5b1
        try clear c6
        try clear c6b0
        try clear c6b1
        try clear p6
        try clear c7
        try clear c8
        try clear c9
        try clear c10
        try clear c13
        try clear c14
        try clear c15
        try clear c23
        try clear c23b0
        try clear c24
        try clear c24b0
        try clear p25
        try clear q25
        try clear hx25
        try clear hf25
        try clear c29
        try clear c29b0
        try clear c29b1
        try clear c31
        try clear c32
        try clear c33
        try clear c35
        try clear c36
        try clear hcz11_0
        try clear hcz11_1
        try clear hcz16_0
        try clear hcz16_1
        try clear hcz16_2
        try clear hcz17_0
        try clear hcz17_1
        try clear hcz19_0
        try clear hcz19_1
        try clear hcz34_0
        try clear hcz34_1
        try clear hcz34_2
        try clear hcz37_0
        try clear hcz37_1
        try clear hcz37_2
        try clear hfz11_0
        try clear hfz11_1
        try clear hfz16_0
        try clear hfz16_1
        try clear hfz16_2
        try clear hfz17_0
        try clear hfz17_1
        try clear hfz19_0
        try clear hfz19_1
        try clear hfz34_0
        try clear hfz34_1
        try clear hfz34_2
        try clear hfz37_0
        try clear hfz37_1
        try clear hfz37_2
        try clear hx25_0
        try clear p2
        try clear p25
        try clear q25
        obtain ⟨x10_2, rfl, HA, HK2, HO_7, BK1146, BK1147, BK1148, HI0, HK, HB⟩ := hrel
        cases gk with
        | zero => exact absurd HA.out (by simp [spec_l03Tree.l1])
        | succ k2 =>
         have H := HA.out
         clear HA
         simp only [spec_l03Tree.l1] at H
         replace H := Option.bind_eq_some_iff.mp H
         obtain ⟨t1161, A430, H⟩ := H
         replace H : (if t1161 = true then (spec_l03Tree.l1 k2 t1149 x7_1 t1155 (wrap64 (x10_2 + 1)) s0_0 t1159 t1160 a1_0 a1_1 a1_0 a1_1 0) else (spec_l03Tree.l2 k2 t1149 x7_1 t1155 x10_2 0 s0_0 t1159 t1160 a1_0 a1_1 a1_0 a1_1 0)) = some (r1, r2, r3, r4, r5) := H
         have A43 := aK A430
         clear A430
         by_cases c44 : t1161 = true
         ·subst c44
          have H1 : (spec_l03Tree.l1 k2 t1149 x7_1 t1155 (wrap64 (x10_2 + 1)) s0_0 t1159 t1160 a1_0 a1_1 a1_0 a1_1 0) = some (r1, r2, r3, r4, r5) := by rw [if_pos rfl] at H; exact H
          clear H
          have H := H1
          clear H1
          have H' := aK H
          clear H
          go_wp2_with (first | ((with_reducible refine gate_callee (f := 107) rfl ?_); refine goesL_ (some 46) rfl rfl Tryd.func107 (by kernel_rfl) rfl #[.int .i64 x10_2, .int .i64 t1149] rfl zD ?_; (with_reducible refine (spec_l03Common.calls k2 x10_2 t1149 true _ A43.out).mono ?_); rintro e w' ⟨rfl, ⟨nd, rfl⟩⟩; refine ⟨_, rfl, ?_⟩))
          go_roundg k2
          case measure => have := HK1.out; have := HK2.out; omega
          case rel => exact ⟨(wrap64 (x10_2 + 1)), (by first | rfl | (simp; done) | (simp [*]; done)), H', ⟨by have := HK1.out; have := HK2.out; omega⟩, ⟨zA HO_7⟩, ⟨zK BK1146⟩, ⟨zK BK1147⟩, ⟨zK BK1148⟩, ⟨by repeat (first | (with_reducible first | exact HI0.out | apply IsS103.alloc | apply IsS103.drewN | apply IsS103.drew | apply IsS103.set_1 | apply IsS103.set_2 | refine IsS103.far ?_ NB0_1146.out _ | refine IsS103.far ?_ NB0_1147.out _ | refine IsS103.far ?_ NB0_1148.out _) | exact HI0.out)⟩, ⟨by repeat (first | (with_reducible first | exact HK.out | apply KeepBut.set_ | apply keep_drewN | apply keep_drew | apply keep_alloc | refine keep_far ?_ GW1146.out _ | refine keep_far ?_ GW1147.out _ | refine keep_far ?_ GW1148.out _) | exact HK.out)⟩, ⟨by repeat (first | (with_reducible first | exact HB.out | apply bAl | apply bDN | apply bD1 | refine bSt ?_ (IsS103.ge HI0.out) | refine bSt ?_ GE1146.out | refine bSt ?_ GE1147.out | refine bSt ?_ GE1148.out) | exact HB.out)⟩⟩
         ·replace c44 := Bool.eq_false_iff.mpr c44
          subst c44
          have H1 : (spec_l03Tree.l2 k2 t1149 x7_1 t1155 x10_2 0 s0_0 t1159 t1160 a1_0 a1_1 a1_0 a1_1 0) = some (r1, r2, r3, r4, r5) := by rw [if_neg (show ¬ (false = true) by decide)] at H; exact H
          clear H
          have H := H1
          clear H1
          have H' := aK H
          clear H
          go_wp2_with (first | ((with_reducible refine gate_callee (f := 107) rfl ?_); refine goesL_ (some 46) rfl rfl Tryd.func107 (by kernel_rfl) rfl #[.int .i64 x10_2, .int .i64 t1149] rfl zD ?_; (with_reducible refine (spec_l03Common.calls k2 x10_2 t1149 false _ A43.out).mono ?_); rintro e w' ⟨rfl, ⟨nd, rfl⟩⟩; refine ⟨_, rfl, ?_⟩))
          go_loopg [11] k2 (fun kq v11 w' => ∃ (x7_3 : List Int) (x11_3 : Int) (x1149002_3 : Int), v11 = .int .i64 x11_3 ∧ Aside0 (spec_l03Tree.l2 kq t1149 x7_3 t1155 x10_2 x11_3 s0_0 t1159 t1160 a1_0 a1_1 a1_0 a1_1 x1149002_3 = some (r1, r2, r3, r4, r5)) ∧ Aside0 (kq ≤ k2) ∧ Aside0 (Kd.R (Kd.int .i64) 3 w' w.heap.size (fun _ => True) (.slice Ao40 x7_1.length co40) x7_3) ∧ Aside0 (w'.heap[gb1146]? = some (.cells #[.int .i64 a1_0, .int .i64 a1_1] 39 (0, 0))) ∧ Aside0 (w'.heap[gb1147]? = some (.cells #[.int .i64 0, .int .i64 0, .int .i64 0] 41 (0, 0))) ∧ Aside0 (w'.heap[gb1148]? = some (.cells #[.int .i64 a1_0, .int .i64 a1_1, .int .i64 x1149002_3] 41 (0, 0))) ∧ Aside0 (IsS103 w0 w' g s0_0 t1159 t1160) ∧ Aside0 (KeepBut w w' g none) ∧ Aside0 (Below w0.heap.size w0 w'))
          case atStart => exact ⟨(x7_1), (0), (0), (by first | rfl | (simp; done) | (simp [*]; done)), H', ⟨Nat.le_refl _⟩, ⟨zA HO_7⟩, ⟨zK BK1146⟩, ⟨zK BK1147⟩, ⟨zK BK1148⟩, ⟨by repeat (first | (with_reducible first | exact HI0.out | apply IsS103.alloc | apply IsS103.drewN | apply IsS103.drew | apply IsS103.set_1 | apply IsS103.set_2 | refine IsS103.far ?_ NB0_1146.out _ | refine IsS103.far ?_ NB0_1147.out _ | refine IsS103.far ?_ NB0_1148.out _) | exact HI0.out)⟩, ⟨by repeat (first | (with_reducible first | exact HK.out | apply KeepBut.set_ | apply keep_drewN | apply keep_drew | apply keep_alloc | refine keep_far ?_ GW1146.out _ | refine keep_far ?_ GW1147.out _ | refine keep_far ?_ GW1148.out _) | exact HK.out)⟩, ⟨by repeat (first | (with_reducible first | exact HB.out | apply bAl | apply bDN | apply bD1 | refine bSt ?_ (IsS103.ge HI0.out) | refine bSt ?_ GE1146.out | refine bSt ?_ GE1147.out | refine bSt ?_ GE1148.out) | exact HB.out)⟩⟩
          case round =>
           clear H'
           try clear c1
           try clear c2
           try clear p2
           try clear q2
           try clear hx2
           try clear hf2
           try clear c3
           try clear c4
           try clear c5
           try clear c5b0
           try clear c5b1
           try clear c6
           try clear c6b0
           try clear c6b1
           try clear p6
           try clear c7
           try clear c8
           try clear c9
           try clear c10
           try clear c13
           try clear c14
           try clear c15
           try clear c23
           try clear c23b0
           try clear c24
           try clear c24b0
           try clear p25
           try clear q25
           try clear hx25
           try clear hf25
           try clear c29
           try clear c29b0
           try clear c29b1
           try clear c31
           try clear c32
           try clear c33
           try clear c35
           try clear c36
           try clear c44
           try clear hcz11_0
           try clear hcz11_1
           try clear hcz16_0
           try clear hcz16_1
           try clear hcz16_2
           try clear hcz17_0
           try clear hcz17_1
           try clear hcz19_0
           try clear hcz19_1
           try clear hcz34_0
           try clear hcz34_1
           try clear hcz34_2
           try clear hcz37_0
           try clear hcz37_1
           try clear hcz37_2
           try clear hfz11_0
           try clear hfz11_1
           try clear hfz16_0
           try clear hfz16_1
           try clear hfz16_2
           try clear hfz17_0
           try clear hfz17_1
           try clear hfz19_0
           try clear hfz19_1
           try clear hfz34_0
           try clear hfz34_1
           try clear hfz34_2
           try clear hfz37_0
           try clear hfz37_1
           try clear hfz37_2
           try clear hx25_0
           try clear p2
           try clear p25
           try clear p6
           try clear q2
           try clear q25
           obtain ⟨x7_3, x11_3, x1149002_3, rfl, HA, HK3, HO_7, BK1146, BK1147, BK1148, HI0, HK, HB⟩ := hrel
           have hl7_3 := (Kd.R_reads' HO_7.out).1
           rw [hl7_3] at HO_7
           (try simp only [hl7_3])
           (try simp only [hl7_3] at BK1146)
           (try simp only [hl7_3] at BK1147)
           (try simp only [hl7_3] at BK1148)
           cases gk with
           | zero => exact absurd HA.out (by simp [spec_l03Tree.l2])
           | succ k3 =>
            have H := HA.out
            clear HA
            simp only [spec_l03Tree.l2] at H
            by_cases c45 : x11_3 < t1149
            ·rw [if_pos c45] at H
             have c45b0 : decide (x11_3 < t1149) = true := decide_eq_true c45
             clear c45
             by_cases c46 : t1149 = 0
             ·rw [if_pos c46] at H
              exact absurd H (by simp)
             ·rw [if_neg c46] at H
              have c46b0 : (t1149 == 0) = false := beq_eq_false_iff_ne.mpr c46
              have c46b1 : (t1149 != 0) = true := bne_iff_ne.mpr c46
              replace H := Option.bind_eq_some_iff.mp H
              obtain ⟨⟨t1162, t1163⟩, A470, H⟩ := H
              replace H : (if 0 ≤ t1162 then (if t1162 < (x7_3.length : Int) then (if 0 ≤ t1163 then (if t1163 < (x7_3.length : Int) then (if (rd x7_3 t1162) = (rd x7_3 t1163) then (spec_l03Tree.l2 k3 t1149 x7_3 t1155 x10_2 (wrap64 (x11_3 + 1)) s0_0 t1159 t1160 a1_0 a1_1 a1_0 a1_1 x1149002_3) else (if 0 ≤ (Int.tmod (wrap64 (t1155 + (wrap64 (x11_3 * x10_2)))) t1149) then (spec_l03Tree.l3 k3 t1149 x7_3 t1155 x10_2 x11_3 t1162 (rd x7_3 t1163) 0 s0_0 t1159 t1160 a1_0 a1_1 a1_0 a1_1 (Go.bits .or .i64 x1149002_3 (shl .i64 1 (Int.tmod (wrap64 (t1155 + (wrap64 (x11_3 * x10_2)))) t1149)))) else (none))) else (none)) else (none)) else (none)) else (none)) = some (r1, r2, r3, r4, r5) := H
              have A47 := aK A470
              clear A470
              by_cases c48 : 0 ≤ t1162
              ·rw [if_pos c48] at H
               have c48b0 : decide (0 ≤ t1162) = true := decide_eq_true c48
               clear c48
               by_cases c49 : t1162 < (x7_3.length : Int)
               ·rw [if_pos c49] at H
                have c49b0 : decide (t1162 < (x7_3.length : Int)) = true := decide_eq_true c49
                clear c49
                by_cases c50 : 0 ≤ t1163
                ·rw [if_pos c50] at H
                 have c50b0 : decide (0 ≤ t1163) = true := decide_eq_true c50
                 clear c50
                 by_cases c51 : t1163 < (x7_3.length : Int)
                 ·rw [if_pos c51] at H
                  have c51b0 : decide (t1163 < (x7_3.length : Int)) = true := decide_eq_true c51
                  clear c51
                  by_cases c52 : (rd x7_3 t1162) = (rd x7_3 t1163)
                  ·rw [if_pos c52] at H
                   have c52b0 : ((rd x7_3 t1162) == (rd x7_3 t1163)) = true := beq_iff_eq.mpr c52
                   have c52b1 : ((rd x7_3 t1162) != (rd x7_3 t1163)) = false := bne_eq_false_iff_eq.mpr c52
                   clear c52
                   have H' := aK H
                   clear H
                   have hnb53 := NB1146_1147.out
                   have hnc53 := NB1147_1146.out
                   have hnb54 := NB1146_1148.out
                   have hnc54 := NB1148_1146.out
                   have hnb55 := NB1146_0.out
                   have hnc55 := NB0_1146.out
                   obtain ⟨hcz56_0, hcz56_1, hfz56_0, hfz56_1⟩ := cl2 BK1146.out
                   try go_wp2_with (first | ((with_reducible refine gate_callee (f := 108) rfl ?_); refine goesL_ (some 64) rfl rfl Tryd.func108 (by kernel_rfl) rfl #[.agg #[.int .i64 a1_0, .int .i64 a1_1], .int .i64 (Int.tmod (wrap64 (t1155 + (wrap64 (x11_3 * x10_2)))) t1149)] rfl zD ?_; (with_reducible refine (spec_EndsOf.calls a1_0 a1_1 (Int.tmod (wrap64 (t1155 + (wrap64 (x11_3 * x10_2)))) t1149) t1162 t1163 _ A47.out).mono ?_); rintro e w57 ⟨rfl, hb⟩; refine ⟨_, rfl, ?_⟩; replace HO_7 := aK (Kd.R_below (zA HO_7) hb); replace BK1146 := zB BK1146 hb; replace BK1147 := zB BK1147 hb; replace BK1148 := zB BK1148 hb; replace HK := aK (KeepBut.trans (by repeat (first | (with_reducible first | exact HK.out | apply KeepBut.set_ | apply keep_drewN | apply keep_drew | apply keep_alloc | refine keep_far ?_ GW1146.out _ | refine keep_far ?_ GW1147.out _ | refine keep_far ?_ GW1148.out _) | exact HK.out)) (KeepBut.of_below hb g none) (.inl rfl)); replace HB := aK (bSp (by repeat (first | (with_reducible first | exact HB.out | apply bAl | apply bDN | apply bD1 | refine bSt ?_ (IsS103.ge HI0.out) | refine bSt ?_ GE1146.out | refine bSt ?_ GE1147.out | refine bSt ?_ GE1148.out) | exact HB.out)) hb); replace HI0 := aK (IsS103.below (by repeat (first | (with_reducible first | exact HI0.out | apply IsS103.alloc | apply IsS103.drewN | apply IsS103.drew | apply IsS103.set_1 | apply IsS103.set_2 | refine IsS103.far ?_ NB0_1146.out _ | refine IsS103.far ?_ NB0_1147.out _ | refine IsS103.far ?_ NB0_1148.out _) | exact HI0.out)) hb); (try clear hb); (try clear hb2); (try clear hk); (try clear hi)))
                   have n0_ := aK (Kd.R_drew HO_7.out)
                   have n1_ := aK (kD BK1146.out)
                   have n2_ := aK (kD BK1147.out)
                   have n3_ := aK (kD BK1148.out)
                   have n4_ := aK (IsS103.drew HI0.out)
                   have n5_ := aK (keep_drew HK.out)
                   have n6_ := aK (bD1 HB.out)
                   clear HO_7
                   clear BK1146
                   clear BK1147
                   clear BK1148
                   clear HI0
                   clear HK
                   clear HB
                   have HO_7 := n0_
                   have BK1146 := n1_
                   have BK1147 := n2_
                   have BK1148 := n3_
                   have HI0 := n4_
                   have HK := n5_
                   have HB := n6_
                   clear n0_ n1_ n2_ n3_ n4_ n5_ n6_
                   have p1164 : 0 ≤ (t1162 : Int) := of_decide_eq_true (by first | (with_reducible assumption) | assumption)
                   have q1164 : t1162 < (x7_3.length : Int) := of_decide_eq_true (by first | (with_reducible assumption) | assumption)
                   obtain ⟨ad1164, e1164, hx1164_0⟩ := Kd.at_int (Kd.R_reads' HO_7.out).2.2 t1162 p1164 q1164
                   cases e1164
                   replace p1164 := eq_true p1164
                   replace q1164 := eq_true q1164
                   have p1165 : 0 ≤ (t1163 : Int) := of_decide_eq_true (by first | (with_reducible assumption) | assumption)
                   have q1165 : t1163 < (x7_3.length : Int) := of_decide_eq_true (by first | (with_reducible assumption) | assumption)
                   obtain ⟨ad1165, e1165, hx1165_0⟩ := Kd.at_int (Kd.R_reads' HO_7.out).2.2 t1163 p1165 q1165
                   obtain rfl : ad1164 = ad1165 := (by injection e1165)
                   replace p1165 := eq_true p1165
                   replace q1165 := eq_true q1165
                   refine start_ (n := 9) (S := fun w' => w'.cell? (ad1164.add (t1162).toNat) = some (.int .i64 (rd x7_3 t1162)) ∧ w'.cell? (ad1164.add (t1163).toNat) = some (.int .i64 (rd x7_3 t1163))) (ds := []) #[bN,bN,bN,bN,bN,bN,bN,bN,bN] (by kernel_rfl) rfl rfl ⟨hx1164_0, hx1165_0⟩ (fun hHeld => ?_); refine with_tabW spec_l03Tree.tab19 spec_l03Tree.bits19 (fun HT_ HW_ => ?_)
                   generalize w57.drew = w58 at HO_7 BK1146 BK1147 BK1148 HI0 HK HB hx1164_0 hx1165_0 hHeld ⊢
                   refine pure_ (i := 0) (N := some 67) (v := ?_) (a' := ?_) #[bY,bN,bN,bN,bN,bN,bN,bN,bN] rfl rfl (any_of HT_.out (by kernel_rfl)) (fun _ _ _ h => h) (Or.inl ⟨by rfl, ?_⟩) ?_ ?_
                   rotate_left
                   ·intro w'
                    go_simp
                    with_reducible rfl
                   rotate_left
                   ·simp only [Act.put, sTA, sZ, sS, i64_w, i32_w]
                    rfl
                   refine pure_ (i := 1) (N := some 68) (v := ?_) (a' := ?_) #[bY,bY,bN,bN,bN,bN,bN,bN,bN] rfl rfl (any_of HT_.out (by kernel_rfl)) (fun _ _ _ h => h) (Or.inl ⟨by rfl, ?_⟩) ?_ ?_
                   rotate_left
                   ·intro w'
                    go_simp
                    with_reducible rfl
                   rotate_left
                   ·simp only [Act.put, sTA, sZ, sS, i64_w, i32_w]
                    rfl
                   refine pure_ (i := 2) (N := some 69) (v := ?_) (a' := ?_) #[bY,bY,bY,bN,bN,bN,bN,bN,bN] rfl rfl (any_of HT_.out (by kernel_rfl)) (fun _ _ _ h => h) (Or.inl ⟨by rfl, ?_⟩) ?_ ?_
                   rotate_left
                   ·intro w'
                    go_simp
                    with_reducible rfl
                   rotate_left
                   ·simp only [Act.put, sTA, sZ, sS, i64_w, i32_w]
                    rfl
                   refine pure_ (i := 4) (N := some 71) (v := ?_) (a' := ?_) #[bY,bY,bY,bN,bY,bN,bN,bN,bN] rfl rfl (any_of HT_.out (by kernel_rfl)) (fun _ _ _ h => h) (Or.inl ⟨by rfl, ?_⟩) ?_ ?_
                   rotate_left
                   ·intro w'
                    go_simp
                    with_reducible rfl
                   rotate_left
                   ·simp only [Act.put, sTA, sZ, sS, i64_w, i32_w]
                    rfl
                   refine pure_ (i := 5) (N := some 72) (v := ?_) (a' := ?_) #[bY,bY,bY,bN,bY,bY,bN,bN,bN] rfl rfl (any_of HT_.out (by kernel_rfl)) (fun _ _ _ h => h) (Or.inl ⟨by rfl, ?_⟩) ?_ ?_
                   rotate_left
                   ·intro w'
                    go_simp
                    with_reducible rfl
                   rotate_left
                   ·simp only [Act.put, sTA, sZ, sS, i64_w, i32_w]
                    rfl
                   refine pure_ (i := 6) (N := some 73) (v := ?_) (a' := ?_) #[bY,bY,bY,bN,bY,bY,bY,bN,bN] rfl rfl (any_of HT_.out (by kernel_rfl)) (fun _ _ _ h => h) (Or.inl ⟨by rfl, ?_⟩) ?_ ?_
                   rotate_left
                   ·intro w'
                    go_simp
                    with_reducible rfl
                   rotate_left
                   ·simp only [Act.put, sTA, sZ, sS, i64_w, i32_w]
                    rfl
                   refine take_ (i := 3) (N := some 70) (v := ?_) (a' := ?_) #[bY,bY,bY,bY,bY,bY,bY,bN,bN] rfl rfl (take_ofW HT_.out HW_.out (by kernel_rfl)) (fun _ _ _ h => h) (Or.inl ⟨by rfl, ?_⟩) hHeld ?_ ?_
                   rotate_left
                   ·rintro w' ⟨s0, s1⟩
                    go_simp
                    with_reducible rfl
                   rotate_left
                   ·simp only [Act.put, sTA, sZ, sS, i64_w, i32_w]
                    rfl
                   refine take_ (i := 7) (N := some 74) (v := ?_) (a' := ?_) #[bY,bY,bY,bY,bY,bY,bY,bY,bN] rfl rfl (take_ofW HT_.out HW_.out (by kernel_rfl)) (fun _ _ _ h => h) (Or.inl ⟨by rfl, ?_⟩) hHeld ?_ ?_
                   rotate_left
                   ·rintro w' ⟨s0, s1⟩
                    go_simp
                    with_reducible rfl
                   rotate_left
                   ·simp only [Act.put, sTA, sZ, sS, i64_w, i32_w]
                    rfl
                   refine pure_ (i := 8) (N := some 75) (v := ?_) (a' := ?_) #[bY,bY,bY,bY,bY,bY,bY,bY,bY] rfl rfl (any_of HT_.out (by kernel_rfl)) (fun _ _ _ h => h) (Or.inl ⟨by rfl, ?_⟩) ?_ ?_
                   rotate_left
                   ·intro w'
                    go_simp
                    with_reducible rfl
                   rotate_left
                   ·simp only [Act.put, sTA, sZ, sS, i64_w, i32_w]
                    rfl
                   refine done_ (done_of HT_.out (by kernel_rfl)) ?_
                   try go_wp2
                   (try simp only [← hl7_3])
                   go_roundg k3
                   case measure => have := HK1.out; have := HK2.out; have := HK3.out; omega
                   case rel => exact ⟨(x7_3), (wrap64 (x11_3 + 1)), (x1149002_3), (by first | rfl | (simp; done) | (simp [*]; done)), H', ⟨by have := HK1.out; have := HK2.out; have := HK3.out; omega⟩, ⟨by (try simp only [hl7_3]); (with_reducible repeat (first | apply Kd.R_alloc | apply Kd.R_drewN | apply Kd.R_drew)); exact HO_7.out⟩, ⟨by (try simp only [hl7_3]); (with_reducible repeat (first | refine kDN ?_ _ | refine kD ?_ | refine kA ?_ _)); exact BK1146.out⟩, ⟨by (try simp only [hl7_3]); (with_reducible repeat (first | refine kDN ?_ _ | refine kD ?_ | refine kA ?_ _)); exact BK1147.out⟩, ⟨by (try simp only [hl7_3]); (with_reducible repeat (first | refine kDN ?_ _ | refine kD ?_ | refine kA ?_ _)); exact BK1148.out⟩, ⟨by repeat (first | (with_reducible first | exact HI0.out | apply IsS103.alloc | apply IsS103.drewN | apply IsS103.drew | apply IsS103.set_1 | apply IsS103.set_2 | refine IsS103.far ?_ NB0_1146.out _ | refine IsS103.far ?_ NB0_1147.out _ | refine IsS103.far ?_ NB0_1148.out _) | exact HI0.out)⟩, ⟨by repeat (first | (with_reducible first | exact HK.out | apply KeepBut.set_ | apply keep_drewN | apply keep_drew | apply keep_alloc | refine keep_far ?_ GW1146.out _ | refine keep_far ?_ GW1147.out _ | refine keep_far ?_ GW1148.out _) | exact HK.out)⟩, ⟨by repeat (first | (with_reducible first | exact HB.out | apply bAl | apply bDN | apply bD1 | refine bSt ?_ (IsS103.ge HI0.out) | refine bSt ?_ GE1146.out | refine bSt ?_ GE1147.out | refine bSt ?_ GE1148.out) | exact HB.out)⟩⟩
                  ·rw [if_neg c52] at H
                   have c52b0 : ((rd x7_3 t1162) == (rd x7_3 t1163)) = false := beq_eq_false_iff_ne.mpr c52
                   have c52b1 : ((rd x7_3 t1162) != (rd x7_3 t1163)) = true := bne_iff_ne.mpr c52
                   obtain ⟨ji59, hji59⟩ : ∃ j_ : Int, (Int.tmod (wrap64 (t1155 + (wrap64 (x11_3 * x10_2)))) t1149) = j_ := ⟨_, rfl⟩
                   replace H : (if 0 ≤ (ji59) then (spec_l03Tree.l3 k3 t1149 x7_3 t1155 x10_2 x11_3 t1162 (rd x7_3 t1163) 0 s0_0 t1159 t1160 a1_0 a1_1 a1_0 a1_1 (Go.bits .or .i64 x1149002_3 (shl .i64 1 (ji59)))) else (none)) = some (r1, r2, r3, r4, r5) := by first | (rw [hji59] at H; exact H) | (simp only [hji59] at H ⊢; exact H)
                   (try rw [hji59] at A47)
                   by_cases c60 : 0 ≤ (ji59)
                   ·rw [if_pos c60] at H
                    have c60b0 := eq_true c60
                    have c60b1 : decide (0 ≤ (ji59)) = true := decide_eq_true c60
                    clear c60
                    obtain ⟨ji61, hji61⟩ : ∃ j_ : Int, (shl .i64 1 (ji59)) = j_ := ⟨_, rfl⟩
                    replace H : (spec_l03Tree.l3 k3 t1149 x7_3 t1155 x10_2 x11_3 t1162 (rd x7_3 t1163) 0 s0_0 t1159 t1160 a1_0 a1_1 a1_0 a1_1 (Go.bits .or .i64 x1149002_3 (ji61))) = some (r1, r2, r3, r4, r5) := by first | (rw [hji61] at H; exact H) | (simp only [hji61] at H ⊢; exact H)
                    (try rw [hji61] at A47)
                    have hji61_ : (IntKind.i64.wrap (1 * 2 ^ min (ji59).toNat 64)) = ji61 := hji61
                    have hji61z : (ji59) ≤ 64 → (IntKind.i64.wrap (1 * 2 ^ (ji59).toNat)) = ji61 := shl_small hji61
                    have hji61u : (IntKind.i64.wrap (2 ^ min (ji59).toNat 64)) = ji61 := by have h_ := hji61_; rw [Int.one_mul] at h_; exact h_
                    have hji61v : (ji59) ≤ 64 → (IntKind.i64.wrap (2 ^ (ji59).toNat)) = ji61 := fun hle_ => by have h_ := hji61z hle_; rw [Int.one_mul] at h_; exact h_
                    have hji61y : (wrap64 (1 * 2 ^ min (ji59).toNat 64)) = ji61 := (i64_w _).symm.trans hji61_
                    have hji61x : (ji59) ≤ 64 → (wrap64 (1 * 2 ^ (ji59).toNat)) = ji61 := fun h_ => (i64_w _).symm.trans (hji61z h_)
                    have H' := aK H
                    clear H
                    have hnb62 := NB1146_1147.out
                    have hnc62 := NB1147_1146.out
                    have hnb63 := NB1146_1148.out
                    have hnc63 := NB1148_1146.out
                    have hnb64 := NB1146_0.out
                    have hnc64 := NB0_1146.out
                    obtain ⟨hcz65_0, hcz65_1, hfz65_0, hfz65_1⟩ := cl2 BK1146.out
                    try go_wp2_with (first | ((with_reducible refine gate_callee (f := 108) rfl ?_); refine goesL_ (some 64) rfl rfl Tryd.func108 (by kernel_rfl) rfl #[.agg #[.int .i64 a1_0, .int .i64 a1_1], .int .i64 ji59] rfl (by (try simp only [List.map_toArray, List.map_cons, List.map_nil]); first | done | (simp only [hji59]; rfl) | rfl | (simp only [List.length_drop, List.length_take]; rfl)) ?_; (with_reducible refine (spec_EndsOf.calls a1_0 a1_1 ji59 t1162 t1163 _ A47.out).mono ?_); rintro e w66 ⟨rfl, hb⟩; refine ⟨_, rfl, ?_⟩; replace HO_7 := aK (Kd.R_below (zA HO_7) hb); replace BK1146 := zB BK1146 hb; replace BK1147 := zB BK1147 hb; replace BK1148 := zB BK1148 hb; replace HK := aK (KeepBut.trans (by repeat (first | (with_reducible first | exact HK.out | apply KeepBut.set_ | apply keep_drewN | apply keep_drew | apply keep_alloc | refine keep_far ?_ GW1146.out _ | refine keep_far ?_ GW1147.out _ | refine keep_far ?_ GW1148.out _) | exact HK.out)) (KeepBut.of_below hb g none) (.inl rfl)); replace HB := aK (bSp (by repeat (first | (with_reducible first | exact HB.out | apply bAl | apply bDN | apply bD1 | refine bSt ?_ (IsS103.ge HI0.out) | refine bSt ?_ GE1146.out | refine bSt ?_ GE1147.out | refine bSt ?_ GE1148.out) | exact HB.out)) hb); replace HI0 := aK (IsS103.below (by repeat (first | (with_reducible first | exact HI0.out | apply IsS103.alloc | apply IsS103.drewN | apply IsS103.drew | apply IsS103.set_1 | apply IsS103.set_2 | refine IsS103.far ?_ NB0_1146.out _ | refine IsS103.far ?_ NB0_1147.out _ | refine IsS103.far ?_ NB0_1148.out _) | exact HI0.out)) hb); (try clear hb); (try clear hb2); (try clear hk); (try clear hi)))
                    have n0_ := aK (Kd.R_drew HO_7.out)
                    have n1_ := aK (kD BK1146.out)
                    have n2_ := aK (kD BK1147.out)
                    have n3_ := aK (kD BK1148.out)
                    have n4_ := aK (IsS103.drew HI0.out)
                    have n5_ := aK (keep_drew HK.out)
                    have n6_ := aK (bD1 HB.out)
                    clear HO_7
                    clear BK1146
                    clear BK1147
                    clear BK1148
                    clear HI0
                    clear HK
                    clear HB
                    have HO_7 := n0_
                    have BK1146 := n1_
                    have BK1147 := n2_
                    have BK1148 := n3_
                    have HI0 := n4_
                    have HK := n5_
                    have HB := n6_
                    clear n0_ n1_ n2_ n3_ n4_ n5_ n6_
                    have p1164 : 0 ≤ (t1162 : Int) := of_decide_eq_true (by first | (with_reducible assumption) | assumption)
                    have q1164 : t1162 < (x7_3.length : Int) := of_decide_eq_true (by first | (with_reducible assumption) | assumption)
                    obtain ⟨ad1164, e1164, hx1164_0⟩ := Kd.at_int (Kd.R_reads' HO_7.out).2.2 t1162 p1164 q1164
                    cases e1164
                    replace p1164 := eq_true p1164
                    replace q1164 := eq_true q1164
                    have p1165 : 0 ≤ (t1163 : Int) := of_decide_eq_true (by first | (with_reducible assumption) | assumption)
                    have q1165 : t1163 < (x7_3.length : Int) := of_decide_eq_true (by first | (with_reducible assumption) | assumption)
                    obtain ⟨ad1165, e1165, hx1165_0⟩ := Kd.at_int (Kd.R_reads' HO_7.out).2.2 t1163 p1165 q1165
                    obtain rfl : ad1164 = ad1165 := (by injection e1165)
                    replace p1165 := eq_true p1165
                    replace q1165 := eq_true q1165
                    refine start_ (n := 9) (S := fun w' => w'.cell? (ad1164.add (t1162).toNat) = some (.int .i64 (rd x7_3 t1162)) ∧ w'.cell? (ad1164.add (t1163).toNat) = some (.int .i64 (rd x7_3 t1163))) (ds := []) #[bN,bN,bN,bN,bN,bN,bN,bN,bN] (by kernel_rfl) rfl rfl ⟨hx1164_0, hx1165_0⟩ (fun hHeld => ?_); refine with_tabW spec_l03Tree.tab19 spec_l03Tree.bits19 (fun HT_ HW_ => ?_)
                    generalize w66.drew = w67 at HO_7 BK1146 BK1147 BK1148 HI0 HK HB hx1164_0 hx1165_0 hHeld ⊢
                    refine pure_ (i := 0) (N := some 67) (v := ?_) (a' := ?_) #[bY,bN,bN,bN,bN,bN,bN,bN,bN] rfl rfl (any_of HT_.out (by kernel_rfl)) (fun _ _ _ h => h) (Or.inl ⟨by rfl, ?_⟩) ?_ ?_
                    rotate_left
                    ·intro w'
                     go_simp
                     with_reducible rfl
                    rotate_left
                    ·simp only [Act.put, sTA, sZ, sS, i64_w, i32_w]
                     rfl
                    refine pure_ (i := 1) (N := some 68) (v := ?_) (a' := ?_) #[bY,bY,bN,bN,bN,bN,bN,bN,bN] rfl rfl (any_of HT_.out (by kernel_rfl)) (fun _ _ _ h => h) (Or.inl ⟨by rfl, ?_⟩) ?_ ?_
                    rotate_left
                    ·intro w'
                     go_simp
                     with_reducible rfl
                    rotate_left
                    ·simp only [Act.put, sTA, sZ, sS, i64_w, i32_w]
                     rfl
                    refine pure_ (i := 2) (N := some 69) (v := ?_) (a' := ?_) #[bY,bY,bY,bN,bN,bN,bN,bN,bN] rfl rfl (any_of HT_.out (by kernel_rfl)) (fun _ _ _ h => h) (Or.inl ⟨by rfl, ?_⟩) ?_ ?_
                    rotate_left
                    ·intro w'
                     go_simp
                     with_reducible rfl
                    rotate_left
                    ·simp only [Act.put, sTA, sZ, sS, i64_w, i32_w]
                     rfl
                    refine pure_ (i := 4) (N := some 71) (v := ?_) (a' := ?_) #[bY,bY,bY,bN,bY,bN,bN,bN,bN] rfl rfl (any_of HT_.out (by kernel_rfl)) (fun _ _ _ h => h) (Or.inl ⟨by rfl, ?_⟩) ?_ ?_
                    rotate_left
                    ·intro w'
                     go_simp
                     with_reducible rfl
                    rotate_left
                    ·simp only [Act.put, sTA, sZ, sS, i64_w, i32_w]
                     rfl
                    refine pure_ (i := 5) (N := some 72) (v := ?_) (a' := ?_) #[bY,bY,bY,bN,bY,bY,bN,bN,bN] rfl rfl (any_of HT_.out (by kernel_rfl)) (fun _ _ _ h => h) (Or.inl ⟨by rfl, ?_⟩) ?_ ?_
                    rotate_left
                    ·intro w'
                     go_simp
                     with_reducible rfl
                    rotate_left
                    ·simp only [Act.put, sTA, sZ, sS, i64_w, i32_w]
                     rfl
                    refine pure_ (i := 6) (N := some 73) (v := ?_) (a' := ?_) #[bY,bY,bY,bN,bY,bY,bY,bN,bN] rfl rfl (any_of HT_.out (by kernel_rfl)) (fun _ _ _ h => h) (Or.inl ⟨by rfl, ?_⟩) ?_ ?_
                    rotate_left
                    ·intro w'
                     go_simp
                     with_reducible rfl
                    rotate_left
                    ·simp only [Act.put, sTA, sZ, sS, i64_w, i32_w]
                     rfl
                    refine take_ (i := 3) (N := some 70) (v := ?_) (a' := ?_) #[bY,bY,bY,bY,bY,bY,bY,bN,bN] rfl rfl (take_ofW HT_.out HW_.out (by kernel_rfl)) (fun _ _ _ h => h) (Or.inl ⟨by rfl, ?_⟩) hHeld ?_ ?_
                    rotate_left
                    ·rintro w' ⟨s0, s1⟩
                     go_simp
                     with_reducible rfl
                    rotate_left
                    ·simp only [Act.put, sTA, sZ, sS, i64_w, i32_w]
                     rfl
                    refine take_ (i := 7) (N := some 74) (v := ?_) (a' := ?_) #[bY,bY,bY,bY,bY,bY,bY,bY,bN] rfl rfl (take_ofW HT_.out HW_.out (by kernel_rfl)) (fun _ _ _ h => h) (Or.inl ⟨by rfl, ?_⟩) hHeld ?_ ?_
                    rotate_left
                    ·rintro w' ⟨s0, s1⟩
                     go_simp
                     with_reducible rfl
                    rotate_left
                    ·simp only [Act.put, sTA, sZ, sS, i64_w, i32_w]
                     rfl
                    refine pure_ (i := 8) (N := some 75) (v := ?_) (a' := ?_) #[bY,bY,bY,bY,bY,bY,bY,bY,bY] rfl rfl (any_of HT_.out (by kernel_rfl)) (fun _ _ _ h => h) (Or.inl ⟨by rfl, ?_⟩) ?_ ?_
                    rotate_left
                    ·intro w'
                     go_simp
                     with_reducible rfl
                    rotate_left
                    ·simp only [Act.put, sTA, sZ, sS, i64_w, i32_w]
                     rfl
                    refine done_ (done_of HT_.out (by kernel_rfl)) ?_
                    try go_wp2
                    have n0_ := aK (Kd.R_drew HO_7.out)
                    have n1_ := aK (kD BK1146.out)
                    have n2_ := aK (kD BK1147.out)
                    have n3_ := aK (kD BK1148.out)
                    have n4_ := aK (IsS103.drew HI0.out)
                    have n5_ := aK (keep_drew HK.out)
                    have n6_ := aK (bD1 HB.out)
                    clear HO_7
                    clear BK1146
                    clear BK1147
                    clear BK1148
                    clear HI0
                    clear HK
                    clear HB
                    have HO_7 := n0_
                    have BK1146 := n1_
                    have BK1147 := n2_
                    have BK1148 := n3_
                    have HI0 := n4_
                    have HK := n5_
                    have HB := n6_
                    clear n0_ n1_ n2_ n3_ n4_ n5_ n6_
                    refine start_ (n := 7) (S := fun w' => w'.cell? ⟨gb1148, 0, none⟩ = some (.int .i64 a1_0) ∧ w'.cell? ⟨gb1148, 1, none⟩ = some (.int .i64 a1_1) ∧ w'.cell? ⟨gb1148, 2, none⟩ = some (.int .i64 x1149002_3)) (ds := [6]) #[bN,bN,bN,bN,bN,bN,bN] (by kernel_rfl) rfl rfl ⟨zQ BK1148 0, zQ BK1148 1, zQ BK1148 2⟩ (fun hHeld => ?_)
                    generalize w67.drew = w68 at HO_7 BK1146 BK1147 BK1148 HI0 HK HB hHeld ⊢
                    refine pure_ (i := 0) (N := some 76) (v := ?_) (a' := ?_) #[bY,bN,bN,bN,bN,bN,bN] rfl rfl (by kernel_rfl) (fun _ _ _ h => h) (Or.inl ⟨by rfl, ?_⟩) ?_ ?_
                    rotate_left
                    ·intro w'
                     go_simp
                     with_reducible rfl
                    rotate_left
                    ·simp only [Act.put, sTA, sZ, sS, i64_w, i32_w]
                     rfl
                    refine pure_ (i := 2) (N := some 78) (v := ?_) (a' := ?_) #[bY,bN,bY,bN,bN,bN,bN] rfl rfl (by kernel_rfl) (fun _ _ _ h => h) (Or.inl ⟨by rfl, ?_⟩) ?_ ?_
                    rotate_left
                    ·intro w'
                     go_simp
                     with_reducible rfl
                    rotate_left
                    ·simp only [Act.put, sTA, sZ, sS, i64_w, i32_w]
                     rfl
                    refine pure_ (i := 3) (N := some 79) (v := ?_) (a' := ?_) #[bY,bN,bY,bY,bN,bN,bN] rfl rfl (by kernel_rfl) (fun _ _ _ h => h) (Or.inl ⟨by rfl, ?_⟩) ?_ ?_
                    rotate_left
                    ·intro w'
                     go_simp
                     with_reducible rfl
                    rotate_left
                    ·simp only [Act.put, sTA, sZ, sS, i64_w, i32_w]
                     rfl
                    refine take_ (i := 1) (N := some 77) (v := ?_) (a' := ?_) #[bY,bY,bY,bY,bN,bN,bN] rfl rfl (by kernel_rfl) (fun _ _ _ h => h) (Or.inl ⟨by rfl, ?_⟩) hHeld ?_ ?_
                    rotate_left
                    ·rintro w' ⟨s0, s1, s2⟩
                     go_simp
                     with_reducible rfl
                    rotate_left
                    ·simp only [Act.put, sTA, sZ, sS, i64_w, i32_w]
                     rfl
                    refine pure_ (i := 4) (N := some 80) (v := ?_) (a' := ?_) #[bY,bY,bY,bY,bY,bN,bN] rfl rfl (by kernel_rfl) (fun _ _ _ h => h) (Or.inl ⟨by rfl, ?_⟩) ?_ ?_
                    rotate_left
                    ·intro w'
                     go_simp
                     with_reducible rfl
                    rotate_left
                    ·simp only [Act.put, sTA, sZ, sS, i64_w, i32_w]
                     rfl
                    refine pure_ (i := 5) (N := some 81) (v := ?_) (a' := ?_) #[bY,bY,bY,bY,bY,bY,bN] rfl rfl (by kernel_rfl) (fun _ _ _ h => h) (Or.inl ⟨by rfl, ?_⟩) ?_ ?_
                    rotate_left
                    ·intro w'
                     go_simp
                     with_reducible rfl
                    rotate_left
                    ·simp only [Act.put, sTA, sZ, sS, i64_w, i32_w]
                     rfl
                    refine last_ (i := 6) (N := none) #[bY,bY,bY,bY,bY,bY,bY] rfl rfl (by kernel_rfl) (by decide) (fun K hK => ?_)
                    have hs69 : w68.cell? ⟨gb1148, 2, none⟩ = some (.int .i64 x1149002_3) := (kC BK1148.out 2).trans rfl
                    have hfs69 := kF BK1148.out 2
                    have hns69_0 := NB1146_1148.out
                    have hns69_1 := NB1147_1148.out
                    have hms69_0 := NB1148_1146.out
                    have hms69_1 := NB1148_1147.out
                    refine skip_ (w1 := ?_) (by rfl) rfl ?_ ?_
                    rotate_left
                    ·go_simp
                     rfl
                    refine hK.out _ _ ?_
                    clear hK K
                    refine done_ (by kernel_rfl) ?_
                    have p1166 : 0 ≤ (t1163 : Int) := of_decide_eq_true (by first | (with_reducible assumption) | assumption)
                    have q1166 : t1163 < (x7_3.length : Int) := of_decide_eq_true (by first | (with_reducible assumption) | assumption)
                    obtain ⟨ad1166, e1166, hx1166_0⟩ := Kd.at_int (Kd.R_reads' HO_7.out).2.2 t1163 p1166 q1166
                    obtain rfl : ad1164 = ad1166 := (by injection e1166)
                    have hn1166_0 : ad1164.block ≠ gb1148 := Kd.own_blk (Kd.R_ne HO_7.out BK1148.out (by decide))
                    replace hx1166_0 := (cell_far (p := ⟨gb1148, 2, none⟩) (by first | (rw [add_block]; exact hn1166_0) | (show (Addr.add _ _).block ≠ _; rw [add_block]; exact hn1166_0) | exact hn1166_0) (.int .i64 (Go.bits .or .i64 x1149002_3 (ji61)))).trans hx1166_0
                    clear hn1166_0
                    replace p1166 := eq_true p1166
                    replace q1166 := eq_true q1166
                    try go_wp2
                    go_loopg [16] k3 (fun kq v16 w' => ∃ (x7_4 : List Int) (x16_4 : Int), v16 = .int .i64 x16_4 ∧ Aside0 (spec_l03Tree.l3 kq t1149 x7_4 t1155 x10_2 x11_3 t1162 (rd x7_3 t1163) x16_4 s0_0 t1159 t1160 a1_0 a1_1 a1_0 a1_1 (Go.bits .or .i64 x1149002_3 (ji61)) = some (r1, r2, r3, r4, r5)) ∧ Aside0 (kq ≤ k3) ∧ Aside0 (Kd.R (Kd.int .i64) 3 w' w.heap.size (fun _ => True) (.slice (some ad1164) x7_3.length co40) x7_4) ∧ Aside0 (w'.heap[gb1146]? = some (.cells #[.int .i64 a1_0, .int .i64 a1_1] 39 (0, 0))) ∧ Aside0 (w'.heap[gb1147]? = some (.cells #[.int .i64 0, .int .i64 0, .int .i64 0] 41 (0, 0))) ∧ Aside0 (w'.heap[gb1148]? = some (.cells #[.int .i64 a1_0, .int .i64 a1_1, .int .i64 (Go.bits .or .i64 x1149002_3 (ji61))] 41 (0, 0))) ∧ Aside0 (IsS103 w0 w' g s0_0 t1159 t1160) ∧ Aside0 (KeepBut w w' g none) ∧ Aside0 (Below w0.heap.size w0 w'))
                    case atStart => exact ⟨(x7_3), (0), (by first | rfl | (simp; done) | (simp [*]; done)), H', ⟨Nat.le_refl _⟩, ⟨by (try simp only [hl7_3]); (with_reducible repeat (first | apply Kd.R_alloc | apply Kd.R_drewN | apply Kd.R_drew)); exact Kd.R_mono (Kd.R_far (p := ⟨gb1148, 2, none⟩) (Kd.R_types HO_7.out BK1148.out (by decide)) (fun _ hk => hk.2) (.int .i64 (Go.bits .or .i64 x1149002_3 (ji61)))) (fun _ hk => trivial)⟩, ⟨by (try simp only [hl7_3]); (with_reducible repeat (first | refine kDN ?_ _ | refine kD ?_ | refine kA ?_ _)); refine blk_far ?_ NB1146_1148.out _; (with_reducible repeat (first | refine kDN ?_ _ | refine kD ?_ | refine kA ?_ _)); exact BK1146.out⟩, ⟨by (try simp only [hl7_3]); (with_reducible repeat (first | refine kDN ?_ _ | refine kD ?_ | refine kA ?_ _)); refine blk_far ?_ NB1147_1148.out _; (with_reducible repeat (first | refine kDN ?_ _ | refine kD ?_ | refine kA ?_ _)); exact BK1147.out⟩, ⟨by (try simp only [hl7_3]); (with_reducible repeat (first | refine kDN ?_ _ | refine kD ?_ | refine kA ?_ _)); refine blk_put (cs := #[.int .i64 a1_0, .int .i64 a1_1, .int .i64 x1149002_3]) ?_ 2 _ rfl; (with_reducible repeat (first | refine kDN ?_ _ | refine kD ?_ | refine kA ?_ _)); exact BK1148.out⟩, ⟨by repeat (first | (with_reducible first | exact HI0.out | apply IsS103.alloc | apply IsS103.drewN | apply IsS103.drew | apply IsS103.set_1 | apply IsS103.set_2 | refine IsS103.far ?_ NB0_1146.out _ | refine IsS103.far ?_ NB0_1147.out _ | refine IsS103.far ?_ NB0_1148.out _) | exact HI0.out)⟩, ⟨by repeat (first | (with_reducible first | exact HK.out | apply KeepBut.set_ | apply keep_drewN | apply keep_drew | apply keep_alloc | refine keep_far ?_ GW1146.out _ | refine keep_far ?_ GW1147.out _ | refine keep_far ?_ GW1148.out _) | exact HK.out)⟩, ⟨by repeat (first | (with_reducible first | exact HB.out | apply bAl | apply bDN | apply bD1 | refine bSt ?_ (IsS103.ge HI0.out) | refine bSt ?_ GE1146.out | refine bSt ?_ GE1147.out | refine bSt ?_ GE1148.out) | exact HB.out)⟩⟩
                    case round =>
                     clear H'
                     try clear c1
                     try clear p1
                     try clear q1
                     try clear hx1
                     try clear c2
                     try clear p2
                     try clear q2
                     try clear hx2
                     try clear hf2
                     try clear c3
                     try clear c4
                     try clear c5
                     try clear c5b0
                     try clear c5b1
                     try clear c6
                     try clear c6b0
                     try clear c6b1
                     try clear p6
                     try clear c7
                     try clear c8
                     try clear c9
                     try clear c10
                     try clear p11
                     try clear q11
                     try clear hx11
                     try clear c13
                     try clear c14
                     try clear c15
                     try clear c23
                     try clear c23b0
                     try clear c24
                     try clear c24b0
                     try clear p25
                     try clear q25
                     try clear hx25
                     try clear hf25
                     try clear c29
                     try clear c29b0
                     try clear c29b1
                     try clear c31
                     try clear c32
                     try clear c33
                     try clear c35
                     try clear c36
                     try clear c44
                     try clear c45
                     try clear c45b0
                     try clear c46
                     try clear c46b0
                     try clear c46b1
                     try clear c48
                     try clear c48b0
                     try clear c49
                     try clear c49b0
                     try clear c50
                     try clear c50b0
                     try clear c51
                     try clear c51b0
                     try clear c52
                     try clear c52b0
                     try clear c52b1
                     try clear c53
                     try clear c54
                     try clear c55
                     try clear c60
                     try clear c60b0
                     try clear c60b1
                     try clear c62
                     try clear c63
                     try clear c64
                     try clear p64
                     try clear hcz11_0
                     try clear hcz11_1
                     try clear hcz16_0
                     try clear hcz16_1
                     try clear hcz16_2
                     try clear hcz17_0
                     try clear hcz17_1
                     try clear hcz19_0
                     try clear hcz19_1
                     try clear hcz34_0
                     try clear hcz34_1
                     try clear hcz34_2
                     try clear hcz37_0
                     try clear hcz37_1
                     try clear hcz37_2
                     try clear hcz56_0
                     try clear hcz56_1
                     try clear hcz65_0
                     try clear hcz65_1
                     try clear hfz11_0
                     try clear hfz11_1
                     try clear hfz16_0
                     try clear hfz16_1
                     try clear hfz16_2
                     try clear hfz17_0
                     try clear hfz17_1
                     try clear hfz19_0
                     try clear hfz19_1
                     try clear hfz34_0
                     try clear hfz34_1
                     try clear hfz34_2
                     try clear hfz37_0
                     try clear hfz37_1
                     try clear hfz37_2
                     try clear hfz56_0
                     try clear hfz56_1
                     try clear hfz65_0
                     try clear hfz65_1
                     try clear hx1164_0
                     try clear hx1165_0
                     try clear hx1166_0
                     try clear hx25_0
                     try clear p1164
                     try clear p1165
                     try clear p1166
                     try clear p2
                     try clear p25
                     try clear p6
                     try clear q1164
                     try clear q1165
                     try clear q1166
                     try clear q2
                     try clear q25
                     obtain ⟨x7_4, x16_4, rfl, HA, HK4, HO_7, BK1146, BK1147, BK1148, HI0, HK, HB⟩ := hrel
                     have hl7_4 := (Kd.R_reads' HO_7.out).1
                     rw [hl7_4] at HO_7
                     (try simp only [hl7_4])
                     (try simp only [hl7_4] at BK1146)
                     (try simp only [hl7_4] at BK1147)
                     (try simp only [hl7_4] at BK1148)
                     cases gk with
                     | zero => exact absurd HA.out (by simp [spec_l03Tree.l3])
                     | succ k4 =>
                      have H := HA.out
                      clear HA
                      simp only [spec_l03Tree.l3] at H
                      by_cases c70 : x16_4 < (x7_4.length : Int)
                      ·rw [if_pos c70] at H
                       have c70b0 : decide (x16_4 < (x7_4.length : Int)) = true := decide_eq_true c70
                       clear c70
                       by_cases c71 : 0 ≤ x16_4
                       ·rw [if_pos c71] at H
                        have c71b0 : decide (0 ≤ x16_4) = true := decide_eq_true c71
                        clear c71
                        by_cases c72 : (rd x7_4 x16_4) = (rd x7_3 t1163)
                        ·rw [if_pos c72] at H
                         have c72b0 : ((rd x7_4 x16_4) == (rd x7_3 t1163)) = true := beq_iff_eq.mpr c72
                         have c72b1 : ((rd x7_4 x16_4) != (rd x7_3 t1163)) = false := bne_eq_false_iff_eq.mpr c72
                         clear c72
                         by_cases c73 : 0 ≤ t1162
                         ·rw [if_pos c73] at H
                          have c73b0 : decide (0 ≤ t1162) = true := decide_eq_true c73
                          clear c73
                          by_cases c74 : t1162 < (x7_4.length : Int)
                          ·rw [if_pos c74] at H
                           have c74b0 : decide (t1162 < (x7_4.length : Int)) = true := decide_eq_true c74
                           clear c74
                           obtain ⟨y1169, hy1169⟩ : ∃ y_ : List Int, y_ = (x7_4.set (x16_4 : Int).toNat (rd x7_4 t1162)) := ⟨_, rfl⟩
                           replace H : (spec_l03Tree.l3 k4 t1149 y1169 t1155 x10_2 x11_3 t1162 (rd x7_3 t1163) (wrap64 (x16_4 + 1)) s0_0 t1159 t1160 a1_0 a1_1 a1_0 a1_1 (Go.bits .or .i64 x1149002_3 (ji61))) = some (r1, r2, r3, r4, r5) := by first | (rw [hy1169]; with_reducible exact H) | (have H2_ := (Option.bind_some _ _).symm.trans H; rw [hy1169]; with_reducible exact H2_) | (have H2_ := (Option.bind_some _ _).symm.trans H; with_reducible exact H2_) | with_reducible exact H | (rw [hy1169]; exact H) | exact H
                           have Ny1169 := aK hy1169
                           clear hy1169
                           have H' := aK H
                           clear H
                           have p1167 : 0 ≤ (x16_4 : Int) := of_decide_eq_true (by first | (with_reducible assumption) | assumption)
                           have q1167 : x16_4 < (x7_4.length : Int) := of_decide_eq_true (by first | (with_reducible assumption) | assumption)
                           obtain ⟨ad1167, e1167, hx1167_0⟩ := Kd.at_int (Kd.R_reads' HO_7.out).2.2 x16_4 p1167 q1167
                           obtain rfl : ad1164 = ad1167 := (by injection e1167)
                           replace p1167 := eq_true p1167
                           replace q1167 := eq_true q1167
                           have p1168 : 0 ≤ (t1162 : Int) := of_decide_eq_true (by first | (with_reducible assumption) | assumption)
                           have q1168 : t1162 < (x7_4.length : Int) := of_decide_eq_true (by first | (with_reducible assumption) | assumption)
                           obtain ⟨ad1168, e1168, hx1168_0⟩ := Kd.at_int (Kd.R_reads' HO_7.out).2.2 t1162 p1168 q1168
                           obtain rfl : ad1164 = ad1168 := (by injection e1168)
                           replace p1168 := eq_true p1168
                           replace q1168 := eq_true q1168
                           have p75 : 0 ≤ (x16_4 : Int) := of_decide_eq_true (by first | (with_reducible assumption) | assumption)
                           have q75 : (x16_4 : Int) < ((x7_4.length : Int) : Int) := of_decide_eq_true (by first | (with_reducible assumption) | assumption)
                           obtain ⟨go75, co75, eo75, gb75, gl75, cl75, HG75⟩ := Kd.R_form HO_7.out (by omega)
                           (first | cases eo75 | (injection eo75 with ea_ en_ ec_; (first | subst ea_ | (injection ea_ with ea_; subst ea_)); subst ec_; clear en_))
                           have GB75 := aK gb75
                           have GG75 := aK HG75
                           clear gb75 gl75 HG75
                           (first | simp only [add_plain] at hx1164_0 | skip)
                           (first | simp only [add_plain] at hx1165_0 | skip)
                           (first | simp only [add_plain] at hx1166_0 | skip)
                           (first | simp only [add_plain] at hx1167_0 | skip)
                           (first | simp only [add_plain] at hx1168_0 | skip)
                           obtain ⟨hx75_0, hf75_0⟩ := Kd.R_celln 0 HO_7.out (x16_4 : Int) p75 q75
                           replace p75 := eq_true p75
                           replace q75 := eq_true q75
                           have HP76 := Kd.R_putg HO_7.out (x16_4 : Int) (rd x7_4 t1162)
                           go_wp2_with (first | ((with_reducible refine gate_store (t := 3) (p := 104) rfl ?_); refine store_event (t := 3) (p := 104) (v := ?vo_w77) (w1 := (wr.setCell ⟨go75, (x16_4 : Int).toNat, none⟩ (.int .i64 (rd x7_4 t1162)))) ?hg ?ho ?hn ?hr ?_; (case ho => rfl); (case hg => rfl); (case hn => rfl); (case hr => first | (go_simp; done) | (go_simp; rfl)); intro w77 hw; have hg : wr.grownBy w77 (some go75) := (by rw [hw]; exact HP76.2); have hp_ : Kd.R (Kd.int .i64) 3 w77 w.heap.size (fun _ => True) (.slice (some ⟨go75, 0, none⟩) x7_4.length co40) y1169 := (by rw [hw, Ny1169.out]; exact HP76.1); clear HP76; replace BK1146 := aK (blk_grown (g := gb1146) (o := .cells #[.int .i64 a1_0, .int .i64 a1_1] 39 (0, 0)) (zK BK1146) hg (Kd.R_ne HO_7.out BK1146.out (by decide))); replace BK1147 := aK (blk_grown (g := gb1147) (o := .cells #[.int .i64 0, .int .i64 0, .int .i64 0] 41 (0, 0)) (zK BK1147) hg (Kd.R_ne HO_7.out BK1147.out (by decide))); replace BK1148 := aK (blk_grown (g := gb1148) (o := .cells #[.int .i64 a1_0, .int .i64 a1_1, .int .i64 (Go.bits .or .i64 x1149002_3 (ji61))] 41 (0, 0)) (zK BK1148) hg (Kd.R_ne HO_7.out BK1148.out (by decide))); replace HI0 := aK (IsS103.grown (show IsS103 w0 _ g s0_0 t1159 t1160 from by repeat (first | (with_reducible first | exact HI0.out | apply IsS103.alloc | apply IsS103.drewN | apply IsS103.drew | apply IsS103.set_1 | apply IsS103.set_2 | refine IsS103.far ?_ NB0_1146.out _ | refine IsS103.far ?_ NB0_1147.out _ | refine IsS103.far ?_ NB0_1148.out _) | exact HI0.out)) hg (IsS103.own_ne HI0.out HO_7.out (by decide))); replace HB := aK ((by rw [hw]; exact bSt (HB.out) (Nat.le_trans HL.out GB75.out) : Below w0.heap.size w0 w77)); replace HK := aK (KeepBut.trans (by repeat (first | (with_reducible first | exact HK.out | apply KeepBut.set_ | apply keep_drewN | apply keep_drew | apply keep_alloc | refine keep_far ?_ GW1146.out _ | refine keep_far ?_ GW1147.out _ | refine keep_far ?_ GW1148.out _) | exact HK.out)) (KeepBut.of_grown hg g) (Kd.R_base2 HO_7.out)); replace HO_7 := aK (hp_); clear hg hw hp_))
                           (try simp only [← hl7_4])
                           (try simp only [add_plain] at *)
                           go_roundg k4
                           case measure => have := HK1.out; have := HK2.out; have := HK3.out; have := HK4.out; omega
                           case rel => exact ⟨(y1169), (wrap64 (x16_4 + 1)), (by first | rfl | (simp; done) | (simp [*]; done)), H', ⟨by have := HK1.out; have := HK2.out; have := HK3.out; have := HK4.out; omega⟩, ⟨by (try simp only [hl7_3]); (try simp only [hl7_4]); (with_reducible repeat (first | apply Kd.R_alloc | apply Kd.R_drewN | apply Kd.R_drew)); exact HO_7.out⟩, ⟨by (try simp only [hl7_3]); (try simp only [hl7_4]); (with_reducible repeat (first | refine kDN ?_ _ | refine kD ?_ | refine kA ?_ _)); exact BK1146.out⟩, ⟨by (try simp only [hl7_3]); (try simp only [hl7_4]); (with_reducible repeat (first | refine kDN ?_ _ | refine kD ?_ | refine kA ?_ _)); exact BK1147.out⟩, ⟨by (try simp only [hl7_3]); (try simp only [hl7_4]); (with_reducible repeat (first | refine kDN ?_ _ | refine kD ?_ | refine kA ?_ _)); exact BK1148.out⟩, ⟨by repeat (first | (with_reducible first | exact HI0.out | apply IsS103.alloc | apply IsS103.drewN | apply IsS103.drew | apply IsS103.set_1 | apply IsS103.set_2 | refine IsS103.far ?_ NB0_1146.out _ | refine IsS103.far ?_ NB0_1147.out _ | refine IsS103.far ?_ NB0_1148.out _) | exact HI0.out)⟩, ⟨by repeat (first | (with_reducible first | exact HK.out | apply KeepBut.set_ | apply keep_drewN | apply keep_drew | apply keep_alloc | refine keep_far ?_ GW1146.out _ | refine keep_far ?_ GW1147.out _ | refine keep_far ?_ GW1148.out _) | exact HK.out)⟩, ⟨by repeat (first | (with_reducible first | exact HB.out | apply bAl | apply bDN | apply bD1 | refine bSt ?_ (IsS103.ge HI0.out) | refine bSt ?_ GE1146.out | refine bSt ?_ GE1147.out | refine bSt ?_ GE1148.out) | exact HB.out)⟩⟩
                          ·rw [if_neg c74] at H
                           exact absurd H (by simp)
                         ·rw [if_neg c73] at H
                          exact absurd H (by simp)
                        ·rw [if_neg c72] at H
                         have c72b0 : ((rd x7_4 x16_4) == (rd x7_3 t1163)) = false := beq_eq_false_iff_ne.mpr c72
                         have c72b1 : ((rd x7_4 x16_4) != (rd x7_3 t1163)) = true := bne_iff_ne.mpr c72
                         have H' := aK H
                         clear H
                         have p1167 : 0 ≤ (x16_4 : Int) := of_decide_eq_true (by first | (with_reducible assumption) | assumption)
                         have q1167 : x16_4 < (x7_4.length : Int) := of_decide_eq_true (by first | (with_reducible assumption) | assumption)
                         obtain ⟨ad1167, e1167, hx1167_0⟩ := Kd.at_int (Kd.R_reads' HO_7.out).2.2 x16_4 p1167 q1167
                         obtain rfl : ad1164 = ad1167 := (by injection e1167)
                         replace p1167 := eq_true p1167
                         replace q1167 := eq_true q1167
                         go_wp2
                         (try simp only [← hl7_4])
                         (try simp only [add_plain] at *)
                         go_roundg k4
                         case measure => have := HK1.out; have := HK2.out; have := HK3.out; have := HK4.out; omega
                         case rel => exact ⟨(x7_4), (wrap64 (x16_4 + 1)), (by first | rfl | (simp; done) | (simp [*]; done)), H', ⟨by have := HK1.out; have := HK2.out; have := HK3.out; have := HK4.out; omega⟩, ⟨by (try simp only [hl7_3]); (try simp only [hl7_4]); (with_reducible repeat (first | apply Kd.R_alloc | apply Kd.R_drewN | apply Kd.R_drew)); exact HO_7.out⟩, ⟨by (try simp only [hl7_3]); (try simp only [hl7_4]); (with_reducible repeat (first | refine kDN ?_ _ | refine kD ?_ | refine kA ?_ _)); exact BK1146.out⟩, ⟨by (try simp only [hl7_3]); (try simp only [hl7_4]); (with_reducible repeat (first | refine kDN ?_ _ | refine kD ?_ | refine kA ?_ _)); exact BK1147.out⟩, ⟨by (try simp only [hl7_3]); (try simp only [hl7_4]); (with_reducible repeat (first | refine kDN ?_ _ | refine kD ?_ | refine kA ?_ _)); exact BK1148.out⟩, ⟨by repeat (first | (with_reducible first | exact HI0.out | apply IsS103.alloc | apply IsS103.drewN | apply IsS103.drew | apply IsS103.set_1 | apply IsS103.set_2 | refine IsS103.far ?_ NB0_1146.out _ | refine IsS103.far ?_ NB0_1147.out _ | refine IsS103.far ?_ NB0_1148.out _) | exact HI0.out)⟩, ⟨by repeat (first | (with_reducible first | exact HK.out | apply KeepBut.set_ | apply keep_drewN | apply keep_drew | apply keep_alloc | refine keep_far ?_ GW1146.out _ | refine keep_far ?_ GW1147.out _ | refine keep_far ?_ GW1148.out _) | exact HK.out)⟩, ⟨by repeat (first | (with_reducible first | exact HB.out | apply bAl | apply bDN | apply bD1 | refine bSt ?_ (IsS103.ge HI0.out) | refine bSt ?_ GE1146.out | refine bSt ?_ GE1147.out | refine bSt ?_ GE1148.out) | exact HB.out)⟩⟩
                       ·rw [if_neg c71] at H
                        exact absurd H (by simp)
                      ·rw [if_neg c70] at H
                       have c70b0 : decide (x16_4 < (x7_4.length : Int)) = false := decide_eq_false c70
                       clear c70
                       have H' := aK H
                       clear H
                       go_wp2
                       (try simp only [← hl7_3, ← hl7_4])
                       (try simp only [add_plain] at *)
                       go_roundg k4
                       case measure => have := HK1.out; have := HK2.out; have := HK3.out; have := HK4.out; omega
                       case rel => exact ⟨(x7_4), (wrap64 (x11_3 + 1)), ((Go.bits .or .i64 x1149002_3 (ji61))), (by first | rfl | (simp; done) | (simp [*]; done)), H', ⟨by have := HK1.out; have := HK2.out; have := HK3.out; have := HK4.out; omega⟩, ⟨by (try simp only [hl7_3]); (try simp only [hl7_4]); (with_reducible repeat (first | apply Kd.R_alloc | apply Kd.R_drewN | apply Kd.R_drew)); exact HO_7.out⟩, ⟨by (try simp only [hl7_3]); (try simp only [hl7_4]); (with_reducible repeat (first | refine kDN ?_ _ | refine kD ?_ | refine kA ?_ _)); exact BK1146.out⟩, ⟨by (try simp only [hl7_3]); (try simp only [hl7_4]); (with_reducible repeat (first | refine kDN ?_ _ | refine kD ?_ | refine kA ?_ _)); exact BK1147.out⟩, ⟨by (try simp only [hl7_3]); (try simp only [hl7_4]); (with_reducible repeat (first | refine kDN ?_ _ | refine kD ?_ | refine kA ?_ _)); exact BK1148.out⟩, ⟨by repeat (first | (with_reducible first | exact HI0.out | apply IsS103.alloc | apply IsS103.drewN | apply IsS103.drew | apply IsS103.set_1 | apply IsS103.set_2 | refine IsS103.far ?_ NB0_1146.out _ | refine IsS103.far ?_ NB0_1147.out _ | refine IsS103.far ?_ NB0_1148.out _) | exact HI0.out)⟩, ⟨by repeat (first | (with_reducible first | exact HK.out | apply KeepBut.set_ | apply keep_drewN | apply keep_drew | apply keep_alloc | refine keep_far ?_ GW1146.out _ | refine keep_far ?_ GW1147.out _ | refine keep_far ?_ GW1148.out _) | exact HK.out)⟩, ⟨by repeat (first | (with_reducible first | exact HB.out | apply bAl | apply bDN | apply bD1 | refine bSt ?_ (IsS103.ge HI0.out) | refine bSt ?_ GE1146.out | refine bSt ?_ GE1147.out | refine bSt ?_ GE1148.out) | exact HB.out)⟩⟩
                   ·rw [if_neg c60] at H
                    exact absurd H (by simp)
                 ·rw [if_neg c51] at H
                  exact absurd H (by simp)
                ·rw [if_neg c50] at H
                 exact absurd H (by simp)
               ·rw [if_neg c49] at H
                exact absurd H (by simp)
              ·rw [if_neg c48] at H
               exact absurd H (by simp)
            ·rw [if_neg c45] at H
             have c45b0 : decide (x11_3 < t1149) = false := decide_eq_false c45
             clear c45
             simp only [Option.some.injEq, Prod.mk.injEq] at H
             obtain ⟨rfl, rfl, rfl, rfl, rfl⟩ := H
             have hnb78 := NB1148_1146.out
             have hnc78 := NB1146_1148.out
             have hnb79 := NB1148_1147.out
             have hnc79 := NB1147_1148.out
             have hnb80 := NB1148_0.out
             have hnc80 := NB0_1148.out
             obtain ⟨hcz81_0, hcz81_1, hcz81_2, hfz81_0, hfz81_1, hfz81_2⟩ := cl3 BK1148.out
             have hnb82 := NB1147_1146.out
             have hnc82 := NB1146_1147.out
             have hnb83 := NB1147_0.out
             have hnc83 := NB0_1147.out
             obtain ⟨hcz84_0, hcz84_1, hcz84_2, hfz84_0, hfz84_1, hfz84_2⟩ := cl3 BK1147.out
             go_wp2
             refine bodyPost_ret (results_cell_row rfl _ _ gb1147 41 #[.int .i64 a1_0, .int .i64 a1_1, .int .i64 x1149002_3] (0, 0) _ rfl (by (with_reducible repeat (first | refine kDN ?_ _ | refine kD ?_ | refine kA ?_ _)); refine blk_put (cs := #[.int .i64 a1_0, .int .i64 a1_1, .int .i64 0]) ?_ 2 _ rfl; (with_reducible repeat (first | refine kDN ?_ _ | refine kD ?_ | refine kA ?_ _)); refine blk_put (cs := #[.int .i64 a1_0, .int .i64 0, .int .i64 0]) ?_ 1 _ rfl; (with_reducible repeat (first | refine kDN ?_ _ | refine kD ?_ | refine kA ?_ _)); refine blk_put (cs := #[.int .i64 0, .int .i64 0, .int .i64 0]) ?_ 0 _ rfl; (with_reducible repeat (first | refine kDN ?_ _ | refine kD ?_ | refine kA ?_ _)); exact BK1147.out) Tryd.underlying41 rfl (by kernel_rfl)) rfl ?_
             exact ⟨by first | rfl | (simp [errW_none, errW_some] <;> rfl) | (simp [*, errW_none, errW_some] <;> rfl), by repeat (first | (with_reducible first | exact HI0.out | apply IsS103.alloc | apply IsS103.drewN | apply IsS103.drew | apply IsS103.set_1 | apply IsS103.set_2 | refine IsS103.far ?_ NB0_1146.out _ | refine IsS103.far ?_ NB0_1147.out _ | refine IsS103.far ?_ NB0_1148.out _) | exact HI0.out), by repeat (first | (with_reducible first | exact HB.out | apply bAl | apply bDN | apply bD1 | refine bSt ?_ (IsS103.ge HI0.out) | refine bSt ?_ GE1146.out | refine bSt ?_ GE1147.out | refine bSt ?_ GE1148.out) | exact HB.out), by repeat (first | (with_reducible first | exact HK.out | apply KeepBut.set_ | apply keep_drewN | apply keep_drew | apply keep_alloc | refine keep_far ?_ GW1146.out _ | refine keep_far ?_ GW1147.out _ | refine keep_far ?_ GW1148.out _) | exact HK.out)⟩
  ·rw [if_neg c6] at H
   exact absurd H (by simp)
 ·rw [if_neg c5] at H
  exact absurd H (by simp)
end Go.Proofs.YtdjdleldocfpaaaDoor.F
end

section
namespace Go.Proofs.YtdjdleldocfpaaaDoor.F
open Go.RowKit Go.Proofs.YtdjdleldocfpaaaDoorW.PrintWords Go.Proofs.YtdjdleldocfpaaaDoorW.PrintLast Go.Proofs.YtdjdleldocfpaaaDoorW.PrintMore
set_option linter.unusedVariables false
set_option linter.unusedSimpArgs false
attribute [local go_sem] max2_int min2_int max_two min_two
def spec_l31Crowd.T4 : Bool × List (List Nat × List Nat) := (true, [([], []), ([], []), ([], []), ([2], [2]), ([1, 3, 3], [1, 3]), ([0, 4, 4], [0, 4]), ([5], [5]), ([6], [6]), ([6], [6]), ([7, 5, 0, 1, 2, 3, 4, 5, 6, 7], [7])])
def spec_l31Crowd.B4 : List Nat := [0, 0, 0, 4, 14, 31, 63, 127, 127, 255]
theorem spec_l31Crowd.tab4 : rtab .any (opsOf Tryd.f54 4) = spec_l31Crowd.T4 := by kernel_rfl
theorem spec_l31Crowd.bits4 : waitsOk spec_l31Crowd.T4.2 spec_l31Crowd.B4 = true := by kernel_rfl
set_option maxHeartbeats 8000000 in
set_option maxRecDepth 100000 in
theorem spec_l31Crowd.calls (k : Nat) (g : Nat) (s0_0 : List Int) (s0_1 : Int) (s0_2 : Int) (a1 : Int) (r1 : Int) (r2 : Int) (r3 : Int) (r4 : List Int) (r5 : Int) (r6 : Int) (w0 w : World) (hI : IsS103 w0 w g s0_0 s0_1 s0_2) (hB : Below w0.heap.size w0 w) (h : spec_l31Crowd.f k s0_0 s0_1 s0_2 a1 = some (r1, r2, r3, r4, r5, r6)) :
  Calls Tryd.prog 54 #[.pointer (some ⟨g, 0, none⟩), .int .i64 a1] w fun e w' => ∃ v3_ : Value, e = .returned (.tuple #[.agg #[.int .i64 r1, .int .i64 r2, .int .i64 r3], v3_]) ∧ Kd.R (Kd.int .i64) 3 w' w.heap.size (fun _ => True) v3_ r4 ∧ IsS103 w0 w' g s0_0 r5 r6 ∧ Below w0.heap.size w0 w' ∧ KeepBut w w' g none := by
 have hu41 := Tryd.underlying41
 have hu39 := Tryd.underlying39
 have HI0 := aK hI
 have HK := aK (KeepBut.refl w g none)
 have HL := aK hB.size
 clear hI
 have HW0 := aK hB.size
 have HB := aK hB
 clear hB
 have H : ((spec_l01Below.f s0_0 s0_1 s0_2 3).bind fun bt1171 => ((spec_l01Below.f s0_0 bt1171.2.1 bt1171.2.2 3).bind fun bt1174 => ((spec_l03Tree.f k s0_0 bt1174.2.1 bt1174.2.2 (wrap64 (1 + bt1171.1)) (wrap64 (1 + bt1174.1))).bind fun bt1178 => ((spec_CountGaps.f (wrap64 (1 + bt1171.1)) (wrap64 (1 + bt1174.1))).bind fun t1184 => (if t1184 > 0 then ((spec_l01Once.f s0_0 bt1178.2.2.2.1 bt1178.2.2.2.2 2).bind fun bt1185 => (spec_l31Crowd.j0 k a1 bt1185.1 s0_0 bt1185.2.1 bt1185.2.2 (wrap64 (1 + bt1171.1)) (wrap64 (1 + bt1174.1)) bt1178.1 bt1178.2.1 bt1178.2.2.1)) else (spec_l31Crowd.j0 k a1 false s0_0 bt1178.2.2.2.1 bt1178.2.2.2.2 (wrap64 (1 + bt1171.1)) (wrap64 (1 + bt1174.1)) bt1178.1 bt1178.2.1 bt1178.2.2.1)))))) = some (r1, r2, r3, r4, r5, r6) := h
 clear h
 replace H := Option.bind_eq_some_iff.mp H
 obtain ⟨⟨t1171, t1172, t1173⟩, A30, H⟩ := H
 replace H : ((spec_l01Below.f s0_0 t1172 t1173 3).bind fun bt1174 => ((spec_l03Tree.f k s0_0 bt1174.2.1 bt1174.2.2 (wrap64 (1 + t1171)) (wrap64 (1 + bt1174.1))).bind fun bt1178 => ((spec_CountGaps.f (wrap64 (1 + t1171)) (wrap64 (1 + bt1174.1))).bind fun t1184 => (if t1184 > 0 then ((spec_l01Once.f s0_0 bt1178.2.2.2.1 bt1178.2.2.2.2 2).bind fun bt1185 => (spec_l31Crowd.j0 k a1 bt1185.1 s0_0 bt1185.2.1 bt1185.2.2 (wrap64 (1 + t1171)) (wrap64 (1 + bt1174.1)) bt1178.1 bt1178.2.1 bt1178.2.2.1)) else (spec_l31Crowd.j0 k a1 false s0_0 bt1178.2.2.2.1 bt1178.2.2.2.2 (wrap64 (1 + t1171)) (wrap64 (1 + bt1174.1)) bt1178.1 bt1178.2.1 bt1178.2.2.1))))) = some (r1, r2, r3, r4, r5, r6) := H
 have A3 := aK A30
 clear A30
 replace H := Option.bind_eq_some_iff.mp H
 obtain ⟨⟨t1174, t1175, t1176⟩, A40, H⟩ := H
 replace H : ((spec_l03Tree.f k s0_0 t1175 t1176 (wrap64 (1 + t1171)) (wrap64 (1 + t1174))).bind fun bt1178 => ((spec_CountGaps.f (wrap64 (1 + t1171)) (wrap64 (1 + t1174))).bind fun t1184 => (if t1184 > 0 then ((spec_l01Once.f s0_0 bt1178.2.2.2.1 bt1178.2.2.2.2 2).bind fun bt1185 => (spec_l31Crowd.j0 k a1 bt1185.1 s0_0 bt1185.2.1 bt1185.2.2 (wrap64 (1 + t1171)) (wrap64 (1 + t1174)) bt1178.1 bt1178.2.1 bt1178.2.2.1)) else (spec_l31Crowd.j0 k a1 false s0_0 bt1178.2.2.2.1 bt1178.2.2.2.2 (wrap64 (1 + t1171)) (wrap64 (1 + t1174)) bt1178.1 bt1178.2.1 bt1178.2.2.1)))) = some (r1, r2, r3, r4, r5, r6) := H
 have A4 := aK A40
 clear A40
 replace H := Option.bind_eq_some_iff.mp H
 obtain ⟨⟨t1178, t1179, t1180, t1181, t1182⟩, A50, H⟩ := H
 replace H : ((spec_CountGaps.f (wrap64 (1 + t1171)) (wrap64 (1 + t1174))).bind fun t1184 => (if t1184 > 0 then ((spec_l01Once.f s0_0 t1181 t1182 2).bind fun bt1185 => (spec_l31Crowd.j0 k a1 bt1185.1 s0_0 bt1185.2.1 bt1185.2.2 (wrap64 (1 + t1171)) (wrap64 (1 + t1174)) t1178 t1179 t1180)) else (spec_l31Crowd.j0 k a1 false s0_0 t1181 t1182 (wrap64 (1 + t1171)) (wrap64 (1 + t1174)) t1178 t1179 t1180))) = some (r1, r2, r3, r4, r5, r6) := H
 have A5 := aK A50
 clear A50
 have HC6 := aK H
 clear H
 go_enter Tryd.func54, Tryd.ntmps54
 go_upto_region 3 with (first | ((with_reducible refine gate_dst (N := 4) rfl ?_); refine box_event ?hg (N := 4) ?hd (cs := #[.int .i64 0, .int .i64 0, .int .i64 0]) (t := 41) ?hr ?_; (case hd => rfl); (case hg => rfl); (case hr => first | (go_simp; done) | (go_simp; rfl)); intro gb1170 hg w7 hbox hb; replace HB := aK (bSp (by repeat (first | (with_reducible first | exact HB.out | apply bAl | apply bDN | apply bD1 | refine bSt ?_ (IsS103.ge HI0.out)) | exact HB.out)) hb); have BK1170 := aK (hbox); have GW1170 := aK ((by rw [hg]; exact (keep_size (w := w) (g := g) (row := none) (by repeat (first | (with_reducible first | exact HK.out | apply KeepBut.set_ | apply keep_drewN | apply keep_drew | apply keep_alloc) | exact HK.out))) : w.heap.size ≤ gb1170)); have GE1170 := aK ((Nat.le_trans HW0.out (by rw [hg]; exact (keep_size (w := w) (g := g) (row := none) (by repeat (first | (with_reducible first | exact HK.out | apply KeepBut.set_ | apply keep_drewN | apply keep_drew | apply keep_alloc) | exact HK.out))) : w.heap.size ≤ gb1170) : w0.heap.size ≤ gb1170)); replace HK := aK (KeepBut.trans (by repeat (first | (with_reducible first | exact HK.out | apply KeepBut.set_ | apply keep_drewN | apply keep_drew | apply keep_alloc) | exact HK.out)) (KeepBut.of_below hb g none) (.inl rfl)); have NB0_1170 := aK ((by rw [hg]; exact Nat.ne_of_lt (IsS103.lt (show IsS103 w0 _ g s0_0 s0_1 s0_2 from by repeat (first | (with_reducible first | exact HI0.out | apply IsS103.alloc | apply IsS103.drewN | apply IsS103.drew | apply IsS103.set_1 | apply IsS103.set_2) | exact HI0.out))) : g ≠ gb1170)); have NB1170_0 := aK ((by rw [hg]; exact Nat.ne_of_gt (IsS103.lt (show IsS103 w0 _ g s0_0 s0_1 s0_2 from by repeat (first | (with_reducible first | exact HI0.out | apply IsS103.alloc | apply IsS103.drewN | apply IsS103.drew | apply IsS103.set_1 | apply IsS103.set_2) | exact HI0.out))) : gb1170 ≠ g)); replace HI0 := aK (IsS103.below (by repeat (first | (with_reducible first | exact HI0.out | apply IsS103.alloc | apply IsS103.drewN | apply IsS103.drew | apply IsS103.set_1 | apply IsS103.set_2) | exact HI0.out)) hb); clear hb hbox hg) | ((with_reducible refine gate_callee (f := 71) rfl ?_); refine goesL_ (some 13) rfl rfl Tryd.func71 (by kernel_rfl) rfl #[.pointer (some ⟨g, 0, none⟩), .int .i64 3] rfl zD ?_; (with_reducible refine (spec_l01Below.calls g s0_0 s0_1 s0_2 3 t1171 t1172 t1173 w0 _ ?side1 ?side2 A3.out).mono ?_); (case side1 => repeat (first | (with_reducible first | exact HI0.out | apply IsS103.alloc | apply IsS103.drewN | apply IsS103.drew | apply IsS103.set_1 | apply IsS103.set_2 | refine IsS103.far ?_ NB0_1170.out _) | exact HI0.out)); (case side2 => repeat (first | (with_reducible first | exact HB.out | apply bAl | apply bDN | apply bD1 | refine bSt ?_ (IsS103.ge HI0.out) | refine bSt ?_ GE1170.out) | exact HB.out)); rintro e w8 ⟨rfl, hi, hb, hk⟩; refine ⟨_, rfl, ?_⟩; replace BK1170 := aK (KeepBut.blk hk (g' := gb1170) (o := .cells #[.int .i64 0, .int .i64 0, .int .i64 0] 41 (0, 0)) (zK BK1170) NB1170_0.out (by simp)); replace HK := aK (KeepBut.trans (by repeat (first | (with_reducible first | exact HK.out | apply KeepBut.set_ | apply keep_drewN | apply keep_drew | apply keep_alloc | refine keep_far ?_ GW1170.out _) | exact HK.out)) hk (.inl rfl)); replace HB := aK (hb); replace HI0 := aK (hi); (try clear hb); (try clear hb2); (try clear hk); (try clear hi)) | ((with_reducible refine gate_callee (f := 71) rfl ?_); refine goesL_ (some 16) rfl rfl Tryd.func71 (by kernel_rfl) rfl #[.pointer (some ⟨g, 0, none⟩), .int .i64 3] rfl zD ?_; (with_reducible refine (spec_l01Below.calls g s0_0 t1172 t1173 3 t1174 t1175 t1176 w0 _ ?side1 ?side2 A4.out).mono ?_); (case side1 => repeat (first | (with_reducible first | exact HI0.out | apply IsS103.alloc | apply IsS103.drewN | apply IsS103.drew | apply IsS103.set_1 | apply IsS103.set_2 | refine IsS103.far ?_ NB0_1170.out _) | exact HI0.out)); (case side2 => repeat (first | (with_reducible first | exact HB.out | apply bAl | apply bDN | apply bD1 | refine bSt ?_ (IsS103.ge HI0.out) | refine bSt ?_ GE1170.out) | exact HB.out)); rintro e w9 ⟨rfl, hi, hb, hk⟩; refine ⟨_, rfl, ?_⟩; replace BK1170 := aK (KeepBut.blk hk (g' := gb1170) (o := .cells #[.int .i64 0, .int .i64 0, .int .i64 0] 41 (0, 0)) (zK BK1170) NB1170_0.out (by simp)); replace HK := aK (KeepBut.trans (by repeat (first | (with_reducible first | exact HK.out | apply KeepBut.set_ | apply keep_drewN | apply keep_drew | apply keep_alloc | refine keep_far ?_ GW1170.out _) | exact HK.out)) hk (.inl rfl)); replace HB := aK (hb); replace HI0 := aK (hi); (try clear hb); (try clear hb2); (try clear hk); (try clear hi)) | ((with_reducible refine gate_dst (N := 6) rfl ?_); refine box_event ?hg (N := 6) ?hd (cs := #[.int .i64 0, .int .i64 0]) (t := 39) ?hr ?_; (case hd => rfl); (case hg => rfl); (case hr => first | (go_simp; done) | (go_simp; rfl)); intro gb1177 hg w10 hbox hb; replace HB := aK (bSp (by repeat (first | (with_reducible first | exact HB.out | apply bAl | apply bDN | apply bD1 | refine bSt ?_ (IsS103.ge HI0.out) | refine bSt ?_ GE1170.out) | exact HB.out)) hb); have BK1177 := aK (hbox); have GW1177 := aK ((by rw [hg]; exact (keep_size (w := w) (g := g) (row := none) (by repeat (first | (with_reducible first | exact HK.out | apply KeepBut.set_ | apply keep_drewN | apply keep_drew | apply keep_alloc | refine keep_far ?_ GW1170.out _) | exact HK.out))) : w.heap.size ≤ gb1177)); have GE1177 := aK ((Nat.le_trans HW0.out (by rw [hg]; exact (keep_size (w := w) (g := g) (row := none) (by repeat (first | (with_reducible first | exact HK.out | apply KeepBut.set_ | apply keep_drewN | apply keep_drew | apply keep_alloc | refine keep_far ?_ GW1170.out _) | exact HK.out))) : w.heap.size ≤ gb1177) : w0.heap.size ≤ gb1177)); replace HK := aK (KeepBut.trans (by repeat (first | (with_reducible first | exact HK.out | apply KeepBut.set_ | apply keep_drewN | apply keep_drew | apply keep_alloc | refine keep_far ?_ GW1170.out _) | exact HK.out)) (KeepBut.of_below hb g none) (.inl rfl)); have NB1170_1177 := nbl BK1170 hg (by intro z_; (with_reducible repeat (first | refine kDN ?_ _ | refine kD ?_ | refine kA ?_ _)); exact z_); replace BK1170 := zB BK1170 hb; have NB1177_1170 := nbs NB1170_1177; have NB0_1177 := aK ((by rw [hg]; exact Nat.ne_of_lt (IsS103.lt (show IsS103 w0 _ g s0_0 t1175 t1176 from by repeat (first | (with_reducible first | exact HI0.out | apply IsS103.alloc | apply IsS103.drewN | apply IsS103.drew | apply IsS103.set_1 | apply IsS103.set_2 | refine IsS103.far ?_ NB0_1170.out _) | exact HI0.out))) : g ≠ gb1177)); have NB1177_0 := aK ((by rw [hg]; exact Nat.ne_of_gt (IsS103.lt (show IsS103 w0 _ g s0_0 t1175 t1176 from by repeat (first | (with_reducible first | exact HI0.out | apply IsS103.alloc | apply IsS103.drewN | apply IsS103.drew | apply IsS103.set_1 | apply IsS103.set_2 | refine IsS103.far ?_ NB0_1170.out _) | exact HI0.out))) : gb1177 ≠ g)); replace HI0 := aK (IsS103.below (by repeat (first | (with_reducible first | exact HI0.out | apply IsS103.alloc | apply IsS103.drewN | apply IsS103.drew | apply IsS103.set_1 | apply IsS103.set_2 | refine IsS103.far ?_ NB0_1170.out _) | exact HI0.out)) hb); clear hb hbox hg; have hnb11 := NB1177_1170.out; have hnc11 := NB1170_1177.out; have hnb12 := NB1177_0.out; have hnc12 := NB0_1177.out; obtain ⟨hcz13_0, hcz13_1, hfz13_0, hfz13_1⟩ := cl2 BK1177.out) | ((with_reducible refine gate_callee (f := 79) rfl ?_); refine goesL_ (some 21) rfl rfl Tryd.func79 (by kernel_rfl) rfl #[.pointer (some ⟨g, 0, none⟩), .agg #[.int .i64 (wrap64 (1 + t1171)), .int .i64 (wrap64 (1 + t1174))]] rfl zD ?_; (with_reducible refine (spec_l03Tree.calls k g s0_0 t1175 t1176 (wrap64 (1 + t1171)) (wrap64 (1 + t1174)) t1178 t1179 t1180 t1181 t1182 w0 _ ?side1 ?side2 A5.out).mono ?_); (case side1 => repeat (first | (with_reducible first | exact HI0.out | apply IsS103.alloc | apply IsS103.drewN | apply IsS103.drew | apply IsS103.set_1 | apply IsS103.set_2 | refine IsS103.far ?_ NB0_1170.out _ | refine IsS103.far ?_ NB0_1177.out _) | exact HI0.out)); (case side2 => repeat (first | (with_reducible first | exact HB.out | apply bAl | apply bDN | apply bD1 | refine bSt ?_ (IsS103.ge HI0.out) | refine bSt ?_ GE1170.out | refine bSt ?_ GE1177.out) | exact HB.out)); rintro e w14 ⟨rfl, hi, hb, hk⟩; refine ⟨_, rfl, ?_⟩; replace BK1170 := aK (KeepBut.blk hk (g' := gb1170) (o := .cells #[.int .i64 0, .int .i64 0, .int .i64 0] 41 (0, 0)) (by (with_reducible repeat (first | refine kDN ?_ _ | refine kD ?_ | refine kA ?_ _)); refine blk_far ?_ NB1170_1177.out _; (with_reducible repeat (first | refine kDN ?_ _ | refine kD ?_ | refine kA ?_ _)); refine blk_far ?_ NB1170_1177.out _; (with_reducible repeat (first | refine kDN ?_ _ | refine kD ?_ | refine kA ?_ _)); exact BK1170.out) NB1170_0.out (by simp)); replace BK1177 := aK (KeepBut.blk hk (g' := gb1177) (o := .cells #[.int .i64 (wrap64 (1 + t1171)), .int .i64 (wrap64 (1 + t1174))] 39 (0, 0)) (by (with_reducible repeat (first | refine kDN ?_ _ | refine kD ?_ | refine kA ?_ _)); refine blk_put (cs := #[.int .i64 (wrap64 (1 + t1171)), .int .i64 0]) ?_ 1 _ rfl; (with_reducible repeat (first | refine kDN ?_ _ | refine kD ?_ | refine kA ?_ _)); refine blk_put (cs := #[.int .i64 0, .int .i64 0]) ?_ 0 _ rfl; (with_reducible repeat (first | refine kDN ?_ _ | refine kD ?_ | refine kA ?_ _)); exact BK1177.out) NB1177_0.out (by simp)); replace HK := aK (KeepBut.trans (by repeat (first | (with_reducible first | exact HK.out | apply KeepBut.set_ | apply keep_drewN | apply keep_drew | apply keep_alloc | refine keep_far ?_ GW1170.out _ | refine keep_far ?_ GW1177.out _) | exact HK.out)) hk (.inl rfl)); replace HB := aK (hb); replace HI0 := aK (hi); (try clear hb); (try clear hb2); (try clear hk); (try clear hi)) | ((with_reducible refine gate_dst (N := 7) rfl ?_); refine box_event ?hg (N := 7) ?hd (cs := #[.int .i64 0, .int .i64 0, .int .i64 0]) (t := 41) ?hr ?_; (case hd => rfl); (case hg => rfl); (case hr => first | (go_simp; done) | (go_simp; rfl)); intro gb1183 hg w15 hbox hb; replace HB := aK (bSp (by repeat (first | (with_reducible first | exact HB.out | apply bAl | apply bDN | apply bD1 | refine bSt ?_ (IsS103.ge HI0.out) | refine bSt ?_ GE1170.out | refine bSt ?_ GE1177.out) | exact HB.out)) hb); have BK1183 := aK (hbox); have GW1183 := aK ((by rw [hg]; exact (keep_size (w := w) (g := g) (row := none) (by repeat (first | (with_reducible first | exact HK.out | apply KeepBut.set_ | apply keep_drewN | apply keep_drew | apply keep_alloc | refine keep_far ?_ GW1170.out _ | refine keep_far ?_ GW1177.out _) | exact HK.out))) : w.heap.size ≤ gb1183)); have GE1183 := aK ((Nat.le_trans HW0.out (by rw [hg]; exact (keep_size (w := w) (g := g) (row := none) (by repeat (first | (with_reducible first | exact HK.out | apply KeepBut.set_ | apply keep_drewN | apply keep_drew | apply keep_alloc | refine keep_far ?_ GW1170.out _ | refine keep_far ?_ GW1177.out _) | exact HK.out))) : w.heap.size ≤ gb1183) : w0.heap.size ≤ gb1183)); replace HK := aK (KeepBut.trans (by repeat (first | (with_reducible first | exact HK.out | apply KeepBut.set_ | apply keep_drewN | apply keep_drew | apply keep_alloc | refine keep_far ?_ GW1170.out _ | refine keep_far ?_ GW1177.out _) | exact HK.out)) (KeepBut.of_below hb g none) (.inl rfl)); have NB1170_1183 := nbl BK1170 hg (by intro z_; (with_reducible repeat (first | refine kDN ?_ _ | refine kD ?_ | refine kA ?_ _)); exact z_); replace BK1170 := zB BK1170 hb; have NB1183_1170 := nbs NB1170_1183; have NB1177_1183 := nbl BK1177 hg (by intro z_; (with_reducible repeat (first | refine kDN ?_ _ | refine kD ?_ | refine kA ?_ _)); exact z_); replace BK1177 := zB BK1177 hb; have NB1183_1177 := nbs NB1177_1183; have NB0_1183 := aK ((by rw [hg]; exact Nat.ne_of_lt (IsS103.lt (show IsS103 w0 _ g s0_0 t1181 t1182 from by repeat (first | (with_reducible first | exact HI0.out | apply IsS103.alloc | apply IsS103.drewN | apply IsS103.drew | apply IsS103.set_1 | apply IsS103.set_2 | refine IsS103.far ?_ NB0_1170.out _ | refine IsS103.far ?_ NB0_1177.out _) | exact HI0.out))) : g ≠ gb1183)); have NB1183_0 := aK ((by rw [hg]; exact Nat.ne_of_gt (IsS103.lt (show IsS103 w0 _ g s0_0 t1181 t1182 from by repeat (first | (with_reducible first | exact HI0.out | apply IsS103.alloc | apply IsS103.drewN | apply IsS103.drew | apply IsS103.set_1 | apply IsS103.set_2 | refine IsS103.far ?_ NB0_1170.out _ | refine IsS103.far ?_ NB0_1177.out _) | exact HI0.out))) : gb1183 ≠ g)); replace HI0 := aK (IsS103.below (by repeat (first | (with_reducible first | exact HI0.out | apply IsS103.alloc | apply IsS103.drewN | apply IsS103.drew | apply IsS103.set_1 | apply IsS103.set_2 | refine IsS103.far ?_ NB0_1170.out _ | refine IsS103.far ?_ NB0_1177.out _) | exact HI0.out)) hb); clear hb hbox hg; have hnb16 := NB1183_1170.out; have hnc16 := NB1170_1183.out; have hnb17 := NB1183_1177.out; have hnc17 := NB1177_1183.out; have hnb18 := NB1183_0.out; have hnc18 := NB0_1183.out; obtain ⟨hcz19_0, hcz19_1, hcz19_2, hfz19_0, hfz19_1, hfz19_2⟩ := cl3 BK1183.out))
 (try simp only [Act.put, sTA, sZ, sS])
 go_cut [28] (fun v28 wc => ∃ (kq : Nat) (x28_5 : Bool) (x1001_5 : Int) (x1002_5 : Int), v28 = .bool x28_5 ∧ Aside0 (spec_l31Crowd.j0 kq a1 x28_5 s0_0 x1001_5 x1002_5 (wrap64 (1 + t1171)) (wrap64 (1 + t1174)) t1178 t1179 t1180 = some (r1, r2, r3, r4, r5, r6)) ∧ Aside0 (kq ≤ k) ∧ Aside0 (wc.heap[gb1170]? = some (.cells #[.int .i64 0, .int .i64 0, .int .i64 0] 41 (0, 0))) ∧ Aside0 (wc.heap[gb1177]? = some (.cells #[.int .i64 (wrap64 (1 + t1171)), .int .i64 (wrap64 (1 + t1174))] 39 (0, 0))) ∧ Aside0 (wc.heap[gb1183]? = some (.cells #[.int .i64 t1178, .int .i64 t1179, .int .i64 t1180] 41 (0, 0))) ∧ Aside0 (IsS103 w0 wc g s0_0 x1001_5 x1002_5) ∧ Aside0 (KeepBut w wc g none) ∧ Aside0 (Below w0.heap.size w0 wc))
 case first =>
  have H := HC6.out
  clear HC6
  replace H := Option.bind_eq_some_iff.mp H
  obtain ⟨t1184, A200, H⟩ := H
  replace H : (if t1184 > 0 then ((spec_l01Once.f s0_0 t1181 t1182 2).bind fun bt1185 => (spec_l31Crowd.j0 k a1 bt1185.1 s0_0 bt1185.2.1 bt1185.2.2 (wrap64 (1 + t1171)) (wrap64 (1 + t1174)) t1178 t1179 t1180)) else (spec_l31Crowd.j0 k a1 false s0_0 t1181 t1182 (wrap64 (1 + t1171)) (wrap64 (1 + t1174)) t1178 t1179 t1180)) = some (r1, r2, r3, r4, r5, r6) := H
  have A20 := aK A200
  clear A200
  by_cases c21 : t1184 > 0
  ·rw [if_pos c21] at H
   have c21b0 : decide (0 < t1184) = true := decide_eq_true c21
   clear c21
   (first | rw [c21b0] | (simp only [i64_w, i32_w]; rw [c21b0]) | skip)
   replace H := Option.bind_eq_some_iff.mp H
   obtain ⟨⟨t1185, t1186, t1187⟩, A220, H⟩ := H
   replace H : (spec_l31Crowd.j0 k a1 t1185 s0_0 t1186 t1187 (wrap64 (1 + t1171)) (wrap64 (1 + t1174)) t1178 t1179 t1180) = some (r1, r2, r3, r4, r5, r6) := H
   have A22 := aK A220
   clear A220
   have H' := aK H
   clear H
   have hnb23 := NB1177_1170.out
   have hnc23 := NB1170_1177.out
   have hnb24 := NB1177_1183.out
   have hnc24 := NB1183_1177.out
   have hnb25 := NB1177_0.out
   have hnc25 := NB0_1177.out
   obtain ⟨hcz26_0, hcz26_1, hfz26_0, hfz26_1⟩ := cl2 BK1177.out
   go_wp2_with (first | ((with_reducible refine gate_callee (f := 80) rfl ?_); refine goesL_ (some 23) rfl rfl Tryd.func80 (by kernel_rfl) rfl #[.agg #[.int .i64 (wrap64 (1 + t1171)), .int .i64 (wrap64 (1 + t1174))]] rfl zD ?_; (with_reducible refine (spec_CountGaps.calls (wrap64 (1 + t1171)) (wrap64 (1 + t1174)) t1184 _ A20.out).mono ?_); rintro e w27 ⟨rfl, hb⟩; refine ⟨_, rfl, ?_⟩; replace BK1170 := zG3 BK1170 NB1170_1183 hb; replace BK1177 := zG3 BK1177 NB1177_1183 hb; replace BK1183 := aK (blk_below (g := gb1183) (o := .cells #[.int .i64 t1178, .int .i64 t1179, .int .i64 t1180] 41 (0, 0)) (by (with_reducible repeat (first | refine kDN ?_ _ | refine kD ?_ | refine kA ?_ _)); refine blk_put (cs := #[.int .i64 t1178, .int .i64 t1179, .int .i64 0]) ?_ 2 _ rfl; (with_reducible repeat (first | refine kDN ?_ _ | refine kD ?_ | refine kA ?_ _)); refine blk_put (cs := #[.int .i64 t1178, .int .i64 0, .int .i64 0]) ?_ 1 _ rfl; (with_reducible repeat (first | refine kDN ?_ _ | refine kD ?_ | refine kA ?_ _)); refine blk_put (cs := #[.int .i64 0, .int .i64 0, .int .i64 0]) ?_ 0 _ rfl; (with_reducible repeat (first | refine kDN ?_ _ | refine kD ?_ | refine kA ?_ _)); exact BK1183.out) hb); replace HK := aK (KeepBut.trans (by repeat (first | (with_reducible first | exact HK.out | apply KeepBut.set_ | apply keep_drewN | apply keep_drew | apply keep_alloc | refine keep_far ?_ GW1170.out _ | refine keep_far ?_ GW1177.out _ | refine keep_far ?_ GW1183.out _) | exact HK.out)) (KeepBut.of_below hb g none) (.inl rfl)); replace HB := aK (bSp (by repeat (first | (with_reducible first | exact HB.out | apply bAl | apply bDN | apply bD1 | refine bSt ?_ (IsS103.ge HI0.out) | refine bSt ?_ GE1170.out | refine bSt ?_ GE1177.out | refine bSt ?_ GE1183.out) | exact HB.out)) hb); replace HI0 := aK (IsS103.below (show IsS103 w0 (((w15.setCell ⟨gb1183, 0, none⟩ (.int .i64 t1178)).setCell ⟨gb1183, 1, none⟩ (.int .i64 t1179)).setCell ⟨gb1183, 2, none⟩ (.int .i64 t1180)) g s0_0 t1181 t1182 from by repeat (first | (with_reducible first | exact HI0.out | apply IsS103.alloc | apply IsS103.drewN | apply IsS103.drew | apply IsS103.set_1 | apply IsS103.set_2 | refine IsS103.far ?_ NB0_1170.out _ | refine IsS103.far ?_ NB0_1177.out _ | refine IsS103.far ?_ NB0_1183.out _) | exact HI0.out)) hb); (try clear hb); (try clear hb2); (try clear hk); (try clear hi)) | (go_at_call 68; (with_reducible refine (spec_l01Once.calls g s0_0 t1181 t1182 2 t1185 t1186 t1187 w0 _ ?side1 ?side2 A22.out).mono ?_); (case side1 => repeat (first | (with_reducible first | exact HI0.out | apply IsS103.alloc | apply IsS103.drewN | apply IsS103.drew | apply IsS103.set_1 | apply IsS103.set_2 | refine IsS103.far ?_ NB0_1170.out _ | refine IsS103.far ?_ NB0_1177.out _ | refine IsS103.far ?_ NB0_1183.out _) | exact HI0.out)); (case side2 => repeat (first | (with_reducible first | exact HB.out | apply bAl | apply bDN | apply bD1 | refine bSt ?_ (IsS103.ge HI0.out) | refine bSt ?_ GE1170.out | refine bSt ?_ GE1177.out | refine bSt ?_ GE1183.out) | exact HB.out)); rintro e w28 ⟨rfl, hi, hb, hk⟩; replace BK1170 := aK (KeepBut.blk hk (g' := gb1170) (o := .cells #[.int .i64 0, .int .i64 0, .int .i64 0] 41 (0, 0)) (zK BK1170) NB1170_0.out (by simp)); replace BK1177 := aK (KeepBut.blk hk (g' := gb1177) (o := .cells #[.int .i64 (wrap64 (1 + t1171)), .int .i64 (wrap64 (1 + t1174))] 39 (0, 0)) (zK BK1177) NB1177_0.out (by simp)); replace BK1183 := aK (KeepBut.blk hk (g' := gb1183) (o := .cells #[.int .i64 t1178, .int .i64 t1179, .int .i64 t1180] 41 (0, 0)) (zK BK1183) NB1183_0.out (by simp)); replace HK := aK (KeepBut.trans (by repeat (first | (with_reducible first | exact HK.out | apply KeepBut.set_ | apply keep_drewN | apply keep_drew | apply keep_alloc | refine keep_far ?_ GW1170.out _ | refine keep_far ?_ GW1177.out _ | refine keep_far ?_ GW1183.out _) | exact HK.out)) hk (.inl rfl)); replace HB := aK (hb); replace HI0 := aK (hi); (try clear hb); (try clear hb2); (try clear hk); (try clear hi)))
   go_meet
   case rel => exact ⟨_, (t1185), (t1186), (t1187), (by first | rfl | (simp; done) | (simp [*]; done)), H', ⟨by first | omega | exact Nat.le_refl _⟩, ⟨zK BK1170⟩, ⟨zK BK1177⟩, ⟨zK BK1183⟩, ⟨by repeat (first | (with_reducible first | exact HI0.out | apply IsS103.alloc | apply IsS103.drewN | apply IsS103.drew | apply IsS103.set_1 | apply IsS103.set_2 | refine IsS103.far ?_ NB0_1170.out _ | refine IsS103.far ?_ NB0_1177.out _ | refine IsS103.far ?_ NB0_1183.out _) | exact HI0.out)⟩, ⟨by repeat (first | (with_reducible first | exact HK.out | apply KeepBut.set_ | apply keep_drewN | apply keep_drew | apply keep_alloc | refine keep_far ?_ GW1170.out _ | refine keep_far ?_ GW1177.out _ | refine keep_far ?_ GW1183.out _) | exact HK.out)⟩, ⟨by repeat (first | (with_reducible first | exact HB.out | apply bAl | apply bDN | apply bD1 | refine bSt ?_ (IsS103.ge HI0.out) | refine bSt ?_ GE1170.out | refine bSt ?_ GE1177.out | refine bSt ?_ GE1183.out) | exact HB.out)⟩⟩
  ·rw [if_neg c21] at H
   have c21b0 : decide (0 < t1184) = false := decide_eq_false c21
   clear c21
   (first | rw [c21b0] | (simp only [i64_w, i32_w]; rw [c21b0]) | skip)
   have H' := aK H
   clear H
   have hnb29 := NB1177_1170.out
   have hnc29 := NB1170_1177.out
   have hnb30 := NB1177_1183.out
   have hnc30 := NB1183_1177.out
   have hnb31 := NB1177_0.out
   have hnc31 := NB0_1177.out
   obtain ⟨hcz32_0, hcz32_1, hfz32_0, hfz32_1⟩ := cl2 BK1177.out
   go_wp2_with (first | ((with_reducible refine gate_callee (f := 80) rfl ?_); refine goesL_ (some 23) rfl rfl Tryd.func80 (by kernel_rfl) rfl #[.agg #[.int .i64 (wrap64 (1 + t1171)), .int .i64 (wrap64 (1 + t1174))]] rfl zD ?_; (with_reducible refine (spec_CountGaps.calls (wrap64 (1 + t1171)) (wrap64 (1 + t1174)) t1184 _ A20.out).mono ?_); rintro e w33 ⟨rfl, hb⟩; refine ⟨_, rfl, ?_⟩; replace BK1170 := zG3 BK1170 NB1170_1183 hb; replace BK1177 := zG3 BK1177 NB1177_1183 hb; replace BK1183 := aK (blk_below (g := gb1183) (o := .cells #[.int .i64 t1178, .int .i64 t1179, .int .i64 t1180] 41 (0, 0)) (by (with_reducible repeat (first | refine kDN ?_ _ | refine kD ?_ | refine kA ?_ _)); refine blk_put (cs := #[.int .i64 t1178, .int .i64 t1179, .int .i64 0]) ?_ 2 _ rfl; (with_reducible repeat (first | refine kDN ?_ _ | refine kD ?_ | refine kA ?_ _)); refine blk_put (cs := #[.int .i64 t1178, .int .i64 0, .int .i64 0]) ?_ 1 _ rfl; (with_reducible repeat (first | refine kDN ?_ _ | refine kD ?_ | refine kA ?_ _)); refine blk_put (cs := #[.int .i64 0, .int .i64 0, .int .i64 0]) ?_ 0 _ rfl; (with_reducible repeat (first | refine kDN ?_ _ | refine kD ?_ | refine kA ?_ _)); exact BK1183.out) hb); replace HK := aK (KeepBut.trans (by repeat (first | (with_reducible first | exact HK.out | apply KeepBut.set_ | apply keep_drewN | apply keep_drew | apply keep_alloc | refine keep_far ?_ GW1170.out _ | refine keep_far ?_ GW1177.out _ | refine keep_far ?_ GW1183.out _) | exact HK.out)) (KeepBut.of_below hb g none) (.inl rfl)); replace HB := aK (bSp (by repeat (first | (with_reducible first | exact HB.out | apply bAl | apply bDN | apply bD1 | refine bSt ?_ (IsS103.ge HI0.out) | refine bSt ?_ GE1170.out | refine bSt ?_ GE1177.out | refine bSt ?_ GE1183.out) | exact HB.out)) hb); replace HI0 := aK (IsS103.below (show IsS103 w0 (((w15.setCell ⟨gb1183, 0, none⟩ (.int .i64 t1178)).setCell ⟨gb1183, 1, none⟩ (.int .i64 t1179)).setCell ⟨gb1183, 2, none⟩ (.int .i64 t1180)) g s0_0 t1181 t1182 from by repeat (first | (with_reducible first | exact HI0.out | apply IsS103.alloc | apply IsS103.drewN | apply IsS103.drew | apply IsS103.set_1 | apply IsS103.set_2 | refine IsS103.far ?_ NB0_1170.out _ | refine IsS103.far ?_ NB0_1177.out _ | refine IsS103.far ?_ NB0_1183.out _) | exact HI0.out)) hb); (try clear hb); (try clear hb2); (try clear hk); (try clear hi)))
   go_meet
   case rel => exact ⟨_, (false), (t1181), (t1182), (by first | rfl | (simp; done) | (simp [*]; done)), H', ⟨by first | omega | exact Nat.le_refl _⟩, ⟨zK BK1170⟩, ⟨zK BK1177⟩, ⟨zK BK1183⟩, ⟨by repeat (first | (with_reducible first | exact HI0.out | apply IsS103.alloc | apply IsS103.drewN | apply IsS103.drew | apply IsS103.set_1 | apply IsS103.set_2 | refine IsS103.far ?_ NB0_1170.out _ | refine IsS103.far ?_ NB0_1177.out _ | refine IsS103.far ?_ NB0_1183.out _) | exact HI0.out)⟩, ⟨by repeat (first | (with_reducible first | exact HK.out | apply KeepBut.set_ | apply keep_drewN | apply keep_drew | apply keep_alloc | refine keep_far ?_ GW1170.out _ | refine keep_far ?_ GW1177.out _ | refine keep_far ?_ GW1183.out _) | exact HK.out)⟩, ⟨by repeat (first | (with_reducible first | exact HB.out | apply bAl | apply bDN | apply bD1 | refine bSt ?_ (IsS103.ge HI0.out) | refine bSt ?_ GE1170.out | refine bSt ?_ GE1177.out | refine bSt ?_ GE1183.out) | exact HB.out)⟩⟩
 case rest =>
  clear HC6
  try clear c1
  try clear c2
  try clear p2
  try clear c3
  try clear c5
  try clear p6
  try clear c7
  try clear c8
  try clear c11
  try clear c12
  try clear c16
  try clear c17
  try clear c18
  try clear c21
  try clear c21b0
  try clear c23
  try clear c24
  try clear c25
  try clear c29
  try clear c30
  try clear c31
  try clear hcz13_0
  try clear hcz13_1
  try clear hcz19_0
  try clear hcz19_1
  try clear hcz19_2
  try clear hcz26_0
  try clear hcz26_1
  try clear hcz32_0
  try clear hcz32_1
  try clear hfz13_0
  try clear hfz13_1
  try clear hfz19_0
  try clear hfz19_1
  try clear hfz19_2
  try clear hfz26_0
  try clear hfz26_1
  try clear hfz32_0
  try clear hfz32_1
  obtain ⟨kq, x28_5, x1001_5, x1002_5, rfl, HA, HJ5, BK1170, BK1177, BK1183, HI0, HK, HB⟩ := hcut
  cases kq with
  | zero => exact absurd HA.out (by simp [spec_l31Crowd.j0])
  | succ kj5 =>
   have H := HA.out
   clear HA
   simp only [spec_l31Crowd.j0] at H
   have HC34 := aK H
   clear H
   go_upto_if 28 with (fail)
   go_cut [] (fun wc => ∃ (kq : Nat) (x1001_33 : Int) (x1002_33 : Int) (x1184000_33 : Int) (x1184001_33 : Int) (x1184002_33 : Int), Aside0 (spec_l31Crowd.j1 kq a1 s0_0 x1001_33 x1002_33 (wrap64 (1 + t1171)) (wrap64 (1 + t1174)) x1184000_33 x1184001_33 x1184002_33 = some (r1, r2, r3, r4, r5, r6)) ∧ Aside0 (kq ≤ kj5) ∧ Aside0 (wc.heap[gb1170]? = some (.cells #[.int .i64 0, .int .i64 0, .int .i64 0] 41 (0, 0))) ∧ Aside0 (wc.heap[gb1177]? = some (.cells #[.int .i64 (wrap64 (1 + t1171)), .int .i64 (wrap64 (1 + t1174))] 39 (0, 0))) ∧ Aside0 (wc.heap[gb1183]? = some (.cells #[.int .i64 x1184000_33, .int .i64 x1184001_33, .int .i64 x1184002_33] 41 (0, 0))) ∧ Aside0 (IsS103 w0 wc g s0_0 x1001_33 x1002_33) ∧ Aside0 (KeepBut w wc g none) ∧ Aside0 (Below w0.heap.size w0 wc))
   case first =>
    have H := HC34.out
    clear HC34
    by_cases c35 : x28_5 = true
    ·subst c35
     have H1 : ((spec_CountGaps.f (wrap64 (1 + t1171)) (wrap64 (1 + t1174))).bind fun t1188 => ((spec_l01Below.f s0_0 x1001_5 x1002_5 t1188).bind fun bt1189 => ((spec_SetGap.f kj5 t1178 t1179 t1180 bt1189.1 true).bind fun bt1192 => (spec_l31Crowd.j1 kj5 a1 s0_0 bt1189.2.1 bt1189.2.2 (wrap64 (1 + t1171)) (wrap64 (1 + t1174)) bt1192.1 bt1192.2.1 bt1192.2.2.1)))) = some (r1, r2, r3, r4, r5, r6) := by rw [if_pos rfl] at H; exact H
     clear H
     have H := H1
     clear H1
     replace H := Option.bind_eq_some_iff.mp H
     obtain ⟨t1188, A360, H⟩ := H
     replace H : ((spec_l01Below.f s0_0 x1001_5 x1002_5 t1188).bind fun bt1189 => ((spec_SetGap.f kj5 t1178 t1179 t1180 bt1189.1 true).bind fun bt1192 => (spec_l31Crowd.j1 kj5 a1 s0_0 bt1189.2.1 bt1189.2.2 (wrap64 (1 + t1171)) (wrap64 (1 + t1174)) bt1192.1 bt1192.2.1 bt1192.2.2.1))) = some (r1, r2, r3, r4, r5, r6) := H
     have A36 := aK A360
     clear A360
     replace H := Option.bind_eq_some_iff.mp H
     obtain ⟨⟨t1189, t1190, t1191⟩, A370, H⟩ := H
     replace H : ((spec_SetGap.f kj5 t1178 t1179 t1180 t1189 true).bind fun bt1192 => (spec_l31Crowd.j1 kj5 a1 s0_0 t1190 t1191 (wrap64 (1 + t1171)) (wrap64 (1 + t1174)) bt1192.1 bt1192.2.1 bt1192.2.2.1)) = some (r1, r2, r3, r4, r5, r6) := H
     have A37 := aK A370
     clear A370
     replace H := Option.bind_eq_some_iff.mp H
     obtain ⟨⟨t1192, t1193, t1194, t1195⟩, A380, H⟩ := H
     replace H : (spec_l31Crowd.j1 kj5 a1 s0_0 t1190 t1191 (wrap64 (1 + t1171)) (wrap64 (1 + t1174)) t1192 t1193 t1194) = some (r1, r2, r3, r4, r5, r6) := H
     have A38 := aK A380
     clear A380
     have H' := aK H
     clear H
     try go_wp2
     have n0_ := aK (kD BK1170.out)
     have n1_ := aK (kD BK1177.out)
     have n2_ := aK (kD BK1183.out)
     have n3_ := aK (IsS103.drew HI0.out)
     have n4_ := aK (keep_drew HK.out)
     have n5_ := aK (bD1 HB.out)
     clear BK1170
     clear BK1177
     clear BK1183
     clear HI0
     clear HK
     clear HB
     have BK1170 := n0_
     have BK1177 := n1_
     have BK1183 := n2_
     have HI0 := n3_
     have HK := n4_
     have HB := n5_
     clear n0_ n1_ n2_ n3_ n4_ n5_
     refine start_ (n := 10) (S := fun w' => w'.cell? ⟨gb1183, 0, none⟩ = some (.int .i64 t1178) ∧ w'.cell? ⟨gb1183, 1, none⟩ = some (.int .i64 t1179) ∧ w'.cell? ⟨gb1183, 2, none⟩ = some (.int .i64 t1180) ∧ w'.cell? ⟨gb1177, 0, none⟩ = some (.int .i64 (wrap64 (1 + t1171))) ∧ w'.cell? ⟨gb1177, 1, none⟩ = some (.int .i64 (wrap64 (1 + t1174)))) (ds := [9]) #[bN,bN,bN,bN,bN,bN,bN,bN,bN,bN] (by kernel_rfl) rfl rfl ⟨zQ BK1183 0, zQ BK1183 1, zQ BK1183 2, zQ BK1177 0, zQ BK1177 1⟩ (fun hHeld => ?_); refine with_tabW spec_l31Crowd.tab4 spec_l31Crowd.bits4 (fun HT_ HW_ => ?_)
     generalize wc.drew = w39 at BK1170 BK1177 BK1183 HI0 HK HB hHeld ⊢
     refine pure_ (i := 1) (N := some 31) (v := ?_) (a' := ?_) #[bN,bY,bN,bN,bN,bN,bN,bN,bN,bN] rfl rfl (any_of HT_.out (by kernel_rfl)) (fun _ _ _ h => h) (Or.inl ⟨by rfl, ?_⟩) ?_ ?_
     rotate_left
     ·intro w'
      go_simp
      with_reducible rfl
     rotate_left
     ·simp only [Act.put, sTA, sZ, sS, i64_w, i32_w]
      rfl
     refine take_ (i := 0) (N := some 30) (v := ?_) (a' := ?_) #[bY,bY,bN,bN,bN,bN,bN,bN,bN,bN] rfl rfl (take_ofW HT_.out HW_.out (by kernel_rfl)) (fun _ _ _ h => h) (Or.inl ⟨by rfl, ?_⟩) hHeld ?_ ?_
     rotate_left
     ·rintro w' ⟨s0, s1, s2, s3, s4⟩
      go_simp
      with_reducible rfl
     rotate_left
     ·simp only [Act.put, sTA, sZ, sS, i64_w, i32_w]
      rfl
     refine take_ (i := 2) (N := some 32) (v := ?_) (a' := ?_) #[bY,bY,bY,bN,bN,bN,bN,bN,bN,bN] rfl rfl (take_ofW HT_.out HW_.out (by kernel_rfl)) (fun _ _ _ h => h) (Or.inl ⟨by rfl, ?_⟩) hHeld ?_ ?_
     rotate_left
     ·rintro w' ⟨s0, s1, s2, s3, s4⟩
      go_simp
      with_reducible rfl
     rotate_left
     ·simp only [Act.put, sTA, sZ, sS, i64_w, i32_w]
      rfl
     refine one_ (i := 3) (N := some 33) #[bY,bY,bY,bY,bN,bN,bN,bN,bN,bN] rfl rfl (one_of HT_.out (by kernel_rfl)) (by decide) (fun K hK => ?_)
     refine goes_ Tryd.func80 (by kernel_rfl) rfl #[.agg #[.int .i64 (wrap64 (1 + t1171)), .int .i64 (wrap64 (1 + t1174))]] (by rfl) rfl rfl zD ?_
     with_reducible refine (spec_CountGaps.calls (wrap64 (1 + t1171)) (wrap64 (1 + t1174)) t1188 _ A36.out).mono ?_
     rintro e w40 ⟨rfl, hb⟩
     refine ⟨_, rfl, ?_⟩
     have n0_ := zB BK1170 hb
     have n1_ := zB BK1177 hb
     have n2_ := zB BK1183 hb
     have n3_ := aK (IsS103.below (by repeat (first | (with_reducible first | exact HI0.out | apply IsS103.alloc | apply IsS103.drewN | apply IsS103.drew | apply IsS103.set_1 | apply IsS103.set_2 | refine IsS103.far ?_ NB0_1170.out _ | refine IsS103.far ?_ NB0_1177.out _ | refine IsS103.far ?_ NB0_1183.out _) | exact HI0.out)) hb)
     have n4_ := aK (KeepBut.trans (by repeat (first | (with_reducible first | exact HK.out | apply KeepBut.set_ | apply keep_drewN | apply keep_drew | apply keep_alloc | refine keep_far ?_ GW1170.out _ | refine keep_far ?_ GW1177.out _ | refine keep_far ?_ GW1183.out _) | exact HK.out)) (KeepBut.of_below hb g none) (.inl rfl))
     have n5_ := aK (bSp (by repeat (first | (with_reducible first | exact HB.out | apply bAl | apply bDN | apply bD1 | refine bSt ?_ (IsS103.ge HI0.out) | refine bSt ?_ GE1170.out | refine bSt ?_ GE1177.out | refine bSt ?_ GE1183.out) | exact HB.out)) hb)
     clear BK1170
     clear BK1177
     clear BK1183
     clear HI0
     clear HK
     clear HB
     have BK1170 := n0_
     have BK1177 := n1_
     have BK1183 := n2_
     have HI0 := n3_
     have HK := n4_
     have HB := n5_
     clear n0_ n1_ n2_ n3_ n4_ n5_
     (try clear hb)
     (try clear hb2)
     (try clear hk)
     (try clear hi)
     refine hK.out _ _ ⟨zQ BK1183 0, zQ BK1183 1, zQ BK1183 2, zQ BK1177 0, zQ BK1177 1⟩ (fun hHeld => ?_)
     clear hK K
     refine norm_ (a' := ?_) ?_ ?_
     rotate_left
     ·show Act.put _ (some 33) _ = _
      simp only [Act.put, sTA, sZ, sS, i64_w, i32_w]
      rfl
     refine one_ (i := 4) (N := some 34) #[bY,bY,bY,bY,bY,bN,bN,bN,bN,bN] rfl rfl (one_of HT_.out (by kernel_rfl)) (by decide) (fun K hK => ?_)
     refine goes_ Tryd.func71 (by kernel_rfl) rfl #[.pointer (some ⟨g, 0, none⟩), .int .i64 t1188] (by rfl) rfl rfl zD ?_
     with_reducible refine (spec_l01Below.calls g s0_0 x1001_5 x1002_5 t1188 t1189 t1190 t1191 w0 _ ?side1 ?side2 A37.out).mono ?_
     (case side1 => repeat (first | (with_reducible first | exact HI0.out | apply IsS103.alloc | apply IsS103.drewN | apply IsS103.drew | apply IsS103.set_1 | apply IsS103.set_2 | refine IsS103.far ?_ NB0_1170.out _ | refine IsS103.far ?_ NB0_1177.out _ | refine IsS103.far ?_ NB0_1183.out _) | exact HI0.out))
     (case side2 => repeat (first | (with_reducible first | exact HB.out | apply bAl | apply bDN | apply bD1 | refine bSt ?_ (IsS103.ge HI0.out) | refine bSt ?_ GE1170.out | refine bSt ?_ GE1177.out | refine bSt ?_ GE1183.out) | exact HB.out))
     rintro e w41 ⟨rfl, hi, hb, hk⟩
     refine ⟨_, rfl, ?_⟩
     have n0_ := aK (KeepBut.blk hk (g' := gb1170) (o := .cells #[.int .i64 0, .int .i64 0, .int .i64 0] 41 (0, 0)) (zK BK1170) NB1170_0.out (by simp))
     have n1_ := aK (KeepBut.blk hk (g' := gb1177) (o := .cells #[.int .i64 (wrap64 (1 + t1171)), .int .i64 (wrap64 (1 + t1174))] 39 (0, 0)) (zK BK1177) NB1177_0.out (by simp))
     have n2_ := aK (KeepBut.blk hk (g' := gb1183) (o := .cells #[.int .i64 t1178, .int .i64 t1179, .int .i64 t1180] 41 (0, 0)) (zK BK1183) NB1183_0.out (by simp))
     have n3_ := aK (KeepBut.trans (by repeat (first | (with_reducible first | exact HK.out | apply KeepBut.set_ | apply keep_drewN | apply keep_drew | apply keep_alloc | refine keep_far ?_ GW1170.out _ | refine keep_far ?_ GW1177.out _ | refine keep_far ?_ GW1183.out _) | exact HK.out)) hk (.inl rfl))
     have n4_ := aK (hb)
     have n5_ := aK (hi)
     clear BK1170
     clear BK1177
     clear BK1183
     clear HK
     clear HB
     clear HI0
     have BK1170 := n0_
     have BK1177 := n1_
     have BK1183 := n2_
     have HK := n3_
     have HB := n4_
     have HI0 := n5_
     clear n0_ n1_ n2_ n3_ n4_ n5_
     (try clear hb)
     (try clear hb2)
     (try clear hk)
     (try clear hi)
     refine hK.out _ _ ⟨zQ BK1183 0, zQ BK1183 1, zQ BK1183 2, zQ BK1177 0, zQ BK1177 1⟩ (fun hHeld => ?_)
     clear hK K
     refine norm_ (a' := ?_) ?_ ?_
     rotate_left
     ·show Act.put _ (some 34) _ = _
      simp only [Act.put, sTA, sZ, sS, i64_w, i32_w]
      rfl
     refine one_ (i := 5) (N := some 35) #[bY,bY,bY,bY,bY,bY,bN,bN,bN,bN] rfl rfl (one_of HT_.out (by kernel_rfl)) (by decide) (fun K hK => ?_)
     refine goes_ Tryd.func81 (by kernel_rfl) rfl #[.agg #[.int .i64 t1178, .int .i64 t1179, .int .i64 t1180], .int .i64 t1189, .bool true] (by rfl) rfl rfl zD ?_
     with_reducible refine (spec_SetGap.calls kj5 t1178 t1179 t1180 t1189 true t1192 t1193 t1194 t1195 _ A38.out).mono ?_
     rintro e w42 ⟨rfl, hb⟩
     refine ⟨_, rfl, ?_⟩
     have n0_ := zB BK1170 hb
     have n1_ := zB BK1177 hb
     have n2_ := zB BK1183 hb
     have n3_ := aK (IsS103.below (by repeat (first | (with_reducible first | exact HI0.out | apply IsS103.alloc | apply IsS103.drewN | apply IsS103.drew | apply IsS103.set_1 | apply IsS103.set_2 | refine IsS103.far ?_ NB0_1170.out _ | refine IsS103.far ?_ NB0_1177.out _ | refine IsS103.far ?_ NB0_1183.out _) | exact HI0.out)) hb)
     have n4_ := aK (KeepBut.trans (by repeat (first | (with_reducible first | exact HK.out | apply KeepBut.set_ | apply keep_drewN | apply keep_drew | apply keep_alloc | refine keep_far ?_ GW1170.out _ | refine keep_far ?_ GW1177.out _ | refine keep_far ?_ GW1183.out _) | exact HK.out)) (KeepBut.of_below hb g none) (.inl rfl))
     have n5_ := aK (bSp (by repeat (first | (with_reducible first | exact HB.out | apply bAl | apply bDN | apply bD1 | refine bSt ?_ (IsS103.ge HI0.out) | refine bSt ?_ GE1170.out | refine bSt ?_ GE1177.out | refine bSt ?_ GE1183.out) | exact HB.out)) hb)
     clear BK1170
     clear BK1177
     clear BK1183
     clear HI0
     clear HK
     clear HB
     have BK1170 := n0_
     have BK1177 := n1_
     have BK1183 := n2_
     have HI0 := n3_
     have HK := n4_
     have HB := n5_
     clear n0_ n1_ n2_ n3_ n4_ n5_
     (try clear hb)
     (try clear hb2)
     (try clear hk)
     (try clear hi)
     refine hK.out _ _ ⟨zQ BK1183 0, zQ BK1183 1, zQ BK1183 2, zQ BK1177 0, zQ BK1177 1⟩ (fun hHeld => ?_)
     clear hK K
     refine norm_ (a' := ?_) ?_ ?_
     rotate_left
     ·show Act.put _ (some 35) _ = _
      simp only [Act.put, sTA, sZ, sS, i64_w, i32_w]
      rfl
     refine pure_ (i := 6) (N := some 29) (v := ?_) (a' := ?_) #[bY,bY,bY,bY,bY,bY,bY,bN,bN,bN] rfl rfl (any_of HT_.out (by kernel_rfl)) (fun _ _ _ h => h) (Or.inl ⟨by rfl, ?_⟩) ?_ ?_
     rotate_left
     ·intro w'
      go_simp
      with_reducible rfl
     rotate_left
     ·simp only [Act.put, sTA, sZ, sS, i64_w, i32_w]
      rfl
     refine pure_ (i := 7) (N := some 36) (v := ?_) (a' := ?_) #[bY,bY,bY,bY,bY,bY,bY,bY,bN,bN] rfl rfl (any_of HT_.out (by kernel_rfl)) (fun _ _ _ h => h) (Or.inl ⟨by rfl, ?_⟩) ?_ ?_
     rotate_left
     ·intro w'
      go_simp
      with_reducible rfl
     rotate_left
     ·simp only [Act.put, sTA, sZ, sS, i64_w, i32_w]
      rfl
     refine pure_ (i := 8) (N := some 37) (v := ?_) (a' := ?_) #[bY,bY,bY,bY,bY,bY,bY,bY,bY,bN] rfl rfl (any_of HT_.out (by kernel_rfl)) (fun _ _ _ h => h) (Or.inl ⟨by rfl, ?_⟩) ?_ ?_
     rotate_left
     ·intro w'
      go_simp
      with_reducible rfl
     rotate_left
     ·simp only [Act.put, sTA, sZ, sS, i64_w, i32_w]
      rfl
     refine last_ (i := 9) (N := none) #[bY,bY,bY,bY,bY,bY,bY,bY,bY,bY] rfl rfl (one_of HT_.out (by kernel_rfl)) (by decide) (fun K hK => ?_)
     have hs43 : w42.cell? ⟨gb1183, 0, none⟩ = some (.int .i64 t1178) := (kC BK1183.out 0).trans rfl
     have hfs43 := kF BK1183.out 0
     have hns43_0 := NB1170_1183.out
     have hns43_1 := NB1177_1183.out
     have hms43_0 := NB1183_1170.out
     have hms43_1 := NB1183_1177.out
     have hs44 : w42.cell? ⟨gb1183, 1, none⟩ = some (.int .i64 t1179) := (kC BK1183.out 1).trans rfl
     have hfs44 := kF BK1183.out 1
     have hns44_0 := NB1170_1183.out
     have hns44_1 := NB1177_1183.out
     have hms44_0 := NB1183_1170.out
     have hms44_1 := NB1183_1177.out
     have hs45 : w42.cell? ⟨gb1183, 2, none⟩ = some (.int .i64 t1180) := (kC BK1183.out 2).trans rfl
     have hfs45 := kF BK1183.out 2
     have hns45_0 := NB1170_1183.out
     have hns45_1 := NB1177_1183.out
     have hms45_0 := NB1183_1170.out
     have hms45_1 := NB1183_1177.out
     refine skip_ (w1 := ?_) (by rfl) rfl ?_ ?_
     rotate_left
     ·go_simp
      rfl
     refine hK.out _ _ ?_
     clear hK K
     refine done_ (done_of HT_.out (by kernel_rfl)) ?_
     try go_wp2
     go_meet
     case rel => exact ⟨_, (t1190), (t1191), (t1192), (t1193), (t1194), H', ⟨by have := HJ5.out; first | omega | exact Nat.le_refl _⟩, ⟨by (with_reducible repeat (first | refine kDN ?_ _ | refine kD ?_ | refine kA ?_ _)); refine blk_far ?_ NB1170_1183.out _; (with_reducible repeat (first | refine kDN ?_ _ | refine kD ?_ | refine kA ?_ _)); refine blk_far ?_ NB1170_1183.out _; (with_reducible repeat (first | refine kDN ?_ _ | refine kD ?_ | refine kA ?_ _)); refine blk_far ?_ NB1170_1183.out _; (with_reducible repeat (first | refine kDN ?_ _ | refine kD ?_ | refine kA ?_ _)); exact BK1170.out⟩, ⟨by (with_reducible repeat (first | refine kDN ?_ _ | refine kD ?_ | refine kA ?_ _)); refine blk_far ?_ NB1177_1183.out _; (with_reducible repeat (first | refine kDN ?_ _ | refine kD ?_ | refine kA ?_ _)); refine blk_far ?_ NB1177_1183.out _; (with_reducible repeat (first | refine kDN ?_ _ | refine kD ?_ | refine kA ?_ _)); refine blk_far ?_ NB1177_1183.out _; (with_reducible repeat (first | refine kDN ?_ _ | refine kD ?_ | refine kA ?_ _)); exact BK1177.out⟩, ⟨by (with_reducible repeat (first | refine kDN ?_ _ | refine kD ?_ | refine kA ?_ _)); refine blk_put (cs := #[.int .i64 t1192, .int .i64 t1193, .int .i64 t1180]) ?_ 2 _ rfl; (with_reducible repeat (first | refine kDN ?_ _ | refine kD ?_ | refine kA ?_ _)); refine blk_put (cs := #[.int .i64 t1192, .int .i64 t1179, .int .i64 t1180]) ?_ 1 _ rfl; (with_reducible repeat (first | refine kDN ?_ _ | refine kD ?_ | refine kA ?_ _)); refine blk_put (cs := #[.int .i64 t1178, .int .i64 t1179, .int .i64 t1180]) ?_ 0 _ rfl; (with_reducible repeat (first | refine kDN ?_ _ | refine kD ?_ | refine kA ?_ _)); exact BK1183.out⟩, ⟨by repeat (first | (with_reducible first | exact HI0.out | apply IsS103.alloc | apply IsS103.drewN | apply IsS103.drew | apply IsS103.set_1 | apply IsS103.set_2 | refine IsS103.far ?_ NB0_1170.out _ | refine IsS103.far ?_ NB0_1177.out _ | refine IsS103.far ?_ NB0_1183.out _) | exact HI0.out)⟩, ⟨by repeat (first | (with_reducible first | exact HK.out | apply KeepBut.set_ | apply keep_drewN | apply keep_drew | apply keep_alloc | refine keep_far ?_ GW1170.out _ | refine keep_far ?_ GW1177.out _ | refine keep_far ?_ GW1183.out _) | exact HK.out)⟩, ⟨by repeat (first | (with_reducible first | exact HB.out | apply bAl | apply bDN | apply bD1 | refine bSt ?_ (IsS103.ge HI0.out) | refine bSt ?_ GE1170.out | refine bSt ?_ GE1177.out | refine bSt ?_ GE1183.out) | exact HB.out)⟩⟩
    ·replace c35 := Bool.eq_false_iff.mpr c35
     subst c35
     have H1 : (spec_l31Crowd.j1 kj5 a1 s0_0 x1001_5 x1002_5 (wrap64 (1 + t1171)) (wrap64 (1 + t1174)) t1178 t1179 t1180) = some (r1, r2, r3, r4, r5, r6) := by rw [if_neg (show ¬ (false = true) by decide)] at H; exact H
     clear H
     have H := H1
     clear H1
     have H' := aK H
     clear H
     go_wp2
     go_meet
     case rel => exact ⟨_, (x1001_5), (x1002_5), (t1178), (t1179), (t1180), H', ⟨by have := HJ5.out; first | omega | exact Nat.le_refl _⟩, ⟨zK BK1170⟩, ⟨zK BK1177⟩, ⟨zK BK1183⟩, ⟨by repeat (first | (with_reducible first | exact HI0.out | apply IsS103.alloc | apply IsS103.drewN | apply IsS103.drew | apply IsS103.set_1 | apply IsS103.set_2 | refine IsS103.far ?_ NB0_1170.out _ | refine IsS103.far ?_ NB0_1177.out _ | refine IsS103.far ?_ NB0_1183.out _) | exact HI0.out)⟩, ⟨by repeat (first | (with_reducible first | exact HK.out | apply KeepBut.set_ | apply keep_drewN | apply keep_drew | apply keep_alloc | refine keep_far ?_ GW1170.out _ | refine keep_far ?_ GW1177.out _ | refine keep_far ?_ GW1183.out _) | exact HK.out)⟩, ⟨by repeat (first | (with_reducible first | exact HB.out | apply bAl | apply bDN | apply bD1 | refine bSt ?_ (IsS103.ge HI0.out) | refine bSt ?_ GE1170.out | refine bSt ?_ GE1177.out | refine bSt ?_ GE1183.out) | exact HB.out)⟩⟩
   case rest =>
    clear HC34
    try clear c1
    try clear c2
    try clear p2
    try clear c3
    try clear c5
    try clear p6
    try clear c7
    try clear c8
    try clear c11
    try clear c12
    try clear c16
    try clear c17
    try clear c18
    try clear c21
    try clear c21b0
    try clear c23
    try clear c24
    try clear c25
    try clear c29
    try clear c30
    try clear c31
    try clear c35
    try clear hcz13_0
    try clear hcz13_1
    try clear hcz19_0
    try clear hcz19_1
    try clear hcz19_2
    try clear hcz26_0
    try clear hcz26_1
    try clear hcz32_0
    try clear hcz32_1
    try clear hfz13_0
    try clear hfz13_1
    try clear hfz19_0
    try clear hfz19_1
    try clear hfz19_2
    try clear hfz26_0
    try clear hfz26_1
    try clear hfz32_0
    try clear hfz32_1
    try clear p2
    try clear p6
    obtain ⟨kq, x1001_33, x1002_33, x1184000_33, x1184001_33, x1184002_33, HA, HJ33, BK1170, BK1177, BK1183, HI0, HK, HB⟩ := hcut
    cases kq with
    | zero => exact absurd HA.out (by simp [spec_l31Crowd.j1])
    | succ kj33 =>
     have H := HA.out
     clear HA
     simp only [spec_l31Crowd.j1] at H
     obtain ⟨y1196, hy1196⟩ : ∃ y_ : List Int, y_ = (([] : List Int)) := ⟨_, rfl⟩
     replace H : ((spec_l01Below.f s0_0 x1001_33 x1002_33 (wrap64 (a1 + 1))).bind fun bt1199 => (spec_l31Crowd.l0 kj33 y1196 bt1199.1 0 s0_0 bt1199.2.1 bt1199.2.2 (wrap64 (1 + t1171)) (wrap64 (1 + t1174)) x1184000_33 x1184001_33 x1184002_33)) = some (r1, r2, r3, r4, r5, r6) := by first | (rw [hy1196]; with_reducible exact H) | (have H2_ := (Option.bind_some _ _).symm.trans H; rw [hy1196]; with_reducible exact H2_) | (have H2_ := (Option.bind_some _ _).symm.trans H; with_reducible exact H2_) | with_reducible exact H | (rw [hy1196]; exact H) | exact H
     have Ny1196 := aK hy1196
     clear hy1196
     replace H := Option.bind_eq_some_iff.mp H
     obtain ⟨⟨t1199, t1200, t1201⟩, A460, H⟩ := H
     replace H : (spec_l31Crowd.l0 kj33 y1196 t1199 0 s0_0 t1200 t1201 (wrap64 (1 + t1171)) (wrap64 (1 + t1174)) x1184000_33 x1184001_33 x1184002_33) = some (r1, r2, r3, r4, r5, r6) := H
     have A46 := aK A460
     clear A460
     have H' := aK H
     clear H
     go_wp2_with (first | ((with_reducible refine gate_dst (N := 38) rfl ?_); refine Kd.R_lit (Kd.int .i64) _ 3 ?hg (N := 38) ?hd (xs := ([] : List Int)) (inner := []) (ok := fun _ => True) (okp := fun _ => True) ?hr ?hp (fun _ hk => hk) trivial (Below.refl _ _) (Nat.le_refl _) (by simp) ?_; (case hd => rfl); (case hg => rfl); (case hr => first | (go_simp; done) | (go_simp; rfl)); (case hp => exact (Reps.none _ _)); intro v1197 w47 ho48 hb hg_ hnew_; clear hg_ hnew_; (first | rw [← Ny1196.out] at ho48 | (simp only [Int.reduceToNat] at ho48; rw [← Ny1196.out] at ho48)); have HO1198 := aK (Kd.R_lower ho48 (keep_size (w := w) (g := g) (row := none) (by repeat (first | (with_reducible first | exact HK.out | apply KeepBut.set_ | apply keep_drewN | apply keep_drew | apply keep_alloc | refine keep_far ?_ GW1170.out _ | refine keep_far ?_ GW1177.out _ | refine keep_far ?_ GW1183.out _) | exact HK.out)))); replace BK1170 := zB BK1170 hb; replace BK1177 := zB BK1177 hb; replace BK1183 := zB BK1183 hb; replace HK := aK (KeepBut.trans (by repeat (first | (with_reducible first | exact HK.out | apply KeepBut.set_ | apply keep_drewN | apply keep_drew | apply keep_alloc | refine keep_far ?_ GW1170.out _ | refine keep_far ?_ GW1177.out _ | refine keep_far ?_ GW1183.out _) | exact HK.out)) (KeepBut.of_below hb g none) (.inl rfl)); replace HB := aK (bSp (by repeat (first | (with_reducible first | exact HB.out | apply bAl | apply bDN | apply bD1 | refine bSt ?_ (IsS103.ge HI0.out) | refine bSt ?_ GE1170.out | refine bSt ?_ GE1177.out | refine bSt ?_ GE1183.out) | exact HB.out)) hb); replace HI0 := aK (IsS103.below (by repeat (first | (with_reducible first | exact HI0.out | apply IsS103.alloc | apply IsS103.drewN | apply IsS103.drew | apply IsS103.set_1 | apply IsS103.set_2 | refine IsS103.far ?_ NB0_1170.out _ | refine IsS103.far ?_ NB0_1177.out _ | refine IsS103.far ?_ NB0_1183.out _) | exact HI0.out)) hb); clear hb ho48) | ((with_reducible refine gate_callee (f := 71) rfl ?_); refine goesL_ (some 42) rfl rfl Tryd.func71 (by kernel_rfl) rfl #[.pointer (some ⟨g, 0, none⟩), .int .i64 (wrap64 (a1 + 1))] rfl zD ?_; (with_reducible refine (spec_l01Below.calls g s0_0 x1001_33 x1002_33 (wrap64 (a1 + 1)) t1199 t1200 t1201 w0 _ ?side1 ?side2 A46.out).mono ?_); (case side1 => repeat (first | (with_reducible first | exact HI0.out | apply IsS103.alloc | apply IsS103.drewN | apply IsS103.drew | apply IsS103.set_1 | apply IsS103.set_2 | refine IsS103.far ?_ NB0_1170.out _ | refine IsS103.far ?_ NB0_1177.out _ | refine IsS103.far ?_ NB0_1183.out _) | exact HI0.out)); (case side2 => repeat (first | (with_reducible first | exact HB.out | apply bAl | apply bDN | apply bD1 | refine bSt ?_ (IsS103.ge HI0.out) | refine bSt ?_ GE1170.out | refine bSt ?_ GE1177.out | refine bSt ?_ GE1183.out) | exact HB.out)); rintro e w49 ⟨rfl, hi, hb, hk⟩; refine ⟨_, rfl, ?_⟩; replace BK1170 := aK (KeepBut.blk hk (g' := gb1170) (o := .cells #[.int .i64 0, .int .i64 0, .int .i64 0] 41 (0, 0)) (zK BK1170) NB1170_0.out (by simp)); replace BK1177 := aK (KeepBut.blk hk (g' := gb1177) (o := .cells #[.int .i64 (wrap64 (1 + t1171)), .int .i64 (wrap64 (1 + t1174))] 39 (0, 0)) (zK BK1177) NB1177_0.out (by simp)); replace BK1183 := aK (KeepBut.blk hk (g' := gb1183) (o := .cells #[.int .i64 x1184000_33, .int .i64 x1184001_33, .int .i64 x1184002_33] 41 (0, 0)) (zK BK1183) NB1183_0.out (by simp)); replace HO1198 := aK (Kd.R_mono (Kd.R_keep (IsS103.apart (show IsS103 w0 _ g s0_0 x1001_33 x1002_33 from by repeat (first | (with_reducible first | exact HI0.out | apply IsS103.alloc | apply IsS103.drewN | apply IsS103.drew | apply IsS103.set_1 | apply IsS103.set_2 | refine IsS103.far ?_ NB0_1170.out _ | refine IsS103.far ?_ NB0_1177.out _ | refine IsS103.far ?_ NB0_1183.out _) | exact HI0.out)) (zA HO1198) (by decide)) hk (fun _ h => h.2)) (fun _ h => h.1)); replace HK := aK (KeepBut.trans (by repeat (first | (with_reducible first | exact HK.out | apply KeepBut.set_ | apply keep_drewN | apply keep_drew | apply keep_alloc | refine keep_far ?_ GW1170.out _ | refine keep_far ?_ GW1177.out _ | refine keep_far ?_ GW1183.out _) | exact HK.out)) hk (.inl rfl)); replace HB := aK (hb); replace HI0 := aK (hi); (try clear hb); (try clear hb2); (try clear hk); (try clear hi)))
     go_loopg [8, 10] kj33 (fun kq v8 v10 w' => ∃ (x8_3 : List Int) (x10_3 : Int) (x1001_3 : Int) (x1002_3 : Int), v10 = .int .i64 x10_3 ∧ Aside0 (spec_l31Crowd.l0 kq x8_3 t1199 x10_3 s0_0 x1001_3 x1002_3 (wrap64 (1 + t1171)) (wrap64 (1 + t1174)) x1184000_33 x1184001_33 x1184002_33 = some (r1, r2, r3, r4, r5, r6)) ∧ Aside0 (kq ≤ kj33) ∧ Aside0 (Kd.R (Kd.int .i64) 3 w' w.heap.size (fun _ => True) v8 x8_3) ∧ Aside0 (w'.heap[gb1170]? = some (.cells #[.int .i64 0, .int .i64 0, .int .i64 0] 41 (0, 0))) ∧ Aside0 (w'.heap[gb1177]? = some (.cells #[.int .i64 (wrap64 (1 + t1171)), .int .i64 (wrap64 (1 + t1174))] 39 (0, 0))) ∧ Aside0 (w'.heap[gb1183]? = some (.cells #[.int .i64 x1184000_33, .int .i64 x1184001_33, .int .i64 x1184002_33] 41 (0, 0))) ∧ Aside0 (IsS103 w0 w' g s0_0 x1001_3 x1002_3) ∧ Aside0 (KeepBut w w' g none) ∧ Aside0 (Below w0.heap.size w0 w'))
     case atStart => exact ⟨(y1196), (0), (t1200), (t1201), (by first | rfl | (simp; done) | (simp [*]; done)), H', ⟨Nat.le_refl _⟩, ⟨zA HO1198⟩, ⟨zK BK1170⟩, ⟨zK BK1177⟩, ⟨zK BK1183⟩, ⟨by repeat (first | (with_reducible first | exact HI0.out | apply IsS103.alloc | apply IsS103.drewN | apply IsS103.drew | apply IsS103.set_1 | apply IsS103.set_2 | refine IsS103.far ?_ NB0_1170.out _ | refine IsS103.far ?_ NB0_1177.out _ | refine IsS103.far ?_ NB0_1183.out _) | exact HI0.out)⟩, ⟨by repeat (first | (with_reducible first | exact HK.out | apply KeepBut.set_ | apply keep_drewN | apply keep_drew | apply keep_alloc | refine keep_far ?_ GW1170.out _ | refine keep_far ?_ GW1177.out _ | refine keep_far ?_ GW1183.out _) | exact HK.out)⟩, ⟨by repeat (first | (with_reducible first | exact HB.out | apply bAl | apply bDN | apply bD1 | refine bSt ?_ (IsS103.ge HI0.out) | refine bSt ?_ GE1170.out | refine bSt ?_ GE1177.out | refine bSt ?_ GE1183.out) | exact HB.out)⟩⟩
     case round =>
      clear H'
      try clear c1
      try clear c2
      try clear p2
      try clear c3
      try clear c5
      try clear p6
      try clear c7
      try clear c8
      try clear c11
      try clear c12
      try clear c16
      try clear c17
      try clear c18
      try clear c21
      try clear c21b0
      try clear c23
      try clear c24
      try clear c25
      try clear c29
      try clear c30
      try clear c31
      try clear c35
      try clear hcz13_0
      try clear hcz13_1
      try clear hcz19_0
      try clear hcz19_1
      try clear hcz19_2
      try clear hcz26_0
      try clear hcz26_1
      try clear hcz32_0
      try clear hcz32_1
      try clear hfz13_0
      try clear hfz13_1
      try clear hfz19_0
      try clear hfz19_1
      try clear hfz19_2
      try clear hfz26_0
      try clear hfz26_1
      try clear hfz32_0
      try clear hfz32_1
      try clear p2
      try clear p6
      obtain ⟨x8_3, x10_3, x1001_3, x1002_3, rfl, HA, HK3, HO_8, BK1170, BK1177, BK1183, HI0, HK, HB⟩ := hrel
      cases gk with
      | zero => exact absurd HA.out (by simp [spec_l31Crowd.l0])
      | succ k3 =>
       have H := HA.out
       clear HA
       simp only [spec_l31Crowd.l0] at H
       by_cases c50 : x10_3 < t1199
       ·rw [if_pos c50] at H
        have c50b0 : decide (x10_3 < t1199) = true := decide_eq_true c50
        clear c50
        replace H := Option.bind_eq_some_iff.mp H
        obtain ⟨t1202, A510, H⟩ := H
        replace H : ((spec_l01Below.f s0_0 x1001_3 x1002_3 t1202).bind fun bt1203 => ((spec_l07In.f k3 x8_3 bt1203.1).bind fun t1206 => (if t1206 = true then (spec_l31Crowd.l0 k3 x8_3 t1199 (wrap64 (x10_3 + 1)) s0_0 bt1203.2.1 bt1203.2.2 (wrap64 (1 + t1171)) (wrap64 (1 + t1174)) x1184000_33 x1184001_33 x1184002_33) else (if x8_3.length < 17592186044416 then (spec_l31Crowd.l0 k3 (x8_3 ++ [bt1203.1]) t1199 (wrap64 (x10_3 + 1)) s0_0 bt1203.2.1 bt1203.2.2 (wrap64 (1 + t1171)) (wrap64 (1 + t1174)) x1184000_33 x1184001_33 x1184002_33) else (none))))) = some (r1, r2, r3, r4, r5, r6) := H
        have A51 := aK A510
        clear A510
        replace H := Option.bind_eq_some_iff.mp H
        obtain ⟨⟨t1203, t1204, t1205⟩, A520, H⟩ := H
        replace H : ((spec_l07In.f k3 x8_3 t1203).bind fun t1206 => (if t1206 = true then (spec_l31Crowd.l0 k3 x8_3 t1199 (wrap64 (x10_3 + 1)) s0_0 t1204 t1205 (wrap64 (1 + t1171)) (wrap64 (1 + t1174)) x1184000_33 x1184001_33 x1184002_33) else (if x8_3.length < 17592186044416 then (spec_l31Crowd.l0 k3 (x8_3 ++ [t1203]) t1199 (wrap64 (x10_3 + 1)) s0_0 t1204 t1205 (wrap64 (1 + t1171)) (wrap64 (1 + t1174)) x1184000_33 x1184001_33 x1184002_33) else (none)))) = some (r1, r2, r3, r4, r5, r6) := H
        have A52 := aK A520
        clear A520
        replace H := Option.bind_eq_some_iff.mp H
        obtain ⟨t1206, A530, H⟩ := H
        replace H : (if t1206 = true then (spec_l31Crowd.l0 k3 x8_3 t1199 (wrap64 (x10_3 + 1)) s0_0 t1204 t1205 (wrap64 (1 + t1171)) (wrap64 (1 + t1174)) x1184000_33 x1184001_33 x1184002_33) else (if x8_3.length < 17592186044416 then (spec_l31Crowd.l0 k3 (x8_3 ++ [t1203]) t1199 (wrap64 (x10_3 + 1)) s0_0 t1204 t1205 (wrap64 (1 + t1171)) (wrap64 (1 + t1174)) x1184000_33 x1184001_33 x1184002_33) else (none))) = some (r1, r2, r3, r4, r5, r6) := H
        have A53 := aK A530
        clear A530
        by_cases c54 : t1206 = true
        ·subst c54
         have H1 : (spec_l31Crowd.l0 k3 x8_3 t1199 (wrap64 (x10_3 + 1)) s0_0 t1204 t1205 (wrap64 (1 + t1171)) (wrap64 (1 + t1174)) x1184000_33 x1184001_33 x1184002_33) = some (r1, r2, r3, r4, r5, r6) := by rw [if_pos rfl] at H; exact H
         clear H
         have H := H1
         clear H1
         have H' := aK H
         clear H
         have hnb55 := NB1177_1170.out
         have hnc55 := NB1170_1177.out
         have hnb56 := NB1177_1183.out
         have hnc56 := NB1183_1177.out
         have hnb57 := NB1177_0.out
         have hnc57 := NB0_1177.out
         obtain ⟨hcz58_0, hcz58_1, hfz58_0, hfz58_1⟩ := cl2 BK1177.out
         go_wp2_with (first | ((with_reducible refine gate_callee (f := 46) rfl ?_); refine goesL_ (some 50) rfl rfl Tryd.func46 (by kernel_rfl) rfl #[.agg #[.int .i64 (wrap64 (1 + t1171)), .int .i64 (wrap64 (1 + t1174))]] rfl zD ?_; (with_reducible refine (spec_CountCells.calls (wrap64 (1 + t1171)) (wrap64 (1 + t1174)) t1202 _ A51.out).mono ?_); rintro e w59 ⟨rfl, hb⟩; refine ⟨_, rfl, ?_⟩; replace HO_8 := aK (Kd.R_below (zA HO_8) hb); replace BK1170 := zB BK1170 hb; replace BK1177 := zB BK1177 hb; replace BK1183 := zB BK1183 hb; replace HK := aK (KeepBut.trans (by repeat (first | (with_reducible first | exact HK.out | apply KeepBut.set_ | apply keep_drewN | apply keep_drew | apply keep_alloc | refine keep_far ?_ GW1170.out _ | refine keep_far ?_ GW1177.out _ | refine keep_far ?_ GW1183.out _) | exact HK.out)) (KeepBut.of_below hb g none) (.inl rfl)); replace HB := aK (bSp (by repeat (first | (with_reducible first | exact HB.out | apply bAl | apply bDN | apply bD1 | refine bSt ?_ (IsS103.ge HI0.out) | refine bSt ?_ GE1170.out | refine bSt ?_ GE1177.out | refine bSt ?_ GE1183.out) | exact HB.out)) hb); replace HI0 := aK (IsS103.below (by repeat (first | (with_reducible first | exact HI0.out | apply IsS103.alloc | apply IsS103.drewN | apply IsS103.drew | apply IsS103.set_1 | apply IsS103.set_2 | refine IsS103.far ?_ NB0_1170.out _ | refine IsS103.far ?_ NB0_1177.out _ | refine IsS103.far ?_ NB0_1183.out _) | exact HI0.out)) hb); (try clear hb); (try clear hb2); (try clear hk); (try clear hi)) | ((with_reducible refine gate_callee (f := 71) rfl ?_); refine goesL_ (some 51) rfl rfl Tryd.func71 (by kernel_rfl) rfl #[.pointer (some ⟨g, 0, none⟩), .int .i64 t1202] rfl zD ?_; (with_reducible refine (spec_l01Below.calls g s0_0 x1001_3 x1002_3 t1202 t1203 t1204 t1205 w0 _ ?side1 ?side2 A52.out).mono ?_); (case side1 => repeat (first | (with_reducible first | exact HI0.out | apply IsS103.alloc | apply IsS103.drewN | apply IsS103.drew | apply IsS103.set_1 | apply IsS103.set_2 | refine IsS103.far ?_ NB0_1170.out _ | refine IsS103.far ?_ NB0_1177.out _ | refine IsS103.far ?_ NB0_1183.out _) | exact HI0.out)); (case side2 => repeat (first | (with_reducible first | exact HB.out | apply bAl | apply bDN | apply bD1 | refine bSt ?_ (IsS103.ge HI0.out) | refine bSt ?_ GE1170.out | refine bSt ?_ GE1177.out | refine bSt ?_ GE1183.out) | exact HB.out)); rintro e w60 ⟨rfl, hi, hb, hk⟩; refine ⟨_, rfl, ?_⟩; replace HO_8 := aK (Kd.R_mono (Kd.R_keep (IsS103.apart (show IsS103 w0 _ g s0_0 x1001_3 x1002_3 from by repeat (first | (with_reducible first | exact HI0.out | apply IsS103.alloc | apply IsS103.drewN | apply IsS103.drew | apply IsS103.set_1 | apply IsS103.set_2 | refine IsS103.far ?_ NB0_1170.out _ | refine IsS103.far ?_ NB0_1177.out _ | refine IsS103.far ?_ NB0_1183.out _) | exact HI0.out)) (zA HO_8) (by decide)) hk (fun _ h => h.2)) (fun _ h => h.1)); replace BK1170 := aK (KeepBut.blk hk (g' := gb1170) (o := .cells #[.int .i64 0, .int .i64 0, .int .i64 0] 41 (0, 0)) (zK BK1170) NB1170_0.out (by simp)); replace BK1177 := aK (KeepBut.blk hk (g' := gb1177) (o := .cells #[.int .i64 (wrap64 (1 + t1171)), .int .i64 (wrap64 (1 + t1174))] 39 (0, 0)) (zK BK1177) NB1177_0.out (by simp)); replace BK1183 := aK (KeepBut.blk hk (g' := gb1183) (o := .cells #[.int .i64 x1184000_33, .int .i64 x1184001_33, .int .i64 x1184002_33] 41 (0, 0)) (zK BK1183) NB1183_0.out (by simp)); replace HK := aK (KeepBut.trans (by repeat (first | (with_reducible first | exact HK.out | apply KeepBut.set_ | apply keep_drewN | apply keep_drew | apply keep_alloc | refine keep_far ?_ GW1170.out _ | refine keep_far ?_ GW1177.out _ | refine keep_far ?_ GW1183.out _) | exact HK.out)) hk (.inl rfl)); replace HB := aK (hb); replace HI0 := aK (hi); (try clear hb); (try clear hb2); (try clear hk); (try clear hi); obtain ⟨Ao61, co61, eo61⟩ := Kd.R_slice HO_8.out; subst eo61) | ((with_reducible refine gate_callee (f := 75) rfl ?_); refine goesL_ (some 54) rfl rfl Tryd.func75 (by kernel_rfl) rfl #[.slice Ao61 x8_3.length co61, .int .i64 t1203] rfl zD ?_; (with_reducible refine (spec_l07In.calls k3 _ _ x8_3 t1203 true _ ?side1 ?side2 A53.out).mono ?_); (case side1 => exact zC (Kd.R_reads' HO_8.out).2.2); (case side2 => exact (Kd.R_reads' HO_8.out).2.1); rintro e w' ⟨rfl, ⟨nd, rfl⟩⟩; refine ⟨_, rfl, ?_⟩))
         go_roundg k3
         case measure => have := HJ5.out; have := HJ33.out; have := HK3.out; omega
         case rel => exact ⟨(x8_3), (wrap64 (x10_3 + 1)), (t1204), (t1205), (by first | rfl | (simp; done) | (simp [*]; done)), H', ⟨by have := HJ5.out; have := HJ33.out; have := HK3.out; omega⟩, ⟨zA HO_8⟩, ⟨zK BK1170⟩, ⟨zK BK1177⟩, ⟨zK BK1183⟩, ⟨by repeat (first | (with_reducible first | exact HI0.out | apply IsS103.alloc | apply IsS103.drewN | apply IsS103.drew | apply IsS103.set_1 | apply IsS103.set_2 | refine IsS103.far ?_ NB0_1170.out _ | refine IsS103.far ?_ NB0_1177.out _ | refine IsS103.far ?_ NB0_1183.out _) | exact HI0.out)⟩, ⟨by repeat (first | (with_reducible first | exact HK.out | apply KeepBut.set_ | apply keep_drewN | apply keep_drew | apply keep_alloc | refine keep_far ?_ GW1170.out _ | refine keep_far ?_ GW1177.out _ | refine keep_far ?_ GW1183.out _) | exact HK.out)⟩, ⟨by repeat (first | (with_reducible first | exact HB.out | apply bAl | apply bDN | apply bD1 | refine bSt ?_ (IsS103.ge HI0.out) | refine bSt ?_ GE1170.out | refine bSt ?_ GE1177.out | refine bSt ?_ GE1183.out) | exact HB.out)⟩⟩
        ·replace c54 := Bool.eq_false_iff.mpr c54
         subst c54
         have H1 : (if x8_3.length < 17592186044416 then (spec_l31Crowd.l0 k3 (x8_3 ++ [t1203]) t1199 (wrap64 (x10_3 + 1)) s0_0 t1204 t1205 (wrap64 (1 + t1171)) (wrap64 (1 + t1174)) x1184000_33 x1184001_33 x1184002_33) else (none)) = some (r1, r2, r3, r4, r5, r6) := by rw [if_neg (show ¬ (false = true) by decide)] at H; exact H
         clear H
         have H := H1
         clear H1
         by_cases c62 : x8_3.length < 17592186044416
         ·rw [if_pos c62] at H
          have LMc62 := aK c62
          clear c62
          obtain ⟨y1207, hy1207⟩ : ∃ y_ : List Int, y_ = (x8_3 ++ [t1203]) := ⟨_, rfl⟩
          replace H : (spec_l31Crowd.l0 k3 y1207 t1199 (wrap64 (x10_3 + 1)) s0_0 t1204 t1205 (wrap64 (1 + t1171)) (wrap64 (1 + t1174)) x1184000_33 x1184001_33 x1184002_33) = some (r1, r2, r3, r4, r5, r6) := by first | (rw [hy1207]; with_reducible exact H) | (have H2_ := (Option.bind_some _ _).symm.trans H; rw [hy1207]; with_reducible exact H2_) | (have H2_ := (Option.bind_some _ _).symm.trans H; with_reducible exact H2_) | with_reducible exact H | (rw [hy1207]; exact H) | exact H
          have Ny1207 := aK hy1207
          clear hy1207
          have H' := aK H
          clear H
          have hnb63 := NB1177_1170.out
          have hnc63 := NB1170_1177.out
          have hnb64 := NB1177_1183.out
          have hnc64 := NB1183_1177.out
          have hnb65 := NB1177_0.out
          have hnc65 := NB0_1177.out
          obtain ⟨hcz66_0, hcz66_1, hfz66_0, hfz66_1⟩ := cl2 BK1177.out
          go_wp2_with (first | ((with_reducible refine gate_callee (f := 46) rfl ?_); refine goesL_ (some 50) rfl rfl Tryd.func46 (by kernel_rfl) rfl #[.agg #[.int .i64 (wrap64 (1 + t1171)), .int .i64 (wrap64 (1 + t1174))]] rfl zD ?_; (with_reducible refine (spec_CountCells.calls (wrap64 (1 + t1171)) (wrap64 (1 + t1174)) t1202 _ A51.out).mono ?_); rintro e w67 ⟨rfl, hb⟩; refine ⟨_, rfl, ?_⟩; replace HO_8 := aK (Kd.R_below (zA HO_8) hb); replace BK1170 := zB BK1170 hb; replace BK1177 := zB BK1177 hb; replace BK1183 := zB BK1183 hb; replace HK := aK (KeepBut.trans (by repeat (first | (with_reducible first | exact HK.out | apply KeepBut.set_ | apply keep_drewN | apply keep_drew | apply keep_alloc | refine keep_far ?_ GW1170.out _ | refine keep_far ?_ GW1177.out _ | refine keep_far ?_ GW1183.out _) | exact HK.out)) (KeepBut.of_below hb g none) (.inl rfl)); replace HB := aK (bSp (by repeat (first | (with_reducible first | exact HB.out | apply bAl | apply bDN | apply bD1 | refine bSt ?_ (IsS103.ge HI0.out) | refine bSt ?_ GE1170.out | refine bSt ?_ GE1177.out | refine bSt ?_ GE1183.out) | exact HB.out)) hb); replace HI0 := aK (IsS103.below (by repeat (first | (with_reducible first | exact HI0.out | apply IsS103.alloc | apply IsS103.drewN | apply IsS103.drew | apply IsS103.set_1 | apply IsS103.set_2 | refine IsS103.far ?_ NB0_1170.out _ | refine IsS103.far ?_ NB0_1177.out _ | refine IsS103.far ?_ NB0_1183.out _) | exact HI0.out)) hb); (try clear hb); (try clear hb2); (try clear hk); (try clear hi)) | ((with_reducible refine gate_callee (f := 71) rfl ?_); refine goesL_ (some 51) rfl rfl Tryd.func71 (by kernel_rfl) rfl #[.pointer (some ⟨g, 0, none⟩), .int .i64 t1202] rfl zD ?_; (with_reducible refine (spec_l01Below.calls g s0_0 x1001_3 x1002_3 t1202 t1203 t1204 t1205 w0 _ ?side1 ?side2 A52.out).mono ?_); (case side1 => repeat (first | (with_reducible first | exact HI0.out | apply IsS103.alloc | apply IsS103.drewN | apply IsS103.drew | apply IsS103.set_1 | apply IsS103.set_2 | refine IsS103.far ?_ NB0_1170.out _ | refine IsS103.far ?_ NB0_1177.out _ | refine IsS103.far ?_ NB0_1183.out _) | exact HI0.out)); (case side2 => repeat (first | (with_reducible first | exact HB.out | apply bAl | apply bDN | apply bD1 | refine bSt ?_ (IsS103.ge HI0.out) | refine bSt ?_ GE1170.out | refine bSt ?_ GE1177.out | refine bSt ?_ GE1183.out) | exact HB.out)); rintro e w68 ⟨rfl, hi, hb, hk⟩; refine ⟨_, rfl, ?_⟩; replace HO_8 := aK (Kd.R_mono (Kd.R_keep (IsS103.apart (show IsS103 w0 _ g s0_0 x1001_3 x1002_3 from by repeat (first | (with_reducible first | exact HI0.out | apply IsS103.alloc | apply IsS103.drewN | apply IsS103.drew | apply IsS103.set_1 | apply IsS103.set_2 | refine IsS103.far ?_ NB0_1170.out _ | refine IsS103.far ?_ NB0_1177.out _ | refine IsS103.far ?_ NB0_1183.out _) | exact HI0.out)) (zA HO_8) (by decide)) hk (fun _ h => h.2)) (fun _ h => h.1)); replace BK1170 := aK (KeepBut.blk hk (g' := gb1170) (o := .cells #[.int .i64 0, .int .i64 0, .int .i64 0] 41 (0, 0)) (zK BK1170) NB1170_0.out (by simp)); replace BK1177 := aK (KeepBut.blk hk (g' := gb1177) (o := .cells #[.int .i64 (wrap64 (1 + t1171)), .int .i64 (wrap64 (1 + t1174))] 39 (0, 0)) (zK BK1177) NB1177_0.out (by simp)); replace BK1183 := aK (KeepBut.blk hk (g' := gb1183) (o := .cells #[.int .i64 x1184000_33, .int .i64 x1184001_33, .int .i64 x1184002_33] 41 (0, 0)) (zK BK1183) NB1183_0.out (by simp)); replace HK := aK (KeepBut.trans (by repeat (first | (with_reducible first | exact HK.out | apply KeepBut.set_ | apply keep_drewN | apply keep_drew | apply keep_alloc | refine keep_far ?_ GW1170.out _ | refine keep_far ?_ GW1177.out _ | refine keep_far ?_ GW1183.out _) | exact HK.out)) hk (.inl rfl)); replace HB := aK (hb); replace HI0 := aK (hi); (try clear hb); (try clear hb2); (try clear hk); (try clear hi); obtain ⟨Ao69, co69, eo69⟩ := Kd.R_slice HO_8.out; subst eo69) | ((with_reducible refine gate_callee (f := 75) rfl ?_); refine goesL_ (some 54) rfl rfl Tryd.func75 (by kernel_rfl) rfl #[.slice Ao69 x8_3.length co69, .int .i64 t1203] rfl zD ?_; (with_reducible refine (spec_l07In.calls k3 _ _ x8_3 t1203 false _ ?side1 ?side2 A53.out).mono ?_); (case side1 => exact zC (Kd.R_reads' HO_8.out).2.2); (case side2 => exact (Kd.R_reads' HO_8.out).2.1); rintro e w' ⟨rfl, ⟨nd, rfl⟩⟩; refine ⟨_, rfl, ?_⟩) | ((with_reducible refine gate_builtin (b := .append) (xs := #[.tmp 56, .tmp 58]) rfl ?_); at_builtin; refine Kd.R_append (Kd.int .i64) w.heap.size rfl (.tmp 56) (.tmp 58) 42 3 (.int .i64 0) 8 rfl Tryd.underlying42 info3 rfl (by decide) (by omega) (.slice Ao69 x8_3.length co69) x8_3 t1203 [.int .i64 t1203] (fun _ => True) (fun _ => False) rfl rfl ?aP (fun _ hk => hk.elim) ?aF ?aO (Below.refl _ _) ?aS ?aL ?_; (case aP => exact rfl); (case aF => exact (fun _ _ => trivial)); (case aO => exact (zA HO_8)); (case aS => exact (keep_size (w := w) (g := g) (row := none) (by repeat (first | (with_reducible first | exact HK.out | apply KeepBut.set_ | apply keep_drewN | apply keep_drew | apply keep_alloc | refine keep_far ?_ GW1170.out _ | refine keep_far ?_ GW1177.out _ | refine keep_far ?_ GW1183.out _) | exact HK.out)))); (case aL => have := LMc62.out; omega); intro v1208 w70 ho hb hg hat; rw [← Ny1207.out] at ho; have n0_ := aK (blk_grown (g := gb1170) (o := .cells #[.int .i64 0, .int .i64 0, .int .i64 0] 41 (0, 0)) (zK BK1170) hg (Kd.R_ne HO_8.out BK1170.out (by decide))); have n1_ := aK (blk_grown (g := gb1177) (o := .cells #[.int .i64 (wrap64 (1 + t1171)), .int .i64 (wrap64 (1 + t1174))] 39 (0, 0)) (zK BK1177) hg (Kd.R_ne HO_8.out BK1177.out (by decide))); have n2_ := aK (blk_grown (g := gb1183) (o := .cells #[.int .i64 x1184000_33, .int .i64 x1184001_33, .int .i64 x1184002_33] 41 (0, 0)) (zK BK1183) hg (Kd.R_ne HO_8.out BK1183.out (by decide))); have n3_ := aK (IsS103.grown (show IsS103 w0 _ g s0_0 t1204 t1205 from by repeat (first | (with_reducible first | exact HI0.out | apply IsS103.alloc | apply IsS103.drewN | apply IsS103.drew | apply IsS103.set_1 | apply IsS103.set_2 | refine IsS103.far ?_ NB0_1170.out _ | refine IsS103.far ?_ NB0_1177.out _ | refine IsS103.far ?_ NB0_1183.out _) | exact HI0.out)) hg (IsS103.own_ne HI0.out HO_8.out (by decide))); have n4_ := aK (below_weaken (by repeat (first | (with_reducible first | exact HB.out | apply bAl | apply bDN | apply bD1 | refine bSt ?_ (IsS103.ge HI0.out) | refine bSt ?_ GE1170.out | refine bSt ?_ GE1177.out | refine bSt ?_ GE1183.out) | exact HB.out)) HL.out hb); have n5_ := aK (KeepBut.trans (by repeat (first | (with_reducible first | exact HK.out | apply KeepBut.set_ | apply keep_drewN | apply keep_drew | apply keep_alloc | refine keep_far ?_ GW1170.out _ | refine keep_far ?_ GW1177.out _ | refine keep_far ?_ GW1183.out _) | exact HK.out)) (KeepBut.of_grown hg g) (Kd.R_base2 HO_8.out)); have n6_ := aK (ho); clear BK1170; clear BK1177; clear BK1183; clear HI0; clear HB; clear HK; clear HO_8; have BK1170 := n0_; have BK1177 := n1_; have BK1183 := n2_; have HI0 := n3_; have HB := n4_; have HK := n5_; have HO1209 := n6_; clear n0_ n1_ n2_ n3_ n4_ n5_ n6_; clear ho hb hg hat))
          go_roundg k3
          case measure => have := HJ5.out; have := HJ33.out; have := HK3.out; omega
          case rel => exact ⟨(y1207), (wrap64 (x10_3 + 1)), (t1204), (t1205), (by first | rfl | (simp; done) | (simp [*]; done)), H', ⟨by have := HJ5.out; have := HJ33.out; have := HK3.out; omega⟩, ⟨zA HO1209⟩, ⟨zK BK1170⟩, ⟨zK BK1177⟩, ⟨zK BK1183⟩, ⟨by repeat (first | (with_reducible first | exact HI0.out | apply IsS103.alloc | apply IsS103.drewN | apply IsS103.drew | apply IsS103.set_1 | apply IsS103.set_2 | refine IsS103.far ?_ NB0_1170.out _ | refine IsS103.far ?_ NB0_1177.out _ | refine IsS103.far ?_ NB0_1183.out _) | exact HI0.out)⟩, ⟨by repeat (first | (with_reducible first | exact HK.out | apply KeepBut.set_ | apply keep_drewN | apply keep_drew | apply keep_alloc | refine keep_far ?_ GW1170.out _ | refine keep_far ?_ GW1177.out _ | refine keep_far ?_ GW1183.out _) | exact HK.out)⟩, ⟨by repeat (first | (with_reducible first | exact HB.out | apply bAl | apply bDN | apply bD1 | refine bSt ?_ (IsS103.ge HI0.out) | refine bSt ?_ GE1170.out | refine bSt ?_ GE1177.out | refine bSt ?_ GE1183.out) | exact HB.out)⟩⟩
         ·rw [if_neg c62] at H
          exact absurd H (by simp)
       ·rw [if_neg c50] at H
        have c50b0 : decide (x10_3 < t1199) = false := decide_eq_false c50
        clear c50
        simp only [Option.some.injEq, Prod.mk.injEq] at H
        obtain ⟨rfl, rfl, rfl, rfl, rfl, rfl⟩ := H
        have hnb71 := NB1183_1170.out
        have hnc71 := NB1170_1183.out
        have hnb72 := NB1183_1177.out
        have hnc72 := NB1177_1183.out
        have hnb73 := NB1183_0.out
        have hnc73 := NB0_1183.out
        obtain ⟨hcz74_0, hcz74_1, hcz74_2, hfz74_0, hfz74_1, hfz74_2⟩ := cl3 BK1183.out
        have hnb75 := NB1170_1177.out
        have hnc75 := NB1177_1170.out
        have hnb76 := NB1170_0.out
        have hnc76 := NB0_1170.out
        obtain ⟨hcz77_0, hcz77_1, hcz77_2, hfz77_0, hfz77_1, hfz77_2⟩ := cl3 BK1170.out
        go_wp2
        refine bodyPost_ret (results_ct rfl _ _ gb1170 41 #[.int .i64 x1184000_33, .int .i64 x1184001_33, .int .i64 x1184002_33] (0, 0) _ rfl (by (with_reducible repeat (first | refine kDN ?_ _ | refine kD ?_ | refine kA ?_ _)); refine blk_put (cs := #[.int .i64 x1184000_33, .int .i64 x1184001_33, .int .i64 0]) ?_ 2 _ rfl; (with_reducible repeat (first | refine kDN ?_ _ | refine kD ?_ | refine kA ?_ _)); refine blk_put (cs := #[.int .i64 x1184000_33, .int .i64 0, .int .i64 0]) ?_ 1 _ rfl; (with_reducible repeat (first | refine kDN ?_ _ | refine kD ?_ | refine kA ?_ _)); refine blk_put (cs := #[.int .i64 0, .int .i64 0, .int .i64 0]) ?_ 0 _ rfl; (with_reducible repeat (first | refine kDN ?_ _ | refine kD ?_ | refine kA ?_ _)); exact BK1170.out) Tryd.underlying41 rfl (by kernel_rfl)) rfl ?_
        exact ⟨_, by first | rfl | (simp [errW_none, errW_some] <;> rfl) | (simp [*, errW_none, errW_some] <;> rfl), by (with_reducible repeat (first | apply Kd.R_alloc | apply Kd.R_drewN | apply Kd.R_drew)); exact Kd.R_mono (zT3 HO_8 BK1170 (.int .i64 x1184000_33) (.int .i64 x1184001_33) (.int .i64 x1184002_33)) (fun _ hk => trivial), by repeat (first | (with_reducible first | exact HI0.out | apply IsS103.alloc | apply IsS103.drewN | apply IsS103.drew | apply IsS103.set_1 | apply IsS103.set_2 | refine IsS103.far ?_ NB0_1170.out _ | refine IsS103.far ?_ NB0_1177.out _ | refine IsS103.far ?_ NB0_1183.out _) | exact HI0.out), by repeat (first | (with_reducible first | exact HB.out | apply bAl | apply bDN | apply bD1 | refine bSt ?_ (IsS103.ge HI0.out) | refine bSt ?_ GE1170.out | refine bSt ?_ GE1177.out | refine bSt ?_ GE1183.out) | exact HB.out), by repeat (first | (with_reducible first | exact HK.out | apply KeepBut.set_ | apply keep_drewN | apply keep_drew | apply keep_alloc | refine keep_far ?_ GW1170.out _ | refine keep_far ?_ GW1177.out _ | refine keep_far ?_ GW1183.out _) | exact HK.out)⟩
set_option maxHeartbeats 8000000 in
set_option maxRecDepth 100000 in
theorem spec_DrawCrowd.calls (k : Nat) (A0 : Option Addr) (c0 : Nat) (l0 : List Int) (r1 : Int) (r2 : Int) (r3 : Int) (r4 : List Int) (w : World) (hr0 : Kd.C (Kd.int .u8) w A0 l0.length l0) (hc0 : l0.length ≤ c0) (h : spec_DrawCrowd.f k l0 = some (r1, r2, r3, r4)) :
  Calls Tryd.prog 24 #[.slice A0 l0.length c0] w fun e w' => ∃ v3_ : Value, e = .returned (.tuple #[.agg #[.int .i64 r1, .int .i64 r2, .int .i64 r3], v3_]) ∧ Kd.R (Kd.int .i64) 3 w' w.heap.size (fun _ => True) v3_ r4 ∧ Below w.heap.size w w' := by
 have hu41 := Tryd.underlying41
 have HR0 := aK hr0
 have HC0 := aK hc0
 clear hr0 hc0
 have HB := aK (Below.refl w.heap.size w)
 have H : ((spec_l01New.f k l0).bind fun bt1211 => ((spec_l31Crowd.f k bt1211.1 bt1211.2.1 bt1211.2.2 3).bind fun bt1215 => (some (bt1215.1, bt1215.2.1, bt1215.2.2.1, bt1215.2.2.2.1)))) = some (r1, r2, r3, r4) := h
 clear h
 replace H := Option.bind_eq_some_iff.mp H
 obtain ⟨⟨t1211, t1212, t1213⟩, A20, H⟩ := H
 replace H : ((spec_l31Crowd.f k t1211 t1212 t1213 3).bind fun bt1215 => (some (bt1215.1, bt1215.2.1, bt1215.2.2.1, bt1215.2.2.2.1))) = some (r1, r2, r3, r4) := H
 have A2 := aK A20
 clear A20
 replace H := Option.bind_eq_some_iff.mp H
 obtain ⟨⟨t1215, t1216, t1217, t1218, t1221, t1222⟩, A30, H⟩ := H
 replace H : (some (t1215, t1216, t1217, t1218)) = some (r1, r2, r3, r4) := H
 have A3 := aK A30
 clear A30
 simp only [Option.some.injEq, Prod.mk.injEq] at H
 obtain ⟨rfl, rfl, rfl, rfl⟩ := H
 go_enter Tryd.func24, Tryd.ntmps24
 go_wp2_with (first | ((with_reducible refine gate_dst (N := 2) rfl ?_); refine box_event ?hg (N := 2) ?hd (cs := #[.int .i64 0, .int .i64 0, .int .i64 0]) (t := 41) ?hr ?_; (case hd => rfl); (case hg => rfl); (case hr => first | (go_simp; done) | (go_simp; rfl)); intro gb1210 hg w4 hbox hb; have BK1210 := aK (hbox); have GW1210 := aK ((by rw [hg]; exact (bSz (zH0 HB)) : w.heap.size ≤ gb1210)); replace HB := aK (bSp (zH0 HB) hb); have GE1210 := GW1210; clear hb hbox hg) | ((with_reducible refine gate_callee (f := 41) rfl ?_); refine goesL_ (some 8) rfl rfl Tryd.func41 (by kernel_rfl) rfl #[.slice A0 l0.length c0] rfl zD ?_; (with_reducible refine (spec_l01New.calls k _ _ l0 t1211 t1212 t1213 w _ ?side1 ?side2 ?side3 A2.out).mono ?_); (case side1 => exact (zH1 HB GE1210)); (case side2 => exact HR0.out); (case side3 => exact HC0.out); rintro e w5 ⟨g1214, rfl, hi, hb, hb2⟩; refine ⟨_, rfl, ?_⟩; replace HB := aK (hb); have HI1214 := aK (hi); have NB1214_1210 := aK (IsS103.ne_blk hi (blk_below (g := gb1210) (o := .cells #[.int .i64 0, .int .i64 0, .int .i64 0] 41 (0, 0)) (zK BK1210) hb2) (by decide)); have NB1210_1214 := aK (Ne.symm (IsS103.ne_blk hi (blk_below (g := gb1210) (o := .cells #[.int .i64 0, .int .i64 0, .int .i64 0] 41 (0, 0)) (zK BK1210) hb2) (by decide))); replace BK1210 := aK (blk_below (g := gb1210) (o := .cells #[.int .i64 0, .int .i64 0, .int .i64 0] 41 (0, 0)) (zK BK1210) hb2); (try clear hb); (try clear hb2); (try clear hk); (try clear hi)) | ((with_reducible refine gate_callee (f := 54) rfl ?_); refine goesL_ (some 9) rfl rfl Tryd.func54 (by kernel_rfl) rfl #[.pointer (some ⟨g1214, 0, none⟩), .int .i64 3] rfl zD ?_; (with_reducible refine (spec_l31Crowd.calls k g1214 t1211 t1212 t1213 3 t1215 t1216 t1217 t1218 t1221 t1222 w _ ?side1 ?side2 A3.out).mono ?_); (case side1 => repeat (first | (with_reducible first | exact HI1214.out | apply IsS103.alloc | apply IsS103.drewN | apply IsS103.drew | apply IsS103.set_1 | apply IsS103.set_2 | refine IsS103.far ?_ NB1214_1210.out _) | exact HI1214.out)); (case side2 => repeat (first | (with_reducible first | exact HB.out | apply bAl | apply bDN | apply bD1 | refine bSt ?_ (IsS103.ge HI1214.out) | refine bSt ?_ GE1210.out) | exact HB.out)); rintro e w6 ⟨v1219, rfl, ho0, hi, hb, hk⟩; refine ⟨_, rfl, ?_⟩; replace BK1210 := aK (KeepBut.blk hk (g' := gb1210) (o := .cells #[.int .i64 0, .int .i64 0, .int .i64 0] 41 (0, 0)) (zK BK1210) NB1210_1214.out (by simp)); have HO1220 := aK (Kd.R_lower ho0 (bSz (by repeat (first | (with_reducible first | exact HB.out | apply bAl | apply bDN | apply bD1 | refine bSt ?_ (IsS103.ge HI1214.out) | refine bSt ?_ GE1210.out) | exact HB.out)))); replace HB := aK (hb); replace HI1214 := aK (hi); (try clear hb); (try clear hb2); (try clear hk); (try clear hi); (try clear ho0)) | ((with_reducible refine gate_dst (N := 4) rfl ?_); refine box_event ?hg (N := 4) ?hd (cs := #[.int .i64 0, .int .i64 0, .int .i64 0]) (t := 41) ?hr ?_; (case hd => rfl); (case hg => rfl); (case hr => first | (go_simp; done) | (go_simp; rfl)); intro gb1223 hg w7 hbox hb; replace HO1220 := aK (Kd.R_below (zA HO1220) hb); have BK1223 := aK (hbox); have GW1223 := aK ((by rw [hg]; exact (bSz (by repeat (first | (with_reducible first | exact HB.out | apply bAl | apply bDN | apply bD1 | refine bSt ?_ (IsS103.ge HI1214.out) | refine bSt ?_ GE1210.out) | exact HB.out))) : w.heap.size ≤ gb1223)); replace HB := aK (bSp (by repeat (first | (with_reducible first | exact HB.out | apply bAl | apply bDN | apply bD1 | refine bSt ?_ (IsS103.ge HI1214.out) | refine bSt ?_ GE1210.out) | exact HB.out)) hb); have GE1223 := GW1223; have NB1210_1223 := nbl BK1210 hg (by intro z_; (with_reducible repeat (first | refine kDN ?_ _ | refine kD ?_ | refine kA ?_ _)); exact z_); replace BK1210 := zB BK1210 hb; have NB1223_1210 := nbs NB1210_1223; have NB1214_1223 := aK ((by rw [hg]; exact Nat.ne_of_lt (IsS103.lt (show IsS103 w _ g1214 t1211 t1221 t1222 from by repeat (first | (with_reducible first | exact HI1214.out | apply IsS103.alloc | apply IsS103.drewN | apply IsS103.drew | apply IsS103.set_1 | apply IsS103.set_2 | refine IsS103.far ?_ NB1214_1210.out _) | exact HI1214.out))) : g1214 ≠ gb1223)); have NB1223_1214 := aK ((by rw [hg]; exact Nat.ne_of_gt (IsS103.lt (show IsS103 w _ g1214 t1211 t1221 t1222 from by repeat (first | (with_reducible first | exact HI1214.out | apply IsS103.alloc | apply IsS103.drewN | apply IsS103.drew | apply IsS103.set_1 | apply IsS103.set_2 | refine IsS103.far ?_ NB1214_1210.out _) | exact HI1214.out))) : gb1223 ≠ g1214)); replace HI1214 := aK (IsS103.below (by repeat (first | (with_reducible first | exact HI1214.out | apply IsS103.alloc | apply IsS103.drewN | apply IsS103.drew | apply IsS103.set_1 | apply IsS103.set_2 | refine IsS103.far ?_ NB1214_1210.out _) | exact HI1214.out)) hb); clear hb hbox hg; have hnb8 := NB1223_1210.out; have hnc8 := NB1210_1223.out; have hnb9 := NB1223_1214.out; have hnc9 := NB1214_1223.out; obtain ⟨hcz10_0, hcz10_1, hcz10_2, hfz10_0, hfz10_1, hfz10_2⟩ := cl3 BK1223.out; have hnb11 := NB1210_1214.out; have hnc11 := NB1214_1210.out; obtain ⟨hcz12_0, hcz12_1, hcz12_2, hfz12_0, hfz12_1, hfz12_2⟩ := cl3 BK1210.out))
 refine bodyPost_ret (results_ct rfl _ _ gb1210 41 #[.int .i64 t1215, .int .i64 t1216, .int .i64 t1217] (0, 0) _ rfl (by (with_reducible repeat (first | refine kDN ?_ _ | refine kD ?_ | refine kA ?_ _)); refine blk_put (cs := #[.int .i64 t1215, .int .i64 t1216, .int .i64 0]) ?_ 2 _ rfl; (with_reducible repeat (first | refine kDN ?_ _ | refine kD ?_ | refine kA ?_ _)); refine blk_put (cs := #[.int .i64 t1215, .int .i64 0, .int .i64 0]) ?_ 1 _ rfl; (with_reducible repeat (first | refine kDN ?_ _ | refine kD ?_ | refine kA ?_ _)); refine blk_put (cs := #[.int .i64 0, .int .i64 0, .int .i64 0]) ?_ 0 _ rfl; (with_reducible repeat (first | refine kDN ?_ _ | refine kD ?_ | refine kA ?_ _)); refine blk_far ?_ NB1210_1223.out _; (with_reducible repeat (first | refine kDN ?_ _ | refine kD ?_ | refine kA ?_ _)); refine blk_far ?_ NB1210_1223.out _; (with_reducible repeat (first | refine kDN ?_ _ | refine kD ?_ | refine kA ?_ _)); refine blk_far ?_ NB1210_1223.out _; (with_reducible repeat (first | refine kDN ?_ _ | refine kD ?_ | refine kA ?_ _)); exact BK1210.out) Tryd.underlying41 rfl (by kernel_rfl)) rfl ?_
 exact ⟨_, by first | rfl | (simp [errW_none, errW_some] <;> rfl) | (simp [*, errW_none, errW_some] <;> rfl), by (with_reducible repeat (first | apply Kd.R_alloc | apply Kd.R_drewN | apply Kd.R_drew)); exact Kd.R_mono (Kd.R_far (p := ⟨gb1210, 2, none⟩) (Kd.R_far (p := ⟨gb1210, 1, none⟩) (Kd.R_far (p := ⟨gb1210, 0, none⟩) (Kd.R_far (p := ⟨gb1223, 2, none⟩) (Kd.R_far (p := ⟨gb1223, 1, none⟩) (Kd.R_far (p := ⟨gb1223, 0, none⟩) (Kd.R_types (Kd.R_types HO1220.out BK1223.out (by decide)) BK1210.out (by decide)) (fun _ hk => hk.1.2) (.int .i64 t1215)) (fun _ hk => hk.1.2) (.int .i64 t1216)) (fun _ hk => hk.1.2) (.int .i64 t1217)) (fun _ hk => hk.2) (.int .i64 t1215)) (fun _ hk => hk.2) (.int .i64 t1216)) (fun _ hk => hk.2) (.int .i64 t1217)) (fun _ hk => trivial), by repeat (first | (with_reducible first | exact HB.out | apply bAl | apply bDN | apply bD1 | refine bSt ?_ (IsS103.ge HI1214.out) | refine bSt ?_ GE1210.out | refine bSt ?_ GE1223.out) | exact HB.out)⟩
theorem spec_DrawCrowd.ctr {k : Nat} {l0 : List Int} {r1 : Int} {r2 : Int} {r3 : Int} {r4 : List Int} (h : spec_DrawCrowd.f k l0 = some (r1, r2, r3, r4)) : Ctr Tryd.prog 24 [.pr 1 (l0.map eU8)] (.tu [.ag [.v (.int .i64 r1), .v (.int .i64 r2), .v (.int .i64 r3)], .ow 3 1 (r4.map eI)]) := by
  refine ⟨enters_of Tryd.func24 rfl rfl, fun w ys _ hys => ?_⟩
  simp only [RepL, Rep] at hys
  obtain ⟨_, _, rfl, q1, rfl⟩ := hys
  obtain ⟨_, _, rfl, hr1, hc1⟩ := C_of_at E_eU8 q1
  refine (spec_DrawCrowd.calls _ _ _ _ _ _ _ _ w hr1 hc1 h).mono ?_
  rintro _ w' ⟨v1, rfl, h1, hb⟩
  have o1 := row_of_R E_eI h1
  refine ⟨_, (bk v1).toList, rfl, ?_, by cases bk v1 <;> simp, (by first | exact hb | exact hb.below)⟩
  simp only [RepR, RepRL]
  exact ⟨_, rfl, _, _, [], (bk v1).toList, rfl, by simp, ⟨_, rfl, _, _, [], [], rfl, by simp, ⟨rfl, rfl⟩, _, _, [], [], rfl, by simp, ⟨rfl, rfl⟩, _, _, [], [], rfl, by simp, ⟨rfl, rfl⟩, rfl, rfl⟩, _, _, (bk v1).toList, [], rfl, by simp, ⟨o1, E_eI.row _, E_eI.pos, rfl⟩, rfl, rfl⟩
end Go.Proofs.YtdjdleldocfpaaaDoor.F
end
