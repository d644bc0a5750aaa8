/- Packed by a program of the session (wip/tools/pack.py): what the claim's theorem reaches, of the texts that wip/ and the kit's printer lay. -/
import Derived.Test.YtimejdhglmajdaaPkFnExactCanFollow7
section
namespace Go.Proofs.Ytimejdhglmajdaa.F
open Go.RowKit Go.Proofs.YtimejdhglmajdaaW.PrintWords Go.Proofs.YtimejdhglmajdaaW.PrintLast Go.Proofs.YtimejdhglmajdaaW.PrintMore
set_option linter.unusedVariables false
set_option linter.unusedSimpArgs false
attribute [local go_sem] min2_int min_two
def laws_FnExactCanFollow.T5 : Bool × List (List Nat × List Nat) := (true, [([], []), ([0], [0]), ([], []), ([2, 1], [2]), ([], []), ([4, 3], [4]), ([1, 3, 5, 5], [1, 3, 5]), ([6, 6, 0, 1, 2, 3, 4, 5, 6], [6])])
def laws_FnExactCanFollow.B5 : List Nat := [0, 1, 0, 7, 0, 31, 63, 127]
theorem laws_FnExactCanFollow.tab5 : rtab .any (opsOf Try.f8 5) = laws_FnExactCanFollow.T5 := by kernel_rfl
theorem laws_FnExactCanFollow.bits5 : waitsOk laws_FnExactCanFollow.T5.2 laws_FnExactCanFollow.B5 = true := by kernel_rfl
set_option maxHeartbeats 8000000 in
set_option maxRecDepth 100000 in
theorem laws_FnExactCanFollow.calls (k : Nat) (a0_0 : Int) (a0_1 : Int) (a0_2 : Int) (a0_3 : Int) (A0_4 : Option Addr) (c0_4 : Nat) (l0_4 : List (SlaGate)) (a1_0 : Int) (a1_1 : Int) (a2_0 : Int) (a2_1 : Int) (w : World) (hr0_4 : Kd.C k139 w A0_4 l0_4.length l0_4) (hc0_4 : l0_4.length ≤ c0_4) (h : laws_FnExactCanFollow.f k a0_0 a0_1 a0_2 a0_3 l0_4 a1_0 a1_1 a2_0 a2_1 = some true) :
  Calls Try.prog 8 #[.agg #[.int .i64 a0_0, .int .i64 a0_1, .int .i64 a0_2, .int .i64 a0_3, .slice A0_4 l0_4.length c0_4], .agg #[.int .i64 a1_0, .int .i64 a1_1], .agg #[.int .i64 a2_0, .int .i64 a2_1]] w fun e w' => e = .returned (.bool true) ∧ Below w.heap.size w w' := by
 have hu51 := Try.underlying51
 have hu53 := Try.underlying53
 have hu58 := Try.underlying58
 have HR0_4 := Aside0.mk hr0_4
 have HC0_4 := Aside0.mk hc0_4
 clear hr0_4 hc0_4
 have HB := Aside0.mk (Below.refl w.heap.size w)
 have H : ((laws_szTimed.f a0_0 a0_1 a0_2 a0_3 l0_4 1048576).bind fun t677 => (if t677 < 0 then (some true) else ((laws_toTimed.f k a0_0 a0_1 a0_2 a0_3 l0_4).bind fun bt678 => ((laws_toEntry.f a1_0 a1_1).bind fun bt685 => ((laws_toEntry.f a2_0 a2_1).bind fun bt687 => ((spec_CanFollow.f k bt678.1 bt678.2.1 bt678.2.2.1 bt678.2.2.2.1 bt678.2.2.2.2 bt685.1 bt685.2 bt687.1 bt687.2).bind fun t689 => ((laws_toTimed.f k a0_0 a0_1 a0_2 a0_3 l0_4).bind fun bt690 => ((laws_toEntry.f a1_0 a1_1).bind fun bt698 => ((laws_toEntry.f a2_0 a2_1).bind fun bt700 => ((impl_CanFollow.f bt690.1 bt690.2.1 bt690.2.2.1 bt690.2.2.2.1 bt690.2.2.2.2 bt698.1 bt698.2 bt700.1 bt700.2).bind fun t702 => (if (t702 != t689) = true then (some false) else ((laws_toTimed.f k a0_0 a0_1 a0_2 a0_3 l0_4).bind fun bt703 => ((laws_eqTimed.f k bt690.1 bt690.2.1 bt690.2.2.1 bt690.2.2.2.1 bt690.2.2.2.2 bt703.1 bt703.2.1 bt703.2.2.1 bt703.2.2.2.1 bt703.2.2.2.2).bind fun t710 => (if t710 = true then (some true) else (some false))))))))))))))) = some true := h
 clear h
 replace H := Option.bind_eq_some_iff.mp H
 obtain ⟨t677, A40, H⟩ := H
 replace H : (if t677 < 0 then (some true) else ((laws_toTimed.f k a0_0 a0_1 a0_2 a0_3 l0_4).bind fun bt678 => ((laws_toEntry.f a1_0 a1_1).bind fun bt685 => ((laws_toEntry.f a2_0 a2_1).bind fun bt687 => ((spec_CanFollow.f k bt678.1 bt678.2.1 bt678.2.2.1 bt678.2.2.2.1 bt678.2.2.2.2 bt685.1 bt685.2 bt687.1 bt687.2).bind fun t689 => ((laws_toTimed.f k a0_0 a0_1 a0_2 a0_3 l0_4).bind fun bt690 => ((laws_toEntry.f a1_0 a1_1).bind fun bt698 => ((laws_toEntry.f a2_0 a2_1).bind fun bt700 => ((impl_CanFollow.f bt690.1 bt690.2.1 bt690.2.2.1 bt690.2.2.2.1 bt690.2.2.2.2 bt698.1 bt698.2 bt700.1 bt700.2).bind fun t702 => (if (t702 != t689) = true then (some false) else ((laws_toTimed.f k a0_0 a0_1 a0_2 a0_3 l0_4).bind fun bt703 => ((laws_eqTimed.f k bt690.1 bt690.2.1 bt690.2.2.1 bt690.2.2.2.1 bt690.2.2.2.2 bt703.1 bt703.2.1 bt703.2.2.1 bt703.2.2.2.1 bt703.2.2.2.2).bind fun t710 => (if t710 = true then (some true) else (some false)))))))))))))) = some true := H
 have A4 := Aside0.mk A40
 clear A40
 by_cases c5 : t677 < 0
 ·rw [if_pos c5] at H
  have c5b0 : decide (t677 < 0) = true := decide_eq_true c5
  clear c5
  go_enter Try.func8, Try.ntmps8
  go_wp2_with (first | ((with_reducible refine gate_dst (N := 3) rfl ?_); refine box_event ?hg (N := 3) ?hd (cs := #[.int .i64 a0_0, .int .i64 a0_1, .int .i64 a0_2, .int .i64 a0_3, .slice A0_4 l0_4.length c0_4]) (t := 51) ?hr ?_; (case hd => rfl); (case hg => rfl); (case hr => first | (go_simp; done) | (go_simp; rfl)); intro gb674 hg w6 hbox hb; have n0_ := Aside0.mk (below_step (by repeat (first | (with_reducible first | exact HB.out | apply below_alloc | apply pw_below_drewN | apply below_drew1) | exact HB.out)) hb); have n1_ := Aside0.mk (hbox); have n2_ := Aside0.mk ((by rw [hg]; exact (below_size (by repeat (first | (with_reducible first | exact HB.out | apply below_alloc | apply pw_below_drewN | apply below_drew1) | exact HB.out))) : w.heap.size ≤ gb674)); have n3_ := Aside0.mk ((by rw [hg]; exact (below_size (by repeat (first | (with_reducible first | exact HB.out | apply below_alloc | apply pw_below_drewN | apply below_drew1) | exact HB.out))) : w.heap.size ≤ gb674)); clear HB; have HB := n0_; have BK674 := n1_; have GW674 := n2_; have GE674 := n3_; clear n0_ n1_ n2_ n3_; clear hb hbox hg) | ((with_reducible refine gate_dst (N := 4) rfl ?_); refine box_event ?hg (N := 4) ?hd (cs := #[.int .i64 a1_0, .int .i64 a1_1]) (t := 53) ?hr ?_; (case hd => rfl); (case hg => rfl); (case hr => first | (go_simp; done) | (go_simp; rfl)); intro gb675 hg w7 hbox hb; have n0_ := Aside0.mk (blk_below (g := gb674) (o := .cells #[.int .i64 a0_0, .int .i64 a0_1, .int .i64 a0_2, .int .i64 a0_3, .slice A0_4 l0_4.length c0_4] 51 (0, 0)) (by (with_reducible repeat (first | refine blk_drewN ?_ _ | refine blk_drew ?_ | refine blk_alloc ?_ _)); exact BK674.out) hb); have n1_ := Aside0.mk (below_step (by repeat (first | (with_reducible first | exact HB.out | apply below_alloc | apply pw_below_drewN | apply below_drew1 | refine below_set ?_ GE674.out) | exact HB.out)) hb); have n2_ := Aside0.mk (hbox); have n3_ := Aside0.mk ((by rw [hg]; exact (below_size (by repeat (first | (with_reducible first | exact HB.out | apply below_alloc | apply pw_below_drewN | apply below_drew1 | refine below_set ?_ GE674.out) | exact HB.out))) : w.heap.size ≤ gb675)); have n4_ := Aside0.mk ((by rw [hg]; exact (below_size (by repeat (first | (with_reducible first | exact HB.out | apply below_alloc | apply pw_below_drewN | apply below_drew1 | refine below_set ?_ GE674.out) | exact HB.out))) : w.heap.size ≤ gb675)); have n5_ := Aside0.mk ((by rw [hg]; exact Nat.ne_of_lt (blk_lt (g := gb674) (o := .cells #[.int .i64 a0_0, .int .i64 a0_1, .int .i64 a0_2, .int .i64 a0_3, .slice A0_4 l0_4.length c0_4] 51 (0, 0)) (by (with_reducible repeat (first | refine blk_drewN ?_ _ | refine blk_drew ?_ | refine blk_alloc ?_ _)); exact BK674.out)) : gb674 ≠ gb675)); have n6_ := Aside0.mk ((by rw [hg]; exact Nat.ne_of_gt (blk_lt (g := gb674) (o := .cells #[.int .i64 a0_0, .int .i64 a0_1, .int .i64 a0_2, .int .i64 a0_3, .slice A0_4 l0_4.length c0_4] 51 (0, 0)) (by (with_reducible repeat (first | refine blk_drewN ?_ _ | refine blk_drew ?_ | refine blk_alloc ?_ _)); exact BK674.out)) : gb675 ≠ gb674)); clear BK674; clear HB; have BK674 := n0_; have HB := n1_; have BK675 := n2_; have GW675 := n3_; have GE675 := n4_; have NB674_675 := n5_; have NB675_674 := n6_; clear n0_ n1_ n2_ n3_ n4_ n5_ n6_; clear hb hbox hg) | ((with_reducible refine gate_dst (N := 5) rfl ?_); refine box_event ?hg (N := 5) ?hd (cs := #[.int .i64 a2_0, .int .i64 a2_1]) (t := 53) ?hr ?_; (case hd => rfl); (case hg => rfl); (case hr => first | (go_simp; done) | (go_simp; rfl)); intro gb676 hg w8 hbox hb; have n0_ := Aside0.mk (blk_below (g := gb674) (o := .cells #[.int .i64 a0_0, .int .i64 a0_1, .int .i64 a0_2, .int .i64 a0_3, .slice A0_4 l0_4.length c0_4] 51 (0, 0)) (by (with_reducible repeat (first | refine blk_drewN ?_ _ | refine blk_drew ?_ | refine blk_alloc ?_ _)); exact BK674.out) hb); have n1_ := Aside0.mk (blk_below (g := gb675) (o := .cells #[.int .i64 a1_0, .int .i64 a1_1] 53 (0, 0)) (by (with_reducible repeat (first | refine blk_drewN ?_ _ | refine blk_drew ?_ | refine blk_alloc ?_ _)); exact BK675.out) hb); have n2_ := Aside0.mk (below_step (by repeat (first | (with_reducible first | exact HB.out | apply below_alloc | apply pw_below_drewN | apply below_drew1 | refine below_set ?_ GE674.out | refine below_set ?_ GE675.out) | exact HB.out)) hb); have n3_ := Aside0.mk (hbox); have n4_ := Aside0.mk ((by rw [hg]; exact (below_size (by repeat (first | (with_reducible first | exact HB.out | apply below_alloc | apply pw_below_drewN | apply below_drew1 | refine below_set ?_ GE674.out | refine below_set ?_ GE675.out) | exact HB.out))) : w.heap.size ≤ gb676)); have n5_ := Aside0.mk ((by rw [hg]; exact (below_size (by repeat (first | (with_reducible first | exact HB.out | apply below_alloc | apply pw_below_drewN | apply below_drew1 | refine below_set ?_ GE674.out | refine below_set ?_ GE675.out) | exact HB.out))) : w.heap.size ≤ gb676)); have n6_ := Aside0.mk ((by rw [hg]; exact Nat.ne_of_lt (blk_lt (g := gb674) (o := .cells #[.int .i64 a0_0, .int .i64 a0_1, .int .i64 a0_2, .int .i64 a0_3, .slice A0_4 l0_4.length c0_4] 51 (0, 0)) (by (with_reducible repeat (first | refine blk_drewN ?_ _ | refine blk_drew ?_ | refine blk_alloc ?_ _)); exact BK674.out)) : gb674 ≠ gb676)); have n7_ := Aside0.mk ((by rw [hg]; exact Nat.ne_of_gt (blk_lt (g := gb674) (o := .cells #[.int .i64 a0_0, .int .i64 a0_1, .int .i64 a0_2, .int .i64 a0_3, .slice A0_4 l0_4.length c0_4] 51 (0, 0)) (by (with_reducible repeat (first | refine blk_drewN ?_ _ | refine blk_drew ?_ | refine blk_alloc ?_ _)); exact BK674.out)) : gb676 ≠ gb674)); have n8_ := Aside0.mk ((by rw [hg]; exact Nat.ne_of_lt (blk_lt (g := gb675) (o := .cells #[.int .i64 a1_0, .int .i64 a1_1] 53 (0, 0)) (by (with_reducible repeat (first | refine blk_drewN ?_ _ | refine blk_drew ?_ | refine blk_alloc ?_ _)); exact BK675.out)) : gb675 ≠ gb676)); have n9_ := Aside0.mk ((by rw [hg]; exact Nat.ne_of_gt (blk_lt (g := gb675) (o := .cells #[.int .i64 a1_0, .int .i64 a1_1] 53 (0, 0)) (by (with_reducible repeat (first | refine blk_drewN ?_ _ | refine blk_drew ?_ | refine blk_alloc ?_ _)); exact BK675.out)) : gb676 ≠ gb675)); clear BK674; clear BK675; clear HB; have BK674 := n0_; have BK675 := n1_; have HB := n2_; have BK676 := n3_; have GW676 := n4_; have GE676 := n5_; have NB674_676 := n6_; have NB676_674 := n7_; have NB675_676 := n8_; have NB676_675 := n9_; clear n0_ n1_ n2_ n3_ n4_ n5_ n6_ n7_ n8_ n9_; clear hb hbox hg; have hnb9 := NB674_675.out; have hnc9 := NB675_674.out; have hnb10 := NB674_676.out; have hnc10 := NB676_674.out; have hcz11_0 : w8.cell? ⟨gb674, 0, none⟩ = some (.int .i64 a0_0) := (blk_cell BK674.out 0).trans rfl; have hcz11_1 : w8.cell? ⟨gb674, 1, none⟩ = some (.int .i64 a0_1) := (blk_cell BK674.out 1).trans rfl; have hcz11_2 : w8.cell? ⟨gb674, 2, none⟩ = some (.int .i64 a0_2) := (blk_cell BK674.out 2).trans rfl; have hcz11_3 : w8.cell? ⟨gb674, 3, none⟩ = some (.int .i64 a0_3) := (blk_cell BK674.out 3).trans rfl; have hcz11_4 : w8.cell? ⟨gb674, 4, none⟩ = some (.slice A0_4 l0_4.length c0_4) := (blk_cell BK674.out 4).trans rfl; have hfz11_0 := blk_frozen BK674.out 0; have hfz11_1 := blk_frozen BK674.out 1; have hfz11_2 := blk_frozen BK674.out 2; have hfz11_3 := blk_frozen BK674.out 3; have hfz11_4 := blk_frozen BK674.out 4) | ((with_reducible refine gate_callee (f := 34) rfl ?_); refine goesL_ (some 13) rfl rfl Try.func34 (by kernel_rfl) rfl #[.agg #[.int .i64 a0_0, .int .i64 a0_1, .int .i64 a0_2, .int .i64 a0_3, .slice A0_4 l0_4.length c0_4], .int .i64 1048576] rfl (by (try simp only [List.map_toArray, List.map_cons, List.map_nil]); first | done | rfl | (simp only [List.length_drop, List.length_take]; rfl)) ?_; (with_reducible refine (laws_szTimed.calls a0_0 a0_1 a0_2 a0_3 _ _ l0_4 1048576 t677 _ ?side1 ?side2 A4.out).mono ?_); (case side1 => repeat (first | exact (Kd.C_below HR0_4.out HB.out) | (with_reducible refine Kd.C_alloc ?_ _) | (with_reducible refine Kd.C_drewN ?_ _) | (with_reducible refine Kd.C_drew ?_))); (case side2 => exact HC0_4.out); rintro e w12 ⟨rfl, hb⟩; refine ⟨_, rfl, ?_⟩; have n0_ := Aside0.mk (blk_below (g := gb674) (o := .cells #[.int .i64 a0_0, .int .i64 a0_1, .int .i64 a0_2, .int .i64 a0_3, .slice A0_4 l0_4.length c0_4] 51 (0, 0)) (by (with_reducible repeat (first | refine blk_drewN ?_ _ | refine blk_drew ?_ | refine blk_alloc ?_ _)); exact BK674.out) hb); have n1_ := Aside0.mk (blk_below (g := gb675) (o := .cells #[.int .i64 a1_0, .int .i64 a1_1] 53 (0, 0)) (by (with_reducible repeat (first | refine blk_drewN ?_ _ | refine blk_drew ?_ | refine blk_alloc ?_ _)); exact BK675.out) hb); have n2_ := Aside0.mk (blk_below (g := gb676) (o := .cells #[.int .i64 a2_0, .int .i64 a2_1] 53 (0, 0)) (by (with_reducible repeat (first | refine blk_drewN ?_ _ | refine blk_drew ?_ | refine blk_alloc ?_ _)); exact BK676.out) hb); have n3_ := Aside0.mk (below_step (by repeat (first | (with_reducible first | exact HB.out | apply below_alloc | apply pw_below_drewN | apply below_drew1 | refine below_set ?_ GE674.out | refine below_set ?_ GE675.out | refine below_set ?_ GE676.out) | exact HB.out)) hb); clear BK674; clear BK675; clear BK676; clear HB; have BK674 := n0_; have BK675 := n1_; have BK676 := n2_; have HB := n3_; clear n0_ n1_ n2_ n3_; (try clear hb); (try clear hb2); (try clear hk); (try clear hi)))
  go_ret
  exact ⟨by first | rfl | (simp [errW_none, errW_some] <;> rfl) | (simp [*, errW_none, errW_some] <;> rfl), by repeat (first | (with_reducible first | exact HB.out | apply below_alloc | apply pw_below_drewN | apply below_drew1 | refine below_set ?_ GE674.out | refine below_set ?_ GE675.out | refine below_set ?_ GE676.out) | exact HB.out)⟩
 ·rw [if_neg c5] at H
  have c5b0 : decide (t677 < 0) = false := decide_eq_false c5
  clear c5
  replace H := Option.bind_eq_some_iff.mp H
  obtain ⟨⟨t678, t679, t680, t681, t682⟩, A130, H⟩ := H
  replace H : ((laws_toEntry.f a1_0 a1_1).bind fun bt685 => ((laws_toEntry.f a2_0 a2_1).bind fun bt687 => ((spec_CanFollow.f k t678 t679 t680 t681 t682 bt685.1 bt685.2 bt687.1 bt687.2).bind fun t689 => ((laws_toTimed.f k a0_0 a0_1 a0_2 a0_3 l0_4).bind fun bt690 => ((laws_toEntry.f a1_0 a1_1).bind fun bt698 => ((laws_toEntry.f a2_0 a2_1).bind fun bt700 => ((impl_CanFollow.f bt690.1 bt690.2.1 bt690.2.2.1 bt690.2.2.2.1 bt690.2.2.2.2 bt698.1 bt698.2 bt700.1 bt700.2).bind fun t702 => (if (t702 != t689) = true then (some false) else ((laws_toTimed.f k a0_0 a0_1 a0_2 a0_3 l0_4).bind fun bt703 => ((laws_eqTimed.f k bt690.1 bt690.2.1 bt690.2.2.1 bt690.2.2.2.1 bt690.2.2.2.2 bt703.1 bt703.2.1 bt703.2.2.1 bt703.2.2.2.1 bt703.2.2.2.2).bind fun t710 => (if t710 = true then (some true) else (some false)))))))))))) = some true := H
  have A13 := Aside0.mk A130
  clear A130
  replace H := Option.bind_eq_some_iff.mp H
  obtain ⟨⟨t685, t686⟩, A140, H⟩ := H
  replace H : ((laws_toEntry.f a2_0 a2_1).bind fun bt687 => ((spec_CanFollow.f k t678 t679 t680 t681 t682 t685 t686 bt687.1 bt687.2).bind fun t689 => ((laws_toTimed.f k a0_0 a0_1 a0_2 a0_3 l0_4).bind fun bt690 => ((laws_toEntry.f a1_0 a1_1).bind fun bt698 => ((laws_toEntry.f a2_0 a2_1).bind fun bt700 => ((impl_CanFollow.f bt690.1 bt690.2.1 bt690.2.2.1 bt690.2.2.2.1 bt690.2.2.2.2 bt698.1 bt698.2 bt700.1 bt700.2).bind fun t702 => (if (t702 != t689) = true then (some false) else ((laws_toTimed.f k a0_0 a0_1 a0_2 a0_3 l0_4).bind fun bt703 => ((laws_eqTimed.f k bt690.1 bt690.2.1 bt690.2.2.1 bt690.2.2.2.1 bt690.2.2.2.2 bt703.1 bt703.2.1 bt703.2.2.1 bt703.2.2.2.1 bt703.2.2.2.2).bind fun t710 => (if t710 = true then (some true) else (some false))))))))))) = some true := H
  have A14 := Aside0.mk A140
  clear A140
  replace H := Option.bind_eq_some_iff.mp H
  obtain ⟨⟨t687, t688⟩, A150, H⟩ := H
  replace H : ((spec_CanFollow.f k t678 t679 t680 t681 t682 t685 t686 t687 t688).bind fun t689 => ((laws_toTimed.f k a0_0 a0_1 a0_2 a0_3 l0_4).bind fun bt690 => ((laws_toEntry.f a1_0 a1_1).bind fun bt698 => ((laws_toEntry.f a2_0 a2_1).bind fun bt700 => ((impl_CanFollow.f bt690.1 bt690.2.1 bt690.2.2.1 bt690.2.2.2.1 bt690.2.2.2.2 bt698.1 bt698.2 bt700.1 bt700.2).bind fun t702 => (if (t702 != t689) = true then (some false) else ((laws_toTimed.f k a0_0 a0_1 a0_2 a0_3 l0_4).bind fun bt703 => ((laws_eqTimed.f k bt690.1 bt690.2.1 bt690.2.2.1 bt690.2.2.2.1 bt690.2.2.2.2 bt703.1 bt703.2.1 bt703.2.2.1 bt703.2.2.2.1 bt703.2.2.2.2).bind fun t710 => (if t710 = true then (some true) else (some false)))))))))) = some true := H
  have A15 := Aside0.mk A150
  clear A150
  replace H := Option.bind_eq_some_iff.mp H
  obtain ⟨t689, A160, H⟩ := H
  replace H : ((laws_toTimed.f k a0_0 a0_1 a0_2 a0_3 l0_4).bind fun bt690 => ((laws_toEntry.f a1_0 a1_1).bind fun bt698 => ((laws_toEntry.f a2_0 a2_1).bind fun bt700 => ((impl_CanFollow.f bt690.1 bt690.2.1 bt690.2.2.1 bt690.2.2.2.1 bt690.2.2.2.2 bt698.1 bt698.2 bt700.1 bt700.2).bind fun t702 => (if (t702 != t689) = true then (some false) else ((laws_toTimed.f k a0_0 a0_1 a0_2 a0_3 l0_4).bind fun bt703 => ((laws_eqTimed.f k bt690.1 bt690.2.1 bt690.2.2.1 bt690.2.2.2.1 bt690.2.2.2.2 bt703.1 bt703.2.1 bt703.2.2.1 bt703.2.2.2.1 bt703.2.2.2.2).bind fun t710 => (if t710 = true then (some true) else (some false))))))))) = some true := H
  have A16 := Aside0.mk A160
  clear A160
  replace H := Option.bind_eq_some_iff.mp H
  obtain ⟨⟨t690, t691, t692, t693, t694⟩, A170, H⟩ := H
  replace H : ((laws_toEntry.f a1_0 a1_1).bind fun bt698 => ((laws_toEntry.f a2_0 a2_1).bind fun bt700 => ((impl_CanFollow.f t690 t691 t692 t693 t694 bt698.1 bt698.2 bt700.1 bt700.2).bind fun t702 => (if (t702 != t689) = true then (some false) else ((laws_toTimed.f k a0_0 a0_1 a0_2 a0_3 l0_4).bind fun bt703 => ((laws_eqTimed.f k t690 t691 t692 t693 t694 bt703.1 bt703.2.1 bt703.2.2.1 bt703.2.2.2.1 bt703.2.2.2.2).bind fun t710 => (if t710 = true then (some true) else (some false)))))))) = some true := H
  have A17 := Aside0.mk A170
  clear A170
  replace H := Option.bind_eq_some_iff.mp H
  obtain ⟨⟨t698, t699⟩, A180, H⟩ := H
  replace H : ((laws_toEntry.f a2_0 a2_1).bind fun bt700 => ((impl_CanFollow.f t690 t691 t692 t693 t694 t698 t699 bt700.1 bt700.2).bind fun t702 => (if (t702 != t689) = true then (some false) else ((laws_toTimed.f k a0_0 a0_1 a0_2 a0_3 l0_4).bind fun bt703 => ((laws_eqTimed.f k t690 t691 t692 t693 t694 bt703.1 bt703.2.1 bt703.2.2.1 bt703.2.2.2.1 bt703.2.2.2.2).bind fun t710 => (if t710 = true then (some true) else (some false))))))) = some true := H
  have A18 := Aside0.mk A180
  clear A180
  replace H := Option.bind_eq_some_iff.mp H
  obtain ⟨⟨t700, t701⟩, A190, H⟩ := H
  replace H : ((impl_CanFollow.f t690 t691 t692 t693 t694 t698 t699 t700 t701).bind fun t702 => (if (t702 != t689) = true then (some false) else ((laws_toTimed.f k a0_0 a0_1 a0_2 a0_3 l0_4).bind fun bt703 => ((laws_eqTimed.f k t690 t691 t692 t693 t694 bt703.1 bt703.2.1 bt703.2.2.1 bt703.2.2.2.1 bt703.2.2.2.2).bind fun t710 => (if t710 = true then (some true) else (some false)))))) = some true := H
  have A19 := Aside0.mk A190
  clear A190
  replace H := Option.bind_eq_some_iff.mp H
  obtain ⟨t702, A200, H⟩ := H
  replace H : (if (t702 != t689) = true then (some false) else ((laws_toTimed.f k a0_0 a0_1 a0_2 a0_3 l0_4).bind fun bt703 => ((laws_eqTimed.f k t690 t691 t692 t693 t694 bt703.1 bt703.2.1 bt703.2.2.1 bt703.2.2.2.1 bt703.2.2.2.2).bind fun t710 => (if t710 = true then (some true) else (some false))))) = some true := H
  have A20 := Aside0.mk A200
  clear A200
  by_cases c21 : (t702 != t689) = true
  ·rw [if_pos c21] at H
   have c21b0 : (t702 != t689) = true := c21
   (try (have c21b1 : decide (t702 = t689) = false := by simpa using c21))
   (try (have c21b2 : (t702 == t689) = false := by simpa using c21))
   (try (have c21b3 : ¬ (t702 = t689) := by simpa using c21))
   clear c21
   exact absurd (Option.some.inj H) Bool.false_ne_true
  ·rw [if_neg c21] at H
   have c21b0 : (t702 != t689) = false := by simpa using c21
   (try (have c21b1 : decide (t702 = t689) = true := by simpa using c21))
   (try (have c21b2 : (t702 == t689) = true := by simpa using c21))
   clear c21
   replace H := Option.bind_eq_some_iff.mp H
   obtain ⟨⟨t703, t704, t705, t706, t707⟩, A220, H⟩ := H
   replace H : ((laws_eqTimed.f k t690 t691 t692 t693 t694 t703 t704 t705 t706 t707).bind fun t710 => (if t710 = true then (some true) else (some false))) = some true := H
   have A22 := Aside0.mk A220
   clear A220
   replace H := Option.bind_eq_some_iff.mp H
   obtain ⟨t710, A230, H⟩ := H
   replace H : (if t710 = true then (some true) else (some false)) = some true := H
   have A23 := Aside0.mk A230
   clear A230
   by_cases c24 : t710 = true
   ·subst c24
    have H1 : (some true) = some true := by first | (rw [if_pos rfl] at H; exact H) | rfl
    clear H
    have H := H1
    clear H1
    go_enter Try.func8, Try.ntmps8
    try go_wp2_with (first | ((with_reducible refine gate_dst (N := 3) rfl ?_); refine box_event ?hg (N := 3) ?hd (cs := #[.int .i64 a0_0, .int .i64 a0_1, .int .i64 a0_2, .int .i64 a0_3, .slice A0_4 l0_4.length c0_4]) (t := 51) ?hr ?_; (case hd => rfl); (case hg => rfl); (case hr => first | (go_simp; done) | (go_simp; rfl)); intro gb674 hg w25 hbox hb; have n0_ := Aside0.mk (below_step (by repeat (first | (with_reducible first | exact HB.out | apply below_alloc | apply pw_below_drewN | apply below_drew1) | exact HB.out)) hb); have n1_ := Aside0.mk (hbox); have n2_ := Aside0.mk ((by rw [hg]; exact (below_size (by repeat (first | (with_reducible first | exact HB.out | apply below_alloc | apply pw_below_drewN | apply below_drew1) | exact HB.out))) : w.heap.size ≤ gb674)); have n3_ := Aside0.mk ((by rw [hg]; exact (below_size (by repeat (first | (with_reducible first | exact HB.out | apply below_alloc | apply pw_below_drewN | apply below_drew1) | exact HB.out))) : w.heap.size ≤ gb674)); clear HB; have HB := n0_; have BK674 := n1_; have GW674 := n2_; have GE674 := n3_; clear n0_ n1_ n2_ n3_; clear hb hbox hg) | ((with_reducible refine gate_dst (N := 4) rfl ?_); refine box_event ?hg (N := 4) ?hd (cs := #[.int .i64 a1_0, .int .i64 a1_1]) (t := 53) ?hr ?_; (case hd => rfl); (case hg => rfl); (case hr => first | (go_simp; done) | (go_simp; rfl)); intro gb675 hg w26 hbox hb; have n0_ := Aside0.mk (blk_below (g := gb674) (o := .cells #[.int .i64 a0_0, .int .i64 a0_1, .int .i64 a0_2, .int .i64 a0_3, .slice A0_4 l0_4.length c0_4] 51 (0, 0)) (by (with_reducible repeat (first | refine blk_drewN ?_ _ | refine blk_drew ?_ | refine blk_alloc ?_ _)); exact BK674.out) hb); have n1_ := Aside0.mk (below_step (by repeat (first | (with_reducible first | exact HB.out | apply below_alloc | apply pw_below_drewN | apply below_drew1 | refine below_set ?_ GE674.out) | exact HB.out)) hb); have n2_ := Aside0.mk (hbox); have n3_ := Aside0.mk ((by rw [hg]; exact (below_size (by repeat (first | (with_reducible first | exact HB.out | apply below_alloc | apply pw_below_drewN | apply below_drew1 | refine below_set ?_ GE674.out) | exact HB.out))) : w.heap.size ≤ gb675)); have n4_ := Aside0.mk ((by rw [hg]; exact (below_size (by repeat (first | (with_reducible first | exact HB.out | apply below_alloc | apply pw_below_drewN | apply below_drew1 | refine below_set ?_ GE674.out) | exact HB.out))) : w.heap.size ≤ gb675)); have n5_ := Aside0.mk ((by rw [hg]; exact Nat.ne_of_lt (blk_lt (g := gb674) (o := .cells #[.int .i64 a0_0, .int .i64 a0_1, .int .i64 a0_2, .int .i64 a0_3, .slice A0_4 l0_4.length c0_4] 51 (0, 0)) (by (with_reducible repeat (first | refine blk_drewN ?_ _ | refine blk_drew ?_ | refine blk_alloc ?_ _)); exact BK674.out)) : gb674 ≠ gb675)); have n6_ := Aside0.mk ((by rw [hg]; exact Nat.ne_of_gt (blk_lt (g := gb674) (o := .cells #[.int .i64 a0_0, .int .i64 a0_1, .int .i64 a0_2, .int .i64 a0_3, .slice A0_4 l0_4.length c0_4] 51 (0, 0)) (by (with_reducible repeat (first | refine blk_drewN ?_ _ | refine blk_drew ?_ | refine blk_alloc ?_ _)); exact BK674.out)) : gb675 ≠ gb674)); clear BK674; clear HB; have BK674 := n0_; have HB := n1_; have BK675 := n2_; have GW675 := n3_; have GE675 := n4_; have NB674_675 := n5_; have NB675_674 := n6_; clear n0_ n1_ n2_ n3_ n4_ n5_ n6_; clear hb hbox hg) | ((with_reducible refine gate_dst (N := 5) rfl ?_); refine box_event ?hg (N := 5) ?hd (cs := #[.int .i64 a2_0, .int .i64 a2_1]) (t := 53) ?hr ?_; (case hd => rfl); (case hg => rfl); (case hr => first | (go_simp; done) | (go_simp; rfl)); intro gb676 hg w27 hbox hb; have n0_ := Aside0.mk (blk_below (g := gb674) (o := .cells #[.int .i64 a0_0, .int .i64 a0_1, .int .i64 a0_2, .int .i64 a0_3, .slice A0_4 l0_4.length c0_4] 51 (0, 0)) (by (with_reducible repeat (first | refine blk_drewN ?_ _ | refine blk_drew ?_ | refine blk_alloc ?_ _)); exact BK674.out) hb); have n1_ := Aside0.mk (blk_below (g := gb675) (o := .cells #[.int .i64 a1_0, .int .i64 a1_1] 53 (0, 0)) (by (with_reducible repeat (first | refine blk_drewN ?_ _ | refine blk_drew ?_ | refine blk_alloc ?_ _)); exact BK675.out) hb); have n2_ := Aside0.mk (below_step (by repeat (first | (with_reducible first | exact HB.out | apply below_alloc | apply pw_below_drewN | apply below_drew1 | refine below_set ?_ GE674.out | refine below_set ?_ GE675.out) | exact HB.out)) hb); have n3_ := Aside0.mk (hbox); have n4_ := Aside0.mk ((by rw [hg]; exact (below_size (by repeat (first | (with_reducible first | exact HB.out | apply below_alloc | apply pw_below_drewN | apply below_drew1 | refine below_set ?_ GE674.out | refine below_set ?_ GE675.out) | exact HB.out))) : w.heap.size ≤ gb676)); have n5_ := Aside0.mk ((by rw [hg]; exact (below_size (by repeat (first | (with_reducible first | exact HB.out | apply below_alloc | apply pw_below_drewN | apply below_drew1 | refine below_set ?_ GE674.out | refine below_set ?_ GE675.out) | exact HB.out))) : w.heap.size ≤ gb676)); have n6_ := Aside0.mk ((by rw [hg]; exact Nat.ne_of_lt (blk_lt (g := gb674) (o := .cells #[.int .i64 a0_0, .int .i64 a0_1, .int .i64 a0_2, .int .i64 a0_3, .slice A0_4 l0_4.length c0_4] 51 (0, 0)) (by (with_reducible repeat (first | refine blk_drewN ?_ _ | refine blk_drew ?_ | refine blk_alloc ?_ _)); exact BK674.out)) : gb674 ≠ gb676)); have n7_ := Aside0.mk ((by rw [hg]; exact Nat.ne_of_gt (blk_lt (g := gb674) (o := .cells #[.int .i64 a0_0, .int .i64 a0_1, .int .i64 a0_2, .int .i64 a0_3, .slice A0_4 l0_4.length c0_4] 51 (0, 0)) (by (with_reducible repeat (first | refine blk_drewN ?_ _ | refine blk_drew ?_ | refine blk_alloc ?_ _)); exact BK674.out)) : gb676 ≠ gb674)); have n8_ := Aside0.mk ((by rw [hg]; exact Nat.ne_of_lt (blk_lt (g := gb675) (o := .cells #[.int .i64 a1_0, .int .i64 a1_1] 53 (0, 0)) (by (with_reducible repeat (first | refine blk_drewN ?_ _ | refine blk_drew ?_ | refine blk_alloc ?_ _)); exact BK675.out)) : gb675 ≠ gb676)); have n9_ := Aside0.mk ((by rw [hg]; exact Nat.ne_of_gt (blk_lt (g := gb675) (o := .cells #[.int .i64 a1_0, .int .i64 a1_1] 53 (0, 0)) (by (with_reducible repeat (first | refine blk_drewN ?_ _ | refine blk_drew ?_ | refine blk_alloc ?_ _)); exact BK675.out)) : gb676 ≠ gb675)); clear BK674; clear BK675; clear HB; have BK674 := n0_; have BK675 := n1_; have HB := n2_; have BK676 := n3_; have GW676 := n4_; have GE676 := n5_; have NB674_676 := n6_; have NB676_674 := n7_; have NB675_676 := n8_; have NB676_675 := n9_; clear n0_ n1_ n2_ n3_ n4_ n5_ n6_ n7_ n8_ n9_; clear hb hbox hg; have hnb28 := NB674_675.out; have hnc28 := NB675_674.out; have hnb29 := NB674_676.out; have hnc29 := NB676_674.out; have hcz30_0 : w27.cell? ⟨gb674, 0, none⟩ = some (.int .i64 a0_0) := (blk_cell BK674.out 0).trans rfl; have hcz30_1 : w27.cell? ⟨gb674, 1, none⟩ = some (.int .i64 a0_1) := (blk_cell BK674.out 1).trans rfl; have hcz30_2 : w27.cell? ⟨gb674, 2, none⟩ = some (.int .i64 a0_2) := (blk_cell BK674.out 2).trans rfl; have hcz30_3 : w27.cell? ⟨gb674, 3, none⟩ = some (.int .i64 a0_3) := (blk_cell BK674.out 3).trans rfl; have hcz30_4 : w27.cell? ⟨gb674, 4, none⟩ = some (.slice A0_4 l0_4.length c0_4) := (blk_cell BK674.out 4).trans rfl; have hfz30_0 := blk_frozen BK674.out 0; have hfz30_1 := blk_frozen BK674.out 1; have hfz30_2 := blk_frozen BK674.out 2; have hfz30_3 := blk_frozen BK674.out 3; have hfz30_4 := blk_frozen BK674.out 4) | ((with_reducible refine gate_callee (f := 34) rfl ?_); refine goesL_ (some 13) rfl rfl Try.func34 (by kernel_rfl) rfl #[.agg #[.int .i64 a0_0, .int .i64 a0_1, .int .i64 a0_2, .int .i64 a0_3, .slice A0_4 l0_4.length c0_4], .int .i64 1048576] rfl (by (try simp only [List.map_toArray, List.map_cons, List.map_nil]); first | done | rfl | (simp only [List.length_drop, List.length_take]; rfl)) ?_; (with_reducible refine (laws_szTimed.calls a0_0 a0_1 a0_2 a0_3 _ _ l0_4 1048576 t677 _ ?side1 ?side2 A4.out).mono ?_); (case side1 => repeat (first | exact (Kd.C_below HR0_4.out HB.out) | (with_reducible refine Kd.C_alloc ?_ _) | (with_reducible refine Kd.C_drewN ?_ _) | (with_reducible refine Kd.C_drew ?_))); (case side2 => exact HC0_4.out); rintro e w31 ⟨rfl, hb⟩; refine ⟨_, rfl, ?_⟩; have n0_ := Aside0.mk (blk_below (g := gb674) (o := .cells #[.int .i64 a0_0, .int .i64 a0_1, .int .i64 a0_2, .int .i64 a0_3, .slice A0_4 l0_4.length c0_4] 51 (0, 0)) (by (with_reducible repeat (first | refine blk_drewN ?_ _ | refine blk_drew ?_ | refine blk_alloc ?_ _)); exact BK674.out) hb); have n1_ := Aside0.mk (blk_below (g := gb675) (o := .cells #[.int .i64 a1_0, .int .i64 a1_1] 53 (0, 0)) (by (with_reducible repeat (first | refine blk_drewN ?_ _ | refine blk_drew ?_ | refine blk_alloc ?_ _)); exact BK675.out) hb); have n2_ := Aside0.mk (blk_below (g := gb676) (o := .cells #[.int .i64 a2_0, .int .i64 a2_1] 53 (0, 0)) (by (with_reducible repeat (first | refine blk_drewN ?_ _ | refine blk_drew ?_ | refine blk_alloc ?_ _)); exact BK676.out) hb); have n3_ := Aside0.mk (below_step (by repeat (first | (with_reducible first | exact HB.out | apply below_alloc | apply pw_below_drewN | apply below_drew1 | refine below_set ?_ GE674.out | refine below_set ?_ GE675.out | refine below_set ?_ GE676.out) | exact HB.out)) hb); clear BK674; clear BK675; clear BK676; clear HB; have BK674 := n0_; have BK675 := n1_; have BK676 := n2_; have HB := n3_; clear n0_ n1_ n2_ n3_; (try clear hb); (try clear hb2); (try clear hk); (try clear hi)))
    have n0_ := Aside0.mk (blk_drew BK674.out)
    have n1_ := Aside0.mk (blk_drew BK675.out)
    have n2_ := Aside0.mk (blk_drew BK676.out)
    have n3_ := Aside0.mk (below_drew1 HB.out)
    clear BK674
    clear BK675
    clear BK676
    clear HB
    have BK674 := n0_
    have BK675 := n1_
    have BK676 := n2_
    have HB := n3_
    clear n0_ n1_ n2_ n3_
    refine start_ (n := 8) (S := fun w' => w'.cell? ⟨gb674, 0, none⟩ = some (.int .i64 a0_0) ∧ w'.cell? ⟨gb674, 1, none⟩ = some (.int .i64 a0_1) ∧ w'.cell? ⟨gb674, 2, none⟩ = some (.int .i64 a0_2) ∧ w'.cell? ⟨gb674, 3, none⟩ = some (.int .i64 a0_3) ∧ w'.cell? ⟨gb674, 4, none⟩ = some (.slice A0_4 l0_4.length c0_4) ∧ w'.cell? ⟨gb675, 0, none⟩ = some (.int .i64 a1_0) ∧ w'.cell? ⟨gb675, 1, none⟩ = some (.int .i64 a1_1) ∧ w'.cell? ⟨gb676, 0, none⟩ = some (.int .i64 a2_0) ∧ w'.cell? ⟨gb676, 1, none⟩ = some (.int .i64 a2_1)) (ds := []) #[bN,bN,bN,bN,bN,bN,bN,bN] (by kernel_rfl) rfl rfl ⟨(blk_cell BK674.out 0).trans rfl, (blk_cell BK674.out 1).trans rfl, (blk_cell BK674.out 2).trans rfl, (blk_cell BK674.out 3).trans rfl, (blk_cell BK674.out 4).trans rfl, (blk_cell BK675.out 0).trans rfl, (blk_cell BK675.out 1).trans rfl, (blk_cell BK676.out 0).trans rfl, (blk_cell BK676.out 1).trans rfl⟩ (fun hHeld => ?_); refine with_tabW laws_FnExactCanFollow.tab5 laws_FnExactCanFollow.bits5 (fun HT_ HW_ => ?_)
    generalize w31.drew = w32 at BK674 BK675 BK676 HB hHeld ⊢
    refine take_ (i := 0) (N := some 16) (v := ?_) (a' := ?_) #[bY,bN,bN,bN,bN,bN,bN,bN] rfl rfl (take_ofW HT_.out HW_.out (by kernel_rfl)) (fun _ _ _ h => h) (Or.inl ⟨by rfl, ?_⟩) hHeld ?_ ?_
    rotate_left
    ·rintro w' ⟨s0, s1, s2, s3, s4, s5, s6, s7, s8⟩
     go_simp
     with_reducible rfl
    rotate_left
    ·simp only [Act.put, List.setIfInBounds_toArray, List.set_cons_zero, List.set_cons_succ, i64_w, i32_w]
     rfl
    refine take_ (i := 2) (N := some 18) (v := ?_) (a' := ?_) #[bY,bN,bY,bN,bN,bN,bN,bN] rfl rfl (take_ofW HT_.out HW_.out (by kernel_rfl)) (fun _ _ _ h => h) (Or.inl ⟨by rfl, ?_⟩) hHeld ?_ ?_
    rotate_left
    ·rintro w' ⟨s0, s1, s2, s3, s4, s5, s6, s7, s8⟩
     go_simp
     with_reducible rfl
    rotate_left
    ·simp only [Act.put, List.setIfInBounds_toArray, List.set_cons_zero, List.set_cons_succ, i64_w, i32_w]
     rfl
    refine take_ (i := 4) (N := some 20) (v := ?_) (a' := ?_) #[bY,bN,bY,bN,bY,bN,bN,bN] rfl rfl (take_ofW HT_.out HW_.out (by kernel_rfl)) (fun _ _ _ h => h) (Or.inl ⟨by rfl, ?_⟩) hHeld ?_ ?_
    rotate_left
    ·rintro w' ⟨s0, s1, s2, s3, s4, s5, s6, s7, s8⟩
     go_simp
     with_reducible rfl
    rotate_left
    ·simp only [Act.put, List.setIfInBounds_toArray, List.set_cons_zero, List.set_cons_succ, i64_w, i32_w]
     rfl
    refine one_ (i := 1) (N := some 17) #[bY,bY,bY,bN,bY,bN,bN,bN] rfl rfl (one_of HT_.out (by kernel_rfl)) (by decide) (fun K hK => ?_)
    refine goes_ Try.func36 (by kernel_rfl) rfl #[.agg #[.int .i64 a0_0, .int .i64 a0_1, .int .i64 a0_2, .int .i64 a0_3, .slice A0_4 l0_4.length c0_4]] (by rfl) rfl rfl (by (try simp only [List.map_toArray, List.map_cons, List.map_nil]); first | done | rfl | (simp only [List.length_drop, List.length_take]; rfl)) ?_
    with_reducible refine (laws_toTimed.calls k a0_0 a0_1 a0_2 a0_3 _ _ l0_4 t678 t679 t680 t681 t682 _ ?side1 ?side2 A13.out).mono ?_
    (case side1 => repeat (first | exact (Kd.C_below HR0_4.out HB.out) | (with_reducible refine Kd.C_alloc ?_ _) | (with_reducible refine Kd.C_drewN ?_ _) | (with_reducible refine Kd.C_drew ?_)))
    (case side2 => exact HC0_4.out)
    rintro e w33 ⟨v683, rfl, ho0, hb⟩
    refine ⟨_, rfl, ?_⟩
    have n0_ := Aside0.mk (Kd.R_lower ho0 (below_size (by repeat (first | (with_reducible first | exact HB.out | apply below_alloc | apply pw_below_drewN | apply below_drew1 | refine below_set ?_ GE674.out | refine below_set ?_ GE675.out | refine below_set ?_ GE676.out) | exact HB.out))))
    have n1_ := Aside0.mk (blk_below (g := gb674) (o := .cells #[.int .i64 a0_0, .int .i64 a0_1, .int .i64 a0_2, .int .i64 a0_3, .slice A0_4 l0_4.length c0_4] 51 (0, 0)) (by (with_reducible repeat (first | refine blk_drewN ?_ _ | refine blk_drew ?_ | refine blk_alloc ?_ _)); exact BK674.out) hb)
    have n2_ := Aside0.mk (blk_below (g := gb675) (o := .cells #[.int .i64 a1_0, .int .i64 a1_1] 53 (0, 0)) (by (with_reducible repeat (first | refine blk_drewN ?_ _ | refine blk_drew ?_ | refine blk_alloc ?_ _)); exact BK675.out) hb)
    have n3_ := Aside0.mk (blk_below (g := gb676) (o := .cells #[.int .i64 a2_0, .int .i64 a2_1] 53 (0, 0)) (by (with_reducible repeat (first | refine blk_drewN ?_ _ | refine blk_drew ?_ | refine blk_alloc ?_ _)); exact BK676.out) hb)
    have n4_ := Aside0.mk (below_step (by repeat (first | (with_reducible first | exact HB.out | apply below_alloc | apply pw_below_drewN | apply below_drew1 | refine below_set ?_ GE674.out | refine below_set ?_ GE675.out | refine below_set ?_ GE676.out) | exact HB.out)) hb)
    clear BK674
    clear BK675
    clear BK676
    clear HB
    have HO684 := n0_
    have BK674 := n1_
    have BK675 := n2_
    have BK676 := n3_
    have HB := n4_
    clear n0_ n1_ n2_ n3_ n4_
    (try clear hb)
    (try clear hb2)
    (try clear hk)
    (try clear hi)
    (try clear ho0)
    refine hK.out _ _ ⟨(blk_cell BK674.out 0).trans rfl, (blk_cell BK674.out 1).trans rfl, (blk_cell BK674.out 2).trans rfl, (blk_cell BK674.out 3).trans rfl, (blk_cell BK674.out 4).trans rfl, (blk_cell BK675.out 0).trans rfl, (blk_cell BK675.out 1).trans rfl, (blk_cell BK676.out 0).trans rfl, (blk_cell BK676.out 1).trans rfl⟩ (fun hHeld => ?_)
    clear hK K
    refine norm_ (a' := ?_) ?_ ?_
    rotate_left
    ·show Act.put _ (some 17) _ = _
     simp only [Act.put, List.setIfInBounds_toArray, List.set_cons_zero, List.set_cons_succ, i64_w, i32_w]
     rfl
    refine one_ (i := 3) (N := some 19) #[bY,bY,bY,bY,bY,bN,bN,bN] rfl rfl (one_of HT_.out (by kernel_rfl)) (by decide) (fun K hK => ?_)
    refine goes_ Try.func37 (by kernel_rfl) rfl #[.agg #[.int .i64 a1_0, .int .i64 a1_1]] (by rfl) rfl rfl (by (try simp only [List.map_toArray, List.map_cons, List.map_nil]); first | done | rfl | (simp only [List.length_drop, List.length_take]; rfl)) ?_
    with_reducible refine (laws_toEntry.calls a1_0 a1_1 t685 t686 _ A14.out).mono ?_
    rintro e w34 ⟨rfl, hb⟩
    refine ⟨_, rfl, ?_⟩
    have n0_ := Aside0.mk (Kd.R_below (by (with_reducible repeat (first | apply Kd.R_alloc | apply Kd.R_drewN | apply Kd.R_drew)); exact HO684.out) hb)
    have n1_ := Aside0.mk (blk_below (g := gb674) (o := .cells #[.int .i64 a0_0, .int .i64 a0_1, .int .i64 a0_2, .int .i64 a0_3, .slice A0_4 l0_4.length c0_4] 51 (0, 0)) (by (with_reducible repeat (first | refine blk_drewN ?_ _ | refine blk_drew ?_ | refine blk_alloc ?_ _)); exact BK674.out) hb)
    have n2_ := Aside0.mk (blk_below (g := gb675) (o := .cells #[.int .i64 a1_0, .int .i64 a1_1] 53 (0, 0)) (by (with_reducible repeat (first | refine blk_drewN ?_ _ | refine blk_drew ?_ | refine blk_alloc ?_ _)); exact BK675.out) hb)
    have n3_ := Aside0.mk (blk_below (g := gb676) (o := .cells #[.int .i64 a2_0, .int .i64 a2_1] 53 (0, 0)) (by (with_reducible repeat (first | refine blk_drewN ?_ _ | refine blk_drew ?_ | refine blk_alloc ?_ _)); exact BK676.out) hb)
    have n4_ := Aside0.mk (below_step (by repeat (first | (with_reducible first | exact HB.out | apply below_alloc | apply pw_below_drewN | apply below_drew1 | refine below_set ?_ GE674.out | refine below_set ?_ GE675.out | refine below_set ?_ GE676.out) | exact HB.out)) hb)
    clear HO684
    clear BK674
    clear BK675
    clear BK676
    clear HB
    have HO684 := n0_
    have BK674 := n1_
    have BK675 := n2_
    have BK676 := n3_
    have HB := n4_
    clear n0_ n1_ n2_ n3_ n4_
    (try clear hb)
    (try clear hb2)
    (try clear hk)
    (try clear hi)
    refine hK.out _ _ ⟨(blk_cell BK674.out 0).trans rfl, (blk_cell BK674.out 1).trans rfl, (blk_cell BK674.out 2).trans rfl, (blk_cell BK674.out 3).trans rfl, (blk_cell BK674.out 4).trans rfl, (blk_cell BK675.out 0).trans rfl, (blk_cell BK675.out 1).trans rfl, (blk_cell BK676.out 0).trans rfl, (blk_cell BK676.out 1).trans rfl⟩ (fun hHeld => ?_)
    clear hK K
    refine norm_ (a' := ?_) ?_ ?_
    rotate_left
    ·show Act.put _ (some 19) _ = _
     simp only [Act.put, List.setIfInBounds_toArray, List.set_cons_zero, List.set_cons_succ, i64_w, i32_w]
     rfl
    refine one_ (i := 5) (N := some 21) #[bY,bY,bY,bY,bY,bY,bN,bN] rfl rfl (one_of HT_.out (by kernel_rfl)) (by decide) (fun K hK => ?_)
    refine goes_ Try.func37 (by kernel_rfl) rfl #[.agg #[.int .i64 a2_0, .int .i64 a2_1]] (by rfl) rfl rfl (by (try simp only [List.map_toArray, List.map_cons, List.map_nil]); first | done | rfl | (simp only [List.length_drop, List.length_take]; rfl)) ?_
    with_reducible refine (laws_toEntry.calls a2_0 a2_1 t687 t688 _ A15.out).mono ?_
    rintro e w35 ⟨rfl, hb⟩
    refine ⟨_, rfl, ?_⟩
    have n0_ := Aside0.mk (Kd.R_below (by (with_reducible repeat (first | apply Kd.R_alloc | apply Kd.R_drewN | apply Kd.R_drew)); exact HO684.out) hb)
    have n1_ := Aside0.mk (blk_below (g := gb674) (o := .cells #[.int .i64 a0_0, .int .i64 a0_1, .int .i64 a0_2, .int .i64 a0_3, .slice A0_4 l0_4.length c0_4] 51 (0, 0)) (by (with_reducible repeat (first | refine blk_drewN ?_ _ | refine blk_drew ?_ | refine blk_alloc ?_ _)); exact BK674.out) hb)
    have n2_ := Aside0.mk (blk_below (g := gb675) (o := .cells #[.int .i64 a1_0, .int .i64 a1_1] 53 (0, 0)) (by (with_reducible repeat (first | refine blk_drewN ?_ _ | refine blk_drew ?_ | refine blk_alloc ?_ _)); exact BK675.out) hb)
    have n3_ := Aside0.mk (blk_below (g := gb676) (o := .cells #[.int .i64 a2_0, .int .i64 a2_1] 53 (0, 0)) (by (with_reducible repeat (first | refine blk_drewN ?_ _ | refine blk_drew ?_ | refine blk_alloc ?_ _)); exact BK676.out) hb)
    have n4_ := Aside0.mk (below_step (by repeat (first | (with_reducible first | exact HB.out | apply below_alloc | apply pw_below_drewN | apply below_drew1 | refine below_set ?_ GE674.out | refine below_set ?_ GE675.out | refine below_set ?_ GE676.out) | exact HB.out)) hb)
    clear HO684
    clear BK674
    clear BK675
    clear BK676
    clear HB
    have HO684 := n0_
    have BK674 := n1_
    have BK675 := n2_
    have BK676 := n3_
    have HB := n4_
    clear n0_ n1_ n2_ n3_ n4_
    (try clear hb)
    (try clear hb2)
    (try clear hk)
    (try clear hi)
    obtain ⟨Ao36, co36, eo36⟩ := Kd.R_slice HO684.out
    (first | subst eo36 | (injection eo36 with f1_ f2_ f3_; have f4_ := f1_.symm; have f5_ := f3_.symm; clear f1_ f2_ f3_; subst f4_; subst f5_))
    refine hK.out _ _ ⟨(blk_cell BK674.out 0).trans rfl, (blk_cell BK674.out 1).trans rfl, (blk_cell BK674.out 2).trans rfl, (blk_cell BK674.out 3).trans rfl, (blk_cell BK674.out 4).trans rfl, (blk_cell BK675.out 0).trans rfl, (blk_cell BK675.out 1).trans rfl, (blk_cell BK676.out 0).trans rfl, (blk_cell BK676.out 1).trans rfl⟩ (fun hHeld => ?_)
    clear hK K
    refine norm_ (a' := ?_) ?_ ?_
    rotate_left
    ·show Act.put _ (some 21) _ = _
     simp only [Act.put, List.setIfInBounds_toArray, List.set_cons_zero, List.set_cons_succ, i64_w, i32_w]
     rfl
    refine one_ (i := 6) (N := some 22) #[bY,bY,bY,bY,bY,bY,bY,bN] rfl rfl (one_of HT_.out (by kernel_rfl)) (by decide) (fun K hK => ?_)
    refine goes_ Try.func35 (by kernel_rfl) rfl #[.agg #[.int .i64 t678, .int .i64 t679, .int .i64 t680, .int .i64 t681, .slice Ao36 t682.length co36], .agg #[.int .i64 t685, .int .i64 t686], .agg #[.int .i64 t687, .int .i64 t688]] (by rfl) rfl rfl (by (try simp only [List.map_toArray, List.map_cons, List.map_nil]); first | done | rfl | (simp only [List.length_drop, List.length_take]; rfl)) ?_
    with_reducible refine (spec_CanFollow.calls k t678 t679 t680 t681 _ _ t682 t685 t686 t687 t688 t689 _ ?side1 ?side2 A16.out).mono ?_
    (case side1 => repeat (first | exact (Kd.R_reads' HO684.out).2.2 | (with_reducible refine Kd.C_alloc ?_ _) | (with_reducible refine Kd.C_drewN ?_ _) | (with_reducible refine Kd.C_drew ?_)))
    (case side2 => exact (Kd.R_reads' HO684.out).2.1)
    rintro e w37 ⟨rfl, hb⟩
    refine ⟨_, rfl, ?_⟩
    have n0_ := Aside0.mk (Kd.R_below (by (with_reducible repeat (first | apply Kd.R_alloc | apply Kd.R_drewN | apply Kd.R_drew)); exact HO684.out) hb)
    have n1_ := Aside0.mk (blk_below (g := gb674) (o := .cells #[.int .i64 a0_0, .int .i64 a0_1, .int .i64 a0_2, .int .i64 a0_3, .slice A0_4 l0_4.length c0_4] 51 (0, 0)) (by (with_reducible repeat (first | refine blk_drewN ?_ _ | refine blk_drew ?_ | refine blk_alloc ?_ _)); exact BK674.out) hb)
    have n2_ := Aside0.mk (blk_below (g := gb675) (o := .cells #[.int .i64 a1_0, .int .i64 a1_1] 53 (0, 0)) (by (with_reducible repeat (first | refine blk_drewN ?_ _ | refine blk_drew ?_ | refine blk_alloc ?_ _)); exact BK675.out) hb)
    have n3_ := Aside0.mk (blk_below (g := gb676) (o := .cells #[.int .i64 a2_0, .int .i64 a2_1] 53 (0, 0)) (by (with_reducible repeat (first | refine blk_drewN ?_ _ | refine blk_drew ?_ | refine blk_alloc ?_ _)); exact BK676.out) hb)
    have n4_ := Aside0.mk (below_step (by repeat (first | (with_reducible first | exact HB.out | apply below_alloc | apply pw_below_drewN | apply below_drew1 | refine below_set ?_ GE674.out | refine below_set ?_ GE675.out | refine below_set ?_ GE676.out) | exact HB.out)) hb)
    clear HO684
    clear BK674
    clear BK675
    clear BK676
    clear HB
    have HO684 := n0_
    have BK674 := n1_
    have BK675 := n2_
    have BK676 := n3_
    have HB := n4_
    clear n0_ n1_ n2_ n3_ n4_
    (try clear hb)
    (try clear hb2)
    (try clear hk)
    (try clear hi)
    refine hK.out _ _ ⟨(blk_cell BK674.out 0).trans rfl, (blk_cell BK674.out 1).trans rfl, (blk_cell BK674.out 2).trans rfl, (blk_cell BK674.out 3).trans rfl, (blk_cell BK674.out 4).trans rfl, (blk_cell BK675.out 0).trans rfl, (blk_cell BK675.out 1).trans rfl, (blk_cell BK676.out 0).trans rfl, (blk_cell BK676.out 1).trans rfl⟩ (fun hHeld => ?_)
    clear hK K
    refine norm_ (a' := ?_) ?_ ?_
    rotate_left
    ·show Act.put _ (some 22) _ = _
     simp only [Act.put, List.setIfInBounds_toArray, List.set_cons_zero, List.set_cons_succ, i64_w, i32_w]
     rfl
    refine pure_ (i := 7) (N := some 8) (v := ?_) (a' := ?_) #[bY,bY,bY,bY,bY,bY,bY,bY] rfl rfl (any_of HT_.out (by kernel_rfl)) (fun _ _ _ h => h) (Or.inl ⟨by rfl, ?_⟩) ?_ ?_
    rotate_left
    ·intro w'
     go_simp
     with_reducible rfl
    rotate_left
    ·simp only [Act.put, List.setIfInBounds_toArray, List.set_cons_zero, List.set_cons_succ, i64_w, i32_w]
     rfl
    refine done_ (done_of HT_.out (by kernel_rfl)) ?_
    have hcz38_0 : w37.cell? ⟨gb674, 0, none⟩ = some (.int .i64 a0_0) := (blk_cell BK674.out 0).trans rfl
    have hcz38_1 : w37.cell? ⟨gb674, 1, none⟩ = some (.int .i64 a0_1) := (blk_cell BK674.out 1).trans rfl
    have hcz38_2 : w37.cell? ⟨gb674, 2, none⟩ = some (.int .i64 a0_2) := (blk_cell BK674.out 2).trans rfl
    have hcz38_3 : w37.cell? ⟨gb674, 3, none⟩ = some (.int .i64 a0_3) := (blk_cell BK674.out 3).trans rfl
    have hcz38_4 : w37.cell? ⟨gb674, 4, none⟩ = some (.slice A0_4 l0_4.length c0_4) := (blk_cell BK674.out 4).trans rfl
    have hfz38_0 := blk_frozen BK674.out 0
    have hfz38_1 := blk_frozen BK674.out 1
    have hfz38_2 := blk_frozen BK674.out 2
    have hfz38_3 := blk_frozen BK674.out 3
    have hfz38_4 := blk_frozen BK674.out 4
    try go_wp2_with (first | ((with_reducible refine gate_callee (f := 36) rfl ?_); refine goesL_ (some 24) rfl rfl Try.func36 (by kernel_rfl) rfl #[.agg #[.int .i64 a0_0, .int .i64 a0_1, .int .i64 a0_2, .int .i64 a0_3, .slice A0_4 l0_4.length c0_4]] rfl (by (try simp only [List.map_toArray, List.map_cons, List.map_nil]); first | done | rfl | (simp only [List.length_drop, List.length_take]; rfl)) ?_; (with_reducible refine (laws_toTimed.calls k a0_0 a0_1 a0_2 a0_3 _ _ l0_4 t690 t691 t692 t693 t694 _ ?side1 ?side2 A17.out).mono ?_); (case side1 => repeat (first | exact (Kd.C_below HR0_4.out HB.out) | (with_reducible refine Kd.C_alloc ?_ _) | (with_reducible refine Kd.C_drewN ?_ _) | (with_reducible refine Kd.C_drew ?_))); (case side2 => exact HC0_4.out); rintro e w39 ⟨v695, rfl, ho0, hb⟩; refine ⟨_, rfl, ?_⟩; have n0_ := Aside0.mk (Kd.R_elder' (by (with_reducible repeat (first | apply Kd.R_alloc | apply Kd.R_drewN | apply Kd.R_drew)); exact HO684.out) (Kd.R_base ho0) hb); have n1_ := Aside0.mk (Kd.R_lower (Kd.R_new' ho0 (Kd.R_lt (by (with_reducible repeat (first | apply Kd.R_alloc | apply Kd.R_drewN | apply Kd.R_drew)); exact HO684.out))) (below_size (by repeat (first | (with_reducible first | exact HB.out | apply below_alloc | apply pw_below_drewN | apply below_drew1 | refine below_set ?_ GE674.out | refine below_set ?_ GE675.out | refine below_set ?_ GE676.out) | exact HB.out)))); have n2_ := Aside0.mk (blk_below (g := gb674) (o := .cells #[.int .i64 a0_0, .int .i64 a0_1, .int .i64 a0_2, .int .i64 a0_3, .slice A0_4 l0_4.length c0_4] 51 (0, 0)) (by (with_reducible repeat (first | refine blk_drewN ?_ _ | refine blk_drew ?_ | refine blk_alloc ?_ _)); exact BK674.out) hb); have n3_ := Aside0.mk (blk_below (g := gb675) (o := .cells #[.int .i64 a1_0, .int .i64 a1_1] 53 (0, 0)) (by (with_reducible repeat (first | refine blk_drewN ?_ _ | refine blk_drew ?_ | refine blk_alloc ?_ _)); exact BK675.out) hb); have n4_ := Aside0.mk (blk_below (g := gb676) (o := .cells #[.int .i64 a2_0, .int .i64 a2_1] 53 (0, 0)) (by (with_reducible repeat (first | refine blk_drewN ?_ _ | refine blk_drew ?_ | refine blk_alloc ?_ _)); exact BK676.out) hb); have n5_ := Aside0.mk (below_step (by repeat (first | (with_reducible first | exact HB.out | apply below_alloc | apply pw_below_drewN | apply below_drew1 | refine below_set ?_ GE674.out | refine below_set ?_ GE675.out | refine below_set ?_ GE676.out) | exact HB.out)) hb); clear HO684; clear BK674; clear BK675; clear BK676; clear HB; have HO684 := n0_; have HO696 := n1_; have BK674 := n2_; have BK675 := n3_; have BK676 := n4_; have HB := n5_; clear n0_ n1_ n2_ n3_ n4_ n5_; (try clear hb); (try clear hb2); (try clear hk); (try clear hi); (try clear ho0)) | ((with_reducible refine gate_dst (N := 9) rfl ?_); refine box_event ?hg (N := 9) ?hd (cs := #[.int .i64 0, .int .i64 0, .int .i64 0, .int .i64 0, .slice none 0 0]) (t := 58) ?hr ?_; (case hd => rfl); (case hg => rfl); (case hr => first | (go_simp; done) | (go_simp; rfl)); intro gb697 hg w40 hbox hb; have n0_ := Aside0.mk (Kd.R_below (by (with_reducible repeat (first | apply Kd.R_alloc | apply Kd.R_drewN | apply Kd.R_drew)); exact HO684.out) hb); have n1_ := Aside0.mk (Kd.R_below (by (with_reducible repeat (first | apply Kd.R_alloc | apply Kd.R_drewN | apply Kd.R_drew)); exact HO696.out) hb); have n2_ := Aside0.mk (blk_below (g := gb674) (o := .cells #[.int .i64 a0_0, .int .i64 a0_1, .int .i64 a0_2, .int .i64 a0_3, .slice A0_4 l0_4.length c0_4] 51 (0, 0)) (by (with_reducible repeat (first | refine blk_drewN ?_ _ | refine blk_drew ?_ | refine blk_alloc ?_ _)); exact BK674.out) hb); have n3_ := Aside0.mk (blk_below (g := gb675) (o := .cells #[.int .i64 a1_0, .int .i64 a1_1] 53 (0, 0)) (by (with_reducible repeat (first | refine blk_drewN ?_ _ | refine blk_drew ?_ | refine blk_alloc ?_ _)); exact BK675.out) hb); have n4_ := Aside0.mk (blk_below (g := gb676) (o := .cells #[.int .i64 a2_0, .int .i64 a2_1] 53 (0, 0)) (by (with_reducible repeat (first | refine blk_drewN ?_ _ | refine blk_drew ?_ | refine blk_alloc ?_ _)); exact BK676.out) hb); have n5_ := Aside0.mk (below_step (by repeat (first | (with_reducible first | exact HB.out | apply below_alloc | apply pw_below_drewN | apply below_drew1 | refine below_set ?_ GE674.out | refine below_set ?_ GE675.out | refine below_set ?_ GE676.out) | exact HB.out)) hb); have n6_ := Aside0.mk (hbox); have n7_ := Aside0.mk ((by rw [hg]; exact (below_size (by repeat (first | (with_reducible first | exact HB.out | apply below_alloc | apply pw_below_drewN | apply below_drew1 | refine below_set ?_ GE674.out | refine below_set ?_ GE675.out | refine below_set ?_ GE676.out) | exact HB.out))) : w.heap.size ≤ gb697)); have n8_ := Aside0.mk ((by rw [hg]; exact (below_size (by repeat (first | (with_reducible first | exact HB.out | apply below_alloc | apply pw_below_drewN | apply below_drew1 | refine below_set ?_ GE674.out | refine below_set ?_ GE675.out | refine below_set ?_ GE676.out) | exact HB.out))) : w.heap.size ≤ gb697)); have n9_ := Aside0.mk ((by rw [hg]; exact Nat.ne_of_lt (blk_lt (g := gb674) (o := .cells #[.int .i64 a0_0, .int .i64 a0_1, .int .i64 a0_2, .int .i64 a0_3, .slice A0_4 l0_4.length c0_4] 51 (0, 0)) (by (with_reducible repeat (first | refine blk_drewN ?_ _ | refine blk_drew ?_ | refine blk_alloc ?_ _)); exact BK674.out)) : gb674 ≠ gb697)); have n10_ := Aside0.mk ((by rw [hg]; exact Nat.ne_of_gt (blk_lt (g := gb674) (o := .cells #[.int .i64 a0_0, .int .i64 a0_1, .int .i64 a0_2, .int .i64 a0_3, .slice A0_4 l0_4.length c0_4] 51 (0, 0)) (by (with_reducible repeat (first | refine blk_drewN ?_ _ | refine blk_drew ?_ | refine blk_alloc ?_ _)); exact BK674.out)) : gb697 ≠ gb674)); have n11_ := Aside0.mk ((by rw [hg]; exact Nat.ne_of_lt (blk_lt (g := gb675) (o := .cells #[.int .i64 a1_0, .int .i64 a1_1] 53 (0, 0)) (by (with_reducible repeat (first | refine blk_drewN ?_ _ | refine blk_drew ?_ | refine blk_alloc ?_ _)); exact BK675.out)) : gb675 ≠ gb697)); have n12_ := Aside0.mk ((by rw [hg]; exact Nat.ne_of_gt (blk_lt (g := gb675) (o := .cells #[.int .i64 a1_0, .int .i64 a1_1] 53 (0, 0)) (by (with_reducible repeat (first | refine blk_drewN ?_ _ | refine blk_drew ?_ | refine blk_alloc ?_ _)); exact BK675.out)) : gb697 ≠ gb675)); have n13_ := Aside0.mk ((by rw [hg]; exact Nat.ne_of_lt (blk_lt (g := gb676) (o := .cells #[.int .i64 a2_0, .int .i64 a2_1] 53 (0, 0)) (by (with_reducible repeat (first | refine blk_drewN ?_ _ | refine blk_drew ?_ | refine blk_alloc ?_ _)); exact BK676.out)) : gb676 ≠ gb697)); have n14_ := Aside0.mk ((by rw [hg]; exact Nat.ne_of_gt (blk_lt (g := gb676) (o := .cells #[.int .i64 a2_0, .int .i64 a2_1] 53 (0, 0)) (by (with_reducible repeat (first | refine blk_drewN ?_ _ | refine blk_drew ?_ | refine blk_alloc ?_ _)); exact BK676.out)) : gb697 ≠ gb676)); clear HO684; clear HO696; clear BK674; clear BK675; clear BK676; clear HB; have HO684 := n0_; have HO696 := n1_; have BK674 := n2_; have BK675 := n3_; have BK676 := n4_; have HB := n5_; have BK697 := n6_; have GW697 := n7_; have GE697 := n8_; have NB674_697 := n9_; have NB697_674 := n10_; have NB675_697 := n11_; have NB697_675 := n12_; have NB676_697 := n13_; have NB697_676 := n14_; clear n0_ n1_ n2_ n3_ n4_ n5_ n6_ n7_ n8_ n9_ n10_ n11_ n12_ n13_ n14_; clear hb hbox hg; have hnb41 := NB697_674.out; have hnc41 := NB674_697.out; have hnb42 := NB697_675.out; have hnc42 := NB675_697.out; have hnb43 := NB697_676.out; have hnc43 := NB676_697.out; have hcz44_0 : w40.cell? ⟨gb697, 0, none⟩ = some (.int .i64 0) := (blk_cell BK697.out 0).trans rfl; have hcz44_1 : w40.cell? ⟨gb697, 1, none⟩ = some (.int .i64 0) := (blk_cell BK697.out 1).trans rfl; have hcz44_2 : w40.cell? ⟨gb697, 2, none⟩ = some (.int .i64 0) := (blk_cell BK697.out 2).trans rfl; have hcz44_3 : w40.cell? ⟨gb697, 3, none⟩ = some (.int .i64 0) := (blk_cell BK697.out 3).trans rfl; have hcz44_4 : w40.cell? ⟨gb697, 4, none⟩ = some (.slice none 0 0) := (blk_cell BK697.out 4).trans rfl; have hfz44_0 := blk_frozen BK697.out 0; have hfz44_1 := blk_frozen BK697.out 1; have hfz44_2 := blk_frozen BK697.out 2; have hfz44_3 := blk_frozen BK697.out 3; have hfz44_4 := blk_frozen BK697.out 4; obtain ⟨Ao45, co45, eo45⟩ := Kd.R_slice HO696.out; subst eo45))
    have n0_ : Aside0 (Kd.R k137 137 (((((w40.setCell ⟨gb697, 0, none⟩ (.int .i64 t690)).setCell ⟨gb697, 1, none⟩ (.int .i64 t691)).setCell ⟨gb697, 2, none⟩ (.int .i64 t692)).setCell ⟨gb697, 3, none⟩ (.int .i64 t693)).setCell ⟨gb697, 4, none⟩ (.slice Ao45 t694.length co45)) w.heap.size (fun k_ => some k_ ≠ (.slice Ao45 t694.length co45 : Value).ownBlock) (.slice Ao36 t682.length co36) t682) := ⟨by (with_reducible repeat (first | apply Kd.R_alloc | apply Kd.R_drewN | apply Kd.R_drew)); exact Kd.R_mono (Kd.R_far (p := ⟨gb697, 4, none⟩) (Kd.R_far (p := ⟨gb697, 3, none⟩) (Kd.R_far (p := ⟨gb697, 2, none⟩) (Kd.R_far (p := ⟨gb697, 1, none⟩) (Kd.R_far (p := ⟨gb697, 0, none⟩) (Kd.R_types HO684.out BK697.out (by decide)) (fun _ hk => hk.2) (.int .i64 t690)) (fun _ hk => hk.2) (.int .i64 t691)) (fun _ hk => hk.2) (.int .i64 t692)) (fun _ hk => hk.2) (.int .i64 t693)) (fun _ hk => hk.2) (.slice Ao45 t694.length co45)) (fun _ hk => hk.1.2)⟩
    have n1_ : Aside0 (Kd.R k137 137 (((((w40.setCell ⟨gb697, 0, none⟩ (.int .i64 t690)).setCell ⟨gb697, 1, none⟩ (.int .i64 t691)).setCell ⟨gb697, 2, none⟩ (.int .i64 t692)).setCell ⟨gb697, 3, none⟩ (.int .i64 t693)).setCell ⟨gb697, 4, none⟩ (.slice Ao45 t694.length co45)) w.heap.size (fun k_ => some k_ ≠ (.slice Ao36 t682.length co36 : Value).ownBlock) (.slice Ao45 t694.length co45) t694) := ⟨by (with_reducible repeat (first | apply Kd.R_alloc | apply Kd.R_drewN | apply Kd.R_drew)); exact Kd.R_mono (Kd.R_far (p := ⟨gb697, 4, none⟩) (Kd.R_far (p := ⟨gb697, 3, none⟩) (Kd.R_far (p := ⟨gb697, 2, none⟩) (Kd.R_far (p := ⟨gb697, 1, none⟩) (Kd.R_far (p := ⟨gb697, 0, none⟩) (Kd.R_types HO696.out BK697.out (by decide)) (fun _ hk => hk.2) (.int .i64 t690)) (fun _ hk => hk.2) (.int .i64 t691)) (fun _ hk => hk.2) (.int .i64 t692)) (fun _ hk => hk.2) (.int .i64 t693)) (fun _ hk => hk.2) (.slice Ao45 t694.length co45)) (fun _ hk => hk.1.2)⟩
    have n2_ : Aside0 ((((((w40.setCell ⟨gb697, 0, none⟩ (.int .i64 t690)).setCell ⟨gb697, 1, none⟩ (.int .i64 t691)).setCell ⟨gb697, 2, none⟩ (.int .i64 t692)).setCell ⟨gb697, 3, none⟩ (.int .i64 t693)).setCell ⟨gb697, 4, none⟩ (.slice Ao45 t694.length co45)).heap[gb674]? = some (.cells #[.int .i64 a0_0, .int .i64 a0_1, .int .i64 a0_2, .int .i64 a0_3, .slice A0_4 l0_4.length c0_4] 51 (0, 0))) := ⟨by (with_reducible repeat (first | refine blk_drewN ?_ _ | refine blk_drew ?_ | refine blk_alloc ?_ _)); refine blk_far ?_ NB674_697.out _; (with_reducible repeat (first | refine blk_drewN ?_ _ | refine blk_drew ?_ | refine blk_alloc ?_ _)); refine blk_far ?_ NB674_697.out _; (with_reducible repeat (first | refine blk_drewN ?_ _ | refine blk_drew ?_ | refine blk_alloc ?_ _)); refine blk_far ?_ NB674_697.out _; (with_reducible repeat (first | refine blk_drewN ?_ _ | refine blk_drew ?_ | refine blk_alloc ?_ _)); refine blk_far ?_ NB674_697.out _; (with_reducible repeat (first | refine blk_drewN ?_ _ | refine blk_drew ?_ | refine blk_alloc ?_ _)); refine blk_far ?_ NB674_697.out _; (with_reducible repeat (first | refine blk_drewN ?_ _ | refine blk_drew ?_ | refine blk_alloc ?_ _)); exact BK674.out⟩
    have n3_ : Aside0 ((((((w40.setCell ⟨gb697, 0, none⟩ (.int .i64 t690)).setCell ⟨gb697, 1, none⟩ (.int .i64 t691)).setCell ⟨gb697, 2, none⟩ (.int .i64 t692)).setCell ⟨gb697, 3, none⟩ (.int .i64 t693)).setCell ⟨gb697, 4, none⟩ (.slice Ao45 t694.length co45)).heap[gb675]? = some (.cells #[.int .i64 a1_0, .int .i64 a1_1] 53 (0, 0))) := ⟨by (with_reducible repeat (first | refine blk_drewN ?_ _ | refine blk_drew ?_ | refine blk_alloc ?_ _)); refine blk_far ?_ NB675_697.out _; (with_reducible repeat (first | refine blk_drewN ?_ _ | refine blk_drew ?_ | refine blk_alloc ?_ _)); refine blk_far ?_ NB675_697.out _; (with_reducible repeat (first | refine blk_drewN ?_ _ | refine blk_drew ?_ | refine blk_alloc ?_ _)); refine blk_far ?_ NB675_697.out _; (with_reducible repeat (first | refine blk_drewN ?_ _ | refine blk_drew ?_ | refine blk_alloc ?_ _)); refine blk_far ?_ NB675_697.out _; (with_reducible repeat (first | refine blk_drewN ?_ _ | refine blk_drew ?_ | refine blk_alloc ?_ _)); refine blk_far ?_ NB675_697.out _; (with_reducible repeat (first | refine blk_drewN ?_ _ | refine blk_drew ?_ | refine blk_alloc ?_ _)); exact BK675.out⟩
    have n4_ : Aside0 ((((((w40.setCell ⟨gb697, 0, none⟩ (.int .i64 t690)).setCell ⟨gb697, 1, none⟩ (.int .i64 t691)).setCell ⟨gb697, 2, none⟩ (.int .i64 t692)).setCell ⟨gb697, 3, none⟩ (.int .i64 t693)).setCell ⟨gb697, 4, none⟩ (.slice Ao45 t694.length co45)).heap[gb676]? = some (.cells #[.int .i64 a2_0, .int .i64 a2_1] 53 (0, 0))) := ⟨by (with_reducible repeat (first | refine blk_drewN ?_ _ | refine blk_drew ?_ | refine blk_alloc ?_ _)); refine blk_far ?_ NB676_697.out _; (with_reducible repeat (first | refine blk_drewN ?_ _ | refine blk_drew ?_ | refine blk_alloc ?_ _)); refine blk_far ?_ NB676_697.out _; (with_reducible repeat (first | refine blk_drewN ?_ _ | refine blk_drew ?_ | refine blk_alloc ?_ _)); refine blk_far ?_ NB676_697.out _; (with_reducible repeat (first | refine blk_drewN ?_ _ | refine blk_drew ?_ | refine blk_alloc ?_ _)); refine blk_far ?_ NB676_697.out _; (with_reducible repeat (first | refine blk_drewN ?_ _ | refine blk_drew ?_ | refine blk_alloc ?_ _)); refine blk_far ?_ NB676_697.out _; (with_reducible repeat (first | refine blk_drewN ?_ _ | refine blk_drew ?_ | refine blk_alloc ?_ _)); exact BK676.out⟩
    have n5_ : Aside0 ((((((w40.setCell ⟨gb697, 0, none⟩ (.int .i64 t690)).setCell ⟨gb697, 1, none⟩ (.int .i64 t691)).setCell ⟨gb697, 2, none⟩ (.int .i64 t692)).setCell ⟨gb697, 3, none⟩ (.int .i64 t693)).setCell ⟨gb697, 4, none⟩ (.slice Ao45 t694.length co45)).heap[gb697]? = some (.cells #[.int .i64 t690, .int .i64 t691, .int .i64 t692, .int .i64 t693, .slice Ao45 t694.length co45] 58 (0, 0))) := ⟨by (with_reducible repeat (first | refine blk_drewN ?_ _ | refine blk_drew ?_ | refine blk_alloc ?_ _)); refine blk_put (cs := #[.int .i64 t690, .int .i64 t691, .int .i64 t692, .int .i64 t693, .slice none 0 0]) ?_ 4 _ rfl; (with_reducible repeat (first | refine blk_drewN ?_ _ | refine blk_drew ?_ | refine blk_alloc ?_ _)); refine blk_put (cs := #[.int .i64 t690, .int .i64 t691, .int .i64 t692, .int .i64 0, .slice none 0 0]) ?_ 3 _ rfl; (with_reducible repeat (first | refine blk_drewN ?_ _ | refine blk_drew ?_ | refine blk_alloc ?_ _)); refine blk_put (cs := #[.int .i64 t690, .int .i64 t691, .int .i64 0, .int .i64 0, .slice none 0 0]) ?_ 2 _ rfl; (with_reducible repeat (first | refine blk_drewN ?_ _ | refine blk_drew ?_ | refine blk_alloc ?_ _)); refine blk_put (cs := #[.int .i64 t690, .int .i64 0, .int .i64 0, .int .i64 0, .slice none 0 0]) ?_ 1 _ rfl; (with_reducible repeat (first | refine blk_drewN ?_ _ | refine blk_drew ?_ | refine blk_alloc ?_ _)); refine blk_put (cs := #[.int .i64 0, .int .i64 0, .int .i64 0, .int .i64 0, .slice none 0 0]) ?_ 0 _ rfl; (with_reducible repeat (first | refine blk_drewN ?_ _ | refine blk_drew ?_ | refine blk_alloc ?_ _)); exact BK697.out⟩
    have n6_ : Aside0 (Below w.heap.size w (((((w40.setCell ⟨gb697, 0, none⟩ (.int .i64 t690)).setCell ⟨gb697, 1, none⟩ (.int .i64 t691)).setCell ⟨gb697, 2, none⟩ (.int .i64 t692)).setCell ⟨gb697, 3, none⟩ (.int .i64 t693)).setCell ⟨gb697, 4, none⟩ (.slice Ao45 t694.length co45))) := ⟨by repeat (first | (with_reducible first | exact HB.out | apply below_alloc | apply pw_below_drewN | apply below_drew1 | refine below_set ?_ GE674.out | refine below_set ?_ GE675.out | refine below_set ?_ GE676.out | refine below_set ?_ GE697.out) | exact HB.out)⟩
    (try clear HO684)
    (try clear HO696)
    (try clear BK674)
    (try clear BK675)
    (try clear BK676)
    (try clear BK697)
    (try clear HB)
    generalize (((((w40.setCell ⟨gb697, 0, none⟩ (.int .i64 t690)).setCell ⟨gb697, 1, none⟩ (.int .i64 t691)).setCell ⟨gb697, 2, none⟩ (.int .i64 t692)).setCell ⟨gb697, 3, none⟩ (.int .i64 t693)).setCell ⟨gb697, 4, none⟩ (.slice Ao45 t694.length co45)) = w46 at n0_ n1_ n2_ n3_ n4_ n5_ n6_ ⊢
    have HO684 := n0_
    have HO696 := n1_
    have BK674 := n2_
    have BK675 := n3_
    have BK676 := n4_
    have BK697 := n5_
    have HB := n6_
    clear n0_ n1_ n2_ n3_ n4_ n5_ n6_
    have n0_ := Aside0.mk (Kd.R_drew HO684.out)
    have n1_ := Aside0.mk (Kd.R_drew HO696.out)
    have n2_ := Aside0.mk (blk_drew BK674.out)
    have n3_ := Aside0.mk (blk_drew BK675.out)
    have n4_ := Aside0.mk (blk_drew BK676.out)
    have n5_ := Aside0.mk (blk_drew BK697.out)
    have n6_ := Aside0.mk (below_drew1 HB.out)
    clear HO684
    clear HO696
    clear BK674
    clear BK675
    clear BK676
    clear BK697
    clear HB
    have HO684 := n0_
    have HO696 := n1_
    have BK674 := n2_
    have BK675 := n3_
    have BK676 := n4_
    have BK697 := n5_
    have HB := n6_
    clear n0_ n1_ n2_ n3_ n4_ n5_ n6_
    refine start_ (n := 7) (S := fun w' => w'.cell? ⟨gb697, 0, none⟩ = some (.int .i64 t690) ∧ w'.cell? ⟨gb697, 1, none⟩ = some (.int .i64 t691) ∧ w'.cell? ⟨gb697, 2, none⟩ = some (.int .i64 t692) ∧ w'.cell? ⟨gb697, 3, none⟩ = some (.int .i64 t693) ∧ w'.cell? ⟨gb697, 4, none⟩ = some (.slice Ao45 t694.length co45) ∧ w'.cell? ⟨gb675, 0, none⟩ = some (.int .i64 a1_0) ∧ w'.cell? ⟨gb675, 1, none⟩ = some (.int .i64 a1_1) ∧ w'.cell? ⟨gb676, 0, none⟩ = some (.int .i64 a2_0) ∧ w'.cell? ⟨gb676, 1, none⟩ = some (.int .i64 a2_1)) (ds := []) #[bN,bN,bN,bN,bN,bN,bN] (by kernel_rfl) rfl rfl ⟨(blk_cell BK697.out 0).trans rfl, (blk_cell BK697.out 1).trans rfl, (blk_cell BK697.out 2).trans rfl, (blk_cell BK697.out 3).trans rfl, (blk_cell BK697.out 4).trans rfl, (blk_cell BK675.out 0).trans rfl, (blk_cell BK675.out 1).trans rfl, (blk_cell BK676.out 0).trans rfl, (blk_cell BK676.out 1).trans rfl⟩ (fun hHeld => ?_)
    generalize w46.drew = w47 at HO684 HO696 BK674 BK675 BK676 BK697 HB hHeld ⊢
    refine take_ (i := 0) (N := some 25) (v := ?_) (a' := ?_) #[bY,bN,bN,bN,bN,bN,bN] rfl rfl (by kernel_rfl) (fun _ _ _ h => h) (Or.inl ⟨by rfl, ?_⟩) hHeld ?_ ?_
    rotate_left
    ·rintro w' ⟨s0, s1, s2, s3, s4, s5, s6, s7, s8⟩
     go_simp
     with_reducible rfl
    rotate_left
    ·simp only [Act.put, List.setIfInBounds_toArray, List.set_cons_zero, List.set_cons_succ, i64_w, i32_w]
     rfl
    refine take_ (i := 1) (N := some 26) (v := ?_) (a' := ?_) #[bY,bY,bN,bN,bN,bN,bN] rfl rfl (by kernel_rfl) (fun _ _ _ h => h) (Or.inl ⟨by rfl, ?_⟩) hHeld ?_ ?_
    rotate_left
    ·rintro w' ⟨s0, s1, s2, s3, s4, s5, s6, s7, s8⟩
     go_simp
     with_reducible rfl
    rotate_left
    ·simp only [Act.put, List.setIfInBounds_toArray, List.set_cons_zero, List.set_cons_succ, i64_w, i32_w]
     rfl
    refine take_ (i := 3) (N := some 28) (v := ?_) (a' := ?_) #[bY,bY,bN,bY,bN,bN,bN] rfl rfl (by kernel_rfl) (fun _ _ _ h => h) (Or.inl ⟨by rfl, ?_⟩) hHeld ?_ ?_
    rotate_left
    ·rintro w' ⟨s0, s1, s2, s3, s4, s5, s6, s7, s8⟩
     go_simp
     with_reducible rfl
    rotate_left
    ·simp only [Act.put, List.setIfInBounds_toArray, List.set_cons_zero, List.set_cons_succ, i64_w, i32_w]
     rfl
    refine one_ (i := 2) (N := some 27) #[bY,bY,bY,bY,bN,bN,bN] rfl rfl (by kernel_rfl) (by decide) (fun K hK => ?_)
    refine goes_ Try.func37 (by kernel_rfl) rfl #[.agg #[.int .i64 a1_0, .int .i64 a1_1]] (by rfl) rfl rfl (by (try simp only [List.map_toArray, List.map_cons, List.map_nil]); first | done | rfl | (simp only [List.length_drop, List.length_take]; rfl)) ?_
    with_reducible refine (laws_toEntry.calls a1_0 a1_1 t698 t699 _ A18.out).mono ?_
    rintro e w48 ⟨rfl, hb⟩
    refine ⟨_, rfl, ?_⟩
    have n0_ := Aside0.mk (Kd.R_below (by (with_reducible repeat (first | apply Kd.R_alloc | apply Kd.R_drewN | apply Kd.R_drew)); exact HO684.out) hb)
    have n1_ := Aside0.mk (Kd.R_below (by (with_reducible repeat (first | apply Kd.R_alloc | apply Kd.R_drewN | apply Kd.R_drew)); exact HO696.out) hb)
    have n2_ := Aside0.mk (blk_below (g := gb674) (o := .cells #[.int .i64 a0_0, .int .i64 a0_1, .int .i64 a0_2, .int .i64 a0_3, .slice A0_4 l0_4.length c0_4] 51 (0, 0)) (by (with_reducible repeat (first | refine blk_drewN ?_ _ | refine blk_drew ?_ | refine blk_alloc ?_ _)); exact BK674.out) hb)
    have n3_ := Aside0.mk (blk_below (g := gb675) (o := .cells #[.int .i64 a1_0, .int .i64 a1_1] 53 (0, 0)) (by (with_reducible repeat (first | refine blk_drewN ?_ _ | refine blk_drew ?_ | refine blk_alloc ?_ _)); exact BK675.out) hb)
    have n4_ := Aside0.mk (blk_below (g := gb676) (o := .cells #[.int .i64 a2_0, .int .i64 a2_1] 53 (0, 0)) (by (with_reducible repeat (first | refine blk_drewN ?_ _ | refine blk_drew ?_ | refine blk_alloc ?_ _)); exact BK676.out) hb)
    have n5_ := Aside0.mk (blk_below (g := gb697) (o := .cells #[.int .i64 t690, .int .i64 t691, .int .i64 t692, .int .i64 t693, .slice Ao45 t694.length co45] 58 (0, 0)) (by (with_reducible repeat (first | refine blk_drewN ?_ _ | refine blk_drew ?_ | refine blk_alloc ?_ _)); exact BK697.out) hb)
    have n6_ := Aside0.mk (below_step (by repeat (first | (with_reducible first | exact HB.out | apply below_alloc | apply pw_below_drewN | apply below_drew1 | refine below_set ?_ GE674.out | refine below_set ?_ GE675.out | refine below_set ?_ GE676.out | refine below_set ?_ GE697.out) | exact HB.out)) hb)
    clear HO684
    clear HO696
    clear BK674
    clear BK675
    clear BK676
    clear BK697
    clear HB
    have HO684 := n0_
    have HO696 := n1_
    have BK674 := n2_
    have BK675 := n3_
    have BK676 := n4_
    have BK697 := n5_
    have HB := n6_
    clear n0_ n1_ n2_ n3_ n4_ n5_ n6_
    (try clear hb)
    (try clear hb2)
    (try clear hk)
    (try clear hi)
    refine hK.out _ _ ⟨(blk_cell BK697.out 0).trans rfl, (blk_cell BK697.out 1).trans rfl, (blk_cell BK697.out 2).trans rfl, (blk_cell BK697.out 3).trans rfl, (blk_cell BK697.out 4).trans rfl, (blk_cell BK675.out 0).trans rfl, (blk_cell BK675.out 1).trans rfl, (blk_cell BK676.out 0).trans rfl, (blk_cell BK676.out 1).trans rfl⟩ (fun hHeld => ?_)
    clear hK K
    refine norm_ (a' := ?_) ?_ ?_
    rotate_left
    ·show Act.put _ (some 27) _ = _
     simp only [Act.put, List.setIfInBounds_toArray, List.set_cons_zero, List.set_cons_succ, i64_w, i32_w]
     rfl
    refine one_ (i := 4) (N := some 29) #[bY,bY,bY,bY,bY,bN,bN] rfl rfl (by kernel_rfl) (by decide) (fun K hK => ?_)
    refine goes_ Try.func37 (by kernel_rfl) rfl #[.agg #[.int .i64 a2_0, .int .i64 a2_1]] (by rfl) rfl rfl (by (try simp only [List.map_toArray, List.map_cons, List.map_nil]); first | done | rfl | (simp only [List.length_drop, List.length_take]; rfl)) ?_
    with_reducible refine (laws_toEntry.calls a2_0 a2_1 t700 t701 _ A19.out).mono ?_
    rintro e w49 ⟨rfl, hb⟩
    refine ⟨_, rfl, ?_⟩
    have n0_ := Aside0.mk (Kd.R_below (by (with_reducible repeat (first | apply Kd.R_alloc | apply Kd.R_drewN | apply Kd.R_drew)); exact HO684.out) hb)
    have n1_ := Aside0.mk (Kd.R_below (by (with_reducible repeat (first | apply Kd.R_alloc | apply Kd.R_drewN | apply Kd.R_drew)); exact HO696.out) hb)
    have n2_ := Aside0.mk (blk_below (g := gb674) (o := .cells #[.int .i64 a0_0, .int .i64 a0_1, .int .i64 a0_2, .int .i64 a0_3, .slice A0_4 l0_4.length c0_4] 51 (0, 0)) (by (with_reducible repeat (first | refine blk_drewN ?_ _ | refine blk_drew ?_ | refine blk_alloc ?_ _)); exact BK674.out) hb)
    have n3_ := Aside0.mk (blk_below (g := gb675) (o := .cells #[.int .i64 a1_0, .int .i64 a1_1] 53 (0, 0)) (by (with_reducible repeat (first | refine blk_drewN ?_ _ | refine blk_drew ?_ | refine blk_alloc ?_ _)); exact BK675.out) hb)
    have n4_ := Aside0.mk (blk_below (g := gb676) (o := .cells #[.int .i64 a2_0, .int .i64 a2_1] 53 (0, 0)) (by (with_reducible repeat (first | refine blk_drewN ?_ _ | refine blk_drew ?_ | refine blk_alloc ?_ _)); exact BK676.out) hb)
    have n5_ := Aside0.mk (blk_below (g := gb697) (o := .cells #[.int .i64 t690, .int .i64 t691, .int .i64 t692, .int .i64 t693, .slice Ao45 t694.length co45] 58 (0, 0)) (by (with_reducible repeat (first | refine blk_drewN ?_ _ | refine blk_drew ?_ | refine blk_alloc ?_ _)); exact BK697.out) hb)
    have n6_ := Aside0.mk (below_step (by repeat (first | (with_reducible first | exact HB.out | apply below_alloc | apply pw_below_drewN | apply below_drew1 | refine below_set ?_ GE674.out | refine below_set ?_ GE675.out | refine below_set ?_ GE676.out | refine below_set ?_ GE697.out) | exact HB.out)) hb)
    clear HO684
    clear HO696
    clear BK674
    clear BK675
    clear BK676
    clear BK697
    clear HB
    have HO684 := n0_
    have HO696 := n1_
    have BK674 := n2_
    have BK675 := n3_
    have BK676 := n4_
    have BK697 := n5_
    have HB := n6_
    clear n0_ n1_ n2_ n3_ n4_ n5_ n6_
    (try clear hb)
    (try clear hb2)
    (try clear hk)
    (try clear hi)
    refine hK.out _ _ ⟨(blk_cell BK697.out 0).trans rfl, (blk_cell BK697.out 1).trans rfl, (blk_cell BK697.out 2).trans rfl, (blk_cell BK697.out 3).trans rfl, (blk_cell BK697.out 4).trans rfl, (blk_cell BK675.out 0).trans rfl, (blk_cell BK675.out 1).trans rfl, (blk_cell BK676.out 0).trans rfl, (blk_cell BK676.out 1).trans rfl⟩ (fun hHeld => ?_)
    clear hK K
    refine norm_ (a' := ?_) ?_ ?_
    rotate_left
    ·show Act.put _ (some 29) _ = _
     simp only [Act.put, List.setIfInBounds_toArray, List.set_cons_zero, List.set_cons_succ, i64_w, i32_w]
     rfl
    refine one_ (i := 5) (N := some 30) #[bY,bY,bY,bY,bY,bY,bN] rfl rfl (by kernel_rfl) (by decide) (fun K hK => ?_)
    refine goes_ Try.func38 (by kernel_rfl) rfl #[.agg #[.int .i64 t690, .int .i64 t691, .int .i64 t692, .int .i64 t693, .slice Ao45 t694.length co45], .agg #[.int .i64 t698, .int .i64 t699], .agg #[.int .i64 t700, .int .i64 t701]] (by rfl) rfl rfl (by (try simp only [List.map_toArray, List.map_cons, List.map_nil]); first | done | rfl | (simp only [List.length_drop, List.length_take]; rfl)) ?_
    with_reducible refine (impl_CanFollow.calls t690 t691 t692 t693 _ _ t694 t698 t699 t700 t701 t702 _ ?side1 ?side2 A20.out).mono ?_
    (case side1 => repeat (first | exact (Kd.R_reads' HO696.out).2.2 | (with_reducible refine Kd.C_alloc ?_ _) | (with_reducible refine Kd.C_drewN ?_ _) | (with_reducible refine Kd.C_drew ?_)))
    (case side2 => exact (Kd.R_reads' HO696.out).2.1)
    rintro e w50 ⟨rfl, hb⟩
    refine ⟨_, rfl, ?_⟩
    have n0_ := Aside0.mk (Kd.R_below (by (with_reducible repeat (first | apply Kd.R_alloc | apply Kd.R_drewN | apply Kd.R_drew)); exact HO684.out) hb)
    have n1_ := Aside0.mk (Kd.R_below (by (with_reducible repeat (first | apply Kd.R_alloc | apply Kd.R_drewN | apply Kd.R_drew)); exact HO696.out) hb)
    have n2_ := Aside0.mk (blk_below (g := gb674) (o := .cells #[.int .i64 a0_0, .int .i64 a0_1, .int .i64 a0_2, .int .i64 a0_3, .slice A0_4 l0_4.length c0_4] 51 (0, 0)) (by (with_reducible repeat (first | refine blk_drewN ?_ _ | refine blk_drew ?_ | refine blk_alloc ?_ _)); exact BK674.out) hb)
    have n3_ := Aside0.mk (blk_below (g := gb675) (o := .cells #[.int .i64 a1_0, .int .i64 a1_1] 53 (0, 0)) (by (with_reducible repeat (first | refine blk_drewN ?_ _ | refine blk_drew ?_ | refine blk_alloc ?_ _)); exact BK675.out) hb)
    have n4_ := Aside0.mk (blk_below (g := gb676) (o := .cells #[.int .i64 a2_0, .int .i64 a2_1] 53 (0, 0)) (by (with_reducible repeat (first | refine blk_drewN ?_ _ | refine blk_drew ?_ | refine blk_alloc ?_ _)); exact BK676.out) hb)
    have n5_ := Aside0.mk (blk_below (g := gb697) (o := .cells #[.int .i64 t690, .int .i64 t691, .int .i64 t692, .int .i64 t693, .slice Ao45 t694.length co45] 58 (0, 0)) (by (with_reducible repeat (first | refine blk_drewN ?_ _ | refine blk_drew ?_ | refine blk_alloc ?_ _)); exact BK697.out) hb)
    have n6_ := Aside0.mk (below_step (by repeat (first | (with_reducible first | exact HB.out | apply below_alloc | apply pw_below_drewN | apply below_drew1 | refine below_set ?_ GE674.out | refine below_set ?_ GE675.out | refine below_set ?_ GE676.out | refine below_set ?_ GE697.out) | exact HB.out)) hb)
    clear HO684
    clear HO696
    clear BK674
    clear BK675
    clear BK676
    clear BK697
    clear HB
    have HO684 := n0_
    have HO696 := n1_
    have BK674 := n2_
    have BK675 := n3_
    have BK676 := n4_
    have BK697 := n5_
    have HB := n6_
    clear n0_ n1_ n2_ n3_ n4_ n5_ n6_
    (try clear hb)
    (try clear hb2)
    (try clear hk)
    (try clear hi)
    refine hK.out _ _ ⟨(blk_cell BK697.out 0).trans rfl, (blk_cell BK697.out 1).trans rfl, (blk_cell BK697.out 2).trans rfl, (blk_cell BK697.out 3).trans rfl, (blk_cell BK697.out 4).trans rfl, (blk_cell BK675.out 0).trans rfl, (blk_cell BK675.out 1).trans rfl, (blk_cell BK676.out 0).trans rfl, (blk_cell BK676.out 1).trans rfl⟩ (fun hHeld => ?_)
    clear hK K
    refine norm_ (a' := ?_) ?_ ?_
    rotate_left
    ·show Act.put _ (some 30) _ = _
     simp only [Act.put, List.setIfInBounds_toArray, List.set_cons_zero, List.set_cons_succ, i64_w, i32_w]
     rfl
    refine pure_ (i := 6) (N := some 10) (v := ?_) (a' := ?_) #[bY,bY,bY,bY,bY,bY,bY] rfl rfl (by kernel_rfl) (fun _ _ _ h => h) (Or.inl ⟨by rfl, ?_⟩) ?_ ?_
    rotate_left
    ·intro w'
     go_simp
     with_reducible rfl
    rotate_left
    ·simp only [Act.put, List.setIfInBounds_toArray, List.set_cons_zero, List.set_cons_succ, i64_w, i32_w]
     rfl
    refine done_ (by kernel_rfl) ?_
    try go_wp2
    have n0_ := Aside0.mk (Kd.R_drew HO684.out)
    have n1_ := Aside0.mk (Kd.R_drew HO696.out)
    have n2_ := Aside0.mk (blk_drew BK674.out)
    have n3_ := Aside0.mk (blk_drew BK675.out)
    have n4_ := Aside0.mk (blk_drew BK676.out)
    have n5_ := Aside0.mk (blk_drew BK697.out)
    have n6_ := Aside0.mk (below_drew1 HB.out)
    clear HO684
    clear HO696
    clear BK674
    clear BK675
    clear BK676
    clear BK697
    clear HB
    have HO684 := n0_
    have HO696 := n1_
    have BK674 := n2_
    have BK675 := n3_
    have BK676 := n4_
    have BK697 := n5_
    have HB := n6_
    clear n0_ n1_ n2_ n3_ n4_ n5_ n6_
    refine start_ (n := 5) (S := fun w' => w'.cell? ⟨gb697, 0, none⟩ = some (.int .i64 t690) ∧ w'.cell? ⟨gb697, 1, none⟩ = some (.int .i64 t691) ∧ w'.cell? ⟨gb697, 2, none⟩ = some (.int .i64 t692) ∧ w'.cell? ⟨gb697, 3, none⟩ = some (.int .i64 t693) ∧ w'.cell? ⟨gb697, 4, none⟩ = some (.slice Ao45 t694.length co45) ∧ w'.cell? ⟨gb674, 0, none⟩ = some (.int .i64 a0_0) ∧ w'.cell? ⟨gb674, 1, none⟩ = some (.int .i64 a0_1) ∧ w'.cell? ⟨gb674, 2, none⟩ = some (.int .i64 a0_2) ∧ w'.cell? ⟨gb674, 3, none⟩ = some (.int .i64 a0_3) ∧ w'.cell? ⟨gb674, 4, none⟩ = some (.slice A0_4 l0_4.length c0_4)) (ds := []) #[bN,bN,bN,bN,bN] (by kernel_rfl) rfl rfl ⟨(blk_cell BK697.out 0).trans rfl, (blk_cell BK697.out 1).trans rfl, (blk_cell BK697.out 2).trans rfl, (blk_cell BK697.out 3).trans rfl, (blk_cell BK697.out 4).trans rfl, (blk_cell BK674.out 0).trans rfl, (blk_cell BK674.out 1).trans rfl, (blk_cell BK674.out 2).trans rfl, (blk_cell BK674.out 3).trans rfl, (blk_cell BK674.out 4).trans rfl⟩ (fun hHeld => ?_)
    generalize w50.drew = w51 at HO684 HO696 BK674 BK675 BK676 BK697 HB hHeld ⊢
    refine take_ (i := 0) (N := some 34) (v := ?_) (a' := ?_) #[bY,bN,bN,bN,bN] rfl rfl (by kernel_rfl) (fun _ _ _ h => h) (Or.inl ⟨by rfl, ?_⟩) hHeld ?_ ?_
    rotate_left
    ·rintro w' ⟨s0, s1, s2, s3, s4, s5, s6, s7, s8, s9⟩
     go_simp
     with_reducible rfl
    rotate_left
    ·simp only [Act.put, List.setIfInBounds_toArray, List.set_cons_zero, List.set_cons_succ, i64_w, i32_w]
     rfl
    refine take_ (i := 1) (N := some 35) (v := ?_) (a' := ?_) #[bY,bY,bN,bN,bN] rfl rfl (by kernel_rfl) (fun _ _ _ h => h) (Or.inl ⟨by rfl, ?_⟩) hHeld ?_ ?_
    rotate_left
    ·rintro w' ⟨s0, s1, s2, s3, s4, s5, s6, s7, s8, s9⟩
     go_simp
     with_reducible rfl
    rotate_left
    ·simp only [Act.put, List.setIfInBounds_toArray, List.set_cons_zero, List.set_cons_succ, i64_w, i32_w]
     rfl
    refine one_ (i := 2) (N := some 36) #[bY,bY,bY,bN,bN] rfl rfl (by kernel_rfl) (by decide) (fun K hK => ?_)
    refine goes_ Try.func36 (by kernel_rfl) rfl #[.agg #[.int .i64 a0_0, .int .i64 a0_1, .int .i64 a0_2, .int .i64 a0_3, .slice A0_4 l0_4.length c0_4]] (by rfl) rfl rfl (by (try simp only [List.map_toArray, List.map_cons, List.map_nil]); first | done | rfl | (simp only [List.length_drop, List.length_take]; rfl)) ?_
    with_reducible refine (laws_toTimed.calls k a0_0 a0_1 a0_2 a0_3 _ _ l0_4 t703 t704 t705 t706 t707 _ ?side1 ?side2 A22.out).mono ?_
    (case side1 => repeat (first | exact (Kd.C_below HR0_4.out HB.out) | (with_reducible refine Kd.C_alloc ?_ _) | (with_reducible refine Kd.C_drewN ?_ _) | (with_reducible refine Kd.C_drew ?_)))
    (case side2 => exact HC0_4.out)
    rintro e w52 ⟨v708, rfl, ho0, hb⟩
    refine ⟨_, rfl, ?_⟩
    have n0_ := Aside0.mk (Kd.R_elder' (by (with_reducible repeat (first | apply Kd.R_alloc | apply Kd.R_drewN | apply Kd.R_drew)); exact HO684.out) (Kd.R_base ho0) hb)
    have n1_ := Aside0.mk (Kd.R_elder' (by (with_reducible repeat (first | apply Kd.R_alloc | apply Kd.R_drewN | apply Kd.R_drew)); exact HO696.out) (Kd.R_base ho0) hb)
    have n2_ := Aside0.mk (Kd.R_lower (Kd.R_new' (Kd.R_new' ho0 (Kd.R_lt (by (with_reducible repeat (first | apply Kd.R_alloc | apply Kd.R_drewN | apply Kd.R_drew)); exact HO684.out))) (Kd.R_lt (by (with_reducible repeat (first | apply Kd.R_alloc | apply Kd.R_drewN | apply Kd.R_drew)); exact HO696.out))) (below_size (by repeat (first | (with_reducible first | exact HB.out | apply below_alloc | apply pw_below_drewN | apply below_drew1 | refine below_set ?_ GE674.out | refine below_set ?_ GE675.out | refine below_set ?_ GE676.out | refine below_set ?_ GE697.out) | exact HB.out))))
    have n3_ := Aside0.mk (blk_below (g := gb674) (o := .cells #[.int .i64 a0_0, .int .i64 a0_1, .int .i64 a0_2, .int .i64 a0_3, .slice A0_4 l0_4.length c0_4] 51 (0, 0)) (by (with_reducible repeat (first | refine blk_drewN ?_ _ | refine blk_drew ?_ | refine blk_alloc ?_ _)); exact BK674.out) hb)
    have n4_ := Aside0.mk (blk_below (g := gb675) (o := .cells #[.int .i64 a1_0, .int .i64 a1_1] 53 (0, 0)) (by (with_reducible repeat (first | refine blk_drewN ?_ _ | refine blk_drew ?_ | refine blk_alloc ?_ _)); exact BK675.out) hb)
    have n5_ := Aside0.mk (blk_below (g := gb676) (o := .cells #[.int .i64 a2_0, .int .i64 a2_1] 53 (0, 0)) (by (with_reducible repeat (first | refine blk_drewN ?_ _ | refine blk_drew ?_ | refine blk_alloc ?_ _)); exact BK676.out) hb)
    have n6_ := Aside0.mk (blk_below (g := gb697) (o := .cells #[.int .i64 t690, .int .i64 t691, .int .i64 t692, .int .i64 t693, .slice Ao45 t694.length co45] 58 (0, 0)) (by (with_reducible repeat (first | refine blk_drewN ?_ _ | refine blk_drew ?_ | refine blk_alloc ?_ _)); exact BK697.out) hb)
    have n7_ := Aside0.mk (below_step (by repeat (first | (with_reducible first | exact HB.out | apply below_alloc | apply pw_below_drewN | apply below_drew1 | refine below_set ?_ GE674.out | refine below_set ?_ GE675.out | refine below_set ?_ GE676.out | refine below_set ?_ GE697.out) | exact HB.out)) hb)
    clear HO684
    clear HO696
    clear BK674
    clear BK675
    clear BK676
    clear BK697
    clear HB
    have HO684 := n0_
    have HO696 := n1_
    have HO709 := n2_
    have BK674 := n3_
    have BK675 := n4_
    have BK676 := n5_
    have BK697 := n6_
    have HB := n7_
    clear n0_ n1_ n2_ n3_ n4_ n5_ n6_ n7_
    (try clear hb)
    (try clear hb2)
    (try clear hk)
    (try clear hi)
    (try clear ho0)
    obtain ⟨Ao53, co53, eo53⟩ := Kd.R_slice HO709.out
    (first | subst eo53 | (injection eo53 with f1_ f2_ f3_; have f4_ := f1_.symm; have f5_ := f3_.symm; clear f1_ f2_ f3_; subst f4_; subst f5_))
    refine hK.out _ _ ⟨(blk_cell BK697.out 0).trans rfl, (blk_cell BK697.out 1).trans rfl, (blk_cell BK697.out 2).trans rfl, (blk_cell BK697.out 3).trans rfl, (blk_cell BK697.out 4).trans rfl, (blk_cell BK674.out 0).trans rfl, (blk_cell BK674.out 1).trans rfl, (blk_cell BK674.out 2).trans rfl, (blk_cell BK674.out 3).trans rfl, (blk_cell BK674.out 4).trans rfl⟩ (fun hHeld => ?_)
    clear hK K
    refine norm_ (a' := ?_) ?_ ?_
    rotate_left
    ·show Act.put _ (some 36) _ = _
     simp only [Act.put, List.setIfInBounds_toArray, List.set_cons_zero, List.set_cons_succ, i64_w, i32_w]
     rfl
    refine one_ (i := 3) (N := some 37) #[bY,bY,bY,bY,bN] rfl rfl (by kernel_rfl) (by decide) (fun K hK => ?_)
    refine goes_ Try.func39 (by kernel_rfl) rfl #[.agg #[.int .i64 t690, .int .i64 t691, .int .i64 t692, .int .i64 t693, .slice Ao45 t694.length co45], .agg #[.int .i64 t703, .int .i64 t704, .int .i64 t705, .int .i64 t706, .slice Ao53 t707.length co53]] (by rfl) rfl rfl (by (try simp only [List.map_toArray, List.map_cons, List.map_nil]); first | done | rfl | (simp only [List.length_drop, List.length_take]; rfl)) ?_
    with_reducible refine (laws_eqTimed.calls k t690 t691 t692 t693 _ _ t694 t703 t704 t705 t706 _ _ t707 true _ ?side1 ?side2 ?side3 ?side4 A23.out).mono ?_
    (case side1 => repeat (first | exact (Kd.R_reads' HO696.out).2.2 | (with_reducible refine Kd.C_alloc ?_ _) | (with_reducible refine Kd.C_drewN ?_ _) | (with_reducible refine Kd.C_drew ?_)))
    (case side2 => exact (Kd.R_reads' HO696.out).2.1)
    (case side3 => repeat (first | exact (Kd.R_reads' HO709.out).2.2 | (with_reducible refine Kd.C_alloc ?_ _) | (with_reducible refine Kd.C_drewN ?_ _) | (with_reducible refine Kd.C_drew ?_)))
    (case side4 => exact (Kd.R_reads' HO709.out).2.1)
    rintro e w54 ⟨rfl, hb⟩
    refine ⟨_, rfl, ?_⟩
    have n0_ := Aside0.mk (Kd.R_below (by (with_reducible repeat (first | apply Kd.R_alloc | apply Kd.R_drewN | apply Kd.R_drew)); exact HO684.out) hb)
    have n1_ := Aside0.mk (Kd.R_below (by (with_reducible repeat (first | apply Kd.R_alloc | apply Kd.R_drewN | apply Kd.R_drew)); exact HO696.out) hb)
    have n2_ := Aside0.mk (Kd.R_below (by (with_reducible repeat (first | apply Kd.R_alloc | apply Kd.R_drewN | apply Kd.R_drew)); exact HO709.out) hb)
    have n3_ := Aside0.mk (blk_below (g := gb674) (o := .cells #[.int .i64 a0_0, .int .i64 a0_1, .int .i64 a0_2, .int .i64 a0_3, .slice A0_4 l0_4.length c0_4] 51 (0, 0)) (by (with_reducible repeat (first | refine blk_drewN ?_ _ | refine blk_drew ?_ | refine blk_alloc ?_ _)); exact BK674.out) hb)
    have n4_ := Aside0.mk (blk_below (g := gb675) (o := .cells #[.int .i64 a1_0, .int .i64 a1_1] 53 (0, 0)) (by (with_reducible repeat (first | refine blk_drewN ?_ _ | refine blk_drew ?_ | refine blk_alloc ?_ _)); exact BK675.out) hb)
    have n5_ := Aside0.mk (blk_below (g := gb676) (o := .cells #[.int .i64 a2_0, .int .i64 a2_1] 53 (0, 0)) (by (with_reducible repeat (first | refine blk_drewN ?_ _ | refine blk_drew ?_ | refine blk_alloc ?_ _)); exact BK676.out) hb)
    have n6_ := Aside0.mk (blk_below (g := gb697) (o := .cells #[.int .i64 t690, .int .i64 t691, .int .i64 t692, .int .i64 t693, .slice Ao45 t694.length co45] 58 (0, 0)) (by (with_reducible repeat (first | refine blk_drewN ?_ _ | refine blk_drew ?_ | refine blk_alloc ?_ _)); exact BK697.out) hb)
    have n7_ := Aside0.mk (below_step (by repeat (first | (with_reducible first | exact HB.out | apply below_alloc | apply pw_below_drewN | apply below_drew1 | refine below_set ?_ GE674.out | refine below_set ?_ GE675.out | refine below_set ?_ GE676.out | refine below_set ?_ GE697.out) | exact HB.out)) hb)
    clear HO684
    clear HO696
    clear HO709
    clear BK674
    clear BK675
    clear BK676
    clear BK697
    clear HB
    have HO684 := n0_
    have HO696 := n1_
    have HO709 := n2_
    have BK674 := n3_
    have BK675 := n4_
    have BK676 := n5_
    have BK697 := n6_
    have HB := n7_
    clear n0_ n1_ n2_ n3_ n4_ n5_ n6_ n7_
    (try clear hb)
    (try clear hb2)
    (try clear hk)
    (try clear hi)
    refine hK.out _ _ ⟨(blk_cell BK697.out 0).trans rfl, (blk_cell BK697.out 1).trans rfl, (blk_cell BK697.out 2).trans rfl, (blk_cell BK697.out 3).trans rfl, (blk_cell BK697.out 4).trans rfl, (blk_cell BK674.out 0).trans rfl, (blk_cell BK674.out 1).trans rfl, (blk_cell BK674.out 2).trans rfl, (blk_cell BK674.out 3).trans rfl, (blk_cell BK674.out 4).trans rfl⟩ (fun hHeld => ?_)
    clear hK K
    refine norm_ (a' := ?_) ?_ ?_
    rotate_left
    ·show Act.put _ (some 37) _ = _
     simp only [Act.put, List.setIfInBounds_toArray, List.set_cons_zero, List.set_cons_succ, i64_w, i32_w]
     rfl
    refine pure_ (i := 4) (N := some 38) (v := ?_) (a' := ?_) #[bY,bY,bY,bY,bY] rfl rfl (by kernel_rfl) (fun _ _ _ h => h) (Or.inl ⟨by rfl, ?_⟩) ?_ ?_
    rotate_left
    ·intro w'
     go_simp
     with_reducible rfl
    rotate_left
    ·simp only [Act.put, List.setIfInBounds_toArray, List.set_cons_zero, List.set_cons_succ, i64_w, i32_w]
     rfl
    refine done_ (by kernel_rfl) ?_
    try go_wp2
    go_ret
    exact ⟨by first | rfl | (simp [errW_none, errW_some] <;> rfl) | (simp [*, errW_none, errW_some] <;> rfl), by repeat (first | (with_reducible first | exact HB.out | apply below_alloc | apply pw_below_drewN | apply below_drew1 | refine below_set ?_ GE674.out | refine below_set ?_ GE675.out | refine below_set ?_ GE676.out | refine below_set ?_ GE697.out) | exact HB.out)⟩
   ·replace c24 := Bool.eq_false_iff.mpr c24
    subst c24
    have H1 : (some false) = some true := by rw [if_neg (show ¬ (false = true) by decide)] at H; exact H
    clear H
    have H := H1
    clear H1
    exact absurd (Option.some.inj H) Bool.false_ne_true
end Go.Proofs.Ytimejdhglmajdaa.F
end

section
namespace Go.Proofs.Ytimejdhglmajdaa.F
open Go.RowKit Go.Proofs.YtimejdhglmajdaaW.PrintWords Go.Proofs.YtimejdhglmajdaaW.PrintLast Go.Proofs.YtimejdhglmajdaaW.PrintMore
set_option linter.unusedVariables false
set_option linter.unusedSimpArgs false
theorem w64 {x : Int} (h1 : -9223372036854775808 ≤ x) (h2 : x ≤ 9223372036854775807) : wrap64 x = x := by unfold wrap64; omega
theorem wrapi_nat {n : Nat} (h : n < 9223372036854775808) : IntKind.i64.wrap (n : Int) = (n : Int) := by rw [IntKind.wrap_i64]; omega
theorem bits_and_i {a b : Nat} (ha : a < 2 ^ 63) (hb : b < 2 ^ 63) : Go.bits .and .i64 (a : Int) (b : Int) = ((a &&& b : Nat) : Int) :=
  (bits_nat .i64 63 (by decide) (fun n h0 h1 => by rw [IntKind.wrap_i64]; omega) a b ha hb).1
theorem bits_or_i {a b : Nat} (ha : a < 2 ^ 63) (hb : b < 2 ^ 63) : Go.bits .or .i64 (a : Int) (b : Int) = ((a ||| b : Nat) : Int) :=
  (bits_nat .i64 63 (by decide) (fun n h0 h1 => by rw [IntKind.wrap_i64]; omega) a b ha hb).2
theorem bits_xor_i {a b : Nat} (ha : a < 2 ^ 63) (hb : b < 2 ^ 63) : Go.bits .xor .i64 (a : Int) (b : Int) = ((a ^^^ b : Nat) : Int) := by
  have ha' : a % 2 ^ 64 = a := Nat.mod_eq_of_lt (by omega)
  have hb' : b % 2 ^ 64 = b := Nat.mod_eq_of_lt (by omega)
  have hx := Nat.xor_lt_two_pow ha hb
  show IntKind.i64.wrap (((BitVec.ofInt 64 (a : Int) ^^^ BitVec.ofInt 64 (b : Int)).toNat : Nat) : Int) = _
  rw [BitVec.ofInt_natCast, BitVec.ofInt_natCast, BitVec.toNat_xor, BitVec.toNat_ofNat, BitVec.toNat_ofNat, ha', hb']
  exact wrapi_nat (by omega)
theorem bits_andNot_i {a b : Nat} (ha : a < 2 ^ 63) (hb : b < 2 ^ 63) : Go.bits .andNot .i64 (a : Int) (b : Int) = ((a ^^^ (a &&& b) : Nat) : Int) := by
  have ha' : a % 2 ^ 64 = a := Nat.mod_eq_of_lt (by omega)
  have hb' : b % 2 ^ 64 = b := Nat.mod_eq_of_lt (by omega)
  have hx : a ^^^ (a &&& b) < 2 ^ 63 := Nat.xor_lt_two_pow ha (Nat.lt_of_le_of_lt Nat.and_le_left ha)
  have key : (BitVec.ofNat 64 a &&& ~~~BitVec.ofNat 64 b).toNat = a ^^^ (a &&& b) := by
    apply Nat.eq_of_testBit_eq
    intro i
    have e1 : (BitVec.ofNat 64 a &&& ~~~BitVec.ofNat 64 b).toNat.testBit i = (BitVec.ofNat 64 a &&& ~~~BitVec.ofNat 64 b).getLsbD i := rfl
    rw [e1]
    simp only [BitVec.getLsbD_and, BitVec.getLsbD_not, BitVec.getLsbD_ofNat, Nat.testBit_xor, Nat.testBit_and]
    by_cases hi : i < 64
    · simp [hi]
      cases a.testBit i <;> cases b.testBit i <;> rfl
    · have : a.testBit i = false := Nat.testBit_lt_two_pow (Nat.lt_of_lt_of_le ha (Nat.pow_le_pow_right (by decide) (by omega)))
      simp [hi, this]
  show IntKind.i64.wrap (((BitVec.ofInt 64 (a : Int) &&& ~~~BitVec.ofInt 64 (b : Int)).toNat : Nat) : Int) = _
  rw [BitVec.ofInt_natCast, BitVec.ofInt_natCast, key]
  exact wrapi_nat (by omega)
theorem shl_one {g : Nat} (h : g < 63) : shl .i64 1 (g : Int) = ((2 ^ g : Nat) : Int) := by
  unfold shl
  have : min ((g : Int).toNat) IntKind.i64.bits = g := by simp [IntKind.bits]; omega
  rw [this, Int.one_mul]
  have hp : (2 : Nat) ^ g ≤ 2 ^ 62 := Nat.pow_le_pow_right (by decide) (by omega)
  have : ((2 : Int) ^ g) = ((2 ^ g : Nat) : Int) := by simp
  rw [this]
  exact wrapi_nat (by omega)
theorem shr_nat {a g : Nat} (ha : a < 2 ^ 63) : shr .i64 (a : Int) (g : Int) = ((a >>> g : Nat) : Int) := by
  unfold shr
  rw [Nat.shiftRight_eq_div_pow]
  by_cases hg : g ≤ 64
  · have : min ((g : Int).toNat) IntKind.i64.bits = g := by simp [IntKind.bits]; omega
    rw [this]
    have : ((2 : Int) ^ g) = ((2 ^ g : Nat) : Int) := by simp
    rw [this]
    omega
  · have : min ((g : Int).toNat) IntKind.i64.bits = 64 := by simp [IntKind.bits]; omega
    rw [this]
    have hp : (2 : Nat) ^ 64 ≤ 2 ^ g := Nat.pow_le_pow_right (by decide) (by omega)
    rw [Nat.div_eq_of_lt (by omega)]
    have : (a : Int) / 2 ^ 64 = 0 := by omega
    simpa using this
def opn (o g : Int) : Bool := o.toNat.testBit g.toNat
theorem bit_test {o g : Int} (ho : 0 ≤ o) (ho2 : o < 9223372036854775808) (hg : 0 ≤ g) : (Go.bits .and .i64 (shr .i64 o g) 1 == 1) = opn o g := by
  obtain ⟨a, rfl⟩ := Int.eq_ofNat_of_zero_le ho
  obtain ⟨n, rfl⟩ := Int.eq_ofNat_of_zero_le hg
  have ha : a < 2 ^ 63 := by omega
  rw [shr_nat ha]
  have h2 : a >>> n < 2 ^ 63 := Nat.lt_of_le_of_lt (by rw [Nat.shiftRight_eq_div_pow]; exact Nat.div_le_self _ _) ha
  unfold opn
  simp only [Int.toNat_natCast]
  rw [show ((1 : Int)) = ((1 : Nat) : Int) from rfl, bits_and_i h2 (by decide), Nat.testBit, Nat.and_one_is_mod, Nat.one_and_eq_mod_two]
  rcases Nat.mod_two_eq_zero_or_one (a >>> n) with h | h <;> simp [h]
theorem fold_loop {σ ρ : Type} {F : Nat → σ → Int → Option ρ} {n c : Nat} {step : σ → Nat → σ} {fin : σ → ρ} {I : σ → Nat → Prop}
    (hF : ∀ k s (i : Nat), c ≤ k → i < n → I s i → F (k + 1) s (i : Int) = F k (step s i) ((i : Int) + 1)) (hI : ∀ s i, i < n → I s i → I (step s i) (i + 1))
    (hE : ∀ k s, c ≤ k → I s n → F (k + 1) s (n : Int) = some (fin s)) :
    ∀ (d i : Nat) (k : Nat) (s : σ), i + d = n → d + c + 1 ≤ k → I s i → F k s (i : Int) = some (fin ((List.range' i d).foldl step s))
  | 0, i, k, s, hi, hk, h => by
    obtain ⟨m, rfl⟩ : ∃ m, k = m + 1 := ⟨k - 1, by omega⟩
    obtain rfl : i = n := by omega
    simpa using hE m s (by omega) h
  | d + 1, i, k, s, hi, hk, h => by
    obtain ⟨m, rfl⟩ : ∃ m, k = m + 1 := ⟨k - 1, by omega⟩
    rw [hF m s i (by omega) (by omega) h, List.range'_succ, List.foldl_cons]
    have := fold_loop (c := c) (step := step) (fin := fin) hF hI hE d (i + 1) m (step s i) (by omega) (by omega) (hI s i (by omega) h)
    rwa [Int.natCast_add] at this
theorem set_loop {α β : Type} (z : α) {F : Nat → List β → Int → Option (List β)} {l : List α} {g : α → β} {c : Nat}
    (hF : ∀ k acc (i : Nat), c ≤ k → i < l.length → acc.length = l.length → F (k + 1) acc (i : Int) = F k (acc.set i (g (l.getD i z))) ((i : Int) + 1)) (hE : ∀ k acc, c ≤ k → F (k + 1) acc (l.length : Int) = some acc) {k : Nat} (acc : List β) (ha : acc.length = l.length) (hk : l.length + c + 1 ≤ k) :
    F k acc 0 = some (l.map g) := by
  have key : ∀ (d i : Nat) (k : Nat) (acc : List β), i + d = l.length → d + c + 1 ≤ k → acc.length = l.length → F k acc (i : Int) = some (acc.take i ++ (l.drop i).map g) := by
    intro d
    induction d with
    | zero =>
      intro i k acc hi hk ha
      obtain ⟨m, rfl⟩ : ∃ m, k = m + 1 := ⟨k - 1, by omega⟩
      obtain rfl : i = l.length := by omega
      rw [hE m acc (by omega), List.take_of_length_le (by omega), List.drop_of_length_le (by omega)]
      simp
    | succ d ih =>
      intro i k acc hi hk ha
      obtain ⟨m, rfl⟩ : ∃ m, k = m + 1 := ⟨k - 1, by omega⟩
      have hil : i < l.length := by omega
      rw [hF m acc i (by omega) hil ha]
      have := ih (i + 1) m (acc.set i (g (l.getD i z))) (by omega) (by omega) (by simpa using ha)
      rw [Int.natCast_add] at this
      refine this.trans ?_
      congr 1
      rw [List.take_add_one, List.getElem?_set]
      simp [ha, hil, List.getD_eq_getElem?_getD, List.getElem?_eq_getElem hil]
      have e1 : List.drop i (List.map g l) = g l[i] :: List.drop (i + 1) (List.map g l) := by
        rw [List.drop_eq_getElem_cons (l := List.map g l) (i := i) (by simpa using hil)]
        simp
      rw [e1, List.take_set_of_le (Nat.le_refl _)]
  have := key l.length 0 k acc (by omega) (by omega) ha
  simpa using this
theorem all_loop {α : Type} (z : α) {F : Nat → Int → Option Bool} {l : List α} {p : α → Bool} {c : Nat} {b : Bool}
    (hF : ∀ k (i : Nat), c ≤ k → i < l.length → F (k + 1) (i : Int) = if p (l.getD i z) = true then F k ((i : Int) + 1) else some false) (hE : ∀ k, c ≤ k → F (k + 1) (l.length : Int) = some b) {k : Nat} (hk : l.length + c + 1 ≤ k) :
    F k 0 = some (l.all p && b) := by
  have key : ∀ (d i : Nat) (k : Nat), i + d = l.length → d + c + 1 ≤ k → F k (i : Int) = some ((l.drop i).all p && b) := by
    intro d
    induction d with
    | zero =>
      intro i k hi hk
      obtain ⟨m, rfl⟩ : ∃ m, k = m + 1 := ⟨k - 1, by omega⟩
      obtain rfl : i = l.length := by omega
      rw [hE m (by omega), List.drop_of_length_le (by omega)]
      simp
    | succ d ih =>
      intro i k hi hk
      obtain ⟨m, rfl⟩ : ∃ m, k = m + 1 := ⟨k - 1, by omega⟩
      have hil : i < l.length := by omega
      rw [hF m i (by omega) hil, List.drop_eq_getElem_cons hil, List.all_cons]
      have e : l.getD i z = l[i] := by rw [List.getD_eq_getElem?_getD, List.getElem?_eq_getElem hil]; rfl
      rw [e]
      have := ih (i + 1) m (by omega) (by omega)
      rw [Int.natCast_add] at this
      by_cases h : p l[i] = true
      · rw [if_pos h, h]
        simpa using this
      · rw [if_neg h]
        simp at h
        simp [h]
  have := key l.length 0 k (by omega) (by omega)
  simpa using this
theorem w64_succ {i n : Nat} (h : i < n) (hn : n ≤ 9223372036854775807) : wrap64 ((i : Int) + 1) = (i : Int) + 1 := w64 (by omega) (by omega)
end Go.Proofs.Ytimejdhglmajdaa.F
end

section
namespace Go.Proofs.Ytimejdhglmajdaa.F
open Go.RowKit Go.Proofs.YtimejdhglmajdaaW.PrintWords Go.Proofs.YtimejdhglmajdaaW.PrintLast Go.Proofs.YtimejdhglmajdaaW.PrintMore
set_option linter.unusedVariables false
set_option linter.unusedSimpArgs false
def gok (w h : Int) : Bool := decide (1 ≤ w ∧ w ≤ 4 ∧ 1 ≤ h ∧ h ≤ 4)
theorem gok_iff {w h : Int} : gok w h = true ↔ 1 ≤ w ∧ w ≤ 4 ∧ 1 ≤ h ∧ h ≤ 4 := by simp [gok]
theorem gok_wide {w h : Int} (H : gok w h = true) : w = 1 ∨ w = 2 ∨ w = 3 ∨ w = 4 := by rw [gok_iff] at H; omega
theorem gok_high {w h : Int} (H : gok w h = true) : h = 1 ∨ h = 2 ∨ h = 3 ∨ h = 4 := by rw [gok_iff] at H; omega
def cells (w h : Int) : Int := if gok w h then w * h else 0
def gaps (w h : Int) : Int := if gok w h then (w - 1) * h + w * (h - 1) else 0
theorem cells_bd (w h : Int) : 0 ≤ cells w h ∧ cells w h ≤ 16 := by
  unfold cells
  by_cases H : gok w h = true
  · rw [if_pos H]
    rcases gok_wide H with rfl | rfl | rfl | rfl <;> rcases gok_high H with rfl | rfl | rfl | rfl <;> omega
  · rw [if_neg H]; omega
theorem gaps_bd (w h : Int) : 0 ≤ gaps w h ∧ gaps w h ≤ 24 := by
  unfold gaps
  by_cases H : gok w h = true
  · rw [if_pos H]
    rcases gok_wide H with rfl | rfl | rfl | rfl <;> rcases gok_high H with rfl | rfl | rfl | rfl <;> omega
  · rw [if_neg H]; omega
theorem impl_GridOk_eq (w h : Int) : impl_GridOk.f w h = some (gok w h) := by
  unfold impl_GridOk.f gok
  by_cases h1 : w ≥ 1 <;> by_cases h2 : w ≤ 4 <;> by_cases h3 : h ≥ 1 <;> simp [*] <;> omega
theorem spec_l01In_eq (x a b : Int) : spec_l01In.f x a b = some (decide (a ≤ x ∧ x ≤ b)) := by
  unfold spec_l01In.f
  by_cases h1 : x ≥ a
  · simp [h1]
  · rw [if_neg h1]; simp; omega
theorem spec_GridOk_eq (w h : Int) : spec_GridOk.f w h = some (gok w h) := by
  unfold spec_GridOk.f
  simp only [spec_l01In_eq, Option.bind_some]
  unfold gok
  by_cases h1 : 1 ≤ w ∧ w ≤ 4
  · simp [h1]
  · rw [if_neg (by simpa using h1)]; simp; omega
theorem gok_mul {w h : Int} (H : gok w h = true) : 1 ≤ w * h ∧ w * h ≤ 16 ∧ 0 ≤ (w - 1) * h ∧ (w - 1) * h ≤ 12 ∧ 0 ≤ w * (h - 1) ∧ w * (h - 1) ≤ 12 := by
  rcases gok_wide H with rfl | rfl | rfl | rfl <;> rcases gok_high H with rfl | rfl | rfl | rfl <;> omega
theorem impl_CountCells_eq (w h : Int) : impl_CountCells.f w h = some (cells w h) := by
  unfold impl_CountCells.f cells
  rw [impl_GridOk_eq, Option.bind_some]
  by_cases H : gok w h = true
  · have := gok_mul H
    rw [if_pos H, if_pos H, w64 (by omega) (by omega)]
  · rw [if_neg H, if_neg H]
theorem spec_CountCells_eq (w h : Int) : spec_CountCells.f w h = some (cells w h) := by
  unfold spec_CountCells.f cells
  rw [spec_GridOk_eq, Option.bind_some]
  by_cases H : gok w h = true
  · have := gok_mul H
    rw [if_pos H, if_pos H, w64 (by omega) (by omega)]
  · rw [if_neg H, if_neg H]
theorem impl_CountGaps_eq (w h : Int) : impl_CountGaps.f w h = some (gaps w h) := by
  unfold impl_CountGaps.f gaps
  rw [impl_GridOk_eq, Option.bind_some]
  by_cases H : gok w h = true
  · have := gok_mul H
    have b := gok_iff.1 H
    rw [if_pos H, if_pos H, w64 (x := w - 1) (by omega) (by omega), w64 (x := h - 1) (by omega) (by omega), w64 (x := (w - 1) * h) (by omega) (by omega), w64 (x := w * (h - 1)) (by omega) (by omega), w64 (by omega) (by omega)]
  · rw [if_neg H, if_neg H]
theorem spec_CountGaps_eq (w h : Int) : spec_CountGaps.f w h = some (gaps w h) := by
  unfold spec_CountGaps.f spec_l02East.f gaps
  rw [spec_GridOk_eq, Option.bind_some]
  by_cases H : gok w h = true
  · have := gok_mul H
    have b := gok_iff.1 H
    rw [if_pos H, if_pos H, Option.bind_some, w64 (x := w - 1) (by omega) (by omega), w64 (x := h - 1) (by omega) (by omega), Int.mul_comm h (w - 1), w64 (x := (w - 1) * h) (by omega) (by omega), w64 (x := w * (h - 1)) (by omega) (by omega), w64 (by omega) (by omega)]
  · rw [if_neg H, if_neg H]
def icell (w h c : Int) : Bool := decide (0 ≤ c ∧ c < cells w h)
def igap (w h g : Int) : Bool := decide (0 ≤ g ∧ g < gaps w h)
theorem icell_iff {w h c : Int} : icell w h c = true ↔ 0 ≤ c ∧ c < cells w h := by simp [icell]
theorem igap_iff {w h c : Int} : igap w h c = true ↔ 0 ≤ c ∧ c < gaps w h := by simp [igap]
theorem impl_isCell_eq (w h c : Int) : impl_isCell.f w h c = some (icell w h c) := by
  unfold impl_isCell.f icell
  rw [impl_CountCells_eq]
  by_cases h1 : c ≥ 0
  · rw [if_pos h1]; simp [h1]
  · rw [if_neg h1]; simp; omega
theorem impl_isGap_eq (w h c : Int) : impl_isGap.f w h c = some (igap w h c) := by
  unfold impl_isGap.f igap
  rw [impl_CountGaps_eq]
  by_cases h1 : c ≥ 0
  · rw [if_pos h1]; simp [h1]
  · rw [if_neg h1]; simp; omega
theorem in_cells (w h c : Int) : decide (0 ≤ c ∧ c ≤ wrap64 (cells w h - 1)) = icell w h c := by
  have := cells_bd w h
  rw [w64 (by omega) (by omega)]
  unfold icell
  rw [Bool.eq_iff_iff]; simp; omega
theorem in_gaps (w h c : Int) : decide (0 ≤ c ∧ c ≤ wrap64 (gaps w h - 1)) = igap w h c := by
  have := gaps_bd w h
  rw [w64 (by omega) (by omega)]
  unfold igap
  rw [Bool.eq_iff_iff]; simp; omega
theorem icell_gok {w h c : Int} (H : icell w h c = true) : gok w h = true := by
  rw [icell_iff] at H
  unfold cells at H
  by_cases G : gok w h = true
  · exact G
  · rw [if_neg G] at H; omega
theorem icell_mul {w h c : Int} (H : icell w h c = true) : 0 ≤ c ∧ c < w * h := by
  have G := icell_gok H
  rw [icell_iff] at H
  unfold cells at H
  rwa [if_pos G] at H
def nb (w h c d : Int) : Int :=
  if icell w h c then
    (if d = 0 then (if c / w > 0 then c - w else -1) else if d = 1 then (if c % w < w - 1 then c + 1 else -1) else if d = 2 then (if c / w < h - 1 then c + w else -1) else if d = 3 then (if c % w > 0 then c - 1 else -1) else -1)
  else -1
theorem div_facts {w h c : Int} (G : gok w h = true) (H : 0 ≤ c ∧ c < w * h) : Int.tdiv c w = c / w ∧ Int.tmod c w = c % w ∧ wrap64 (c / w) = c / w ∧ 0 ≤ c / w ∧ c / w < h ∧ 0 ≤ c % w ∧ c % w < w ∧ w * (c / w) + c % w = c := by
  have b := gok_iff.1 G
  have e1 : Int.tdiv c w = c / w := Int.tdiv_eq_ediv_of_nonneg H.1
  have e2 : Int.tmod c w = c % w := Int.tmod_eq_emod_of_nonneg H.1
  have e3 : 0 ≤ c / w := Int.ediv_nonneg H.1 (by omega)
  have e4 : c / w < h := by
    apply Int.ediv_lt_of_lt_mul (by omega)
    rw [Int.mul_comm]; exact H.2
  exact ⟨e1, e2, w64 (by omega) (by omega), e3, e4, Int.emod_nonneg _ (by omega), Int.emod_lt_of_pos _ (by omega), Int.mul_ediv_add_emod c w⟩
theorem impl_Neighbor_eq {k : Nat} (hk : 3 ≤ k) (w h c d : Int) : impl_Neighbor.f k w h c d = some (nb w h c d) := by
  obtain ⟨m, rfl⟩ : ∃ m, k = m + 3 := ⟨k - 3, by omega⟩
  unfold impl_Neighbor.f nb
  rw [impl_isCell_eq, Option.bind_some]
  by_cases H : icell w h c = true
  · have G := icell_gok H
    have b := gok_iff.1 G
    have hc := icell_mul H
    have hm := gok_mul G
    obtain ⟨e1, e2, e3, y0, y1, x0, x1, hq⟩ := div_facts G hc
    rw [if_pos H, if_pos H, if_neg (by omega), e1, e2, e3]
    simp only [impl_Neighbor.j0, impl_Neighbor.j1, impl_Neighbor.j2]
    rw [w64 (x := w - 1) (by omega) (by omega), w64 (x := h - 1) (by omega) (by omega)]
    by_cases d0 : d = 0
    · subst d0
      by_cases t : c / w > 0 <;> simp [t, w64 (x := c - w) (by omega) (by omega)]
    by_cases d1 : d = 1
    · subst d1
      by_cases t : c % w < w - 1 <;> simp [t, w64 (x := c + 1) (by omega) (by omega)]
    by_cases d2 : d = 2
    · subst d2
      by_cases t : c / w < h - 1 <;> simp [t, w64 (x := c + w) (by omega) (by omega)]
    by_cases d3 : d = 3
    · subst d3
      by_cases t : c % w > 0 <;> simp [t, w64 (x := c - 1) (by omega) (by omega)]
    simp [d0, d1, d2, d3]
  · rw [if_neg H, if_neg H]
theorem spec_j0_eq {w h : Int} (G : gok w h = true) (m : Nat) {x y : Int} : spec_Neighbor.j0 (m + 1) x y w h = some (if 0 ≤ x ∧ x ≤ w - 1 ∧ 0 ≤ y ∧ y ≤ h - 1 then y * w + x else -1) := by
  have b := gok_iff.1 G
  simp only [spec_Neighbor.j0, spec_l01In_eq, Option.bind_some, decide_eq_true_eq]
  rw [w64 (x := w - 1) (by omega) (by omega), w64 (x := h - 1) (by omega) (by omega)]
  by_cases h1 : 0 ≤ x ∧ x ≤ w - 1
  · rw [if_pos h1]
    by_cases h2 : 0 ≤ y ∧ y ≤ h - 1
    · have l1 : y * w ≤ 3 * 4 := Int.mul_le_mul (by omega) (by omega) (by omega) (by omega)
      have l0 : 0 ≤ y * w := Int.mul_nonneg (by omega) (by omega)
      rw [if_pos h2, if_pos ⟨h1.1, h1.2, h2.1, h2.2⟩, w64 (x := y * w) (by omega) (by omega), w64 (by omega) (by omega)]
    · rw [if_neg h2, if_neg (fun h => h2 ⟨h.2.2.1, h.2.2.2⟩)]
  · rw [if_neg h1, if_neg (fun h => h1 ⟨h.1, h.2.1⟩)]
theorem spec_Neighbor_eq {k : Nat} (hk : 1 ≤ k) (w h c d : Int) : spec_Neighbor.f k w h c d = some (nb w h c d) := by
  obtain ⟨m, rfl⟩ : ∃ m, k = m + 1 := ⟨k - 1, by omega⟩
  unfold spec_Neighbor.f nb
  rw [spec_CountCells_eq, Option.bind_some, spec_l01In_eq, Option.bind_some, in_cells]
  by_cases H : icell w h c = true
  · have G := icell_gok H
    have b := gok_iff.1 G
    have hc := icell_mul H
    have hm := gok_mul G
    obtain ⟨e1, e2, e3, y0, y1, x0, x1, hq⟩ := div_facts G hc
    rw [if_pos H, if_pos H, if_neg (by omega), e1, e2, e3, w64 (x := c / w - 1) (by omega) (by omega), w64 (x := c / w + 1) (by omega) (by omega), w64 (x := c % w - 1) (by omega) (by omega), w64 (x := c % w + 1) (by omega) (by omega)]
    simp only [spec_j0_eq G]
    have p1 : (c / w - 1) * w = w * (c / w) - w := by rw [Int.sub_mul, Int.one_mul, Int.mul_comm]
    have p2 : (c / w + 1) * w = w * (c / w) + w := by rw [Int.add_mul, Int.one_mul, Int.mul_comm]
    have p3 : (c / w) * w = w * (c / w) := Int.mul_comm _ _
    rw [p1, p2, p3]
    by_cases d0 : d = 0
    · rw [if_pos d0, if_pos d0]
      by_cases t : c / w > 0
      · rw [if_pos (by omega), if_pos t]; congr 1; omega
      · rw [if_neg (by omega), if_neg t]
    rw [if_neg d0, if_neg d0]
    by_cases d1 : d = 1
    · rw [if_pos d1, if_pos d1]
      by_cases t : c % w < w - 1
      · rw [if_pos (by omega), if_pos t]; congr 1; omega
      · rw [if_neg (by omega), if_neg t]
    rw [if_neg d1, if_neg d1]
    by_cases d2 : d = 2
    · rw [if_pos d2, if_pos d2]
      by_cases t : c / w < h - 1
      · rw [if_pos (by omega), if_pos t]; congr 1; omega
      · rw [if_neg (by omega), if_neg t]
    rw [if_neg d2, if_neg d2]
    by_cases d3 : d = 3
    · rw [if_pos d3, if_pos d3]
      by_cases t : c % w > 0
      · rw [if_pos (by omega), if_pos t]; congr 1; omega
      · rw [if_neg (by omega), if_neg t]
    rw [if_neg d3, if_neg d3]
  · rw [if_neg H, if_neg H]
end Go.Proofs.Ytimejdhglmajdaa.F
end

section
namespace Go.Proofs.Ytimejdhglmajdaa.F
open Go.RowKit Go.Proofs.YtimejdhglmajdaaW.PrintWords Go.Proofs.YtimejdhglmajdaaW.PrintLast Go.Proofs.YtimejdhglmajdaaW.PrintMore
set_option linter.unusedVariables false
set_option linter.unusedSimpArgs false
theorem mn_min (a b : Int) : mn a b = min a b := by unfold mn; omega
theorem nb_facts {w h c d : Int} (H : 0 ≤ nb w h c d) : icell w h c = true ∧ icell w h (nb w h c d) = true ∧ 0 ≤ d ∧ d ≤ 3 := by
  unfold nb at H ⊢
  by_cases hc : icell w h c = true
  · have G := icell_gok hc
    have b := gok_iff.1 G
    have hm := icell_mul hc
    obtain ⟨_, _, _, y0, y1, x0, x1, hq⟩ := div_facts G hm
    rw [if_pos hc] at H ⊢
    have m1 : w * (c / w) ≤ w * (h - 1) := Int.mul_le_mul_of_nonneg_left (by omega) (by omega)
    have m2 : w * (h - 1) = w * h - w := by rw [Int.mul_sub, Int.mul_one]
    have ce : cells w h = w * h := by unfold cells; rw [if_pos G]
    refine ⟨hc, ?_, ?_⟩
    · rw [icell_iff, ce]
      by_cases d0 : d = 0
      · subst d0
        by_cases t : c / w > 0
        · have m3 : w * 1 ≤ w * (c / w) := Int.mul_le_mul_of_nonneg_left (by omega) (by omega)
          simp [t]; omega
        · simp [t] at H
      by_cases d1 : d = 1
      · subst d1
        by_cases t : c % w < w - 1
        · simp [t]; omega
        · simp [t] at H
      by_cases d2 : d = 2
      · subst d2
        by_cases t : c / w < h - 1
        · have m4 : w * (c / w + 1) ≤ w * (h - 1) := Int.mul_le_mul_of_nonneg_left (by omega) (by omega)
          rw [Int.mul_add, Int.mul_one] at m4
          simp [t]; omega
        · simp [t] at H
      by_cases d3 : d = 3
      · subst d3
        by_cases t : c % w > 0
        · simp [t]; omega
        · simp [t] at H
      simp [d0, d1, d2, d3] at H
    · by_cases d0 : d = 0
      · omega
      by_cases d1 : d = 1
      · omega
      by_cases d2 : d = 2
      · omega
      by_cases d3 : d = 3
      · omega
      simp [d0, d1, d2, d3] at H
  · rw [if_neg hc] at H; omega
def gp (w h c d : Int) : Int :=
  if nb w h c d < 0 then -1 else if d = 1 ∨ d = 3 then min c (nb w h c d) / w * (w - 1) + min c (nb w h c d) % w else (w - 1) * h + min c (nb w h c d)
theorem gp_neg {w h c d : Int} (H : nb w h c d < 0) : gp w h c d = -1 := by unfold gp; rw [if_pos H]
theorem min_facts {w h c d : Int} (H : 0 ≤ nb w h c d) : 0 ≤ min c (nb w h c d) ∧ min c (nb w h c d) < w * h ∧ gok w h = true := by
  obtain ⟨h1, h2, _, _⟩ := nb_facts H
  have a := icell_mul h1
  have b := icell_mul h2
  exact ⟨by omega, by omega, icell_gok h1⟩
theorem impl_GapAt_eq {k : Nat} (hk : 3 ≤ k) (w h c d : Int) : impl_GapAt.f k w h c d = some (gp w h c d) := by
  unfold impl_GapAt.f gp
  rw [impl_Neighbor_eq hk, Option.bind_some]
  by_cases H : nb w h c d < 0
  · rw [if_pos H, if_pos H]
  · have H' : 0 ≤ nb w h c d := by omega
    obtain ⟨m0, m1, G⟩ := min_facts H'
    have b := gok_iff.1 G
    have hm := gok_mul G
    rw [if_neg H, if_neg H, mn_min]
    obtain ⟨e1, e2, e3, y0, y1, x0, x1, hq⟩ := div_facts G ⟨m0, m1⟩
    have l1 : min c (nb w h c d) / w * (w - 1) ≤ 3 * 3 := Int.mul_le_mul (by omega) (by omega) (by omega) (by omega)
    have l0 : 0 ≤ min c (nb w h c d) / w * (w - 1) := Int.mul_nonneg y0 (by omega)
    have t1 : wrap64 (wrap64 (wrap64 (Int.tdiv (min c (nb w h c d)) w) * wrap64 (w - 1)) + Int.tmod (min c (nb w h c d)) w) = min c (nb w h c d) / w * (w - 1) + min c (nb w h c d) % w := by
      rw [e1, e2, e3, w64 (x := w - 1) (by omega) (by omega), w64 (x := _ * _) (by omega) (by omega), w64 (by omega) (by omega)]
    have t2 : wrap64 (wrap64 (wrap64 (w - 1) * h) + min c (nb w h c d)) = (w - 1) * h + min c (nb w h c d) := by
      rw [w64 (x := w - 1) (by omega) (by omega), w64 (x := (w - 1) * h) (by omega) (by omega), w64 (by omega) (by omega)]
    rw [t1, t2]
    by_cases d1 : d = 1
    · simp [d1]; omega
    · by_cases d3 : d = 3
      · simp [d3]; omega
      · simp [d1, d3]
theorem spec_GapAt_eq {k : Nat} (hk : 1 ≤ k) (w h c d : Int) : spec_GapAt.f k w h c d = some (gp w h c d) := by
  unfold spec_GapAt.f gp
  rw [spec_Neighbor_eq hk, Option.bind_some]
  by_cases H : nb w h c d < 0
  · rw [if_pos H, if_pos H]
  · have H' : 0 ≤ nb w h c d := by omega
    obtain ⟨m0, m1, G⟩ := min_facts H'
    have b := gok_iff.1 G
    have hm := gok_mul G
    rw [if_neg H, if_neg H, mn_min]
    obtain ⟨e1, e2, e3, y0, y1, x0, x1, hq⟩ := div_facts G ⟨m0, m1⟩
    have l1 : min c (nb w h c d) / w * (w - 1) ≤ 3 * 3 := Int.mul_le_mul (by omega) (by omega) (by omega) (by omega)
    have l0 : 0 ≤ min c (nb w h c d) / w * (w - 1) := Int.mul_nonneg y0 (by omega)
    have t1 : wrap64 (wrap64 (wrap64 (Int.tdiv (min c (nb w h c d)) w) * wrap64 (w - 1)) + Int.tmod (min c (nb w h c d)) w) = min c (nb w h c d) / w * (w - 1) + min c (nb w h c d) % w := by
      rw [e1, e2, e3, w64 (x := w - 1) (by omega) (by omega), w64 (x := _ * _) (by omega) (by omega), w64 (by omega) (by omega)]
    have t2 : wrap64 (wrap64 (h * wrap64 (w - 1)) + min c (nb w h c d)) = (w - 1) * h + min c (nb w h c d) := by
      rw [w64 (x := w - 1) (by omega) (by omega), Int.mul_comm h, w64 (x := (w - 1) * h) (by omega) (by omega), w64 (by omega) (by omega)]
    simp only [spec_l02East.f, Option.bind_some]
    rw [t1, t2]
    by_cases d1 : d = 1
    · simp [d1]; omega
    · by_cases d3 : d = 3
      · simp [d3]; omega
      · simp [d1, d3]
def mok (w h o : Int) : Bool := gok w h && decide (0 ≤ o ∧ o < 2 ^ (gaps w h).toNat)
theorem mok_iff {w h o : Int} : mok w h o = true ↔ gok w h = true ∧ 0 ≤ o ∧ o < 2 ^ (gaps w h).toNat := by simp [mok]
theorem gpow (w h : Int) : (2 : Int) ^ (gaps w h).toNat ≤ 16777216 ∧ (1 : Int) ≤ 2 ^ (gaps w h).toNat := by
  have b := gaps_bd w h
  have p : (2 : Nat) ^ (gaps w h).toNat ≤ 2 ^ 24 := Nat.pow_le_pow_right (by decide) (by omega)
  have q : 0 < (2 : Nat) ^ (gaps w h).toNat := Nat.two_pow_pos _
  have e : ((2 : Int) ^ (gaps w h).toNat) = ((2 ^ (gaps w h).toNat : Nat) : Int) := by simp
  omega
theorem mok_small {w h o : Int} (H : mok w h o = true) : 0 ≤ o ∧ o < 16777216 := by
  have := mok_iff.1 H
  have := gpow w h
  omega
theorem shl_gaps (w h : Int) : shl .i64 1 (gaps w h) = 2 ^ (gaps w h).toNat := by
  have b := gaps_bd w h
  have := shl_one (g := (gaps w h).toNat) (by omega)
  rw [show (((gaps w h).toNat : Nat) : Int) = gaps w h from Int.toNat_of_nonneg b.1] at this
  rw [this]
  simp
theorem impl_MazeOk_eq (w h o : Int) : impl_MazeOk.f w h o = some (mok w h o) := by
  unfold impl_MazeOk.f mok
  have b := gaps_bd w h
  rw [impl_GridOk_eq, impl_CountGaps_eq]
  simp only [Option.bind_some, shl_gaps]
  by_cases G : gok w h = true
  · simp only [G, if_true, Bool.true_and]
    by_cases h0 : o ≥ 0
    · rw [if_pos h0, if_pos b.1]
      simp; omega
    · rw [if_neg h0]; simp; omega
  · simp [G]
theorem spec_MazeOk_eq (w h o : Int) : spec_MazeOk.f w h o = some (mok w h o) := by
  unfold spec_MazeOk.f mok
  have b := gaps_bd w h
  have p := gpow w h
  rw [spec_GridOk_eq, spec_CountGaps_eq]
  simp only [Option.bind_some, shl_gaps, w64 (x := (2 : Int) ^ (gaps w h).toNat - 1) (by omega) (by omega)]
  by_cases G : gok w h = true
  · simp only [Option.bind_some, G, if_true, Bool.true_and, spec_l01In_eq, if_pos b.1]
    congr 2
    exact propext ⟨fun h => ⟨h.1, by omega⟩, fun h => ⟨h.1, by omega⟩⟩
  · simp [G]
theorem impl_isOpen_eq {w h o : Int} (h0 : 0 ≤ o) (h1 : o < 9223372036854775808) (g : Int) : impl_isOpen.f w h o g = some (decide (0 ≤ g) && opn o g) := by
  unfold impl_isOpen.f
  by_cases hg : g ≥ 0
  · rw [if_pos hg, if_pos (by omega), bit_test h0 h1 (by omega)]
    simp; omega
  · rw [if_neg hg]
    simp; omega
theorem spec_l03Bit_eq {o : Int} (h0 : 0 ≤ o) (h1 : o < 9223372036854775808) {g : Int} (hg : 0 ≤ g) : spec_l03Bit.f o g = some (opn o g) := by
  unfold spec_l03Bit.f
  rw [if_pos hg, bit_test h0 h1 hg]
def psg (w h o g : Int) : Bool := mok w h o && igap w h g && opn o g
theorem spec_IsPassage_eq (w h o g : Int) : spec_IsPassage.f w h o g = some (psg w h o g) := by
  unfold spec_IsPassage.f psg
  rw [spec_MazeOk_eq, spec_CountGaps_eq]
  by_cases M : mok w h o = true
  · have s := mok_small M
    simp only [Option.bind_some, M, if_true, Bool.true_and, spec_l01In_eq, in_gaps]
    by_cases g1 : igap w h g = true
    · rw [if_pos g1, spec_l03Bit_eq s.1 (by omega) (igap_iff.1 g1).1]
      simp [g1]
    · rw [if_neg g1]; simp [g1]
  · simp [M]
theorem gp_range {w h c d : Int} (H : 0 ≤ nb w h c d) : igap w h (gp w h c d) = true := by
  obtain ⟨h1, h2, d0, d3⟩ := nb_facts H
  have G := icell_gok h1
  have a := icell_mul h1
  rw [igap_iff]
  unfold gp gaps
  rw [if_neg (by omega), if_pos G]
  have hd : d = 0 ∨ d = 1 ∨ d = 2 ∨ d = 3 := by omega
  revert H
  unfold nb
  rw [if_pos h1]
  rcases gok_wide G with rfl | rfl | rfl | rfl <;> rcases gok_high G with rfl | rfl | rfl | rfl <;> rcases hd with rfl | rfl | rfl | rfl <;> simp <;> split <;> omega
def st (w h o c d : Int) : Int := if psg w h o (gp w h c d) then nb w h c d else -1
theorem st_nb {w h o c d : Int} (H : 0 ≤ st w h o c d) : st w h o c d = nb w h c d ∧ psg w h o (gp w h c d) = true := by
  unfold st at H ⊢
  by_cases p : psg w h o (gp w h c d) = true
  · rw [if_pos p]; exact ⟨rfl, p⟩
  · rw [if_neg p] at H; omega
theorem impl_Step_eq {k : Nat} (hk : 3 ≤ k) (w h o c d : Int) : impl_Step.f k w h o c d = some (st w h o c d) := by
  unfold impl_Step.f st psg
  rw [impl_MazeOk_eq]
  by_cases M : mok w h o = true
  · have s := mok_small M
    simp only [Option.bind_some, M, if_true, Bool.true_and, impl_GapAt_eq hk, impl_isOpen_eq s.1 (show o < 9223372036854775808 by omega), impl_Neighbor_eq hk]
    by_cases H : 0 ≤ nb w h c d
    · have r := gp_range H
      have := (igap_iff.1 r).1
      simp [r, this]
      split <;> rfl
    · rw [gp_neg (by omega)]
      simp [igap]
  · simp [M]
theorem spec_Step_eq {k : Nat} (hk : 1 ≤ k) (w h o c d : Int) : spec_Step.f k w h o c d = some (st w h o c d) := by
  unfold spec_Step.f st
  rw [spec_MazeOk_eq]
  by_cases M : mok w h o = true
  · simp only [Option.bind_some, M, if_true, spec_GapAt_eq hk, spec_IsPassage_eq, spec_Neighbor_eq hk]
    split <;> rfl
  · simp [M, psg]
theorem st_facts {w h o c d : Int} (H : 0 ≤ st w h o c d) : mok w h o = true ∧ icell w h c = true ∧ icell w h (st w h o c d) = true ∧ 0 ≤ d ∧ d ≤ 3 := by
  obtain ⟨e, p⟩ := st_nb H
  rw [e] at H ⊢
  obtain ⟨h1, h2, h3, h4⟩ := nb_facts H
  unfold psg at p
  simp at p
  exact ⟨p.1.1, h1, h2, h3, h4⟩
end Go.Proofs.Ytimejdhglmajdaa.F
end

section
namespace Go.Proofs.Ytimejdhglmajdaa.F
open Go.RowKit Go.Proofs.YtimejdhglmajdaaW.PrintWords Go.Proofs.YtimejdhglmajdaaW.PrintLast Go.Proofs.YtimejdhglmajdaaW.PrintMore
set_option linter.unusedVariables false
set_option linter.unusedSimpArgs false
def toGate (x : SlaGate) : SGate := ⟨x.f0, x.f1⟩
theorem laws_toGateS_eq {k : Nat} {l : List SlaGate} (hl : l.length ≤ 1048576) (hk : l.length + 1 ≤ k) : laws_toGateS.f k l = some (l.map toGate) := by
  unfold laws_toGateS.f
  rw [if_pos (by omega), if_pos (by omega)]
  refine set_loop (c := 0) zlaGate (F := fun k acc i => laws_toGateS.l0 k l acc i) ?_ ?_ _ (by simp) (by omega)
  · intro k acc i _ hi ha
    simp only [laws_toGateS.l0, laws_toGate.f, Option.bind_some]
    rw [if_pos (by omega), if_pos (by omega), if_pos (by omega), w64_succ hi (by omega)]
    rfl
  · intro k acc _
    simp only [laws_toGateS.l0]
    rw [if_neg (by omega)]
theorem laws_eqGateS_refl {k : Nat} {l : List SGate} (hl : l.length ≤ 9223372036854775806) (hk : l.length + 1 ≤ k) : laws_eqGateS.f k l l = some true := by
  unfold laws_eqGateS.f
  rw [if_pos rfl]
  have := all_loop (c := 0) zGate (F := fun k i => laws_eqGateS.l0 k l l i) (p := fun _ => true) (b := true)
    (fun k i _ hi => by
      simp only [laws_eqGateS.l0, laws_eqGate.f]
      rw [if_pos (by omega), if_pos (by omega), if_pos (by omega), w64_succ hi (by omega)]
      simp)
    (fun k _ => by simp only [laws_eqGateS.l0]; rw [if_neg (by omega)]) hk
  rw [this]
  congr 1
  simp only [Bool.and_true, List.all_eq_true, implies_true]
theorem sz_Gate {l : List SlaGate} {a : Int} (h0 : 0 ≤ a) (h1 : a ≤ 1048576) (hl : l.length ≤ 9223372036854775807) : laws_szGateS.f l a = some (if l.length ≤ a then a - (l.length : Int) else -1) := by
  unfold laws_szGateS.f
  rw [w64 (by omega) (by omega)]
  by_cases h : l.length ≤ a
  · rw [if_neg (by omega), if_pos h]
  · rw [if_pos (by omega), if_neg h]
theorem impl_IsPassage_eq (w h o g : Int) : impl_IsPassage.f w h o g = some (psg w h o g) := by
  unfold impl_IsPassage.f psg
  rw [impl_MazeOk_eq, Option.bind_some]
  cases hm : mok w h o with
  | false => simp
  | true =>
    have hb := mok_small hm
    rw [if_pos rfl, impl_isGap_eq, Option.bind_some]
    cases hg : igap w h g with
    | false => simp
    | true =>
      have g0 := (igap_iff.1 hg).1
      rw [if_pos rfl, impl_isOpen_eq hb.1 (by omega), decide_eq_true g0]
      simp
theorem shl_small {p : Int} (h1 : 1 ≤ p) (h6 : p ≤ 6) : 2 ≤ shl .i64 1 p ∧ shl .i64 1 p ≤ 64 := by
  have : p = 1 ∨ p = 2 ∨ p = 3 ∨ p = 4 ∨ p = 5 ∨ p = 6 := by omega
  rcases this with rfl | rfl | rfl | rfl | rfl | rfl <;> decide +kernel
def tgp (w h o p : Int) (gs : List SGate) (i : Nat) : Bool :=
  psg w h o (rd_Gate gs i).f0 && (decide (i = 0) || decide ((rd_Gate gs ((i : Int) - 1)).f0 < (rd_Gate gs i).f0)) && decide (0 ≤ (rd_Gate gs i).f1 ∧ (rd_Gate gs i).f1 < shl .i64 1 p)
def tmok (w h o p : Int) (gs : List SGate) : Bool := mok w h o && decide (1 ≤ p ∧ p ≤ 6) && decide (gs.length ≤ 8) && (List.range gs.length).all (tgp w h o p gs)
theorem range'_cut {i n : Nat} (h : i < n) : List.range' i (n - i) = i :: List.range' (i + 1) (n - (i + 1)) := by
  rw [show n - i = (n - (i + 1)) + 1 by omega, List.range'_succ]
theorem impl_timed_l0 {w h o p : Int} {gs : List SGate} (hp : 0 ≤ p) : ∀ (n i : Nat), gs.length < n + i → i ≤ gs.length → impl_TimedOk.l0 w h o p gs n i = some ((List.range' i (gs.length - i)).all (tgp w h o p gs))
  | 0, i, h1, h2 => by omega
  | n + 1, i, h1, h2 => by
    unfold impl_TimedOk.l0
    by_cases hi : i < gs.length
    · rw [if_pos hi, impl_IsPassage_eq, Option.bind_some, range'_cut hi, List.all_cons]
      have ih := impl_timed_l0 (w := w) (h := h) (o := o) (gs := gs) hp n (i + 1) (by omega) (by omega)
      unfold tgp
      by_cases c0 : psg w h o (rd_Gate gs i).f0 = true
      · rw [if_pos c0, c0, Bool.true_and]
        by_cases c1 : 0 < i ∧ (rd_Gate gs ((i : Int) - 1)).f0 ≥ (rd_Gate gs i).f0
        · rw [if_pos c1]
          have e1 : decide (i = 0) = false := decide_eq_false (by omega)
          have e2 : decide ((rd_Gate gs ((i : Int) - 1)).f0 < (rd_Gate gs i).f0) = false := decide_eq_false (by omega)
          rw [e1, e2]; rfl
        · rw [if_neg c1]
          have e1 : (decide (i = 0) || decide ((rd_Gate gs ((i : Int) - 1)).f0 < (rd_Gate gs i).f0)) = true := by
            by_cases z : i = 0
            · simp [z]
            · rw [decide_eq_true (show (rd_Gate gs ((i : Int) - 1)).f0 < (rd_Gate gs i).f0 by omega), Bool.or_true]
          rw [e1, Bool.true_and]
          by_cases c2 : (rd_Gate gs i).f1 < 0
          · rw [if_pos c2, decide_eq_false (by omega)]; rfl
          · rw [if_neg c2, if_pos hp]
            by_cases c3 : (rd_Gate gs i).f1 ≥ shl .i64 1 p
            · rw [if_pos c3, decide_eq_false (by omega)]; rfl
            · rw [if_neg c3, decide_eq_true (by omega), Bool.true_and, ih]
              rfl
      · rw [if_neg c0]; simp [c0]
    · rw [if_neg hi, show gs.length - i = 0 by omega]
      rfl
theorem impl_TimedOk_eq {k : Nat} (hk : 20 ≤ k) (w h o p : Int) (gs : List SGate) : impl_TimedOk.f k w h o p gs = some (tmok w h o p gs) := by
  unfold impl_TimedOk.f tmok
  rw [impl_MazeOk_eq, Option.bind_some]
  by_cases M : mok w h o = true
  · rw [if_pos M, M, Bool.true_and]
    by_cases c1 : p < 1
    · rw [if_pos c1, decide_eq_false (by omega)]; simp
    · rw [if_neg c1]
      by_cases c2 : p > 6
      · rw [if_pos c2, decide_eq_false (by omega)]; simp
      · rw [if_neg c2, decide_eq_true (show 1 ≤ p ∧ p ≤ 6 by omega), Bool.true_and]
        by_cases c3 : (gs.length : Int) > 8
        · rw [if_pos c3, decide_eq_false (by omega)]; simp
        · rw [if_neg c3, decide_eq_true (show gs.length ≤ 8 by omega), Bool.true_and, impl_timed_l0 (by omega) 9 0 (by omega) (by omega), List.range_eq_range']
          rfl
  · rw [if_neg M]; simp [M]
theorem spec_timed_l0 {w h o p : Int} {gs : List SGate} (hp : 1 ≤ p) (hp6 : p ≤ 6) : ∀ (n i : Nat), gs.length < n + i → i ≤ gs.length → spec_TimedOk.l0 w h o p gs n i = some ((List.range' i (gs.length - i)).all (tgp w h o p gs))
  | 0, i, h1, h2 => by omega
  | n + 1, i, h1, h2 => by
    unfold spec_TimedOk.l0
    have sh := shl_small hp hp6
    by_cases hi : i < gs.length
    · rw [if_pos hi, spec_IsPassage_eq, Option.bind_some, range'_cut hi, List.all_cons]
      have ih := spec_timed_l0 (w := w) (h := h) (o := o) (gs := gs) hp hp6 n (i + 1) (by omega) (by omega)
      unfold tgp
      by_cases c0 : psg w h o (rd_Gate gs i).f0 = true
      · rw [if_pos c0, c0, Bool.true_and]
        by_cases c1 : 0 < i ∧ (rd_Gate gs i).f0 ≤ (rd_Gate gs ((i : Int) - 1)).f0
        · rw [if_pos c1]
          have e1 : decide (i = 0) = false := decide_eq_false (by omega)
          have e2 : decide ((rd_Gate gs ((i : Int) - 1)).f0 < (rd_Gate gs i).f0) = false := decide_eq_false (by omega)
          rw [e1, e2]; rfl
        · rw [if_neg c1]
          have e1 : (decide (i = 0) || decide ((rd_Gate gs ((i : Int) - 1)).f0 < (rd_Gate gs i).f0)) = true := by
            by_cases z : i = 0
            · simp [z]
            · rw [decide_eq_true (show (rd_Gate gs ((i : Int) - 1)).f0 < (rd_Gate gs i).f0 by omega), Bool.or_true]
          rw [e1, Bool.true_and, if_pos (by omega), spec_l01In_eq, Option.bind_some, w64 (x := shl .i64 1 p - 1) (by omega) (by omega)]
          by_cases c2 : 0 ≤ (rd_Gate gs i).f1 ∧ (rd_Gate gs i).f1 ≤ shl .i64 1 p - 1
          · rw [decide_eq_true c2, decide_eq_true (show 0 ≤ (rd_Gate gs i).f1 ∧ (rd_Gate gs i).f1 < shl .i64 1 p by omega), if_pos rfl, Bool.true_and, ih]
            rfl
          · rw [decide_eq_false c2, decide_eq_false (show ¬ (0 ≤ (rd_Gate gs i).f1 ∧ (rd_Gate gs i).f1 < shl .i64 1 p) by omega), if_neg (by decide)]; rfl
      · rw [if_neg c0]; simp [c0]
    · rw [if_neg hi, show gs.length - i = 0 by omega]
      rfl
theorem spec_TimedOk_eq {k : Nat} (hk : 20 ≤ k) (w h o p : Int) (gs : List SGate) : spec_TimedOk.f k w h o p gs = some (tmok w h o p gs) := by
  unfold spec_TimedOk.f tmok
  rw [spec_MazeOk_eq, Option.bind_some]
  by_cases M : mok w h o = true
  · rw [if_pos M, M, Bool.true_and, spec_l01In_eq, Option.bind_some]
    by_cases c2 : 1 ≤ p ∧ p ≤ 6
    · rw [decide_eq_true c2, if_pos rfl, Bool.true_and]
      by_cases c3 : (gs.length : Int) > 8
      · rw [if_pos c3, decide_eq_false (by omega)]; simp
      · rw [if_neg c3, if_pos (by omega), decide_eq_true (show gs.length ≤ 8 by omega), Bool.true_and, spec_timed_l0 c2.1 c2.2 9 0 (by omega) (by omega), List.range_eq_range']
        rfl
    · rw [decide_eq_false c2, if_neg (by decide)]; simp
  · rw [if_neg M]; simp [M]
end Go.Proofs.Ytimejdhglmajdaa.F
end

section
namespace Go.Proofs.Ytimejdhglmajdaa.F
open Go.RowKit Go.Proofs.YtimejdhglmajdaaW.PrintWords Go.Proofs.YtimejdhglmajdaaW.PrintLast Go.Proofs.YtimejdhglmajdaaW.PrintMore
set_option linter.unusedVariables false
set_option linter.unusedSimpArgs false
def flip (o g : Int) : Int := ((o.toNat ^^^ 2 ^ g.toNat : Nat) : Int)
def setb (o g : Int) (b : Bool) : Int := if b then ((o.toNat ||| 2 ^ g.toNat : Nat) : Int) else ((o.toNat ^^^ (o.toNat &&& 2 ^ g.toNat) : Nat) : Int)
theorem testBit_two_pow' (g i : Nat) : (2 ^ g).testBit i = decide (g = i) := by rw [Nat.testBit_two_pow]
theorem opn_flip {o g i : Int} (hg : 0 ≤ g) (hi : 0 ≤ i) : opn (flip o g) i = if i = g then !opn o i else opn o i := by
  unfold opn flip
  rw [Int.toNat_natCast, Nat.testBit_xor, testBit_two_pow']
  by_cases h : i = g
  · subst h; simp
  · rw [if_neg h]
    have : ¬ g.toNat = i.toNat := by omega
    simp [this]
theorem opn_setb {o g i : Int} (b : Bool) (hg : 0 ≤ g) (hi : 0 ≤ i) : opn (setb o g b) i = if i = g then b else opn o i := by
  unfold opn setb
  cases b with
  | true =>
    rw [if_pos rfl, Int.toNat_natCast, Nat.testBit_or, testBit_two_pow']
    by_cases h : i = g
    · subst h; simp
    · rw [if_neg h]
      have : ¬ g.toNat = i.toNat := by omega
      simp [this]
  | false =>
    rw [if_neg Bool.false_ne_true, Int.toNat_natCast, Nat.testBit_xor, Nat.testBit_and, testBit_two_pow']
    by_cases h : i = g
    · subst h; simp
    · rw [if_neg h]
      have : ¬ g.toNat = i.toNat := by omega
      simp [this]
theorem setb_lt {o g : Int} {n : Nat} (b : Bool) (ho : 0 ≤ o) (h1 : o < 2 ^ n) (hg : 0 ≤ g) (h2 : g < n) : 0 ≤ setb o g b ∧ setb o g b < 2 ^ n := by
  unfold setb
  have e : ((2 : Int) ^ n) = ((2 ^ n : Nat) : Int) := by simp
  rw [e] at h1 ⊢
  have ha : o.toNat < 2 ^ n := by omega
  have hp : 2 ^ g.toNat < 2 ^ n := Nat.pow_lt_pow_right (by decide) (by omega)
  have := Nat.or_lt_two_pow ha hp
  have := Nat.xor_lt_two_pow (n := n) (x := o.toNat) (y := o.toNat &&& 2 ^ g.toNat) ha (Nat.lt_of_le_of_lt Nat.and_le_left ha)
  split <;> omega
theorem eq_of_opn {a b : Int} (ha : 0 ≤ a) (hb : 0 ≤ b) (h : ∀ i : Int, 0 ≤ i → opn a i = opn b i) : a = b := by
  have : a.toNat = b.toNat := Nat.eq_of_testBit_eq fun i => by
    have := h (i : Int) (by omega)
    simpa [opn] using this
  omega
theorem setb_flip {o g : Int} (ho : 0 ≤ o) (hg : 0 ≤ g) : setb o g (!opn o g) = flip o g := by
  refine eq_of_opn (by unfold setb; split <;> omega) (by unfold flip; omega) fun i hi => ?_
  rw [opn_setb _ hg hi, opn_flip hg hi]
  by_cases h : i = g
  · subst h; simp
  · simp [h]
theorem impl_with_eq {o g : Int} (w h : Int) (b : Bool) (ho : 0 ≤ o) (h1 : o < 2 ^ 62) (hg : 0 ≤ g) (h2 : g < 62) : impl_with.f w h o g b = some (w, h, setb o g b) := by
  unfold impl_with.f
  obtain ⟨a, rfl⟩ := Int.eq_ofNat_of_zero_le ho
  obtain ⟨n, rfl⟩ := Int.eq_ofNat_of_zero_le hg
  have ha : a < 2 ^ 62 := by omega
  have hp : (2 : Nat) ^ n < 2 ^ 62 := Nat.pow_lt_pow_right (by decide) (by omega)
  have ha' : a < 2 ^ 63 := by omega
  have hp' : (2 : Nat) ^ n < 2 ^ 63 := by omega
  rw [if_pos (by omega)]

  rw [shl_one (by omega), bits_andNot_i ha' hp', bits_or_i (Nat.xor_lt_two_pow ha' (Nat.lt_of_le_of_lt Nat.and_le_left ha')) hp']
  unfold setb
  simp only [Int.toNat_natCast]
  cases b with
  | true =>
    rw [if_pos rfl, if_pos rfl]
    congr 3
    have : (a ^^^ a &&& 2 ^ n) ||| 2 ^ n = a ||| 2 ^ n := by
      apply Nat.eq_of_testBit_eq
      intro i
      simp only [Nat.testBit_or, Nat.testBit_xor, Nat.testBit_and]
      cases a.testBit i <;> cases (2 ^ n).testBit i <;> rfl
    rw [this]
  | false =>
    rw [if_neg Bool.false_ne_true, if_neg Bool.false_ne_true]
theorem xor_shl_eq {o g : Int} (ho : 0 ≤ o) (h1 : o < 2 ^ 62) (hg : 0 ≤ g) (h2 : g < 62) : Go.bits .xor .i64 o (shl .i64 1 g) = flip o g := by
  obtain ⟨a, rfl⟩ := Int.eq_ofNat_of_zero_le ho
  obtain ⟨n, rfl⟩ := Int.eq_ofNat_of_zero_le hg
  have hp : (2 : Nat) ^ n < 2 ^ 62 := Nat.pow_lt_pow_right (by decide) (by omega)

  rw [shl_one (by omega), bits_xor_i (by omega) (by omega)]
  rfl
theorem mok_setb {w h o g : Int} (b : Bool) (M : mok w h o = true) (hg : igap w h g = true) : mok w h (setb o g b) = true := by
  rw [mok_iff] at M ⊢
  have a := igap_iff.1 hg
  have := setb_lt (n := (gaps w h).toNat) b M.2.1 M.2.2 a.1 (by omega)
  exact ⟨M.1, this.1, this.2⟩
end Go.Proofs.Ytimejdhglmajdaa.F
end

section
namespace Go.Proofs.Ytimejdhglmajdaa.F
open Go.RowKit Go.Proofs.YtimejdhglmajdaaW.PrintWords Go.Proofs.YtimejdhglmajdaaW.PrintLast Go.Proofs.YtimejdhglmajdaaW.PrintMore
set_option linter.unusedVariables false
set_option linter.unusedSimpArgs false
theorem impl_isIn_eq (w h o : Int) (l : List Int) : impl_isIn.f w h o l = some (mok w h o && l.all (icell w h)) := by
  unfold impl_isIn.f
  rw [impl_MazeOk_eq, Option.bind_some, allO_of (p := icell w h) (fun x _ => impl_isCell_eq w h x)]
  cases mok w h o <;> simp
theorem spec_l04Has_eq (w h o c : Int) : spec_l04Has.f w h o c = some (mok w h o && icell w h c) := by
  unfold spec_l04Has.f
  rw [spec_MazeOk_eq, spec_CountCells_eq]
  simp only [Option.bind_some, spec_l01In_eq, in_cells]
  cases mok w h o <;> simp
end Go.Proofs.Ytimejdhglmajdaa.F
end

section
namespace Go.Proofs.Ytimejdhglmajdaa.F
open Go.RowKit Go.Proofs.YtimejdhglmajdaaW.PrintWords Go.Proofs.YtimejdhglmajdaaW.PrintLast Go.Proofs.YtimejdhglmajdaaW.PrintMore
set_option linter.unusedVariables false
set_option linter.unusedSimpArgs false
def stN (w h : Int) : Nat := (cells w h).toNat
def ways (w h o c : Int) : List Int := ([0, 1, 2, 3] : List Int).filter fun d => decide (0 ≤ st w h o c d)
theorem ways_length (w h o c : Int) : (ways w h o c).length ≤ 4 := List.length_filter_le _ _
theorem impl_WaysFrom_eq {k : Nat} (hk : 8 ≤ k) (w h o c : Int) : impl_WaysFrom.f k w h o c = some (ways w h o c) := by
  unfold impl_WaysFrom.f
  have := fold_loop (n := 4) (c := 3) (F := fun k (acc : List Int) i => impl_WaysFrom.l0 k c acc i w h o) (step := fun acc i => if 0 ≤ st w h o c (i : Int) then acc ++ [(i : Int)] else acc) (fin := fun acc : List Int => acc) (I := fun acc i => acc.length ≤ i)
    (fun k acc i hk hi ha => by
      simp only [impl_WaysFrom.l0]
      rw [if_pos (by omega), impl_Step_eq (by omega), Option.bind_some, w64 (x := (i : Int) + 1) (by omega) (by omega)]
      by_cases hd : 0 ≤ st w h o c (i : Int)
      · rw [if_pos hd, if_pos hd, if_pos (by omega)]
      · rw [if_neg hd, if_neg hd])
    (fun acc i _ ha => by
      show (if _ then _ else _ : List Int).length ≤ i + 1
      split
      · simp only [List.length_append, List.length_singleton]; omega
      · omega)
    (fun k acc _ _ => by
      simp only [impl_WaysFrom.l0]
      rw [if_neg (by decide)]) 4 0 k [] (by decide) (by omega) (Nat.le_refl _)
  refine this.trans ?_
  congr 1
  unfold ways
  simp only [List.range'_succ, List.range'_zero, List.foldl_cons, List.foldl_nil, List.filter_cons, List.filter_nil, Nat.zero_add, Int.natCast_add, decide_eq_true_eq]
  show (if 0 ≤ st w h o c (3 : Int) then _ else _) = _
  by_cases h0 : 0 ≤ st w h o c 0 <;> by_cases h1 : 0 ≤ st w h o c 1 <;> by_cases h2 : 0 ≤ st w h o c 2 <;> by_cases h3 : 0 ≤ st w h o c 3 <;> simp [h0, h1, h2, h3]
theorem ways_mem {w h o c d : Int} (H : d ∈ ways w h o c) : 0 ≤ st w h o c d := by
  unfold ways at H
  exact of_decide_eq_true (List.mem_filter.1 H).2
end Go.Proofs.Ytimejdhglmajdaa.F
end

section
namespace Go.Proofs.Ytimejdhglmajdaa.F
open Go.RowKit Go.Proofs.YtimejdhglmajdaaW.PrintWords Go.Proofs.YtimejdhglmajdaaW.PrintLast Go.Proofs.YtimejdhglmajdaaW.PrintMore
set_option linter.unusedVariables false
set_option linter.unusedSimpArgs false
theorem gaps_small {w h g : Int} (hg : igap w h g = true) : 0 ≤ g ∧ g < 24 := by
  have := igap_iff.1 hg
  have := gaps_bd w h
  omega
end Go.Proofs.Ytimejdhglmajdaa.F
end

section
namespace Go.Proofs.Ytimejdhglmajdaa.F
open Go.RowKit Go.Proofs.YtimejdhglmajdaaW.PrintWords Go.Proofs.YtimejdhglmajdaaW.PrintLast Go.Proofs.YtimejdhglmajdaaW.PrintMore
set_option linter.unusedVariables false
set_option linter.unusedSimpArgs false
theorem bit_zero {o g : Int} (ho : 0 ≤ o) (ho2 : o < 9223372036854775808) (hg : 0 ≤ g) : Go.bits .and .i64 (shr .i64 o g) 1 = 0 ↔ ¬ opn o g = true := by
  obtain ⟨a, rfl⟩ := Int.eq_ofNat_of_zero_le ho
  obtain ⟨n, rfl⟩ := Int.eq_ofNat_of_zero_le hg
  have ha : a < 2 ^ 63 := by omega
  rw [shr_nat ha]
  have h1 : a >>> n < 2 ^ 63 := by rw [Nat.shiftRight_eq_div_pow]; exact Nat.lt_of_le_of_lt (Nat.div_le_self _ _) ha
  have := bits_and_i (a := a >>> n) (b := 1) h1 (by decide)
  rw [show ((1 : Nat) : Int) = 1 from rfl] at this
  rw [this]
  unfold opn
  simp only [Int.toNat_natCast, Nat.testBit, bne_iff_ne, ne_eq, Decidable.not_not]
  rw [Nat.and_comm]
  omega
def otAt (q : Int) (gs : List SGate) (o : Int) : Int := gs.foldl (fun o g => if opn g.f1 q = true then o else setb o g.f0 false) o
def gsok (w h : Int) (gs : List SGate) : Prop := ∀ g ∈ gs, igap w h g.f0 = true ∧ 0 ≤ g.f1 ∧ g.f1 < 64
theorem tmok_iff {w h o p : Int} {gs : List SGate} (H : tmok w h o p gs = true) : mok w h o = true ∧ 1 ≤ p ∧ p ≤ 6 ∧ gs.length ≤ 8 ∧ gsok w h gs := by
  unfold tmok at H
  simp only [Bool.and_eq_true, decide_eq_true_eq, List.all_eq_true] at H
  obtain ⟨⟨⟨M, p1, p6⟩, l8⟩, hall⟩ := H
  refine ⟨M, p1, p6, l8, fun g hg => ?_⟩
  obtain ⟨i, hi, rfl⟩ := List.getElem_of_mem hg
  have := hall i (by rw [List.mem_range]; exact hi)
  have e : rd_Gate gs (i : Int) = gs[i] := by show gs.getD i zGate = _; rw [List.getD_eq_getElem?_getD, List.getElem?_eq_getElem hi]; rfl
  unfold tgp at this
  rw [e] at this
  simp only [Bool.and_eq_true, decide_eq_true_eq] at this
  obtain ⟨⟨a, _⟩, b, c⟩ := this
  have s := shl_small p1 p6
  unfold psg at a
  simp only [Bool.and_eq_true] at a
  exact ⟨a.1.2, b, by omega⟩
theorem setb_false {o g : Int} (ho : 0 ≤ o) (hg : 0 ≤ g) (H : opn o g = false) : setb o g false = o := by
  refine eq_of_opn (by unfold setb; rw [if_neg (by decide)]; omega) ho fun i hi => ?_
  rw [opn_setb _ hg hi]
  by_cases e : i = g
  · rw [if_pos e, e, H]
  · rw [if_neg e]
theorem spec_SetGap_false {w h o g : Int} (M : mok w h o = true) (hg : igap w h g = true) {k : Nat} (hk : 1 ≤ k) : ∃ b, spec_SetGap.f k w h o g false = some (w, h, setb o g false, b) := by
  obtain ⟨m, rfl⟩ : ∃ m, k = m + 1 := ⟨k - 1, by omega⟩
  have s := mok_small M
  have gb := gaps_small hg
  unfold spec_SetGap.f
  rw [spec_MazeOk_eq, Option.bind_some, if_pos M, spec_CountGaps_eq, Option.bind_some, spec_l01In_eq, Option.bind_some]
  have e : decide (0 ≤ g ∧ g ≤ wrap64 (gaps w h - 1)) = true := by
    have a := igap_iff.1 hg
    have b := gaps_bd w h
    rw [w64 (by omega) (by omega)]
    simp; omega
  rw [e]
  simp only [spec_SetGap.j0, Bool.not_true, Bool.false_eq_true, if_false]
  rw [spec_l03Bit_eq s.1 (by omega) gb.1, Option.bind_some]
  cases ob : opn o g with
  | true =>
    rw [if_pos (by decide), if_pos gb.1, xor_shl_eq s.1 (by omega) gb.1 (by omega)]
    refine ⟨true, ?_⟩
    rw [← setb_flip s.1 gb.1, ob]
    rfl
  | false =>
    rw [if_neg (by decide), setb_false s.1 gb.1 ob]
    exact ⟨true, rfl⟩
theorem tmod_nat {m p : Int} (h0 : 0 ≤ m) (h1 : 1 ≤ p) : Int.tmod m p = ((m.toNat % p.toNat : Nat) : Int) := by
  obtain ⟨a, rfl⟩ := Int.eq_ofNat_of_zero_le h0
  obtain ⟨b, rfl⟩ := Int.eq_ofNat_of_zero_le (show 0 ≤ p by omega)
  simp only [Int.toNat_natCast]
  rfl
theorem spec_l29Maze_eq {w h o p m : Int} {gs : List SGate} (T : tmok w h o p gs = true) (h0 : 0 ≤ m) {k : Nat} (hk : 20 ≤ k) : spec_l29Maze.f k w h o p gs m = some (w, h, otAt ((m.toNat % p.toNat : Nat) : Int) gs o) := by
  obtain ⟨M, p1, p6, l8, G⟩ := tmok_iff T
  unfold spec_l29Maze.f
  have key : ∀ (d i k : Nat) (q : Int), i + d = gs.length → d + 3 ≤ k → mok w h q = true → spec_l29Maze.l0 k m (i : Int) w h o p gs w h q = some (w, h, otAt ((m.toNat % p.toNat : Nat) : Int) (gs.drop i) q) := by
    intro d
    induction d with
    | zero =>
      intro i k q hi hk Mq
      obtain ⟨n, rfl⟩ : ∃ n, k = n + 1 := ⟨k - 1, by omega⟩
      simp only [spec_l29Maze.l0]
      rw [if_neg (by omega), List.drop_of_length_le (by omega)]
      rfl
    | succ d ih =>
      intro i k q hi hk Mq
      obtain ⟨n, rfl⟩ : ∃ n, k = n + 1 := ⟨k - 1, by omega⟩
      have hil : i < gs.length := by omega
      have e : rd_Gate gs (i : Int) = gs[i] := by show gs.getD i zGate = _; rw [List.getD_eq_getElem?_getD, List.getElem?_eq_getElem hil]; rfl
      obtain ⟨g1, g2, g3⟩ := G gs[i] (List.getElem_mem hil)
      simp only [spec_l29Maze.l0]
      rw [if_pos (by omega), if_pos (by omega), if_neg (by omega), e, tmod_nat h0 p1, spec_l03Bit_eq g2 (by omega) (by omega), Option.bind_some, w64_succ hil (by omega), List.drop_eq_getElem_cons hil]
      unfold otAt
      rw [List.foldl_cons]
      by_cases b : opn gs[i].f1 ((m.toNat % p.toNat : Nat) : Int) = true
      · rw [if_pos b, if_pos b]
        have := ih (i + 1) n q (by omega) (by omega) Mq
        rw [Int.natCast_add] at this
        exact this
      · obtain ⟨b', eb⟩ := spec_SetGap_false Mq g1 (k := n) (by omega)
        rw [if_neg b, if_neg b, eb, Option.bind_some]
        have := ih (i + 1) n (setb q gs[i].f0 false) (by omega) (by omega) (mok_setb _ Mq g1)
        rw [Int.natCast_add] at this
        exact this
  have := key gs.length 0 k o (by omega) (by omega) M
  simpa using this
theorem impl_MazeAtTime_eq {w h o p m : Int} {gs : List SGate} (T : tmok w h o p gs = true) (h0 : 0 ≤ m) (h1 : m ≤ 1000) {k : Nat} (hk : 30 ≤ k) : impl_MazeAtTime.f k w h o p gs m = some (w, h, otAt ((m.toNat % p.toNat : Nat) : Int) gs o, true) := by
  obtain ⟨M, p1, p6, l8, G⟩ := tmok_iff T
  obtain ⟨k', rfl⟩ : ∃ k', k = k' + 1 := ⟨k - 1, by omega⟩
  unfold impl_MazeAtTime.f
  rw [impl_TimedOk_eq (by omega), Option.bind_some, if_pos T, if_neg (by omega)]
  simp only [impl_MazeAtTime.j0]
  rw [if_neg (by simp; omega)]
  have key : ∀ (d i k : Nat) (q : Int), i + d = gs.length → d + 3 ≤ k → mok w h q = true → impl_MazeAtTime.l0 k m gs (gs.length : Int) (i : Int) w h o p gs w h q = some (w, h, otAt ((m.toNat % p.toNat : Nat) : Int) (gs.drop i) q, true) := by
    intro d
    induction d with
    | zero =>
      intro i k q hi hk Mq
      obtain ⟨n, rfl⟩ : ∃ n, k = n + 1 := ⟨k - 1, by omega⟩
      simp only [impl_MazeAtTime.l0]
      rw [if_neg (by omega), List.drop_of_length_le (by omega)]
      rfl
    | succ d ih =>
      intro i k q hi hk Mq
      obtain ⟨n, rfl⟩ : ∃ n, k = n + 1 := ⟨k - 1, by omega⟩
      have hil : i < gs.length := by omega
      have e : rd_Gate gs (i : Int) = gs[i] := by show gs.getD i zGate = _; rw [List.getD_eq_getElem?_getD, List.getElem?_eq_getElem hil]; rfl
      obtain ⟨g1, g2, g3⟩ := G gs[i] (List.getElem_mem hil)
      have gb := gaps_small g1
      have sq := mok_small Mq
      simp only [impl_MazeAtTime.l0]
      rw [if_pos (by omega), if_pos (by omega), if_pos (by omega), if_neg (by omega), e, tmod_nat h0 p1, if_pos (by omega), w64_succ hil (by omega), List.drop_eq_getElem_cons hil]
      unfold otAt
      rw [List.foldl_cons]
      by_cases b : opn gs[i].f1 ((m.toNat % p.toNat : Nat) : Int) = true
      · rw [if_neg (fun z => (bit_zero g2 (by omega) (by omega)).1 z b), if_pos b]
        have := ih (i + 1) n q (by omega) (by omega) Mq
        rw [Int.natCast_add] at this
        exact this
      · rw [if_pos ((bit_zero g2 (by omega) (by omega)).2 b), if_neg b, impl_with_eq w h false sq.1 (by omega) gb.1 (by omega), Option.bind_some]
        have := ih (i + 1) n (setb q gs[i].f0 false) (by omega) (by omega) (mok_setb _ Mq g1)
        rw [Int.natCast_add] at this
        exact this
  have := key gs.length 0 k' o (by omega) (by omega) M
  simpa using this
theorem or_shl_eq {o g : Int} (ho : 0 ≤ o) (h1 : o < 2 ^ 62) (hg : 0 ≤ g) (h2 : g < 62) : Go.bits .or .i64 o (shl .i64 1 g) = setb o g true := by
  obtain ⟨a, rfl⟩ := Int.eq_ofNat_of_zero_le ho
  obtain ⟨n, rfl⟩ := Int.eq_ofNat_of_zero_le hg
  have hp : (2 : Nat) ^ n < 2 ^ 62 := Nat.pow_lt_pow_right (by decide) (by omega)
  rw [shl_one (by omega), bits_or_i (by omega) (by omega)]
  unfold setb
  rw [if_pos rfl]
  simp only [Int.toNat_natCast]
def nx1 (w h o : Int) (i : Nat) (out : Int) (d : Nat) : Int := if 0 ≤ st w h o i d then setb out (st w h o i d) true else out
def nxc (w h o set : Int) (out : Int) (i : Nat) : Int := if opn set i = true then (List.range' 0 4).foldl (nx1 w h o i) out else out
def nxt (w h o set : Int) : Int := (List.range' 0 (stN w h)).foldl (nxc w h o set) set
def b16 (x : Int) : Prop := 0 ≤ x ∧ x < 2 ^ 16
theorem nx1_b16 {w h o : Int} {i d : Nat} {out : Int} (B : b16 out) : b16 (nx1 w h o i out d) := by
  unfold nx1
  split
  · rename_i H
    obtain ⟨_, _, f3, _, _⟩ := st_facts H
    have a := icell_iff.1 f3
    have b := cells_bd w h
    exact setb_lt (n := 16) true B.1 B.2 a.1 (by omega)
  · exact B
theorem foldl_keep {α σ : Type} {f : σ → α → σ} {I : σ → Prop} (H : ∀ s a, I s → I (f s a)) : ∀ (l : List α) (s : σ), I s → I (l.foldl f s)
  | [], s, h => h
  | a :: l, s, h => by rw [List.foldl_cons]; exact foldl_keep H l _ (H s a h)
theorem nxc_b16 {w h o set : Int} {i : Nat} {out : Int} (B : b16 out) : b16 (nxc w h o set out i) := by
  unfold nxc
  split
  · exact foldl_keep (fun s a hs => nx1_b16 hs) _ _ B
  · exact B
theorem nxt_b16 {w h o set : Int} (B : b16 set) : b16 (nxt w h o set) := foldl_keep (fun s a hs => nxc_b16 hs) _ _ B
theorem opn_foldl {α : Type} {f : Int → α → Int} {P : α → Bool} {y : Int} (H : ∀ s a, opn (f s a) y = (opn s y || P a)) : ∀ (l : List α) (s : Int), opn (l.foldl f s) y = (opn s y || l.any P)
  | [], s => by simp
  | a :: l, s => by rw [List.foldl_cons, opn_foldl H l, H, List.any_cons, Bool.or_assoc]
theorem opn_nx1 {w h o : Int} {i d : Nat} {out y : Int} (hy : 0 ≤ y) : opn (nx1 w h o i out d) y = (opn out y || decide (0 ≤ st w h o i d ∧ st w h o i d = y)) := by
  unfold nx1
  by_cases H : 0 ≤ st w h o i d
  · rw [if_pos H, opn_setb _ H hy]
    by_cases e : y = st w h o i d
    · rw [if_pos e]; simp [H, ← e, hy]
    · rw [if_neg e]
      have : ¬ st w h o i d = y := fun q => e q.symm
      simp [this]
  · rw [if_neg H]; simp [H]
theorem opn_nxt {w h o set y : Int} (hy : 0 ≤ y) : opn (nxt w h o set) y = (opn set y || (List.range' 0 (stN w h)).any fun i => opn set i && (List.range' 0 4).any fun d => decide (0 ≤ st w h o i d ∧ st w h o i d = y)) := by
  unfold nxt
  refine opn_foldl (P := fun i : Nat => opn set i && (List.range' 0 4).any fun d => decide (0 ≤ st w h o i d ∧ st w h o i d = y)) (fun s i => ?_) _ _
  unfold nxc
  by_cases b : opn set (i : Int) = true
  · rw [if_pos b, b, Bool.true_and]
    exact opn_foldl (P := fun d : Nat => decide (0 ≤ st w h o i d ∧ st w h o i d = y)) (fun s d => opn_nx1 hy) _ _
  · rw [if_neg b]; simp [b]
theorem spec_nx_inner {w h o set : Int} {i : Nat} (hs : b16 set) (hi : i < 16) (hb : opn set (i : Int) = true) : ∀ (r d K : Nat) (out : Int), d + r = 4 → 5 ≤ K → b16 out → spec_l29Next.l1 (K + 2 * r + 2) set out (i : Int) (d : Int) w h o = spec_l29Next.l0 K set ((List.range' d r).foldl (nx1 w h o i) out) ((i : Int) + 1) w h o
  | 0, d, K, out, hd, hK, B => by
    obtain rfl : d = 4 := by omega
    rw [show K + 2 * 0 + 2 = (K + 1) + 1 by omega]
    conv => lhs; unfold spec_l29Next.l1
    rw [if_neg (by omega)]
    conv => lhs; unfold spec_l29Next.j2
    rw [if_neg (by decide), w64 (x := (i : Int) + 1) (by omega) (by omega)]
    rfl
  | r + 1, d, K, out, hd, hK, B => by
    rw [show K + 2 * (r + 1) + 2 = (K + 2 * r + 2 + 1) + 1 by omega]
    conv => lhs; unfold spec_l29Next.l1
    have hs2 : set < 65536 := by have := hs.2; simpa using this
    rw [if_pos (by omega), spec_l03Bit_eq hs.1 (by omega) (by omega), Option.bind_some]
    conv => lhs; unfold spec_l29Next.j2
    rw [if_pos hb, spec_Step_eq (by omega), Option.bind_some, w64 (x := (d : Int) + 1) (by omega) (by omega), List.range'_succ, List.foldl_cons]
    have B' := nx1_b16 (w := w) (h := h) (o := o) (i := i) (d := d) B
    have e : nx1 w h o i out d = if 0 ≤ st w h o i d then setb out (st w h o i d) true else out := rfl
    have ih := spec_nx_inner (w := w) (h := h) (o := o) hs hi hb r (d + 1) K (nx1 w h o i out d) (by omega) hK B'
    rw [Int.natCast_add] at ih
    by_cases H : 0 ≤ st w h o i d
    · obtain ⟨_, _, f3, _, _⟩ := st_facts H
      have a := icell_iff.1 f3
      have b := cells_bd w h
      have B2 : out < 65536 := by have := B.2; simpa using this
      rw [if_pos (by omega), if_pos H, or_shl_eq B.1 (by omega) H (by omega)]
      rw [e, if_pos H] at ih ⊢
      exact ih
    · rw [if_neg (by omega)]
      rw [e, if_neg H] at ih ⊢
      exact ih
theorem spec_l29Next_eq {w h o set : Int} (hs : b16 set) {k : Nat} (hk : 220 ≤ k) : spec_l29Next.f k w h o set = some (nxt w h o set) := by
  unfold spec_l29Next.f
  have hN := (show ((stN w h : Nat) : Int) = cells w h by have := cells_bd w h; unfold stN; omega)
  have hL := (show stN w h ≤ 16 by have := cells_bd w h; unfold stN; omega)
  have hs2 : set < 65536 := by have := hs.2; simpa using this
  have key : ∀ (r i k : Nat) (out : Int), i + r = stN w h → 11 * r + 20 ≤ k → b16 out → spec_l29Next.l0 k set out (i : Int) w h o = some ((List.range' i r).foldl (nxc w h o set) out) := by
    intro r
    induction r with
    | zero =>
      intro i k out hi hk B
      obtain ⟨n, rfl⟩ : ∃ n, k = n + 1 := ⟨k - 1, by omega⟩
      conv => lhs; unfold spec_l29Next.l0
      rw [spec_CountCells_eq, Option.bind_some, if_neg (by omega)]
      rfl
    | succ r ih =>
      intro i k out hi hk B
      rw [List.range'_succ, List.foldl_cons]
      by_cases hb : opn set (i : Int) = true
      · obtain ⟨K, rfl⟩ : ∃ K, k = K + 11 := ⟨k - 11, by omega⟩
        rw [show K + 11 = (K + 2 * 4 + 2) + 1 by omega]
        conv => lhs; unfold spec_l29Next.l0
        rw [spec_CountCells_eq, Option.bind_some, if_pos (by omega)]
        have h1 := spec_nx_inner (w := w) (h := h) (o := o) (i := i) hs (by omega) hb 4 0 K out (by omega) (by omega) B
        have h2 := ih (i + 1) K (nxc w h o set out i) (by omega) (by omega) (nxc_b16 B)
        rw [Int.natCast_add] at h2
        have e : nxc w h o set out i = (List.range' 0 4).foldl (nx1 w h o i) out := by unfold nxc; rw [if_pos hb]
        rw [e] at h2 ⊢
        exact h1.trans h2
      · obtain ⟨K, rfl⟩ : ∃ K, k = K + 1 + 1 + 1 := ⟨k - 3, by omega⟩
        conv => lhs; unfold spec_l29Next.l0
        rw [spec_CountCells_eq, Option.bind_some, if_pos (by omega)]
        conv => lhs; unfold spec_l29Next.l1
        rw [if_pos (by decide), spec_l03Bit_eq hs.1 (by omega) (by omega), Option.bind_some]
        conv => lhs; unfold spec_l29Next.j2
        rw [if_neg hb, w64 (x := (i : Int) + 1) (by omega) (by omega)]
        have h2 := ih (i + 1) K (nxc w h o set out i) (by omega) (by omega) (nxc_b16 B)
        rw [Int.natCast_add] at h2
        have e : nxc w h o set out i = out := by unfold nxc; rw [if_neg hb]
        rw [e] at h2 ⊢
        exact h2
  exact key (stN w h) 0 k set (by omega) (by omega) hs
end Go.Proofs.Ytimejdhglmajdaa.F
end

section
namespace Go.Proofs.Ytimejdhglmajdaa.F
open Go.RowKit Go.Proofs.YtimejdhglmajdaaW.PrintWords Go.Proofs.YtimejdhglmajdaaW.PrintLast Go.Proofs.YtimejdhglmajdaaW.PrintMore
set_option linter.unusedVariables false
set_option linter.unusedSimpArgs false
theorem mem_c16 {x : Int} : x ∈ cells16 ↔ 0 ≤ x ∧ x < 16 := by
  unfold cells16
  simp only [List.mem_cons, List.not_mem_nil, or_false]
  omega
theorem stN_i (w h : Int) : ((stN w h : Nat) : Int) = cells w h := by have := cells_bd w h; unfold stN; omega
def Rel (w h : Int) (S : List Int) (set : Int) : Prop := b16 set ∧ (∀ y ∈ S, icell w h y = true) ∧ ∀ y : Int, 0 ≤ y → (y ∈ S ↔ opn set y = true)
theorem rel_start {w h a : Int} (ha : icell w h a = true) : Rel w h [a] ((2 ^ a.toNat : Nat) : Int) := by
  have c := icell_iff.1 ha
  have b := cells_bd w h
  refine ⟨⟨Int.natCast_nonneg _, ?_⟩, fun y hy => by rw [List.mem_singleton] at hy; rw [hy]; exact ha, fun y hy => ?_⟩
  · have := Nat.pow_lt_pow_right (a := 2) (by decide) (show a.toNat < 16 by omega)
    have e : ((2 : Int) ^ 16) = ((2 ^ 16 : Nat) : Int) := by simp
    rw [e]
    exact Int.ofNat_lt.2 this
  · unfold opn
    rw [List.mem_singleton, Int.toNat_natCast, Nat.testBit_two_pow, decide_eq_true_eq]
    omega
theorem rel_step {w h o : Int} {S : List Int} {set : Int} (R : Rel w h S set) : ∃ S2, impl_EarliestAt.l1 w h o S = some S2 ∧ Rel w h S2 (nxt w h o set) := by
  obtain ⟨B, C, E⟩ := R
  have hw : ∀ c, impl_WaysFrom.f 1000 w h o c = some (ways w h o c) := fun c => impl_WaysFrom_eq (by decide) w h o c
  have hst : ∀ c d, impl_Step.f 1000 w h o c d = some (st w h o c d) := fun c d => impl_Step_eq (by decide) w h o c d
  unfold impl_EarliestAt.l1
  simp only [hw, hst]
  rw [if_pos]
  · refine ⟨_, rfl, nxt_b16 B, fun y hy => ?_, fun y hy => ?_⟩
    · rw [List.mem_filter, Bool.or_eq_true, List.any_eq_true, List.contains_iff_mem] at hy
      rcases hy.2 with h1 | ⟨c, hc, h2⟩
      · exact C y h1
      · obtain ⟨d, hd, e⟩ := List.any_eq_true.1 h2
        have e' : st w h o c d = y := by simpa using e
        have := (st_facts (ways_mem hd)).2.2.1
        rwa [e'] at this
    · rw [List.mem_filter, Bool.or_eq_true, List.any_eq_true, List.contains_iff_mem, opn_nxt hy, Bool.or_eq_true, List.any_eq_true, ← E y hy]
      constructor
      · rintro ⟨_, h1 | ⟨c, hc, h2⟩⟩
        · exact Or.inl h1
        · obtain ⟨d, hd, e⟩ := List.any_eq_true.1 h2
          have e' : st w h o c d = y := by simpa using e
          have hd0 := ways_mem hd
          obtain ⟨_, f2, _, f4, f5⟩ := st_facts hd0
          have ic := icell_iff.1 f2
          have hN := stN_i w h
          refine Or.inr ⟨c.toNat, by rw [List.mem_range'_1]; omega, ?_⟩
          have ec : ((c.toNat : Nat) : Int) = c := by omega
          rw [ec, Bool.and_eq_true]
          refine ⟨(E c ic.1).1 hc, List.any_eq_true.2 ⟨d.toNat, by rw [List.mem_range'_1]; omega, ?_⟩⟩
          have ed : ((d.toNat : Nat) : Int) = d := by omega
          rw [ed]
          exact decide_eq_true ⟨hd0, e'⟩
      · rintro (h1 | ⟨i, hi, h2⟩)
        · have := icell_iff.1 (C y h1)
          have hb := cells_bd w h
          exact ⟨mem_c16.2 ⟨hy, by omega⟩, Or.inl h1⟩
        · rw [Bool.and_eq_true] at h2
          obtain ⟨d, hd, e⟩ := List.any_eq_true.1 h2.2
          simp only [decide_eq_true_eq] at e
          obtain ⟨_, f2, f3, f4, f5⟩ := st_facts e.1
          have i3 := icell_iff.1 f3
          have hb := cells_bd w h
          refine ⟨mem_c16.2 ⟨hy, by omega⟩, Or.inr ⟨(i : Int), (E _ (by omega)).2 h2.1, List.any_eq_true.2 ⟨(d : Int), ?_, by simp [e.2]⟩⟩⟩
          unfold ways
          rw [List.mem_filter]
          have : (d : Int) = 0 ∨ (d : Int) = 1 ∨ (d : Int) = 2 ∨ (d : Int) = 3 := by omega
          refine ⟨by simp only [List.mem_cons, List.not_mem_nil, or_false]; omega, decide_eq_true e.1⟩
  · refine List.all_eq_true.2 fun c hc => ?_
    rw [Bool.and_eq_true, List.all_eq_true]
    refine ⟨decide_eq_true (ways_length w h o c), fun d hd => ?_⟩
    have i3 := icell_iff.1 (st_facts (ways_mem hd)).2.2.1
    have hb := cells_bd w h
    exact decide_eq_true ⟨ways_mem hd, by omega⟩
def tset (w h o p : Int) (gs : List SGate) (a m : Int) : Nat → Int
  | 0 => ((2 ^ a.toNat : Nat) : Int)
  | i + 1 => nxt w h (otAt (((m.toNat + i) % p.toNat : Nat) : Int) gs o) (tset w h o p gs a m i)
def ear (T : Nat → Int) (m b : Int) : Nat → Nat → Int
  | 0, _ => -1
  | n + 1, i => if opn (T i) b = true then m + i else ear T m b n (i + 1)
theorem tset_b16 {w h o p a m : Int} {gs : List SGate} (ha : icell w h a = true) : ∀ i, b16 (tset w h o p gs a m i)
  | 0 => (rel_start ha).1
  | i + 1 => nxt_b16 (tset_b16 ha i)
theorem impl_ear {w h o p a m b : Int} {gs : List SGate} (T : tmok w h o p gs = true) (h0 : 0 ≤ m) (h5 : m ≤ 500) (hb : icell w h b = true) : ∀ (n i k : Nat) (S : List Int), i + n = 201 → n + 1 ≤ k → Rel w h S (tset w h o p gs a m i) →
    impl_EarliestAt.l0 w h o p gs m b k S (m + i) = some (ear (tset w h o p gs a m) m b n i)
  | 0, i, k, S, hi, hk, R => by
    obtain ⟨k', rfl⟩ : ∃ k', k = k' + 1 := ⟨k - 1, by omega⟩
    simp only [impl_EarliestAt.l0, ear]
    rw [w64 (x := m + 200) (by omega) (by omega), if_neg (by omega)]
  | n + 1, i, k, S, hi, hk, R => by
    obtain ⟨k', rfl⟩ : ∃ k', k = k' + 1 := ⟨k - 1, by omega⟩
    have cb := icell_iff.1 hb
    simp only [impl_EarliestAt.l0, ear]
    rw [w64 (x := m + 200) (by omega) (by omega), if_pos (by omega)]
    have e : S.contains b = true ↔ opn (tset w h o p gs a m i) b = true := by rw [List.contains_iff_mem]; exact R.2.2 b cb.1
    by_cases q : opn (tset w h o p gs a m i) b = true
    · rw [if_pos (e.2 q), if_pos q]
    · have em : (m + (i : Int)).toNat = m.toNat + i := by omega
      rw [if_neg (fun z => q (e.1 z)), if_neg q, impl_MazeAtTime_eq T (by omega) (by omega) (by decide), Option.bind_some, em]
      obtain ⟨S2, e1, R2⟩ := rel_step (o := otAt (((m.toNat + i) % p.toNat : Nat) : Int) gs o) R
      simp only
      rw [e1, Option.bind_some, w64 (x := m + (i : Int) + 1) (by omega) (by omega), show m + (i : Int) + 1 = m + ((i + 1 : Nat) : Int) by omega]
      exact impl_ear T h0 h5 hb n (i + 1) k' S2 (by omega) (by omega) R2
theorem ear_none {T : Nat → Int} {m b : Int} : ∀ (n i : Nat), (∀ j, i ≤ j → opn (T j) b = false) → ear T m b n i = -1
  | 0, i, H => rfl
  | n + 1, i, H => by
    unfold ear
    rw [H i (Nat.le_refl _)]
    exact ear_none n (i + 1) (fun j hj => H j (by omega))
theorem still {w h o p a m : Int} {gs : List SGate} (p1 : 1 ≤ p) {i : Nat} (hq : p.toNat ≤ i) (H : ∀ j, i - p.toNat ≤ j → j ≤ i → tset w h o p gs a m j = tset w h o p gs a m i) : ∀ n, tset w h o p gs a m (i + n) = tset w h o p gs a m i
  | 0 => rfl
  | n + 1 => by
    have ih := still p1 hq H n
    have hp : 0 < p.toNat := by omega
    have hr := Nat.mod_lt (n) hp
    have e : (m.toNat + (i + n)) % p.toNat = (m.toNat + (i - p.toNat + n % p.toNat)) % p.toNat := by
      have : m.toNat + (i + n) = m.toNat + (i - p.toNat + n % p.toNat) + p.toNat * (n / p.toNat + 1) := by
        have := Nat.div_add_mod n p.toNat
        rw [Nat.mul_add]
        omega
      rw [this, Nat.add_mul_mod_self_left]
    have h1 := H (i - p.toNat + n % p.toNat) (by omega) (by omega)
    have h2 := H (i - p.toNat + n % p.toNat + 1) (by omega) (by omega)
    show nxt w h (otAt (((m.toNat + (i + n)) % p.toNat : Nat) : Int) gs o) (tset w h o p gs a m (i + n)) = _
    rw [e, ih, ← h1]
    exact h2.trans h1.symm
theorem spec_ear {w h o p a m b : Int} {gs : List SGate} (T : tmok w h o p gs = true) (h0 : 0 ≤ m) (h5 : m ≤ 500) (ha : icell w h a = true) (hb : icell w h b = true) : ∀ (n i k qu : Nat), i + n = 201 → 2 * n + 300 ≤ k → qu ≤ i → (∀ j, i - qu ≤ j → j ≤ i → tset w h o p gs a m j = tset w h o p gs a m i) → (0 < qu → opn (tset w h o p gs a m i) b = false) →
    spec_EarliestAt.l0 k m b (tset w h o p gs a m i) (qu : Int) (i : Int) w h o p gs = some (ear (tset w h o p gs a m) m b n i)
  | 0, i, k, qu, hi, hk, hqi, HQ, HO => by
    obtain ⟨k', rfl⟩ : ∃ k', k = k' + 1 + 1 := ⟨k - 2, by omega⟩
    conv => lhs; unfold spec_EarliestAt.l0
    rw [if_neg (by omega)]
    conv => lhs; unfold spec_EarliestAt.j2
    rw [if_neg (by decide)]
    rfl
  | n + 1, i, k, qu, hi, hk, hqi, HQ, HO => by
    obtain ⟨k', rfl⟩ : ∃ k', k = k' + 1 + 1 := ⟨k - 2, by omega⟩
    obtain ⟨M, p1, p6, _, G⟩ := tmok_iff T
    have cb := icell_iff.1 hb
    have B := tset_b16 (o := o) (p := p) (gs := gs) (m := m) ha i
    have B2 : tset w h o p gs a m i < 65536 := by have := B.2; simpa using this
    conv => lhs; unfold spec_EarliestAt.l0
    rw [if_pos (by omega)]
    conv => lhs; unfold spec_EarliestAt.j2
    by_cases hq : (qu : Int) ≤ p
    · rw [if_pos (decide_eq_true hq), spec_l03Bit_eq B.1 (by omega) cb.1, Option.bind_some]
      unfold ear
      by_cases q : opn (tset w h o p gs a m i) b = true
      · rw [if_pos q, if_pos q, w64 (by omega) (by omega)]
      · have em : (m + (i : Int)).toNat = m.toNat + i := by omega
        rw [if_neg q, if_neg q, w64 (x := m + (i : Int)) (by omega) (by omega), spec_l29Maze_eq T (by omega) (by omega), Option.bind_some, em]
        simp only
        rw [spec_l29Next_eq B (by omega), Option.bind_some, w64 (x := (i : Int) + 1) (by omega) (by omega), w64 (x := (qu : Int) + 1) (by omega) (by omega)]
        have e : nxt w h (otAt (((m.toNat + i) % p.toNat : Nat) : Int) gs o) (tset w h o p gs a m i) = tset w h o p gs a m (i + 1) := rfl
        rw [e]
        have q' : opn (tset w h o p gs a m i) b = false := by simpa using q
        by_cases eq : tset w h o p gs a m (i + 1) = tset w h o p gs a m i
        · rw [if_pos eq]
          have := spec_ear T h0 h5 ha hb n (i + 1) k' (qu + 1) (by omega) (by omega) (by omega) (fun j h1 h2 => by
            by_cases e2 : j = i + 1
            · rw [e2]
            · rw [HQ j (by omega) (by omega), eq]) (fun _ => by rw [eq]; exact q')
          rw [Int.natCast_add, Int.natCast_add] at this
          exact this
        · rw [if_neg eq]
          have := spec_ear T h0 h5 ha hb n (i + 1) k' 0 (by omega) (by omega) (by omega) (fun j h1 h2 => by
            obtain rfl : j = i + 1 := by omega
            rfl) (fun z => absurd z (by decide))
          rw [Int.natCast_add] at this
          exact this
    · rw [if_neg (by simpa using hq)]
      have hp : p.toNat ≤ qu := by omega
      have st := still (w := w) (h := h) (o := o) (p := p) (a := a) (m := m) (gs := gs) p1 (i := i) (by omega) (fun j h1 h2 => HQ j (by omega) h2)
      rw [ear_none (n + 1) i (fun j hj => by
        have := st (j - i)
        rw [show i + (j - i) = j by omega] at this
        rw [this]
        exact HO (by omega))]
def early (w h o p : Int) (gs : List SGate) (a m b : Int) : Int :=
  if (tmok w h o p gs && icell w h a && icell w h b && decide (0 ≤ m ∧ m ≤ 500)) = true then ear (tset w h o p gs a m) m b 201 0 else -1
theorem impl_EarliestAt_eq (w h o p : Int) (gs : List SGate) (a m b : Int) : impl_EarliestAt.f w h o p gs a m b = some (early w h o p gs a m b) := by
  unfold impl_EarliestAt.f early
  rw [impl_TimedOk_eq (by decide), Option.bind_some]
  by_cases T : tmok w h o p gs = true
  · have M := (tmok_iff T).1
    rw [if_pos T, impl_isIn_eq, Option.bind_some]
    by_cases C : (icell w h a && icell w h b) = true
    · simp only [Bool.and_eq_true] at C
      rw [if_pos (by simp [M, C.1, C.2])]
      by_cases h0 : m < 0
      · rw [if_pos h0, if_neg (show ¬ (tmok w h o p gs && icell w h a && icell w h b && decide (0 ≤ m ∧ m ≤ 500)) = true by simp; intros; omega)]
      · rw [if_neg h0]
        by_cases h5 : m > 500
        · rw [if_pos h5, if_neg (show ¬ (tmok w h o p gs && icell w h a && icell w h b && decide (0 ≤ m ∧ m ≤ 500)) = true by simp; intros; omega)]
        · have a1 := icell_iff.1 C.1
          have b1 := icell_iff.1 C.2
          have hc := cells_bd w h
          rw [if_neg h5, if_pos (show (0 ≤ a ∧ a < 16) ∧ 0 ≤ b ∧ b < 16 by omega), if_pos (by simp [T, C.1, C.2]; omega)]
          have := impl_ear (a := a) (m := m) T (by omega) (by omega) C.2 201 0 300 [a] (by decide) (by decide) (rel_start C.1)
          simpa using this
    · rw [if_neg (by simpa [M] using C), if_neg (by simp only [Bool.and_eq_true] at C; simp; intro _ x y; exact absurd ⟨x, y⟩ C)]
  · rw [if_neg T, if_neg (by simp [T])]
theorem spec_EarliestAt_eq {k : Nat} (hk : 1000 ≤ k) (w h o p : Int) (gs : List SGate) (a m b : Int) : spec_EarliestAt.f k w h o p gs a m b = some (early w h o p gs a m b) := by
  obtain ⟨k', rfl⟩ : ∃ k', k = k' + 1 := ⟨k - 1, by omega⟩
  have e : spec_EarliestAt.f (k' + 1) w h o p gs a m b = spec_EarliestAt.j0 (k' + 1) a m b (!(tmok w h o p gs && icell w h a && icell w h b && decide (0 ≤ m ∧ m ≤ 500))) w h o p gs := by
    unfold spec_EarliestAt.f
    rw [spec_TimedOk_eq (by omega), Option.bind_some]
    by_cases T : tmok w h o p gs = true
    · have M := (tmok_iff T).1
      rw [if_pos T, spec_l04Has_eq, Option.bind_some, M, Bool.true_and]
      by_cases c1 : icell w h a = true
      · rw [if_pos c1, spec_l04Has_eq, Option.bind_some, M, Bool.true_and]
        by_cases c2 : icell w h b = true
        · rw [if_pos c2, spec_l01In_eq, Option.bind_some, T, c1, c2]
          rfl
        · rw [if_neg c2]; simp [c2]
      · rw [if_neg c1]; simp [c1]
    · rw [if_neg T]; simp [T]
  rw [e]
  simp only [spec_EarliestAt.j0]
  unfold early
  by_cases H : (tmok w h o p gs && icell w h a && icell w h b && decide (0 ≤ m ∧ m ≤ 500)) = true
  · rw [if_neg (by simp only [H]; decide), if_pos H]
    simp only [Bool.and_eq_true, decide_eq_true_eq] at H
    obtain ⟨⟨⟨T, c1⟩, c2⟩, h0, h5⟩ := H
    have a1 := icell_iff.1 c1
    have hc := cells_bd w h
    have es : shl .i64 1 a = tset w h o p gs a m 0 := by
      have := shl_one (g := a.toNat) (by omega)
      rwa [show ((a.toNat : Nat) : Int) = a by omega] at this
    rw [if_pos a1.1, es]
    exact spec_ear T h0 h5 c1 c2 201 0 k' 0 (by decide) (by omega) (Nat.le_refl _) (fun j h1 h2 => by have e0 : j = 0 := (by omega); subst e0; rfl) (fun z => absurd z (by decide))
  · rw [if_pos (by simp only [Bool.not_eq_true] at H; simp only [H]; rfl), if_neg H]
def canF (w h o p : Int) (gs : List SGate) (a0 a1 b0 b1 : Int) : Bool := decide (0 ≤ early w h o p gs a1 a0 b1 ∧ early w h o p gs a1 a0 b1 ≤ b0)
theorem impl_CanFollow_eq (w h o p : Int) (gs : List SGate) (a0 a1 b0 b1 : Int) : impl_CanFollow.f w h o p gs a0 a1 b0 b1 = some (canF w h o p gs a0 a1 b0 b1) := by
  unfold impl_CanFollow.f canF
  rw [impl_EarliestAt_eq, Option.bind_some]
  by_cases q : early w h o p gs a1 a0 b1 ≥ 0
  · rw [if_pos q]; simp [q]
  · rw [if_neg q]; simp; omega
theorem spec_CanFollow_eq {k : Nat} (hk : 1000 ≤ k) (w h o p : Int) (gs : List SGate) (a0 a1 b0 b1 : Int) : spec_CanFollow.f k w h o p gs a0 a1 b0 b1 = some (canF w h o p gs a0 a1 b0 b1) := by
  unfold spec_CanFollow.f canF
  rw [spec_EarliestAt_eq hk, Option.bind_some]
  by_cases q : early w h o p gs a1 a0 b1 ≥ 0
  · rw [if_pos q]; simp [q]
  · rw [if_neg q]; simp; omega
theorem toTimed_eq {k : Nat} {gs : List SlaGate} (hl : gs.length ≤ 1048576) (hk : gs.length + 1 ≤ k) (w h o p : Int) : laws_toTimed.f k w h o p gs = some (w, h, o, p, gs.map toGate) := by
  unfold laws_toTimed.f
  simp only [laws_toMaze.f, laws_toGrid.f, Option.bind_some]
  rw [laws_toGateS_eq hl hk]
  rfl
theorem eqTimed_refl {k : Nat} {gs : List SGate} (hl : gs.length ≤ 1048576) (hk : gs.length + 1 ≤ k) (w h o p : Int) : laws_eqTimed.f k w h o p gs w h o p gs = some true := by
  unfold laws_eqTimed.f laws_eqMaze.f laws_eqGrid.f
  simp only [if_true, Option.bind_some]
  rw [laws_eqGateS_refl (by omega) hk]
  simp
end Go.Proofs.Ytimejdhglmajdaa.F
end

section
namespace Go.Proofs.Ytimejdhglmajdaa.F
open Go.RowKit Go.Proofs.YtimejdhglmajdaaW.PrintWords Go.Proofs.YtimejdhglmajdaaW.PrintLast Go.Proofs.YtimejdhglmajdaaW.PrintMore
set_option linter.unusedVariables false
set_option linter.unusedSimpArgs false
theorem FnExactCanFollow_pure : ∀ (a0_0 : Int) (a0_1 : Int) (a0_2 : Int) (a0_3 : Int) (l0_4 : List (SlaGate)) (a1_0 : Int) (a1_1 : Int) (a2_0 : Int) (a2_1 : Int), (I64 (a0_0)) → (I64 (a0_1)) → (I64 (a0_2)) → (I64 (a0_3)) → ((l0_4).length ≤ 9223372036854775807 ∧ ∀ y ∈ l0_4, (I64 (y.f0)) ∧ (I64 (y.f1))) → (I64 (a1_0)) → (I64 (a1_1)) → (I64 (a2_0)) → (I64 (a2_1)) → ∃ k, laws_FnExactCanFollow.f k a0_0 a0_1 a0_2 a0_3 l0_4 a1_0 a1_1 a2_0 a2_1 = some true := by
  intro w h o p gs a0 a1 b0 b1 _ _ _ _ hg _ _ _ _
  refine ⟨gs.length + 1100, ?_⟩
  unfold laws_FnExactCanFollow.f laws_szTimed.f
  rw [sz_Gate (by decide) (by decide) hg.1, Option.bind_some]
  by_cases h1 : (gs.length : Int) ≤ 1048576
  · rw [if_pos h1, if_neg (by omega), Option.bind_some, if_neg (by omega), toTimed_eq (by omega) (by omega)]
    simp only [Option.bind_some, laws_toEntry.f, spec_CanFollow_eq (show 1000 ≤ gs.length + 1100 by omega), impl_CanFollow_eq, bne_self_eq_false, Bool.false_eq_true, if_false]
    rw [eqTimed_refl (by rw [List.length_map]; omega) (by rw [List.length_map]; omega)]
    simp
  · rw [if_neg h1, if_pos (by omega), Option.bind_some, if_pos (by omega)]
end Go.Proofs.Ytimejdhglmajdaa.F
end
