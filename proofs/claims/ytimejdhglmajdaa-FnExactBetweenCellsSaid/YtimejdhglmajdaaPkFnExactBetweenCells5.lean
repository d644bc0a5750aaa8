/- Packed by a program of the session (wip/tools/pack.py): what the claim's theorem reaches, of the texts that wip/ and the kit's printer lay. -/
import Derived.Test.YtimejdhglmajdaaPkFnExactBetweenCells4
import Derived.Laws.StructEq
section
namespace Go.Proofs.Ytimejdhglmajdaa.F
open Go.RowKit Go.Proofs.YtimejdhglmajdaaW.PrintWords Go.Proofs.YtimejdhglmajdaaW.PrintLast Go.Proofs.YtimejdhglmajdaaW.PrintMore
set_option linter.unusedVariables false
set_option linter.unusedSimpArgs false
attribute [local go_sem] min2_int min_two
set_option maxHeartbeats 8000000 in
set_option maxRecDepth 100000 in
theorem spec_EarliestAt.calls (k : Nat) (a0_0 : Int) (a0_1 : Int) (a0_2 : Int) (a0_3 : Int) (A0_4 : Option Addr) (c0_4 : Nat) (l0_4 : List (SGate)) (a1 : Int) (a2 : Int) (a3 : Int) (r : Int) (w : World) (hr0_4 : Kd.C k137 w A0_4 l0_4.length l0_4) (hc0_4 : l0_4.length ≤ c0_4) (h : spec_EarliestAt.f k a0_0 a0_1 a0_2 a0_3 l0_4 a1 a2 a3 = some r) :
  Calls Try.prog 85 #[.agg #[.int .i64 a0_0, .int .i64 a0_1, .int .i64 a0_2, .int .i64 a0_3, .slice A0_4 l0_4.length c0_4], .int .i64 a1, .int .i64 a2, .int .i64 a3] w fun e w' => e = .returned (.int .i64 r) ∧ Below w.heap.size w w' := by
 have hu58 := Try.underlying58
 have hu32 := Try.underlying32
 have HR0_4 := aK hr0_4
 have HC0_4 := aK hc0_4
 clear hr0_4 hc0_4
 have HB := aK (Below.refl w.heap.size w)
 have H : ((spec_TimedOk.f k a0_0 a0_1 a0_2 a0_3 l0_4).bind fun t608 => (if t608 = true then ((spec_l04Has.f a0_0 a0_1 a0_2 a1).bind fun t609 => (if t609 = true then ((spec_l04Has.f a0_0 a0_1 a0_2 a3).bind fun t610 => (if t610 = true then ((spec_l01In.f a2 0 500).bind fun t611 => (spec_EarliestAt.j0 k a1 a2 a3 (!t611) a0_0 a0_1 a0_2 a0_3 l0_4)) else (spec_EarliestAt.j0 k a1 a2 a3 true a0_0 a0_1 a0_2 a0_3 l0_4))) else (spec_EarliestAt.j0 k a1 a2 a3 true a0_0 a0_1 a0_2 a0_3 l0_4))) else (spec_EarliestAt.j0 k a1 a2 a3 true a0_0 a0_1 a0_2 a0_3 l0_4))) = some r := h
 clear h
 have HC5 := aK H
 clear H
 go_enter Try.func85, Try.ntmps85
 go_upto_region 1 with (first | ((with_reducible refine gate_dst (N := 4) rfl ?_); refine box_event ?hg (N := 4) ?hd (cs := #[.int .i64 a0_0, .int .i64 a0_1, .int .i64 a0_2, .int .i64 a0_3, .slice A0_4 l0_4.length c0_4]) (t := 58) ?hr ?_; (case hd => rfl); (case hg => rfl); (case hr => first | (go_simp; done) | (go_simp; rfl)); intro gb607 hg w6 hbox hb; have n0_ := aK (bSp (by repeat (first | (with_reducible first | exact HB.out | apply bAl | apply bDN | apply bD1) | exact HB.out)) hb); have n1_ := aK (hbox); have n2_ := aK ((by rw [hg]; exact (bSz (by repeat (first | (with_reducible first | exact HB.out | apply bAl | apply bDN | apply bD1) | exact HB.out))) : w.heap.size ≤ gb607)); have n3_ := n2_; clear HB; have HB := n0_; have BK607 := n1_; have GW607 := n2_; have GE607 := n3_; clear n0_ n1_ n2_ n3_; clear hb hbox hg))
 (try simp only [Act.put, sTA, sZ, sS])
 go_cut [34] (fun v34 wc => ∃ (kq : Nat) (x34_4 : Bool), v34 = .bool x34_4 ∧ Aside0 (spec_EarliestAt.j0 kq a1 a2 a3 x34_4 a0_0 a0_1 a0_2 a0_3 l0_4 = some r) ∧ Aside0 (kq ≤ k) ∧ Aside0 (wc.heap[gb607]? = some (.cells #[.int .i64 a0_0, .int .i64 a0_1, .int .i64 a0_2, .int .i64 a0_3, (.slice A0_4 l0_4.length c0_4)] 58 (0, 0))) ∧ Aside0 (Below w.heap.size w wc))
 case first =>
  have H := HC5.out
  clear HC5
  replace H := Option.bind_eq_some_iff.mp H
  obtain ⟨t608, A70, H⟩ := H
  replace H : (if t608 = true then ((spec_l04Has.f a0_0 a0_1 a0_2 a1).bind fun t609 => (if t609 = true then ((spec_l04Has.f a0_0 a0_1 a0_2 a3).bind fun t610 => (if t610 = true then ((spec_l01In.f a2 0 500).bind fun t611 => (spec_EarliestAt.j0 k a1 a2 a3 (!t611) a0_0 a0_1 a0_2 a0_3 l0_4)) else (spec_EarliestAt.j0 k a1 a2 a3 true a0_0 a0_1 a0_2 a0_3 l0_4))) else (spec_EarliestAt.j0 k a1 a2 a3 true a0_0 a0_1 a0_2 a0_3 l0_4))) else (spec_EarliestAt.j0 k a1 a2 a3 true a0_0 a0_1 a0_2 a0_3 l0_4)) = some r := H
  have A7 := aK A70
  clear A70
  by_cases c8 : t608 = true
  ·subst c8
   have H1 : ((spec_l04Has.f a0_0 a0_1 a0_2 a1).bind fun t609 => (if t609 = true then ((spec_l04Has.f a0_0 a0_1 a0_2 a3).bind fun t610 => (if t610 = true then ((spec_l01In.f a2 0 500).bind fun t611 => (spec_EarliestAt.j0 k a1 a2 a3 (!t611) a0_0 a0_1 a0_2 a0_3 l0_4)) else (spec_EarliestAt.j0 k a1 a2 a3 true a0_0 a0_1 a0_2 a0_3 l0_4))) else (spec_EarliestAt.j0 k a1 a2 a3 true a0_0 a0_1 a0_2 a0_3 l0_4))) = some r := by rw [if_pos rfl] at H; exact H
   clear H
   have H := H1
   clear H1
   replace H := Option.bind_eq_some_iff.mp H
   obtain ⟨t609, A90, H⟩ := H
   replace H : (if t609 = true then ((spec_l04Has.f a0_0 a0_1 a0_2 a3).bind fun t610 => (if t610 = true then ((spec_l01In.f a2 0 500).bind fun t611 => (spec_EarliestAt.j0 k a1 a2 a3 (!t611) a0_0 a0_1 a0_2 a0_3 l0_4)) else (spec_EarliestAt.j0 k a1 a2 a3 true a0_0 a0_1 a0_2 a0_3 l0_4))) else (spec_EarliestAt.j0 k a1 a2 a3 true a0_0 a0_1 a0_2 a0_3 l0_4)) = some r := H
   have A9 := aK A90
   clear A90
   by_cases c10 : t609 = true
   ·subst c10
    have H1 : ((spec_l04Has.f a0_0 a0_1 a0_2 a3).bind fun t610 => (if t610 = true then ((spec_l01In.f a2 0 500).bind fun t611 => (spec_EarliestAt.j0 k a1 a2 a3 (!t611) a0_0 a0_1 a0_2 a0_3 l0_4)) else (spec_EarliestAt.j0 k a1 a2 a3 true a0_0 a0_1 a0_2 a0_3 l0_4))) = some r := by rw [if_pos rfl] at H; exact H
    clear H
    have H := H1
    clear H1
    replace H := Option.bind_eq_some_iff.mp H
    obtain ⟨t610, A110, H⟩ := H
    replace H : (if t610 = true then ((spec_l01In.f a2 0 500).bind fun t611 => (spec_EarliestAt.j0 k a1 a2 a3 (!t611) a0_0 a0_1 a0_2 a0_3 l0_4)) else (spec_EarliestAt.j0 k a1 a2 a3 true a0_0 a0_1 a0_2 a0_3 l0_4)) = some r := H
    have A11 := aK A110
    clear A110
    by_cases c12 : t610 = true
    ·subst c12
     have H1 : ((spec_l01In.f a2 0 500).bind fun t611 => (spec_EarliestAt.j0 k a1 a2 a3 (!t611) a0_0 a0_1 a0_2 a0_3 l0_4)) = some r := by rw [if_pos rfl] at H; exact H
     clear H
     have H := H1
     clear H1
     replace H := Option.bind_eq_some_iff.mp H
     obtain ⟨t611, A130, H⟩ := H
     replace H : (spec_EarliestAt.j0 k a1 a2 a3 (!t611) a0_0 a0_1 a0_2 a0_3 l0_4) = some r := H
     have A13 := aK A130
     clear A130
     have H' := aK H
     clear H
     obtain ⟨hcz14_0, hcz14_1, hcz14_2, hcz14_3, hcz14_4, hfz14_0, hfz14_1, hfz14_2, hfz14_3, hfz14_4⟩ := cl5 BK607.out
     go_wp2_with (first | ((with_reducible refine gate_callee (f := 135) rfl ?_); refine goesL_ (some 14) rfl rfl Try.func135 (by kernel_rfl) rfl #[.agg #[.int .i64 a0_0, .int .i64 a0_1, .int .i64 a0_2, .int .i64 a0_3, .slice A0_4 l0_4.length c0_4]] rfl (by (try simp only [List.map_toArray, List.map_cons, List.map_nil]); first | done | rfl | (simp only [List.length_drop, List.length_take]; rfl)) ?_; (with_reducible refine (spec_TimedOk.calls k a0_0 a0_1 a0_2 a0_3 _ _ l0_4 true _ ?side1 ?side2 A7.out).mono ?_); (case side1 => repeat (first | exact (Kd.C_below HR0_4.out HB.out) | (with_reducible refine Kd.C_alloc ?_ _) | (with_reducible refine Kd.C_drewN ?_ _) | (with_reducible refine Kd.C_drew ?_))); (case side2 => exact HC0_4.out); rintro e w15 ⟨rfl, hb⟩; refine ⟨_, rfl, ?_⟩; have n0_ := bkb BK607 hb (by intro z_; (with_reducible repeat (first | refine kDN ?_ _ | refine kD ?_ | refine kA ?_ _)); exact z_); have n1_ := aK (bSp (by repeat (first | (with_reducible first | exact HB.out | apply bAl | apply bDN | apply bD1 | refine bSt ?_ GE607.out) | exact HB.out)) hb); clear BK607; clear HB; have BK607 := n0_; have HB := n1_; clear n0_ n1_; (try clear hb); (try clear hb2); (try clear hk); (try clear hi); obtain ⟨hcz16_0, hcz16_1, hcz16_2, hcz16_3, hcz16_4, hfz16_0, hfz16_1, hfz16_2, hfz16_3, hfz16_4⟩ := cl5 BK607.out) | (go_at_call 60; (with_reducible refine (spec_l04Has.calls a0_0 a0_1 a0_2 a1 true _ A9.out).mono ?_); rintro e w17 ⟨rfl, hb⟩; have n0_ := bkb BK607 hb (by intro z_; (with_reducible repeat (first | refine kDN ?_ _ | refine kD ?_ | refine kA ?_ _)); exact z_); have n1_ := aK (bSp (by repeat (first | (with_reducible first | exact HB.out | apply bAl | apply bDN | apply bD1 | refine bSt ?_ GE607.out) | exact HB.out)) hb); clear BK607; clear HB; have BK607 := n0_; have HB := n1_; clear n0_ n1_; (try clear hb); (try clear hb2); (try clear hk); (try clear hi); obtain ⟨hcz18_0, hcz18_1, hcz18_2, hcz18_3, hcz18_4, hfz18_0, hfz18_1, hfz18_2, hfz18_3, hfz18_4⟩ := cl5 BK607.out) | (go_at_call 60; (with_reducible refine (spec_l04Has.calls a0_0 a0_1 a0_2 a3 true _ A11.out).mono ?_); rintro e w19 ⟨rfl, hb⟩; have n0_ := bkb BK607 hb (by intro z_; (with_reducible repeat (first | refine kDN ?_ _ | refine kD ?_ | refine kA ?_ _)); exact z_); have n1_ := aK (bSp (by repeat (first | (with_reducible first | exact HB.out | apply bAl | apply bDN | apply bD1 | refine bSt ?_ GE607.out) | exact HB.out)) hb); clear BK607; clear HB; have BK607 := n0_; have HB := n1_; clear n0_ n1_; (try clear hb); (try clear hb2); (try clear hk); (try clear hi)) | (go_at_call 109; (with_reducible refine (spec_l01In.calls a2 0 500 t611 _ A13.out).mono ?_); rintro e w' ⟨rfl, ⟨nd, rfl⟩⟩))
     go_meet
     case rel => exact ⟨_, (!t611), (by first | rfl | (simp; done) | (simp [*]; done)), H', ⟨by first | omega | exact Nat.le_refl _⟩, ⟨by (with_reducible repeat (first | refine kDN ?_ _ | refine kD ?_ | refine kA ?_ _)); exact BK607.out⟩, ⟨by repeat (first | (with_reducible first | exact HB.out | apply bAl | apply bDN | apply bD1 | refine bSt ?_ GE607.out) | exact HB.out)⟩⟩
    ·replace c12 := Bool.eq_false_iff.mpr c12
     subst c12
     have H1 : (spec_EarliestAt.j0 k a1 a2 a3 true a0_0 a0_1 a0_2 a0_3 l0_4) = some r := by rw [if_neg (show ¬ (false = true) by decide)] at H; exact H
     clear H
     have H := H1
     clear H1
     have H' := aK H
     clear H
     obtain ⟨hcz20_0, hcz20_1, hcz20_2, hcz20_3, hcz20_4, hfz20_0, hfz20_1, hfz20_2, hfz20_3, hfz20_4⟩ := cl5 BK607.out
     go_wp2_with (first | ((with_reducible refine gate_callee (f := 135) rfl ?_); refine goesL_ (some 14) rfl rfl Try.func135 (by kernel_rfl) rfl #[.agg #[.int .i64 a0_0, .int .i64 a0_1, .int .i64 a0_2, .int .i64 a0_3, .slice A0_4 l0_4.length c0_4]] rfl (by (try simp only [List.map_toArray, List.map_cons, List.map_nil]); first | done | rfl | (simp only [List.length_drop, List.length_take]; rfl)) ?_; (with_reducible refine (spec_TimedOk.calls k a0_0 a0_1 a0_2 a0_3 _ _ l0_4 true _ ?side1 ?side2 A7.out).mono ?_); (case side1 => repeat (first | exact (Kd.C_below HR0_4.out HB.out) | (with_reducible refine Kd.C_alloc ?_ _) | (with_reducible refine Kd.C_drewN ?_ _) | (with_reducible refine Kd.C_drew ?_))); (case side2 => exact HC0_4.out); rintro e w21 ⟨rfl, hb⟩; refine ⟨_, rfl, ?_⟩; have n0_ := bkb BK607 hb (by intro z_; (with_reducible repeat (first | refine kDN ?_ _ | refine kD ?_ | refine kA ?_ _)); exact z_); have n1_ := aK (bSp (by repeat (first | (with_reducible first | exact HB.out | apply bAl | apply bDN | apply bD1 | refine bSt ?_ GE607.out) | exact HB.out)) hb); clear BK607; clear HB; have BK607 := n0_; have HB := n1_; clear n0_ n1_; (try clear hb); (try clear hb2); (try clear hk); (try clear hi); obtain ⟨hcz22_0, hcz22_1, hcz22_2, hcz22_3, hcz22_4, hfz22_0, hfz22_1, hfz22_2, hfz22_3, hfz22_4⟩ := cl5 BK607.out) | (go_at_call 60; (with_reducible refine (spec_l04Has.calls a0_0 a0_1 a0_2 a1 true _ A9.out).mono ?_); rintro e w23 ⟨rfl, hb⟩; have n0_ := bkb BK607 hb (by intro z_; (with_reducible repeat (first | refine kDN ?_ _ | refine kD ?_ | refine kA ?_ _)); exact z_); have n1_ := aK (bSp (by repeat (first | (with_reducible first | exact HB.out | apply bAl | apply bDN | apply bD1 | refine bSt ?_ GE607.out) | exact HB.out)) hb); clear BK607; clear HB; have BK607 := n0_; have HB := n1_; clear n0_ n1_; (try clear hb); (try clear hb2); (try clear hk); (try clear hi); obtain ⟨hcz24_0, hcz24_1, hcz24_2, hcz24_3, hcz24_4, hfz24_0, hfz24_1, hfz24_2, hfz24_3, hfz24_4⟩ := cl5 BK607.out) | (go_at_call 60; (with_reducible refine (spec_l04Has.calls a0_0 a0_1 a0_2 a3 false _ A11.out).mono ?_); rintro e w25 ⟨rfl, hb⟩; have n0_ := bkb BK607 hb (by intro z_; (with_reducible repeat (first | refine kDN ?_ _ | refine kD ?_ | refine kA ?_ _)); exact z_); have n1_ := aK (bSp (by repeat (first | (with_reducible first | exact HB.out | apply bAl | apply bDN | apply bD1 | refine bSt ?_ GE607.out) | exact HB.out)) hb); clear BK607; clear HB; have BK607 := n0_; have HB := n1_; clear n0_ n1_; (try clear hb); (try clear hb2); (try clear hk); (try clear hi)))
     go_meet
     case rel => exact ⟨_, (true), (by first | rfl | (simp; done) | (simp [*]; done)), H', ⟨by first | omega | exact Nat.le_refl _⟩, ⟨by (with_reducible repeat (first | refine kDN ?_ _ | refine kD ?_ | refine kA ?_ _)); exact BK607.out⟩, ⟨by repeat (first | (with_reducible first | exact HB.out | apply bAl | apply bDN | apply bD1 | refine bSt ?_ GE607.out) | exact HB.out)⟩⟩
   ·replace c10 := Bool.eq_false_iff.mpr c10
    subst c10
    have H1 : (spec_EarliestAt.j0 k a1 a2 a3 true a0_0 a0_1 a0_2 a0_3 l0_4) = some r := by rw [if_neg (show ¬ (false = true) by decide)] at H; exact H
    clear H
    have H := H1
    clear H1
    have H' := aK H
    clear H
    obtain ⟨hcz26_0, hcz26_1, hcz26_2, hcz26_3, hcz26_4, hfz26_0, hfz26_1, hfz26_2, hfz26_3, hfz26_4⟩ := cl5 BK607.out
    go_wp2_with (first | ((with_reducible refine gate_callee (f := 135) rfl ?_); refine goesL_ (some 14) rfl rfl Try.func135 (by kernel_rfl) rfl #[.agg #[.int .i64 a0_0, .int .i64 a0_1, .int .i64 a0_2, .int .i64 a0_3, .slice A0_4 l0_4.length c0_4]] rfl (by (try simp only [List.map_toArray, List.map_cons, List.map_nil]); first | done | rfl | (simp only [List.length_drop, List.length_take]; rfl)) ?_; (with_reducible refine (spec_TimedOk.calls k a0_0 a0_1 a0_2 a0_3 _ _ l0_4 true _ ?side1 ?side2 A7.out).mono ?_); (case side1 => repeat (first | exact (Kd.C_below HR0_4.out HB.out) | (with_reducible refine Kd.C_alloc ?_ _) | (with_reducible refine Kd.C_drewN ?_ _) | (with_reducible refine Kd.C_drew ?_))); (case side2 => exact HC0_4.out); rintro e w27 ⟨rfl, hb⟩; refine ⟨_, rfl, ?_⟩; have n0_ := bkb BK607 hb (by intro z_; (with_reducible repeat (first | refine kDN ?_ _ | refine kD ?_ | refine kA ?_ _)); exact z_); have n1_ := aK (bSp (by repeat (first | (with_reducible first | exact HB.out | apply bAl | apply bDN | apply bD1 | refine bSt ?_ GE607.out) | exact HB.out)) hb); clear BK607; clear HB; have BK607 := n0_; have HB := n1_; clear n0_ n1_; (try clear hb); (try clear hb2); (try clear hk); (try clear hi); obtain ⟨hcz28_0, hcz28_1, hcz28_2, hcz28_3, hcz28_4, hfz28_0, hfz28_1, hfz28_2, hfz28_3, hfz28_4⟩ := cl5 BK607.out) | (go_at_call 60; (with_reducible refine (spec_l04Has.calls a0_0 a0_1 a0_2 a1 false _ A9.out).mono ?_); rintro e w29 ⟨rfl, hb⟩; have n0_ := bkb BK607 hb (by intro z_; (with_reducible repeat (first | refine kDN ?_ _ | refine kD ?_ | refine kA ?_ _)); exact z_); have n1_ := aK (bSp (by repeat (first | (with_reducible first | exact HB.out | apply bAl | apply bDN | apply bD1 | refine bSt ?_ GE607.out) | exact HB.out)) hb); clear BK607; clear HB; have BK607 := n0_; have HB := n1_; clear n0_ n1_; (try clear hb); (try clear hb2); (try clear hk); (try clear hi)))
    go_meet
    case rel => exact ⟨_, (true), (by first | rfl | (simp; done) | (simp [*]; done)), H', ⟨by first | omega | exact Nat.le_refl _⟩, ⟨by (with_reducible repeat (first | refine kDN ?_ _ | refine kD ?_ | refine kA ?_ _)); exact BK607.out⟩, ⟨by repeat (first | (with_reducible first | exact HB.out | apply bAl | apply bDN | apply bD1 | refine bSt ?_ GE607.out) | exact HB.out)⟩⟩
  ·replace c8 := Bool.eq_false_iff.mpr c8
   subst c8
   have H1 : (spec_EarliestAt.j0 k a1 a2 a3 true a0_0 a0_1 a0_2 a0_3 l0_4) = some r := by rw [if_neg (show ¬ (false = true) by decide)] at H; exact H
   clear H
   have H := H1
   clear H1
   have H' := aK H
   clear H
   obtain ⟨hcz30_0, hcz30_1, hcz30_2, hcz30_3, hcz30_4, hfz30_0, hfz30_1, hfz30_2, hfz30_3, hfz30_4⟩ := cl5 BK607.out
   go_wp2_with (first | ((with_reducible refine gate_callee (f := 135) rfl ?_); refine goesL_ (some 14) rfl rfl Try.func135 (by kernel_rfl) rfl #[.agg #[.int .i64 a0_0, .int .i64 a0_1, .int .i64 a0_2, .int .i64 a0_3, .slice A0_4 l0_4.length c0_4]] rfl (by (try simp only [List.map_toArray, List.map_cons, List.map_nil]); first | done | rfl | (simp only [List.length_drop, List.length_take]; rfl)) ?_; (with_reducible refine (spec_TimedOk.calls k a0_0 a0_1 a0_2 a0_3 _ _ l0_4 false _ ?side1 ?side2 A7.out).mono ?_); (case side1 => repeat (first | exact (Kd.C_below HR0_4.out HB.out) | (with_reducible refine Kd.C_alloc ?_ _) | (with_reducible refine Kd.C_drewN ?_ _) | (with_reducible refine Kd.C_drew ?_))); (case side2 => exact HC0_4.out); rintro e w31 ⟨rfl, hb⟩; refine ⟨_, rfl, ?_⟩; have n0_ := bkb BK607 hb (by intro z_; (with_reducible repeat (first | refine kDN ?_ _ | refine kD ?_ | refine kA ?_ _)); exact z_); have n1_ := aK (bSp (by repeat (first | (with_reducible first | exact HB.out | apply bAl | apply bDN | apply bD1 | refine bSt ?_ GE607.out) | exact HB.out)) hb); clear BK607; clear HB; have BK607 := n0_; have HB := n1_; clear n0_ n1_; (try clear hb); (try clear hb2); (try clear hk); (try clear hi)))
   go_meet
   case rel => exact ⟨_, (true), (by first | rfl | (simp; done) | (simp [*]; done)), H', ⟨by first | omega | exact Nat.le_refl _⟩, ⟨by (with_reducible repeat (first | refine kDN ?_ _ | refine kD ?_ | refine kA ?_ _)); exact BK607.out⟩, ⟨by repeat (first | (with_reducible first | exact HB.out | apply bAl | apply bDN | apply bD1 | refine bSt ?_ GE607.out) | exact HB.out)⟩⟩
 case rest =>
  clear HC5
  try clear c1
  try clear p2
  try clear c8
  try clear c10
  try clear c12
  try clear c13
  try clear hcz14_0
  try clear hcz14_1
  try clear hcz14_2
  try clear hcz14_3
  try clear hcz14_4
  try clear hcz16_0
  try clear hcz16_1
  try clear hcz16_2
  try clear hcz16_3
  try clear hcz16_4
  try clear hcz18_0
  try clear hcz18_1
  try clear hcz18_2
  try clear hcz18_3
  try clear hcz18_4
  try clear hcz20_0
  try clear hcz20_1
  try clear hcz20_2
  try clear hcz20_3
  try clear hcz20_4
  try clear hcz22_0
  try clear hcz22_1
  try clear hcz22_2
  try clear hcz22_3
  try clear hcz22_4
  try clear hcz24_0
  try clear hcz24_1
  try clear hcz24_2
  try clear hcz24_3
  try clear hcz24_4
  try clear hcz26_0
  try clear hcz26_1
  try clear hcz26_2
  try clear hcz26_3
  try clear hcz26_4
  try clear hcz28_0
  try clear hcz28_1
  try clear hcz28_2
  try clear hcz28_3
  try clear hcz28_4
  try clear hcz30_0
  try clear hcz30_1
  try clear hcz30_2
  try clear hcz30_3
  try clear hcz30_4
  try clear hfz14_0
  try clear hfz14_1
  try clear hfz14_2
  try clear hfz14_3
  try clear hfz14_4
  try clear hfz16_0
  try clear hfz16_1
  try clear hfz16_2
  try clear hfz16_3
  try clear hfz16_4
  try clear hfz18_0
  try clear hfz18_1
  try clear hfz18_2
  try clear hfz18_3
  try clear hfz18_4
  try clear hfz20_0
  try clear hfz20_1
  try clear hfz20_2
  try clear hfz20_3
  try clear hfz20_4
  try clear hfz22_0
  try clear hfz22_1
  try clear hfz22_2
  try clear hfz22_3
  try clear hfz22_4
  try clear hfz24_0
  try clear hfz24_1
  try clear hfz24_2
  try clear hfz24_3
  try clear hfz24_4
  try clear hfz26_0
  try clear hfz26_1
  try clear hfz26_2
  try clear hfz26_3
  try clear hfz26_4
  try clear hfz28_0
  try clear hfz28_1
  try clear hfz28_2
  try clear hfz28_3
  try clear hfz28_4
  try clear hfz30_0
  try clear hfz30_1
  try clear hfz30_2
  try clear hfz30_3
  try clear hfz30_4
  obtain ⟨kq, x34_4, rfl, HA, HJ4, BK607, HB⟩ := hcut
  cases kq with
  | zero => exact absurd HA.out (by simp [spec_EarliestAt.j0])
  | succ kj4 =>
   have H := HA.out
   clear HA
   simp only [spec_EarliestAt.j0] at H
   by_cases c32 : x34_4 = true
   ·subst c32
    have H1 : (some (-1)) = some r := by rw [if_pos rfl] at H; exact H
    clear H
    have H := H1
    clear H1
    obtain rfl := Option.some.inj H
    go_wp2
    go_ret
    exact ⟨by first | rfl | (simp [errW_none, errW_some] <;> rfl) | (simp [*, errW_none, errW_some] <;> rfl), by repeat (first | (with_reducible first | exact HB.out | apply bAl | apply bDN | apply bD1 | refine bSt ?_ GE607.out) | exact HB.out)⟩
   ·replace c32 := Bool.eq_false_iff.mpr c32
    subst c32
    have H1 : (if 0 ≤ a1 then (spec_EarliestAt.l0 kj4 a2 a3 (shl .i64 1 a1) 0 0 a0_0 a0_1 a0_2 a0_3 l0_4) else (none)) = some r := by rw [if_neg (show ¬ (false = true) by decide)] at H; exact H
    clear H
    have H := H1
    clear H1
    by_cases c33 : 0 ≤ a1
    ·rw [if_pos c33] at H
     have c33b0 := eq_true c33
     have c33b1 : decide (0 ≤ a1) = true := decide_eq_true c33
     clear c33
     obtain ⟨ji34, hji34⟩ : ∃ j_ : Int, (shl .i64 1 a1) = j_ := ⟨_, rfl⟩
     replace H : (spec_EarliestAt.l0 kj4 a2 a3 ji34 0 0 a0_0 a0_1 a0_2 a0_3 l0_4) = some r := by first | (rw [hji34] at H; exact H) | (simp only [hji34] at H ⊢; exact H)
     have hji34_ : (IntKind.i64.wrap (1 * 2 ^ min a1.toNat 64)) = ji34 := hji34
     have hji34z : a1 ≤ 64 → (IntKind.i64.wrap (1 * 2 ^ a1.toNat)) = ji34 := shl_small hji34
     have hji34u : (IntKind.i64.wrap (2 ^ min a1.toNat 64)) = ji34 := by have h_ := hji34_; rw [Int.one_mul] at h_; exact h_
     have hji34v : a1 ≤ 64 → (IntKind.i64.wrap (2 ^ a1.toNat)) = ji34 := fun hle_ => by have h_ := hji34z hle_; rw [Int.one_mul] at h_; exact h_
     have hji34y : (wrap64 (1 * 2 ^ min a1.toNat 64)) = ji34 := (i64_w _).symm.trans hji34_
     have hji34x : a1 ≤ 64 → (wrap64 (1 * 2 ^ a1.toNat)) = ji34 := fun h_ => (i64_w _).symm.trans (hji34z h_)
     have H' := aK H
     clear H
     go_wp2
     go_loopg [9, 10, 11] kj4 (fun kq v9 v10 v11 w' => ∃ (x9_2 : Int) (x10_2 : Int) (x11_2 : Int), v9 = .int .i64 x9_2 ∧ v10 = .int .i64 x10_2 ∧ v11 = .int .i64 x11_2 ∧ Aside0 (spec_EarliestAt.l0 kq a2 a3 x9_2 x10_2 x11_2 a0_0 a0_1 a0_2 a0_3 l0_4 = some r) ∧ Aside0 (kq ≤ kj4) ∧ Aside0 (w'.heap[gb607]? = some (.cells #[.int .i64 a0_0, .int .i64 a0_1, .int .i64 a0_2, .int .i64 a0_3, (.slice A0_4 l0_4.length c0_4)] 58 (0, 0))) ∧ Aside0 (Below w.heap.size w w'))
     case atStart => exact ⟨(ji34), (0), (0), (by first | rfl | (simp; done) | (simp only [← hji34] <;> (first | rfl | simp)) | (simp [*]; done)), (by first | rfl | (simp; done) | (simp [*]; done)), (by first | rfl | (simp; done) | (simp [*]; done)), H', ⟨Nat.le_refl _⟩, ⟨by (with_reducible repeat (first | refine kDN ?_ _ | refine kD ?_ | refine kA ?_ _)); exact BK607.out⟩, ⟨by repeat (first | (with_reducible first | exact HB.out | apply bAl | apply bDN | apply bD1 | refine bSt ?_ GE607.out) | exact HB.out)⟩⟩
     case round =>
      clear H'
      try clear c1
      try clear p2
      try clear c3
      try clear p6
      try clear c8
      try clear c10
      try clear c12
      try clear c13
      try clear c32
      try clear c33
      try clear c33b0
      try clear c33b1
      try clear hcz14_0
      try clear hcz14_1
      try clear hcz14_2
      try clear hcz14_3
      try clear hcz14_4
      try clear hcz16_0
      try clear hcz16_1
      try clear hcz16_2
      try clear hcz16_3
      try clear hcz16_4
      try clear hcz18_0
      try clear hcz18_1
      try clear hcz18_2
      try clear hcz18_3
      try clear hcz18_4
      try clear hcz20_0
      try clear hcz20_1
      try clear hcz20_2
      try clear hcz20_3
      try clear hcz20_4
      try clear hcz22_0
      try clear hcz22_1
      try clear hcz22_2
      try clear hcz22_3
      try clear hcz22_4
      try clear hcz24_0
      try clear hcz24_1
      try clear hcz24_2
      try clear hcz24_3
      try clear hcz24_4
      try clear hcz26_0
      try clear hcz26_1
      try clear hcz26_2
      try clear hcz26_3
      try clear hcz26_4
      try clear hcz28_0
      try clear hcz28_1
      try clear hcz28_2
      try clear hcz28_3
      try clear hcz28_4
      try clear hcz30_0
      try clear hcz30_1
      try clear hcz30_2
      try clear hcz30_3
      try clear hcz30_4
      try clear hfz14_0
      try clear hfz14_1
      try clear hfz14_2
      try clear hfz14_3
      try clear hfz14_4
      try clear hfz16_0
      try clear hfz16_1
      try clear hfz16_2
      try clear hfz16_3
      try clear hfz16_4
      try clear hfz18_0
      try clear hfz18_1
      try clear hfz18_2
      try clear hfz18_3
      try clear hfz18_4
      try clear hfz20_0
      try clear hfz20_1
      try clear hfz20_2
      try clear hfz20_3
      try clear hfz20_4
      try clear hfz22_0
      try clear hfz22_1
      try clear hfz22_2
      try clear hfz22_3
      try clear hfz22_4
      try clear hfz24_0
      try clear hfz24_1
      try clear hfz24_2
      try clear hfz24_3
      try clear hfz24_4
      try clear hfz26_0
      try clear hfz26_1
      try clear hfz26_2
      try clear hfz26_3
      try clear hfz26_4
      try clear hfz28_0
      try clear hfz28_1
      try clear hfz28_2
      try clear hfz28_3
      try clear hfz28_4
      try clear hfz30_0
      try clear hfz30_1
      try clear hfz30_2
      try clear hfz30_3
      try clear hfz30_4
      try clear p2
      obtain ⟨x9_2, x10_2, x11_2, rfl, rfl, rfl, HA, HK2, BK607, HB⟩ := hrel
      cases gk with
      | zero => exact absurd HA.out (by simp [spec_EarliestAt.l0])
      | succ k2 =>
       have H := HA.out
       clear HA
       simp only [spec_EarliestAt.l0] at H
       have HC35 := aK H
       clear H
       go_upto_region 6 with (fail)
       go_cut [44] (fun v44 wc => ∃ (kq : Nat) (x44_34 : Bool), v44 = .bool x44_34 ∧ Aside0 (spec_EarliestAt.j2 kq a2 a3 x9_2 x10_2 x11_2 x44_34 a0_0 a0_1 a0_2 a0_3 l0_4 = some r) ∧ Aside0 (kq ≤ k2) ∧ Aside0 (wc.heap[gb607]? = some (.cells #[.int .i64 a0_0, .int .i64 a0_1, .int .i64 a0_2, .int .i64 a0_3, (.slice A0_4 l0_4.length c0_4)] 58 (0, 0))) ∧ Aside0 (Below w.heap.size w wc))
       case first =>
        have H := HC35.out
        clear HC35
        by_cases c36 : x11_2 ≤ 200
        ·rw [if_pos c36] at H
         have c36b0 : decide (x11_2 ≤ 200) = true := decide_eq_true c36
         clear c36
         (first | rw [c36b0] | (simp only [i64_w, i32_w]; rw [c36b0]) | skip)
         have H' := aK H
         clear H
         obtain ⟨hcz37_0, hcz37_1, hcz37_2, hcz37_3, hcz37_4, hfz37_0, hfz37_1, hfz37_2, hfz37_3, hfz37_4⟩ := cl5 BK607.out
         go_wp2
         go_meet
         case rel => exact ⟨_, (decide (x10_2 ≤ a0_3)), (by first | rfl | (simp; done) | (simp [*]; done)), H', ⟨by have := HJ4.out; have := HK2.out; first | omega | exact Nat.le_refl _⟩, ⟨by (with_reducible repeat (first | refine kDN ?_ _ | refine kD ?_ | refine kA ?_ _)); exact BK607.out⟩, ⟨by repeat (first | (with_reducible first | exact HB.out | apply bAl | apply bDN | apply bD1 | refine bSt ?_ GE607.out) | exact HB.out)⟩⟩
        ·rw [if_neg c36] at H
         have c36b0 : decide (x11_2 ≤ 200) = false := decide_eq_false c36
         clear c36
         (first | rw [c36b0] | (simp only [i64_w, i32_w]; rw [c36b0]) | skip)
         have H' := aK H
         clear H
         go_wp2
         go_meet
         case rel => exact ⟨_, (false), (by first | rfl | (simp; done) | (simp [*]; done)), H', ⟨by have := HJ4.out; have := HK2.out; first | omega | exact Nat.le_refl _⟩, ⟨by (with_reducible repeat (first | refine kDN ?_ _ | refine kD ?_ | refine kA ?_ _)); exact BK607.out⟩, ⟨by repeat (first | (with_reducible first | exact HB.out | apply bAl | apply bDN | apply bD1 | refine bSt ?_ GE607.out) | exact HB.out)⟩⟩
       case rest =>
        clear HC35
        try clear c1
        try clear p2
        try clear c3
        try clear p6
        try clear c8
        try clear c10
        try clear c12
        try clear c13
        try clear c32
        try clear c33
        try clear c33b0
        try clear c33b1
        try clear c36
        try clear c36b0
        try clear hcz14_0
        try clear hcz14_1
        try clear hcz14_2
        try clear hcz14_3
        try clear hcz14_4
        try clear hcz16_0
        try clear hcz16_1
        try clear hcz16_2
        try clear hcz16_3
        try clear hcz16_4
        try clear hcz18_0
        try clear hcz18_1
        try clear hcz18_2
        try clear hcz18_3
        try clear hcz18_4
        try clear hcz20_0
        try clear hcz20_1
        try clear hcz20_2
        try clear hcz20_3
        try clear hcz20_4
        try clear hcz22_0
        try clear hcz22_1
        try clear hcz22_2
        try clear hcz22_3
        try clear hcz22_4
        try clear hcz24_0
        try clear hcz24_1
        try clear hcz24_2
        try clear hcz24_3
        try clear hcz24_4
        try clear hcz26_0
        try clear hcz26_1
        try clear hcz26_2
        try clear hcz26_3
        try clear hcz26_4
        try clear hcz28_0
        try clear hcz28_1
        try clear hcz28_2
        try clear hcz28_3
        try clear hcz28_4
        try clear hcz30_0
        try clear hcz30_1
        try clear hcz30_2
        try clear hcz30_3
        try clear hcz30_4
        try clear hcz37_0
        try clear hcz37_1
        try clear hcz37_2
        try clear hcz37_3
        try clear hcz37_4
        try clear hfz14_0
        try clear hfz14_1
        try clear hfz14_2
        try clear hfz14_3
        try clear hfz14_4
        try clear hfz16_0
        try clear hfz16_1
        try clear hfz16_2
        try clear hfz16_3
        try clear hfz16_4
        try clear hfz18_0
        try clear hfz18_1
        try clear hfz18_2
        try clear hfz18_3
        try clear hfz18_4
        try clear hfz20_0
        try clear hfz20_1
        try clear hfz20_2
        try clear hfz20_3
        try clear hfz20_4
        try clear hfz22_0
        try clear hfz22_1
        try clear hfz22_2
        try clear hfz22_3
        try clear hfz22_4
        try clear hfz24_0
        try clear hfz24_1
        try clear hfz24_2
        try clear hfz24_3
        try clear hfz24_4
        try clear hfz26_0
        try clear hfz26_1
        try clear hfz26_2
        try clear hfz26_3
        try clear hfz26_4
        try clear hfz28_0
        try clear hfz28_1
        try clear hfz28_2
        try clear hfz28_3
        try clear hfz28_4
        try clear hfz30_0
        try clear hfz30_1
        try clear hfz30_2
        try clear hfz30_3
        try clear hfz30_4
        try clear hfz37_0
        try clear hfz37_1
        try clear hfz37_2
        try clear hfz37_3
        try clear hfz37_4
        try clear p2
        try clear p6
        obtain ⟨kq, x44_34, rfl, HA, HJ34, BK607, HB⟩ := hcut
        cases kq with
        | zero => exact absurd HA.out (by simp [spec_EarliestAt.j2])
        | succ kj34 =>
         have H := HA.out
         clear HA
         simp only [spec_EarliestAt.j2] at H
         by_cases c38 : x44_34 = true
         ·subst c38
          have H1 : ((spec_l03Bit.f x9_2 a3).bind fun t612 => (if t612 = true then (some (wrap64 (a2 + x11_2))) else ((spec_l29Maze.f kj34 a0_0 a0_1 a0_2 a0_3 l0_4 (wrap64 (a2 + x11_2))).bind fun bt613 => ((spec_l29Next.f kj34 bt613.1 bt613.2.1 bt613.2.2 x9_2).bind fun t616 => (if t616 = x9_2 then (spec_EarliestAt.l0 kj34 a2 a3 t616 (wrap64 (x10_2 + 1)) (wrap64 (x11_2 + 1)) a0_0 a0_1 a0_2 a0_3 l0_4) else (spec_EarliestAt.l0 kj34 a2 a3 t616 0 (wrap64 (x11_2 + 1)) a0_0 a0_1 a0_2 a0_3 l0_4)))))) = some r := by rw [if_pos rfl] at H; exact H
          clear H
          have H := H1
          clear H1
          replace H := Option.bind_eq_some_iff.mp H
          obtain ⟨t612, A390, H⟩ := H
          replace H : (if t612 = true then (some (wrap64 (a2 + x11_2))) else ((spec_l29Maze.f kj34 a0_0 a0_1 a0_2 a0_3 l0_4 (wrap64 (a2 + x11_2))).bind fun bt613 => ((spec_l29Next.f kj34 bt613.1 bt613.2.1 bt613.2.2 x9_2).bind fun t616 => (if t616 = x9_2 then (spec_EarliestAt.l0 kj34 a2 a3 t616 (wrap64 (x10_2 + 1)) (wrap64 (x11_2 + 1)) a0_0 a0_1 a0_2 a0_3 l0_4) else (spec_EarliestAt.l0 kj34 a2 a3 t616 0 (wrap64 (x11_2 + 1)) a0_0 a0_1 a0_2 a0_3 l0_4))))) = some r := H
          have A39 := aK A390
          clear A390
          by_cases c40 : t612 = true
          ·subst c40
           have H1 : (some (wrap64 (a2 + x11_2))) = some r := by rw [if_pos rfl] at H; exact H
           clear H
           have H := H1
           clear H1
           obtain rfl := Option.some.inj H
           go_wp2_with (first | ((with_reducible refine gate_callee (f := 82) rfl ?_); refine goesL_ (some 49) rfl rfl Try.func82 (by kernel_rfl) rfl #[.int .i64 x9_2, .int .i64 a3] rfl (by (try simp only [List.map_toArray, List.map_cons, List.map_nil]); first | done | rfl | (simp only [List.length_drop, List.length_take]; rfl)) ?_; (with_reducible refine (spec_l03Bit.calls x9_2 a3 true _ A39.out).mono ?_); rintro e w' ⟨rfl, ⟨nd, rfl⟩⟩; refine ⟨_, rfl, ?_⟩))
           go_ret
           exact ⟨by first | rfl | (simp [errW_none, errW_some] <;> rfl) | (simp only [← hji34]; first | rfl | (simp [errW_none, errW_some] <;> rfl)) | (simp [*, errW_none, errW_some] <;> rfl), by repeat (first | (with_reducible first | exact HB.out | apply bAl | apply bDN | apply bD1 | refine bSt ?_ GE607.out) | exact HB.out)⟩
          ·replace c40 := Bool.eq_false_iff.mpr c40
           subst c40
           have H1 : ((spec_l29Maze.f kj34 a0_0 a0_1 a0_2 a0_3 l0_4 (wrap64 (a2 + x11_2))).bind fun bt613 => ((spec_l29Next.f kj34 bt613.1 bt613.2.1 bt613.2.2 x9_2).bind fun t616 => (if t616 = x9_2 then (spec_EarliestAt.l0 kj34 a2 a3 t616 (wrap64 (x10_2 + 1)) (wrap64 (x11_2 + 1)) a0_0 a0_1 a0_2 a0_3 l0_4) else (spec_EarliestAt.l0 kj34 a2 a3 t616 0 (wrap64 (x11_2 + 1)) a0_0 a0_1 a0_2 a0_3 l0_4)))) = some r := by rw [if_neg (show ¬ (false = true) by decide)] at H; exact H
           clear H
           have H := H1
           clear H1
           replace H := Option.bind_eq_some_iff.mp H
           obtain ⟨⟨t613, t614, t615⟩, A410, H⟩ := H
           replace H : ((spec_l29Next.f kj34 t613 t614 t615 x9_2).bind fun t616 => (if t616 = x9_2 then (spec_EarliestAt.l0 kj34 a2 a3 t616 (wrap64 (x10_2 + 1)) (wrap64 (x11_2 + 1)) a0_0 a0_1 a0_2 a0_3 l0_4) else (spec_EarliestAt.l0 kj34 a2 a3 t616 0 (wrap64 (x11_2 + 1)) a0_0 a0_1 a0_2 a0_3 l0_4))) = some r := H
           have A41 := aK A410
           clear A410
           replace H := Option.bind_eq_some_iff.mp H
           obtain ⟨t616, A420, H⟩ := H
           replace H : (if t616 = x9_2 then (spec_EarliestAt.l0 kj34 a2 a3 t616 (wrap64 (x10_2 + 1)) (wrap64 (x11_2 + 1)) a0_0 a0_1 a0_2 a0_3 l0_4) else (spec_EarliestAt.l0 kj34 a2 a3 t616 0 (wrap64 (x11_2 + 1)) a0_0 a0_1 a0_2 a0_3 l0_4)) = some r := H
           have A42 := aK A420
           clear A420
           by_cases c43 : t616 = x9_2
           ·rw [if_pos c43] at H
            have c43b0 : (t616 == x9_2) = true := beq_iff_eq.mpr c43
            have c43b1 : (t616 != x9_2) = false := bne_eq_false_iff_eq.mpr c43
            clear c43
            have H' := aK H
            clear H
            go_wp2_with (first | ((with_reducible refine gate_callee (f := 82) rfl ?_); refine goesL_ (some 49) rfl rfl Try.func82 (by kernel_rfl) rfl #[.int .i64 x9_2, .int .i64 a3] rfl (by (try simp only [List.map_toArray, List.map_cons, List.map_nil]); first | done | rfl | (simp only [List.length_drop, List.length_take]; rfl)) ?_; (with_reducible refine (spec_l03Bit.calls x9_2 a3 false _ A39.out).mono ?_); rintro e w' ⟨rfl, ⟨nd, rfl⟩⟩; refine ⟨_, rfl, ?_⟩; obtain ⟨hcz44_0, hcz44_1, hcz44_2, hcz44_3, hcz44_4, hfz44_0, hfz44_1, hfz44_2, hfz44_3, hfz44_4⟩ := cl5 BK607.out) | ((with_reducible refine gate_callee (f := 137) rfl ?_); refine goesL_ (some 57) rfl rfl Try.func137 (by kernel_rfl) rfl #[.agg #[.int .i64 a0_0, .int .i64 a0_1, .int .i64 a0_2, .int .i64 a0_3, .slice A0_4 l0_4.length c0_4], .int .i64 (wrap64 (a2 + x11_2))] rfl (by (try simp only [List.map_toArray, List.map_cons, List.map_nil]); first | done | rfl | (simp only [List.length_drop, List.length_take]; rfl)) ?_; (with_reducible refine (spec_l29Maze.calls kj34 a0_0 a0_1 a0_2 a0_3 _ _ l0_4 (wrap64 (a2 + x11_2)) t613 t614 t615 _ ?side1 ?side2 A41.out).mono ?_); (case side1 => repeat (first | exact (Kd.C_below HR0_4.out (by repeat (first | (with_reducible first | exact HB.out | apply bAl | apply bDN | apply bD1 | refine bSt ?_ GE607.out) | exact HB.out))) | (with_reducible refine Kd.C_alloc ?_ _) | (with_reducible refine Kd.C_drewN ?_ _) | (with_reducible refine Kd.C_drew ?_))); (case side2 => exact HC0_4.out); rintro e w45 ⟨rfl, hb⟩; refine ⟨_, rfl, ?_⟩; have n0_ := bkb BK607 hb (by intro z_; (with_reducible repeat (first | refine kDN ?_ _ | refine kD ?_ | refine kA ?_ _)); exact z_); have n1_ := aK (bSp (by repeat (first | (with_reducible first | exact HB.out | apply bAl | apply bDN | apply bD1 | refine bSt ?_ GE607.out) | exact HB.out)) hb); clear BK607; clear HB; have BK607 := n0_; have HB := n1_; clear n0_ n1_; (try clear hb); (try clear hb2); (try clear hk); (try clear hi)) | ((with_reducible refine gate_callee (f := 136) rfl ?_); refine goesL_ (some 59) rfl rfl Try.func136 (by kernel_rfl) rfl #[.agg #[.int .i64 t613, .int .i64 t614, .int .i64 t615], .int .i64 x9_2] rfl (by (try simp only [List.map_toArray, List.map_cons, List.map_nil]); first | done | rfl | (simp only [List.length_drop, List.length_take]; rfl)) ?_; (with_reducible refine (spec_l29Next.calls kj34 t613 t614 t615 x9_2 t616 _ A42.out).mono ?_); rintro e w46 ⟨rfl, hb⟩; refine ⟨_, rfl, ?_⟩; have n0_ := bkb BK607 hb (by intro z_; (with_reducible repeat (first | refine kDN ?_ _ | refine kD ?_ | refine kA ?_ _)); exact z_); have n1_ := aK (bSp (by repeat (first | (with_reducible first | exact HB.out | apply bAl | apply bDN | apply bD1 | refine bSt ?_ GE607.out) | exact HB.out)) hb); clear BK607; clear HB; have BK607 := n0_; have HB := n1_; clear n0_ n1_; (try clear hb); (try clear hb2); (try clear hk); (try clear hi)))
            go_roundg kj34
            case measure => have := HJ4.out; have := HK2.out; have := HJ34.out; omega
            case rel => exact ⟨(t616), (wrap64 (x10_2 + 1)), (wrap64 (x11_2 + 1)), (by first | rfl | (simp; done) | (simp [*]; done)), (by first | rfl | (simp; done) | (simp [*]; done)), (by first | rfl | (simp; done) | (simp [*]; done)), H', ⟨by have := HJ4.out; have := HK2.out; have := HJ34.out; omega⟩, ⟨by (with_reducible repeat (first | refine kDN ?_ _ | refine kD ?_ | refine kA ?_ _)); exact BK607.out⟩, ⟨by repeat (first | (with_reducible first | exact HB.out | apply bAl | apply bDN | apply bD1 | refine bSt ?_ GE607.out) | exact HB.out)⟩⟩
           ·rw [if_neg c43] at H
            have c43b0 : (t616 == x9_2) = false := beq_eq_false_iff_ne.mpr c43
            have c43b1 : (t616 != x9_2) = true := bne_iff_ne.mpr c43
            have H' := aK H
            clear H
            go_wp2_with (first | ((with_reducible refine gate_callee (f := 82) rfl ?_); refine goesL_ (some 49) rfl rfl Try.func82 (by kernel_rfl) rfl #[.int .i64 x9_2, .int .i64 a3] rfl (by (try simp only [List.map_toArray, List.map_cons, List.map_nil]); first | done | rfl | (simp only [List.length_drop, List.length_take]; rfl)) ?_; (with_reducible refine (spec_l03Bit.calls x9_2 a3 false _ A39.out).mono ?_); rintro e w' ⟨rfl, ⟨nd, rfl⟩⟩; refine ⟨_, rfl, ?_⟩; obtain ⟨hcz47_0, hcz47_1, hcz47_2, hcz47_3, hcz47_4, hfz47_0, hfz47_1, hfz47_2, hfz47_3, hfz47_4⟩ := cl5 BK607.out) | ((with_reducible refine gate_callee (f := 137) rfl ?_); refine goesL_ (some 57) rfl rfl Try.func137 (by kernel_rfl) rfl #[.agg #[.int .i64 a0_0, .int .i64 a0_1, .int .i64 a0_2, .int .i64 a0_3, .slice A0_4 l0_4.length c0_4], .int .i64 (wrap64 (a2 + x11_2))] rfl (by (try simp only [List.map_toArray, List.map_cons, List.map_nil]); first | done | rfl | (simp only [List.length_drop, List.length_take]; rfl)) ?_; (with_reducible refine (spec_l29Maze.calls kj34 a0_0 a0_1 a0_2 a0_3 _ _ l0_4 (wrap64 (a2 + x11_2)) t613 t614 t615 _ ?side1 ?side2 A41.out).mono ?_); (case side1 => repeat (first | exact (Kd.C_below HR0_4.out (by repeat (first | (with_reducible first | exact HB.out | apply bAl | apply bDN | apply bD1 | refine bSt ?_ GE607.out) | exact HB.out))) | (with_reducible refine Kd.C_alloc ?_ _) | (with_reducible refine Kd.C_drewN ?_ _) | (with_reducible refine Kd.C_drew ?_))); (case side2 => exact HC0_4.out); rintro e w48 ⟨rfl, hb⟩; refine ⟨_, rfl, ?_⟩; have n0_ := bkb BK607 hb (by intro z_; (with_reducible repeat (first | refine kDN ?_ _ | refine kD ?_ | refine kA ?_ _)); exact z_); have n1_ := aK (bSp (by repeat (first | (with_reducible first | exact HB.out | apply bAl | apply bDN | apply bD1 | refine bSt ?_ GE607.out) | exact HB.out)) hb); clear BK607; clear HB; have BK607 := n0_; have HB := n1_; clear n0_ n1_; (try clear hb); (try clear hb2); (try clear hk); (try clear hi)) | ((with_reducible refine gate_callee (f := 136) rfl ?_); refine goesL_ (some 59) rfl rfl Try.func136 (by kernel_rfl) rfl #[.agg #[.int .i64 t613, .int .i64 t614, .int .i64 t615], .int .i64 x9_2] rfl (by (try simp only [List.map_toArray, List.map_cons, List.map_nil]); first | done | rfl | (simp only [List.length_drop, List.length_take]; rfl)) ?_; (with_reducible refine (spec_l29Next.calls kj34 t613 t614 t615 x9_2 t616 _ A42.out).mono ?_); rintro e w49 ⟨rfl, hb⟩; refine ⟨_, rfl, ?_⟩; have n0_ := bkb BK607 hb (by intro z_; (with_reducible repeat (first | refine kDN ?_ _ | refine kD ?_ | refine kA ?_ _)); exact z_); have n1_ := aK (bSp (by repeat (first | (with_reducible first | exact HB.out | apply bAl | apply bDN | apply bD1 | refine bSt ?_ GE607.out) | exact HB.out)) hb); clear BK607; clear HB; have BK607 := n0_; have HB := n1_; clear n0_ n1_; (try clear hb); (try clear hb2); (try clear hk); (try clear hi)))
            go_roundg kj34
            case measure => have := HJ4.out; have := HK2.out; have := HJ34.out; omega
            case rel => exact ⟨(t616), (0), (wrap64 (x11_2 + 1)), (by first | rfl | (simp; done) | (simp [*]; done)), (by first | rfl | (simp; done) | (simp [*]; done)), (by first | rfl | (simp; done) | (simp [*]; done)), H', ⟨by have := HJ4.out; have := HK2.out; have := HJ34.out; omega⟩, ⟨by (with_reducible repeat (first | refine kDN ?_ _ | refine kD ?_ | refine kA ?_ _)); exact BK607.out⟩, ⟨by repeat (first | (with_reducible first | exact HB.out | apply bAl | apply bDN | apply bD1 | refine bSt ?_ GE607.out) | exact HB.out)⟩⟩
         ·replace c38 := Bool.eq_false_iff.mpr c38
          subst c38
          have H1 : (some (-1)) = some r := by rw [if_neg (show ¬ (false = true) by decide)] at H; exact H
          clear H
          have H := H1
          clear H1
          obtain rfl := Option.some.inj H
          go_wp2
          go_ret
          exact ⟨by first | rfl | (simp [errW_none, errW_some] <;> rfl) | (simp only [← hji34]; first | rfl | (simp [errW_none, errW_some] <;> rfl)) | (simp [*, errW_none, errW_some] <;> rfl), by repeat (first | (with_reducible first | exact HB.out | apply bAl | apply bDN | apply bD1 | refine bSt ?_ GE607.out) | exact HB.out)⟩
    ·rw [if_neg c33] at H
     exact absurd H (by simp)
set_option maxHeartbeats 8000000 in
set_option maxRecDepth 100000 in
theorem spec_CanFollow.calls (k : Nat) (a0_0 : Int) (a0_1 : Int) (a0_2 : Int) (a0_3 : Int) (A0_4 : Option Addr) (c0_4 : Nat) (l0_4 : List (SGate)) (a1_0 : Int) (a1_1 : Int) (a2_0 : Int) (a2_1 : Int) (r : Bool) (w : World) (hr0_4 : Kd.C k137 w A0_4 l0_4.length l0_4) (hc0_4 : l0_4.length ≤ c0_4) (h : spec_CanFollow.f k a0_0 a0_1 a0_2 a0_3 l0_4 a1_0 a1_1 a2_0 a2_1 = some r) :
  Calls Try.prog 35 #[.agg #[.int .i64 a0_0, .int .i64 a0_1, .int .i64 a0_2, .int .i64 a0_3, .slice A0_4 l0_4.length c0_4], .agg #[.int .i64 a1_0, .int .i64 a1_1], .agg #[.int .i64 a2_0, .int .i64 a2_1]] w fun e w' => e = .returned (.bool r) ∧ Below w.heap.size w w' := by
 have hu58 := Try.underlying58
 have hu60 := Try.underlying60
 have HR0_4 := aK hr0_4
 have HC0_4 := aK hc0_4
 clear hr0_4 hc0_4
 have HB := aK (Below.refl w.heap.size w)
 have H : ((spec_EarliestAt.f k a0_0 a0_1 a0_2 a0_3 l0_4 a1_1 a1_0 a2_1).bind fun t620 => (if t620 ≥ 0 then (some (decide (t620 ≤ a2_0))) else (some false))) = some r := h
 clear h
 replace H := Option.bind_eq_some_iff.mp H
 obtain ⟨t620, A40, H⟩ := H
 replace H : (if t620 ≥ 0 then (some (decide (t620 ≤ a2_0))) else (some false)) = some r := H
 have A4 := aK A40
 clear A40
 by_cases c5 : t620 ≥ 0
 ·rw [if_pos c5] at H
  have c5b0 : decide (0 ≤ t620) = true := decide_eq_true c5
  clear c5
  obtain rfl := Option.some.inj H
  go_enter Try.func35, Try.ntmps35
  go_wp2_with (first | ((with_reducible refine gate_dst (N := 3) rfl ?_); refine box_event ?hg (N := 3) ?hd (cs := #[.int .i64 a0_0, .int .i64 a0_1, .int .i64 a0_2, .int .i64 a0_3, .slice A0_4 l0_4.length c0_4]) (t := 58) ?hr ?_; (case hd => rfl); (case hg => rfl); (case hr => first | (go_simp; done) | (go_simp; rfl)); intro gb617 hg w6 hbox hb; have n0_ := aK (bSp (by repeat (first | (with_reducible first | exact HB.out | apply bAl | apply bDN | apply bD1) | exact HB.out)) hb); have n1_ := aK (hbox); have n2_ := aK ((by rw [hg]; exact (bSz (by repeat (first | (with_reducible first | exact HB.out | apply bAl | apply bDN | apply bD1) | exact HB.out))) : w.heap.size ≤ gb617)); have n3_ := n2_; clear HB; have HB := n0_; have BK617 := n1_; have GW617 := n2_; have GE617 := n3_; clear n0_ n1_ n2_ n3_; clear hb hbox hg) | ((with_reducible refine gate_dst (N := 4) rfl ?_); refine box_event ?hg (N := 4) ?hd (cs := #[.int .i64 a1_0, .int .i64 a1_1]) (t := 60) ?hr ?_; (case hd => rfl); (case hg => rfl); (case hr => first | (go_simp; done) | (go_simp; rfl)); intro gb618 hg w7 hbox hb; have n0_ := bkb BK617 hb (by intro z_; (with_reducible repeat (first | refine kDN ?_ _ | refine kD ?_ | refine kA ?_ _)); exact z_); have n1_ := aK (bSp (by repeat (first | (with_reducible first | exact HB.out | apply bAl | apply bDN | apply bD1 | refine bSt ?_ GE617.out) | exact HB.out)) hb); have n2_ := aK (hbox); have n3_ := aK ((by rw [hg]; exact (bSz (by repeat (first | (with_reducible first | exact HB.out | apply bAl | apply bDN | apply bD1 | refine bSt ?_ GE617.out) | exact HB.out))) : w.heap.size ≤ gb618)); have n4_ := n3_; have n5_ := nbl BK617 hg (by intro z_; (with_reducible repeat (first | refine kDN ?_ _ | refine kD ?_ | refine kA ?_ _)); exact z_); have n6_ := nbs n5_; clear BK617; clear HB; have BK617 := n0_; have HB := n1_; have BK618 := n2_; have GW618 := n3_; have GE618 := n4_; have NB617_618 := n5_; have NB618_617 := n6_; clear n0_ n1_ n2_ n3_ n4_ n5_ n6_; clear hb hbox hg) | ((with_reducible refine gate_dst (N := 5) rfl ?_); refine box_event ?hg (N := 5) ?hd (cs := #[.int .i64 a2_0, .int .i64 a2_1]) (t := 60) ?hr ?_; (case hd => rfl); (case hg => rfl); (case hr => first | (go_simp; done) | (go_simp; rfl)); intro gb619 hg w8 hbox hb; have n0_ := bkb BK617 hb (by intro z_; (with_reducible repeat (first | refine kDN ?_ _ | refine kD ?_ | refine kA ?_ _)); exact z_); have n1_ := bkb BK618 hb (by intro z_; (with_reducible repeat (first | refine kDN ?_ _ | refine kD ?_ | refine kA ?_ _)); exact z_); have n2_ := aK (bSp (by repeat (first | (with_reducible first | exact HB.out | apply bAl | apply bDN | apply bD1 | refine bSt ?_ GE617.out | refine bSt ?_ GE618.out) | exact HB.out)) hb); have n3_ := aK (hbox); have n4_ := aK ((by rw [hg]; exact (bSz (by repeat (first | (with_reducible first | exact HB.out | apply bAl | apply bDN | apply bD1 | refine bSt ?_ GE617.out | refine bSt ?_ GE618.out) | exact HB.out))) : w.heap.size ≤ gb619)); have n5_ := n4_; have n6_ := nbl BK617 hg (by intro z_; (with_reducible repeat (first | refine kDN ?_ _ | refine kD ?_ | refine kA ?_ _)); exact z_); have n7_ := nbs n6_; have n8_ := nbl BK618 hg (by intro z_; (with_reducible repeat (first | refine kDN ?_ _ | refine kD ?_ | refine kA ?_ _)); exact z_); have n9_ := nbs n8_; clear BK617; clear BK618; clear HB; have BK617 := n0_; have BK618 := n1_; have HB := n2_; have BK619 := n3_; have GW619 := n4_; have GE619 := n5_; have NB617_619 := n6_; have NB619_617 := n7_; have NB618_619 := n8_; have NB619_618 := n9_; clear n0_ n1_ n2_ n3_ n4_ n5_ n6_ n7_ n8_ n9_; clear hb hbox hg; have hnb9 := NB617_618.out; have hnc9 := NB618_617.out; have hnb10 := NB617_619.out; have hnc10 := NB619_617.out; obtain ⟨hcz11_0, hcz11_1, hcz11_2, hcz11_3, hcz11_4, hfz11_0, hfz11_1, hfz11_2, hfz11_3, hfz11_4⟩ := cl5 BK617.out; have hnb12 := NB618_619.out; have hnc12 := NB619_618.out; obtain ⟨hcz13_0, hcz13_1, hfz13_0, hfz13_1⟩ := cl2 BK618.out; obtain ⟨hcz14_0, hcz14_1, hfz14_0, hfz14_1⟩ := cl2 BK619.out) | ((with_reducible refine gate_callee (f := 85) rfl ?_); refine goesL_ (some 15) rfl rfl Try.func85 (by kernel_rfl) rfl #[.agg #[.int .i64 a0_0, .int .i64 a0_1, .int .i64 a0_2, .int .i64 a0_3, .slice A0_4 l0_4.length c0_4], .int .i64 a1_1, .int .i64 a1_0, .int .i64 a2_1] rfl (by (try simp only [List.map_toArray, List.map_cons, List.map_nil]); first | done | rfl | (simp only [List.length_drop, List.length_take]; rfl)) ?_; (with_reducible refine (spec_EarliestAt.calls k a0_0 a0_1 a0_2 a0_3 _ _ l0_4 a1_1 a1_0 a2_1 t620 _ ?side1 ?side2 A4.out).mono ?_); (case side1 => repeat (first | exact (Kd.C_below HR0_4.out HB.out) | (with_reducible refine Kd.C_alloc ?_ _) | (with_reducible refine Kd.C_drewN ?_ _) | (with_reducible refine Kd.C_drew ?_))); (case side2 => exact HC0_4.out); rintro e w15 ⟨rfl, hb⟩; refine ⟨_, rfl, ?_⟩; have n0_ := bkb BK617 hb (by intro z_; (with_reducible repeat (first | refine kDN ?_ _ | refine kD ?_ | refine kA ?_ _)); exact z_); have n1_ := bkb BK618 hb (by intro z_; (with_reducible repeat (first | refine kDN ?_ _ | refine kD ?_ | refine kA ?_ _)); exact z_); have n2_ := bkb BK619 hb (by intro z_; (with_reducible repeat (first | refine kDN ?_ _ | refine kD ?_ | refine kA ?_ _)); exact z_); have n3_ := aK (bSp (by repeat (first | (with_reducible first | exact HB.out | apply bAl | apply bDN | apply bD1 | refine bSt ?_ GE617.out | refine bSt ?_ GE618.out | refine bSt ?_ GE619.out) | exact HB.out)) hb); clear BK617; clear BK618; clear BK619; clear HB; have BK617 := n0_; have BK618 := n1_; have BK619 := n2_; have HB := n3_; clear n0_ n1_ n2_ n3_; (try clear hb); (try clear hb2); (try clear hk); (try clear hi); obtain ⟨hcz16_0, hcz16_1, hfz16_0, hfz16_1⟩ := cl2 BK619.out))
  go_ret
  exact ⟨by first | rfl | (simp [errW_none, errW_some] <;> rfl) | (simp [*, errW_none, errW_some] <;> rfl), by repeat (first | (with_reducible first | exact HB.out | apply bAl | apply bDN | apply bD1 | refine bSt ?_ GE617.out | refine bSt ?_ GE618.out | refine bSt ?_ GE619.out) | exact HB.out)⟩
 ·rw [if_neg c5] at H
  have c5b0 : decide (0 ≤ t620) = false := decide_eq_false c5
  clear c5
  obtain rfl := Option.some.inj H
  go_enter Try.func35, Try.ntmps35
  go_wp2_with (first | ((with_reducible refine gate_dst (N := 3) rfl ?_); refine box_event ?hg (N := 3) ?hd (cs := #[.int .i64 a0_0, .int .i64 a0_1, .int .i64 a0_2, .int .i64 a0_3, .slice A0_4 l0_4.length c0_4]) (t := 58) ?hr ?_; (case hd => rfl); (case hg => rfl); (case hr => first | (go_simp; done) | (go_simp; rfl)); intro gb617 hg w17 hbox hb; have n0_ := aK (bSp (by repeat (first | (with_reducible first | exact HB.out | apply bAl | apply bDN | apply bD1) | exact HB.out)) hb); have n1_ := aK (hbox); have n2_ := aK ((by rw [hg]; exact (bSz (by repeat (first | (with_reducible first | exact HB.out | apply bAl | apply bDN | apply bD1) | exact HB.out))) : w.heap.size ≤ gb617)); have n3_ := n2_; clear HB; have HB := n0_; have BK617 := n1_; have GW617 := n2_; have GE617 := n3_; clear n0_ n1_ n2_ n3_; clear hb hbox hg) | ((with_reducible refine gate_dst (N := 4) rfl ?_); refine box_event ?hg (N := 4) ?hd (cs := #[.int .i64 a1_0, .int .i64 a1_1]) (t := 60) ?hr ?_; (case hd => rfl); (case hg => rfl); (case hr => first | (go_simp; done) | (go_simp; rfl)); intro gb618 hg w18 hbox hb; have n0_ := bkb BK617 hb (by intro z_; (with_reducible repeat (first | refine kDN ?_ _ | refine kD ?_ | refine kA ?_ _)); exact z_); have n1_ := aK (bSp (by repeat (first | (with_reducible first | exact HB.out | apply bAl | apply bDN | apply bD1 | refine bSt ?_ GE617.out) | exact HB.out)) hb); have n2_ := aK (hbox); have n3_ := aK ((by rw [hg]; exact (bSz (by repeat (first | (with_reducible first | exact HB.out | apply bAl | apply bDN | apply bD1 | refine bSt ?_ GE617.out) | exact HB.out))) : w.heap.size ≤ gb618)); have n4_ := n3_; have n5_ := nbl BK617 hg (by intro z_; (with_reducible repeat (first | refine kDN ?_ _ | refine kD ?_ | refine kA ?_ _)); exact z_); have n6_ := nbs n5_; clear BK617; clear HB; have BK617 := n0_; have HB := n1_; have BK618 := n2_; have GW618 := n3_; have GE618 := n4_; have NB617_618 := n5_; have NB618_617 := n6_; clear n0_ n1_ n2_ n3_ n4_ n5_ n6_; clear hb hbox hg) | ((with_reducible refine gate_dst (N := 5) rfl ?_); refine box_event ?hg (N := 5) ?hd (cs := #[.int .i64 a2_0, .int .i64 a2_1]) (t := 60) ?hr ?_; (case hd => rfl); (case hg => rfl); (case hr => first | (go_simp; done) | (go_simp; rfl)); intro gb619 hg w19 hbox hb; have n0_ := bkb BK617 hb (by intro z_; (with_reducible repeat (first | refine kDN ?_ _ | refine kD ?_ | refine kA ?_ _)); exact z_); have n1_ := bkb BK618 hb (by intro z_; (with_reducible repeat (first | refine kDN ?_ _ | refine kD ?_ | refine kA ?_ _)); exact z_); have n2_ := aK (bSp (by repeat (first | (with_reducible first | exact HB.out | apply bAl | apply bDN | apply bD1 | refine bSt ?_ GE617.out | refine bSt ?_ GE618.out) | exact HB.out)) hb); have n3_ := aK (hbox); have n4_ := aK ((by rw [hg]; exact (bSz (by repeat (first | (with_reducible first | exact HB.out | apply bAl | apply bDN | apply bD1 | refine bSt ?_ GE617.out | refine bSt ?_ GE618.out) | exact HB.out))) : w.heap.size ≤ gb619)); have n5_ := n4_; have n6_ := nbl BK617 hg (by intro z_; (with_reducible repeat (first | refine kDN ?_ _ | refine kD ?_ | refine kA ?_ _)); exact z_); have n7_ := nbs n6_; have n8_ := nbl BK618 hg (by intro z_; (with_reducible repeat (first | refine kDN ?_ _ | refine kD ?_ | refine kA ?_ _)); exact z_); have n9_ := nbs n8_; clear BK617; clear BK618; clear HB; have BK617 := n0_; have BK618 := n1_; have HB := n2_; have BK619 := n3_; have GW619 := n4_; have GE619 := n5_; have NB617_619 := n6_; have NB619_617 := n7_; have NB618_619 := n8_; have NB619_618 := n9_; clear n0_ n1_ n2_ n3_ n4_ n5_ n6_ n7_ n8_ n9_; clear hb hbox hg; have hnb20 := NB617_618.out; have hnc20 := NB618_617.out; have hnb21 := NB617_619.out; have hnc21 := NB619_617.out; obtain ⟨hcz22_0, hcz22_1, hcz22_2, hcz22_3, hcz22_4, hfz22_0, hfz22_1, hfz22_2, hfz22_3, hfz22_4⟩ := cl5 BK617.out; have hnb23 := NB618_619.out; have hnc23 := NB619_618.out; obtain ⟨hcz24_0, hcz24_1, hfz24_0, hfz24_1⟩ := cl2 BK618.out; obtain ⟨hcz25_0, hcz25_1, hfz25_0, hfz25_1⟩ := cl2 BK619.out) | ((with_reducible refine gate_callee (f := 85) rfl ?_); refine goesL_ (some 15) rfl rfl Try.func85 (by kernel_rfl) rfl #[.agg #[.int .i64 a0_0, .int .i64 a0_1, .int .i64 a0_2, .int .i64 a0_3, .slice A0_4 l0_4.length c0_4], .int .i64 a1_1, .int .i64 a1_0, .int .i64 a2_1] rfl (by (try simp only [List.map_toArray, List.map_cons, List.map_nil]); first | done | rfl | (simp only [List.length_drop, List.length_take]; rfl)) ?_; (with_reducible refine (spec_EarliestAt.calls k a0_0 a0_1 a0_2 a0_3 _ _ l0_4 a1_1 a1_0 a2_1 t620 _ ?side1 ?side2 A4.out).mono ?_); (case side1 => repeat (first | exact (Kd.C_below HR0_4.out HB.out) | (with_reducible refine Kd.C_alloc ?_ _) | (with_reducible refine Kd.C_drewN ?_ _) | (with_reducible refine Kd.C_drew ?_))); (case side2 => exact HC0_4.out); rintro e w26 ⟨rfl, hb⟩; refine ⟨_, rfl, ?_⟩; have n0_ := bkb BK617 hb (by intro z_; (with_reducible repeat (first | refine kDN ?_ _ | refine kD ?_ | refine kA ?_ _)); exact z_); have n1_ := bkb BK618 hb (by intro z_; (with_reducible repeat (first | refine kDN ?_ _ | refine kD ?_ | refine kA ?_ _)); exact z_); have n2_ := bkb BK619 hb (by intro z_; (with_reducible repeat (first | refine kDN ?_ _ | refine kD ?_ | refine kA ?_ _)); exact z_); have n3_ := aK (bSp (by repeat (first | (with_reducible first | exact HB.out | apply bAl | apply bDN | apply bD1 | refine bSt ?_ GE617.out | refine bSt ?_ GE618.out | refine bSt ?_ GE619.out) | exact HB.out)) hb); clear BK617; clear BK618; clear BK619; clear HB; have BK617 := n0_; have BK618 := n1_; have BK619 := n2_; have HB := n3_; clear n0_ n1_ n2_ n3_; (try clear hb); (try clear hb2); (try clear hk); (try clear hi)))
  go_ret
  exact ⟨by first | rfl | (simp [errW_none, errW_some] <;> rfl) | (simp [*, errW_none, errW_some] <;> rfl), by repeat (first | (with_reducible first | exact HB.out | apply bAl | apply bDN | apply bD1 | refine bSt ?_ GE617.out | refine bSt ?_ GE618.out | refine bSt ?_ GE619.out) | exact HB.out)⟩
set_option maxHeartbeats 8000000 in
set_option maxRecDepth 100000 in
theorem laws_toGate.calls (a0_0 : Int) (a0_1 : Int) (r1 : Int) (r2 : Int) (w : World) (h : laws_toGate.f a0_0 a0_1 = some (r1, r2)) :
  Calls Try.prog 138 #[.agg #[.int .i64 a0_0, .int .i64 a0_1]] w fun e w' => e = .returned (.agg #[.int .i64 r1, .int .i64 r2]) ∧ Below w.heap.size w w' := by
 have hu139 := Try.underlying139
 have hu137 := Try.underlying137
 have HB := aK (Below.refl w.heap.size w)
 have H : (some (a0_0, a0_1)) = some (r1, r2) := h
 clear h
 simp only [Option.some.injEq, Prod.mk.injEq] at H
 obtain ⟨rfl, rfl⟩ := H
 go_enter Try.func138, Try.ntmps138
 go_wp2_with (first | ((with_reducible refine gate_dst (N := 1) rfl ?_); refine box_event ?hg (N := 1) ?hd (cs := #[.int .i64 a0_0, .int .i64 a0_1]) (t := 139) ?hr ?_; (case hd => rfl); (case hg => rfl); (case hr => first | (go_simp; done) | (go_simp; rfl)); intro gb621 hg w2 hbox hb; have n0_ := aK (bSp (by repeat (first | (with_reducible first | exact HB.out | apply bAl | apply bDN | apply bD1) | exact HB.out)) hb); have n1_ := aK (hbox); have n2_ := aK ((by rw [hg]; exact (bSz (by repeat (first | (with_reducible first | exact HB.out | apply bAl | apply bDN | apply bD1) | exact HB.out))) : w.heap.size ≤ gb621)); have n3_ := n2_; clear HB; have HB := n0_; have BK621 := n1_; have GW621 := n2_; have GE621 := n3_; clear n0_ n1_ n2_ n3_; clear hb hbox hg) | ((with_reducible refine gate_dst (N := 2) rfl ?_); refine box_event ?hg (N := 2) ?hd (cs := #[.int .i64 0, .int .i64 0]) (t := 137) ?hr ?_; (case hd => rfl); (case hg => rfl); (case hr => first | (go_simp; done) | (go_simp; rfl)); intro gb622 hg w3 hbox hb; have n0_ := bkb BK621 hb (by intro z_; (with_reducible repeat (first | refine kDN ?_ _ | refine kD ?_ | refine kA ?_ _)); exact z_); have n1_ := aK (bSp (by repeat (first | (with_reducible first | exact HB.out | apply bAl | apply bDN | apply bD1 | refine bSt ?_ GE621.out) | exact HB.out)) hb); have n2_ := aK (hbox); have n3_ := aK ((by rw [hg]; exact (bSz (by repeat (first | (with_reducible first | exact HB.out | apply bAl | apply bDN | apply bD1 | refine bSt ?_ GE621.out) | exact HB.out))) : w.heap.size ≤ gb622)); have n4_ := n3_; have n5_ := nbl BK621 hg (by intro z_; (with_reducible repeat (first | refine kDN ?_ _ | refine kD ?_ | refine kA ?_ _)); exact z_); have n6_ := nbs n5_; clear BK621; clear HB; have BK621 := n0_; have HB := n1_; have BK622 := n2_; have GW622 := n3_; have GE622 := n4_; have NB621_622 := n5_; have NB622_621 := n6_; clear n0_ n1_ n2_ n3_ n4_ n5_ n6_; clear hb hbox hg) | ((with_reducible refine gate_dst (N := 3) rfl ?_); refine box_event ?hg (N := 3) ?hd (cs := #[.int .i64 0, .int .i64 0]) (t := 137) ?hr ?_; (case hd => rfl); (case hg => rfl); (case hr => first | (go_simp; done) | (go_simp; rfl)); intro gb623 hg w4 hbox hb; have n0_ := bkb BK621 hb (by intro z_; (with_reducible repeat (first | refine kDN ?_ _ | refine kD ?_ | refine kA ?_ _)); exact z_); have n1_ := bkb BK622 hb (by intro z_; (with_reducible repeat (first | refine kDN ?_ _ | refine kD ?_ | refine kA ?_ _)); exact z_); have n2_ := aK (bSp (by repeat (first | (with_reducible first | exact HB.out | apply bAl | apply bDN | apply bD1 | refine bSt ?_ GE621.out | refine bSt ?_ GE622.out) | exact HB.out)) hb); have n3_ := aK (hbox); have n4_ := aK ((by rw [hg]; exact (bSz (by repeat (first | (with_reducible first | exact HB.out | apply bAl | apply bDN | apply bD1 | refine bSt ?_ GE621.out | refine bSt ?_ GE622.out) | exact HB.out))) : w.heap.size ≤ gb623)); have n5_ := n4_; have n6_ := nbl BK621 hg (by intro z_; (with_reducible repeat (first | refine kDN ?_ _ | refine kD ?_ | refine kA ?_ _)); exact z_); have n7_ := nbs n6_; have n8_ := nbl BK622 hg (by intro z_; (with_reducible repeat (first | refine kDN ?_ _ | refine kD ?_ | refine kA ?_ _)); exact z_); have n9_ := nbs n8_; clear BK621; clear BK622; clear HB; have BK621 := n0_; have BK622 := n1_; have HB := n2_; have BK623 := n3_; have GW623 := n4_; have GE623 := n5_; have NB621_623 := n6_; have NB623_621 := n7_; have NB622_623 := n8_; have NB623_622 := n9_; clear n0_ n1_ n2_ n3_ n4_ n5_ n6_ n7_ n8_ n9_; clear hb hbox hg; have hnb5 := NB621_622.out; have hnc5 := NB622_621.out; have hnb6 := NB621_623.out; have hnc6 := NB623_621.out; obtain ⟨hcz7_0, hcz7_1, hfz7_0, hfz7_1⟩ := cl2 BK621.out; have hnb8 := NB623_622.out; have hnc8 := NB622_623.out; obtain ⟨hcz9_0, hcz9_1, hfz9_0, hfz9_1⟩ := cl2 BK623.out; obtain ⟨hcz10_0, hcz10_1, hfz10_0, hfz10_1⟩ := cl2 BK622.out))
 refine bodyPost_ret (results_cell_row rfl _ _ gb622 137 #[.int .i64 a0_0, .int .i64 a0_1] (0, 0) _ rfl (by (with_reducible repeat (first | refine kDN ?_ _ | refine kD ?_ | refine kA ?_ _)); refine blk_put (cs := #[.int .i64 a0_0, .int .i64 0]) ?_ 1 _ rfl; (with_reducible repeat (first | refine kDN ?_ _ | refine kD ?_ | refine kA ?_ _)); refine blk_put (cs := #[.int .i64 0, .int .i64 0]) ?_ 0 _ rfl; (with_reducible repeat (first | refine kDN ?_ _ | refine kD ?_ | refine kA ?_ _)); refine blk_far ?_ NB622_623.out _; (with_reducible repeat (first | refine kDN ?_ _ | refine kD ?_ | refine kA ?_ _)); refine blk_far ?_ NB622_623.out _; (with_reducible repeat (first | refine kDN ?_ _ | refine kD ?_ | refine kA ?_ _)); exact BK622.out) Try.underlying137 rfl (by kernel_rfl)) rfl ?_
 exact ⟨by first | rfl | (simp [errW_none, errW_some] <;> rfl) | (simp [*, errW_none, errW_some] <;> rfl), by repeat (first | (with_reducible first | exact HB.out | apply bAl | apply bDN | apply bD1 | refine bSt ?_ GE621.out | refine bSt ?_ GE622.out | refine bSt ?_ GE623.out) | exact HB.out)⟩
set_option maxHeartbeats 8000000 in
set_option maxRecDepth 100000 in
theorem laws_toGateS.calls (k : Nat) (A0 : Option Addr) (c0 : Nat) (l0 : List (SlaGate)) (r : List (SGate)) (w : World) (hr0 : Kd.C k139 w A0 l0.length l0) (hc0 : l0.length ≤ c0) (h : laws_toGateS.f k l0 = some r) :
  Calls Try.prog 86 #[.slice A0 l0.length c0] w fun e w' => ∃ v0_ : Value, e = .returned (v0_) ∧ Kd.R k137 137 w' w.heap.size (fun _ => True) v0_ r ∧ Below w.heap.size w w' := by
 have hu139 := Try.underlying139
 have hu137 := Try.underlying137
 have HR0 := aK hr0
 have HC0 := aK hc0
 clear hr0 hc0
 have HB := aK (Below.refl w.heap.size w)
 have H : (if 0 ≤ (l0.length : Int) then (if ((l0.length : Int) : Int).toNat ≤ 17592186044416 then (laws_toGateS.l0 k l0 (List.replicate ((l0.length : Int) : Int).toNat zGate) 0) else (none)) else (none)) = some r := h
 clear h
 by_cases c2 : 0 ≤ (l0.length : Int)
 ·rw [if_pos c2] at H
  have c2b0 := eq_true c2
  have c2b1 : decide (0 ≤ (l0.length : Int)) = true := decide_eq_true c2
  clear c2
  by_cases c3 : ((l0.length : Int) : Int).toNat ≤ 17592186044416
  ·rw [if_pos c3] at H
   have c3b0 := eq_true c3
   have c3b1 : decide (((l0.length : Int) : Int).toNat ≤ 17592186044416) = true := decide_eq_true c3
   clear c3
   obtain ⟨y624, hy624⟩ : ∃ y_ : List (SGate), y_ = (List.replicate ((l0.length : Int) : Int).toNat zGate) := ⟨_, rfl⟩
   replace H : (laws_toGateS.l0 k l0 y624 0) = some r := by first | (rw [hy624]; with_reducible exact H) | (have H2_ := (Option.bind_some _ _).symm.trans H; rw [hy624]; with_reducible exact H2_) | (have H2_ := (Option.bind_some _ _).symm.trans H; with_reducible exact H2_) | with_reducible exact H | (rw [hy624]; exact H) | exact H
   have Ny624 := aK hy624
   clear hy624
   have H' := aK H
   clear H
   go_enter Try.func86, Try.ntmps86
   go_wp2_with (first | ((with_reducible refine gate_dst (N := 7) rfl ?_); refine Kd.R_make k137 _ 137 rfl (N := 7) rfl 56 _ _ rfl (l0.length : Int) rfl rfl Try.underlying56 (.agg #[(.int .i64 0), (.int .i64 0)]) 16 info137 rfl (by decide) (by omega) zGate (ok := fun _ => True) (okp := fun _ => True) (k137_mkM _ _ _ zGate ) (fun _ hk => hk) trivial (of_decide_eq_true (by first | (with_reducible assumption) | assumption)) (Nat.le_trans (Nat.mul_le_mul_right _ (of_decide_eq_true (by first | (with_reducible assumption) | assumption) : (l0.length : Int).toNat ≤ 17592186044416)) (by omega)) (Below.refl _ _) (Nat.le_refl _) ?_; intro v625 w4 ho5 hb hg_ hnew_; clear hg_ hnew_; (first | rw [← Ny624.out] at ho5 | (simp only [Int.reduceToNat] at ho5; rw [← Ny624.out] at ho5)); have n0_ := aK (Kd.R_lower ho5 (bSz (by repeat (first | (with_reducible first | exact HB.out | apply bAl | apply bDN | apply bD1) | exact HB.out)))); have n1_ := aK (bSp (by repeat (first | (with_reducible first | exact HB.out | apply bAl | apply bDN | apply bD1) | exact HB.out)) hb); clear HB; have HO626 := n0_; have HB := n1_; clear n0_ n1_; clear hb ho5))
   go_loopg [4] k (fun kq v4 w' => ∃ (x3_1 : List (SGate)) (x4_1 : Int), v4 = .int .i64 x4_1 ∧ Aside0 (laws_toGateS.l0 kq l0 x3_1 x4_1 = some r) ∧ Aside0 (kq ≤ k) ∧ Aside0 (Kd.R k137 137 w' w.heap.size (fun _ => True) v625 x3_1) ∧ Aside0 (Below w.heap.size w w'))
   case atStart => exact ⟨(y624), (0), (by first | rfl | (simp; done) | (simp [*]; done)), H', ⟨Nat.le_refl _⟩, ⟨by (with_reducible repeat (first | apply Kd.R_alloc | apply Kd.R_drewN | apply Kd.R_drew)); exact HO626.out⟩, ⟨by repeat (first | (with_reducible first | exact HB.out | apply bAl | apply bDN | apply bD1) | exact HB.out)⟩⟩
   case round =>
    clear H'
    try clear c2
    try clear c2b0
    try clear c2b1
    try clear p2
    try clear c3
    try clear c3b0
    try clear c3b1
    obtain ⟨x3_1, x4_1, rfl, HA, HK1, HO_3, HB⟩ := hrel
    cases gk with
    | zero => exact absurd HA.out (by simp [laws_toGateS.l0])
    | succ k1 =>
     have H := HA.out
     clear HA
     simp only [laws_toGateS.l0] at H
     by_cases c6 : x4_1 < (l0.length : Int)
     ·rw [if_pos c6] at H
      have c6b0 : decide (x4_1 < (l0.length : Int)) = true := decide_eq_true c6
      clear c6
      by_cases c7 : 0 ≤ x4_1
      ·rw [if_pos c7] at H
       have c7b0 : decide (0 ≤ x4_1) = true := decide_eq_true c7
       clear c7
       replace H := Option.bind_eq_some_iff.mp H
       obtain ⟨⟨t628, t629⟩, A80, H⟩ := H
       replace H : (if x4_1 < (x3_1.length : Int) then (laws_toGateS.l0 k1 l0 (x3_1.set (x4_1 : Int).toNat (⟨t628, t629⟩ : SGate)) (wrap64 (x4_1 + 1))) else (none)) = some r := H
       have A8 := aK A80
       clear A80
       by_cases c9 : x4_1 < (x3_1.length : Int)
       ·rw [if_pos c9] at H
        have c9b0 : decide (x4_1 < (x3_1.length : Int)) = true := decide_eq_true c9
        clear c9
        obtain ⟨y630, hy630⟩ : ∃ y_ : List (SGate), y_ = (x3_1.set (x4_1 : Int).toNat (⟨t628, t629⟩ : SGate)) := ⟨_, rfl⟩
        replace H : (laws_toGateS.l0 k1 l0 y630 (wrap64 (x4_1 + 1))) = some r := by first | (rw [hy630]; with_reducible exact H) | (have H2_ := (Option.bind_some _ _).symm.trans H; rw [hy630]; with_reducible exact H2_) | (have H2_ := (Option.bind_some _ _).symm.trans H; with_reducible exact H2_) | with_reducible exact H | (rw [hy630]; exact H) | exact H
        have Ny630 := aK hy630
        clear hy630
        have H' := aK H
        clear H
        have p627 : 0 ≤ (x4_1 : Int) := of_decide_eq_true (by first | (with_reducible assumption) | assumption)
        have q627 : x4_1 < (l0.length : Int) := of_decide_eq_true (by first | (with_reducible assumption) | assumption)
        obtain ⟨ad627, e627, hx627_0, hx627_1⟩ := at_T139 HR0.out x4_1 p627 q627
        cases e627
        replace hx627_0 := (HB.out.cell (World.block_lt_of_cell? w _ hx627_0)).trans hx627_0
        replace hx627_1 := (HB.out.cell (World.block_lt_of_cell? w _ hx627_1)).trans hx627_1
        replace p627 := eq_true p627
        replace q627 := eq_true q627
        go_wp2_with (first | ((with_reducible refine gate_callee (f := 138) rfl ?_); refine goesL_ (some 20) rfl rfl Try.func138 (by kernel_rfl) rfl #[.agg #[.int .i64 ((rd_laGate l0 x4_1).f0), .int .i64 ((rd_laGate l0 x4_1).f1)]] rfl (by (try simp only [List.map_toArray, List.map_cons, List.map_nil]); first | done | rfl | (simp only [List.length_drop, List.length_take]; rfl)) ?_; (with_reducible refine (laws_toGate.calls ((rd_laGate l0 x4_1).f0) ((rd_laGate l0 x4_1).f1) t628 t629 _ A8.out).mono ?_); rintro e w11 ⟨rfl, hb⟩; refine ⟨_, rfl, ?_⟩; have n0_ := aK (Kd.R_below (by (with_reducible repeat (first | apply Kd.R_alloc | apply Kd.R_drewN | apply Kd.R_drew)); exact HO_3.out) hb); have n1_ := aK (bSp (by repeat (first | (with_reducible first | exact HB.out | apply bAl | apply bDN | apply bD1) | exact HB.out)) hb); clear HO_3; clear HB; have HO_3 := n0_; have HB := n1_; clear n0_ n1_; (try clear hb); (try clear hb2); (try clear hk); (try clear hi); have p10 : 0 ≤ (x4_1 : Int) := of_decide_eq_true (by first | (with_reducible assumption) | assumption); have q10 : (x4_1 : Int) < ((x3_1.length : Int) : Int) := of_decide_eq_true (by first | (with_reducible assumption) | assumption); obtain ⟨go10, co10, eo10, gb10, gl10, cl10, HG10⟩ := Kd.R_form HO_3.out (by omega); (first | cases eo10 | (injection eo10 with ea_ en_ ec_; (first | subst ea_ | (injection ea_ with ea_; subst ea_)); subst ec_; clear en_)); have GB10 := aK gb10; have GG10 := aK HG10; clear gb10 gl10 HG10; obtain ⟨ce10, hcl10, hM10, hcc10, hfr10⟩ := Kd.R_elem HO_3.out zGate (x4_1 : Int) p10 q10; obtain rfl := k137_openM hM10; have hx10_0 : w11.cell? ⟨go10, (x4_1 : Int).toNat * 2, none⟩ = some (.int .i64 ((rd_Gate x3_1 x4_1).f0)) := hcc10 0 _ rfl; have hx10_1 : w11.cell? ⟨go10, (x4_1 : Int).toNat * 2 + 1, none⟩ = some (.int .i64 ((rd_Gate x3_1 x4_1).f1)) := hcc10 1 _ rfl; have hf10_0 : w11.frozen? ⟨go10, (x4_1 : Int).toNat * 2, none⟩ = false := hfr10 0; have hf10_1 : w11.frozen? ⟨go10, (x4_1 : Int).toNat * 2 + 1, none⟩ = false := hfr10 1; clear hcl10 hcc10 hfr10 hM10; replace p10 := eq_true p10; replace q10 := eq_true q10; have HX12 := aK (show Kd.R k137 137 w11 w.heap.size (fun _ => True) (.slice (some ⟨go10, 0, none⟩) x3_1.length co10) x3_1 from (by (with_reducible repeat (first | apply Kd.R_alloc | apply Kd.R_drewN | apply Kd.R_drew)); exact HO_3.out)); obtain ⟨ce12, hcl12, hM12, hcc12, hfr12⟩ := Kd.R_elem HX12.out zGate (x4_1 : Int) (of_decide_eq_true (by first | (with_reducible assumption) | assumption)) (by have h_ : (x4_1 : Int) < ((x3_1.length : Int) : Int) := of_decide_eq_true (by first | (with_reducible assumption) | assumption); first | exact h_ | (have e_ := (Kd.R_reads' HO_3.out).1; omega) | simpa using h_); obtain rfl := k137_openM hM12; have HP12 := Kd.R_seg HX12.out (x4_1 : Int) (of_decide_eq_true (by first | (with_reducible assumption) | assumption)) (by have h_ : (x4_1 : Int) < ((x3_1.length : Int) : Int) := of_decide_eq_true (by first | (with_reducible assumption) | assumption); first | exact h_ | (have e_ := (Kd.R_reads' HO_3.out).1; omega) | simpa using h_) (seg := [.int .i64 t628, .int .i64 t629]) (j := 0) hcl12 hcc12 (show 2 ≤ 2 from by decide) (x' := (⟨t628, t629⟩ : SGate)) (k137_mkM _ _ _ (⟨t628, t629⟩ : SGate) ) (fun _ hk => hk); have hx12_0 := hcc12 0 _ rfl; (try simp only [show (k137).sz = 2 from rfl, Nat.mul_one, Nat.add_zero] at hx12_0); have hf12_0 := hfr12 0; (try simp only [show (k137).sz = 2 from rfl, Nat.mul_one, Nat.add_zero] at hf12_0); have hx12_1 := hcc12 1 _ rfl; (try simp only [show (k137).sz = 2 from rfl, Nat.mul_one, Nat.add_zero] at hx12_1); have hf12_1 := hfr12 1; (try simp only [show (k137).sz = 2 from rfl, Nat.mul_one, Nat.add_zero] at hf12_1); clear hcl12 hcc12 hfr12 hM12) | ((with_reducible refine gate_store (t := 137) (p := 21) rfl ?_); refine store_event (t := 137) (p := 21) (v := ?vo_w13) (w1 := ((w11.setCell ⟨go10, (x4_1 : Int).toNat * 2, none⟩ (.int .i64 t628)).setCell ⟨go10, (x4_1 : Int).toNat * 2 + 1, none⟩ (.int .i64 t629))) ?hg ?ho ?hn ?hr ?_; (case ho => rfl); (case hg => rfl); (case hn => rfl); (case hr => first | (go_simp; done) | (go_simp; rfl)); intro w13 hw; have hg : w11.grownBy w13 (some go10) := (by rw [hw]; exact HP12.2); have hp_ : Kd.R k137 137 w13 w.heap.size (fun _ => True) (.slice (some ⟨go10, 0, none⟩) x3_1.length co10) y630 := (by rw [hw, Ny630.out]; exact HP12.1); clear HP12; have n0_ := aK (hp_); have n1_ := aK ((by rw [hw]; exact bSt (bSt (HB.out) GB10.out) GB10.out : Below w.heap.size w w13)); clear HO_3; clear HB; have HO_3 := n0_; have HB := n1_; clear n0_ n1_; clear hg hw hp_))
        go_roundg k1
        case measure => have := HK1.out; omega
        case rel => exact ⟨(y630), (wrap64 (x4_1 + 1)), (by first | rfl | (simp; done) | (simp [*]; done)), H', ⟨by have := HK1.out; omega⟩, ⟨by (with_reducible repeat (first | apply Kd.R_alloc | apply Kd.R_drewN | apply Kd.R_drew)); exact HO_3.out⟩, ⟨by repeat (first | (with_reducible first | exact HB.out | apply bAl | apply bDN | apply bD1) | exact HB.out)⟩⟩
       ·rw [if_neg c9] at H
        exact absurd H (by simp)
      ·rw [if_neg c7] at H
       exact absurd H (by simp)
     ·rw [if_neg c6] at H
      have c6b0 : decide (x4_1 < (l0.length : Int)) = false := decide_eq_false c6
      clear c6
      obtain rfl := Option.some.inj H
      go_wp2
      go_ret
      exact ⟨_, by first | rfl | (simp [errW_none, errW_some] <;> rfl) | (simp [*, errW_none, errW_some] <;> rfl), by (with_reducible repeat (first | apply Kd.R_alloc | apply Kd.R_drewN | apply Kd.R_drew)); exact HO_3.out, by repeat (first | (with_reducible first | exact HB.out | apply bAl | apply bDN | apply bD1) | exact HB.out)⟩
  ·rw [if_neg c3] at H
   exact absurd H (by simp)
 ·rw [if_neg c2] at H
  exact absurd H (by simp)
end Go.Proofs.Ytimejdhglmajdaa.F
end

section
namespace Go.Proofs.Ytimejdhglmajdaa.F
open Go.RowKit Go.Proofs.YtimejdhglmajdaaW.PrintWords Go.Proofs.YtimejdhglmajdaaW.PrintLast Go.Proofs.YtimejdhglmajdaaW.PrintMore
set_option linter.unusedVariables false
set_option linter.unusedSimpArgs false
attribute [local go_sem] min2_int min_two
set_option maxHeartbeats 8000000 in
set_option maxRecDepth 100000 in
theorem laws_toGrid.calls (a0_0 : Int) (a0_1 : Int) (r1 : Int) (r2 : Int) (w : World) (h : laws_toGrid.f a0_0 a0_1 = some (r1, r2)) :
  Calls Try.prog 64 #[.agg #[.int .i64 a0_0, .int .i64 a0_1]] w fun e w' => e = .returned (.agg #[.int .i64 r1, .int .i64 r2]) ∧ Below w.heap.size w w' := by
 have hu23 := Try.underlying23
 have hu30 := Try.underlying30
 have HB := aK (Below.refl w.heap.size w)
 have H : (some (a0_0, a0_1)) = some (r1, r2) := h
 clear h
 simp only [Option.some.injEq, Prod.mk.injEq] at H
 obtain ⟨rfl, rfl⟩ := H
 go_enter Try.func64, Try.ntmps64
 go_wp2_with (first | ((with_reducible refine gate_dst (N := 1) rfl ?_); refine box_event ?hg (N := 1) ?hd (cs := #[.int .i64 a0_0, .int .i64 a0_1]) (t := 23) ?hr ?_; (case hd => rfl); (case hg => rfl); (case hr => first | (go_simp; done) | (go_simp; rfl)); intro gb158 hg w2 hbox hb; have n0_ := aK (bSp (by repeat (first | (with_reducible first | exact HB.out | apply bAl | apply bDN | apply bD1) | exact HB.out)) hb); have n1_ := aK (hbox); have n2_ := aK ((by rw [hg]; exact (bSz (by repeat (first | (with_reducible first | exact HB.out | apply bAl | apply bDN | apply bD1) | exact HB.out))) : w.heap.size ≤ gb158)); have n3_ := n2_; clear HB; have HB := n0_; have BK158 := n1_; have GW158 := n2_; have GE158 := n3_; clear n0_ n1_ n2_ n3_; clear hb hbox hg) | ((with_reducible refine gate_dst (N := 2) rfl ?_); refine box_event ?hg (N := 2) ?hd (cs := #[.int .i64 0, .int .i64 0]) (t := 30) ?hr ?_; (case hd => rfl); (case hg => rfl); (case hr => first | (go_simp; done) | (go_simp; rfl)); intro gb159 hg w3 hbox hb; have n0_ := bkb BK158 hb (by intro z_; (with_reducible repeat (first | refine kDN ?_ _ | refine kD ?_ | refine kA ?_ _)); exact z_); have n1_ := aK (bSp (by repeat (first | (with_reducible first | exact HB.out | apply bAl | apply bDN | apply bD1 | refine bSt ?_ GE158.out) | exact HB.out)) hb); have n2_ := aK (hbox); have n3_ := aK ((by rw [hg]; exact (bSz (by repeat (first | (with_reducible first | exact HB.out | apply bAl | apply bDN | apply bD1 | refine bSt ?_ GE158.out) | exact HB.out))) : w.heap.size ≤ gb159)); have n4_ := n3_; have n5_ := nbl BK158 hg (by intro z_; (with_reducible repeat (first | refine kDN ?_ _ | refine kD ?_ | refine kA ?_ _)); exact z_); have n6_ := nbs n5_; clear BK158; clear HB; have BK158 := n0_; have HB := n1_; have BK159 := n2_; have GW159 := n3_; have GE159 := n4_; have NB158_159 := n5_; have NB159_158 := n6_; clear n0_ n1_ n2_ n3_ n4_ n5_ n6_; clear hb hbox hg) | ((with_reducible refine gate_dst (N := 3) rfl ?_); refine box_event ?hg (N := 3) ?hd (cs := #[.int .i64 0, .int .i64 0]) (t := 30) ?hr ?_; (case hd => rfl); (case hg => rfl); (case hr => first | (go_simp; done) | (go_simp; rfl)); intro gb160 hg w4 hbox hb; have n0_ := bkb BK158 hb (by intro z_; (with_reducible repeat (first | refine kDN ?_ _ | refine kD ?_ | refine kA ?_ _)); exact z_); have n1_ := bkb BK159 hb (by intro z_; (with_reducible repeat (first | refine kDN ?_ _ | refine kD ?_ | refine kA ?_ _)); exact z_); have n2_ := aK (bSp (by repeat (first | (with_reducible first | exact HB.out | apply bAl | apply bDN | apply bD1 | refine bSt ?_ GE158.out | refine bSt ?_ GE159.out) | exact HB.out)) hb); have n3_ := aK (hbox); have n4_ := aK ((by rw [hg]; exact (bSz (by repeat (first | (with_reducible first | exact HB.out | apply bAl | apply bDN | apply bD1 | refine bSt ?_ GE158.out | refine bSt ?_ GE159.out) | exact HB.out))) : w.heap.size ≤ gb160)); have n5_ := n4_; have n6_ := nbl BK158 hg (by intro z_; (with_reducible repeat (first | refine kDN ?_ _ | refine kD ?_ | refine kA ?_ _)); exact z_); have n7_ := nbs n6_; have n8_ := nbl BK159 hg (by intro z_; (with_reducible repeat (first | refine kDN ?_ _ | refine kD ?_ | refine kA ?_ _)); exact z_); have n9_ := nbs n8_; clear BK158; clear BK159; clear HB; have BK158 := n0_; have BK159 := n1_; have HB := n2_; have BK160 := n3_; have GW160 := n4_; have GE160 := n5_; have NB158_160 := n6_; have NB160_158 := n7_; have NB159_160 := n8_; have NB160_159 := n9_; clear n0_ n1_ n2_ n3_ n4_ n5_ n6_ n7_ n8_ n9_; clear hb hbox hg; have hnb5 := NB158_159.out; have hnc5 := NB159_158.out; have hnb6 := NB158_160.out; have hnc6 := NB160_158.out; obtain ⟨hcz7_0, hcz7_1, hfz7_0, hfz7_1⟩ := cl2 BK158.out; have hnb8 := NB160_159.out; have hnc8 := NB159_160.out; obtain ⟨hcz9_0, hcz9_1, hfz9_0, hfz9_1⟩ := cl2 BK160.out; obtain ⟨hcz10_0, hcz10_1, hfz10_0, hfz10_1⟩ := cl2 BK159.out))
 refine bodyPost_ret (results_cell_row rfl _ _ gb159 30 #[.int .i64 a0_0, .int .i64 a0_1] (0, 0) _ rfl (by (with_reducible repeat (first | refine kDN ?_ _ | refine kD ?_ | refine kA ?_ _)); refine blk_put (cs := #[.int .i64 a0_0, .int .i64 0]) ?_ 1 _ rfl; (with_reducible repeat (first | refine kDN ?_ _ | refine kD ?_ | refine kA ?_ _)); refine blk_put (cs := #[.int .i64 0, .int .i64 0]) ?_ 0 _ rfl; (with_reducible repeat (first | refine kDN ?_ _ | refine kD ?_ | refine kA ?_ _)); refine blk_far ?_ NB159_160.out _; (with_reducible repeat (first | refine kDN ?_ _ | refine kD ?_ | refine kA ?_ _)); refine blk_far ?_ NB159_160.out _; (with_reducible repeat (first | refine kDN ?_ _ | refine kD ?_ | refine kA ?_ _)); exact BK159.out) Try.underlying30 rfl (by kernel_rfl)) rfl ?_
 exact ⟨by first | rfl | (simp [errW_none, errW_some] <;> rfl) | (simp [*, errW_none, errW_some] <;> rfl), by repeat (first | (with_reducible first | exact HB.out | apply bAl | apply bDN | apply bD1 | refine bSt ?_ GE158.out | refine bSt ?_ GE159.out | refine bSt ?_ GE160.out) | exact HB.out)⟩
set_option maxHeartbeats 8000000 in
set_option maxRecDepth 100000 in
theorem laws_toMaze.calls (a0_0 : Int) (a0_1 : Int) (a0_2 : Int) (r1 : Int) (r2 : Int) (r3 : Int) (w : World) (h : laws_toMaze.f a0_0 a0_1 a0_2 = some (r1, r2, r3)) :
  Calls Try.prog 17 #[.agg #[.int .i64 a0_0, .int .i64 a0_1, .int .i64 a0_2]] w fun e w' => e = .returned (.agg #[.int .i64 r1, .int .i64 r2, .int .i64 r3]) ∧ Below w.heap.size w w' := by
 have hu25 := Try.underlying25
 have hu32 := Try.underlying32
 have hu23 := Try.underlying23
 have hu30 := Try.underlying30
 have HB := aK (Below.refl w.heap.size w)
 have H : ((laws_toGrid.f a0_0 a0_1).bind fun bt164 => (some (bt164.1, bt164.2, a0_2))) = some (r1, r2, r3) := h
 clear h
 replace H := Option.bind_eq_some_iff.mp H
 obtain ⟨⟨t164, t165⟩, A20, H⟩ := H
 replace H : (some (t164, t165, a0_2)) = some (r1, r2, r3) := H
 have A2 := aK A20
 clear A20
 simp only [Option.some.injEq, Prod.mk.injEq] at H
 obtain ⟨rfl, rfl, rfl⟩ := H
 go_enter Try.func17, Try.ntmps17
 go_wp2_with (first | ((with_reducible refine gate_dst (N := 1) rfl ?_); refine box_event ?hg (N := 1) ?hd (cs := #[.int .i64 a0_0, .int .i64 a0_1, .int .i64 a0_2]) (t := 25) ?hr ?_; (case hd => rfl); (case hg => rfl); (case hr => first | (go_simp; done) | (go_simp; rfl)); intro gb161 hg w3 hbox hb; have n0_ := aK (bSp (by repeat (first | (with_reducible first | exact HB.out | apply bAl | apply bDN | apply bD1) | exact HB.out)) hb); have n1_ := aK (hbox); have n2_ := aK ((by rw [hg]; exact (bSz (by repeat (first | (with_reducible first | exact HB.out | apply bAl | apply bDN | apply bD1) | exact HB.out))) : w.heap.size ≤ gb161)); have n3_ := n2_; clear HB; have HB := n0_; have BK161 := n1_; have GW161 := n2_; have GE161 := n3_; clear n0_ n1_ n2_ n3_; clear hb hbox hg) | ((with_reducible refine gate_dst (N := 2) rfl ?_); refine box_event ?hg (N := 2) ?hd (cs := #[.int .i64 0, .int .i64 0, .int .i64 0]) (t := 32) ?hr ?_; (case hd => rfl); (case hg => rfl); (case hr => first | (go_simp; done) | (go_simp; rfl)); intro gb162 hg w4 hbox hb; have n0_ := bkb BK161 hb (by intro z_; (with_reducible repeat (first | refine kDN ?_ _ | refine kD ?_ | refine kA ?_ _)); exact z_); have n1_ := aK (bSp (by repeat (first | (with_reducible first | exact HB.out | apply bAl | apply bDN | apply bD1 | refine bSt ?_ GE161.out) | exact HB.out)) hb); have n2_ := aK (hbox); have n3_ := aK ((by rw [hg]; exact (bSz (by repeat (first | (with_reducible first | exact HB.out | apply bAl | apply bDN | apply bD1 | refine bSt ?_ GE161.out) | exact HB.out))) : w.heap.size ≤ gb162)); have n4_ := n3_; have n5_ := nbl BK161 hg (by intro z_; (with_reducible repeat (first | refine kDN ?_ _ | refine kD ?_ | refine kA ?_ _)); exact z_); have n6_ := nbs n5_; clear BK161; clear HB; have BK161 := n0_; have HB := n1_; have BK162 := n2_; have GW162 := n3_; have GE162 := n4_; have NB161_162 := n5_; have NB162_161 := n6_; clear n0_ n1_ n2_ n3_ n4_ n5_ n6_; clear hb hbox hg) | ((with_reducible refine gate_dst (N := 3) rfl ?_); refine box_event ?hg (N := 3) ?hd (cs := #[.int .i64 0, .int .i64 0, .int .i64 0]) (t := 32) ?hr ?_; (case hd => rfl); (case hg => rfl); (case hr => first | (go_simp; done) | (go_simp; rfl)); intro gb163 hg w5 hbox hb; have n0_ := bkb BK161 hb (by intro z_; (with_reducible repeat (first | refine kDN ?_ _ | refine kD ?_ | refine kA ?_ _)); exact z_); have n1_ := bkb BK162 hb (by intro z_; (with_reducible repeat (first | refine kDN ?_ _ | refine kD ?_ | refine kA ?_ _)); exact z_); have n2_ := aK (bSp (by repeat (first | (with_reducible first | exact HB.out | apply bAl | apply bDN | apply bD1 | refine bSt ?_ GE161.out | refine bSt ?_ GE162.out) | exact HB.out)) hb); have n3_ := aK (hbox); have n4_ := aK ((by rw [hg]; exact (bSz (by repeat (first | (with_reducible first | exact HB.out | apply bAl | apply bDN | apply bD1 | refine bSt ?_ GE161.out | refine bSt ?_ GE162.out) | exact HB.out))) : w.heap.size ≤ gb163)); have n5_ := n4_; have n6_ := nbl BK161 hg (by intro z_; (with_reducible repeat (first | refine kDN ?_ _ | refine kD ?_ | refine kA ?_ _)); exact z_); have n7_ := nbs n6_; have n8_ := nbl BK162 hg (by intro z_; (with_reducible repeat (first | refine kDN ?_ _ | refine kD ?_ | refine kA ?_ _)); exact z_); have n9_ := nbs n8_; clear BK161; clear BK162; clear HB; have BK161 := n0_; have BK162 := n1_; have HB := n2_; have BK163 := n3_; have GW163 := n4_; have GE163 := n5_; have NB161_163 := n6_; have NB163_161 := n7_; have NB162_163 := n8_; have NB163_162 := n9_; clear n0_ n1_ n2_ n3_ n4_ n5_ n6_ n7_ n8_ n9_; clear hb hbox hg; have hnb6 := NB161_162.out; have hnc6 := NB162_161.out; have hnb7 := NB161_163.out; have hnc7 := NB163_161.out; obtain ⟨hcz8_0, hcz8_1, hcz8_2, hfz8_0, hfz8_1, hfz8_2⟩ := cl3 BK161.out) | ((with_reducible refine gate_callee (f := 64) rfl ?_); refine goesL_ (some 6) rfl rfl Try.func64 (by kernel_rfl) rfl #[.agg #[.int .i64 a0_0, .int .i64 a0_1]] rfl (by (try simp only [List.map_toArray, List.map_cons, List.map_nil]); first | done | rfl | (simp only [List.length_drop, List.length_take]; rfl)) ?_; (with_reducible refine (laws_toGrid.calls a0_0 a0_1 t164 t165 _ A2.out).mono ?_); rintro e w9 ⟨rfl, hb⟩; refine ⟨_, rfl, ?_⟩; have n0_ := bkb BK161 hb (by intro z_; (with_reducible repeat (first | refine kDN ?_ _ | refine kD ?_ | refine kA ?_ _)); exact z_); have n1_ := bkb BK162 hb (by intro z_; (with_reducible repeat (first | refine kDN ?_ _ | refine kD ?_ | refine kA ?_ _)); exact z_); have n2_ := bkb BK163 hb (by intro z_; (with_reducible repeat (first | refine kDN ?_ _ | refine kD ?_ | refine kA ?_ _)); exact z_); have n3_ := aK (bSp (by repeat (first | (with_reducible first | exact HB.out | apply bAl | apply bDN | apply bD1 | refine bSt ?_ GE161.out | refine bSt ?_ GE162.out | refine bSt ?_ GE163.out) | exact HB.out)) hb); clear BK161; clear BK162; clear BK163; clear HB; have BK161 := n0_; have BK162 := n1_; have BK163 := n2_; have HB := n3_; clear n0_ n1_ n2_ n3_; (try clear hb); (try clear hb2); (try clear hk); (try clear hi); have hnb10 := NB163_162.out; have hnc10 := NB162_163.out; obtain ⟨hcz11_0, hcz11_1, hcz11_2, hfz11_0, hfz11_1, hfz11_2⟩ := cl3 BK163.out; obtain ⟨hcz12_0, hcz12_1, hcz12_2, hfz12_0, hfz12_1, hfz12_2⟩ := cl3 BK161.out; obtain ⟨hcz13_0, hcz13_1, hcz13_2, hfz13_0, hfz13_1, hfz13_2⟩ := cl3 BK162.out))
 refine bodyPost_ret (results_cell_row rfl _ _ gb162 32 #[.int .i64 t164, .int .i64 t165, .int .i64 a0_2] (0, 0) _ rfl (by (with_reducible repeat (first | refine kDN ?_ _ | refine kD ?_ | refine kA ?_ _)); refine blk_put (cs := #[.int .i64 t164, .int .i64 t165, .int .i64 0]) ?_ 2 _ rfl; (with_reducible repeat (first | refine kDN ?_ _ | refine kD ?_ | refine kA ?_ _)); refine blk_put (cs := #[.int .i64 t164, .int .i64 0, .int .i64 0]) ?_ 1 _ rfl; (with_reducible repeat (first | refine kDN ?_ _ | refine kD ?_ | refine kA ?_ _)); refine blk_put (cs := #[.int .i64 0, .int .i64 0, .int .i64 0]) ?_ 0 _ rfl; (with_reducible repeat (first | refine kDN ?_ _ | refine kD ?_ | refine kA ?_ _)); refine blk_far ?_ NB162_163.out _; (with_reducible repeat (first | refine kDN ?_ _ | refine kD ?_ | refine kA ?_ _)); refine blk_far ?_ NB162_163.out _; (with_reducible repeat (first | refine kDN ?_ _ | refine kD ?_ | refine kA ?_ _)); refine blk_far ?_ NB162_163.out _; (with_reducible repeat (first | refine kDN ?_ _ | refine kD ?_ | refine kA ?_ _)); exact BK162.out) Try.underlying32 rfl (by kernel_rfl)) rfl ?_
 exact ⟨by first | rfl | (simp [errW_none, errW_some] <;> rfl) | (simp [*, errW_none, errW_some] <;> rfl), by repeat (first | (with_reducible first | exact HB.out | apply bAl | apply bDN | apply bD1 | refine bSt ?_ GE161.out | refine bSt ?_ GE162.out | refine bSt ?_ GE163.out) | exact HB.out)⟩
set_option maxHeartbeats 8000000 in
set_option maxRecDepth 100000 in
theorem laws_eqIntS.calls (k : Nat) (A0 : Option Addr) (c0 : Nat) (l0 : List Int) (A1 : Option Addr) (c1 : Nat) (l1 : List Int) (r : Bool) (w : World) (hr0 : Kd.C (Kd.int .i64) w A0 l0.length l0) (hc0 : l0.length ≤ c0) (hr1 : Kd.C (Kd.int .i64) w A1 l1.length l1) (hc1 : l1.length ≤ c1) (h : laws_eqIntS.f k l0 l1 = some r) :
  Calls Try.prog 20 #[.slice A0 l0.length c0, .slice A1 l1.length c1] w fun e w' => e = .returned (.bool r) ∧ Drawn0 w w' := by
 have HR0 := aK hr0
 have HC0 := aK hc0
 clear hr0 hc0
 have HR1 := aK hr1
 have HC1 := aK hc1
 clear hr1 hc1
 have H : (if (l0.length : Int) = (l1.length : Int) then (laws_eqIntS.l0 k l0 l1 0) else (some false)) = some r := h
 clear h
 by_cases c3 : (l0.length : Int) = (l1.length : Int)
 ·rw [if_pos c3] at H
  have c3b0 : ((l0.length : Int) == (l1.length : Int)) = true := beq_iff_eq.mpr c3
  have c3b1 : ((l0.length : Int) != (l1.length : Int)) = false := bne_eq_false_iff_eq.mpr c3
  have c3b2 : (l0.length == l1.length) = true := by first | simpa using c3 | (simp at c3 ⊢; omega)
  clear c3
  have H' := aK H
  clear H
  go_enter Try.func20, Try.ntmps20
  go_wp2
  repeat (go_quiet (fail); try go_wp2)
  go_loopg [5] k (fun kq v5 w' => ∃ (x5_1 : Int), v5 = .int .i64 x5_1 ∧ Aside0 (laws_eqIntS.l0 kq l0 l1 x5_1 = some r) ∧ Aside0 (kq ≤ k) ∧ Drawn0 w w')
  case atStart => exact ⟨(0), (by first | rfl | (simp; done) | (simp [*]; done)), H', ⟨Nat.le_refl _⟩, by repeat (first | exact Drawn0.refl _ | apply Drawn0.step)⟩
  case round =>
   clear H'
   try clear c1
   try clear c2
   try clear p2
   try clear c3
   try clear c3b0
   try clear c3b1
   try clear c3b2
   obtain ⟨x5_1, rfl, HA, HK1, ⟨m1, rfl⟩⟩ := hrel
   cases gk with
   | zero => exact absurd HA.out (by simp [laws_eqIntS.l0])
   | succ k1 =>
    have H := HA.out
    clear HA
    simp only [laws_eqIntS.l0] at H
    by_cases c4 : x5_1 < (l0.length : Int)
    ·rw [if_pos c4] at H
     have c4b0 : decide (x5_1 < (l0.length : Int)) = true := decide_eq_true c4
     clear c4
     by_cases c5 : 0 ≤ x5_1
     ·rw [if_pos c5] at H
      have c5b0 : decide (0 ≤ x5_1) = true := decide_eq_true c5
      clear c5
      by_cases c6 : x5_1 < (l1.length : Int)
      ·rw [if_pos c6] at H
       have c6b0 : decide (x5_1 < (l1.length : Int)) = true := decide_eq_true c6
       clear c6
       by_cases c7 : (rd l0 x5_1) = (rd l1 x5_1)
       ·rw [if_pos c7] at H
        have c7b0 : ((rd l0 x5_1) == (rd l1 x5_1)) = true := beq_iff_eq.mpr c7
        have c7b1 : ((rd l0 x5_1) != (rd l1 x5_1)) = false := bne_eq_false_iff_eq.mpr c7
        clear c7
        have H' := aK H
        clear H
        have p205 : 0 ≤ (x5_1 : Int) := of_decide_eq_true (by first | (with_reducible assumption) | assumption)
        have q205 : x5_1 < (l0.length : Int) := of_decide_eq_true (by first | (with_reducible assumption) | assumption)
        obtain ⟨ad205, e205, hx205_0⟩ := Kd.at_int HR0.out x5_1 p205 q205
        cases e205
        replace p205 := eq_true p205
        replace q205 := eq_true q205
        have p206 : 0 ≤ (x5_1 : Int) := of_decide_eq_true (by first | (with_reducible assumption) | assumption)
        have q206 : x5_1 < (l1.length : Int) := of_decide_eq_true (by first | (with_reducible assumption) | assumption)
        obtain ⟨ad206, e206, hx206_0⟩ := Kd.at_int HR1.out x5_1 p206 q206
        cases e206
        replace p206 := eq_true p206
        replace q206 := eq_true q206
        go_wp2
        repeat (go_quiet (fail); try go_wp2)
        go_roundg k1
        case measure => have := HK1.out; omega
        case rel => exact ⟨(wrap64 (x5_1 + 1)), (by first | rfl | (simp; done) | (simp [*]; done)), H', ⟨by have := HK1.out; omega⟩, by repeat (first | exact Drawn0.refl _ | apply Drawn0.step)⟩
       ·rw [if_neg c7] at H
        have c7b0 : ((rd l0 x5_1) == (rd l1 x5_1)) = false := beq_eq_false_iff_ne.mpr c7
        have c7b1 : ((rd l0 x5_1) != (rd l1 x5_1)) = true := bne_iff_ne.mpr c7
        obtain rfl := Option.some.inj H
        have p205 : 0 ≤ (x5_1 : Int) := of_decide_eq_true (by first | (with_reducible assumption) | assumption)
        have q205 : x5_1 < (l0.length : Int) := of_decide_eq_true (by first | (with_reducible assumption) | assumption)
        obtain ⟨ad205, e205, hx205_0⟩ := Kd.at_int HR0.out x5_1 p205 q205
        cases e205
        replace p205 := eq_true p205
        replace q205 := eq_true q205
        have p206 : 0 ≤ (x5_1 : Int) := of_decide_eq_true (by first | (with_reducible assumption) | assumption)
        have q206 : x5_1 < (l1.length : Int) := of_decide_eq_true (by first | (with_reducible assumption) | assumption)
        obtain ⟨ad206, e206, hx206_0⟩ := Kd.at_int HR1.out x5_1 p206 q206
        cases e206
        replace p206 := eq_true p206
        replace q206 := eq_true q206
        go_wp2
        repeat (go_quiet (fail); try go_wp2)
        go_ret
        exact ⟨by first | rfl | (simp; done) | (simp [*]; done), by repeat (first | exact Drawn0.refl _ | apply Drawn0.step)⟩
      ·rw [if_neg c6] at H
       exact absurd H (by simp)
     ·rw [if_neg c5] at H
      exact absurd H (by simp)
    ·rw [if_neg c4] at H
     have c4b0 : decide (x5_1 < (l0.length : Int)) = false := decide_eq_false c4
     clear c4
     obtain rfl := Option.some.inj H
     go_wp2
     repeat (go_quiet (fail); try go_wp2)
     go_ret
     exact ⟨by first | rfl | (simp; done) | (simp [*]; done), by repeat (first | exact Drawn0.refl _ | apply Drawn0.step)⟩
 ·rw [if_neg c3] at H
  have c3b0 : ((l0.length : Int) == (l1.length : Int)) = false := beq_eq_false_iff_ne.mpr c3
  have c3b1 : ((l0.length : Int) != (l1.length : Int)) = true := bne_iff_ne.mpr c3
  have c3b2 : (l0.length == l1.length) = false := by first | simpa using c3 | (simp at c3 ⊢; omega)
  obtain rfl := Option.some.inj H
  go_enter Try.func20, Try.ntmps20
  go_wp2
  repeat (go_quiet (fail); try go_wp2)
  go_ret
  exact ⟨by first | rfl | (simp; done) | (simp [*]; done), by repeat (first | exact Drawn0.refl _ | apply Drawn0.step)⟩
end Go.Proofs.Ytimejdhglmajdaa.F
end

section
namespace Go.Proofs.Ytimejdhglmajdaa.F
open Go.RowKit Go.Proofs.YtimejdhglmajdaaW.PrintWords Go.Proofs.YtimejdhglmajdaaW.PrintLast Go.Proofs.YtimejdhglmajdaaW.PrintMore
set_option linter.unusedVariables false
set_option linter.unusedSimpArgs false
attribute [local go_sem] min2_int min_two
set_option maxHeartbeats 8000000 in
set_option maxRecDepth 100000 in
theorem laws_toTimed.calls (k : Nat) (a0_0 : Int) (a0_1 : Int) (a0_2 : Int) (a0_3 : Int) (A0_4 : Option Addr) (c0_4 : Nat) (l0_4 : List (SlaGate)) (r1 : Int) (r2 : Int) (r3 : Int) (r4 : Int) (r5 : List (SGate)) (w : World) (hr0_4 : Kd.C k139 w A0_4 l0_4.length l0_4) (hc0_4 : l0_4.length ≤ c0_4) (h : laws_toTimed.f k a0_0 a0_1 a0_2 a0_3 l0_4 = some (r1, r2, r3, r4, r5)) :
  Calls Try.prog 36 #[.agg #[.int .i64 a0_0, .int .i64 a0_1, .int .i64 a0_2, .int .i64 a0_3, .slice A0_4 l0_4.length c0_4]] w fun e w' => ∃ v4_ : Value, e = .returned (.agg #[.int .i64 r1, .int .i64 r2, .int .i64 r3, .int .i64 r4, v4_]) ∧ Kd.R k137 137 w' w.heap.size (fun _ => True) v4_ r5 ∧ Below w.heap.size w w' := by
 have hu51 := Try.underlying51
 have hu58 := Try.underlying58
 have hu25 := Try.underlying25
 have hu32 := Try.underlying32
 have HR0_4 := aK hr0_4
 have HC0_4 := aK hc0_4
 clear hr0_4 hc0_4
 have HB := aK (Below.refl w.heap.size w)
 have H : ((laws_toMaze.f a0_0 a0_1 a0_2).bind fun bt634 => ((laws_toGateS.f k l0_4).bind fun t637 => (some (bt634.1, bt634.2.1, bt634.2.2, a0_3, t637)))) = some (r1, r2, r3, r4, r5) := h
 clear h
 replace H := Option.bind_eq_some_iff.mp H
 obtain ⟨⟨t634, t635, t636⟩, A20, H⟩ := H
 replace H : ((laws_toGateS.f k l0_4).bind fun t637 => (some (t634, t635, t636, a0_3, t637))) = some (r1, r2, r3, r4, r5) := H
 have A2 := aK A20
 clear A20
 replace H := Option.bind_eq_some_iff.mp H
 obtain ⟨t637, A30, H⟩ := H
 replace H : (some (t634, t635, t636, a0_3, t637)) = some (r1, r2, r3, r4, r5) := H
 have A3 := aK A30
 clear A30
 simp only [Option.some.injEq, Prod.mk.injEq] at H
 obtain ⟨rfl, rfl, rfl, rfl, rfl⟩ := H
 go_enter Try.func36, Try.ntmps36
 go_wp2_with (first | ((with_reducible refine gate_dst (N := 1) rfl ?_); refine box_event ?hg (N := 1) ?hd (cs := #[.int .i64 a0_0, .int .i64 a0_1, .int .i64 a0_2, .int .i64 a0_3, .slice A0_4 l0_4.length c0_4]) (t := 51) ?hr ?_; (case hd => rfl); (case hg => rfl); (case hr => first | (go_simp; done) | (go_simp; rfl)); intro gb631 hg w4 hbox hb; have n0_ := aK (bSp (by repeat (first | (with_reducible first | exact HB.out | apply bAl | apply bDN | apply bD1) | exact HB.out)) hb); have n1_ := aK (hbox); have n2_ := aK ((by rw [hg]; exact (bSz (by repeat (first | (with_reducible first | exact HB.out | apply bAl | apply bDN | apply bD1) | exact HB.out))) : w.heap.size ≤ gb631)); have n3_ := n2_; clear HB; have HB := n0_; have BK631 := n1_; have GW631 := n2_; have GE631 := n3_; clear n0_ n1_ n2_ n3_; clear hb hbox hg) | ((with_reducible refine gate_dst (N := 2) rfl ?_); refine box_event ?hg (N := 2) ?hd (cs := #[.int .i64 0, .int .i64 0, .int .i64 0, .int .i64 0, .slice none 0 0]) (t := 58) ?hr ?_; (case hd => rfl); (case hg => rfl); (case hr => first | (go_simp; done) | (go_simp; rfl)); intro gb632 hg w5 hbox hb; have n0_ := bkb BK631 hb (by intro z_; (with_reducible repeat (first | refine kDN ?_ _ | refine kD ?_ | refine kA ?_ _)); exact z_); have n1_ := aK (bSp (by repeat (first | (with_reducible first | exact HB.out | apply bAl | apply bDN | apply bD1 | refine bSt ?_ GE631.out) | exact HB.out)) hb); have n2_ := aK (hbox); have n3_ := aK ((by rw [hg]; exact (bSz (by repeat (first | (with_reducible first | exact HB.out | apply bAl | apply bDN | apply bD1 | refine bSt ?_ GE631.out) | exact HB.out))) : w.heap.size ≤ gb632)); have n4_ := n3_; have n5_ := nbl BK631 hg (by intro z_; (with_reducible repeat (first | refine kDN ?_ _ | refine kD ?_ | refine kA ?_ _)); exact z_); have n6_ := nbs n5_; clear BK631; clear HB; have BK631 := n0_; have HB := n1_; have BK632 := n2_; have GW632 := n3_; have GE632 := n4_; have NB631_632 := n5_; have NB632_631 := n6_; clear n0_ n1_ n2_ n3_ n4_ n5_ n6_; clear hb hbox hg) | ((with_reducible refine gate_dst (N := 3) rfl ?_); refine box_event ?hg (N := 3) ?hd (cs := #[.int .i64 0, .int .i64 0, .int .i64 0, .int .i64 0, .slice none 0 0]) (t := 58) ?hr ?_; (case hd => rfl); (case hg => rfl); (case hr => first | (go_simp; done) | (go_simp; rfl)); intro gb633 hg w6 hbox hb; have n0_ := bkb BK631 hb (by intro z_; (with_reducible repeat (first | refine kDN ?_ _ | refine kD ?_ | refine kA ?_ _)); exact z_); have n1_ := bkb BK632 hb (by intro z_; (with_reducible repeat (first | refine kDN ?_ _ | refine kD ?_ | refine kA ?_ _)); exact z_); have n2_ := aK (bSp (by repeat (first | (with_reducible first | exact HB.out | apply bAl | apply bDN | apply bD1 | refine bSt ?_ GE631.out | refine bSt ?_ GE632.out) | exact HB.out)) hb); have n3_ := aK (hbox); have n4_ := aK ((by rw [hg]; exact (bSz (by repeat (first | (with_reducible first | exact HB.out | apply bAl | apply bDN | apply bD1 | refine bSt ?_ GE631.out | refine bSt ?_ GE632.out) | exact HB.out))) : w.heap.size ≤ gb633)); have n5_ := n4_; have n6_ := nbl BK631 hg (by intro z_; (with_reducible repeat (first | refine kDN ?_ _ | refine kD ?_ | refine kA ?_ _)); exact z_); have n7_ := nbs n6_; have n8_ := nbl BK632 hg (by intro z_; (with_reducible repeat (first | refine kDN ?_ _ | refine kD ?_ | refine kA ?_ _)); exact z_); have n9_ := nbs n8_; clear BK631; clear BK632; clear HB; have BK631 := n0_; have BK632 := n1_; have HB := n2_; have BK633 := n3_; have GW633 := n4_; have GE633 := n5_; have NB631_633 := n6_; have NB633_631 := n7_; have NB632_633 := n8_; have NB633_632 := n9_; clear n0_ n1_ n2_ n3_ n4_ n5_ n6_ n7_ n8_ n9_; clear hb hbox hg; have hnb7 := NB631_632.out; have hnc7 := NB632_631.out; have hnb8 := NB631_633.out; have hnc8 := NB633_631.out; obtain ⟨hcz9_0, hcz9_1, hcz9_2, hcz9_3, hcz9_4, hfz9_0, hfz9_1, hfz9_2, hfz9_3, hfz9_4⟩ := cl5 BK631.out) | ((with_reducible refine gate_callee (f := 17) rfl ?_); refine goesL_ (some 6) rfl rfl Try.func17 (by kernel_rfl) rfl #[.agg #[.int .i64 a0_0, .int .i64 a0_1, .int .i64 a0_2]] rfl (by (try simp only [List.map_toArray, List.map_cons, List.map_nil]); first | done | rfl | (simp only [List.length_drop, List.length_take]; rfl)) ?_; (with_reducible refine (laws_toMaze.calls a0_0 a0_1 a0_2 t634 t635 t636 _ A2.out).mono ?_); rintro e w10 ⟨rfl, hb⟩; refine ⟨_, rfl, ?_⟩; have n0_ := bkb BK631 hb (by intro z_; (with_reducible repeat (first | refine kDN ?_ _ | refine kD ?_ | refine kA ?_ _)); exact z_); have n1_ := bkb BK632 hb (by intro z_; (with_reducible repeat (first | refine kDN ?_ _ | refine kD ?_ | refine kA ?_ _)); exact z_); have n2_ := bkb BK633 hb (by intro z_; (with_reducible repeat (first | refine kDN ?_ _ | refine kD ?_ | refine kA ?_ _)); exact z_); have n3_ := aK (bSp (by repeat (first | (with_reducible first | exact HB.out | apply bAl | apply bDN | apply bD1 | refine bSt ?_ GE631.out | refine bSt ?_ GE632.out | refine bSt ?_ GE633.out) | exact HB.out)) hb); clear BK631; clear BK632; clear BK633; clear HB; have BK631 := n0_; have BK632 := n1_; have BK633 := n2_; have HB := n3_; clear n0_ n1_ n2_ n3_; (try clear hb); (try clear hb2); (try clear hk); (try clear hi); have hnb11 := NB633_632.out; have hnc11 := NB632_633.out; obtain ⟨hcz12_0, hcz12_1, hcz12_2, hcz12_3, hcz12_4, hfz12_0, hfz12_1, hfz12_2, hfz12_3, hfz12_4⟩ := cl5 BK633.out; obtain ⟨hcz13_0, hcz13_1, hcz13_2, hcz13_3, hcz13_4, hfz13_0, hfz13_1, hfz13_2, hfz13_3, hfz13_4⟩ := cl5 BK631.out) | ((with_reducible refine gate_callee (f := 86) rfl ?_); refine goesL_ (some 13) rfl rfl Try.func86 (by kernel_rfl) rfl #[.slice A0_4 l0_4.length c0_4] rfl (by (try simp only [List.map_toArray, List.map_cons, List.map_nil]); first | done | rfl | (simp only [List.length_drop, List.length_take]; rfl)) ?_; (with_reducible refine (laws_toGateS.calls k _ _ l0_4 t637 _ ?side1 ?side2 A3.out).mono ?_); (case side1 => exact Kd.C_below HR0_4.out (by repeat (first | (with_reducible first | exact HB.out | apply bAl | apply bDN | apply bD1 | refine bSt ?_ GE631.out | refine bSt ?_ GE632.out | refine bSt ?_ GE633.out) | exact HB.out))); (case side2 => exact HC0_4.out); rintro e w14 ⟨v638, rfl, ho0, hb⟩; refine ⟨_, rfl, ?_⟩; have n0_ := aK (Kd.R_lower ho0 (bSz (by repeat (first | (with_reducible first | exact HB.out | apply bAl | apply bDN | apply bD1 | refine bSt ?_ GE631.out | refine bSt ?_ GE632.out | refine bSt ?_ GE633.out) | exact HB.out)))); have n1_ := bkb BK631 hb (by intro z_; (with_reducible repeat (first | refine kDN ?_ _ | refine kD ?_ | refine kA ?_ _)); refine blk_far ?_ NB631_633.out _; (with_reducible repeat (first | refine kDN ?_ _ | refine kD ?_ | refine kA ?_ _)); refine blk_far ?_ NB631_633.out _; (with_reducible repeat (first | refine kDN ?_ _ | refine kD ?_ | refine kA ?_ _)); refine blk_far ?_ NB631_633.out _; (with_reducible repeat (first | refine kDN ?_ _ | refine kD ?_ | refine kA ?_ _)); refine blk_far ?_ NB631_633.out _; (with_reducible repeat (first | refine kDN ?_ _ | refine kD ?_ | refine kA ?_ _)); exact z_); have n2_ := bkb BK632 hb (by intro z_; (with_reducible repeat (first | refine kDN ?_ _ | refine kD ?_ | refine kA ?_ _)); refine blk_far ?_ NB632_633.out _; (with_reducible repeat (first | refine kDN ?_ _ | refine kD ?_ | refine kA ?_ _)); refine blk_far ?_ NB632_633.out _; (with_reducible repeat (first | refine kDN ?_ _ | refine kD ?_ | refine kA ?_ _)); refine blk_far ?_ NB632_633.out _; (with_reducible repeat (first | refine kDN ?_ _ | refine kD ?_ | refine kA ?_ _)); refine blk_far ?_ NB632_633.out _; (with_reducible repeat (first | refine kDN ?_ _ | refine kD ?_ | refine kA ?_ _)); exact z_); have n3_ := aK (blk_below (g := gb633) (o := .cells #[.int .i64 t634, .int .i64 t635, .int .i64 t636, .int .i64 a0_3, .slice none 0 0] 58 (0, 0)) (by (with_reducible repeat (first | refine kDN ?_ _ | refine kD ?_ | refine kA ?_ _)); refine blk_put (cs := #[.int .i64 t634, .int .i64 t635, .int .i64 t636, .int .i64 0, .slice none 0 0]) ?_ 3 _ rfl; (with_reducible repeat (first | refine kDN ?_ _ | refine kD ?_ | refine kA ?_ _)); refine blk_put (cs := #[.int .i64 t634, .int .i64 t635, .int .i64 0, .int .i64 0, .slice none 0 0]) ?_ 2 _ rfl; (with_reducible repeat (first | refine kDN ?_ _ | refine kD ?_ | refine kA ?_ _)); refine blk_put (cs := #[.int .i64 t634, .int .i64 0, .int .i64 0, .int .i64 0, .slice none 0 0]) ?_ 1 _ rfl; (with_reducible repeat (first | refine kDN ?_ _ | refine kD ?_ | refine kA ?_ _)); refine blk_put (cs := #[.int .i64 0, .int .i64 0, .int .i64 0, .int .i64 0, .slice none 0 0]) ?_ 0 _ rfl; (with_reducible repeat (first | refine kDN ?_ _ | refine kD ?_ | refine kA ?_ _)); exact BK633.out) hb); have n4_ := aK (bSp (by repeat (first | (with_reducible first | exact HB.out | apply bAl | apply bDN | apply bD1 | refine bSt ?_ GE631.out | refine bSt ?_ GE632.out | refine bSt ?_ GE633.out) | exact HB.out)) hb); clear BK631; clear BK632; clear BK633; clear HB; have HO639 := n0_; have BK631 := n1_; have BK632 := n2_; have BK633 := n3_; have HB := n4_; clear n0_ n1_ n2_ n3_ n4_; (try clear hb); (try clear hb2); (try clear hk); (try clear hi); (try clear ho0); obtain ⟨Ao15, co15, eo15⟩ := Kd.R_slice HO639.out; subst eo15; obtain ⟨hcz16_0, hcz16_1, hcz16_2, hcz16_3, hcz16_4, hfz16_0, hfz16_1, hfz16_2, hfz16_3, hfz16_4⟩ := cl5 BK633.out; obtain ⟨hcz17_0, hcz17_1, hcz17_2, hcz17_3, hcz17_4, hfz17_0, hfz17_1, hfz17_2, hfz17_3, hfz17_4⟩ := cl5 BK632.out))
 refine bodyPost_ret (results_cell_row rfl _ _ gb632 58 #[.int .i64 t634, .int .i64 t635, .int .i64 t636, .int .i64 a0_3, .slice Ao15 t637.length co15] (0, 0) _ rfl (by (with_reducible repeat (first | refine kDN ?_ _ | refine kD ?_ | refine kA ?_ _)); refine blk_put (cs := #[.int .i64 t634, .int .i64 t635, .int .i64 t636, .int .i64 a0_3, .slice none 0 0]) ?_ 4 _ rfl; (with_reducible repeat (first | refine kDN ?_ _ | refine kD ?_ | refine kA ?_ _)); refine blk_put (cs := #[.int .i64 t634, .int .i64 t635, .int .i64 t636, .int .i64 0, .slice none 0 0]) ?_ 3 _ rfl; (with_reducible repeat (first | refine kDN ?_ _ | refine kD ?_ | refine kA ?_ _)); refine blk_put (cs := #[.int .i64 t634, .int .i64 t635, .int .i64 0, .int .i64 0, .slice none 0 0]) ?_ 2 _ rfl; (with_reducible repeat (first | refine kDN ?_ _ | refine kD ?_ | refine kA ?_ _)); refine blk_put (cs := #[.int .i64 t634, .int .i64 0, .int .i64 0, .int .i64 0, .slice none 0 0]) ?_ 1 _ rfl; (with_reducible repeat (first | refine kDN ?_ _ | refine kD ?_ | refine kA ?_ _)); refine blk_put (cs := #[.int .i64 0, .int .i64 0, .int .i64 0, .int .i64 0, .slice none 0 0]) ?_ 0 _ rfl; (with_reducible repeat (first | refine kDN ?_ _ | refine kD ?_ | refine kA ?_ _)); refine blk_far ?_ NB632_633.out _; (with_reducible repeat (first | refine kDN ?_ _ | refine kD ?_ | refine kA ?_ _)); exact BK632.out) Try.underlying58 rfl (by kernel_rfl)) rfl ?_
 exact ⟨_, by first | rfl | (simp [errW_none, errW_some] <;> rfl) | (simp [*, errW_none, errW_some] <;> rfl), by (with_reducible repeat (first | apply Kd.R_alloc | apply Kd.R_drewN | apply Kd.R_drew)); exact Kd.R_mono (Kd.R_far (p := ⟨gb632, 4, none⟩) (Kd.R_far (p := ⟨gb632, 3, none⟩) (Kd.R_far (p := ⟨gb632, 2, none⟩) (Kd.R_far (p := ⟨gb632, 1, none⟩) (Kd.R_far (p := ⟨gb632, 0, none⟩) (Kd.R_far (p := ⟨gb633, 4, none⟩) (Kd.R_types (Kd.R_types HO639.out BK633.out (by decide)) BK632.out (by decide)) (fun _ hk => hk.1.2) (.slice Ao15 t637.length co15)) (fun _ hk => hk.2) (.int .i64 t634)) (fun _ hk => hk.2) (.int .i64 t635)) (fun _ hk => hk.2) (.int .i64 t636)) (fun _ hk => hk.2) (.int .i64 a0_3)) (fun _ hk => hk.2) (.slice Ao15 t637.length co15)) (fun _ hk => trivial), by repeat (first | (with_reducible first | exact HB.out | apply bAl | apply bDN | apply bD1 | refine bSt ?_ GE631.out | refine bSt ?_ GE632.out | refine bSt ?_ GE633.out) | exact HB.out)⟩
set_option maxHeartbeats 8000000 in
set_option maxRecDepth 100000 in
theorem laws_toEntry.calls (a0_0 : Int) (a0_1 : Int) (r1 : Int) (r2 : Int) (w : World) (h : laws_toEntry.f a0_0 a0_1 = some (r1, r2)) :
  Calls Try.prog 37 #[.agg #[.int .i64 a0_0, .int .i64 a0_1]] w fun e w' => e = .returned (.agg #[.int .i64 r1, .int .i64 r2]) ∧ Below w.heap.size w w' := by
 have hu53 := Try.underlying53
 have hu60 := Try.underlying60
 have HB := aK (Below.refl w.heap.size w)
 have H : (some (a0_0, a0_1)) = some (r1, r2) := h
 clear h
 simp only [Option.some.injEq, Prod.mk.injEq] at H
 obtain ⟨rfl, rfl⟩ := H
 go_enter Try.func37, Try.ntmps37
 go_wp2_with (first | ((with_reducible refine gate_dst (N := 1) rfl ?_); refine box_event ?hg (N := 1) ?hd (cs := #[.int .i64 a0_0, .int .i64 a0_1]) (t := 53) ?hr ?_; (case hd => rfl); (case hg => rfl); (case hr => first | (go_simp; done) | (go_simp; rfl)); intro gb640 hg w2 hbox hb; have n0_ := aK (bSp (by repeat (first | (with_reducible first | exact HB.out | apply bAl | apply bDN | apply bD1) | exact HB.out)) hb); have n1_ := aK (hbox); have n2_ := aK ((by rw [hg]; exact (bSz (by repeat (first | (with_reducible first | exact HB.out | apply bAl | apply bDN | apply bD1) | exact HB.out))) : w.heap.size ≤ gb640)); have n3_ := n2_; clear HB; have HB := n0_; have BK640 := n1_; have GW640 := n2_; have GE640 := n3_; clear n0_ n1_ n2_ n3_; clear hb hbox hg) | ((with_reducible refine gate_dst (N := 2) rfl ?_); refine box_event ?hg (N := 2) ?hd (cs := #[.int .i64 0, .int .i64 0]) (t := 60) ?hr ?_; (case hd => rfl); (case hg => rfl); (case hr => first | (go_simp; done) | (go_simp; rfl)); intro gb641 hg w3 hbox hb; have n0_ := bkb BK640 hb (by intro z_; (with_reducible repeat (first | refine kDN ?_ _ | refine kD ?_ | refine kA ?_ _)); exact z_); have n1_ := aK (bSp (by repeat (first | (with_reducible first | exact HB.out | apply bAl | apply bDN | apply bD1 | refine bSt ?_ GE640.out) | exact HB.out)) hb); have n2_ := aK (hbox); have n3_ := aK ((by rw [hg]; exact (bSz (by repeat (first | (with_reducible first | exact HB.out | apply bAl | apply bDN | apply bD1 | refine bSt ?_ GE640.out) | exact HB.out))) : w.heap.size ≤ gb641)); have n4_ := n3_; have n5_ := nbl BK640 hg (by intro z_; (with_reducible repeat (first | refine kDN ?_ _ | refine kD ?_ | refine kA ?_ _)); exact z_); have n6_ := nbs n5_; clear BK640; clear HB; have BK640 := n0_; have HB := n1_; have BK641 := n2_; have GW641 := n3_; have GE641 := n4_; have NB640_641 := n5_; have NB641_640 := n6_; clear n0_ n1_ n2_ n3_ n4_ n5_ n6_; clear hb hbox hg) | ((with_reducible refine gate_dst (N := 3) rfl ?_); refine box_event ?hg (N := 3) ?hd (cs := #[.int .i64 0, .int .i64 0]) (t := 60) ?hr ?_; (case hd => rfl); (case hg => rfl); (case hr => first | (go_simp; done) | (go_simp; rfl)); intro gb642 hg w4 hbox hb; have n0_ := bkb BK640 hb (by intro z_; (with_reducible repeat (first | refine kDN ?_ _ | refine kD ?_ | refine kA ?_ _)); exact z_); have n1_ := bkb BK641 hb (by intro z_; (with_reducible repeat (first | refine kDN ?_ _ | refine kD ?_ | refine kA ?_ _)); exact z_); have n2_ := aK (bSp (by repeat (first | (with_reducible first | exact HB.out | apply bAl | apply bDN | apply bD1 | refine bSt ?_ GE640.out | refine bSt ?_ GE641.out) | exact HB.out)) hb); have n3_ := aK (hbox); have n4_ := aK ((by rw [hg]; exact (bSz (by repeat (first | (with_reducible first | exact HB.out | apply bAl | apply bDN | apply bD1 | refine bSt ?_ GE640.out | refine bSt ?_ GE641.out) | exact HB.out))) : w.heap.size ≤ gb642)); have n5_ := n4_; have n6_ := nbl BK640 hg (by intro z_; (with_reducible repeat (first | refine kDN ?_ _ | refine kD ?_ | refine kA ?_ _)); exact z_); have n7_ := nbs n6_; have n8_ := nbl BK641 hg (by intro z_; (with_reducible repeat (first | refine kDN ?_ _ | refine kD ?_ | refine kA ?_ _)); exact z_); have n9_ := nbs n8_; clear BK640; clear BK641; clear HB; have BK640 := n0_; have BK641 := n1_; have HB := n2_; have BK642 := n3_; have GW642 := n4_; have GE642 := n5_; have NB640_642 := n6_; have NB642_640 := n7_; have NB641_642 := n8_; have NB642_641 := n9_; clear n0_ n1_ n2_ n3_ n4_ n5_ n6_ n7_ n8_ n9_; clear hb hbox hg; have hnb5 := NB640_641.out; have hnc5 := NB641_640.out; have hnb6 := NB640_642.out; have hnc6 := NB642_640.out; obtain ⟨hcz7_0, hcz7_1, hfz7_0, hfz7_1⟩ := cl2 BK640.out; have hnb8 := NB642_641.out; have hnc8 := NB641_642.out; obtain ⟨hcz9_0, hcz9_1, hfz9_0, hfz9_1⟩ := cl2 BK642.out; obtain ⟨hcz10_0, hcz10_1, hfz10_0, hfz10_1⟩ := cl2 BK641.out))
 refine bodyPost_ret (results_cell_row rfl _ _ gb641 60 #[.int .i64 a0_0, .int .i64 a0_1] (0, 0) _ rfl (by (with_reducible repeat (first | refine kDN ?_ _ | refine kD ?_ | refine kA ?_ _)); refine blk_put (cs := #[.int .i64 a0_0, .int .i64 0]) ?_ 1 _ rfl; (with_reducible repeat (first | refine kDN ?_ _ | refine kD ?_ | refine kA ?_ _)); refine blk_put (cs := #[.int .i64 0, .int .i64 0]) ?_ 0 _ rfl; (with_reducible repeat (first | refine kDN ?_ _ | refine kD ?_ | refine kA ?_ _)); refine blk_far ?_ NB641_642.out _; (with_reducible repeat (first | refine kDN ?_ _ | refine kD ?_ | refine kA ?_ _)); refine blk_far ?_ NB641_642.out _; (with_reducible repeat (first | refine kDN ?_ _ | refine kD ?_ | refine kA ?_ _)); exact BK641.out) Try.underlying60 rfl (by kernel_rfl)) rfl ?_
 exact ⟨by first | rfl | (simp [errW_none, errW_some] <;> rfl) | (simp [*, errW_none, errW_some] <;> rfl), by repeat (first | (with_reducible first | exact HB.out | apply bAl | apply bDN | apply bD1 | refine bSt ?_ GE640.out | refine bSt ?_ GE641.out | refine bSt ?_ GE642.out) | exact HB.out)⟩
set_option maxHeartbeats 8000000 in
set_option maxRecDepth 100000 in
theorem impl_IsPassage.calls (a0_0 : Int) (a0_1 : Int) (a0_2 : Int) (a1 : Int) (r : Bool) (w : World) (h : impl_IsPassage.f a0_0 a0_1 a0_2 a1 = some r) :
  Calls Try.prog 159 #[.agg #[.int .i64 a0_0, .int .i64 a0_1, .int .i64 a0_2], .int .i64 a1] w fun e w' => e = .returned (.bool r) ∧ Below w.heap.size w w' := by
 have hu32 := Try.underlying32
 have hu30 := Try.underlying30
 have HB := aK (Below.refl w.heap.size w)
 have H : ((impl_MazeOk.f a0_0 a0_1 a0_2).bind fun t644 => (if t644 = true then ((impl_isGap.f a0_0 a0_1 a1).bind fun t645 => (if t645 = true then ((impl_isOpen.f a0_0 a0_1 a0_2 a1).bind fun t646 => (some t646)) else (some false))) else (some false))) = some r := h
 clear h
 replace H := Option.bind_eq_some_iff.mp H
 obtain ⟨t644, A30, H⟩ := H
 replace H : (if t644 = true then ((impl_isGap.f a0_0 a0_1 a1).bind fun t645 => (if t645 = true then ((impl_isOpen.f a0_0 a0_1 a0_2 a1).bind fun t646 => (some t646)) else (some false))) else (some false)) = some r := H
 have A3 := aK A30
 clear A30
 by_cases c4 : t644 = true
 ·subst c4
  have H1 : ((impl_isGap.f a0_0 a0_1 a1).bind fun t645 => (if t645 = true then ((impl_isOpen.f a0_0 a0_1 a0_2 a1).bind fun t646 => (some t646)) else (some false))) = some r := by rw [if_pos rfl] at H; exact H
  clear H
  have H := H1
  clear H1
  replace H := Option.bind_eq_some_iff.mp H
  obtain ⟨t645, A50, H⟩ := H
  replace H : (if t645 = true then ((impl_isOpen.f a0_0 a0_1 a0_2 a1).bind fun t646 => (some t646)) else (some false)) = some r := H
  have A5 := aK A50
  clear A50
  by_cases c6 : t645 = true
  ·subst c6
   have H1 : ((impl_isOpen.f a0_0 a0_1 a0_2 a1).bind fun t646 => (some t646)) = some r := by rw [if_pos rfl] at H; exact H
   clear H
   have H := H1
   clear H1
   replace H := Option.bind_eq_some_iff.mp H
   obtain ⟨t646, A70, H⟩ := H
   replace H : (some t646) = some r := H
   have A7 := aK A70
   clear A70
   obtain rfl := Option.some.inj H
   go_enter Try.func159, Try.ntmps159
   go_wp2_with (first | ((with_reducible refine gate_dst (N := 2) rfl ?_); refine box_event ?hg (N := 2) ?hd (cs := #[.int .i64 a0_0, .int .i64 a0_1, .int .i64 a0_2]) (t := 32) ?hr ?_; (case hd => rfl); (case hg => rfl); (case hr => first | (go_simp; done) | (go_simp; rfl)); intro gb643 hg w8 hbox hb; have n0_ := aK (bSp (by repeat (first | (with_reducible first | exact HB.out | apply bAl | apply bDN | apply bD1) | exact HB.out)) hb); have n1_ := aK (hbox); have n2_ := aK ((by rw [hg]; exact (bSz (by repeat (first | (with_reducible first | exact HB.out | apply bAl | apply bDN | apply bD1) | exact HB.out))) : w.heap.size ≤ gb643)); have n3_ := n2_; clear HB; have HB := n0_; have BK643 := n1_; have GW643 := n2_; have GE643 := n3_; clear n0_ n1_ n2_ n3_; clear hb hbox hg; obtain ⟨hcz9_0, hcz9_1, hcz9_2, hfz9_0, hfz9_1, hfz9_2⟩ := cl3 BK643.out) | ((with_reducible refine gate_callee (f := 94) rfl ?_); refine goesL_ (some 6) rfl rfl Try.func94 (by kernel_rfl) rfl #[.agg #[.int .i64 a0_0, .int .i64 a0_1, .int .i64 a0_2]] rfl (by (try simp only [List.map_toArray, List.map_cons, List.map_nil]); first | done | rfl | (simp only [List.length_drop, List.length_take]; rfl)) ?_; (with_reducible refine (impl_MazeOk.calls a0_0 a0_1 a0_2 true _ A3.out).mono ?_); rintro e w10 ⟨rfl, hb⟩; refine ⟨_, rfl, ?_⟩; have n0_ := bkb BK643 hb (by intro z_; (with_reducible repeat (first | refine kDN ?_ _ | refine kD ?_ | refine kA ?_ _)); exact z_); have n1_ := aK (bSp (by repeat (first | (with_reducible first | exact HB.out | apply bAl | apply bDN | apply bD1 | refine bSt ?_ GE643.out) | exact HB.out)) hb); clear BK643; clear HB; have BK643 := n0_; have HB := n1_; clear n0_ n1_; (try clear hb); (try clear hb2); (try clear hk); (try clear hi); obtain ⟨hcz11_0, hcz11_1, hcz11_2, hfz11_0, hfz11_1, hfz11_2⟩ := cl3 BK643.out) | (go_at_call 132; (with_reducible refine (impl_isGap.calls a0_0 a0_1 a1 true _ A5.out).mono ?_); rintro e w12 ⟨rfl, hb⟩; have n0_ := bkb BK643 hb (by intro z_; (with_reducible repeat (first | refine kDN ?_ _ | refine kD ?_ | refine kA ?_ _)); exact z_); have n1_ := aK (bSp (by repeat (first | (with_reducible first | exact HB.out | apply bAl | apply bDN | apply bD1 | refine bSt ?_ GE643.out) | exact HB.out)) hb); clear BK643; clear HB; have BK643 := n0_; have HB := n1_; clear n0_ n1_; (try clear hb); (try clear hb2); (try clear hk); (try clear hi); obtain ⟨hcz13_0, hcz13_1, hcz13_2, hfz13_0, hfz13_1, hfz13_2⟩ := cl3 BK643.out) | (go_at_call 121; (with_reducible refine (impl_isOpen.calls a0_0 a0_1 a0_2 a1 t646 _ A7.out).mono ?_); rintro e w14 ⟨rfl, hb⟩; have n0_ := bkb BK643 hb (by intro z_; (with_reducible repeat (first | refine kDN ?_ _ | refine kD ?_ | refine kA ?_ _)); exact z_); have n1_ := aK (bSp (by repeat (first | (with_reducible first | exact HB.out | apply bAl | apply bDN | apply bD1 | refine bSt ?_ GE643.out) | exact HB.out)) hb); clear BK643; clear HB; have BK643 := n0_; have HB := n1_; clear n0_ n1_; (try clear hb); (try clear hb2); (try clear hk); (try clear hi)))
   go_ret
   exact ⟨by first | rfl | (simp [errW_none, errW_some] <;> rfl) | (simp [*, errW_none, errW_some] <;> rfl), by repeat (first | (with_reducible first | exact HB.out | apply bAl | apply bDN | apply bD1 | refine bSt ?_ GE643.out) | exact HB.out)⟩
  ·replace c6 := Bool.eq_false_iff.mpr c6
   subst c6
   have H1 : (some false) = some r := by rw [if_neg (show ¬ (false = true) by decide)] at H; exact H
   clear H
   have H := H1
   clear H1
   obtain rfl := Option.some.inj H
   go_enter Try.func159, Try.ntmps159
   go_wp2_with (first | ((with_reducible refine gate_dst (N := 2) rfl ?_); refine box_event ?hg (N := 2) ?hd (cs := #[.int .i64 a0_0, .int .i64 a0_1, .int .i64 a0_2]) (t := 32) ?hr ?_; (case hd => rfl); (case hg => rfl); (case hr => first | (go_simp; done) | (go_simp; rfl)); intro gb643 hg w15 hbox hb; have n0_ := aK (bSp (by repeat (first | (with_reducible first | exact HB.out | apply bAl | apply bDN | apply bD1) | exact HB.out)) hb); have n1_ := aK (hbox); have n2_ := aK ((by rw [hg]; exact (bSz (by repeat (first | (with_reducible first | exact HB.out | apply bAl | apply bDN | apply bD1) | exact HB.out))) : w.heap.size ≤ gb643)); have n3_ := n2_; clear HB; have HB := n0_; have BK643 := n1_; have GW643 := n2_; have GE643 := n3_; clear n0_ n1_ n2_ n3_; clear hb hbox hg; obtain ⟨hcz16_0, hcz16_1, hcz16_2, hfz16_0, hfz16_1, hfz16_2⟩ := cl3 BK643.out) | ((with_reducible refine gate_callee (f := 94) rfl ?_); refine goesL_ (some 6) rfl rfl Try.func94 (by kernel_rfl) rfl #[.agg #[.int .i64 a0_0, .int .i64 a0_1, .int .i64 a0_2]] rfl (by (try simp only [List.map_toArray, List.map_cons, List.map_nil]); first | done | rfl | (simp only [List.length_drop, List.length_take]; rfl)) ?_; (with_reducible refine (impl_MazeOk.calls a0_0 a0_1 a0_2 true _ A3.out).mono ?_); rintro e w17 ⟨rfl, hb⟩; refine ⟨_, rfl, ?_⟩; have n0_ := bkb BK643 hb (by intro z_; (with_reducible repeat (first | refine kDN ?_ _ | refine kD ?_ | refine kA ?_ _)); exact z_); have n1_ := aK (bSp (by repeat (first | (with_reducible first | exact HB.out | apply bAl | apply bDN | apply bD1 | refine bSt ?_ GE643.out) | exact HB.out)) hb); clear BK643; clear HB; have BK643 := n0_; have HB := n1_; clear n0_ n1_; (try clear hb); (try clear hb2); (try clear hk); (try clear hi); obtain ⟨hcz18_0, hcz18_1, hcz18_2, hfz18_0, hfz18_1, hfz18_2⟩ := cl3 BK643.out) | (go_at_call 132; (with_reducible refine (impl_isGap.calls a0_0 a0_1 a1 false _ A5.out).mono ?_); rintro e w19 ⟨rfl, hb⟩; have n0_ := bkb BK643 hb (by intro z_; (with_reducible repeat (first | refine kDN ?_ _ | refine kD ?_ | refine kA ?_ _)); exact z_); have n1_ := aK (bSp (by repeat (first | (with_reducible first | exact HB.out | apply bAl | apply bDN | apply bD1 | refine bSt ?_ GE643.out) | exact HB.out)) hb); clear BK643; clear HB; have BK643 := n0_; have HB := n1_; clear n0_ n1_; (try clear hb); (try clear hb2); (try clear hk); (try clear hi)))
   go_ret
   exact ⟨by first | rfl | (simp [errW_none, errW_some] <;> rfl) | (simp [*, errW_none, errW_some] <;> rfl), by repeat (first | (with_reducible first | exact HB.out | apply bAl | apply bDN | apply bD1 | refine bSt ?_ GE643.out) | exact HB.out)⟩
 ·replace c4 := Bool.eq_false_iff.mpr c4
  subst c4
  have H1 : (some false) = some r := by rw [if_neg (show ¬ (false = true) by decide)] at H; exact H
  clear H
  have H := H1
  clear H1
  obtain rfl := Option.some.inj H
  go_enter Try.func159, Try.ntmps159
  go_wp2_with (first | ((with_reducible refine gate_dst (N := 2) rfl ?_); refine box_event ?hg (N := 2) ?hd (cs := #[.int .i64 a0_0, .int .i64 a0_1, .int .i64 a0_2]) (t := 32) ?hr ?_; (case hd => rfl); (case hg => rfl); (case hr => first | (go_simp; done) | (go_simp; rfl)); intro gb643 hg w20 hbox hb; have n0_ := aK (bSp (by repeat (first | (with_reducible first | exact HB.out | apply bAl | apply bDN | apply bD1) | exact HB.out)) hb); have n1_ := aK (hbox); have n2_ := aK ((by rw [hg]; exact (bSz (by repeat (first | (with_reducible first | exact HB.out | apply bAl | apply bDN | apply bD1) | exact HB.out))) : w.heap.size ≤ gb643)); have n3_ := n2_; clear HB; have HB := n0_; have BK643 := n1_; have GW643 := n2_; have GE643 := n3_; clear n0_ n1_ n2_ n3_; clear hb hbox hg; obtain ⟨hcz21_0, hcz21_1, hcz21_2, hfz21_0, hfz21_1, hfz21_2⟩ := cl3 BK643.out) | ((with_reducible refine gate_callee (f := 94) rfl ?_); refine goesL_ (some 6) rfl rfl Try.func94 (by kernel_rfl) rfl #[.agg #[.int .i64 a0_0, .int .i64 a0_1, .int .i64 a0_2]] rfl (by (try simp only [List.map_toArray, List.map_cons, List.map_nil]); first | done | rfl | (simp only [List.length_drop, List.length_take]; rfl)) ?_; (with_reducible refine (impl_MazeOk.calls a0_0 a0_1 a0_2 false _ A3.out).mono ?_); rintro e w22 ⟨rfl, hb⟩; refine ⟨_, rfl, ?_⟩; have n0_ := bkb BK643 hb (by intro z_; (with_reducible repeat (first | refine kDN ?_ _ | refine kD ?_ | refine kA ?_ _)); exact z_); have n1_ := aK (bSp (by repeat (first | (with_reducible first | exact HB.out | apply bAl | apply bDN | apply bD1 | refine bSt ?_ GE643.out) | exact HB.out)) hb); clear BK643; clear HB; have BK643 := n0_; have HB := n1_; clear n0_ n1_; (try clear hb); (try clear hb2); (try clear hk); (try clear hi)))
  go_ret
  exact ⟨by first | rfl | (simp [errW_none, errW_some] <;> rfl) | (simp [*, errW_none, errW_some] <;> rfl), by repeat (first | (with_reducible first | exact HB.out | apply bAl | apply bDN | apply bD1 | refine bSt ?_ GE643.out) | exact HB.out)⟩
set_option maxHeartbeats 8000000 in
set_option maxRecDepth 100000 in
theorem impl_TimedOk.calls (k : Nat) (a0_0 : Int) (a0_1 : Int) (a0_2 : Int) (a0_3 : Int) (A0_4 : Option Addr) (c0_4 : Nat) (l0_4 : List SGate) (r : Bool) (w : World) (hr0_4 : Kd.C k137 w A0_4 l0_4.length l0_4) (hc0_4 : l0_4.length ≤ c0_4) (h : impl_TimedOk.f k a0_0 a0_1 a0_2 a0_3 l0_4 = some r) :
  Calls Try.prog 139 #[.agg #[.int .i64 a0_0, .int .i64 a0_1, .int .i64 a0_2, .int .i64 a0_3, .slice A0_4 l0_4.length c0_4]] w fun e w' => e = .returned (.bool r) ∧ Below w.heap.size w w' := by
 have hu := Try.underlying32
 have hut := Try.underlying58
 have hug := Try.underlying137
 have HR1 := aK hr0_4
 have HC1 := aK hc0_4
 clear hr0_4 hc0_4
 obtain ⟨b, hm, H⟩ := Option.bind_eq_some_iff.mp h
 clear h
 obtain ⟨w0, hw0⟩ : ∃ w0 : World, w0 = w.alloc (.cells #[.int .i64 a0_0, .int .i64 a0_1, .int .i64 a0_2, .int .i64 a0_3, .slice A0_4 l0_4.length c0_4] 58) := ⟨_, rfl⟩
 have HB0 := aK (show Below w.heap.size w w0 by rw [hw0]; exact (Below.refl _ w).alloc (Nat.le_refl _) _)
 have K0 := aK (show w0.heap[w.heap.size]? = some (.cells #[.int .i64 a0_0, .int .i64 a0_1, .int .i64 a0_2, .int .i64 a0_3, .slice A0_4 l0_4.length c0_4] 58 (0, 0)) by rw [hw0]; exact heap_alloc_new w _)
 have SZ := aK (show w0.heap.size = w.heap.size + 1 by rw [hw0]; simp)
 have HW := aK hw0
 clear hw0
 have HM := fun (W : World) => impl_MazeOk.calls a0_0 a0_1 a0_2 b W hm
 have HCL := aK (show ∀ W : World, W.heap[w.heap.size]? = some (.cells #[.int .i64 a0_0, .int .i64 a0_1, .int .i64 a0_2, .int .i64 a0_3, .slice A0_4 l0_4.length c0_4] 58 (0, 0)) → W.cell? ⟨w.heap.size, 0, none⟩ = some (.int .i64 a0_0) ∧ W.cell? ⟨w.heap.size, 1, none⟩ = some (.int .i64 a0_1) ∧ W.cell? ⟨w.heap.size, 2, none⟩ = some (.int .i64 a0_2) ∧ W.cell? ⟨w.heap.size, 3, none⟩ = some (.int .i64 a0_3) ∧ W.cell? ⟨w.heap.size, 4, none⟩ = some (.slice A0_4 l0_4.length c0_4) from fun W hb =>
  ⟨(kC hb 0).trans rfl, (kC hb 1).trans rfl, (kC hb 2).trans rfl, (kC hb 3).trans rfl, (kC hb 4).trans rfl⟩)
 have early : (b = false ∨ a0_3 < 1 ∨ a0_3 > 6 ∨ (l0_4.length : Int) > 8) → r = false := by
  intro q
  cases b with
  | false => rw [if_neg Bool.false_ne_true] at H; exact (Option.some.inj H).symm
  | true =>
   rw [if_pos rfl] at H
   rcases q with q | q | q | q
   ·cases q
   ·rw [if_pos q] at H; exact (Option.some.inj H).symm
   ·rw [if_neg (by omega), if_pos q] at H; exact (Option.some.inj H).symm
   ·by_cases h1 : a0_3 < 1
    ·rw [if_pos h1] at H; exact (Option.some.inj H).symm
    ·by_cases h2 : a0_3 > 6
     ·rw [if_neg h1, if_pos h2] at H; exact (Option.some.inj H).symm
     ·rw [if_neg h1, if_neg h2, if_pos q] at H; exact (Option.some.inj H).symm
 by_cases Q : b = false ∨ a0_3 < 1 ∨ a0_3 > 6 ∨ (l0_4.length : Int) > 8
 ·obtain rfl := early Q
  clear H early
  cases b with
  | false =>
   clear Q
   go_enter Try.func139, Try.ntmps139
   go_wp2_with (go_at_call 94; rw [← HW.out]; refine (HM _).mono ?_; rintro e w1 ⟨rfl, hb⟩; have HB1 := aK hb; obtain ⟨k0, k1, k2, k3, k4⟩ := HCL.out w1 ((hb.block _ (by have := SZ.out; omega)).trans K0.out); clear hb)
   go_ret
   exact ⟨rfl, HB0.out.trans (HB1.out.mono HB0.out.size)⟩
  | true =>
   by_cases h1 : a0_3 < 1
   ·have h1b : decide (a0_3 < 1) = true := decide_eq_true h1
    clear h1 Q
    go_enter Try.func139, Try.ntmps139
    go_wp2_with (go_at_call 94; rw [← HW.out]; refine (HM _).mono ?_; rintro e w1 ⟨rfl, hb⟩; have HB1 := aK hb; obtain ⟨k0, k1, k2, k3, k4⟩ := HCL.out w1 ((hb.block _ (by have := SZ.out; omega)).trans K0.out); clear hb)
    go_ret
    exact ⟨rfl, HB0.out.trans (HB1.out.mono HB0.out.size)⟩
   ·have h1b : decide (a0_3 < 1) = false := decide_eq_false h1
    by_cases h2 : a0_3 > 6
    ·have h2b : decide (a0_3 > 6) = true := decide_eq_true h2
     clear h1 h2 Q
     go_enter Try.func139, Try.ntmps139
     go_wp2_with (go_at_call 94; rw [← HW.out]; refine (HM _).mono ?_; rintro e w1 ⟨rfl, hb⟩; have HB1 := aK hb; obtain ⟨k0, k1, k2, k3, k4⟩ := HCL.out w1 ((hb.block _ (by have := SZ.out; omega)).trans K0.out); clear hb)
     go_ret
     exact ⟨rfl, HB0.out.trans (HB1.out.mono HB0.out.size)⟩
    ·have h2b : decide (a0_3 > 6) = false := decide_eq_false h2
     have h3b : decide ((l0_4.length : Int) > 8) = true := decide_eq_true (by rcases Q with q | q | q | q <;> first | cases q | omega)
     clear h1 h2 Q
     go_enter Try.func139, Try.ntmps139
     go_wp2_with (go_at_call 94; rw [← HW.out]; refine (HM _).mono ?_; rintro e w1 ⟨rfl, hb⟩; have HB1 := aK hb; obtain ⟨k0, k1, k2, k3, k4⟩ := HCL.out w1 ((hb.block _ (by have := SZ.out; omega)).trans K0.out); clear hb)
     go_ret
     exact ⟨rfl, HB0.out.trans (HB1.out.mono HB0.out.size)⟩
 ·obtain ⟨q0, q1, q2, q3⟩ : b = true ∧ ¬ a0_3 < 1 ∧ ¬ a0_3 > 6 ∧ ¬ (l0_4.length : Int) > 8 := ⟨by cases b with | true => rfl | false => exact absurd (Or.inl rfl) Q, fun z => Q (Or.inr (Or.inl z)), fun z => Q (Or.inr (Or.inr (Or.inl z))), fun z => Q (Or.inr (Or.inr (Or.inr z)))⟩
  subst q0
  rw [if_pos rfl, if_neg q1, if_neg q2, if_neg q3] at H
  have H' := aK H
  have h1b : decide (a0_3 < 1) = false := decide_eq_false q1
  have h2b : decide (a0_3 > 6) = false := decide_eq_false q2
  have h3b : decide ((l0_4.length : Int) > 8) = false := decide_eq_false q3
  have hp0 : 0 ≤ a0_3 := by omega
  have HP := aK (And.intro q1 (And.intro q2 q3))
  obtain ⟨sh, hsh⟩ : ∃ sh, sh = shl .i64 1 a0_3 := ⟨_, rfl⟩
  have hs2 : wrap64 (2 ^ min a0_3.toNat 64) = sh := by rw [hsh]; unfold shl wrap64; rw [Int.one_mul, IntKind.wrap_i64]; rfl
  have HSH := aK hsh
  clear hsh
  clear H early Q q1 q2 q3
  go_enter Try.func139, Try.ntmps139
  go_wp2_with (go_at_call 94; rw [← HW.out]; refine (HM _).mono ?_; rintro e w1 ⟨rfl, hb⟩; have HB1 := aK (HB0.out.trans (hb.mono HB0.out.size)); have KT := aK ((hb.block _ (by have := SZ.out; omega)).trans K0.out); obtain ⟨k0, k1, k2, k3, k4⟩ := HCL.out w1 KT.out; clear hb)
  clear k0 k1 k2 k3 k4 h1b h2b h3b HB0 K0 SZ HW HM hm
  go_loopg [28] 9 (fun gg v28 wr => ∃ i : Nat, v28 = .int .i64 i ∧ Aside0 (impl_TimedOk.l0 a0_0 a0_1 a0_2 a0_3 l0_4 gg i = some r) ∧ Aside0 (gg ≤ 9) ∧ Aside0 (wr.heap[w.heap.size]? = some (.cells #[.int .i64 a0_0, .int .i64 a0_1, .int .i64 a0_2, .int .i64 a0_3, .slice A0_4 l0_4.length c0_4] 58 (0, 0))) ∧ Aside0 (Below w.heap.size w wr))
  case atStart => exact ⟨0, rfl, H', ⟨Nat.le_refl _⟩, KT, HB1⟩
  case round =>
   clear H' KT HB1
   obtain ⟨i, rfl, HA, HK, KT, HB⟩ := hrel
   cases gk with
   | zero => exact absurd HA.out (by simp [impl_TimedOk.l0])
   | succ k1 =>
    have H := HA.out
    clear HA
    simp only [impl_TimedOk.l0] at H
    rw [← HSH.out] at H
    by_cases hlt : i < l0_4.length
    ·rw [if_pos hlt] at H
     have hltz : (i : Int) < (l0_4.length : Int) := by omega
     have hiz : (0 : Int) ≤ (i : Int) := by omega
     obtain ⟨ad, rfl, hx0, hx1⟩ := at_T137 (Kd.C_below HR1.out HB.out) (i : Int) hiz hltz
     rw [Int.toNat_natCast] at hx0 hx1
     obtain ⟨b, hps, H2⟩ := Option.bind_eq_some_iff.mp H
     clear H
     obtain ⟨y, hy⟩ : ∃ y, y = rd_Gate l0_4 (i : Int) := ⟨_, rfl⟩
     rw [← hy] at hx0 hx1 hps H2
     have HY := aK hy
     clear hy
     obtain ⟨k0, k1_, k2, k3, k4⟩ := HCL.out wr KT.out
     have HPS := fun (W : World) => impl_IsPassage.calls a0_0 a0_1 a0_2 y.f0 b W hps
     cases b with
     | false =>
      rw [if_neg Bool.false_ne_true] at H2
      obtain rfl := Option.some.inj H2
      go_wp2
      obtain ⟨wg, hwg⟩ : ∃ wg : World, wg = wr.alloc (.cells #[.int .i64 y.f0, .int .i64 y.f1] 137) := ⟨_, rfl⟩
      have HCG := aK (show ∀ W : World, Below wg.heap.size wg W → W.cell? ⟨w.heap.size, 0, none⟩ = some (.int .i64 a0_0) ∧ W.cell? ⟨w.heap.size, 1, none⟩ = some (.int .i64 a0_1) ∧ W.cell? ⟨w.heap.size, 2, none⟩ = some (.int .i64 a0_2) ∧ W.cell? ⟨w.heap.size, 3, none⟩ = some (.int .i64 a0_3) ∧ W.cell? ⟨w.heap.size, 4, none⟩ = some (.slice (some ad) l0_4.length c0_4) ∧ W.cell? ⟨wr.heap.size, 0, none⟩ = some (.int .i64 y.f0) ∧ W.cell? ⟨wr.heap.size, 1, none⟩ = some (.int .i64 y.f1) from fun W hb => by
       have hs : wg.heap.size = wr.heap.size + 1 := by rw [hwg]; simp
       have hlt2 := blk_lt KT.out
       have e1 : W.heap[w.heap.size]? = some (.cells #[.int .i64 a0_0, .int .i64 a0_1, .int .i64 a0_2, .int .i64 a0_3, .slice (some ad) l0_4.length c0_4] 58 (0, 0)) := (hb.block _ (by omega)).trans (by rw [hwg]; exact kA KT.out _)
       have e2 : W.heap[wr.heap.size]? = some (.cells #[.int .i64 y.f0, .int .i64 y.f1] 137 (0, 0)) := (hb.block _ (by omega)).trans (by rw [hwg]; exact heap_alloc_new wr _)
       exact ⟨(kC e1 0).trans rfl, (kC e1 1).trans rfl, (kC e1 2).trans rfl, (kC e1 3).trans rfl, (kC e1 4).trans rfl, (kC e2 0).trans rfl, (kC e2 1).trans rfl⟩)
      have HBG := aK (show Below w.heap.size w wg by rw [hwg]; exact HB.out.alloc HB.out.size _)
      rw [← hwg]
      clear hwg
      have G0 := fun x : Cls wg => (HCG.out x.W x.h).1
      have G1 := fun x : Cls wg => (HCG.out x.W x.h).2.1
      have G2 := fun x : Cls wg => (HCG.out x.W x.h).2.2.1
      have G3 := fun x : Cls wg => (HCG.out x.W x.h).2.2.2.1
      have G4 := fun x : Cls wg => (HCG.out x.W x.h).2.2.2.2.1
      have G5 := fun x : Cls wg => (HCG.out x.W x.h).2.2.2.2.2.1
      have G6 := fun x : Cls wg => (HCG.out x.W x.h).2.2.2.2.2.2
      refine wp_region_cls (C := fun W => ∃ x : Cls wg, W = x.W) (by kernel_rfl) (by kernel_rfl) (cls_drew wg) ?_
      repeat (go_big_quiet_step (((go_at_call 159; exact cls_call (HPS _)))))
      refine wpQuiet_nil ?_
      rintro _ ⟨⟨w5, hb5⟩, rfl⟩
      go_wp2
      go_ret
      exact ⟨rfl, HBG.out.trans (hb5.mono HBG.out.size)⟩
     | true =>
      rw [if_pos rfl] at H2
      have HLEN := aK (show i < 9 by have := HP.out.2.2; omega)
      obtain ⟨z, hz⟩ : ∃ z, z = rd_Gate l0_4 ((i : Int) - 1) := ⟨_, rfl⟩
      rw [← hz] at H2
      have HZ := aK hz
      clear hz
      go_wp2
      obtain ⟨wg, hwg⟩ : ∃ wg : World, wg = wr.alloc (.cells #[.int .i64 y.f0, .int .i64 y.f1] 137) := ⟨_, rfl⟩
      have HCG := aK (show ∀ W : World, Below wg.heap.size wg W → W.cell? ⟨w.heap.size, 0, none⟩ = some (.int .i64 a0_0) ∧ W.cell? ⟨w.heap.size, 1, none⟩ = some (.int .i64 a0_1) ∧ W.cell? ⟨w.heap.size, 2, none⟩ = some (.int .i64 a0_2) ∧ W.cell? ⟨w.heap.size, 3, none⟩ = some (.int .i64 a0_3) ∧ W.cell? ⟨w.heap.size, 4, none⟩ = some (.slice (some ad) l0_4.length c0_4) ∧ W.cell? ⟨wr.heap.size, 0, none⟩ = some (.int .i64 y.f0) ∧ W.cell? ⟨wr.heap.size, 1, none⟩ = some (.int .i64 y.f1) from fun W hb => by
       have hs : wg.heap.size = wr.heap.size + 1 := by rw [hwg]; simp
       have hlt2 := blk_lt KT.out
       have e1 : W.heap[w.heap.size]? = some (.cells #[.int .i64 a0_0, .int .i64 a0_1, .int .i64 a0_2, .int .i64 a0_3, .slice (some ad) l0_4.length c0_4] 58 (0, 0)) := (hb.block _ (by omega)).trans (by rw [hwg]; exact kA KT.out _)
       have e2 : W.heap[wr.heap.size]? = some (.cells #[.int .i64 y.f0, .int .i64 y.f1] 137 (0, 0)) := (hb.block _ (by omega)).trans (by rw [hwg]; exact heap_alloc_new wr _)
       exact ⟨(kC e1 0).trans rfl, (kC e1 1).trans rfl, (kC e1 2).trans rfl, (kC e1 3).trans rfl, (kC e1 4).trans rfl, (kC e2 0).trans rfl, (kC e2 1).trans rfl⟩)
      have KTG := aK (show wg.heap[w.heap.size]? = some (.cells #[.int .i64 a0_0, .int .i64 a0_1, .int .i64 a0_2, .int .i64 a0_3, .slice (some ad) l0_4.length c0_4] 58 (0, 0)) by rw [hwg]; exact kA KT.out _)
      have HBG := aK (show Below w.heap.size w wg by rw [hwg]; exact HB.out.alloc HB.out.size _)
      rw [← hwg]
      clear hwg
      have G0 := fun x : Cls wg => (HCG.out x.W x.h).1
      have G1 := fun x : Cls wg => (HCG.out x.W x.h).2.1
      have G2 := fun x : Cls wg => (HCG.out x.W x.h).2.2.1
      have G3 := fun x : Cls wg => (HCG.out x.W x.h).2.2.2.1
      have G4 := fun x : Cls wg => (HCG.out x.W x.h).2.2.2.2.1
      have G5 := fun x : Cls wg => (HCG.out x.W x.h).2.2.2.2.2.1
      have G6 := fun x : Cls wg => (HCG.out x.W x.h).2.2.2.2.2.2
      by_cases ci : 0 < i
      ·have ci2 := ci
       have hi1 : (0 : Int) ≤ (i : Int) - 1 := by omega
       have hi2 : (i : Int) - 1 < (l0_4.length : Int) := by omega
       have PV := aK (show ∀ x : Cls wg, x.W.cell? (ad.add ((i - 1) * 2)) = some (.int .i64 z.f0) from fun x => by
        obtain ⟨ad', e, h0, _⟩ := at_T137 (Kd.C_below HR1.out (HBG.out.trans (x.h.mono HBG.out.size))) ((i : Int) - 1) hi1 hi2
        cases e
        rw [HZ.out, ← show ((i : Int) - 1).toNat = i - 1 by omega]
        exact h0)
       have P0 := PV.out
       have i3 : decide ((i : Int) > 0) = true := decide_eq_true (by omega)
       have i4 : IntKind.i64.wrap ((i : Int) - 1) = (i : Int) - 1 := by have := HLEN.out; rw [IntKind.wrap_i64]; omega
       by_cases c1 : z.f0 ≥ y.f0
       ·rw [if_pos ⟨ci, c1⟩] at H2
        obtain rfl := Option.some.inj H2
        have c1b : decide (z.f0 ≥ y.f0) = true := decide_eq_true c1
        clear c1
        refine wp_region_cls (C := fun W => ∃ x : Cls wg, W = x.W) (by kernel_rfl) (by kernel_rfl) (cls_drew wg) ?_
        repeat (go_big_quiet_step (((go_at_call 159; exact cls_call (HPS _)))))
        refine wpQuiet_nil ?_
        rintro _ ⟨⟨w5, hb5⟩, rfl⟩
        go_wp2
        go_ret
        exact ⟨rfl, HBG.out.trans (hb5.mono HBG.out.size)⟩
       ·rw [if_neg (fun q => c1 q.2)] at H2
        have c1b : decide (z.f0 ≥ y.f0) = false := decide_eq_false c1
        clear c1
        by_cases c2 : y.f1 < 0
        ·rw [if_pos c2] at H2
         obtain rfl := Option.some.inj H2
         have c2b : decide (y.f1 < 0) = true := decide_eq_true c2
         clear c2
         refine wp_region_cls (C := fun W => ∃ x : Cls wg, W = x.W) (by kernel_rfl) (by kernel_rfl) (cls_drew wg) ?_
         repeat (go_big_quiet_step (((go_at_call 159; exact cls_call (HPS _)))))
         refine wpQuiet_nil ?_
         rintro _ ⟨⟨w5, hb5⟩, rfl⟩
         go_wp2
         go_ret
         exact ⟨rfl, HBG.out.trans (hb5.mono HBG.out.size)⟩
        ·rw [if_neg c2, if_pos hp0] at H2
         have c2b : decide (y.f1 < 0) = false := decide_eq_false c2
         clear c2
         by_cases c3 : y.f1 ≥ sh
         ·rw [if_pos c3] at H2
          obtain rfl := Option.some.inj H2
          have c3b : decide (y.f1 ≥ sh) = true := decide_eq_true c3
          clear c3
          refine wp_region_cls (C := fun W => ∃ x : Cls wg, W = x.W) (by kernel_rfl) (by kernel_rfl) (cls_drew wg) ?_
          repeat (go_big_quiet_step (((go_at_call 159; exact cls_call (HPS _)))))
          refine wpQuiet_nil ?_
          rintro _ ⟨⟨w5, hb5⟩, rfl⟩
          go_wp2
          go_ret
          exact ⟨rfl, HBG.out.trans (hb5.mono HBG.out.size)⟩
         ·rw [if_neg c3] at H2
          have H' := aK H2
          have c3b : decide (y.f1 ≥ sh) = false := decide_eq_false c3
          clear c3 H2
          refine wp_region_cls (C := fun W => ∃ x : Cls wg, W = x.W) (by kernel_rfl) (by kernel_rfl) (cls_drew wg) ?_
          repeat (go_big_quiet_step (((go_at_call 159; exact cls_call (HPS _)))))
          refine wpQuiet_nil ?_
          rintro _ ⟨⟨w5, hb5⟩, rfl⟩
          have KT5 := aK ((hb5.block _ (blk_lt KTG.out)).trans KTG.out)
          have HB5 := aK (HBG.out.trans (hb5.mono HBG.out.size))
          clear hb5 P0 i3 i4 hi1 hi2
          go_wp2
          go_roundg k1
          case measure => have := HK.out; omega
          case rel => exact ⟨i + 1, congrArg _ (by have := HLEN.out; first | omega | (unfold wrap64; omega)), H', ⟨by have := HK.out; omega⟩, KT5, HB5⟩
      ·rw [if_neg (fun q => ci q.1)] at H2
       have i3 : decide ((i : Int) > 0) = false := decide_eq_false (by omega)
       by_cases c2 : y.f1 < 0
       ·rw [if_pos c2] at H2
        obtain rfl := Option.some.inj H2
        have c2b : decide (y.f1 < 0) = true := decide_eq_true c2
        clear c2
        refine wp_region_cls (C := fun W => ∃ x : Cls wg, W = x.W) (by kernel_rfl) (by kernel_rfl) (cls_drew wg) ?_
        repeat (go_big_quiet_step (((go_at_call 159; exact cls_call (HPS _)))))
        refine wpQuiet_nil ?_
        rintro _ ⟨⟨w5, hb5⟩, rfl⟩
        go_wp2
        go_ret
        exact ⟨rfl, HBG.out.trans (hb5.mono HBG.out.size)⟩
       ·rw [if_neg c2, if_pos hp0] at H2
        have c2b : decide (y.f1 < 0) = false := decide_eq_false c2
        clear c2
        by_cases c3 : y.f1 ≥ sh
        ·rw [if_pos c3] at H2
         obtain rfl := Option.some.inj H2
         have c3b : decide (y.f1 ≥ sh) = true := decide_eq_true c3
         clear c3
         refine wp_region_cls (C := fun W => ∃ x : Cls wg, W = x.W) (by kernel_rfl) (by kernel_rfl) (cls_drew wg) ?_
         repeat (go_big_quiet_step (((go_at_call 159; exact cls_call (HPS _)))))
         refine wpQuiet_nil ?_
         rintro _ ⟨⟨w5, hb5⟩, rfl⟩
         go_wp2
         go_ret
         exact ⟨rfl, HBG.out.trans (hb5.mono HBG.out.size)⟩
        ·rw [if_neg c3] at H2
         have H' := aK H2
         have c3b : decide (y.f1 ≥ sh) = false := decide_eq_false c3
         clear c3 H2
         refine wp_region_cls (C := fun W => ∃ x : Cls wg, W = x.W) (by kernel_rfl) (by kernel_rfl) (cls_drew wg) ?_
         repeat (go_big_quiet_step (((go_at_call 159; exact cls_call (HPS _)))))
         refine wpQuiet_nil ?_
         rintro _ ⟨⟨w5, hb5⟩, rfl⟩
         have KT5 := aK ((hb5.block _ (blk_lt KTG.out)).trans KTG.out)
         have HB5 := aK (HBG.out.trans (hb5.mono HBG.out.size))
         clear hb5 i3
         go_wp2
         go_roundg k1
         case measure => have := HK.out; omega
         case rel => exact ⟨i + 1, congrArg _ (by have := HLEN.out; first | omega | (unfold wrap64; omega)), H', ⟨by have := HK.out; omega⟩, KT5, HB5⟩
    ·rw [if_neg hlt] at H
     obtain rfl := Option.some.inj H
     have hltz : ¬ (i : Int) < (l0_4.length : Int) := by omega
     go_wp2
     go_ret
     exact ⟨rfl, HB.out⟩
end Go.Proofs.Ytimejdhglmajdaa.F
end
