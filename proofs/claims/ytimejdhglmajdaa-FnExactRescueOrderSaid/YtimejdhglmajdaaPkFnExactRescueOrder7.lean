/- Packed by a program of the session (wip/tools/pack.py): what the claim's theorem reaches, of the texts that wip/ and the kit's printer lay. -/
import Derived.Test.YtimejdhglmajdaaPkFnExactRescueOrder6
import Derived.Laws.StructEq
section
namespace Go.Proofs.Ytimejdhglmajdaa.F
open Go.RowKit Go.Proofs.YtimejdhglmajdaaW.PrintWords Go.Proofs.YtimejdhglmajdaaW.PrintLast Go.Proofs.YtimejdhglmajdaaW.PrintMore
set_option linter.unusedVariables false
set_option linter.unusedSimpArgs false
attribute [local go_sem] min2_int min_two
set_option maxHeartbeats 8000000 in
set_option maxRecDepth 100000 in
theorem laws_FnExactRescueOrder.calls (k : Nat) (a0_0 : Int) (a0_1 : Int) (a0_2 : Int) (a1 : Int) (A2 : Option Addr) (c2 : Nat) (l2 : List Int) (w : World) (hr2 : Kd.C (Kd.int .i64) w A2 l2.length l2) (hc2 : l2.length ≤ c2) (h : laws_FnExactRescueOrder.f k a0_0 a0_1 a0_2 a1 l2 = some true) :
  Calls Try.prog 9 #[.agg #[.int .i64 a0_0, .int .i64 a0_1, .int .i64 a0_2], .int .i64 a1, .slice A2 l2.length c2] w fun e w' => e = .returned (.bool true) ∧ Below w.heap.size w w' := by
 have hu25 := Try.underlying25
 have HR2 := aK hr2
 have HC2 := aK hc2
 clear hr2 hc2
 have HB := aK (Below.refl w.heap.size w)
 have H : (if (l2.length : Int) > 1048576 then (some true) else ((laws_toMaze.f a0_0 a0_1 a0_2).bind fun bt762 => ((laws_toIntS.f k l2).bind fun t765 => ((spec_RescueOrder.f k bt762.1 bt762.2.1 bt762.2.2 a1 t765).bind fun t768 => ((laws_toIntS.f k l2).bind fun t771 => ((laws_toMaze.f a0_0 a0_1 a0_2).bind fun bt774 => ((impl_RescueOrder.f k bt774.1 bt774.2.1 bt774.2.2 a1 t771).bind fun t777 => ((laws_eqIntS.f k t777 t768).bind fun t780 => (if t780 = true then ((laws_toIntS.f k l2).bind fun t781 => ((laws_eqIntS.f k t771 t781).bind fun t784 => (if t784 = true then ((laws_markIntS.f k t771 1).bind fun bt785 => (if bt785.1 < 0 then (laws_FnExactRescueOrder.j0 k a1 l2 t768 t777 true a0_0 a0_1 a0_2) else ((laws_eqIntS.f k t777 t768).bind fun t787 => (laws_FnExactRescueOrder.j0 k a1 l2 t768 t777 (!t787) a0_0 a0_1 a0_2)))) else (some false)))) else (some false)))))))))) = some true := h
 clear h
 by_cases c4 : (l2.length : Int) > 1048576
 ·rw [if_pos c4] at H
  have c4b0 : decide (1048576 < (l2.length : Int)) = true := decide_eq_true c4
  have c4b1 : decide (1048576 < l2.length) = true := decide_eq_true (by omega)
  clear c4
  go_enter Try.func9, Try.ntmps9
  go_wp2_with (first | ((with_reducible refine gate_dst (N := 3) rfl ?_); refine box_event ?hg (N := 3) ?hd (cs := #[.int .i64 a0_0, .int .i64 a0_1, .int .i64 a0_2]) (t := 25) ?hr ?_; (case hd => rfl); (case hg => rfl); (case hr => first | (go_simp; done) | (go_simp; rfl)); intro gb761 hg w5 hbox hb; have n0_ := aK (bSp (by repeat (first | (with_reducible first | exact HB.out | apply bAl | apply bDN | apply bD1) | exact HB.out)) hb); have n1_ := aK (hbox); have n2_ := aK ((by rw [hg]; exact (bSz (by repeat (first | (with_reducible first | exact HB.out | apply bAl | apply bDN | apply bD1) | exact HB.out))) : w.heap.size ≤ gb761)); have n3_ := n2_; clear HB; have HB := n0_; have BK761 := n1_; have GW761 := n2_; have GE761 := n3_; clear n0_ n1_ n2_ n3_; clear hb hbox hg))
  go_ret
  exact ⟨by first | rfl | (simp [errW_none, errW_some] <;> rfl) | (simp [*, errW_none, errW_some] <;> rfl), by repeat (first | (with_reducible first | exact HB.out | apply bAl | apply bDN | apply bD1 | refine bSt ?_ GE761.out) | exact HB.out)⟩
 ·rw [if_neg c4] at H
  have c4b0 : decide (1048576 < (l2.length : Int)) = false := decide_eq_false c4
  have c4b1 : decide (1048576 < l2.length) = false := decide_eq_false (by omega)
  clear c4
  replace H := Option.bind_eq_some_iff.mp H
  obtain ⟨⟨t762, t763, t764⟩, A60, H⟩ := H
  replace H : ((laws_toIntS.f k l2).bind fun t765 => ((spec_RescueOrder.f k t762 t763 t764 a1 t765).bind fun t768 => ((laws_toIntS.f k l2).bind fun t771 => ((laws_toMaze.f a0_0 a0_1 a0_2).bind fun bt774 => ((impl_RescueOrder.f k bt774.1 bt774.2.1 bt774.2.2 a1 t771).bind fun t777 => ((laws_eqIntS.f k t777 t768).bind fun t780 => (if t780 = true then ((laws_toIntS.f k l2).bind fun t781 => ((laws_eqIntS.f k t771 t781).bind fun t784 => (if t784 = true then ((laws_markIntS.f k t771 1).bind fun bt785 => (if bt785.1 < 0 then (laws_FnExactRescueOrder.j0 k a1 l2 t768 t777 true a0_0 a0_1 a0_2) else ((laws_eqIntS.f k t777 t768).bind fun t787 => (laws_FnExactRescueOrder.j0 k a1 l2 t768 t777 (!t787) a0_0 a0_1 a0_2)))) else (some false)))) else (some false)))))))) = some true := H
  have A6 := aK A60
  clear A60
  replace H := Option.bind_eq_some_iff.mp H
  obtain ⟨t765, A70, H⟩ := H
  replace H : ((spec_RescueOrder.f k t762 t763 t764 a1 t765).bind fun t768 => ((laws_toIntS.f k l2).bind fun t771 => ((laws_toMaze.f a0_0 a0_1 a0_2).bind fun bt774 => ((impl_RescueOrder.f k bt774.1 bt774.2.1 bt774.2.2 a1 t771).bind fun t777 => ((laws_eqIntS.f k t777 t768).bind fun t780 => (if t780 = true then ((laws_toIntS.f k l2).bind fun t781 => ((laws_eqIntS.f k t771 t781).bind fun t784 => (if t784 = true then ((laws_markIntS.f k t771 1).bind fun bt785 => (if bt785.1 < 0 then (laws_FnExactRescueOrder.j0 k a1 l2 t768 t777 true a0_0 a0_1 a0_2) else ((laws_eqIntS.f k t777 t768).bind fun t787 => (laws_FnExactRescueOrder.j0 k a1 l2 t768 t777 (!t787) a0_0 a0_1 a0_2)))) else (some false)))) else (some false))))))) = some true := H
  have A7 := aK A70
  clear A70
  replace H := Option.bind_eq_some_iff.mp H
  obtain ⟨t768, A80, H⟩ := H
  replace H : ((laws_toIntS.f k l2).bind fun t771 => ((laws_toMaze.f a0_0 a0_1 a0_2).bind fun bt774 => ((impl_RescueOrder.f k bt774.1 bt774.2.1 bt774.2.2 a1 t771).bind fun t777 => ((laws_eqIntS.f k t777 t768).bind fun t780 => (if t780 = true then ((laws_toIntS.f k l2).bind fun t781 => ((laws_eqIntS.f k t771 t781).bind fun t784 => (if t784 = true then ((laws_markIntS.f k t771 1).bind fun bt785 => (if bt785.1 < 0 then (laws_FnExactRescueOrder.j0 k a1 l2 t768 t777 true a0_0 a0_1 a0_2) else ((laws_eqIntS.f k t777 t768).bind fun t787 => (laws_FnExactRescueOrder.j0 k a1 l2 t768 t777 (!t787) a0_0 a0_1 a0_2)))) else (some false)))) else (some false)))))) = some true := H
  have A8 := aK A80
  clear A80
  replace H := Option.bind_eq_some_iff.mp H
  obtain ⟨t771, A90, H⟩ := H
  replace H : ((laws_toMaze.f a0_0 a0_1 a0_2).bind fun bt774 => ((impl_RescueOrder.f k bt774.1 bt774.2.1 bt774.2.2 a1 t771).bind fun t777 => ((laws_eqIntS.f k t777 t768).bind fun t780 => (if t780 = true then ((laws_toIntS.f k l2).bind fun t781 => ((laws_eqIntS.f k t771 t781).bind fun t784 => (if t784 = true then ((laws_markIntS.f k t771 1).bind fun bt785 => (if bt785.1 < 0 then (laws_FnExactRescueOrder.j0 k a1 l2 t768 t777 true a0_0 a0_1 a0_2) else ((laws_eqIntS.f k t777 t768).bind fun t787 => (laws_FnExactRescueOrder.j0 k a1 l2 t768 t777 (!t787) a0_0 a0_1 a0_2)))) else (some false)))) else (some false))))) = some true := H
  have A9 := aK A90
  clear A90
  replace H := Option.bind_eq_some_iff.mp H
  obtain ⟨⟨t774, t775, t776⟩, A100, H⟩ := H
  replace H : ((impl_RescueOrder.f k t774 t775 t776 a1 t771).bind fun t777 => ((laws_eqIntS.f k t777 t768).bind fun t780 => (if t780 = true then ((laws_toIntS.f k l2).bind fun t781 => ((laws_eqIntS.f k t771 t781).bind fun t784 => (if t784 = true then ((laws_markIntS.f k t771 1).bind fun bt785 => (if bt785.1 < 0 then (laws_FnExactRescueOrder.j0 k a1 l2 t768 t777 true a0_0 a0_1 a0_2) else ((laws_eqIntS.f k t777 t768).bind fun t787 => (laws_FnExactRescueOrder.j0 k a1 l2 t768 t777 (!t787) a0_0 a0_1 a0_2)))) else (some false)))) else (some false)))) = some true := H
  have A10 := aK A100
  clear A100
  replace H := Option.bind_eq_some_iff.mp H
  obtain ⟨t777, A110, H⟩ := H
  replace H : ((laws_eqIntS.f k t777 t768).bind fun t780 => (if t780 = true then ((laws_toIntS.f k l2).bind fun t781 => ((laws_eqIntS.f k t771 t781).bind fun t784 => (if t784 = true then ((laws_markIntS.f k t771 1).bind fun bt785 => (if bt785.1 < 0 then (laws_FnExactRescueOrder.j0 k a1 l2 t768 t777 true a0_0 a0_1 a0_2) else ((laws_eqIntS.f k t777 t768).bind fun t787 => (laws_FnExactRescueOrder.j0 k a1 l2 t768 t777 (!t787) a0_0 a0_1 a0_2)))) else (some false)))) else (some false))) = some true := H
  have A11 := aK A110
  clear A110
  replace H := Option.bind_eq_some_iff.mp H
  obtain ⟨t780, A120, H⟩ := H
  replace H : (if t780 = true then ((laws_toIntS.f k l2).bind fun t781 => ((laws_eqIntS.f k t771 t781).bind fun t784 => (if t784 = true then ((laws_markIntS.f k t771 1).bind fun bt785 => (if bt785.1 < 0 then (laws_FnExactRescueOrder.j0 k a1 l2 t768 t777 true a0_0 a0_1 a0_2) else ((laws_eqIntS.f k t777 t768).bind fun t787 => (laws_FnExactRescueOrder.j0 k a1 l2 t768 t777 (!t787) a0_0 a0_1 a0_2)))) else (some false)))) else (some false)) = some true := H
  have A12 := aK A120
  clear A120
  by_cases c13 : t780 = true
  ·subst c13
   have H1 : ((laws_toIntS.f k l2).bind fun t781 => ((laws_eqIntS.f k t771 t781).bind fun t784 => (if t784 = true then ((laws_markIntS.f k t771 1).bind fun bt785 => (if bt785.1 < 0 then (laws_FnExactRescueOrder.j0 k a1 l2 t768 t777 true a0_0 a0_1 a0_2) else ((laws_eqIntS.f k t777 t768).bind fun t787 => (laws_FnExactRescueOrder.j0 k a1 l2 t768 t777 (!t787) a0_0 a0_1 a0_2)))) else (some false)))) = some true := by first | (rw [if_pos rfl] at H; exact H) | rfl
   clear H
   have H := H1
   clear H1
   replace H := Option.bind_eq_some_iff.mp H
   obtain ⟨t781, A140, H⟩ := H
   replace H : ((laws_eqIntS.f k t771 t781).bind fun t784 => (if t784 = true then ((laws_markIntS.f k t771 1).bind fun bt785 => (if bt785.1 < 0 then (laws_FnExactRescueOrder.j0 k a1 l2 t768 t777 true a0_0 a0_1 a0_2) else ((laws_eqIntS.f k t777 t768).bind fun t787 => (laws_FnExactRescueOrder.j0 k a1 l2 t768 t777 (!t787) a0_0 a0_1 a0_2)))) else (some false))) = some true := H
   have A14 := aK A140
   clear A140
   replace H := Option.bind_eq_some_iff.mp H
   obtain ⟨t784, A150, H⟩ := H
   replace H : (if t784 = true then ((laws_markIntS.f k t771 1).bind fun bt785 => (if bt785.1 < 0 then (laws_FnExactRescueOrder.j0 k a1 l2 t768 t777 true a0_0 a0_1 a0_2) else ((laws_eqIntS.f k t777 t768).bind fun t787 => (laws_FnExactRescueOrder.j0 k a1 l2 t768 t777 (!t787) a0_0 a0_1 a0_2)))) else (some false)) = some true := H
   have A15 := aK A150
   clear A150
   by_cases c16 : t784 = true
   ·subst c16
    have H1 : ((laws_markIntS.f k t771 1).bind fun bt785 => (if bt785.1 < 0 then (laws_FnExactRescueOrder.j0 k a1 l2 t768 t777 true a0_0 a0_1 a0_2) else ((laws_eqIntS.f k t777 t768).bind fun t787 => (laws_FnExactRescueOrder.j0 k a1 l2 t768 t777 (!t787) a0_0 a0_1 a0_2)))) = some true := by first | (rw [if_pos rfl] at H; exact H) | rfl
    clear H
    have H := H1
    clear H1
    replace H := Option.bind_eq_some_iff.mp H
    obtain ⟨⟨t785, t786⟩, A170, H⟩ := H
    replace H : (if t785 < 0 then (laws_FnExactRescueOrder.j0 k a1 l2 t768 t777 true a0_0 a0_1 a0_2) else ((laws_eqIntS.f k t777 t768).bind fun t787 => (laws_FnExactRescueOrder.j0 k a1 l2 t768 t777 (!t787) a0_0 a0_1 a0_2))) = some true := H
    have A17 := aK A170
    clear A170
    have HC18 := aK H
    clear H
    go_enter Try.func9, Try.ntmps9
    go_upto_region 12 with (first | ((with_reducible refine gate_dst (N := 3) rfl ?_); refine box_event ?hg (N := 3) ?hd (cs := #[.int .i64 a0_0, .int .i64 a0_1, .int .i64 a0_2]) (t := 25) ?hr ?_; (case hd => rfl); (case hg => rfl); (case hr => first | (go_simp; done) | (go_simp; rfl)); intro gb761 hg w19 hbox hb; have n0_ := aK (bSp (by repeat (first | (with_reducible first | exact HB.out | apply bAl | apply bDN | apply bD1) | exact HB.out)) hb); have n1_ := aK (hbox); have n2_ := aK ((by rw [hg]; exact (bSz (by repeat (first | (with_reducible first | exact HB.out | apply bAl | apply bDN | apply bD1) | exact HB.out))) : w.heap.size ≤ gb761)); have n3_ := n2_; clear HB; have HB := n0_; have BK761 := n1_; have GW761 := n2_; have GE761 := n3_; clear n0_ n1_ n2_ n3_; clear hb hbox hg; obtain ⟨hcz20_0, hcz20_1, hcz20_2, hfz20_0, hfz20_1, hfz20_2⟩ := cl3 BK761.out) | ((with_reducible refine gate_callee (f := 17) rfl ?_); refine goesL_ (some 18) rfl rfl Try.func17 (by kernel_rfl) rfl #[.agg #[.int .i64 a0_0, .int .i64 a0_1, .int .i64 a0_2]] rfl (by (try simp only [List.map_toArray, List.map_cons, List.map_nil]); first | done | rfl | (simp only [List.length_drop, List.length_take]; rfl)) ?_; (with_reducible refine (laws_toMaze.calls a0_0 a0_1 a0_2 t762 t763 t764 _ A6.out).mono ?_); rintro e w21 ⟨rfl, hb⟩; refine ⟨_, rfl, ?_⟩; have n0_ := bkb BK761 hb (by intro z_; (with_reducible repeat (first | refine kDN ?_ _ | refine kD ?_ | refine kA ?_ _)); exact z_); have n1_ := aK (bSp (by repeat (first | (with_reducible first | exact HB.out | apply bAl | apply bDN | apply bD1 | refine bSt ?_ GE761.out) | exact HB.out)) hb); clear BK761; clear HB; have BK761 := n0_; have HB := n1_; clear n0_ n1_; (try clear hb); (try clear hb2); (try clear hk); (try clear hi)) | ((with_reducible refine gate_callee (f := 26) rfl ?_); refine goesL_ (some 21) rfl rfl Try.func26 (by kernel_rfl) rfl #[.slice A2 l2.length c2] rfl (by (try simp only [List.map_toArray, List.map_cons, List.map_nil]); first | done | rfl | (simp only [List.length_drop, List.length_take]; rfl)) ?_; (with_reducible refine (laws_toIntS.calls k _ _ l2 t765 _ ?side1 ?side2 A7.out).mono ?_); (case side1 => repeat (first | exact (Kd.C_below HR2.out HB.out) | (with_reducible refine Kd.C_alloc ?_ _) | (with_reducible refine Kd.C_drewN ?_ _) | (with_reducible refine Kd.C_drew ?_))); (case side2 => exact HC2.out); rintro e w22 ⟨v766, rfl, ho0, hb⟩; refine ⟨_, rfl, ?_⟩; have n0_ := aK (Kd.R_lower ho0 (bSz (by repeat (first | (with_reducible first | exact HB.out | apply bAl | apply bDN | apply bD1 | refine bSt ?_ GE761.out) | exact HB.out)))); have n1_ := bkb BK761 hb (by intro z_; (with_reducible repeat (first | refine kDN ?_ _ | refine kD ?_ | refine kA ?_ _)); exact z_); have n2_ := aK (bSp (by repeat (first | (with_reducible first | exact HB.out | apply bAl | apply bDN | apply bD1 | refine bSt ?_ GE761.out) | exact HB.out)) hb); clear BK761; clear HB; have HO767 := n0_; have BK761 := n1_; have HB := n2_; clear n0_ n1_ n2_; (try clear hb); (try clear hb2); (try clear hk); (try clear hi); (try clear ho0); obtain ⟨Ao23, co23, eo23⟩ := Kd.R_slice HO767.out; subst eo23) | ((with_reducible refine gate_callee (f := 40) rfl ?_); refine goesL_ (some 22) rfl rfl Try.func40 (by kernel_rfl) rfl #[.agg #[.int .i64 t762, .int .i64 t763, .int .i64 t764], .int .i64 a1, .slice Ao23 t765.length co23] rfl (by (try simp only [List.map_toArray, List.map_cons, List.map_nil]); first | done | rfl | (simp only [List.length_drop, List.length_take]; rfl)) ?_; (with_reducible refine (spec_RescueOrder.calls k t762 t763 t764 a1 _ _ t765 t768 _ ?side1 ?side2 A8.out).mono ?_); (case side1 => repeat (first | exact (Kd.R_reads' HO767.out).2.2 | (with_reducible refine Kd.C_alloc ?_ _) | (with_reducible refine Kd.C_drewN ?_ _) | (with_reducible refine Kd.C_drew ?_))); (case side2 => exact (Kd.R_reads' HO767.out).2.1); rintro e w24 ⟨v769, rfl, ho0, hb⟩; refine ⟨_, rfl, ?_⟩; have n0_ := aK (Kd.R_elder' (by (with_reducible repeat (first | apply Kd.R_alloc | apply Kd.R_drewN | apply Kd.R_drew)); exact HO767.out) (Kd.R_base ho0) hb); have n1_ := aK (Kd.R_lower (Kd.R_new' ho0 (Kd.R_lt (by (with_reducible repeat (first | apply Kd.R_alloc | apply Kd.R_drewN | apply Kd.R_drew)); exact HO767.out))) (bSz (by repeat (first | (with_reducible first | exact HB.out | apply bAl | apply bDN | apply bD1 | refine bSt ?_ GE761.out) | exact HB.out)))); have n2_ := bkb BK761 hb (by intro z_; (with_reducible repeat (first | refine kDN ?_ _ | refine kD ?_ | refine kA ?_ _)); exact z_); have n3_ := aK (bSp (by repeat (first | (with_reducible first | exact HB.out | apply bAl | apply bDN | apply bD1 | refine bSt ?_ GE761.out) | exact HB.out)) hb); clear HO767; clear BK761; clear HB; have HO767 := n0_; have HO770 := n1_; have BK761 := n2_; have HB := n3_; clear n0_ n1_ n2_ n3_; (try clear hb); (try clear hb2); (try clear hk); (try clear hi); (try clear ho0)) | ((with_reducible refine gate_callee (f := 26) rfl ?_); refine goesL_ (some 24) rfl rfl Try.func26 (by kernel_rfl) rfl #[.slice A2 l2.length c2] rfl (by (try simp only [List.map_toArray, List.map_cons, List.map_nil]); first | done | rfl | (simp only [List.length_drop, List.length_take]; rfl)) ?_; (with_reducible refine (laws_toIntS.calls k _ _ l2 t771 _ ?side1 ?side2 A9.out).mono ?_); (case side1 => repeat (first | exact (Kd.C_below HR2.out HB.out) | (with_reducible refine Kd.C_alloc ?_ _) | (with_reducible refine Kd.C_drewN ?_ _) | (with_reducible refine Kd.C_drew ?_))); (case side2 => exact HC2.out); rintro e w25 ⟨v772, rfl, ho0, hb⟩; refine ⟨_, rfl, ?_⟩; have n0_ := aK (Kd.R_elder' (by (with_reducible repeat (first | apply Kd.R_alloc | apply Kd.R_drewN | apply Kd.R_drew)); exact HO767.out) (Kd.R_base ho0) hb); have n1_ := aK (Kd.R_elder' (by (with_reducible repeat (first | apply Kd.R_alloc | apply Kd.R_drewN | apply Kd.R_drew)); exact HO770.out) (Kd.R_base ho0) hb); have n2_ := aK (Kd.R_lower (Kd.R_new' (Kd.R_new' ho0 (Kd.R_lt (by (with_reducible repeat (first | apply Kd.R_alloc | apply Kd.R_drewN | apply Kd.R_drew)); exact HO767.out))) (Kd.R_lt (by (with_reducible repeat (first | apply Kd.R_alloc | apply Kd.R_drewN | apply Kd.R_drew)); exact HO770.out))) (bSz (by repeat (first | (with_reducible first | exact HB.out | apply bAl | apply bDN | apply bD1 | refine bSt ?_ GE761.out) | exact HB.out)))); have n3_ := bkb BK761 hb (by intro z_; (with_reducible repeat (first | refine kDN ?_ _ | refine kD ?_ | refine kA ?_ _)); exact z_); have n4_ := aK (bSp (by repeat (first | (with_reducible first | exact HB.out | apply bAl | apply bDN | apply bD1 | refine bSt ?_ GE761.out) | exact HB.out)) hb); clear HO767; clear HO770; clear BK761; clear HB; have HO767 := n0_; have HO770 := n1_; have HO773 := n2_; have BK761 := n3_; have HB := n4_; clear n0_ n1_ n2_ n3_ n4_; (try clear hb); (try clear hb2); (try clear hk); (try clear hi); (try clear ho0); obtain ⟨hcz26_0, hcz26_1, hcz26_2, hfz26_0, hfz26_1, hfz26_2⟩ := cl3 BK761.out) | ((with_reducible refine gate_callee (f := 17) rfl ?_); refine goesL_ (some 26) rfl rfl Try.func17 (by kernel_rfl) rfl #[.agg #[.int .i64 a0_0, .int .i64 a0_1, .int .i64 a0_2]] rfl (by (try simp only [List.map_toArray, List.map_cons, List.map_nil]); first | done | rfl | (simp only [List.length_drop, List.length_take]; rfl)) ?_; (with_reducible refine (laws_toMaze.calls a0_0 a0_1 a0_2 t774 t775 t776 _ A10.out).mono ?_); rintro e w27 ⟨rfl, hb⟩; refine ⟨_, rfl, ?_⟩; have n0_ := aK (Kd.R_below (by (with_reducible repeat (first | apply Kd.R_alloc | apply Kd.R_drewN | apply Kd.R_drew)); exact HO767.out) hb); have n1_ := aK (Kd.R_below (by (with_reducible repeat (first | apply Kd.R_alloc | apply Kd.R_drewN | apply Kd.R_drew)); exact HO770.out) hb); have n2_ := aK (Kd.R_below (by (with_reducible repeat (first | apply Kd.R_alloc | apply Kd.R_drewN | apply Kd.R_drew)); exact HO773.out) hb); have n3_ := bkb BK761 hb (by intro z_; (with_reducible repeat (first | refine kDN ?_ _ | refine kD ?_ | refine kA ?_ _)); exact z_); have n4_ := aK (bSp (by repeat (first | (with_reducible first | exact HB.out | apply bAl | apply bDN | apply bD1 | refine bSt ?_ GE761.out) | exact HB.out)) hb); clear HO767; clear HO770; clear HO773; clear BK761; clear HB; have HO767 := n0_; have HO770 := n1_; have HO773 := n2_; have BK761 := n3_; have HB := n4_; clear n0_ n1_ n2_ n3_ n4_; (try clear hb); (try clear hb2); (try clear hk); (try clear hi); obtain ⟨Ao28, co28, eo28⟩ := Kd.R_slice HO773.out; subst eo28) | ((with_reducible refine gate_callee (f := 41) rfl ?_); refine goesL_ (some 29) rfl rfl Try.func41 (by kernel_rfl) rfl #[.agg #[.int .i64 t774, .int .i64 t775, .int .i64 t776], .int .i64 a1, .slice Ao28 t771.length co28] rfl (by (try simp only [List.map_toArray, List.map_cons, List.map_nil]); first | done | rfl | (simp only [List.length_drop, List.length_take]; rfl)) ?_; (with_reducible refine (impl_RescueOrder.calls k t774 t775 t776 a1 _ _ t771 t777 _ ?side1 ?side2 A11.out).mono ?_); (case side1 => repeat (first | exact (Kd.R_reads' HO773.out).2.2 | (with_reducible refine Kd.C_alloc ?_ _) | (with_reducible refine Kd.C_drewN ?_ _) | (with_reducible refine Kd.C_drew ?_))); (case side2 => exact (Kd.R_reads' HO773.out).2.1); rintro e w29 ⟨v778, rfl, ho0, hb⟩; refine ⟨_, rfl, ?_⟩; have n0_ := aK (Kd.R_elder' (by (with_reducible repeat (first | apply Kd.R_alloc | apply Kd.R_drewN | apply Kd.R_drew)); exact HO767.out) (Kd.R_base ho0) hb); have n1_ := aK (Kd.R_elder' (by (with_reducible repeat (first | apply Kd.R_alloc | apply Kd.R_drewN | apply Kd.R_drew)); exact HO770.out) (Kd.R_base ho0) hb); have n2_ := aK (Kd.R_elder' (by (with_reducible repeat (first | apply Kd.R_alloc | apply Kd.R_drewN | apply Kd.R_drew)); exact HO773.out) (Kd.R_base ho0) hb); have n3_ := aK (Kd.R_lower (Kd.R_new' (Kd.R_new' (Kd.R_new' ho0 (Kd.R_lt (by (with_reducible repeat (first | apply Kd.R_alloc | apply Kd.R_drewN | apply Kd.R_drew)); exact HO767.out))) (Kd.R_lt (by (with_reducible repeat (first | apply Kd.R_alloc | apply Kd.R_drewN | apply Kd.R_drew)); exact HO770.out))) (Kd.R_lt (by (with_reducible repeat (first | apply Kd.R_alloc | apply Kd.R_drewN | apply Kd.R_drew)); exact HO773.out))) (bSz (by repeat (first | (with_reducible first | exact HB.out | apply bAl | apply bDN | apply bD1 | refine bSt ?_ GE761.out) | exact HB.out)))); have n4_ := bkb BK761 hb (by intro z_; (with_reducible repeat (first | refine kDN ?_ _ | refine kD ?_ | refine kA ?_ _)); exact z_); have n5_ := aK (bSp (by repeat (first | (with_reducible first | exact HB.out | apply bAl | apply bDN | apply bD1 | refine bSt ?_ GE761.out) | exact HB.out)) hb); clear HO767; clear HO770; clear HO773; clear BK761; clear HB; have HO767 := n0_; have HO770 := n1_; have HO773 := n2_; have HO779 := n3_; have BK761 := n4_; have HB := n5_; clear n0_ n1_ n2_ n3_ n4_ n5_; (try clear hb); (try clear hb2); (try clear hk); (try clear hi); (try clear ho0); obtain ⟨Ao30, co30, eo30⟩ := Kd.R_slice HO779.out; subst eo30; obtain ⟨Ao31, co31, eo31⟩ := Kd.R_slice HO770.out; subst eo31) | ((with_reducible refine gate_callee (f := 20) rfl ?_); refine goesL_ (some 32) rfl rfl Try.func20 (by kernel_rfl) rfl #[.slice Ao30 t777.length co30, .slice Ao31 t768.length co31] rfl (by (try simp only [List.map_toArray, List.map_cons, List.map_nil]); first | done | rfl | (simp only [List.length_drop, List.length_take]; rfl)) ?_; (with_reducible refine (laws_eqIntS.calls k _ _ t777 _ _ t768 true _ ?side1 ?side2 ?side3 ?side4 A12.out).mono ?_); (case side1 => repeat (first | exact (Kd.R_reads' HO779.out).2.2 | (with_reducible refine Kd.C_alloc ?_ _) | (with_reducible refine Kd.C_drewN ?_ _) | (with_reducible refine Kd.C_drew ?_))); (case side2 => exact (Kd.R_reads' HO779.out).2.1); (case side3 => repeat (first | exact (Kd.R_reads' HO770.out).2.2 | (with_reducible refine Kd.C_alloc ?_ _) | (with_reducible refine Kd.C_drewN ?_ _) | (with_reducible refine Kd.C_drew ?_))); (case side4 => exact (Kd.R_reads' HO770.out).2.1); rintro e w' ⟨rfl, ⟨nd, rfl⟩⟩; refine ⟨_, rfl, ?_⟩) | ((with_reducible refine gate_callee (f := 26) rfl ?_); refine goesL_ (some 36) rfl rfl Try.func26 (by kernel_rfl) rfl #[.slice A2 l2.length c2] rfl (by (try simp only [List.map_toArray, List.map_cons, List.map_nil]); first | done | rfl | (simp only [List.length_drop, List.length_take]; rfl)) ?_; (with_reducible refine (laws_toIntS.calls k _ _ l2 t781 _ ?side1 ?side2 A14.out).mono ?_); (case side1 => repeat (first | exact (Kd.C_below HR2.out (by repeat (first | (with_reducible first | exact HB.out | apply bAl | apply bDN | apply bD1 | refine bSt ?_ GE761.out) | exact HB.out))) | (with_reducible refine Kd.C_alloc ?_ _) | (with_reducible refine Kd.C_drewN ?_ _) | (with_reducible refine Kd.C_drew ?_))); (case side2 => exact HC2.out); rintro e w32 ⟨v782, rfl, ho0, hb⟩; refine ⟨_, rfl, ?_⟩; have n0_ := aK (Kd.R_elder' (by (with_reducible repeat (first | apply Kd.R_alloc | apply Kd.R_drewN | apply Kd.R_drew)); exact HO767.out) (Kd.R_base ho0) hb); have n1_ := aK (Kd.R_elder' (by (with_reducible repeat (first | apply Kd.R_alloc | apply Kd.R_drewN | apply Kd.R_drew)); exact HO770.out) (Kd.R_base ho0) hb); have n2_ := aK (Kd.R_elder' (by (with_reducible repeat (first | apply Kd.R_alloc | apply Kd.R_drewN | apply Kd.R_drew)); exact HO773.out) (Kd.R_base ho0) hb); have n3_ := aK (Kd.R_elder' (by (with_reducible repeat (first | apply Kd.R_alloc | apply Kd.R_drewN | apply Kd.R_drew)); exact HO779.out) (Kd.R_base ho0) hb); have n4_ := aK (Kd.R_lower (Kd.R_new' (Kd.R_new' (Kd.R_new' (Kd.R_new' ho0 (Kd.R_lt (by (with_reducible repeat (first | apply Kd.R_alloc | apply Kd.R_drewN | apply Kd.R_drew)); exact HO767.out))) (Kd.R_lt (by (with_reducible repeat (first | apply Kd.R_alloc | apply Kd.R_drewN | apply Kd.R_drew)); exact HO770.out))) (Kd.R_lt (by (with_reducible repeat (first | apply Kd.R_alloc | apply Kd.R_drewN | apply Kd.R_drew)); exact HO773.out))) (Kd.R_lt (by (with_reducible repeat (first | apply Kd.R_alloc | apply Kd.R_drewN | apply Kd.R_drew)); exact HO779.out))) (bSz (by repeat (first | (with_reducible first | exact HB.out | apply bAl | apply bDN | apply bD1 | refine bSt ?_ GE761.out) | exact HB.out)))); have n5_ := bkb BK761 hb (by intro z_; (with_reducible repeat (first | refine kDN ?_ _ | refine kD ?_ | refine kA ?_ _)); exact z_); have n6_ := aK (bSp (by repeat (first | (with_reducible first | exact HB.out | apply bAl | apply bDN | apply bD1 | refine bSt ?_ GE761.out) | exact HB.out)) hb); clear HO767; clear HO770; clear HO773; clear HO779; clear BK761; clear HB; have HO767 := n0_; have HO770 := n1_; have HO773 := n2_; have HO779 := n3_; have HO783 := n4_; have BK761 := n5_; have HB := n6_; clear n0_ n1_ n2_ n3_ n4_ n5_ n6_; (try clear hb); (try clear hb2); (try clear hk); (try clear hi); (try clear ho0); obtain ⟨Ao33, co33, eo33⟩ := Kd.R_slice HO783.out; subst eo33) | ((with_reducible refine gate_callee (f := 20) rfl ?_); refine goesL_ (some 37) rfl rfl Try.func20 (by kernel_rfl) rfl #[.slice Ao28 t771.length co28, .slice Ao33 t781.length co33] rfl (by (try simp only [List.map_toArray, List.map_cons, List.map_nil]); first | done | rfl | (simp only [List.length_drop, List.length_take]; rfl)) ?_; (with_reducible refine (laws_eqIntS.calls k _ _ t771 _ _ t781 true _ ?side1 ?side2 ?side3 ?side4 A15.out).mono ?_); (case side1 => repeat (first | exact (Kd.R_reads' HO773.out).2.2 | (with_reducible refine Kd.C_alloc ?_ _) | (with_reducible refine Kd.C_drewN ?_ _) | (with_reducible refine Kd.C_drew ?_))); (case side2 => exact (Kd.R_reads' HO773.out).2.1); (case side3 => repeat (first | exact (Kd.R_reads' HO783.out).2.2 | (with_reducible refine Kd.C_alloc ?_ _) | (with_reducible refine Kd.C_drewN ?_ _) | (with_reducible refine Kd.C_drew ?_))); (case side4 => exact (Kd.R_reads' HO783.out).2.1); rintro e w' ⟨rfl, ⟨nd, rfl⟩⟩; refine ⟨_, rfl, ?_⟩) | ((with_reducible refine gate_callee (f := 23) rfl ?_); refine goesL_ (some 41) rfl rfl Try.func23 (by kernel_rfl) rfl #[.slice Ao28 t771.length co28, .int .i64 1] rfl (by (try simp only [List.map_toArray, List.map_cons, List.map_nil]); first | done | rfl | (simp only [List.length_drop, List.length_take]; rfl)) ?_; (with_reducible refine (laws_markIntS.calls k (fun k_ => some k_ = (.slice Ao28 t771.length co28 : Value).ownBlock) (.slice Ao28 t771.length co28) t771 1 t785 t786 w _ ?side1 ?side2 A17.out).mono ?_); (case side1 => repeat (first | (with_reducible first | exact HB.out | apply bAl | apply bDN | apply bD1 | refine bSt ?_ GE761.out) | exact HB.out)); (case side2 => exact Kd.R_tight rfl HO773.out); rintro e w34 ⟨rfl, hy0, hb, hkp⟩; refine ⟨_, rfl, ?_⟩; have n0_ := aK (blk_kept (by (with_reducible repeat (first | refine kDN ?_ _ | refine kD ?_ | refine kA ?_ _)); exact BK761.out) hkp (fun hs_ => (fun e_ => (Kd.R_ne HO773.out BK761.out (by decide)) e_) hs_)); have n1_ := aK (Kd.R_mono (ok' := fun k_ => some k_ ≠ (.slice Ao31 t768.length co31 : Value).ownBlock ∧ some k_ ≠ (.slice Ao28 t771.length co28 : Value).ownBlock ∧ some k_ ≠ (.slice Ao30 t777.length co30 : Value).ownBlock ∧ some k_ ≠ (.slice Ao33 t781.length co33 : Value).ownBlock) (Kd.R_keptB (HO767.out) hkp (fun k_ hk_ hs_ => (hk_.1.1.2) hs_)) (fun k_ hk_ => ⟨hk_.1.1.1.1.2, hk_.1.1.1.2, hk_.1.1.2, hk_.1.2⟩)); have n2_ := aK (Kd.R_mono (ok' := fun k_ => some k_ ≠ (.slice Ao23 t765.length co23 : Value).ownBlock ∧ some k_ ≠ (.slice Ao28 t771.length co28 : Value).ownBlock ∧ some k_ ≠ (.slice Ao30 t777.length co30 : Value).ownBlock ∧ some k_ ≠ (.slice Ao33 t781.length co33 : Value).ownBlock) (Kd.R_keptB (HO770.out) hkp (fun k_ hk_ hs_ => (hk_.1.1.2) hs_)) (fun k_ hk_ => ⟨hk_.1.1.1.1.2, hk_.1.1.1.2, hk_.1.1.2, hk_.1.2⟩)); have n3_ := aK (Kd.R_reok rfl hy0 (fun k_ e_ => HO773.out.1 k_ e_)); have n4_ := aK (Kd.R_mono (ok' := fun k_ => some k_ ≠ (.slice Ao23 t765.length co23 : Value).ownBlock ∧ some k_ ≠ (.slice Ao31 t768.length co31 : Value).ownBlock ∧ some k_ ≠ (.slice Ao28 t771.length co28 : Value).ownBlock ∧ some k_ ≠ (.slice Ao33 t781.length co33 : Value).ownBlock) (Kd.R_keptB (HO779.out) hkp (fun k_ hk_ hs_ => (hk_.1.2) hs_)) (fun k_ hk_ => ⟨hk_.1.1.1.1.2, hk_.1.1.1.2, hk_.1.1.2, hk_.1.2⟩)); have n5_ := aK (Kd.R_mono (ok' := fun k_ => some k_ ≠ (.slice Ao23 t765.length co23 : Value).ownBlock ∧ some k_ ≠ (.slice Ao31 t768.length co31 : Value).ownBlock ∧ some k_ ≠ (.slice Ao28 t771.length co28 : Value).ownBlock ∧ some k_ ≠ (.slice Ao30 t777.length co30 : Value).ownBlock) (Kd.R_keptB (HO783.out) hkp (fun k_ hk_ hs_ => (hk_.1.2) hs_)) (fun k_ hk_ => ⟨hk_.1.1.1.1.2, hk_.1.1.1.2, hk_.1.1.2, hk_.1.2⟩)); have n6_ := aK (hb); clear BK761; clear HO767; clear HO770; clear HO773; clear HO779; clear HO783; clear HB; have BK761 := n0_; have HO767 := n1_; have HO770 := n2_; have HO773 := n3_; have HO779 := n4_; have HO783 := n5_; have HB := n6_; clear n0_ n1_ n2_ n3_ n4_ n5_ n6_; (try clear hb); (try clear hkp); (try clear hy0)))
    (try simp only [Act.put, sTA, sZ, sS])
    go_cut [49] (fun v49 wc => ∃ (kq : Nat) (x49_17 : Bool), v49 = .bool x49_17 ∧ Aside0 (laws_FnExactRescueOrder.j0 kq a1 l2 t768 t777 x49_17 a0_0 a0_1 a0_2 = some true) ∧ Aside0 (kq ≤ k) ∧ Aside0 (Kd.R (Kd.int .i64) 3 wc w.heap.size (fun k_ => some k_ ≠ ((.slice Ao30 t777.length co30) : Value).ownBlock) (.slice Ao31 t768.length co31) t768) ∧ Aside0 (Kd.R (Kd.int .i64) 3 wc w.heap.size (fun k_ => some k_ ≠ ((.slice Ao31 t768.length co31) : Value).ownBlock) (.slice Ao30 t777.length co30) t777) ∧ Aside0 (wc.heap[gb761]? = some (.cells #[.int .i64 a0_0, .int .i64 a0_1, .int .i64 a0_2] 25 (0, 0))) ∧ Aside0 (Below w.heap.size w wc))
    case first =>
     have H := HC18.out
     clear HC18
     by_cases c35 : t785 < 0
     ·rw [if_pos c35] at H
      have c35b0 : decide (t785 < 0) = true := decide_eq_true c35
      clear c35
      (first | rw [c35b0] | (simp only [i64_w, i32_w]; rw [c35b0]) | skip)
      have H' := aK H
      clear H
      go_wp2
      go_meet
      case rel => exact ⟨_, (true), (by first | rfl | (simp; done) | (simp [*]; done)), H', ⟨by first | omega | exact Nat.le_refl _⟩, ⟨by (with_reducible repeat (first | apply Kd.R_alloc | apply Kd.R_drewN | apply Kd.R_drew)); exact Kd.R_mono HO770.out (fun _ hk => hk.2.2.1)⟩, ⟨by (with_reducible repeat (first | apply Kd.R_alloc | apply Kd.R_drewN | apply Kd.R_drew)); exact Kd.R_mono HO779.out (fun _ hk => hk.2.1)⟩, ⟨by (with_reducible repeat (first | refine kDN ?_ _ | refine kD ?_ | refine kA ?_ _)); exact BK761.out⟩, ⟨by repeat (first | (with_reducible first | exact HB.out | apply bAl | apply bDN | apply bD1 | refine bSt ?_ GE761.out) | exact HB.out)⟩⟩
     ·rw [if_neg c35] at H
      have c35b0 : decide (t785 < 0) = false := decide_eq_false c35
      clear c35
      (first | rw [c35b0] | (simp only [i64_w, i32_w]; rw [c35b0]) | skip)
      replace H := Option.bind_eq_some_iff.mp H
      obtain ⟨t787, A360, H⟩ := H
      replace H : (laws_FnExactRescueOrder.j0 k a1 l2 t768 t777 (!t787) a0_0 a0_1 a0_2) = some true := H
      have A36 := aK A360
      clear A360
      have H' := aK H
      clear H
      go_wp2_with (first | (go_at_call 20; (with_reducible refine (laws_eqIntS.calls k _ _ t777 _ _ t768 t787 _ ?side1 ?side2 ?side3 ?side4 A36.out).mono ?_); (case side1 => repeat (first | exact (Kd.R_reads' HO779.out).2.2 | (with_reducible refine Kd.C_alloc ?_ _) | (with_reducible refine Kd.C_drewN ?_ _) | (with_reducible refine Kd.C_drew ?_))); (case side2 => exact (Kd.R_reads' HO779.out).2.1); (case side3 => repeat (first | exact (Kd.R_reads' HO770.out).2.2 | (with_reducible refine Kd.C_alloc ?_ _) | (with_reducible refine Kd.C_drewN ?_ _) | (with_reducible refine Kd.C_drew ?_))); (case side4 => exact (Kd.R_reads' HO770.out).2.1); rintro e w' ⟨rfl, ⟨nd, rfl⟩⟩))
      go_meet
      case rel => exact ⟨_, (!t787), (by first | rfl | (simp; done) | (simp [*]; done)), H', ⟨by first | omega | exact Nat.le_refl _⟩, ⟨by (with_reducible repeat (first | apply Kd.R_alloc | apply Kd.R_drewN | apply Kd.R_drew)); exact Kd.R_mono HO770.out (fun _ hk => hk.2.2.1)⟩, ⟨by (with_reducible repeat (first | apply Kd.R_alloc | apply Kd.R_drewN | apply Kd.R_drew)); exact Kd.R_mono HO779.out (fun _ hk => hk.2.1)⟩, ⟨by (with_reducible repeat (first | refine kDN ?_ _ | refine kD ?_ | refine kA ?_ _)); exact BK761.out⟩, ⟨by repeat (first | (with_reducible first | exact HB.out | apply bAl | apply bDN | apply bD1 | refine bSt ?_ GE761.out) | exact HB.out)⟩⟩
    case rest =>
     clear HC18
     try clear c1
     try clear c2
     try clear p2
     try clear c3
     try clear c4
     try clear c4b0
     try clear c4b1
     try clear c9
     try clear c13
     try clear c16
     try clear c17
     try clear c20
     try clear c23
     try clear c26
     try clear c35
     try clear c35b0
     try clear hcz20_0
     try clear hcz20_1
     try clear hcz20_2
     try clear hcz26_0
     try clear hcz26_1
     try clear hcz26_2
     try clear hfz20_0
     try clear hfz20_1
     try clear hfz20_2
     try clear hfz26_0
     try clear hfz26_1
     try clear hfz26_2
     obtain ⟨kq, x49_17, rfl, HA, HJ17, HO_7, HO_9, BK761, HB⟩ := hcut
     cases kq with
     | zero => exact absurd HA.out (by simp [laws_FnExactRescueOrder.j0])
     | succ kj17 =>
      have H := HA.out
      clear HA
      simp only [laws_FnExactRescueOrder.j0] at H
      by_cases c37 : x49_17 = true
      ·subst c37
       have H1 : (some false) = some true := by first | (rw [if_pos rfl] at H; exact H) | rfl
       clear H
       have H := H1
       clear H1
       exact absurd (Option.some.inj H) Bool.false_ne_true
      ·replace c37 := Bool.eq_false_iff.mpr c37
       subst c37
       have H1 : ((laws_markIntS.f kj17 t777 1).bind fun bt788 => ((laws_heldIntS.f kj17 bt788.2 1).bind fun t790 => (if t790 < 0 then (some false) else (if t790 = bt788.1 then ((laws_toMaze.f a0_0 a0_1 a0_2).bind fun bt791 => ((laws_toIntS.f kj17 l2).bind fun t794 => ((impl_RescueOrder.f kj17 bt791.1 bt791.2.1 bt791.2.2 a1 t794).bind fun t797 => ((laws_eqIntS.f kj17 t797 t768).bind fun t800 => (if t800 = true then ((laws_heldIntS.f kj17 bt788.2 1).bind fun t801 => (if t801 < 0 then (some false) else (if t801 = bt788.1 then (some true) else (some false)))) else (some false)))))) else (some false))))) = some true := by rw [if_neg (show ¬ (false = true) by decide)] at H; exact H
       clear H
       have H := H1
       clear H1
       replace H := Option.bind_eq_some_iff.mp H
       obtain ⟨⟨t788, t789⟩, A380, H⟩ := H
       replace H : ((laws_heldIntS.f kj17 t789 1).bind fun t790 => (if t790 < 0 then (some false) else (if t790 = t788 then ((laws_toMaze.f a0_0 a0_1 a0_2).bind fun bt791 => ((laws_toIntS.f kj17 l2).bind fun t794 => ((impl_RescueOrder.f kj17 bt791.1 bt791.2.1 bt791.2.2 a1 t794).bind fun t797 => ((laws_eqIntS.f kj17 t797 t768).bind fun t800 => (if t800 = true then ((laws_heldIntS.f kj17 t789 1).bind fun t801 => (if t801 < 0 then (some false) else (if t801 = t788 then (some true) else (some false)))) else (some false)))))) else (some false)))) = some true := H
       have A38 := aK A380
       clear A380
       replace H := Option.bind_eq_some_iff.mp H
       obtain ⟨t790, A390, H⟩ := H
       replace H : (if t790 < 0 then (some false) else (if t790 = t788 then ((laws_toMaze.f a0_0 a0_1 a0_2).bind fun bt791 => ((laws_toIntS.f kj17 l2).bind fun t794 => ((impl_RescueOrder.f kj17 bt791.1 bt791.2.1 bt791.2.2 a1 t794).bind fun t797 => ((laws_eqIntS.f kj17 t797 t768).bind fun t800 => (if t800 = true then ((laws_heldIntS.f kj17 t789 1).bind fun t801 => (if t801 < 0 then (some false) else (if t801 = t788 then (some true) else (some false)))) else (some false)))))) else (some false))) = some true := H
       have A39 := aK A390
       clear A390
       by_cases c40 : t790 < 0
       ·rw [if_pos c40] at H
        have c40b0 : decide (t790 < 0) = true := decide_eq_true c40
        clear c40
        exact absurd (Option.some.inj H) Bool.false_ne_true
       ·rw [if_neg c40] at H
        have c40b0 : decide (t790 < 0) = false := decide_eq_false c40
        clear c40
        by_cases c41 : t790 = t788
        ·rw [if_pos c41] at H
         have c41b0 : (t790 == t788) = true := beq_iff_eq.mpr c41
         have c41b1 : (t790 != t788) = false := bne_eq_false_iff_eq.mpr c41
         clear c41
         replace H := Option.bind_eq_some_iff.mp H
         obtain ⟨⟨t791, t792, t793⟩, A420, H⟩ := H
         replace H : ((laws_toIntS.f kj17 l2).bind fun t794 => ((impl_RescueOrder.f kj17 t791 t792 t793 a1 t794).bind fun t797 => ((laws_eqIntS.f kj17 t797 t768).bind fun t800 => (if t800 = true then ((laws_heldIntS.f kj17 t789 1).bind fun t801 => (if t801 < 0 then (some false) else (if t801 = t788 then (some true) else (some false)))) else (some false))))) = some true := H
         have A42 := aK A420
         clear A420
         replace H := Option.bind_eq_some_iff.mp H
         obtain ⟨t794, A430, H⟩ := H
         replace H : ((impl_RescueOrder.f kj17 t791 t792 t793 a1 t794).bind fun t797 => ((laws_eqIntS.f kj17 t797 t768).bind fun t800 => (if t800 = true then ((laws_heldIntS.f kj17 t789 1).bind fun t801 => (if t801 < 0 then (some false) else (if t801 = t788 then (some true) else (some false)))) else (some false)))) = some true := H
         have A43 := aK A430
         clear A430
         replace H := Option.bind_eq_some_iff.mp H
         obtain ⟨t797, A440, H⟩ := H
         replace H : ((laws_eqIntS.f kj17 t797 t768).bind fun t800 => (if t800 = true then ((laws_heldIntS.f kj17 t789 1).bind fun t801 => (if t801 < 0 then (some false) else (if t801 = t788 then (some true) else (some false)))) else (some false))) = some true := H
         have A44 := aK A440
         clear A440
         replace H := Option.bind_eq_some_iff.mp H
         obtain ⟨t800, A450, H⟩ := H
         replace H : (if t800 = true then ((laws_heldIntS.f kj17 t789 1).bind fun t801 => (if t801 < 0 then (some false) else (if t801 = t788 then (some true) else (some false)))) else (some false)) = some true := H
         have A45 := aK A450
         clear A450
         by_cases c46 : t800 = true
         ·subst c46
          have H1 : ((laws_heldIntS.f kj17 t789 1).bind fun t801 => (if t801 < 0 then (some false) else (if t801 = t788 then (some true) else (some false)))) = some true := by first | (rw [if_pos rfl] at H; exact H) | rfl
          clear H
          have H := H1
          clear H1
          replace H := Option.bind_eq_some_iff.mp H
          obtain ⟨t801, A470, H⟩ := H
          replace H : (if t801 < 0 then (some false) else (if t801 = t788 then (some true) else (some false))) = some true := H
          have A47 := aK A470
          clear A470
          by_cases c48 : t801 < 0
          ·rw [if_pos c48] at H
           have c48b0 : decide (t801 < 0) = true := decide_eq_true c48
           clear c48
           exact absurd (Option.some.inj H) Bool.false_ne_true
          ·rw [if_neg c48] at H
           have c48b0 : decide (t801 < 0) = false := decide_eq_false c48
           clear c48
           by_cases c49 : t801 = t788
           ·rw [if_pos c49] at H
            have c49b0 : (t801 == t788) = true := beq_iff_eq.mpr c49
            have c49b1 : (t801 != t788) = false := bne_eq_false_iff_eq.mpr c49
            clear c49
            go_wp2_with (first | ((with_reducible refine gate_callee (f := 23) rfl ?_); refine goesL_ (some 52) rfl rfl Try.func23 (by kernel_rfl) rfl #[.slice Ao30 t777.length co30, .int .i64 1] rfl (by (try simp only [List.map_toArray, List.map_cons, List.map_nil]); first | done | rfl | (simp only [List.length_drop, List.length_take]; rfl)) ?_; (with_reducible refine (laws_markIntS.calls kj17 (fun k_ => some k_ = (.slice Ao30 t777.length co30 : Value).ownBlock) (.slice Ao30 t777.length co30) t777 1 t788 t789 w _ ?side1 ?side2 A38.out).mono ?_); (case side1 => repeat (first | (with_reducible first | exact HB.out | apply bAl | apply bDN | apply bD1 | refine bSt ?_ GE761.out) | exact HB.out)); (case side2 => exact Kd.R_tight rfl HO_9.out); rintro e w50 ⟨rfl, hy0, hb, hkp⟩; refine ⟨_, rfl, ?_⟩; have n0_ := aK (Kd.R_mono (ok' := fun k_ => some k_ ≠ (.slice Ao30 t777.length co30 : Value).ownBlock) (Kd.R_keptB (HO_7.out) hkp (fun k_ hk_ hs_ => (hk_) hs_)) (fun k_ hk_ => hk_.1)); have n1_ := aK (Kd.R_reok rfl hy0 (fun k_ e_ => HO_9.out.1 k_ e_)); have n2_ := aK (blk_kept (by (with_reducible repeat (first | refine kDN ?_ _ | refine kD ?_ | refine kA ?_ _)); exact BK761.out) hkp (fun hs_ => (fun e_ => (Kd.R_ne HO_9.out BK761.out (by decide)) e_) hs_)); have n3_ := aK (hb); clear HO_7; clear HO_9; clear BK761; clear HB; have HO_7 := n0_; have HO_9 := n1_; have BK761 := n2_; have HB := n3_; clear n0_ n1_ n2_ n3_; (try clear hb); (try clear hkp); (try clear hy0)) | ((with_reducible refine gate_callee (f := 24) rfl ?_); refine goesL_ (some 55) rfl rfl Try.func24 (by kernel_rfl) rfl #[.slice Ao30 t789.length co30, .int .i64 1] rfl (by (try simp only [List.map_toArray, List.map_cons, List.map_nil]); first | done | (rw [show t789.length = t777.length from (Kd.R_reads' HO_9.out).1.symm] <;> rfl) | rfl | (simp only [List.length_drop, List.length_take]; rfl)) ?_; (with_reducible refine (laws_heldIntS.calls kj17 _ _ t789 1 t790 _ ?side1 ?side2 A39.out).mono ?_); (case side1 => repeat (first | exact (Kd.R_reads' HO_9.out).2.2 | (with_reducible refine Kd.C_alloc ?_ _) | (with_reducible refine Kd.C_drewN ?_ _) | (with_reducible refine Kd.C_drew ?_))); (case side2 => rw [show t789.length = t777.length from (Kd.R_reads' HO_9.out).1.symm]; exact (Kd.R_reads' HO_9.out).2.1); rintro e w' ⟨rfl, ⟨nd, rfl⟩⟩; refine ⟨_, rfl, ?_⟩; obtain ⟨hcz51_0, hcz51_1, hcz51_2, hfz51_0, hfz51_1, hfz51_2⟩ := cl3 BK761.out) | ((with_reducible refine gate_callee (f := 17) rfl ?_); refine goesL_ (some 62) rfl rfl Try.func17 (by kernel_rfl) rfl #[.agg #[.int .i64 a0_0, .int .i64 a0_1, .int .i64 a0_2]] rfl (by (try simp only [List.map_toArray, List.map_cons, List.map_nil]); first | done | rfl | (simp only [List.length_drop, List.length_take]; rfl)) ?_; (with_reducible refine (laws_toMaze.calls a0_0 a0_1 a0_2 t791 t792 t793 _ A42.out).mono ?_); rintro e w52 ⟨rfl, hb⟩; refine ⟨_, rfl, ?_⟩; have n0_ := aK (Kd.R_below (by (with_reducible repeat (first | apply Kd.R_alloc | apply Kd.R_drewN | apply Kd.R_drew)); exact HO_7.out) hb); have n1_ := aK (Kd.R_below (by (with_reducible repeat (first | apply Kd.R_alloc | apply Kd.R_drewN | apply Kd.R_drew)); exact HO_9.out) hb); have n2_ := bkb BK761 hb (by intro z_; (with_reducible repeat (first | refine kDN ?_ _ | refine kD ?_ | refine kA ?_ _)); exact z_); have n3_ := aK (bSp (by repeat (first | (with_reducible first | exact HB.out | apply bAl | apply bDN | apply bD1 | refine bSt ?_ GE761.out) | exact HB.out)) hb); clear HO_7; clear HO_9; clear BK761; clear HB; have HO_7 := n0_; have HO_9 := n1_; have BK761 := n2_; have HB := n3_; clear n0_ n1_ n2_ n3_; (try clear hb); (try clear hb2); (try clear hk); (try clear hi)) | ((with_reducible refine gate_callee (f := 26) rfl ?_); refine goesL_ (some 65) rfl rfl Try.func26 (by kernel_rfl) rfl #[.slice A2 l2.length c2] rfl (by (try simp only [List.map_toArray, List.map_cons, List.map_nil]); first | done | rfl | (simp only [List.length_drop, List.length_take]; rfl)) ?_; (with_reducible refine (laws_toIntS.calls kj17 _ _ l2 t794 _ ?side1 ?side2 A43.out).mono ?_); (case side1 => repeat (first | exact (Kd.C_below HR2.out HB.out) | (with_reducible refine Kd.C_alloc ?_ _) | (with_reducible refine Kd.C_drewN ?_ _) | (with_reducible refine Kd.C_drew ?_))); (case side2 => exact HC2.out); rintro e w53 ⟨v795, rfl, ho0, hb⟩; refine ⟨_, rfl, ?_⟩; have n0_ := aK (Kd.R_elder' (by (with_reducible repeat (first | apply Kd.R_alloc | apply Kd.R_drewN | apply Kd.R_drew)); exact HO_7.out) (Kd.R_base ho0) hb); have n1_ := aK (Kd.R_elder' (by (with_reducible repeat (first | apply Kd.R_alloc | apply Kd.R_drewN | apply Kd.R_drew)); exact HO_9.out) (Kd.R_base ho0) hb); have n2_ := aK (Kd.R_lower (Kd.R_new' (Kd.R_new' ho0 (Kd.R_lt (by (with_reducible repeat (first | apply Kd.R_alloc | apply Kd.R_drewN | apply Kd.R_drew)); exact HO_7.out))) (Kd.R_lt (by (with_reducible repeat (first | apply Kd.R_alloc | apply Kd.R_drewN | apply Kd.R_drew)); exact HO_9.out))) (bSz (by repeat (first | (with_reducible first | exact HB.out | apply bAl | apply bDN | apply bD1 | refine bSt ?_ GE761.out) | exact HB.out)))); have n3_ := bkb BK761 hb (by intro z_; (with_reducible repeat (first | refine kDN ?_ _ | refine kD ?_ | refine kA ?_ _)); exact z_); have n4_ := aK (bSp (by repeat (first | (with_reducible first | exact HB.out | apply bAl | apply bDN | apply bD1 | refine bSt ?_ GE761.out) | exact HB.out)) hb); clear HO_7; clear HO_9; clear BK761; clear HB; have HO_7 := n0_; have HO_9 := n1_; have HO796 := n2_; have BK761 := n3_; have HB := n4_; clear n0_ n1_ n2_ n3_ n4_; (try clear hb); (try clear hb2); (try clear hk); (try clear hi); (try clear ho0); obtain ⟨Ao54, co54, eo54⟩ := Kd.R_slice HO796.out; subst eo54) | ((with_reducible refine gate_callee (f := 41) rfl ?_); refine goesL_ (some 66) rfl rfl Try.func41 (by kernel_rfl) rfl #[.agg #[.int .i64 t791, .int .i64 t792, .int .i64 t793], .int .i64 a1, .slice Ao54 t794.length co54] rfl (by (try simp only [List.map_toArray, List.map_cons, List.map_nil]); first | done | rfl | (simp only [List.length_drop, List.length_take]; rfl)) ?_; (with_reducible refine (impl_RescueOrder.calls kj17 t791 t792 t793 a1 _ _ t794 t797 _ ?side1 ?side2 A44.out).mono ?_); (case side1 => repeat (first | exact (Kd.R_reads' HO796.out).2.2 | (with_reducible refine Kd.C_alloc ?_ _) | (with_reducible refine Kd.C_drewN ?_ _) | (with_reducible refine Kd.C_drew ?_))); (case side2 => exact (Kd.R_reads' HO796.out).2.1); rintro e w55 ⟨v798, rfl, ho0, hb⟩; refine ⟨_, rfl, ?_⟩; have n0_ := aK (Kd.R_elder' (by (with_reducible repeat (first | apply Kd.R_alloc | apply Kd.R_drewN | apply Kd.R_drew)); exact HO_7.out) (Kd.R_base ho0) hb); have n1_ := aK (Kd.R_elder' (by (with_reducible repeat (first | apply Kd.R_alloc | apply Kd.R_drewN | apply Kd.R_drew)); exact HO_9.out) (Kd.R_base ho0) hb); have n2_ := aK (Kd.R_elder' (by (with_reducible repeat (first | apply Kd.R_alloc | apply Kd.R_drewN | apply Kd.R_drew)); exact HO796.out) (Kd.R_base ho0) hb); have n3_ := aK (Kd.R_lower (Kd.R_new' (Kd.R_new' (Kd.R_new' ho0 (Kd.R_lt (by (with_reducible repeat (first | apply Kd.R_alloc | apply Kd.R_drewN | apply Kd.R_drew)); exact HO_7.out))) (Kd.R_lt (by (with_reducible repeat (first | apply Kd.R_alloc | apply Kd.R_drewN | apply Kd.R_drew)); exact HO_9.out))) (Kd.R_lt (by (with_reducible repeat (first | apply Kd.R_alloc | apply Kd.R_drewN | apply Kd.R_drew)); exact HO796.out))) (bSz (by repeat (first | (with_reducible first | exact HB.out | apply bAl | apply bDN | apply bD1 | refine bSt ?_ GE761.out) | exact HB.out)))); have n4_ := bkb BK761 hb (by intro z_; (with_reducible repeat (first | refine kDN ?_ _ | refine kD ?_ | refine kA ?_ _)); exact z_); have n5_ := aK (bSp (by repeat (first | (with_reducible first | exact HB.out | apply bAl | apply bDN | apply bD1 | refine bSt ?_ GE761.out) | exact HB.out)) hb); clear HO_7; clear HO_9; clear HO796; clear BK761; clear HB; have HO_7 := n0_; have HO_9 := n1_; have HO796 := n2_; have HO799 := n3_; have BK761 := n4_; have HB := n5_; clear n0_ n1_ n2_ n3_ n4_ n5_; (try clear hb); (try clear hb2); (try clear hk); (try clear hi); (try clear ho0); obtain ⟨Ao56, co56, eo56⟩ := Kd.R_slice HO799.out; subst eo56) | ((with_reducible refine gate_callee (f := 20) rfl ?_); refine goesL_ (some 69) rfl rfl Try.func20 (by kernel_rfl) rfl #[.slice Ao56 t797.length co56, .slice Ao31 t768.length co31] rfl (by (try simp only [List.map_toArray, List.map_cons, List.map_nil]); first | done | rfl | (simp only [List.length_drop, List.length_take]; rfl)) ?_; (with_reducible refine (laws_eqIntS.calls kj17 _ _ t797 _ _ t768 true _ ?side1 ?side2 ?side3 ?side4 A45.out).mono ?_); (case side1 => repeat (first | exact (Kd.R_reads' HO799.out).2.2 | (with_reducible refine Kd.C_alloc ?_ _) | (with_reducible refine Kd.C_drewN ?_ _) | (with_reducible refine Kd.C_drew ?_))); (case side2 => exact (Kd.R_reads' HO799.out).2.1); (case side3 => repeat (first | exact (Kd.R_reads' HO_7.out).2.2 | (with_reducible refine Kd.C_alloc ?_ _) | (with_reducible refine Kd.C_drewN ?_ _) | (with_reducible refine Kd.C_drew ?_))); (case side4 => exact (Kd.R_reads' HO_7.out).2.1); rintro e w' ⟨rfl, ⟨nd, rfl⟩⟩; refine ⟨_, rfl, ?_⟩) | ((with_reducible refine gate_callee (f := 24) rfl ?_); refine goesL_ (some 73) rfl rfl Try.func24 (by kernel_rfl) rfl #[.slice Ao30 t789.length co30, .int .i64 1] rfl (by (try simp only [List.map_toArray, List.map_cons, List.map_nil]); first | done | (rw [show t789.length = t777.length from (Kd.R_reads' HO_9.out).1.symm] <;> rfl) | rfl | (simp only [List.length_drop, List.length_take]; rfl)) ?_; (with_reducible refine (laws_heldIntS.calls kj17 _ _ t789 1 t801 _ ?side1 ?side2 A47.out).mono ?_); (case side1 => repeat (first | exact (Kd.R_reads' HO_9.out).2.2 | (with_reducible refine Kd.C_alloc ?_ _) | (with_reducible refine Kd.C_drewN ?_ _) | (with_reducible refine Kd.C_drew ?_))); (case side2 => rw [show t789.length = t777.length from (Kd.R_reads' HO_9.out).1.symm]; exact (Kd.R_reads' HO_9.out).2.1); rintro e w' ⟨rfl, ⟨nd, rfl⟩⟩; refine ⟨_, rfl, ?_⟩))
            go_ret
            exact ⟨by first | rfl | (simp [errW_none, errW_some] <;> rfl) | (simp [*, errW_none, errW_some] <;> rfl), by repeat (first | (with_reducible first | exact HB.out | apply bAl | apply bDN | apply bD1 | refine bSt ?_ GE761.out) | exact HB.out)⟩
           ·rw [if_neg c49] at H
            have c49b0 : (t801 == t788) = false := beq_eq_false_iff_ne.mpr c49
            have c49b1 : (t801 != t788) = true := bne_iff_ne.mpr c49
            exact absurd (Option.some.inj H) Bool.false_ne_true
         ·replace c46 := Bool.eq_false_iff.mpr c46
          subst c46
          have H1 : (some false) = some true := by rw [if_neg (show ¬ (false = true) by decide)] at H; exact H
          clear H
          have H := H1
          clear H1
          exact absurd (Option.some.inj H) Bool.false_ne_true
        ·rw [if_neg c41] at H
         have c41b0 : (t790 == t788) = false := beq_eq_false_iff_ne.mpr c41
         have c41b1 : (t790 != t788) = true := bne_iff_ne.mpr c41
         exact absurd (Option.some.inj H) Bool.false_ne_true
   ·replace c16 := Bool.eq_false_iff.mpr c16
    subst c16
    have H1 : (some false) = some true := by rw [if_neg (show ¬ (false = true) by decide)] at H; exact H
    clear H
    have H := H1
    clear H1
    exact absurd (Option.some.inj H) Bool.false_ne_true
  ·replace c13 := Bool.eq_false_iff.mpr c13
   subst c13
   have H1 : (some false) = some true := by rw [if_neg (show ¬ (false = true) by decide)] at H; exact H
   clear H
   have H := H1
   clear H1
   exact absurd (Option.some.inj H) Bool.false_ne_true
end Go.Proofs.Ytimejdhglmajdaa.F
end

section
namespace Go.Proofs.Ytimejdhglmajdaa.F
open Go.RowKit Go.Proofs.YtimejdhglmajdaaW.PrintWords Go.Proofs.YtimejdhglmajdaaW.PrintLast Go.Proofs.YtimejdhglmajdaaW.PrintMore
set_option linter.unusedVariables false
set_option linter.unusedSimpArgs false
theorem rd_set {D : List Int} {i x v : Int} (hi : 0 ≤ i) (hx : 0 ≤ x) (hl : i < D.length) : rd (D.set i.toNat v) x = if x = i then v else rd D x := by
  unfold rd
  rw [List.getD_eq_getElem?_getD, List.getElem?_set]
  by_cases h : x = i
  · subst h
    rw [if_pos rfl, if_pos (by omega), if_pos rfl]; rfl
  · rw [if_neg (by omega), if_neg h, List.getD_eq_getElem?_getD]
theorem rd_lt {D : List Int} {x : Int} (hx : 0 ≤ x) (hl : x < D.length) : ∃ h : x.toNat < D.length, rd D x = D[x.toNat] := by
  have h : x.toNat < D.length := by omega
  exact ⟨h, by unfold rd; rw [List.getD_eq_getElem?_getD, List.getElem?_eq_getElem h]; rfl⟩
theorem rd_memI {D : List Int} {x : Int} (hx : 0 ≤ x) (hl : x < D.length) : rd D x ∈ D := by
  obtain ⟨h, e⟩ := rd_lt hx hl
  rw [e]; exact List.getElem_mem h
theorem mem_rd {D : List Int} {v : Int} (h : v ∈ D) : ∃ j : Nat, j < D.length ∧ rd D (j : Int) = v := by
  obtain ⟨j, hj, rfl⟩ := List.getElem_of_mem h
  exact ⟨j, hj, by rw [rd_nat, List.getD_eq_getElem?_getD, List.getElem?_eq_getElem hj]; rfl⟩
theorem rd_app_left {D E : List Int} {j : Nat} (h : j < D.length) : rd (D ++ E) (j : Int) = rd D (j : Int) := by
  simp only [rd_nat, List.getD_eq_getElem?_getD]
  rw [List.getElem?_append_left h]
theorem rd_app_last {D : List Int} {v : Int} : rd (D ++ [v]) (D.length : Int) = v := by
  simp only [rd_nat, List.getD_eq_getElem?_getD]
  rw [List.getElem?_append_right (Nat.le_refl _)]
  simp
def bfsD (nx : Int → Int → Int) (c : Int) : List Int → List Int × List Int → List Int × List Int
  | [], s => s
  | d :: ds, s => if 0 ≤ nx c d ∧ rd s.1 (nx c d) < 0 then bfsD nx c ds (s.1.set (nx c d).toNat (rd s.1 c + 1), s.2 ++ [nx c d]) else bfsD nx c ds s
def bfs (nx : Int → Int → Int) : Nat → Nat → List Int × List Int → List Int
  | 0, _, s => s.1
  | f + 1, i, s => if i < s.2.length then bfs nx f (i + 1) (bfsD nx (rd s.2 i) [0, 1, 2, 3] s) else s.1
def dists (nx : Int → Int → Int) (N : Nat) (a : Int) : List Int := bfs nx (N + 1) 0 ((List.replicate N (-1)).set a.toNat 0, [a])
inductive Walk (nx : Int → Int → Int) (a : Int) : Nat → Int → Prop
  | nil : Walk nx a 0 a
  | snoc {n : Nat} {b d : Int} : Walk nx a n b → 0 ≤ nx b d → Walk nx a (n + 1) (nx b d)
structure Steps (nx : Int → Int → Int) (N : Nat) : Prop where
  rng : ∀ c d, 0 ≤ nx c d → 0 ≤ c ∧ c < N ∧ nx c d < N ∧ 0 ≤ d ∧ d ≤ 3
structure Bfs (nx : Int → Int → Int) (N : Nat) (a : Int) (D Q : List Int) : Prop where
  len : D.length = N
  cnt : D.countP (· < 0) + Q.length = N
  inq : ∀ x ∈ Q, 0 ≤ x ∧ x < N ∧ 0 ≤ rd D x ∧ Walk nx a (rd D x).toNat x
  out : ∀ x : Int, 0 ≤ x → x < N → x ∉ Q → rd D x = -1
  src : rd D a = 0 ∧ a ∈ Q
  mono : ∀ j k : Nat, j ≤ k → k < Q.length → rd D (rd Q j) ≤ rd D (rd Q k)
structure BfsAt (nx : Int → Int → Int) (N : Nat) (a : Int) (i : Nat) (D Q : List Int) : Prop extends Bfs nx N a D Q where
  near : i < Q.length → ∀ x ∈ Q, rd D x ≤ rd D (rd Q i) + 1
  done : ∀ j, j < i → j < Q.length → ∀ d, 0 ≤ nx (rd Q j) d → nx (rd Q j) d ∈ Q ∧ rd D (nx (rd Q j) d) ≤ rd D (rd Q j) + 1
theorem countP_lt_set {D : List Int} {i v : Int} (hi : 0 ≤ i) (hl : i < D.length) (hneg : rd D i < 0) (hv : 0 ≤ v) : (D.set i.toNat v).countP (· < 0) + 1 = D.countP (· < 0) := by
  obtain ⟨h, e⟩ := rd_lt hi hl
  rw [e] at hneg
  have hpos : 0 < D.countP (· < 0) := List.countP_pos_iff.2 ⟨D[i.toNat], List.getElem_mem h, by simpa using hneg⟩
  rw [List.countP_set h]
  simp [hneg, show ¬ v < 0 by omega]
  omega
theorem bfs_push {nx : Int → Int → Int} {N : Nat} {a : Int} {i : Nat} {D Q : List Int} (S : Steps nx N) (B : BfsAt nx N a i D Q) (hi : i < Q.length) {d : Int} (h0 : 0 ≤ nx (rd Q i) d) (hneg : rd D (nx (rd Q i) d) < 0) :
    BfsAt nx N a i (D.set (nx (rd Q i) d).toNat (rd D (rd Q i) + 1)) (Q ++ [nx (rd Q i) d]) := by
  have hci : rd Q i ∈ Q := rd_memI (by omega) (by omega)
  generalize hc : rd Q i = c at *
  generalize hn : nx c d = n at *
  have hr := S.rng c d (by omega)
  rw [hn] at hr
  obtain ⟨c0, c1, cd, cw⟩ := B.inq c hci
  have hnl : n < D.length := by rw [B.len]; omega
  have hnQ : n ∉ Q := fun h => by have := (B.inq n h).2.2.1; omega
  have same : ∀ x ∈ Q, rd (D.set n.toNat (rd D c + 1)) x = rd D x := fun x hx => by
    have := (B.inq x hx).1
    rw [rd_set h0 this hnl, if_neg (by rintro rfl; exact hnQ hx)]
  have newv : rd (D.set n.toNat (rd D c + 1)) n = rd D c + 1 := by rw [rd_set h0 h0 hnl, if_pos rfl]
  have rq : ∀ j : Nat, j < Q.length → rd (Q ++ [n]) (j : Int) = rd Q (j : Int) := fun j hj => rd_app_left hj
  have wn : Walk nx a (rd D c + 1).toNat n := by
    have := Walk.snoc (d := d) cw (by omega)
    rw [hn] at this
    rwa [show (rd D c).toNat + 1 = (rd D c + 1).toNat by omega] at this
  refine ⟨⟨by rw [List.length_set, B.len], ?_, ?_, ?_, ?_, ?_⟩, ?_, ?_⟩
  · have := countP_lt_set (v := rd D c + 1) h0 hnl hneg (by omega)
    have := B.cnt
    rw [List.length_append, List.length_singleton]
    omega
  · intro x hx
    rcases List.mem_append.1 hx with hx | hx
    · rw [same x hx]; exact B.inq x hx
    · rw [List.mem_singleton.1 hx, newv]
      exact ⟨h0, hr.2.2.1, by omega, wn⟩
  · intro x x0 x1 hx
    rw [List.mem_append, not_or] at hx
    rw [rd_set h0 x0 hnl, if_neg (by rintro rfl; exact hx.2 (by simp))]
    exact B.out x x0 x1 hx.1
  · exact ⟨by rw [same a B.src.2]; exact B.src.1, List.mem_append_left _ B.src.2⟩
  · intro j k hjk hk
    rw [List.length_append, List.length_singleton] at hk
    by_cases hk' : k < Q.length
    · rw [rq j (by omega), rq k hk', same _ (rd_memI (by omega) (by omega)), same _ (rd_memI (by omega) (by omega))]
      exact B.mono j k hjk hk'
    · have ek : k = Q.length := by omega
      subst ek
      rw [rd_app_last, newv]
      by_cases hj' : j < Q.length
      · rw [rq j hj', same _ (rd_memI (by omega) (by omega))]
        have := B.near hi _ (rd_memI (D := Q) (x := (j : Int)) (by omega) (by omega))
        rw [hc] at this
        exact this
      · have ej : j = Q.length := by omega
        subst ej
        rw [rd_app_last, newv]
        exact Int.le_refl _
  · intro _ x hx
    rw [rq i hi, hc]
    rcases List.mem_append.1 hx with hx | hx
    · rw [same x hx, same c hci]
      have := B.near hi x hx
      rwa [hc] at this
    · rw [List.mem_singleton.1 hx, newv, same c hci]
      exact Int.le_refl _
  · intro j hj hjl e he
    rw [rq j (by omega)] at he ⊢
    obtain ⟨m1, m2⟩ := B.done j hj (by omega) e he
    exact ⟨List.mem_append_left _ m1, by rw [same _ m1, same _ (rd_memI (by omega) (by omega))]; exact m2⟩
theorem bfs_dirs {nx : Int → Int → Int} {N : Nat} {a : Int} {i : Nat} (S : Steps nx N) : ∀ (ds : List Int) (D Q : List Int), BfsAt nx N a i D Q → i < Q.length → ∀ D' Q', bfsD nx (rd Q i) ds (D, Q) = (D', Q') →
    BfsAt nx N a i D' Q' ∧ i < Q'.length ∧ rd Q' i = rd Q i ∧ (∀ x ∈ Q, x ∈ Q') ∧ (∀ d ∈ ds, 0 ≤ nx (rd Q i) d → nx (rd Q i) d ∈ Q' ∧ rd D' (nx (rd Q i) d) ≤ rd D' (rd Q i) + 1)
  | [], D, Q, B, hi, D', Q', e => by
    simp only [bfsD, Prod.mk.injEq] at e
    obtain ⟨rfl, rfl⟩ := e
    exact ⟨B, hi, rfl, fun _ h => h, fun d hd => by simp at hd⟩
  | d :: ds, D, Q, B, hi, D', Q', e => by
    simp only [bfsD] at e
    by_cases h : 0 ≤ nx (rd Q i) d ∧ rd D (nx (rd Q i) d) < 0
    · rw [if_pos h] at e
      have B' := bfs_push S B hi h.1 h.2
      have hq : rd (Q ++ [nx (rd Q i) d]) (i : Int) = rd Q i := rd_app_left hi
      have hi' : i < (Q ++ [nx (rd Q i) d]).length := by rw [List.length_append]; omega
      rw [← hq] at e
      obtain ⟨r1, r2, r3, r4, r5⟩ := bfs_dirs S ds _ _ B' hi' D' Q' (by rw [hq] at e ⊢; exact e)
      rw [hq] at r3 r5
      refine ⟨r1, r2, r3, fun x hx => r4 x (List.mem_append_left _ hx), fun e' he h0 => ?_⟩
      rcases List.mem_cons.1 he with rfl | he
      · have hm := r4 (nx (rd Q i) e') (by simp)
        have := r1.near r2 _ hm
        rw [r3] at this
        exact ⟨hm, this⟩
      · exact r5 e' he h0
    · rw [if_neg h] at e
      obtain ⟨r1, r2, r3, r4, r5⟩ := bfs_dirs S ds D Q B hi D' Q' e
      refine ⟨r1, r2, r3, r4, fun e' he h0 => ?_⟩
      rcases List.mem_cons.1 he with rfl | he
      · have hr := S.rng _ _ h0
        have hge : ¬ rd D (nx (rd Q i) e') < 0 := fun hh => h ⟨h0, hh⟩
        have hm : nx (rd Q i) e' ∈ Q := by
          by_cases hx : nx (rd Q i) e' ∈ Q
          · exact hx
          · have := B.out _ h0 hr.2.2.1 hx
            omega
        have := r1.near r2 _ (r4 _ hm)
        rw [r3] at this
        exact ⟨r4 _ hm, this⟩
      · exact r5 e' he h0
theorem bfs_run {nx : Int → Int → Int} {N : Nat} {a : Int} (S : Steps nx N) : ∀ (f i : Nat) (D Q : List Int), BfsAt nx N a i D Q → N < f + i → ∃ Q', BfsAt nx N a Q'.length (bfs nx f i (D, Q)) Q' ∨ (∃ j, Q'.length ≤ j ∧ BfsAt nx N a j (bfs nx f i (D, Q)) Q')
  | 0, i, D, Q, B, hf => ⟨Q, .inr ⟨i, by have := B.cnt; omega, B⟩⟩
  | f + 1, i, D, Q, B, hf => by
    simp only [bfs]
    by_cases hi : i < Q.length
    · rw [if_pos hi]
      generalize hs : bfsD nx (rd Q i) [0, 1, 2, 3] (D, Q) = s
      obtain ⟨D', Q'⟩ := s
      obtain ⟨r1, r2, r3, r4, r5⟩ := bfs_dirs S _ D Q B hi D' Q' hs
      refine bfs_run S f (i + 1) D' Q' ⟨r1.toBfs, fun h x hx => ?_, fun j hj hjl d hd => ?_⟩ (by omega)
      · have h1 := r1.near r2 x hx
        have h2 := r1.mono i (i + 1) (by omega) h
        omega
      · by_cases hj' : j = i
        · subst hj'
          rw [r3] at hd ⊢
          have hr := S.rng _ _ hd
          exact r5 d (by have : d = 0 ∨ d = 1 ∨ d = 2 ∨ d = 3 := by omega
                         rcases this with rfl | rfl | rfl | rfl <;> simp) hd
        · exact r1.done j (by omega) hjl d hd
    · rw [if_neg hi]
      exact ⟨Q, .inr ⟨i, by omega, B⟩⟩
theorem dists_spec {nx : Int → Int → Int} {N : Nat} {a : Int} (S : Steps nx N) (h0 : 0 ≤ a) (h1 : a < N) : (dists nx N a).length = N ∧ rd (dists nx N a) a = 0 ∧
    ∀ x : Int, 0 ≤ x → x < N → (rd (dists nx N a) x = -1 ∧ ∀ n, ¬ Walk nx a n x) ∨ (0 ≤ rd (dists nx N a) x ∧ Walk nx a (rd (dists nx N a) x).toNat x ∧ ∀ n, Walk nx a n x → rd (dists nx N a) x ≤ n) := by
  have hrep : ∀ x : Int, 0 ≤ x → x < N → rd (List.replicate N (-1)) x = -1 := fun x x0 x1 => by
    obtain ⟨h, e⟩ := rd_lt (D := List.replicate N (-1 : Int)) x0 (by simpa using x1)
    rw [e, List.getElem_replicate]
  have hset : ∀ x : Int, 0 ≤ x → x < N → rd ((List.replicate N (-1)).set a.toNat 0) x = if x = a then 0 else -1 := fun x x0 x1 => by
    rw [rd_set h0 x0 (by simpa using h1)]
    split
    · rfl
    · exact hrep x x0 x1
  have B0 : BfsAt nx N a 0 ((List.replicate N (-1)).set a.toNat 0) [a] := by
    refine ⟨⟨by simp, ?_, ?_, ?_, ?_, ?_⟩, ?_, ?_⟩
    · have := countP_lt_set (D := List.replicate N (-1 : Int)) (i := a) (v := 0) h0 (by simpa using h1) (by rw [hrep a h0 h1]; decide) (by decide)
      rw [List.countP_replicate] at this
      simpa using this
    · intro x hx
      rw [List.mem_singleton.1 hx, hset a h0 h1, if_pos rfl]
      exact ⟨h0, h1, by decide, Walk.nil⟩
    · intro x x0 x1 hx
      rw [hset x x0 x1, if_neg (by simpa using hx)]
    · exact ⟨by rw [hset a h0 h1, if_pos rfl], by simp⟩
    · intro j k hjk hk
      have : j = 0 := by simp at hk; omega
      have : k = 0 := by simp at hk; omega
      subst_vars
      exact Int.le_refl _
    · intro _ x hx
      rw [List.mem_singleton.1 hx]
      simp [rd]
      omega
    · intro j hj; omega
  have fin : ∃ j Q', Q'.length ≤ j ∧ BfsAt nx N a j (dists nx N a) Q' := by
    obtain ⟨Q', h | ⟨j, hj, h⟩⟩ := bfs_run S (N + 1) 0 _ _ B0 (by omega)
    · exact ⟨_, Q', Nat.le_refl _, h⟩
    · exact ⟨j, Q', hj, h⟩
  obtain ⟨j, Q', hj, B⟩ := fin
  have close : ∀ n x, Walk nx a n x → x ∈ Q' ∧ rd (dists nx N a) x ≤ n := by
    intro n x h
    induction h with
    | nil => exact ⟨B.src.2, by rw [B.src.1]; simp⟩
    | @snoc n b d hw hd ih =>
      obtain ⟨m1, m2⟩ := ih
      obtain ⟨i, hi, rfl⟩ := mem_rd m1
      obtain ⟨q1, q2⟩ := B.done i (by omega) hi d hd
      exact ⟨q1, by omega⟩
  refine ⟨B.len, B.src.1, fun x x0 x1 => ?_⟩
  by_cases hx : x ∈ Q'
  · right
    obtain ⟨_, _, q1, q2⟩ := B.inq x hx
    exact ⟨q1, q2, fun n hn => (close n x hn).2⟩
  · left
    exact ⟨B.out x x0 x1 hx, fun n hn => hx (close n x hn).1⟩
structure Sym (nx : Int → Int → Int) : Prop where
  back : ∀ c d, 0 ≤ nx c d → ∃ e, nx (nx c d) e = c
theorem Walk.cons {nx : Int → Int → Int} {a d : Int} (h0 : 0 ≤ nx a d) {n : Nat} {b : Int} (h : Walk nx (nx a d) n b) : Walk nx a (n + 1) b := by
  induction h with
  | nil => exact Walk.snoc Walk.nil h0
  | snoc _ hd ih => exact Walk.snoc ih hd
theorem Walk.trans {nx : Int → Int → Int} {a b : Int} {n : Nat} (h : Walk nx a n b) {m : Nat} {c : Int} (k : Walk nx b m c) : Walk nx a (n + m) c := by
  induction k with
  | nil => exact h
  | snoc _ hd ih => exact Walk.snoc ih hd
theorem Walk.rev {nx : Int → Int → Int} {N : Nat} (S : Steps nx N) (Y : Sym nx) {a : Int} {n : Nat} {b : Int} (h : Walk nx a n b) : Walk nx b n a := by
  induction h with
  | nil => exact Walk.nil
  | @snoc n b d hw hd ih =>
    obtain ⟨e, he⟩ := Y.back b d hd
    have := S.rng b d hd
    have h2 : Walk nx (nx (nx b d) e) n a := by rw [he]; exact ih
    exact Walk.cons (by rw [he]; omega) h2
end Go.Proofs.Ytimejdhglmajdaa.F
end

section
namespace Go.Proofs.Ytimejdhglmajdaa.F
open Go.RowKit Go.Proofs.YtimejdhglmajdaaW.PrintWords Go.Proofs.YtimejdhglmajdaaW.PrintLast Go.Proofs.YtimejdhglmajdaaW.PrintMore
set_option linter.unusedVariables false
set_option linter.unusedSimpArgs false
theorem w64 {x : Int} (h1 : -9223372036854775808 ≤ x) (h2 : x ≤ 9223372036854775807) : wrap64 x = x := by unfold wrap64; omega
theorem wrapi_nat {n : Nat} (h : n < 9223372036854775808) : IntKind.i64.wrap (n : Int) = (n : Int) := by rw [IntKind.wrap_i64]; omega
theorem bits_and_i {a b : Nat} (ha : a < 2 ^ 63) (hb : b < 2 ^ 63) : Go.bits .and .i64 (a : Int) (b : Int) = ((a &&& b : Nat) : Int) :=
  (bits_nat .i64 63 (by decide) (fun n h0 h1 => by rw [IntKind.wrap_i64]; omega) a b ha hb).1
theorem shl_one {g : Nat} (h : g < 63) : shl .i64 1 (g : Int) = ((2 ^ g : Nat) : Int) := by
  unfold shl
  have : min ((g : Int).toNat) IntKind.i64.bits = g := by simp [IntKind.bits]; omega
  rw [this, Int.one_mul]
  have hp : (2 : Nat) ^ g ≤ 2 ^ 62 := Nat.pow_le_pow_right (by decide) (by omega)
  have : ((2 : Int) ^ g) = ((2 ^ g : Nat) : Int) := by simp
  rw [this]
  exact wrapi_nat (by omega)
theorem shr_nat {a g : Nat} (ha : a < 2 ^ 63) : shr .i64 (a : Int) (g : Int) = ((a >>> g : Nat) : Int) := by
  unfold shr
  rw [Nat.shiftRight_eq_div_pow]
  by_cases hg : g ≤ 64
  · have : min ((g : Int).toNat) IntKind.i64.bits = g := by simp [IntKind.bits]; omega
    rw [this]
    have : ((2 : Int) ^ g) = ((2 ^ g : Nat) : Int) := by simp
    rw [this]
    omega
  · have : min ((g : Int).toNat) IntKind.i64.bits = 64 := by simp [IntKind.bits]; omega
    rw [this]
    have hp : (2 : Nat) ^ 64 ≤ 2 ^ g := Nat.pow_le_pow_right (by decide) (by omega)
    rw [Nat.div_eq_of_lt (by omega)]
    have : (a : Int) / 2 ^ 64 = 0 := by omega
    simpa using this
def opn (o g : Int) : Bool := o.toNat.testBit g.toNat
theorem bit_test {o g : Int} (ho : 0 ≤ o) (ho2 : o < 9223372036854775808) (hg : 0 ≤ g) : (Go.bits .and .i64 (shr .i64 o g) 1 == 1) = opn o g := by
  obtain ⟨a, rfl⟩ := Int.eq_ofNat_of_zero_le ho
  obtain ⟨n, rfl⟩ := Int.eq_ofNat_of_zero_le hg
  have ha : a < 2 ^ 63 := by omega
  rw [shr_nat ha]
  have h2 : a >>> n < 2 ^ 63 := Nat.lt_of_le_of_lt (by rw [Nat.shiftRight_eq_div_pow]; exact Nat.div_le_self _ _) ha
  unfold opn
  simp only [Int.toNat_natCast]
  rw [show ((1 : Int)) = ((1 : Nat) : Int) from rfl, bits_and_i h2 (by decide), Nat.testBit, Nat.and_one_is_mod, Nat.one_and_eq_mod_two]
  rcases Nat.mod_two_eq_zero_or_one (a >>> n) with h | h <;> simp [h]
theorem fold_loop {σ ρ : Type} {F : Nat → σ → Int → Option ρ} {n c : Nat} {step : σ → Nat → σ} {fin : σ → ρ} {I : σ → Nat → Prop}
    (hF : ∀ k s (i : Nat), c ≤ k → i < n → I s i → F (k + 1) s (i : Int) = F k (step s i) ((i : Int) + 1)) (hI : ∀ s i, i < n → I s i → I (step s i) (i + 1))
    (hE : ∀ k s, c ≤ k → I s n → F (k + 1) s (n : Int) = some (fin s)) :
    ∀ (d i : Nat) (k : Nat) (s : σ), i + d = n → d + c + 1 ≤ k → I s i → F k s (i : Int) = some (fin ((List.range' i d).foldl step s))
  | 0, i, k, s, hi, hk, h => by
    obtain ⟨m, rfl⟩ : ∃ m, k = m + 1 := ⟨k - 1, by omega⟩
    obtain rfl : i = n := by omega
    simpa using hE m s (by omega) h
  | d + 1, i, k, s, hi, hk, h => by
    obtain ⟨m, rfl⟩ : ∃ m, k = m + 1 := ⟨k - 1, by omega⟩
    rw [hF m s i (by omega) (by omega) h, List.range'_succ, List.foldl_cons]
    have := fold_loop (c := c) (step := step) (fin := fin) hF hI hE d (i + 1) m (step s i) (by omega) (by omega) (hI s i (by omega) h)
    rwa [Int.natCast_add] at this
theorem inv_loop {σ ρ : Type} {F : Nat → σ → Int → Option ρ} {n c : Nat} {fin : σ → ρ} {I : σ → Nat → Prop}
    (hF : ∀ k s (i : Nat), c ≤ k → i < n → I s i → ∃ s', I s' (i + 1) ∧ F (k + 1) s (i : Int) = F k s' ((i : Int) + 1))
    (hE : ∀ k s, c ≤ k → I s n → F (k + 1) s (n : Int) = some (fin s)) :
    ∀ (d i : Nat) (k : Nat) (s : σ), i + d = n → d + c + 1 ≤ k → I s i → ∃ s', I s' n ∧ F k s (i : Int) = some (fin s')
  | 0, i, k, s, hi, hk, h => by
    obtain ⟨m, rfl⟩ : ∃ m, k = m + 1 := ⟨k - 1, by omega⟩
    obtain rfl : i = n := by omega
    exact ⟨s, h, hE m s (by omega) h⟩
  | d + 1, i, k, s, hi, hk, h => by
    obtain ⟨m, rfl⟩ : ∃ m, k = m + 1 := ⟨k - 1, by omega⟩
    obtain ⟨s', h', e⟩ := hF m s i (by omega) (by omega) h
    obtain ⟨s2, h2, e2⟩ := inv_loop (c := c) (fin := fin) hF hE d (i + 1) m s' (by omega) (by omega) h'
    rw [Int.natCast_add] at e2
    exact ⟨s2, h2, e.trans e2⟩
theorem set_loop {α β : Type} (z : α) {F : Nat → List β → Int → Option (List β)} {l : List α} {g : α → β} {c : Nat}
    (hF : ∀ k acc (i : Nat), c ≤ k → i < l.length → acc.length = l.length → F (k + 1) acc (i : Int) = F k (acc.set i (g (l.getD i z))) ((i : Int) + 1)) (hE : ∀ k acc, c ≤ k → F (k + 1) acc (l.length : Int) = some acc) {k : Nat} (acc : List β) (ha : acc.length = l.length) (hk : l.length + c + 1 ≤ k) :
    F k acc 0 = some (l.map g) := by
  have key : ∀ (d i : Nat) (k : Nat) (acc : List β), i + d = l.length → d + c + 1 ≤ k → acc.length = l.length → F k acc (i : Int) = some (acc.take i ++ (l.drop i).map g) := by
    intro d
    induction d with
    | zero =>
      intro i k acc hi hk ha
      obtain ⟨m, rfl⟩ : ∃ m, k = m + 1 := ⟨k - 1, by omega⟩
      obtain rfl : i = l.length := by omega
      rw [hE m acc (by omega), List.take_of_length_le (by omega), List.drop_of_length_le (by omega)]
      simp
    | succ d ih =>
      intro i k acc hi hk ha
      obtain ⟨m, rfl⟩ : ∃ m, k = m + 1 := ⟨k - 1, by omega⟩
      have hil : i < l.length := by omega
      rw [hF m acc i (by omega) hil ha]
      have := ih (i + 1) m (acc.set i (g (l.getD i z))) (by omega) (by omega) (by simpa using ha)
      rw [Int.natCast_add] at this
      refine this.trans ?_
      congr 1
      rw [List.take_add_one, List.getElem?_set]
      simp [ha, hil, List.getD_eq_getElem?_getD, List.getElem?_eq_getElem hil]
      have e1 : List.drop i (List.map g l) = g l[i] :: List.drop (i + 1) (List.map g l) := by
        rw [List.drop_eq_getElem_cons (l := List.map g l) (i := i) (by simpa using hil)]
        simp
      rw [e1, List.take_set_of_le (Nat.le_refl _)]
  have := key l.length 0 k acc (by omega) (by omega) ha
  simpa using this
theorem all_loop {α : Type} (z : α) {F : Nat → Int → Option Bool} {l : List α} {p : α → Bool} {c : Nat} {b : Bool}
    (hF : ∀ k (i : Nat), c ≤ k → i < l.length → F (k + 1) (i : Int) = if p (l.getD i z) = true then F k ((i : Int) + 1) else some false) (hE : ∀ k, c ≤ k → F (k + 1) (l.length : Int) = some b) {k : Nat} (hk : l.length + c + 1 ≤ k) :
    F k 0 = some (l.all p && b) := by
  have key : ∀ (d i : Nat) (k : Nat), i + d = l.length → d + c + 1 ≤ k → F k (i : Int) = some ((l.drop i).all p && b) := by
    intro d
    induction d with
    | zero =>
      intro i k hi hk
      obtain ⟨m, rfl⟩ : ∃ m, k = m + 1 := ⟨k - 1, by omega⟩
      obtain rfl : i = l.length := by omega
      rw [hE m (by omega), List.drop_of_length_le (by omega)]
      simp
    | succ d ih =>
      intro i k hi hk
      obtain ⟨m, rfl⟩ : ∃ m, k = m + 1 := ⟨k - 1, by omega⟩
      have hil : i < l.length := by omega
      rw [hF m i (by omega) hil, List.drop_eq_getElem_cons hil, List.all_cons]
      have e : l.getD i z = l[i] := by rw [List.getD_eq_getElem?_getD, List.getElem?_eq_getElem hil]; rfl
      rw [e]
      have := ih (i + 1) m (by omega) (by omega)
      rw [Int.natCast_add] at this
      by_cases h : p l[i] = true
      · rw [if_pos h, h]
        simpa using this
      · rw [if_neg h]
        simp at h
        simp [h]
  have := key l.length 0 k (by omega) (by omega)
  simpa using this
theorem w64_succ {i n : Nat} (h : i < n) (hn : n ≤ 9223372036854775807) : wrap64 ((i : Int) + 1) = (i : Int) + 1 := w64 (by omega) (by omega)
end Go.Proofs.Ytimejdhglmajdaa.F
end

section
namespace Go.Proofs.Ytimejdhglmajdaa.F
open Go.RowKit Go.Proofs.YtimejdhglmajdaaW.PrintWords Go.Proofs.YtimejdhglmajdaaW.PrintLast Go.Proofs.YtimejdhglmajdaaW.PrintMore
set_option linter.unusedVariables false
set_option linter.unusedSimpArgs false
def gok (w h : Int) : Bool := decide (1 ≤ w ∧ w ≤ 4 ∧ 1 ≤ h ∧ h ≤ 4)
theorem gok_iff {w h : Int} : gok w h = true ↔ 1 ≤ w ∧ w ≤ 4 ∧ 1 ≤ h ∧ h ≤ 4 := by simp [gok]
theorem gok_wide {w h : Int} (H : gok w h = true) : w = 1 ∨ w = 2 ∨ w = 3 ∨ w = 4 := by rw [gok_iff] at H; omega
theorem gok_high {w h : Int} (H : gok w h = true) : h = 1 ∨ h = 2 ∨ h = 3 ∨ h = 4 := by rw [gok_iff] at H; omega
def cells (w h : Int) : Int := if gok w h then w * h else 0
def gaps (w h : Int) : Int := if gok w h then (w - 1) * h + w * (h - 1) else 0
theorem cells_bd (w h : Int) : 0 ≤ cells w h ∧ cells w h ≤ 16 := by
  unfold cells
  by_cases H : gok w h = true
  · rw [if_pos H]
    rcases gok_wide H with rfl | rfl | rfl | rfl <;> rcases gok_high H with rfl | rfl | rfl | rfl <;> omega
  · rw [if_neg H]; omega
theorem gaps_bd (w h : Int) : 0 ≤ gaps w h ∧ gaps w h ≤ 24 := by
  unfold gaps
  by_cases H : gok w h = true
  · rw [if_pos H]
    rcases gok_wide H with rfl | rfl | rfl | rfl <;> rcases gok_high H with rfl | rfl | rfl | rfl <;> omega
  · rw [if_neg H]; omega
theorem impl_GridOk_eq (w h : Int) : impl_GridOk.f w h = some (gok w h) := by
  unfold impl_GridOk.f gok
  by_cases h1 : w ≥ 1 <;> by_cases h2 : w ≤ 4 <;> by_cases h3 : h ≥ 1 <;> simp [*] <;> omega
theorem spec_l01In_eq (x a b : Int) : spec_l01In.f x a b = some (decide (a ≤ x ∧ x ≤ b)) := by
  unfold spec_l01In.f
  by_cases h1 : x ≥ a
  · simp [h1]
  · rw [if_neg h1]; simp; omega
theorem spec_GridOk_eq (w h : Int) : spec_GridOk.f w h = some (gok w h) := by
  unfold spec_GridOk.f
  simp only [spec_l01In_eq, Option.bind_some]
  unfold gok
  by_cases h1 : 1 ≤ w ∧ w ≤ 4
  · simp [h1]
  · rw [if_neg (by simpa using h1)]; simp; omega
theorem gok_mul {w h : Int} (H : gok w h = true) : 1 ≤ w * h ∧ w * h ≤ 16 ∧ 0 ≤ (w - 1) * h ∧ (w - 1) * h ≤ 12 ∧ 0 ≤ w * (h - 1) ∧ w * (h - 1) ≤ 12 := by
  rcases gok_wide H with rfl | rfl | rfl | rfl <;> rcases gok_high H with rfl | rfl | rfl | rfl <;> omega
theorem impl_CountCells_eq (w h : Int) : impl_CountCells.f w h = some (cells w h) := by
  unfold impl_CountCells.f cells
  rw [impl_GridOk_eq, Option.bind_some]
  by_cases H : gok w h = true
  · have := gok_mul H
    rw [if_pos H, if_pos H, w64 (by omega) (by omega)]
  · rw [if_neg H, if_neg H]
theorem spec_CountCells_eq (w h : Int) : spec_CountCells.f w h = some (cells w h) := by
  unfold spec_CountCells.f cells
  rw [spec_GridOk_eq, Option.bind_some]
  by_cases H : gok w h = true
  · have := gok_mul H
    rw [if_pos H, if_pos H, w64 (by omega) (by omega)]
  · rw [if_neg H, if_neg H]
theorem impl_CountGaps_eq (w h : Int) : impl_CountGaps.f w h = some (gaps w h) := by
  unfold impl_CountGaps.f gaps
  rw [impl_GridOk_eq, Option.bind_some]
  by_cases H : gok w h = true
  · have := gok_mul H
    have b := gok_iff.1 H
    rw [if_pos H, if_pos H, w64 (x := w - 1) (by omega) (by omega), w64 (x := h - 1) (by omega) (by omega), w64 (x := (w - 1) * h) (by omega) (by omega), w64 (x := w * (h - 1)) (by omega) (by omega), w64 (by omega) (by omega)]
  · rw [if_neg H, if_neg H]
theorem spec_CountGaps_eq (w h : Int) : spec_CountGaps.f w h = some (gaps w h) := by
  unfold spec_CountGaps.f spec_l02East.f gaps
  rw [spec_GridOk_eq, Option.bind_some]
  by_cases H : gok w h = true
  · have := gok_mul H
    have b := gok_iff.1 H
    rw [if_pos H, if_pos H, Option.bind_some, w64 (x := w - 1) (by omega) (by omega), w64 (x := h - 1) (by omega) (by omega), Int.mul_comm h (w - 1), w64 (x := (w - 1) * h) (by omega) (by omega), w64 (x := w * (h - 1)) (by omega) (by omega), w64 (by omega) (by omega)]
  · rw [if_neg H, if_neg H]
def icell (w h c : Int) : Bool := decide (0 ≤ c ∧ c < cells w h)
def igap (w h g : Int) : Bool := decide (0 ≤ g ∧ g < gaps w h)
theorem icell_iff {w h c : Int} : icell w h c = true ↔ 0 ≤ c ∧ c < cells w h := by simp [icell]
theorem igap_iff {w h c : Int} : igap w h c = true ↔ 0 ≤ c ∧ c < gaps w h := by simp [igap]
theorem impl_isCell_eq (w h c : Int) : impl_isCell.f w h c = some (icell w h c) := by
  unfold impl_isCell.f icell
  rw [impl_CountCells_eq]
  by_cases h1 : c ≥ 0
  · rw [if_pos h1]; simp [h1]
  · rw [if_neg h1]; simp; omega
theorem in_cells (w h c : Int) : decide (0 ≤ c ∧ c ≤ wrap64 (cells w h - 1)) = icell w h c := by
  have := cells_bd w h
  rw [w64 (by omega) (by omega)]
  unfold icell
  rw [Bool.eq_iff_iff]; simp; omega
theorem in_gaps (w h c : Int) : decide (0 ≤ c ∧ c ≤ wrap64 (gaps w h - 1)) = igap w h c := by
  have := gaps_bd w h
  rw [w64 (by omega) (by omega)]
  unfold igap
  rw [Bool.eq_iff_iff]; simp; omega
theorem icell_gok {w h c : Int} (H : icell w h c = true) : gok w h = true := by
  rw [icell_iff] at H
  unfold cells at H
  by_cases G : gok w h = true
  · exact G
  · rw [if_neg G] at H; omega
theorem icell_mul {w h c : Int} (H : icell w h c = true) : 0 ≤ c ∧ c < w * h := by
  have G := icell_gok H
  rw [icell_iff] at H
  unfold cells at H
  rwa [if_pos G] at H
def nb (w h c d : Int) : Int :=
  if icell w h c then
    (if d = 0 then (if c / w > 0 then c - w else -1) else if d = 1 then (if c % w < w - 1 then c + 1 else -1) else if d = 2 then (if c / w < h - 1 then c + w else -1) else if d = 3 then (if c % w > 0 then c - 1 else -1) else -1)
  else -1
theorem div_facts {w h c : Int} (G : gok w h = true) (H : 0 ≤ c ∧ c < w * h) : Int.tdiv c w = c / w ∧ Int.tmod c w = c % w ∧ wrap64 (c / w) = c / w ∧ 0 ≤ c / w ∧ c / w < h ∧ 0 ≤ c % w ∧ c % w < w ∧ w * (c / w) + c % w = c := by
  have b := gok_iff.1 G
  have e1 : Int.tdiv c w = c / w := Int.tdiv_eq_ediv_of_nonneg H.1
  have e2 : Int.tmod c w = c % w := Int.tmod_eq_emod_of_nonneg H.1
  have e3 : 0 ≤ c / w := Int.ediv_nonneg H.1 (by omega)
  have e4 : c / w < h := by
    apply Int.ediv_lt_of_lt_mul (by omega)
    rw [Int.mul_comm]; exact H.2
  exact ⟨e1, e2, w64 (by omega) (by omega), e3, e4, Int.emod_nonneg _ (by omega), Int.emod_lt_of_pos _ (by omega), Int.mul_ediv_add_emod c w⟩
theorem impl_Neighbor_eq {k : Nat} (hk : 3 ≤ k) (w h c d : Int) : impl_Neighbor.f k w h c d = some (nb w h c d) := by
  obtain ⟨m, rfl⟩ : ∃ m, k = m + 3 := ⟨k - 3, by omega⟩
  unfold impl_Neighbor.f nb
  rw [impl_isCell_eq, Option.bind_some]
  by_cases H : icell w h c = true
  · have G := icell_gok H
    have b := gok_iff.1 G
    have hc := icell_mul H
    have hm := gok_mul G
    obtain ⟨e1, e2, e3, y0, y1, x0, x1, hq⟩ := div_facts G hc
    rw [if_pos H, if_pos H, if_neg (by omega), e1, e2, e3]
    simp only [impl_Neighbor.j0, impl_Neighbor.j1, impl_Neighbor.j2]
    rw [w64 (x := w - 1) (by omega) (by omega), w64 (x := h - 1) (by omega) (by omega)]
    by_cases d0 : d = 0
    · subst d0
      by_cases t : c / w > 0 <;> simp [t, w64 (x := c - w) (by omega) (by omega)]
    by_cases d1 : d = 1
    · subst d1
      by_cases t : c % w < w - 1 <;> simp [t, w64 (x := c + 1) (by omega) (by omega)]
    by_cases d2 : d = 2
    · subst d2
      by_cases t : c / w < h - 1 <;> simp [t, w64 (x := c + w) (by omega) (by omega)]
    by_cases d3 : d = 3
    · subst d3
      by_cases t : c % w > 0 <;> simp [t, w64 (x := c - 1) (by omega) (by omega)]
    simp [d0, d1, d2, d3]
  · rw [if_neg H, if_neg H]
theorem spec_j0_eq {w h : Int} (G : gok w h = true) (m : Nat) {x y : Int} : spec_Neighbor.j0 (m + 1) x y w h = some (if 0 ≤ x ∧ x ≤ w - 1 ∧ 0 ≤ y ∧ y ≤ h - 1 then y * w + x else -1) := by
  have b := gok_iff.1 G
  simp only [spec_Neighbor.j0, spec_l01In_eq, Option.bind_some, decide_eq_true_eq]
  rw [w64 (x := w - 1) (by omega) (by omega), w64 (x := h - 1) (by omega) (by omega)]
  by_cases h1 : 0 ≤ x ∧ x ≤ w - 1
  · rw [if_pos h1]
    by_cases h2 : 0 ≤ y ∧ y ≤ h - 1
    · have l1 : y * w ≤ 3 * 4 := Int.mul_le_mul (by omega) (by omega) (by omega) (by omega)
      have l0 : 0 ≤ y * w := Int.mul_nonneg (by omega) (by omega)
      rw [if_pos h2, if_pos ⟨h1.1, h1.2, h2.1, h2.2⟩, w64 (x := y * w) (by omega) (by omega), w64 (by omega) (by omega)]
    · rw [if_neg h2, if_neg (fun h => h2 ⟨h.2.2.1, h.2.2.2⟩)]
  · rw [if_neg h1, if_neg (fun h => h1 ⟨h.1, h.2.1⟩)]
theorem spec_Neighbor_eq {k : Nat} (hk : 1 ≤ k) (w h c d : Int) : spec_Neighbor.f k w h c d = some (nb w h c d) := by
  obtain ⟨m, rfl⟩ : ∃ m, k = m + 1 := ⟨k - 1, by omega⟩
  unfold spec_Neighbor.f nb
  rw [spec_CountCells_eq, Option.bind_some, spec_l01In_eq, Option.bind_some, in_cells]
  by_cases H : icell w h c = true
  · have G := icell_gok H
    have b := gok_iff.1 G
    have hc := icell_mul H
    have hm := gok_mul G
    obtain ⟨e1, e2, e3, y0, y1, x0, x1, hq⟩ := div_facts G hc
    rw [if_pos H, if_pos H, if_neg (by omega), e1, e2, e3, w64 (x := c / w - 1) (by omega) (by omega), w64 (x := c / w + 1) (by omega) (by omega), w64 (x := c % w - 1) (by omega) (by omega), w64 (x := c % w + 1) (by omega) (by omega)]
    simp only [spec_j0_eq G]
    have p1 : (c / w - 1) * w = w * (c / w) - w := by rw [Int.sub_mul, Int.one_mul, Int.mul_comm]
    have p2 : (c / w + 1) * w = w * (c / w) + w := by rw [Int.add_mul, Int.one_mul, Int.mul_comm]
    have p3 : (c / w) * w = w * (c / w) := Int.mul_comm _ _
    rw [p1, p2, p3]
    by_cases d0 : d = 0
    · rw [if_pos d0, if_pos d0]
      by_cases t : c / w > 0
      · rw [if_pos (by omega), if_pos t]; congr 1; omega
      · rw [if_neg (by omega), if_neg t]
    rw [if_neg d0, if_neg d0]
    by_cases d1 : d = 1
    · rw [if_pos d1, if_pos d1]
      by_cases t : c % w < w - 1
      · rw [if_pos (by omega), if_pos t]; congr 1; omega
      · rw [if_neg (by omega), if_neg t]
    rw [if_neg d1, if_neg d1]
    by_cases d2 : d = 2
    · rw [if_pos d2, if_pos d2]
      by_cases t : c / w < h - 1
      · rw [if_pos (by omega), if_pos t]; congr 1; omega
      · rw [if_neg (by omega), if_neg t]
    rw [if_neg d2, if_neg d2]
    by_cases d3 : d = 3
    · rw [if_pos d3, if_pos d3]
      by_cases t : c % w > 0
      · rw [if_pos (by omega), if_pos t]; congr 1; omega
      · rw [if_neg (by omega), if_neg t]
    rw [if_neg d3, if_neg d3]
  · rw [if_neg H, if_neg H]
end Go.Proofs.Ytimejdhglmajdaa.F
end

section
namespace Go.Proofs.Ytimejdhglmajdaa.F
open Go.RowKit Go.Proofs.YtimejdhglmajdaaW.PrintWords Go.Proofs.YtimejdhglmajdaaW.PrintLast Go.Proofs.YtimejdhglmajdaaW.PrintMore
set_option linter.unusedVariables false
set_option linter.unusedSimpArgs false
theorem mn_min (a b : Int) : mn a b = min a b := by unfold mn; omega
theorem nb_facts {w h c d : Int} (H : 0 ≤ nb w h c d) : icell w h c = true ∧ icell w h (nb w h c d) = true ∧ 0 ≤ d ∧ d ≤ 3 := by
  unfold nb at H ⊢
  by_cases hc : icell w h c = true
  · have G := icell_gok hc
    have b := gok_iff.1 G
    have hm := icell_mul hc
    obtain ⟨_, _, _, y0, y1, x0, x1, hq⟩ := div_facts G hm
    rw [if_pos hc] at H ⊢
    have m1 : w * (c / w) ≤ w * (h - 1) := Int.mul_le_mul_of_nonneg_left (by omega) (by omega)
    have m2 : w * (h - 1) = w * h - w := by rw [Int.mul_sub, Int.mul_one]
    have ce : cells w h = w * h := by unfold cells; rw [if_pos G]
    refine ⟨hc, ?_, ?_⟩
    · rw [icell_iff, ce]
      by_cases d0 : d = 0
      · subst d0
        by_cases t : c / w > 0
        · have m3 : w * 1 ≤ w * (c / w) := Int.mul_le_mul_of_nonneg_left (by omega) (by omega)
          simp [t]; omega
        · simp [t] at H
      by_cases d1 : d = 1
      · subst d1
        by_cases t : c % w < w - 1
        · simp [t]; omega
        · simp [t] at H
      by_cases d2 : d = 2
      · subst d2
        by_cases t : c / w < h - 1
        · have m4 : w * (c / w + 1) ≤ w * (h - 1) := Int.mul_le_mul_of_nonneg_left (by omega) (by omega)
          rw [Int.mul_add, Int.mul_one] at m4
          simp [t]; omega
        · simp [t] at H
      by_cases d3 : d = 3
      · subst d3
        by_cases t : c % w > 0
        · simp [t]; omega
        · simp [t] at H
      simp [d0, d1, d2, d3] at H
    · by_cases d0 : d = 0
      · omega
      by_cases d1 : d = 1
      · omega
      by_cases d2 : d = 2
      · omega
      by_cases d3 : d = 3
      · omega
      simp [d0, d1, d2, d3] at H
  · rw [if_neg hc] at H; omega
def gp (w h c d : Int) : Int :=
  if nb w h c d < 0 then -1 else if d = 1 ∨ d = 3 then min c (nb w h c d) / w * (w - 1) + min c (nb w h c d) % w else (w - 1) * h + min c (nb w h c d)
theorem gp_neg {w h c d : Int} (H : nb w h c d < 0) : gp w h c d = -1 := by unfold gp; rw [if_pos H]
theorem min_facts {w h c d : Int} (H : 0 ≤ nb w h c d) : 0 ≤ min c (nb w h c d) ∧ min c (nb w h c d) < w * h ∧ gok w h = true := by
  obtain ⟨h1, h2, _, _⟩ := nb_facts H
  have a := icell_mul h1
  have b := icell_mul h2
  exact ⟨by omega, by omega, icell_gok h1⟩
theorem impl_GapAt_eq {k : Nat} (hk : 3 ≤ k) (w h c d : Int) : impl_GapAt.f k w h c d = some (gp w h c d) := by
  unfold impl_GapAt.f gp
  rw [impl_Neighbor_eq hk, Option.bind_some]
  by_cases H : nb w h c d < 0
  · rw [if_pos H, if_pos H]
  · have H' : 0 ≤ nb w h c d := by omega
    obtain ⟨m0, m1, G⟩ := min_facts H'
    have b := gok_iff.1 G
    have hm := gok_mul G
    rw [if_neg H, if_neg H, mn_min]
    obtain ⟨e1, e2, e3, y0, y1, x0, x1, hq⟩ := div_facts G ⟨m0, m1⟩
    have l1 : min c (nb w h c d) / w * (w - 1) ≤ 3 * 3 := Int.mul_le_mul (by omega) (by omega) (by omega) (by omega)
    have l0 : 0 ≤ min c (nb w h c d) / w * (w - 1) := Int.mul_nonneg y0 (by omega)
    have t1 : wrap64 (wrap64 (wrap64 (Int.tdiv (min c (nb w h c d)) w) * wrap64 (w - 1)) + Int.tmod (min c (nb w h c d)) w) = min c (nb w h c d) / w * (w - 1) + min c (nb w h c d) % w := by
      rw [e1, e2, e3, w64 (x := w - 1) (by omega) (by omega), w64 (x := _ * _) (by omega) (by omega), w64 (by omega) (by omega)]
    have t2 : wrap64 (wrap64 (wrap64 (w - 1) * h) + min c (nb w h c d)) = (w - 1) * h + min c (nb w h c d) := by
      rw [w64 (x := w - 1) (by omega) (by omega), w64 (x := (w - 1) * h) (by omega) (by omega), w64 (by omega) (by omega)]
    rw [t1, t2]
    by_cases d1 : d = 1
    · simp [d1]; omega
    · by_cases d3 : d = 3
      · simp [d3]; omega
      · simp [d1, d3]
theorem spec_GapAt_eq {k : Nat} (hk : 1 ≤ k) (w h c d : Int) : spec_GapAt.f k w h c d = some (gp w h c d) := by
  unfold spec_GapAt.f gp
  rw [spec_Neighbor_eq hk, Option.bind_some]
  by_cases H : nb w h c d < 0
  · rw [if_pos H, if_pos H]
  · have H' : 0 ≤ nb w h c d := by omega
    obtain ⟨m0, m1, G⟩ := min_facts H'
    have b := gok_iff.1 G
    have hm := gok_mul G
    rw [if_neg H, if_neg H, mn_min]
    obtain ⟨e1, e2, e3, y0, y1, x0, x1, hq⟩ := div_facts G ⟨m0, m1⟩
    have l1 : min c (nb w h c d) / w * (w - 1) ≤ 3 * 3 := Int.mul_le_mul (by omega) (by omega) (by omega) (by omega)
    have l0 : 0 ≤ min c (nb w h c d) / w * (w - 1) := Int.mul_nonneg y0 (by omega)
    have t1 : wrap64 (wrap64 (wrap64 (Int.tdiv (min c (nb w h c d)) w) * wrap64 (w - 1)) + Int.tmod (min c (nb w h c d)) w) = min c (nb w h c d) / w * (w - 1) + min c (nb w h c d) % w := by
      rw [e1, e2, e3, w64 (x := w - 1) (by omega) (by omega), w64 (x := _ * _) (by omega) (by omega), w64 (by omega) (by omega)]
    have t2 : wrap64 (wrap64 (h * wrap64 (w - 1)) + min c (nb w h c d)) = (w - 1) * h + min c (nb w h c d) := by
      rw [w64 (x := w - 1) (by omega) (by omega), Int.mul_comm h, w64 (x := (w - 1) * h) (by omega) (by omega), w64 (by omega) (by omega)]
    simp only [spec_l02East.f, Option.bind_some]
    rw [t1, t2]
    by_cases d1 : d = 1
    · simp [d1]; omega
    · by_cases d3 : d = 3
      · simp [d3]; omega
      · simp [d1, d3]
def mok (w h o : Int) : Bool := gok w h && decide (0 ≤ o ∧ o < 2 ^ (gaps w h).toNat)
theorem mok_iff {w h o : Int} : mok w h o = true ↔ gok w h = true ∧ 0 ≤ o ∧ o < 2 ^ (gaps w h).toNat := by simp [mok]
theorem gpow (w h : Int) : (2 : Int) ^ (gaps w h).toNat ≤ 16777216 ∧ (1 : Int) ≤ 2 ^ (gaps w h).toNat := by
  have b := gaps_bd w h
  have p : (2 : Nat) ^ (gaps w h).toNat ≤ 2 ^ 24 := Nat.pow_le_pow_right (by decide) (by omega)
  have q : 0 < (2 : Nat) ^ (gaps w h).toNat := Nat.two_pow_pos _
  have e : ((2 : Int) ^ (gaps w h).toNat) = ((2 ^ (gaps w h).toNat : Nat) : Int) := by simp
  omega
theorem mok_small {w h o : Int} (H : mok w h o = true) : 0 ≤ o ∧ o < 16777216 := by
  have := mok_iff.1 H
  have := gpow w h
  omega
theorem shl_gaps (w h : Int) : shl .i64 1 (gaps w h) = 2 ^ (gaps w h).toNat := by
  have b := gaps_bd w h
  have := shl_one (g := (gaps w h).toNat) (by omega)
  rw [show (((gaps w h).toNat : Nat) : Int) = gaps w h from Int.toNat_of_nonneg b.1] at this
  rw [this]
  simp
theorem impl_MazeOk_eq (w h o : Int) : impl_MazeOk.f w h o = some (mok w h o) := by
  unfold impl_MazeOk.f mok
  have b := gaps_bd w h
  rw [impl_GridOk_eq, impl_CountGaps_eq]
  simp only [Option.bind_some, shl_gaps]
  by_cases G : gok w h = true
  · simp only [G, if_true, Bool.true_and]
    by_cases h0 : o ≥ 0
    · rw [if_pos h0, if_pos b.1]
      simp; omega
    · rw [if_neg h0]; simp; omega
  · simp [G]
theorem spec_MazeOk_eq (w h o : Int) : spec_MazeOk.f w h o = some (mok w h o) := by
  unfold spec_MazeOk.f mok
  have b := gaps_bd w h
  have p := gpow w h
  rw [spec_GridOk_eq, spec_CountGaps_eq]
  simp only [Option.bind_some, shl_gaps, w64 (x := (2 : Int) ^ (gaps w h).toNat - 1) (by omega) (by omega)]
  by_cases G : gok w h = true
  · simp only [Option.bind_some, G, if_true, Bool.true_and, spec_l01In_eq, if_pos b.1]
    congr 2
    exact propext ⟨fun h => ⟨h.1, by omega⟩, fun h => ⟨h.1, by omega⟩⟩
  · simp [G]
theorem impl_isOpen_eq {w h o : Int} (h0 : 0 ≤ o) (h1 : o < 9223372036854775808) (g : Int) : impl_isOpen.f w h o g = some (decide (0 ≤ g) && opn o g) := by
  unfold impl_isOpen.f
  by_cases hg : g ≥ 0
  · rw [if_pos hg, if_pos (by omega), bit_test h0 h1 (by omega)]
    simp; omega
  · rw [if_neg hg]
    simp; omega
theorem spec_l03Bit_eq {o : Int} (h0 : 0 ≤ o) (h1 : o < 9223372036854775808) {g : Int} (hg : 0 ≤ g) : spec_l03Bit.f o g = some (opn o g) := by
  unfold spec_l03Bit.f
  rw [if_pos hg, bit_test h0 h1 hg]
def psg (w h o g : Int) : Bool := mok w h o && igap w h g && opn o g
theorem spec_IsPassage_eq (w h o g : Int) : spec_IsPassage.f w h o g = some (psg w h o g) := by
  unfold spec_IsPassage.f psg
  rw [spec_MazeOk_eq, spec_CountGaps_eq]
  by_cases M : mok w h o = true
  · have s := mok_small M
    simp only [Option.bind_some, M, if_true, Bool.true_and, spec_l01In_eq, in_gaps]
    by_cases g1 : igap w h g = true
    · rw [if_pos g1, spec_l03Bit_eq s.1 (by omega) (igap_iff.1 g1).1]
      simp [g1]
    · rw [if_neg g1]; simp [g1]
  · simp [M]
theorem gp_range {w h c d : Int} (H : 0 ≤ nb w h c d) : igap w h (gp w h c d) = true := by
  obtain ⟨h1, h2, d0, d3⟩ := nb_facts H
  have G := icell_gok h1
  have a := icell_mul h1
  rw [igap_iff]
  unfold gp gaps
  rw [if_neg (by omega), if_pos G]
  have hd : d = 0 ∨ d = 1 ∨ d = 2 ∨ d = 3 := by omega
  revert H
  unfold nb
  rw [if_pos h1]
  rcases gok_wide G with rfl | rfl | rfl | rfl <;> rcases gok_high G with rfl | rfl | rfl | rfl <;> rcases hd with rfl | rfl | rfl | rfl <;> simp <;> split <;> omega
def st (w h o c d : Int) : Int := if psg w h o (gp w h c d) then nb w h c d else -1
theorem st_nb {w h o c d : Int} (H : 0 ≤ st w h o c d) : st w h o c d = nb w h c d ∧ psg w h o (gp w h c d) = true := by
  unfold st at H ⊢
  by_cases p : psg w h o (gp w h c d) = true
  · rw [if_pos p]; exact ⟨rfl, p⟩
  · rw [if_neg p] at H; omega
theorem impl_Step_eq {k : Nat} (hk : 3 ≤ k) (w h o c d : Int) : impl_Step.f k w h o c d = some (st w h o c d) := by
  unfold impl_Step.f st psg
  rw [impl_MazeOk_eq]
  by_cases M : mok w h o = true
  · have s := mok_small M
    simp only [Option.bind_some, M, if_true, Bool.true_and, impl_GapAt_eq hk, impl_isOpen_eq s.1 (show o < 9223372036854775808 by omega), impl_Neighbor_eq hk]
    by_cases H : 0 ≤ nb w h c d
    · have r := gp_range H
      have := (igap_iff.1 r).1
      simp [r, this]
      split <;> rfl
    · rw [gp_neg (by omega)]
      simp [igap]
  · simp [M]
theorem spec_Step_eq {k : Nat} (hk : 1 ≤ k) (w h o c d : Int) : spec_Step.f k w h o c d = some (st w h o c d) := by
  unfold spec_Step.f st
  rw [spec_MazeOk_eq]
  by_cases M : mok w h o = true
  · simp only [Option.bind_some, M, if_true, spec_GapAt_eq hk, spec_IsPassage_eq, spec_Neighbor_eq hk]
    split <;> rfl
  · simp [M, psg]
theorem st_facts {w h o c d : Int} (H : 0 ≤ st w h o c d) : mok w h o = true ∧ icell w h c = true ∧ icell w h (st w h o c d) = true ∧ 0 ≤ d ∧ d ≤ 3 := by
  obtain ⟨e, p⟩ := st_nb H
  rw [e] at H ⊢
  obtain ⟨h1, h2, h3, h4⟩ := nb_facts H
  unfold psg at p
  simp at p
  exact ⟨p.1.1, h1, h2, h3, h4⟩
end Go.Proofs.Ytimejdhglmajdaa.F
end

section
namespace Go.Proofs.Ytimejdhglmajdaa.F
open Go.RowKit Go.Proofs.YtimejdhglmajdaaW.PrintWords Go.Proofs.YtimejdhglmajdaaW.PrintLast Go.Proofs.YtimejdhglmajdaaW.PrintMore
set_option linter.unusedVariables false
set_option linter.unusedSimpArgs false
theorem impl_isIn_eq (w h o : Int) (l : List Int) : impl_isIn.f w h o l = some (mok w h o && l.all (icell w h)) := by
  unfold impl_isIn.f
  rw [impl_MazeOk_eq, Option.bind_some, allO_of (p := icell w h) (fun x _ => impl_isCell_eq w h x)]
  cases mok w h o <;> simp
theorem spec_l04Has_eq (w h o c : Int) : spec_l04Has.f w h o c = some (mok w h o && icell w h c) := by
  unfold spec_l04Has.f
  rw [spec_MazeOk_eq, spec_CountCells_eq]
  simp only [Option.bind_some, spec_l01In_eq, in_cells]
  cases mok w h o <;> simp
end Go.Proofs.Ytimejdhglmajdaa.F
end

section
namespace Go.Proofs.Ytimejdhglmajdaa.F
open Go.RowKit Go.Proofs.YtimejdhglmajdaaW.PrintWords Go.Proofs.YtimejdhglmajdaaW.PrintLast Go.Proofs.YtimejdhglmajdaaW.PrintMore
set_option linter.unusedVariables false
set_option linter.unusedSimpArgs false
theorem bfs_next {nx : Int → Int → Int} {N : Nat} {a : Int} (S : Steps nx N) {i : Nat} {D Q D' Q' : List Int} (B : BfsAt nx N a i D Q) (hi : i < Q.length) (e : bfsD nx (rd Q i) [0, 1, 2, 3] (D, Q) = (D', Q')) : BfsAt nx N a (i + 1) D' Q' := by
  obtain ⟨r1, r2, r3, r4, r5⟩ := bfs_dirs S _ D Q B hi D' Q' e
  refine ⟨r1.toBfs, fun h x hx => ?_, fun j hj hjl d hd => ?_⟩
  · have h1 := r1.near r2 x hx
    have h2 := r1.mono i (i + 1) (by omega) h
    omega
  · by_cases hj' : j = i
    · subst hj'
      rw [r3] at hd ⊢
      have hr := S.rng _ _ hd
      exact r5 d (by have : d = 0 ∨ d = 1 ∨ d = 2 ∨ d = 3 := by omega
                     rcases this with rfl | rfl | rfl | rfl <;> simp) hd
    · exact r1.done j (by omega) hjl d hd
theorem bfs_init {nx : Int → Int → Int} {N : Nat} {a : Int} (h0 : 0 ≤ a) (h1 : a < N) : BfsAt nx N a 0 ((List.replicate N (-1)).set a.toNat 0) [a] := by
  have hrep : ∀ x : Int, 0 ≤ x → x < N → rd (List.replicate N (-1)) x = -1 := fun x x0 x1 => by
    obtain ⟨h, e⟩ := rd_lt (D := List.replicate N (-1 : Int)) x0 (by simpa using x1)
    rw [e, List.getElem_replicate]
  have hset : ∀ x : Int, 0 ≤ x → x < N → rd ((List.replicate N (-1)).set a.toNat 0) x = if x = a then 0 else -1 := fun x x0 x1 => by
    rw [rd_set h0 x0 (by simpa using h1)]
    split
    · rfl
    · exact hrep x x0 x1
  refine ⟨⟨by simp, ?_, ?_, ?_, ?_, ?_⟩, ?_, ?_⟩
  · have := countP_lt_set (D := List.replicate N (-1 : Int)) (i := a) (v := 0) h0 (by simpa using h1) (by rw [hrep a h0 h1]; decide) (by decide)
    rw [List.countP_replicate] at this
    simpa using this
  · intro x hx
    rw [List.mem_singleton.1 hx, hset a h0 h1, if_pos rfl]
    exact ⟨h0, h1, by decide, Walk.nil⟩
  · intro x x0 x1 hx
    rw [hset x x0 x1, if_neg (by simpa using hx)]
  · exact ⟨by rw [hset a h0 h1, if_pos rfl], by simp⟩
  · intro j k hjk hk
    have : j = 0 := by simp at hk; omega
    have : k = 0 := by simp at hk; omega
    subst_vars
    exact Int.le_refl _
  · intro _ x hx
    rw [List.mem_singleton.1 hx]
    simp [rd]
    omega
  · intro j hj; omega
def bfs1 (nx : Int → Int → Int) (c d : Int) (s : List Int × List Int) : List Int × List Int :=
  if 0 ≤ nx c d ∧ rd s.1 (nx c d) < 0 then (s.1.set (nx c d).toNat (rd s.1 c + 1), s.2 ++ [nx c d]) else s
theorem bfsD_cons (nx : Int → Int → Int) (c d : Int) (ds : List Int) (s : List Int × List Int) : bfsD nx c (d :: ds) s = bfsD nx c ds (bfs1 nx c d s) := by
  unfold bfs1; rw [bfsD]; split <;> rfl
theorem bfsD_filter (nx : Int → Int → Int) (c : Int) : ∀ (ds : List Int) (s : List Int × List Int), bfsD nx c (ds.filter fun d => decide (0 ≤ nx c d)) s = bfsD nx c ds s
  | [], s => rfl
  | d :: ds, s => by
    by_cases h : 0 ≤ nx c d
    · rw [List.filter_cons_of_pos (by simpa using h), bfsD_cons, bfsD_cons, bfsD_filter nx c ds]
    · rw [List.filter_cons_of_neg (by simpa using h), bfsD_cons, bfsD_filter nx c ds]
      unfold bfs1
      rw [if_neg (fun q => h q.1)]
def Small (s : List Int × List Int) : Prop := ∀ x : Int, rd s.1 x < s.2.length
structure Mid (nx : Int → Int → Int) (N : Nat) (a : Int) (i : Nat) (c : Int) (s : List Int × List Int) : Prop where
  at_ : BfsAt nx N a i s.1 s.2
  small : Small s
  lt : i < s.2.length
  cur : rd s.2 i = c
theorem mid1 {nx : Int → Int → Int} {N : Nat} {a : Int} (S : Steps nx N) {i : Nat} {c : Int} {s : List Int × List Int} (M : Mid nx N a i c s) (d : Int) : Mid nx N a i c (bfs1 nx c d s) := by
  have hc := M.cur
  unfold bfs1
  by_cases h : 0 ≤ nx c d ∧ rd s.1 (nx c d) < 0
  · rw [if_pos h]
    have B := M.at_
    have r := S.rng c d h.1
    subst hc
    refine ⟨bfs_push S B M.lt h.1 h.2, fun x => ?_, by simp only [List.length_append]; have := M.lt; omega, by simp only; exact rd_app_left M.lt⟩
    have hs := M.small
    simp only [List.length_append, List.length_singleton]
    by_cases hx : 0 ≤ x
    · rw [rd_set (by omega) hx (by rw [B.len]; omega)]
      have h1 := hs x
      have h2 := hs (rd s.2 i)
      split <;> omega
    · have h1 := hs x
      have : rd (s.1.set (nx (rd s.2 i) d).toNat (rd s.1 (rd s.2 i) + 1)) x = rd (s.1.set (nx (rd s.2 i) d).toNat (rd s.1 (rd s.2 i) + 1)) 0 := by unfold rd; rw [show x.toNat = 0 by omega]; rfl
      rw [this, rd_set (by omega) (by omega) (by rw [B.len]; omega)]
      have h2 := hs (rd s.2 i)
      have h3 := hs 0
      split <;> omega
  · rw [if_neg h]; exact M
theorem bfs_room {nx : Int → Int → Int} {N : Nat} {a : Int} {i : Nat} {c : Int} {s : List Int × List Int} (M : Mid nx N a i c s) : s.1.length = N ∧ s.2.length ≤ N ∧ 0 ≤ c ∧ c < N := by
  have h1 := M.at_.len
  have h2 := M.at_.cnt
  have hm : c ∈ s.2 := by rw [← M.cur]; exact rd_memI (by omega) (by have := M.lt; omega)
  obtain ⟨h3, h4, _⟩ := M.at_.inq c hm
  exact ⟨h1, by omega, h3, h4⟩
def stN (w h : Int) : Nat := (cells w h).toNat
theorem steps_st (w h o : Int) : Steps (st w h o) (stN w h) := ⟨fun c d H => by
  obtain ⟨_, h2, h3, h4, h5⟩ := st_facts H
  have a := icell_iff.1 h2
  have b := icell_iff.1 h3
  unfold stN
  exact ⟨a.1, by omega, by omega, h4, h5⟩⟩
theorem nb_all : ∀ w ∈ ([1, 2, 3, 4] : List Int), ∀ h ∈ ([1, 2, 3, 4] : List Int), ∀ c ∈ ([0, 1, 2, 3, 4, 5, 6, 7, 8, 9, 10, 11, 12, 13, 14, 15] : List Int), ∀ d ∈ ([0, 1, 2, 3] : List Int), 0 ≤ nb w h c d → nb w h (nb w h c d) ((d + 2) % 4) = c ∧ gp w h (nb w h c d) ((d + 2) % 4) = gp w h c d := by
  decide +kernel
theorem nb_back {w h c d : Int} (H : 0 ≤ nb w h c d) : ∃ e, nb w h (nb w h c d) e = c ∧ gp w h (nb w h c d) e = gp w h c d := by
  obtain ⟨h1, _, h3, h4⟩ := nb_facts H
  have g := gok_iff.1 (icell_gok h1)
  have hc := icell_iff.1 h1
  have hb := cells_bd w h
  exact ⟨(d + 2) % 4, nb_all w (by simp; omega) h (by simp; omega) c (by simp; omega) d (by simp; omega) H⟩
theorem sym_st (w h o : Int) : Sym (st w h o) := ⟨fun c d H => by
  obtain ⟨e, p⟩ := st_nb H
  rw [e] at H ⊢
  obtain ⟨q, q1, q2⟩ := nb_back H
  refine ⟨q, ?_⟩
  unfold st
  rw [q2, if_pos p, q1]⟩
def ways (w h o c : Int) : List Int := ([0, 1, 2, 3] : List Int).filter fun d => decide (0 ≤ st w h o c d)
theorem ways_length (w h o c : Int) : (ways w h o c).length ≤ 4 := List.length_filter_le _ _
theorem impl_WaysFrom_eq {k : Nat} (hk : 8 ≤ k) (w h o c : Int) : impl_WaysFrom.f k w h o c = some (ways w h o c) := by
  unfold impl_WaysFrom.f
  have := fold_loop (n := 4) (c := 3) (F := fun k (acc : List Int) i => impl_WaysFrom.l0 k c acc i w h o) (step := fun acc i => if 0 ≤ st w h o c (i : Int) then acc ++ [(i : Int)] else acc) (fin := fun acc : List Int => acc) (I := fun acc i => acc.length ≤ i)
    (fun k acc i hk hi ha => by
      simp only [impl_WaysFrom.l0]
      rw [if_pos (by omega), impl_Step_eq (by omega), Option.bind_some, w64 (x := (i : Int) + 1) (by omega) (by omega)]
      by_cases hd : 0 ≤ st w h o c (i : Int)
      · rw [if_pos hd, if_pos hd, if_pos (by omega)]
      · rw [if_neg hd, if_neg hd])
    (fun acc i _ ha => by
      show (if _ then _ else _ : List Int).length ≤ i + 1
      split
      · simp only [List.length_append, List.length_singleton]; omega
      · omega)
    (fun k acc _ _ => by
      simp only [impl_WaysFrom.l0]
      rw [if_neg (by decide)]) 4 0 k [] (by decide) (by omega) (Nat.le_refl _)
  refine this.trans ?_
  congr 1
  unfold ways
  simp only [List.range'_succ, List.range'_zero, List.foldl_cons, List.foldl_nil, List.filter_cons, List.filter_nil, Nat.zero_add, Int.natCast_add, decide_eq_true_eq]
  show (if 0 ≤ st w h o c (3 : Int) then _ else _) = _
  by_cases h0 : 0 ≤ st w h o c 0 <;> by_cases h1 : 0 ≤ st w h o c 1 <;> by_cases h2 : 0 ≤ st w h o c 2 <;> by_cases h3 : 0 ≤ st w h o c 3 <;> simp [h0, h1, h2, h3]
theorem ways_mem {w h o c d : Int} (H : d ∈ ways w h o c) : 0 ≤ st w h o c d := by
  unfold ways at H
  exact of_decide_eq_true (List.mem_filter.1 H).2
theorem impl_dist1 {w h o a c d : Int} {i : Nat} {s : List Int × List Int} (M : Mid (st w h o) (stN w h) a i c s) (hd : 0 ≤ st w h o c d) {k : Nat} (hk : 3 ≤ k) {W : List Int} {j : Nat} (hj : j < W.length) (hW : W.length ≤ 4) (hr : rd W (j : Int) = d) :
    impl_distances.l1 (k + 1) s.1 s.2 (i : Int) W (W.length : Int) (j : Int) w h o = impl_distances.l1 k (bfs1 (st w h o) c d s).1 (bfs1 (st w h o) c d s).2 (i : Int) W (W.length : Int) ((j : Int) + 1) w h o := by
  obtain ⟨r1, r2, r3, r4⟩ := bfs_room M
  have hN : stN w h ≤ 16 := by have := cells_bd w h; unfold stN; omega
  have rr := (steps_st w h o).rng c d hd
  have hsm := M.small c
  have hlt := M.lt
  have hc := M.cur
  simp only [impl_distances.l1]
  rw [if_pos (by omega), if_pos (by omega), if_pos (by omega), if_pos (by omega), if_pos (by omega), hc, hr, impl_Step_eq hk, Option.bind_some, if_pos hd, if_pos (by omega), w64 (x := (j : Int) + 1) (by omega) (by omega)]
  unfold bfs1
  by_cases hn : rd s.1 (st w h o c d) < 0
  · rw [if_pos hn, if_pos r3, if_pos (by omega), if_pos (by omega), if_pos ⟨hd, hn⟩]
    have hge : 0 ≤ rd s.1 c := by
      have hm : c ∈ s.2 := by rw [← hc]; exact rd_memI (by omega) (by omega)
      exact (M.at_.inq c hm).2.2.1
    rw [w64 (x := rd s.1 c + 1) (by omega) (by omega)]
  · rw [if_neg hn, if_neg (fun q => hn q.2)]
theorem impl_dirs {w h o a c : Int} {i : Nat} {W : List Int} (hW : W.length ≤ 4) (hd : ∀ d ∈ W, 0 ≤ st w h o c d) : ∀ (m j k : Nat) (s : List Int × List Int), j + m = W.length → 3 ≤ k → Mid (st w h o) (stN w h) a i c s →
    impl_distances.l1 (k + m + 1) s.1 s.2 (i : Int) W (W.length : Int) (j : Int) w h o = impl_distances.l0 k (bfsD (st w h o) c (W.drop j) s).1 (bfsD (st w h o) c (W.drop j) s).2 ((i : Int) + 1) w h o ∧ Mid (st w h o) (stN w h) a i c (bfsD (st w h o) c (W.drop j) s)
  | 0, j, k, s, hj, hk, M => by
    rw [List.drop_of_length_le (by omega)]
    have hl := bfs_room M
    have hN : stN w h ≤ 16 := by have := cells_bd w h; unfold stN; omega
    have hlt := M.lt
    refine ⟨?_, M⟩
    simp only [bfsD, Nat.add_zero, impl_distances.l1]
    rw [if_neg (by omega), w64 (x := (i : Int) + 1) (by omega) (by omega)]
  | m + 1, j, k, s, hj, hk, M => by
    have hjl : j < W.length := by omega
    have hmem : rd W (j : Int) ∈ W := rd_memI (by omega) (by omega)
    have hdr : W.drop j = rd W (j : Int) :: W.drop (j + 1) := by
      rw [List.drop_eq_getElem_cons hjl]
      congr 1
      rw [rd_nat, List.getD_eq_getElem?_getD, List.getElem?_eq_getElem hjl]
      rfl
    have M' := mid1 (steps_st w h o) M (rd W (j : Int))
    rw [show k + (m + 1) + 1 = (k + m + 1) + 1 by omega, impl_dist1 M (hd _ hmem) (by omega) hjl hW rfl, hdr, bfsD_cons]
    have := impl_dirs hW hd m (j + 1) k _ (by omega) hk M'
    rwa [Int.natCast_add] at this
theorem impl_bfs {w h o a : Int} : ∀ (f i k : Nat) (D Q : List Int), BfsAt (st w h o) (stN w h) a i D Q → Small (D, Q) → stN w h < f + i → 6 * f + 20 ≤ k → impl_distances.l0 k D Q (i : Int) w h o = some (bfs (st w h o) f i (D, Q))
  | 0, i, k, D, Q, B, V, hf, hk => by
    obtain ⟨m, rfl⟩ : ∃ m, k = m + 1 := ⟨k - 1, by omega⟩
    have := B.cnt
    simp only [impl_distances.l0, bfs]
    rw [if_neg (by omega)]
  | f + 1, i, k, D, Q, B, V, hf, hk => by
    obtain ⟨m, rfl⟩ : ∃ m, k = m + 1 := ⟨k - 1, by omega⟩
    simp only [bfs]
    by_cases hi : i < Q.length
    · rw [if_pos hi]
      have hw := ways_length w h o (rd Q (i : Int))
      simp only [impl_distances.l0]
      rw [if_pos (by omega), if_pos (by omega), impl_WaysFrom_eq (by omega), Option.bind_some]
      obtain ⟨k', hk'⟩ : ∃ k', m = k' + (ways w h o (rd Q (i : Int))).length + 1 := ⟨m - (ways w h o (rd Q (i : Int))).length - 1, by omega⟩
      have M : Mid (st w h o) (stN w h) a i (rd Q (i : Int)) (D, Q) := ⟨B, V, hi, rfl⟩
      obtain ⟨e, M'⟩ := impl_dirs (a := a) (i := i) hw (fun d hd => ways_mem hd) (ways w h o (rd Q (i : Int))).length 0 k' (D, Q) (by omega) (by omega) M
      rw [← hk', List.drop_zero] at e
      rw [List.drop_zero] at M'
      have eb : bfsD (st w h o) (rd Q (i : Int)) (ways w h o (rd Q (i : Int))) (D, Q) = bfsD (st w h o) (rd Q (i : Int)) [0, 1, 2, 3] (D, Q) := bfsD_filter _ _ _ _
      rw [eb] at e M'
      refine e.trans ?_
      have := impl_bfs f (i + 1) k' _ _ (bfs_next (steps_st w h o) B hi rfl) M'.small (by omega) (by omega)
      rwa [Int.natCast_add] at this
    · rw [if_neg hi]
      simp only [impl_distances.l0]
      rw [if_neg (by omega)]
theorem small_init {N : Nat} {a : Int} (h0 : 0 ≤ a) (h1 : a < N) : Small ((List.replicate N (-1)).set a.toNat 0, [a]) := by
  intro x
  simp only [List.length_singleton]
  have hrep : ∀ x : Int, rd (List.replicate N (-1)) x ≤ 0 := fun x => by
    unfold rd
    rw [List.getD_eq_getElem?_getD, List.getElem?_replicate]
    split <;> simp
  unfold rd
  rw [List.getD_eq_getElem?_getD, List.getElem?_set]
  split
  · split <;> simp
  · have := hrep x
    unfold rd at this
    rw [List.getD_eq_getElem?_getD] at this
    omega
theorem impl_distances_eq {w h o a : Int} {k : Nat} (hk : 200 ≤ k) (ha : icell w h a = true) : impl_distances.f k w h o a = some (dists (st w h o) (stN w h) a) := by
  have hc := icell_iff.1 ha
  have hb := cells_bd w h
  have hN : ((stN w h : Nat) : Int) = cells w h := by unfold stN; omega
  unfold impl_distances.f
  rw [impl_CountCells_eq, Option.bind_some, slices_Repeat_int.f, if_pos ⟨rfl, by omega, by omega⟩, Option.bind_some]
  show (if 0 ≤ a then (if a < ((List.replicate (stN w h) (-1 : Int)).length : Int) then _ else _) else _) = _
  rw [if_pos hc.1, if_pos (by rw [List.length_replicate]; omega)]
  exact impl_bfs (stN w h + 1) 0 k _ _ (bfs_init hc.1 (by omega)) (small_init hc.1 (by omega)) (by omega) (by omega)
theorem spec_dist1 {w h o a c : Int} {i : Nat} {s : List Int × List Int} (M : Mid (st w h o) (stN w h) a i c s) {k : Nat} (hk : 1 ≤ k) {j : Nat} (hj : j < 4) :
    spec_l04Distances.l2 (k + 1) s.1 s.2 (i : Int) (j : Int) w h o = spec_l04Distances.l2 k (bfs1 (st w h o) c (j : Int) s).1 (bfs1 (st w h o) c (j : Int) s).2 (i : Int) ((j : Int) + 1) w h o := by
  obtain ⟨r1, r2, r3, r4⟩ := bfs_room M
  have hN : stN w h ≤ 16 := by have := cells_bd w h; unfold stN; omega
  have hsm := M.small c
  have hlt := M.lt
  have hc := M.cur
  simp only [spec_l04Distances.l2]
  rw [if_pos (by omega), if_pos (by omega), if_pos (by omega), hc, spec_Step_eq hk, Option.bind_some, w64 (x := (j : Int) + 1) (by omega) (by omega)]
  unfold bfs1
  by_cases hd : 0 ≤ st w h o c (j : Int)
  · have rr := (steps_st w h o).rng c _ hd
    rw [if_pos hd, if_pos hd, if_pos (by omega)]
    by_cases hn : rd s.1 (st w h o c (j : Int)) < 0
    · rw [if_pos hn, if_pos r3, if_pos (by omega), if_pos (by omega), if_pos ⟨hd, hn⟩]
      have hge : 0 ≤ rd s.1 c := by
        have hm : c ∈ s.2 := by rw [← hc]; exact rd_memI (by omega) (by omega)
        exact (M.at_.inq c hm).2.2.1
      rw [w64 (x := rd s.1 c + 1) (by omega) (by omega)]
    · rw [if_neg hn, if_neg (fun q => hn q.2)]
  · rw [if_neg hd, if_neg (fun q => hd q.1)]
theorem spec_dirs {w h o a c : Int} {i : Nat} {s : List Int × List Int} (M : Mid (st w h o) (stN w h) a i c s) {k : Nat} (hk : 1 ≤ k) :
    spec_l04Distances.l2 (k + 5) s.1 s.2 (i : Int) 0 w h o = spec_l04Distances.l1 k (bfsD (st w h o) c [0, 1, 2, 3] s).1 (bfsD (st w h o) c [0, 1, 2, 3] s).2 ((i : Int) + 1) w h o ∧ Mid (st w h o) (stN w h) a i c (bfsD (st w h o) c [0, 1, 2, 3] s) := by
  have M1 := mid1 (steps_st w h o) M 0
  have M2 := mid1 (steps_st w h o) M1 1
  have M3 := mid1 (steps_st w h o) M2 2
  have M4 := mid1 (steps_st w h o) M3 3
  have e0 := spec_dist1 M (k := k + 4) (by omega) (j := 0) (by decide)
  have e1 := spec_dist1 M1 (k := k + 3) (by omega) (j := 1) (by decide)
  have e2 := spec_dist1 M2 (k := k + 2) (by omega) (j := 2) (by decide)
  have e3 := spec_dist1 M3 (k := k + 1) (by omega) (j := 3) (by decide)
  rw [bfsD_cons, bfsD_cons, bfsD_cons, bfsD_cons]
  show _ = spec_l04Distances.l1 k _ _ _ _ _ _ ∧ _
  refine ⟨(e0.trans (e1.trans (e2.trans e3))).trans ?_, M4⟩
  have hl := bfs_room M4
  have hN : stN w h ≤ 16 := by have := cells_bd w h; unfold stN; omega
  have hlt := M4.lt
  simp only [spec_l04Distances.l2, bfsD]
  rw [if_neg (by decide), w64 (x := (i : Int) + 1) (by omega) (by omega)]
  rfl
theorem spec_bfs {w h o a : Int} : ∀ (f i k : Nat) (D Q : List Int), BfsAt (st w h o) (stN w h) a i D Q → Small (D, Q) → stN w h < f + i → 6 * f + 20 ≤ k → spec_l04Distances.l1 k D Q (i : Int) w h o = some (bfs (st w h o) f i (D, Q))
  | 0, i, k, D, Q, B, V, hf, hk => by
    obtain ⟨m, rfl⟩ : ∃ m, k = m + 1 := ⟨k - 1, by omega⟩
    have := B.cnt
    simp only [spec_l04Distances.l1, bfs]
    rw [if_neg (by omega)]
  | f + 1, i, k, D, Q, B, V, hf, hk => by
    obtain ⟨m, rfl⟩ : ∃ m, k = m + 5 + 1 := ⟨k - 6, by omega⟩
    simp only [bfs]
    by_cases hi : i < Q.length
    · rw [if_pos hi]
      simp only [spec_l04Distances.l1]
      rw [if_pos (by omega)]
      have M : Mid (st w h o) (stN w h) a i (rd Q (i : Int)) (D, Q) := ⟨B, V, hi, rfl⟩
      obtain ⟨e, M'⟩ := spec_dirs M (k := m) (by omega)
      refine e.trans ?_
      have := spec_bfs f (i + 1) m _ _ (bfs_next (steps_st w h o) B hi rfl) M'.small (by omega) (by omega)
      rwa [Int.natCast_add] at this
    · rw [if_neg hi]
      simp only [spec_l04Distances.l1]
      rw [if_neg (by omega)]
theorem spec_l04Distances_eq {w h o a : Int} {k : Nat} (hk : 200 ≤ k) (ha : icell w h a = true) : spec_l04Distances.f k w h o a = some (dists (st w h o) (stN w h) a) := by
  have hc := icell_iff.1 ha
  have hb := cells_bd w h
  have hN : ((stN w h : Nat) : Int) = cells w h := by unfold stN; omega
  have hN16 : stN w h ≤ 16 := by omega
  unfold spec_l04Distances.f
  rw [spec_CountCells_eq, Option.bind_some, if_pos hb.1, if_pos (by omega)]
  show spec_l04Distances.l0 k a (List.replicate (stN w h) 0) 0 w h o = _
  obtain ⟨s, _, e⟩ := inv_loop (n := stN w h) (c := 130) (F := fun k (s : List Int) i => spec_l04Distances.l0 k a s i w h o) (fin := fun _ => dists (st w h o) (stN w h) a)
    (I := fun s i => s = List.replicate i (-1) ++ List.replicate (stN w h - i) 0)
    (fun k s i _ hi hs => by
      refine ⟨List.replicate (i + 1) (-1) ++ List.replicate (stN w h - (i + 1)) 0, rfl, ?_⟩
      have hl : s.length = stN w h := by rw [hs]; simp; omega
      simp only [spec_l04Distances.l0]
      rw [if_pos (by omega), if_pos (by omega), w64_succ hi (by omega), Int.toNat_natCast]
      congr 1
      rw [hs, show stN w h - i = (stN w h - (i + 1)) + 1 by omega, List.replicate_succ, List.replicate_succ']
      rw [List.set_append_right _ _ (by simp)]
      simp)
    (fun k s hk hs => by
      have hs' : s = List.replicate (stN w h) (-1) := by rw [hs, Nat.sub_self]; simp
      simp only [spec_l04Distances.l0]
      rw [hs', List.length_replicate, if_neg (by omega), if_pos hc.1, if_pos (by omega)]
      exact spec_bfs (stN w h + 1) 0 k _ _ (bfs_init hc.1 (by omega)) (small_init hc.1 (by omega)) (by omega) (by omega)) (stN w h) 0 k (List.replicate (stN w h) 0) (by omega) (by omega) (by simp)
  exact e
def dst (w h o a b : Int) : Int := rd (dists (st w h o) (stN w h) a) b
theorem dst_bd {w h o a b : Int} (ha : icell w h a = true) (hb : icell w h b = true) : -1 ≤ dst w h o a b := by
  have ca := icell_iff.1 ha
  have cb := icell_iff.1 hb
  have hN : ((stN w h : Nat) : Int) = cells w h := by have := cells_bd w h; unfold stN; omega
  obtain ⟨_, _, p⟩ := dists_spec (steps_st w h o) (a := a) ca.1 (by omega)
  unfold dst
  rcases p b cb.1 (by omega) with ⟨e, _⟩ | ⟨g, _⟩ <;> omega
theorem dists_length {w h o a : Int} (ha : icell w h a = true) : ((dists (st w h o) (stN w h) a).length : Int) = cells w h := by
  have ca := icell_iff.1 ha
  have hN : ((stN w h : Nat) : Int) = cells w h := by have := cells_bd w h; unfold stN; omega
  rw [(dists_spec (steps_st w h o) (a := a) ca.1 (by omega)).1, hN]
theorem impl_DistanceOf_eq {w h o : Int} {k : Nat} (hk : 200 ≤ k) (a b : Int) : impl_DistanceOf.f k w h o a b = some (if mok w h o = true ∧ icell w h a = true ∧ icell w h b = true then dst w h o a b else -1) := by
  unfold impl_DistanceOf.f
  rw [impl_isIn_eq]
  simp only [Option.bind_some, List.all_cons, List.all_nil, Bool.and_true]
  by_cases H : mok w h o = true ∧ icell w h a = true ∧ icell w h b = true
  · rw [if_pos H, if_pos (by simp [H.1, H.2.1, H.2.2]), impl_distances_eq hk H.2.1, Option.bind_some]
    have cb := icell_iff.1 H.2.2
    rw [if_pos cb.1, if_pos (by rw [dists_length H.2.1]; exact cb.2)]
    rfl
  · rw [if_neg H, if_neg (by simpa using fun h1 h2 h3 => H ⟨h1, h2, h3⟩)]
end Go.Proofs.Ytimejdhglmajdaa.F
end

section
namespace Go.Proofs.Ytimejdhglmajdaa.F
open Go.RowKit Go.Proofs.YtimejdhglmajdaaW.PrintWords Go.Proofs.YtimejdhglmajdaaW.PrintLast Go.Proofs.YtimejdhglmajdaaW.PrintMore
set_option linter.unusedVariables false
set_option linter.unusedSimpArgs false
theorem laws_toIntS_eq {k : Nat} {l : List Int} (hl : l.length ≤ 1048576) (hk : l.length + 1 ≤ k) : laws_toIntS.f k l = some l := by
  unfold laws_toIntS.f
  rw [if_pos (by omega), if_pos (by omega)]
  have := set_loop (c := 0) (0 : Int) (F := fun k acc i => laws_toIntS.l0 k l acc i) (l := l) (g := id) (k := k)
    (fun k acc i _ hi ha => by
      simp only [laws_toIntS.l0]
      rw [if_pos (by omega), if_pos (by omega), if_pos (by omega), w64_succ hi (by omega)]
      rfl)
    (fun k acc _ => by
      simp only [laws_toIntS.l0]
      rw [if_neg (by omega)]) (List.replicate (l.length : Int).toNat 0) (by simp) (by omega)
  simpa using this
theorem laws_eqIntS_refl {k : Nat} {l : List Int} (hl : l.length ≤ 9223372036854775806) (hk : l.length + 1 ≤ k) : laws_eqIntS.f k l l = some true := by
  unfold laws_eqIntS.f
  rw [if_pos rfl]
  have := all_loop (c := 0) (0 : Int) (F := fun k i => laws_eqIntS.l0 k l l i) (p := fun _ => true) (b := true)
    (fun k i _ hi => by
      simp only [laws_eqIntS.l0]
      rw [if_pos (by omega), if_pos (by omega), if_pos (by omega), w64_succ hi (by omega)]
      all_goals simp)
    (fun k _ => by simp only [laws_eqIntS.l0]; rw [if_neg (by omega)]) hk
  rw [this]
  congr 1
  simp only [Bool.and_true, List.all_eq_true, implies_true]
theorem mark_held {k : Nat} {l : List Int} {a : Int} (h0 : 0 ≤ a) (h1 : a ≤ 1000000000) (hl : l.length ≤ 1000000000) (hk : l.length + 1 ≤ k) :
    ∃ l', laws_markIntS.f k l a = some (a + l.length, l') ∧ l'.length = l.length ∧ ∀ k', l.length + 1 ≤ k' → laws_heldIntS.f k' l' a = some (a + l.length) := by
  obtain ⟨s, ⟨e1, e2, e3⟩, e4⟩ := inv_loop (n := l.length) (c := 0) (F := fun k (s : List Int × Int) i => laws_markIntS.l0 k s.1 s.2 i) (fin := fun s => (s.2, s.1))
    (I := fun s i => s.1.length = l.length ∧ s.2 = a + i ∧ ∀ j : Nat, j < i → rd s.1 (j : Int) = a + j)
    (fun k s i _ hi ⟨i1, i2, i3⟩ => ⟨(s.1.set i s.2, s.2 + 1), ⟨by simpa using i1, by simp only; omega, fun j hj => by
        rw [rd_nat, List.getD_eq_getElem?_getD, List.getElem?_set]
        by_cases e : i = j
        · subst e
          rw [if_pos rfl, if_pos (by omega)]
          simpa using i2
        · rw [if_neg e]
          have := i3 j (by omega)
          rwa [rd_nat, List.getD_eq_getElem?_getD] at this⟩, by
        simp only [laws_markIntS.l0]
        rw [if_pos (by omega), if_pos (by omega), w64_succ hi (by omega), w64 (by omega) (by omega)]
        rfl⟩)
    (fun k s _ h => by
      simp only [laws_markIntS.l0]
      rw [if_neg (by omega)]) l.length 0 k (l, a) (by omega) (by omega) ⟨rfl, by simp, fun j hj => by omega⟩
  refine ⟨s.1, ?_, e1, fun k' hk' => ?_⟩
  · rw [← e2]
    exact e4
  · obtain ⟨s', e5, e6⟩ := inv_loop (n := l.length) (c := 0) (F := fun k (x : Int) i => laws_heldIntS.l0 k s.1 x i) (fin := fun x => x) (I := fun x i => x = a + i)
      (fun k x i _ hi hx => ⟨x + 1, by omega, by
        simp only [laws_heldIntS.l0]
        rw [if_pos (by omega), if_pos (by omega), if_pos (by rw [e3 i hi, hx]), w64_succ hi (by omega), w64 (by omega) (by omega)]⟩)
      (fun k x _ _ => by
        simp only [laws_heldIntS.l0]
        rw [if_neg (by omega)]) l.length 0 k' a (by omega) (by omega) (by simp)
    rw [e5] at e6
    exact e6
end Go.Proofs.Ytimejdhglmajdaa.F
end

section
namespace Go.Proofs.Ytimejdhglmajdaa.F
open Go.RowKit Go.Proofs.YtimejdhglmajdaaW.PrintWords Go.Proofs.YtimejdhglmajdaaW.PrintLast Go.Proofs.YtimejdhglmajdaaW.PrintMore
set_option linter.unusedVariables false
set_option linter.unusedSimpArgs false
theorem slices_Contains_eq {l : List Int} {k : Nat} (hl : l.length ≤ 1000000) (hk : l.length + 1 ≤ k) (c : Int) : slices_Contains_int.f k l c = some (l.contains c) := by
  unfold slices_Contains_int.f slices_Index_int.f
  have key : ∀ (d i k : Nat), i + d = l.length → d + 1 ≤ k → ∃ t : Int, slices_Index_int.l0 k l c (l.length : Int) (i : Int) = some t ∧ decide (t ≥ 0) = (l.drop i).contains c := by
    intro d
    induction d with
    | zero =>
      intro i k hi hk
      obtain ⟨m, rfl⟩ : ∃ m, k = m + 1 := ⟨k - 1, by omega⟩
      simp only [slices_Index_int.l0]
      rw [if_neg (by omega), List.drop_of_length_le (by omega)]
      exact ⟨-1, rfl, rfl⟩
    | succ d ih =>
      intro i k hi hk
      obtain ⟨m, rfl⟩ : ∃ m, k = m + 1 := ⟨k - 1, by omega⟩
      have hil : i < l.length := by omega
      have e : rd l (i : Int) = l[i] := by rw [rd_nat, List.getD_eq_getElem?_getD, List.getElem?_eq_getElem hil]; rfl
      simp only [slices_Index_int.l0]
      rw [if_pos (by omega), if_pos (by omega), if_pos (by omega), e, w64_succ hil (by omega), List.drop_eq_getElem_cons hil, List.contains_cons]
      by_cases q : c = l[i]
      · rw [if_pos q]
        exact ⟨_, rfl, by simp [q]⟩
      · rw [if_neg q]
        obtain ⟨t, e1, e2⟩ := ih (i + 1) m (by omega) (by omega)
        rw [Int.natCast_add] at e1
        refine ⟨t, e1, e2.trans ?_⟩
        rw [beq_eq_false_iff_ne.2 q, Bool.false_or]
  obtain ⟨t, e1, e2⟩ := key l.length 0 k (by omega) (by omega)
  rw [show slices_Index_int.l0 k l c (l.length : Int) 0 = some t from e1, Option.bind_some, e2]
  simp
end Go.Proofs.Ytimejdhglmajdaa.F
end

section
namespace Go.Proofs.Ytimejdhglmajdaa.F
open Go.RowKit Go.Proofs.YtimejdhglmajdaaW.PrintWords Go.Proofs.YtimejdhglmajdaaW.PrintLast Go.Proofs.YtimejdhglmajdaaW.PrintMore
set_option linter.unusedVariables false
set_option linter.unusedSimpArgs false
def ints (n : Nat) : List Int := (List.range n).map fun (j : Nat) => (j : Int)
theorem ints_length (n : Nat) : (ints n).length = n := by simp [ints]
theorem mem_ints {n : Nat} {x : Int} : x ∈ ints n ↔ 0 ≤ x ∧ x < n := by
  unfold ints
  rw [List.mem_map]
  constructor
  · rintro ⟨j, hj, rfl⟩
    rw [List.mem_range] at hj
    omega
  · intro h
    exact ⟨x.toNat, by rw [List.mem_range]; omega, by omega⟩
theorem stN_int (w h : Int) : ((stN w h : Nat) : Int) = cells w h := by have := cells_bd w h; unfold stN; omega
theorem dst_self {w h o a : Int} (ha : icell w h a = true) : dst w h o a a = 0 := by
  have ca := icell_iff.1 ha
  exact (dists_spec (steps_st w h o) (a := a) ca.1 (by rw [stN_int]; exact ca.2)).2.1
end Go.Proofs.Ytimejdhglmajdaa.F
end

section
namespace Go.Proofs.Ytimejdhglmajdaa.F
open Go.RowKit Go.Proofs.YtimejdhglmajdaaW.PrintWords Go.Proofs.YtimejdhglmajdaaW.PrintLast Go.Proofs.YtimejdhglmajdaaW.PrintMore
set_option linter.unusedVariables false
set_option linter.unusedSimpArgs false
theorem bfs_small {nx : Int → Int → Int} {N : Nat} {a : Int} (S : Steps nx N) : ∀ (f i : Nat) (D Q : List Int), BfsAt nx N a i D Q → Small (D, Q) → ∀ x, rd (bfs nx f i (D, Q)) x < N
  | 0, i, D, Q, B, V, x => by
    have := B.cnt
    have := V x
    simp only [bfs] at *
    omega
  | f + 1, i, D, Q, B, V, x => by
    simp only [bfs]
    by_cases hi : i < Q.length
    · rw [if_pos hi]
      have M : Mid nx N a i (rd Q i) (D, Q) := ⟨B, V, hi, rfl⟩
      have M4 := mid1 S (mid1 S (mid1 S (mid1 S M 0) 1) 2) 3
      have e : bfsD nx (rd Q i) [0, 1, 2, 3] (D, Q) = bfs1 nx (rd Q i) 3 (bfs1 nx (rd Q i) 2 (bfs1 nx (rd Q i) 1 (bfs1 nx (rd Q i) 0 (D, Q)))) := by rw [bfsD_cons, bfsD_cons, bfsD_cons, bfsD_cons]; rfl
      have V4 := M4.small
      rw [← e] at V4
      generalize hs : bfsD nx (rd Q i) [0, 1, 2, 3] (D, Q) = s at V4
      obtain ⟨D', Q'⟩ := s
      exact bfs_small S f (i + 1) D' Q' (bfs_next S B hi hs) V4 x
    · rw [if_neg hi]
      have := B.cnt
      have := V x
      simp only at *
      omega
theorem dst_lt {w h o a b : Int} (ha : icell w h a = true) : dst w h o a b < 16 := by
  have ca := icell_iff.1 ha
  have hc := cells_bd w h
  have hN : ((stN w h : Nat) : Int) = cells w h := by unfold stN; omega
  have := bfs_small (steps_st w h o) (stN w h + 1) 0 _ _ (bfs_init ca.1 (by omega)) (small_init ca.1 (by omega)) b
  have e : dst w h o a b = rd (bfs (st w h o) (stN w h + 1) 0 ((List.replicate (stN w h) (-1)).set a.toNat 0, [a])) b := rfl
  omega
end Go.Proofs.Ytimejdhglmajdaa.F
end

section
namespace Go.Proofs.Ytimejdhglmajdaa.F
open Go.RowKit Go.Proofs.YtimejdhglmajdaaW.PrintWords Go.Proofs.YtimejdhglmajdaaW.PrintLast Go.Proofs.YtimejdhglmajdaaW.PrintMore
set_option linter.unusedVariables false
set_option linter.unusedSimpArgs false
def wo (R : List Int) (i : Int) : List Int := R.filter fun j => j != i
theorem mem_wo {R : List Int} {i j : Int} : j ∈ wo R i ↔ j ∈ R ∧ j ≠ i := by unfold wo; rw [List.mem_filter]; simp
theorem wo_nodup {R : List Int} {i : Int} (h : R.Nodup) : (wo R i).Nodup := h.filter _
theorem wo_at {R : List Int} (h : R.Nodup) {p : Nat} (hp : p < R.length) : wo R R[p] = R.take p ++ R.drop (p + 1) := by
  induction R generalizing p with
  | nil => simp at hp
  | cons x R ih =>
    rw [List.nodup_cons] at h
    cases p with
    | zero =>
      simp only [List.getElem_cons_zero, List.take_zero, List.drop_succ_cons, List.drop_zero, List.nil_append]
      unfold wo
      rw [List.filter_cons_of_neg (by simp)]
      refine List.filter_eq_self.2 fun y hy => ?_
      simp only [bne_iff_ne, ne_eq]
      rintro rfl
      exact h.1 hy
    | succ p =>
      have hp' : p < R.length := by simpa using hp
      have e := ih h.2 hp'
      simp only [List.getElem_cons_succ, List.take_succ_cons, List.drop_succ_cons, List.cons_append]
      unfold wo at e ⊢
      rw [List.filter_cons_of_pos (by simp only [bne_iff_ne, ne_eq]; intro e; exact h.1 (by rw [e]; exact List.getElem_mem hp')), e]
theorem wo_length {R : List Int} (h : R.Nodup) {i : Int} (hi : i ∈ R) : (wo R i).length + 1 = R.length := by
  obtain ⟨p, hp, rfl⟩ := List.getElem_of_mem hi
  rw [wo_at h hp]
  simp
  omega
section
variable (d : Int → Int → Int) (tc : Int → Int) (back : Int)
def rstep (c : Int) (r : Int → List Int × Int) (s : List Int × Int) (i : Int) : List Int × Int :=
  if 0 ≤ d c (tc i) ∧ 0 ≤ (r i).2 ∧ (s.2 < 0 ∨ d c (tc i) + (r i).2 < s.2) then (i :: (r i).1, d c (tc i) + (r i).2) else s
def rbest : Nat → Int → List Int → List Int × Int
  | 0, c, _ => ([], if back < 0 then 0 else d c back)
  | n + 1, c, R => R.foldl (rstep d tc c (fun i => rbest n (tc i) (wo R i))) ([], -1)
variable {d tc back}
theorem rstep_inv {P : List Int × Int → Prop} {c : Int} {r : Int → List Int × Int} (hv : ∀ i, 0 ≤ d c (tc i) → 0 ≤ (r i).2 → P (i :: (r i).1, d c (tc i) + (r i).2)) : ∀ (R : List Int) (s : List Int × Int), P s → P (R.foldl (rstep d tc c r) s)
  | [], s, h => h
  | i :: R, s, h => by
    rw [List.foldl_cons]
    refine rstep_inv hv R _ ?_
    unfold rstep
    split
    · rename_i q; exact hv i q.1 q.2.1
    · exact h
theorem rbest_bd (hd : ∀ x y, -1 ≤ d x y ∧ d x y ≤ 15) : ∀ (n : Nat) (c : Int) (R : List Int), -1 ≤ (rbest d tc back n c R).2 ∧ (rbest d tc back n c R).2 ≤ 16 * ((n : Int) + 1)
  | 0, c, R => by
    simp only [rbest]
    have := hd c back
    split <;> omega
  | n + 1, c, R => by
    simp only [rbest]
    refine rstep_inv (P := fun s => -1 ≤ s.2 ∧ s.2 ≤ 16 * (((n + 1 : Nat) : Int) + 1)) (fun i h1 h2 => ?_) R _ (by simp only; omega)
    have h3 := hd c (tc i)
    have h4 := rbest_bd hd n (tc i) (wo R i)
    simp only
    omega
theorem rfold {c : Int} {r : Int → List Int × Int} {R : List Int} : ∀ t, t ≤ R.length →
    (∀ i ∈ R.take t, 0 ≤ d c (tc i) → 0 ≤ (r i).2 → 0 ≤ ((R.take t).foldl (rstep d tc c r) ([], -1)).2 ∧ ((R.take t).foldl (rstep d tc c r) ([], -1)).2 ≤ d c (tc i) + (r i).2) ∧
    ((R.take t).foldl (rstep d tc c r) ([], -1) = ([], -1) ∨ ∃ (p : Nat) (hp : p < R.length), p < t ∧ (R.take t).foldl (rstep d tc c r) ([], -1) = (R[p] :: (r R[p]).1, d c (tc R[p]) + (r R[p]).2) ∧ 0 ≤ d c (tc R[p]) ∧ 0 ≤ (r R[p]).2 ∧ ∀ (j : Nat) (hj : j < R.length), j < p → 0 ≤ d c (tc R[j]) → 0 ≤ (r R[j]).2 → d c (tc R[p]) + (r R[p]).2 < d c (tc R[j]) + (r R[j]).2)
  | 0, _ => ⟨fun i hi => absurd hi (by simp), .inl rfl⟩
  | t + 1, ht => by
    obtain ⟨h1, h2⟩ := rfold (c := c) (r := r) (R := R) t (by omega)
    have htl : t < R.length := by omega
    have e : R.take (t + 1) = R.take t ++ [R[t]] := by rw [List.take_add_one, List.getElem?_eq_getElem htl]; rfl
    rw [e, List.foldl_append]
    generalize hs : (R.take t).foldl (rstep d tc c r) ([], -1) = s at h1 h2
    simp only [List.foldl_cons, List.foldl_nil]
    have hmem : ∀ j (hj : j < R.length), j < t → R[j] ∈ R.take t := fun j hj hjt => by
      rw [List.mem_iff_getElem]
      exact ⟨j, by rw [List.length_take]; omega, by rw [List.getElem_take]⟩
    unfold rstep
    by_cases q : 0 ≤ d c (tc R[t]) ∧ 0 ≤ (r R[t]).2 ∧ (s.2 < 0 ∨ d c (tc R[t]) + (r R[t]).2 < s.2)
    · rw [if_pos q]
      refine ⟨fun i hi d0 m0 => ?_, .inr ⟨t, htl, by omega, rfl, q.1, q.2.1, fun j hj hjt d0 m0 => ?_⟩⟩
      · simp only
        rcases List.mem_append.1 hi with hi | hi
        · obtain ⟨a, b⟩ := h1 i hi d0 m0
          rcases q.2.2 with z | z <;> omega
        · rw [List.mem_singleton.1 hi]; omega
      · obtain ⟨a, b⟩ := h1 _ (hmem j hj hjt) d0 m0
        rcases q.2.2 with z | z <;> omega
    · rw [if_neg q]
      refine ⟨fun i hi d0 m0 => ?_, ?_⟩
      · rcases List.mem_append.1 hi with hi | hi
        · exact h1 i hi d0 m0
        · rw [List.mem_singleton.1 hi] at d0 m0 ⊢
          have : ¬ (s.2 < 0 ∨ d c (tc R[t]) + (r R[t]).2 < s.2) := fun z => q ⟨d0, m0, z⟩
          omega
      · rcases h2 with h2 | ⟨p, hp, h3, h4⟩
        · exact .inl h2
        · exact .inr ⟨p, hp, by omega, h4⟩
structure Rel (d : Int → Int → Int) (ok : Int → Prop) : Prop where
  bd : ∀ x y, -1 ≤ d x y ∧ d x y ≤ 15
  self : ∀ x, ok x → d x x = 0
  rel : ∀ a b c, 0 ≤ d a b → 0 ≤ d a c → 0 ≤ d b c
theorem rbest_zero {ok : Int → Prop} (D : Rel d ok) : ∀ (n : Nat) (c : Int) (R : List Int), R.length = n → R.Nodup → ok c → (∀ i ∈ R, ok (tc i)) → (back < 0 ∨ 0 ≤ d c back) → (∀ i ∈ R, 0 ≤ d c (tc i)) → 0 ≤ (rbest d tc back n c R).2
  | 0, c, R, _, _, _, _, hb, _ => by
    simp only [rbest]
    split
    · exact Int.le_refl _
    · rcases hb with h | h
      · contradiction
      · exact h
  | n + 1, c, R, hl, hn, hc, ho, hb, hr => by
    simp only [rbest]
    have h0 : 0 < R.length := by omega
    have hm := List.getElem_mem h0
    have := rbest_zero D n (tc R[0]) (wo R R[0]) (by have := wo_length hn hm; omega) (wo_nodup hn) (ho _ hm) (fun i hi => ho i (mem_wo.1 hi).1) (hb.imp id fun hb => D.rel c _ _ (hr _ hm) hb) (fun i hi => D.rel c _ _ (hr _ hm) (hr i (mem_wo.1 hi).1))
    obtain ⟨h1, _⟩ := rfold (d := d) (tc := tc) (c := c) (r := fun i => rbest d tc back n (tc i) (wo R i)) (R := R) R.length (Nat.le_refl _)
    rw [List.take_length] at h1
    exact (h1 _ hm (hr _ hm) this).1
theorem rbest_all {ok : Int → Prop} (D : Rel d ok) : ∀ (n : Nat) (c : Int) (R : List Int), R.length = n → R.Nodup → ok c → (∀ i ∈ R, ok (tc i)) → 0 ≤ (rbest d tc back n c R).2 → ∀ i ∈ R, 0 ≤ d c (tc i)
  | 0, c, R, hl, _, _, _, _, i, hi => by
    rw [List.length_eq_zero_iff.1 hl] at hi
    exact absurd hi (by simp)
  | n + 1, c, R, hl, hn, hc, ho, hb, i, hi => by
    simp only [rbest] at hb
    obtain ⟨_, h1⟩ := rfold (d := d) (tc := tc) (c := c) (r := fun i => rbest d tc back n (tc i) (wo R i)) (R := R) R.length (Nat.le_refl _)
    rw [List.take_length] at h1
    rcases h1 with h1 | ⟨p, hp, _, _, d0, m0, _⟩
    · rw [h1] at hb; exact absurd hb (by decide)
    · by_cases e : i = R[p]
      · rw [e]; exact d0
      · have hm := List.getElem_mem hp
        have := rbest_all D n (tc R[p]) (wo R R[p]) (by have := wo_length hn hm; omega) (wo_nodup hn) (ho _ hm) (fun i hi => ho i (mem_wo.1 hi).1) m0 i (mem_wo.2 ⟨hi, e⟩)
        exact D.rel (tc R[p]) c _ (D.rel c _ _ d0 (by rw [D.self c hc]; decide)) this
def comb (order : List Int) (len : Int) (q s : List Int × Int) : List Int × Int := if q.2 < 0 then s else if s.2 < 0 ∨ len + q.2 < s.2 then (order ++ q.1, len + q.2) else s
def rgo (c : Int) (r : Int → List Int × Int) (order : List Int) (len : Int) (s : List Int × Int) (i : Int) : List Int × Int := if 0 ≤ d c (tc i) then comb (order ++ [i]) (len + d c (tc i)) (r i) s else s
theorem comb_step {c len : Int} {r : Int → List Int × Int} {order : List Int} (hl : 0 ≤ len) (q s : List Int × Int) (i : Int) : rgo (d := d) (tc := tc) c r order len (comb order len q s) i = comb order len (rstep d tc c r q i) s := by
  unfold rgo rstep
  by_cases v : 0 ≤ d c (tc i)
  · rw [if_pos v]
    by_cases m : 0 ≤ (r i).2
    · have hm : ¬ (r i).2 < 0 := by omega
      have hb : ¬ d c (tc i) + (r i).2 < 0 := by omega
      have ea : len + d c (tc i) + (r i).2 = len + (d c (tc i) + (r i).2) := by omega
      have el : (order ++ [i]) ++ (r i).1 = order ++ i :: (r i).1 := by simp
      have L : ∀ X : List Int × Int, comb (order ++ [i]) (len + d c (tc i)) (r i) X = if X.2 < 0 ∨ len + (d c (tc i) + (r i).2) < X.2 then (order ++ i :: (r i).1, len + (d c (tc i) + (r i).2)) else X := fun X => by
        unfold comb
        rw [if_neg hm, ea, el]
      rw [L]
      by_cases z : q.2 < 0 ∨ d c (tc i) + (r i).2 < q.2
      · rw [if_pos (show 0 ≤ d c (tc i) ∧ 0 ≤ (r i).2 ∧ (q.2 < 0 ∨ d c (tc i) + (r i).2 < q.2) from ⟨v, m, z⟩)]
        have R : comb order len (i :: (r i).1, d c (tc i) + (r i).2) s = if s.2 < 0 ∨ len + (d c (tc i) + (r i).2) < s.2 then (order ++ i :: (r i).1, len + (d c (tc i) + (r i).2)) else s := by
          unfold comb
          exact if_neg hb
        rw [R]
        by_cases q0 : q.2 < 0
        · have e : comb order len q s = s := by unfold comb; rw [if_pos q0]
          rw [e]
        · by_cases s0 : s.2 < 0 ∨ len + q.2 < s.2
          · have e : comb order len q s = (order ++ q.1, len + q.2) := by unfold comb; rw [if_neg q0, if_pos s0]
            rw [e, if_pos (show (order ++ q.1, len + q.2).2 < 0 ∨ len + (d c (tc i) + (r i).2) < (order ++ q.1, len + q.2).2 from .inr (by simp only; omega)), if_pos (show s.2 < 0 ∨ len + (d c (tc i) + (r i).2) < s.2 by omega)]
          · have e : comb order len q s = s := by unfold comb; rw [if_neg q0, if_neg s0]
            rw [e]
      · rw [if_neg (show ¬ (0 ≤ d c (tc i) ∧ 0 ≤ (r i).2 ∧ (q.2 < 0 ∨ d c (tc i) + (r i).2 < q.2)) from fun y => z y.2.2)]
        have q0 : ¬ q.2 < 0 := fun e => z (.inl e)
        by_cases s0 : s.2 < 0 ∨ len + q.2 < s.2
        · have e : comb order len q s = (order ++ q.1, len + q.2) := by unfold comb; rw [if_neg q0, if_pos s0]
          rw [e, if_neg (show ¬ ((order ++ q.1, len + q.2).2 < 0 ∨ len + (d c (tc i) + (r i).2) < (order ++ q.1, len + q.2).2) by simp only; omega)]
        · have e : comb order len q s = s := by unfold comb; rw [if_neg q0, if_neg s0]
          rw [e, if_neg (show ¬ (s.2 < 0 ∨ len + (d c (tc i) + (r i).2) < s.2) by omega)]
    · rw [if_neg (fun z => m z.2.1)]
      have hm : (r i).2 < 0 := by omega
      have L : ∀ X : List Int × Int, comb (order ++ [i]) (len + d c (tc i)) (r i) X = X := fun X => by
        unfold comb
        rw [if_pos hm]
      rw [L]
  · rw [if_neg v, if_neg (fun z => v z.1)]
theorem comb_fold {c len : Int} {r : Int → List Int × Int} {order : List Int} (hl : 0 ≤ len) : ∀ (R : List Int) (q s : List Int × Int), R.foldl (rgo (d := d) (tc := tc) c r order len) (comb order len q s) = comb order len (R.foldl (rstep d tc c r) q) s
  | [], q, s => rfl
  | i :: R, q, s => by
    rw [List.foldl_cons, List.foldl_cons, comb_step hl, comb_fold hl R]
end
def left (n : Nat) (order : List Int) : List Int := (ints n).filter fun i => !order.contains i
theorem ints_nodup (n : Nat) : (ints n).Nodup := by
  unfold ints
  exact List.pairwise_map.2 (List.nodup_range.imp fun h e => h (by omega))
theorem left_nodup (n : Nat) (order : List Int) : (left n order).Nodup := (ints_nodup n).filter _
theorem mem_left {n : Nat} {order : List Int} {i : Int} : i ∈ left n order ↔ (0 ≤ i ∧ i < n) ∧ i ∉ order := by
  unfold left
  rw [List.mem_filter, mem_ints]
  simp
theorem left_wo (n : Nat) (order : List Int) (i : Int) : left n (order ++ [i]) = wo (left n order) i := by
  unfold left wo
  rw [List.filter_filter]
  refine List.filter_congr fun j _ => ?_
  rw [Bool.eq_iff_iff]
  simp only [List.contains_eq_mem, List.mem_append, List.mem_singleton, Bool.not_eq_eq_eq_not, Bool.not_true, decide_eq_false_iff_not, not_or, Bool.and_eq_true, bne_iff_ne, ne_eq]
  exact And.comm
theorem foldO_some {σ : Type} {f : Nat → σ → Option σ} {g : σ → Int → σ} {n : Nat} (h : ∀ i, i < n → ∀ s, f i s = some (g s (i : Int))) : ∀ (m i : Nat) (s : σ), i + m = n → foldO f m i s = some (((List.range' i m).map fun (j : Nat) => (j : Int)).foldl g s)
  | 0, i, s, _ => rfl
  | m + 1, i, s, hm => by
    simp only [foldO]
    rw [h i (by omega), Option.bind_some, foldO_some h m (i + 1) _ (by omega), List.range'_succ, List.map_cons, List.foldl_cons]
theorem foldl_filter_if {σ : Type} (p : Int → Bool) (g : σ → Int → σ) : ∀ (l : List Int) (s : σ), l.foldl (fun s i => if p i = true then g s i else s) s = (l.filter p).foldl g s
  | [], s => rfl
  | i :: l, s => by
    rw [List.foldl_cons]
    by_cases h : p i = true
    · rw [if_pos h, List.filter_cons_of_pos h, List.foldl_cons, foldl_filter_if p g l]
    · rw [if_neg h, List.filter_cons_of_neg h, foldl_filter_if p g l]
end Go.Proofs.Ytimejdhglmajdaa.F
end

section
namespace Go.Proofs.Ytimejdhglmajdaa.F
open Go.RowKit Go.Proofs.YtimejdhglmajdaaW.PrintWords Go.Proofs.YtimejdhglmajdaaW.PrintLast Go.Proofs.YtimejdhglmajdaaW.PrintMore
set_option linter.unusedVariables false
set_option linter.unusedSimpArgs false
def dd (w h o a b : Int) : Int := if mok w h o = true ∧ icell w h a = true ∧ icell w h b = true then dst w h o a b else -1
theorem dd_in {w h o a b : Int} (M : mok w h o = true) (ha : icell w h a = true) (hb : icell w h b = true) : dd w h o a b = dst w h o a b := by unfold dd; rw [if_pos ⟨M, ha, hb⟩]
theorem dst_iff {w h o a b : Int} (ha : icell w h a = true) (hb : icell w h b = true) : 0 ≤ dst w h o a b ↔ ∃ n, Walk (st w h o) a n b := by
  have ca := icell_iff.1 ha
  have cb := icell_iff.1 hb
  have hN := stN_int w h
  obtain ⟨_, _, p⟩ := dists_spec (steps_st w h o) (a := a) ca.1 (by omega)
  unfold dst
  rcases p b cb.1 (by omega) with ⟨e, n1⟩ | ⟨g1, w1, m1⟩
  · rw [e]
    exact ⟨fun z => absurd z (by decide), fun ⟨n, z⟩ => absurd z (n1 n)⟩
  · exact ⟨fun _ => ⟨_, w1⟩, fun _ => g1⟩
theorem dd_rel (w h o : Int) : Rel (dd w h o) (fun c => mok w h o = true ∧ icell w h c = true) := by
  refine ⟨fun x y => ?_, fun x hx => ?_, fun a b c hab hac => ?_⟩
  · unfold dd
    split
    · rename_i q
      have h1 := dst_bd (o := o) q.2.1 q.2.2
      have h2 := dst_lt (o := o) (b := y) q.2.1
      omega
    · omega
  · rw [dd_in hx.1 hx.2 hx.2, dst_self hx.2]
  · unfold dd at hab hac
    split at hab
    · rename_i q
      split at hac
      · rename_i q2
        rw [dd_in q.1 q.2.2 q2.2.2]
        obtain ⟨n, h1⟩ := (dst_iff q.2.1 q.2.2).1 hab
        obtain ⟨m, h2⟩ := (dst_iff q2.2.1 q2.2.2).1 hac
        exact (dst_iff q.2.2 q2.2.2).2 ⟨n + m, (Walk.rev (steps_st w h o) (sym_st w h o) h1).trans h2⟩
      · exact absurd hac (by decide)
    · exact absurd hab (by decide)
theorem spec_DistanceOf_eq {w h o : Int} {k : Nat} (hk : 200 ≤ k) (a b : Int) : spec_DistanceOf.f k w h o a b = some (dd w h o a b) := by
  unfold spec_DistanceOf.f dd
  rw [spec_l04Has_eq, Option.bind_some, spec_l04Has_eq, Option.bind_some]
  by_cases H1 : (mok w h o && icell w h a) = true
  · rw [if_pos H1]
    obtain ⟨M, ha⟩ := Bool.and_eq_true_iff.1 H1
    by_cases hb : icell w h b = true
    · have cb := icell_iff.1 hb
      rw [if_pos (by simp [M, hb]), spec_l04Distances_eq hk ha, Option.bind_some, if_pos cb.1, if_pos (by rw [dists_length ha]; exact cb.2), if_pos ⟨M, ha, hb⟩]
      rfl
    · rw [if_neg (by simp [hb]), if_neg (fun z => hb z.2.2)]
  · rw [if_neg H1, if_neg (fun z => H1 (by simp [z.1, z.2.1]))]
theorem impl_DistanceOf_dd {w h o : Int} {k : Nat} (hk : 200 ≤ k) (a b : Int) : impl_DistanceOf.f k w h o a b = some (dd w h o a b) := impl_DistanceOf_eq hk a b

theorem rstep_app (d : Int → Int → Int) (tc : Int → Int) (c : Int) (r : Int → List Int × Int) (s : List Int × Int) (i : Int) : rstep d tc c r s i = if 0 ≤ d c (tc i) ∧ 0 ≤ (r i).2 ∧ (s.2 < 0 ∨ d c (tc i) + (r i).2 < s.2) then (i :: (r i).1, d c (tc i) + (r i).2) else s := rfl
theorem sb_facts {p L a b : Nat} (hp : p < L) (h1 : a ≤ L) (h2 : b ≤ L) (hL : L ≤ 101) : wrap64 ((p : Int) + 1) = ((p + 1 : Nat) : Int) ∧ (p : Int) < (L : Int) ∧ (0 : Int) ≤ (p : Int) ∧ (p : Int) ≤ (L : Int) ∧ ([] : List Int).length + a < 17592186044416 ∧ (0 : Int) ≤ ((p + 1 : Nat) : Int) ∧ ((p + 1 : Nat) : Int) ≤ (L : Int) ∧ a + b < 17592186044416 := by
  refine ⟨by rw [w64 (by omega) (by omega)]; rfl, by omega, by omega, by omega, by simp only [List.length_nil]; omega, by omega, by omega, by omega⟩
theorem sb_fuel {t n m : Nat} (h : t + 1 + 301 + 200 * n ≤ m + 1) : 300 + 200 * n ≤ m ∧ t + 301 + 200 * n ≤ m := by omega
theorem spec_best {w h o back : Int} {T : List Int} (M : mok w h o = true) (hT : ∀ c ∈ T, icell w h c = true) : ∀ (n k : Nat) (c : Int) (R : List Int), R.length = n → R.Nodup → (∀ i ∈ R, 0 ≤ i ∧ i < T.length) → icell w h c = true → n ≤ 100 → 300 + 200 * n ≤ k →
    spec_l34Best.f k w h o c (R.map (rd T)) back = some (rbest (dd w h o) (rd T) back n c R).2
  | 0, k, c, R, hl, hn, hr, hc, _, hk => by
    obtain ⟨m, rfl⟩ : ∃ m, k = m + 1 := ⟨k - 1, by omega⟩
    rw [List.length_eq_zero_iff.1 hl]
    simp only [spec_l34Best.f, rbest, List.map_nil, List.length_nil]
    rw [if_pos (by decide)]
    split
    · rfl
    · rw [spec_DistanceOf_eq (by omega), Option.bind_some]
  | n + 1, k, c, R, hl, hn, hr, hc, h100, hk => by
    obtain ⟨m, rfl⟩ : ∃ m, k = m + 1 := ⟨k - 1, by omega⟩
    have hmap : (R.map (rd T)).length = R.length := List.length_map ..
    simp only [spec_l34Best.f]
    rw [if_neg (by omega), spec_l04Distances_eq (by omega) hc, Option.bind_some]
    have hbd := fun (i : Int) => rbest_bd (d := dd w h o) (tc := rd T) (back := back) (dd_rel w h o).bd n (rd T i) (wo R i)
    have key : ∀ (t p k : Nat) (s : List Int × Int), p + t = R.length → -1 ≤ s.2 ∧ s.2 ≤ 16 * (((n + 1 : Nat) : Int) + 1) → t + 301 + 200 * n ≤ k → spec_l34Best.l0 k (R.map (rd T)) back s.2 (dists (st w h o) (stN w h) c) (p : Int) w h o = some ((R.drop p).foldl (rstep (dd w h o) (rd T) c (fun i => rbest (dd w h o) (rd T) back n (rd T i) (wo R i))) s).2 := by
      intro t
      induction t with
      | zero =>
        intro p k s hp hs hk
        obtain ⟨m, rfl⟩ : ∃ m, k = m + 1 := ⟨k - 1, by omega⟩
        simp only [spec_l34Best.l0]
        rw [if_neg (by omega), List.drop_of_length_le (by omega)]
        rfl
      | succ t ih =>
        intro p k s hp hs hk
        obtain ⟨m, rfl⟩ : ∃ m, k = m + 1 := ⟨k - 1, by omega⟩
        have hpl : p < R.length := by omega
        have hm := List.getElem_mem hpl
        have hi := hr _ hm
        have hcell : icell w h (rd T R[p]) = true := hT _ (rd_memI hi.1 hi.2)
        have cb := icell_iff.1 hcell
        obtain ⟨hwr, f1, f2, f3, f4, f5, f6, f7⟩ := sb_facts (p := p) (L := ((R.map (rd T)).length)) (a := ((R.map (rd T)).take p).length) (b := ((R.map (rd T)).drop (p + 1)).length) (by rw [hmap]; exact hpl) (by rw [List.length_take]; exact Nat.min_le_right _ _) (by rw [List.length_drop]; exact Nat.sub_le _ _) (by rw [hmap, hl]; exact Nat.le_succ_of_le h100)
        have g1 : (wo R R[p]).length = n := Nat.succ.inj ((wo_length hn hm).trans hl)
        have g2 : n ≤ 100 := Nat.le_of_succ_le h100
        obtain ⟨g3, g4⟩ := sb_fuel hk
        have ih' := fun s hs => ih (p + 1) m s (by rw [← hp]; exact Nat.succ_add_eq_add_succ p t) hs g4
        clear ih
        have e1 : rd (R.map (rd T)) (p : Int) = rd T R[p] := by rw [rd_nat, List.getD_eq_getElem?_getD, List.getElem?_map, List.getElem?_eq_getElem hpl]; rfl
        have e2 : (R.map (rd T)).take p ++ (R.map (rd T)).drop (p + 1) = (wo R R[p]).map (rd T) := by rw [wo_at hn hpl, List.map_append, List.map_take, List.map_drop]
        have e3 : rd (dists (st w h o) (stN w h) c) (rd T R[p]) = dd w h o c (rd T R[p]) := (dd_in M hc hcell).symm
        have e4 := spec_best (back := back) M hT n m (rd T R[p]) (wo R R[p]) g1 (wo_nodup hn) (fun i hi => hr i (mem_wo.1 hi).1) hcell g2 g3
        have hb := hbd R[p]
        have hd := (dd_rel w h o).bd c (rd T R[p])
        have hz : rd T R[p] < ((dists (st w h o) (stN w h) c).length : Int) := by rw [dists_length hc]; exact cb.2
        simp only [spec_l34Best.l0]
        rw [if_pos f1, Option.bind_some, if_pos f2, if_pos f3, Int.toNat_natCast, List.nil_append, if_pos f4, Option.bind_some, hwr, if_pos f5, if_pos f6, Int.toNat_natCast, if_pos f7, e1, e2, e4, Option.bind_some, if_pos cb.1, if_pos hz, e3, List.drop_eq_getElem_cons hpl, List.foldl_cons]
        clear e1 e2 e3 e4 hz cb f1 f2 f3 f4 f5 f6 f7 hwr
        rw [rstep_app]
        generalize dd w h o c (rd T R[p]) = D at *
        generalize hB : rbest (dd w h o) (rd T) back n (rd T R[p]) (wo R R[p]) = B at *
        clear hB
        by_cases d0 : D ≥ 0
        · rw [if_pos d0]
          by_cases m0 : B.2 ≥ 0
          · have hw2 : wrap64 (D + B.2) = D + B.2 := w64 (by omega) (by omega)
            rw [if_pos m0, hw2]
            by_cases s0 : s.2 < 0
            · rw [if_pos s0, if_pos ⟨d0, m0, .inl s0⟩]
              exact ih' (R[p] :: B.1, _) (by simp only; omega)
            · rw [if_neg s0]
              by_cases s1 : D + B.2 < s.2
              · rw [if_pos s1, if_pos ⟨d0, m0, .inr s1⟩]
                exact ih' (R[p] :: B.1, _) (by simp only; omega)
              · rw [if_neg s1, if_neg (fun z => z.2.2.elim s0 s1)]
                exact ih' s hs
          · rw [if_neg m0, if_neg (fun z => m0 z.2.1)]
            exact ih' s hs
        · rw [if_neg d0, if_neg (fun z => d0 z.1)]
          exact ih' s hs
    have := key R.length 0 m ([], -1) (by omega) (by simp only; omega) (by omega)
    simpa [rbest] using this
def resok (w h o s : Int) (T : List Int) : Bool := mok w h o && icell w h s && T.all (icell w h) && decide (T.length ≤ 5)
theorem resok_iff {w h o s : Int} {T : List Int} : resok w h o s T = true ↔ mok w h o = true ∧ icell w h s = true ∧ (∀ c ∈ T, icell w h c = true) ∧ T.length ≤ 5 := by
  unfold resok
  simp only [Bool.and_eq_true, decide_eq_true_eq, List.all_eq_true]
  exact ⟨fun ⟨⟨⟨a, b⟩, c⟩, d⟩ => ⟨a, b, c, d⟩, fun ⟨a, b, c, d⟩ => ⟨⟨⟨a, b⟩, c⟩, d⟩⟩
theorem spec_l34Ok_eq {k : Nat} (w h o s : Int) {T : List Int} (hl : T.length ≤ 9223372036854775806) (hk : T.length + 1 ≤ k) : spec_l34Ok.f k w h o s T = some (resok w h o s T) := by
  have key : ∀ (t i k : Nat), i + t = T.length → t + 1 ≤ k → spec_l34Ok.l0 k s T (i : Int) w h o = some ((T.drop i).all (fun c => mok w h o && icell w h c) && (mok w h o && icell w h s) && decide (T.length ≤ 5)) := by
    intro t
    induction t with
    | zero =>
      intro i k hi hk
      obtain ⟨m, rfl⟩ : ∃ m, k = m + 1 := ⟨k - 1, by omega⟩
      simp only [spec_l34Ok.l0]
      rw [if_neg (by omega), spec_l04Has_eq, Option.bind_some, List.drop_of_length_le (by omega)]
      by_cases p : (mok w h o && icell w h s) = true
      · rw [if_pos p, p]
        simp only [List.all_nil, Bool.true_and]
        congr 1
        rw [Bool.eq_iff_iff]; simp; omega
      · rw [if_neg p]
        simp at p
        simp; intro a b; exact absurd b (by rw [p a]; decide)
    | succ t ih =>
      intro i k hi hk
      obtain ⟨m, rfl⟩ : ∃ m, k = m + 1 := ⟨k - 1, by omega⟩
      have hil : i < T.length := by omega
      have e : rd T (i : Int) = T[i] := by rw [rd_nat, List.getD_eq_getElem?_getD, List.getElem?_eq_getElem hil]; rfl
      simp only [spec_l34Ok.l0]
      rw [if_pos (by omega), if_pos (by omega), e, spec_l04Has_eq, Option.bind_some, w64_succ hil (by omega), List.drop_eq_getElem_cons hil, List.all_cons]
      have := ih (i + 1) m (by omega) (by omega)
      rw [Int.natCast_add] at this
      by_cases p : (mok w h o && icell w h T[i]) = true
      · rw [if_pos p, p]
        simpa using this
      · rw [if_neg p]
        simp at p
        simp; intro a b; exact absurd b (by rw [p a]; decide)
  have := key T.length 0 k (by omega) (by omega)
  unfold spec_l34Ok.f
  refine this.trans ?_
  congr 1
  rw [Bool.eq_iff_iff, resok_iff]
  simp only [List.drop_zero, Bool.and_eq_true, decide_eq_true_eq, List.all_eq_true]
  exact ⟨fun ⟨⟨a, b, c⟩, d⟩ => ⟨b, c, fun x hx => (a x hx).2, d⟩, fun ⟨a, b, c, d⟩ => ⟨⟨fun x hx => ⟨a, c x hx⟩, a, b⟩, d⟩⟩
def resc (w h o s : Int) (T : List Int) (back : Int) : List Int × Int := if resok w h o s T = true then rbest (dd w h o) (rd T) back T.length s (ints T.length) else ([], -1)
theorem ints_map (T : List Int) : (ints T.length).map (rd T) = T := by
  apply List.ext_getElem
  · rw [List.length_map, ints_length]
  · intro i h1 h2
    unfold ints
    simp only [List.map_map, List.getElem_map, List.getElem_range, Function.comp]
    rw [rd_nat, List.getD_eq_getElem?_getD, List.getElem?_eq_getElem h2]; rfl
theorem spec_bestT {k : Nat} {w h o s : Int} {T : List Int} (back : Int) (H : resok w h o s T = true) (hk : 1400 ≤ k) : spec_l34Best.f k w h o s T back = some (resc w h o s T back).2 := by
  obtain ⟨M, hs, hT, h5⟩ := resok_iff.1 H
  have := spec_best (back := back) M hT T.length k s (ints T.length) (ints_length _) (ints_nodup _) (fun i hi => mem_ints.1 hi) hs (by omega) (by omega)
  rw [ints_map] at this
  rw [this]
  unfold resc
  rw [if_pos H]
theorem spec_RescueLength_eq {k : Nat} (w h o s : Int) {T : List Int} (hl : T.length ≤ 1048576) (hk : T.length + 1400 ≤ k) : spec_RescueLength.f k w h o s T = some (resc w h o s T (-1)).2 := by
  unfold spec_RescueLength.f
  rw [spec_l34Ok_eq w h o s (by omega) (by omega), Option.bind_some]
  by_cases H : resok w h o s T = true
  · rw [if_pos H, spec_bestT (-1) H (by omega), Option.bind_some]
  · rw [if_neg H]
    unfold resc
    rw [if_neg H]
end Go.Proofs.Ytimejdhglmajdaa.F
end

section
namespace Go.Proofs.Ytimejdhglmajdaa.F
open Go.RowKit Go.Proofs.YtimejdhglmajdaaW.PrintWords Go.Proofs.YtimejdhglmajdaaW.PrintLast Go.Proofs.YtimejdhglmajdaaW.PrintMore
set_option linter.unusedVariables false
set_option linter.unusedSimpArgs false
theorem impl_res {w h o start : Int} {T : List Int} {back : Bool} (M : mok w h o = true) (hT : ∀ c ∈ T, icell w h c = true) (h5 : T.length ≤ 5) (hst : 0 ≤ start) : ∀ (n k : Nat) (order : List Int) (at_ len : Int) (s : List Int × Int),
    order.length + n = T.length → (left T.length order).length = n → icell w h at_ = true → (back = true → 0 ≤ dd w h o at_ start) → 0 ≤ len ∧ len ≤ 16 * (5 - (n : Int)) → n < k →
    impl_rescue.l0 w h o T start back k order at_ len s = some (comb order len (rbest (dd w h o) (rd T) (if back = true then start else -1) n at_ (left T.length order)) s)
  | 0, k, order, at_, len, s, ho, hl, ha, hb, hlen, hk => by
    obtain ⟨m, rfl⟩ : ∃ m, k = m + 1 := ⟨k - 1, by omega⟩
    rw [impl_rescue.l0, if_neg (by omega), if_pos (by omega)]
    cases back with
    | true =>
      have hb := hb rfl
      have := (dd_rel w h o).bd at_ start
      have e : ∀ R, rbest (dd w h o) (rd T) start 0 at_ R = ([], dd w h o at_ start) := fun R => by
        simp only [rbest]
        rw [if_neg (show ¬ start < 0 by omega)]
      simp only [if_true]
      rw [impl_DistanceOf_dd (by decide), Option.bind_some, Option.bind_some, w64 (by omega) (by omega), e]
      unfold comb
      simp only [List.append_nil]
      rw [if_neg (show ¬ dd w h o at_ start < 0 by omega)]
    | false =>
      have e : ∀ R, rbest (dd w h o) (rd T) (-1) 0 at_ R = ([], 0) := fun R => by
        simp only [rbest]
        rw [if_pos (by decide)]
      simp only [Bool.false_eq_true, if_false]
      rw [Option.bind_some, e]
      unfold comb
      simp only [List.append_nil, Int.add_zero]
      rw [if_neg (show ¬ (0 : Int) < 0 by decide)]
  | n + 1, k, order, at_, len, s, ho, hl, ha, hb, hlen, hk => by
    obtain ⟨m, rfl⟩ : ∃ m, k = m + 1 := ⟨k - 1, by omega⟩
    rw [impl_rescue.l0, if_neg (by omega), if_neg (by omega)]
    have hr : ∀ i : Int, i ∈ left T.length order → 0 ≤ i ∧ i < T.length := fun i hi => (mem_left.1 hi).1
    rw [foldO_some (n := T.length) (g := fun s i => if (!order.contains i) = true then rgo (d := dd w h o) (tc := rd T) at_ (fun i => rbest (dd w h o) (rd T) (if back = true then start else -1) n (rd T i) (wo (left T.length order) i)) order len s i else s) (fun i hi s => ?_) T.length 0 s (by omega)]
    · have e : ((List.range' 0 T.length).map fun (j : Nat) => (j : Int)) = ints T.length := by unfold ints; rw [List.range_eq_range']
      rw [e, foldl_filter_if (fun i => !order.contains i)]
      have := comb_fold (d := dd w h o) (tc := rd T) (c := at_) (len := len) (r := fun i => rbest (dd w h o) (rd T) (if back = true then start else -1) n (rd T i) (wo (left T.length order) i)) (order := order) hlen.1 (left T.length order) ([], -1) s
      simp only [rbest]
      rw [← this]
      rfl
    · have hic : icell w h (rd T (i : Int)) = true := hT _ (rd_memI (by omega) (by omega))
      rw [impl_DistanceOf_dd (by decide), Option.bind_some]
      have hd := (dd_rel w h o).bd at_ (rd T (i : Int))
      unfold rgo
      by_cases d0 : 0 ≤ dd w h o at_ (rd T (i : Int))
      · rw [if_pos d0, slices_Contains_eq (by omega) (by omega), Option.bind_some]
        by_cases c : order.contains (i : Int) = true
        · rw [if_pos c, if_neg (by rw [c]; decide)]
        · have hc : (i : Int) ∉ order := by simpa using c
          rw [if_neg c, if_pos (by simpa using hc), if_pos d0]
          have hmem : (i : Int) ∈ left T.length order := mem_left.2 ⟨⟨by omega, by omega⟩, hc⟩
          have hw := wo_length (left_nodup T.length order) hmem
          have := impl_res M hT h5 hst n m (order ++ [(i : Int)]) (rd T (i : Int)) (wrap64 (len + dd w h o at_ (rd T (i : Int)))) s (by simp; omega) (by rw [left_wo]; omega) hic (fun q => (dd_rel w h o).rel at_ _ _ d0 (hb q)) (by rw [w64 (by omega) (by omega)]; omega) (by omega)
          rw [this, left_wo, w64 (by omega) (by omega)]
      · rw [if_neg d0]
        split <;> simp [d0]
theorem left_nil (n : Nat) : left n [] = ints n := by
  unfold left
  exact List.filter_eq_self.2 fun _ _ => rfl
theorem rbest_none {d : Int → Int → Int} {tc : Int → Int} {back c : Int} {n : Nat} {R : List Int} (h : (rbest d tc back (n + 1) c R).2 < 0) : rbest d tc back (n + 1) c R = ([], -1) := by
  simp only [rbest] at h ⊢
  obtain ⟨_, h1⟩ := rfold (d := d) (tc := tc) (c := c) (r := fun i => rbest d tc back n (tc i) (wo R i)) (R := R) R.length (Nat.le_refl _)
  rw [List.take_length] at h1
  rcases h1 with h1 | ⟨p, hp, _, e, d0, m0, _⟩
  · exact h1
  · rw [e] at h; simp only at h; omega
theorem impl_rescue_eq (w h o s : Int) (T : List Int) (back : Bool) : impl_rescue.f w h o s T back = some (resc w h o s T (if back = true then s else -1)) := by
  unfold impl_rescue.f
  rw [impl_isIn_eq, Option.bind_some, impl_isIn_eq, Option.bind_some]
  by_cases H : resok w h o s T = true
  · obtain ⟨M, hs, hT, h5⟩ := resok_iff.1 H
    have cs := icell_iff.1 hs
    rw [if_pos (by simp [M, hs]), if_pos (by rw [M]; simpa using hT), if_pos h5, impl_res M hT h5 cs.1 T.length 7 [] s 0 ([], -1) (by simp) (by rw [left_nil, ints_length]) hs (fun _ => by rw [(dd_rel w h o).self s ⟨M, hs⟩]; decide) (by omega) (by omega), left_nil]
    unfold resc
    rw [if_pos H]
    congr 1
    have hbk : (if back = true then s else -1) = s ∨ (if back = true then s else (-1 : Int)) < 0 := by cases back <;> simp
    generalize (if back = true then s else -1) = bk at hbk ⊢
    by_cases q : (rbest (dd w h o) (rd T) bk T.length s (ints T.length)).2 < 0
    · unfold comb
      rw [if_pos q]
      cases e : T.length with
      | zero =>
        exfalso
        rw [e] at q
        simp only [rbest] at q
        rcases hbk with rfl | hb
        · rw [(dd_rel w h o).self bk ⟨M, hs⟩] at q
          split at q <;> omega
        · rw [if_pos hb] at q
          omega
      | succ n =>
        rw [e] at q
        exact (rbest_none q).symm
    · unfold comb
      rw [if_neg q, if_pos (.inl (by decide))]
      simp
  · unfold resc
    rw [if_neg H]
    by_cases h1 : (mok w h o && [s].all (icell w h)) = true
    · rw [if_pos h1]
      by_cases h2 : (mok w h o && T.all (icell w h)) = true
      · rw [if_pos h2, if_neg (fun h5 => H (resok_iff.2 ?_))]
        simp only [Bool.and_eq_true, List.all_eq_true, List.mem_singleton, forall_eq] at h1 h2
        exact ⟨h1.1, h1.2, h2.2, h5⟩
      · rw [if_neg h2]
    · rw [if_neg h1]
end Go.Proofs.Ytimejdhglmajdaa.F
end

section
namespace Go.Proofs.Ytimejdhglmajdaa.F
open Go.RowKit Go.Proofs.YtimejdhglmajdaaW.PrintWords Go.Proofs.YtimejdhglmajdaaW.PrintLast Go.Proofs.YtimejdhglmajdaaW.PrintMore
set_option linter.unusedVariables false
set_option linter.unusedSimpArgs false
theorem rbest_len {d : Int → Int → Int} {tc : Int → Int} {back : Int} : ∀ (n : Nat) (c : Int) (R : List Int), (rbest d tc back n c R).1.length ≤ n
  | 0, c, R => by simp [rbest]
  | n + 1, c, R => by
    simp only [rbest]
    refine rstep_inv (P := fun s => s.1.length ≤ n + 1) (fun i _ _ => ?_) R _ (by simp)
    have := rbest_len (d := d) (tc := tc) (back := back) n (tc i) (wo R i)
    simp only [List.length_cons]
    omega
theorem rbest_mem {d : Int → Int → Int} {tc : Int → Int} {back : Int} : ∀ (n : Nat) (c : Int) (R : List Int), ∀ j ∈ (rbest d tc back n c R).1, j ∈ R
  | 0, c, R, j, hj => by simp [rbest] at hj
  | n + 1, c, R, j, hj => by
    simp only [rbest] at hj
    obtain ⟨_, h1⟩ := rfold (d := d) (tc := tc) (c := c) (r := fun i => rbest d tc back n (tc i) (wo R i)) (R := R) R.length (Nat.le_refl _)
    rw [List.take_length] at h1
    rcases h1 with h1 | ⟨p, hp, _, e, _⟩
    · rw [h1] at hj; simp at hj
    · rw [e] at hj
      rcases List.mem_cons.1 hj with rfl | hj
      · exact List.getElem_mem hp
      · exact (mem_wo.1 (rbest_mem n _ _ j hj)).1
def rord (w h o s : Int) (T : List Int) : List Int := (resc w h o s T (-1)).1.map (rd T)
theorem resc_len (w h o s : Int) (T : List Int) (back : Int) : (resc w h o s T back).1.length ≤ 5 := by
  unfold resc
  split
  · rename_i H
    obtain ⟨_, _, _, h5⟩ := resok_iff.1 H
    exact Nat.le_trans (rbest_len _ _ _) h5
  · simp
theorem resc_mem {w h o s : Int} {T : List Int} {back : Int} : ∀ j ∈ (resc w h o s T back).1, 0 ≤ j ∧ j < T.length := by
  intro j hj
  unfold resc at hj
  split at hj
  · exact mem_ints.1 (rbest_mem _ _ _ j hj)
  · simp at hj
theorem impl_RescueOrder_eq {k : Nat} (hk : 10 ≤ k) (w h o s : Int) (T : List Int) : impl_RescueOrder.f k w h o s T = some (rord w h o s T) := by
  unfold impl_RescueOrder.f rord
  rw [impl_rescue_eq, Option.bind_some, if_neg (by decide)]
  have hl := resc_len w h o s T (-1)
  have hm := @resc_mem w h o s T (-1)
  generalize (resc w h o s T (-1)).1 = L at hl hm
  have key : ∀ (t i k : Nat) (acc : List Int), i + t = L.length → t + 1 ≤ k → acc.length ≤ i → impl_RescueOrder.l0 k T acc L (L.length : Int) (i : Int) = some (acc ++ (L.drop i).map (rd T)) := by
    intro t
    induction t with
    | zero =>
      intro i k acc hi hk ha
      obtain ⟨m, rfl⟩ : ∃ m, k = m + 1 := ⟨k - 1, by omega⟩
      simp only [impl_RescueOrder.l0]
      rw [if_neg (by omega), List.drop_of_length_le (by omega)]
      simp
    | succ t ih =>
      intro i k acc hi hk ha
      obtain ⟨m, rfl⟩ : ∃ m, k = m + 1 := ⟨k - 1, by omega⟩
      have hil : i < L.length := by omega
      have e : rd L (i : Int) = L[i] := by rw [rd_nat, List.getD_eq_getElem?_getD, List.getElem?_eq_getElem hil]; rfl
      have hb := hm _ (List.getElem_mem hil)
      simp only [impl_RescueOrder.l0]
      rw [if_pos (by omega), if_pos (by omega), if_pos (by omega), e, if_pos hb.1, if_pos hb.2, if_pos (by omega), w64_succ hil (by omega), List.drop_eq_getElem_cons hil]
      have := ih (i + 1) m (acc ++ [rd T L[i]]) (by omega) (by omega) (by simp; omega)
      refine this.trans ?_
      rw [List.map_cons, List.append_assoc]
      rfl
  have := key L.length 0 k [] (by omega) (by omega) (by simp)
  simpa using this
theorem sum_w {a b : Int} {n : Nat} (h5 : n ≤ 100) (h1 : -1 ≤ a ∧ a ≤ 15) (h2 : -1 ≤ b ∧ b ≤ 16 * ((n : Int) + 1)) : wrap64 (a + b) = a + b := w64 (by omega) (by omega)
theorem spec_next {w h o c lft : Int} {T : List Int} {R acc : List Int} {n : Nat} (M : mok w h o = true) (hT : ∀ c ∈ T, icell w h c = true) (hl : R.length = n + 1) (hn : R.Nodup) (hr : ∀ i ∈ R, 0 ≤ i ∧ i < T.length) (hc : icell w h c = true) (h5 : n ≤ 10) (ha : acc.length ≤ 100)
    {p : Nat} (hp : p < R.length) (hv : dd w h o c (rd T R[p]) + (rbest (dd w h o) (rd T) (-1) n (rd T R[p]) (wo R R[p])).2 = lft) (hv0 : -1 ≤ lft ∧ lft ≤ 1000)
    (hne : ∀ (j : Nat) (hj : j < R.length), j < p → dd w h o c (rd T R[j]) + (rbest (dd w h o) (rd T) (-1) n (rd T R[j]) (wo R R[j])).2 ≠ lft) :
    ∀ (t i k : Nat), i + t = p → t + 2300 + 200 * n ≤ k → spec_RescueOrder.l1 k c acc lft (R.map (rd T)) (i : Int) w h o = spec_RescueOrder.l0 (k - t - 1) (rd T R[p]) (acc ++ [rd T R[p]]) (wrap64 (lft - dd w h o c (rd T R[p]))) ((wo R R[p]).map (rd T)) w h o := by
  have hmap : (R.map (rd T)).length = R.length := List.length_map ..
  have one : ∀ (i k : Nat) (hi : i < R.length), 2200 + 200 * n ≤ k → spec_RescueOrder.l1 (k + 1) c acc lft (R.map (rd T)) (i : Int) w h o = if dd w h o c (rd T R[i]) + (rbest (dd w h o) (rd T) (-1) n (rd T R[i]) (wo R R[i])).2 = lft then spec_RescueOrder.l0 k (rd T R[i]) (acc ++ [rd T R[i]]) (wrap64 (lft - dd w h o c (rd T R[i]))) ((wo R R[i]).map (rd T)) w h o else spec_RescueOrder.l1 k c acc lft (R.map (rd T)) ((i + 1 : Nat) : Int) w h o := by
    intro i k hi hk
    have hm := List.getElem_mem hi
    have hb := hr _ hm
    have hcell : icell w h (rd T R[i]) = true := hT _ (rd_memI hb.1 hb.2)
    obtain ⟨hwr, f1, f2, f3, f4, f5, f6, f7⟩ := sb_facts (p := i) (L := ((R.map (rd T)).length)) (a := ((R.map (rd T)).take i).length) (b := ((R.map (rd T)).drop (i + 1)).length) (by rw [hmap]; exact hi) (by rw [List.length_take]; exact Nat.min_le_right _ _) (by rw [List.length_drop]; exact Nat.sub_le _ _) (by rw [hmap, hl]; omega)
    have g1 : (wo R R[i]).length = n := Nat.succ.inj ((wo_length hn hm).trans hl)
    have g2 : n ≤ 100 := by omega
    have g3 : 300 + 200 * n ≤ k := by omega
    have g4 : 200 ≤ k := by omega
    have f8 : acc.length < 17592186044416 := by omega
    have e1 : rd (R.map (rd T)) (i : Int) = rd T R[i] := by rw [rd_nat, List.getD_eq_getElem?_getD, List.getElem?_map, List.getElem?_eq_getElem hi]; rfl
    have e2 : (R.map (rd T)).take i ++ (R.map (rd T)).drop (i + 1) = (wo R R[i]).map (rd T) := by rw [wo_at hn hi, List.map_append, List.map_take, List.map_drop]
    have e4 := spec_best (back := -1) M hT n k (rd T R[i]) (wo R R[i]) g1 (wo_nodup hn) (fun i hi => hr i (mem_wo.1 hi).1) hcell g2 g3
    have hsum := sum_w g2 ((dd_rel w h o).bd c (rd T R[i])) (rbest_bd (d := dd w h o) (tc := rd T) (back := -1) (dd_rel w h o).bd n (rd T R[i]) (wo R R[i]))
    simp only [spec_RescueOrder.l1]
    rw [if_pos f1, Option.bind_some, if_pos f2, if_pos f3, Option.bind_some, Int.toNat_natCast, List.nil_append, if_pos f4, Option.bind_some, hwr, if_pos f5, if_pos f6, Option.bind_some, Int.toNat_natCast, if_pos f7, Option.bind_some, e1, e2, spec_DistanceOf_eq g4, Option.bind_some, e4, Option.bind_some, hsum, if_pos f8]
  intro t
  induction t with
  | zero =>
    intro i k hi hk
    obtain ⟨m, rfl⟩ : ∃ m, k = m + 1 := ⟨k - 1, by omega⟩
    obtain rfl : i = p := by omega
    rw [one i m hp (by omega), if_pos hv]
    rfl
  | succ t ih =>
    intro i k hi hk
    obtain ⟨m, rfl⟩ : ∃ m, k = m + 1 := ⟨k - 1, by omega⟩
    rw [one i m (by omega) (by omega), if_neg (hne i (by omega) (by omega))]
    have := ih (i + 1) m (by omega) (by omega)
    refine this.trans ?_
    congr 1
    omega
theorem spec_ord {w h o : Int} {T : List Int} (M : mok w h o = true) (hT : ∀ c ∈ T, icell w h c = true) : ∀ (n k : Nat) (c : Int) (R acc : List Int), R.length = n → R.Nodup → (∀ i ∈ R, 0 ≤ i ∧ i < T.length) → icell w h c = true → n ≤ 6 → acc.length + n ≤ 50 → 4000 + 20 * n ≤ k →
    spec_RescueOrder.l0 k c acc (rbest (dd w h o) (rd T) (-1) n c R).2 (R.map (rd T)) w h o = some (acc ++ (rbest (dd w h o) (rd T) (-1) n c R).1.map (rd T))
  | 0, k, c, R, acc, hl, _, _, _, _, _, hk => by
    obtain ⟨m, rfl⟩ : ∃ m, k = m + 2 := ⟨k - 2, by omega⟩
    rw [List.length_eq_zero_iff.1 hl]
    simp only [spec_RescueOrder.l0, List.map_nil, List.length_nil]
    rw [if_neg (by decide)]
    simp only [spec_RescueOrder.j1]
    rw [if_neg (by decide)]
    simp [rbest]
  | n + 1, k, c, R, acc, hl, hn, hr, hc, h6, ha, hk => by
    obtain ⟨m, rfl⟩ : ∃ m, k = m + 2 := ⟨k - 2, by omega⟩
    have hmap : (R.map (rd T)).length = R.length := List.length_map ..
    have hok : ∀ i ∈ R, mok w h o = true ∧ icell w h (rd T i) = true := fun i hi => ⟨M, hT _ (rd_memI (hr i hi).1 (hr i hi).2)⟩
    have hbd := rbest_bd (d := dd w h o) (tc := rd T) (back := -1) (dd_rel w h o).bd (n + 1) c R
    by_cases q : (rbest (dd w h o) (rd T) (-1) (n + 1) c R).2 < 0
    · rw [rbest_none q]
      simp only [spec_RescueOrder.l0]
      rw [if_pos (by omega)]
      simp only [spec_RescueOrder.j1]
      rw [if_neg (by decide)]
      simp
    · have q0 : 0 ≤ (rbest (dd w h o) (rd T) (-1) (n + 1) c R).2 := by omega
      have hall := rbest_all (dd_rel w h o) (n + 1) c R hl hn ⟨M, hc⟩ hok q0
      have hrel := fun (x : Int) (hx : x ∈ R) => rbest_zero (back := -1) (dd_rel w h o) n (rd T x) (wo R x) (by have := wo_length hn hx; omega) (wo_nodup hn) (hok x hx) (fun i hi => hok i (mem_wo.1 hi).1) (.inl (by decide)) (fun i hi => (dd_rel w h o).rel c _ _ (hall x hx) (hall i (mem_wo.1 hi).1))
      obtain ⟨_, h1⟩ := rfold (d := dd w h o) (tc := rd T) (c := c) (r := fun i => rbest (dd w h o) (rd T) (-1) n (rd T i) (wo R i)) (R := R) R.length (Nat.le_refl _)
      rw [List.take_length] at h1
      rcases h1 with h1 | ⟨p, hp, _, e, d0, m0, hless⟩
      · exfalso
        simp only [rbest] at q0
        rw [h1] at q0
        exact absurd q0 (by decide)
      · have e' : rbest (dd w h o) (rd T) (-1) (n + 1) c R = (R[p] :: (rbest (dd w h o) (rd T) (-1) n (rd T R[p]) (wo R R[p])).1, dd w h o c (rd T R[p]) + (rbest (dd w h o) (rd T) (-1) n (rd T R[p]) (wo R R[p])).2) := by
          simp only [rbest]; exact e
        rw [e'] at hbd ⊢
        simp only at hbd ⊢
        have hm := List.getElem_mem hp
        simp only [spec_RescueOrder.l0]
        rw [if_pos (by omega)]
        simp only [spec_RescueOrder.j1]
        rw [if_pos (by simp only [decide_eq_true_eq]; omega)]
        have nx := spec_next (acc := acc) M hT hl hn hr hc (by omega) (by omega) hp (lft := dd w h o c (rd T R[p]) + (rbest (dd w h o) (rd T) (-1) n (rd T R[p]) (wo R R[p])).2) rfl (by omega) (fun j hj hjp => by
          have := hless j hj hjp (hall _ (List.getElem_mem hj)) (hrel _ (List.getElem_mem hj))
          omega) p 0 m (by omega) (by omega)
        have hnx : spec_RescueOrder.l1 m c acc (dd w h o c (rd T R[p]) + (rbest (dd w h o) (rd T) (-1) n (rd T R[p]) (wo R R[p])).2) (R.map (rd T)) 0 w h o = _ := nx
        rw [hnx, w64 (by omega) (by omega), show dd w h o c (rd T R[p]) + (rbest (dd w h o) (rd T) (-1) n (rd T R[p]) (wo R R[p])).2 - dd w h o c (rd T R[p]) = (rbest (dd w h o) (rd T) (-1) n (rd T R[p]) (wo R R[p])).2 by omega]
        rw [spec_ord M hT n (m - p - 1) (rd T R[p]) (wo R R[p]) (acc ++ [rd T R[p]]) (by have := wo_length hn hm; omega) (wo_nodup hn) (fun i hi => hr i (mem_wo.1 hi).1) (hok _ hm).2 (by omega) (by simp; omega) (by omega)]
        simp
theorem spec_RescueOrder_eq {k : Nat} (w h o s : Int) {T : List Int} (hl : T.length ≤ 1048576) (hk : T.length + 5000 ≤ k) : spec_RescueOrder.f k w h o s T = some (rord w h o s T) := by
  unfold spec_RescueOrder.f spec_l28Copy.f rord
  rw [spec_RescueLength_eq w h o s hl (by omega), Option.bind_some]
  simp only [Option.bind_some, List.length_nil, List.nil_append]
  rw [if_pos (by omega), Option.bind_some]
  by_cases H : resok w h o s T = true
  · obtain ⟨M, hs, hT, h5⟩ := resok_iff.1 H
    have := spec_ord M hT T.length k s (ints T.length) [] (ints_length _) (ints_nodup _) (fun i hi => mem_ints.1 hi) hs (by omega) (by simp; omega) (by omega)
    rw [ints_map] at this
    unfold resc
    rw [if_pos H]
    simpa using this
  · unfold resc
    rw [if_neg H]
    obtain ⟨m, rfl⟩ : ∃ m, k = m + 2 := ⟨k - 2, by omega⟩
    simp only [spec_RescueOrder.l0]
    have : spec_RescueOrder.j1 (m + 1) s [] (-1) T false w h o = some [] := by
      simp only [spec_RescueOrder.j1]
      rw [if_neg (by decide)]
    split
    · rw [show decide ((-1 : Int) ≥ 0) = false by decide, this]; rfl
    · rw [this]; rfl
theorem rord_len (w h o s : Int) (T : List Int) : (rord w h o s T).length ≤ 5 := by
  unfold rord
  rw [List.length_map]
  exact resc_len w h o s T (-1)
end Go.Proofs.Ytimejdhglmajdaa.F
end

section
namespace Go.Proofs.Ytimejdhglmajdaa.F
open Go.RowKit Go.Proofs.YtimejdhglmajdaaW.PrintWords Go.Proofs.YtimejdhglmajdaaW.PrintLast Go.Proofs.YtimejdhglmajdaaW.PrintMore
set_option linter.unusedVariables false
set_option linter.unusedSimpArgs false
theorem FnExactRescueOrder_pure : ∀ (a0_0 : Int) (a0_1 : Int) (a0_2 : Int) (a1 : Int) (l2 : List (Int)), (I64 (a0_0)) → (I64 (a0_1)) → (I64 (a0_2)) → (I64 (a1)) → ((l2).length ≤ 9223372036854775807 ∧ ∀ y ∈ l2, I64 (y)) → ∃ k, laws_FnExactRescueOrder.f k a0_0 a0_1 a0_2 a1 l2 = some true := by
  intro w h o s l _ _ _ _ hl
  refine ⟨l.length + 6000 + 1, ?_⟩
  unfold laws_FnExactRescueOrder.f
  by_cases hs : l.length ≤ 1048576
  · rw [if_neg (by omega)]
    have hr := rord_len w h o s l
    obtain ⟨ls, s1, _, _⟩ := mark_held (k := l.length + 6000 + 1) (l := l) (a := 1) (by decide) (by decide) (by omega) (by omega)
    obtain ⟨l', e1, e2, e3⟩ := mark_held (k := l.length + 6000) (l := rord w h o s l) (a := 1) (by decide) (by decide) (by omega) (by omega)
    have q1 : laws_eqIntS.f (l.length + 6000 + 1) (rord w h o s l) (rord w h o s l) = some true := laws_eqIntS_refl (by omega) (by omega)
    have q2 : laws_eqIntS.f (l.length + 6000) (rord w h o s l) (rord w h o s l) = some true := laws_eqIntS_refl (by omega) (by omega)
    have q3 : laws_eqIntS.f (l.length + 6000 + 1) l l = some true := laws_eqIntS_refl (by omega) (by omega)
    have t1 : laws_toIntS.f (l.length + 6000 + 1) l = some l := laws_toIntS_eq hs (by omega)
    have t2 : laws_toIntS.f (l.length + 6000) l = some l := laws_toIntS_eq hs (by omega)
    have i1 : impl_RescueOrder.f (l.length + 6000 + 1) w h o s l = some (rord w h o s l) := impl_RescueOrder_eq (by omega) w h o s l
    have i2 : impl_RescueOrder.f (l.length + 6000) w h o s l = some (rord w h o s l) := impl_RescueOrder_eq (by omega) w h o s l
    have p1 : spec_RescueOrder.f (l.length + 6000 + 1) w h o s l = some (rord w h o s l) := spec_RescueOrder_eq w h o s hs (by omega)
    have hn : ¬ (1 + ((rord w h o s l).length : Int) < 0) := by omega
    have hn2 : ¬ (1 + (l.length : Int) < 0) := by omega
    simp only [laws_toMaze.f, laws_toGrid.f, Option.bind_some, t1, p1, i1, q1, if_true, q3, s1, if_neg hn2, laws_FnExactRescueOrder.j0, Bool.not_true, Bool.false_eq_true, if_false, e1, e3 (l.length + 6000) (by omega), if_neg hn, t2, i2, q2]
  · rw [if_pos (by omega)]
end Go.Proofs.Ytimejdhglmajdaa.F
end
