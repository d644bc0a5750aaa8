/- Packed by a program of the session (wip/tools/pack.py): what the claim's theorem reaches, of the texts that wip/ and the kit's printer lay. -/
import Derived.Test.YtkindoepnganmaaGreatPkFnExactEnter8
import Derived.Laws.StructEq
section
namespace Go.Proofs.YtkindoepnganmaaGreat.F
open Go.RowKit Go.Proofs.YtkindoepnganmaaGreatW.PrintWords Go.Proofs.YtkindoepnganmaaGreatW.PrintLast Go.Proofs.YtkindoepnganmaaGreatW.PrintMore
set_option linter.unusedVariables false
set_option linter.unusedSimpArgs false
attribute [local go_sem] max2_int min2_int max_two min_two
set_option maxHeartbeats 8000000 in
set_option maxRecDepth 100000 in
theorem laws_FnExactEnter.calls (k : Nat) (a0_0 : Int) (a0_1 : Int) (a0_2 : Int) (A0_3 : Option Addr) (c0_3 : Nat) (l0_3 : List Int) (a0_4 : Int) (a0_5 : Int) (A0_6 : Option Addr) (c0_6 : Nat) (l0_6 : List Int) (a0_7 : Int) (w : World) (hr0_3 : Kd.C (Kd.int .i64) w A0_3 l0_3.length l0_3) (hc0_3 : l0_3.length ≤ c0_3) (hr0_6 : Kd.C (Kd.int .i64) w A0_6 l0_6.length l0_6) (hc0_6 : l0_6.length ≤ c0_6) (h : laws_FnExactEnter.f k a0_0 a0_1 a0_2 l0_3 a0_4 a0_5 l0_6 a0_7 = some true) :
  Calls Tryz.prog 3 #[.agg #[.int .i64 a0_0, .int .i64 a0_1, .int .i64 a0_2, .slice A0_3 l0_3.length c0_3, .int .i64 a0_4, .int .i64 a0_5, .slice A0_6 l0_6.length c0_6, .int .i64 a0_7]] w fun e w' => e = .returned (.bool true) ∧ Below w.heap.size w w' := by
 have hu30 := Tryz.underlying30
 have hu38 := Tryz.underlying38
 have HR0_3 := aK hr0_3
 have HC0_3 := aK hc0_3
 clear hr0_3 hc0_3
 have HR0_6 := aK hr0_6
 have HC0_6 := aK hc0_6
 clear hr0_6 hc0_6
 have HB := aK (Below.refl w.heap.size w)
 have H : ((laws_szGarden.f a0_0 a0_1 a0_2 l0_3 a0_4 a0_5 l0_6 a0_7 1048576).bind fun t636 => (if t636 < 0 then (some true) else ((laws_toGarden.f k a0_0 a0_1 a0_2 l0_3 a0_4 a0_5 l0_6 a0_7).bind fun bt637 => ((spec_Enter.f k bt637.1 bt637.2.1 bt637.2.2.1 bt637.2.2.2.1 bt637.2.2.2.2.1 bt637.2.2.2.2.2.1 bt637.2.2.2.2.2.2.1 bt637.2.2.2.2.2.2.2).bind fun bt649 => ((laws_toGarden.f k a0_0 a0_1 a0_2 l0_3 a0_4 a0_5 l0_6 a0_7).bind fun bt663 => ((impl_Enter.f k bt663.1 bt663.2.1 bt663.2.2.1 bt663.2.2.2.1 bt663.2.2.2.2.1 bt663.2.2.2.2.2.1 bt663.2.2.2.2.2.2.1 bt663.2.2.2.2.2.2.2).bind fun bt676 => ((laws_eqGarden.f k bt676.1 bt676.2.1 bt676.2.2.1 bt676.2.2.2.1 bt676.2.2.2.2.1 bt676.2.2.2.2.2.1 bt676.2.2.2.2.2.2.1 bt676.2.2.2.2.2.2.2.1 bt649.1 bt649.2.1 bt649.2.2.1 bt649.2.2.2.1 bt649.2.2.2.2.1 bt649.2.2.2.2.2.1 bt649.2.2.2.2.2.2.1 bt649.2.2.2.2.2.2.2.1).bind fun t690 => (if t690 = true then (laws_FnExactEnter.j0 k bt649.2.2.2.2.2.2.2.2 bt676.2.2.2.2.2.2.2.2 (bt676.2.2.2.2.2.2.2.2 != bt649.2.2.2.2.2.2.2.2) a0_0 a0_1 a0_2 l0_3 a0_4 a0_5 l0_6 a0_7 bt649.1 bt649.2.1 bt649.2.2.1 bt649.2.2.2.1 bt649.2.2.2.2.1 bt649.2.2.2.2.2.1 bt649.2.2.2.2.2.2.1 bt649.2.2.2.2.2.2.2.1 bt663.1 bt663.2.1 bt663.2.2.1 bt663.2.2.2.1 bt663.2.2.2.2.1 bt663.2.2.2.2.2.1 bt663.2.2.2.2.2.2.1 bt663.2.2.2.2.2.2.2 bt676.1 bt676.2.1 bt676.2.2.1 bt676.2.2.2.1 bt676.2.2.2.2.1 bt676.2.2.2.2.2.1 bt676.2.2.2.2.2.2.1 bt676.2.2.2.2.2.2.2.1) else (laws_FnExactEnter.j0 k bt649.2.2.2.2.2.2.2.2 bt676.2.2.2.2.2.2.2.2 true a0_0 a0_1 a0_2 l0_3 a0_4 a0_5 l0_6 a0_7 bt649.1 bt649.2.1 bt649.2.2.1 bt649.2.2.2.1 bt649.2.2.2.2.1 bt649.2.2.2.2.2.1 bt649.2.2.2.2.2.2.1 bt649.2.2.2.2.2.2.2.1 bt663.1 bt663.2.1 bt663.2.2.1 bt663.2.2.2.1 bt663.2.2.2.2.1 bt663.2.2.2.2.2.1 bt663.2.2.2.2.2.2.1 bt663.2.2.2.2.2.2.2 bt676.1 bt676.2.1 bt676.2.2.1 bt676.2.2.2.1 bt676.2.2.2.2.1 bt676.2.2.2.2.2.1 bt676.2.2.2.2.2.2.1 bt676.2.2.2.2.2.2.2.1))))))))) = some true := h
 clear h
 replace H := Option.bind_eq_some_iff.mp H
 obtain ⟨t636, A20, H⟩ := H
 replace H : (if t636 < 0 then (some true) else ((laws_toGarden.f k a0_0 a0_1 a0_2 l0_3 a0_4 a0_5 l0_6 a0_7).bind fun bt637 => ((spec_Enter.f k bt637.1 bt637.2.1 bt637.2.2.1 bt637.2.2.2.1 bt637.2.2.2.2.1 bt637.2.2.2.2.2.1 bt637.2.2.2.2.2.2.1 bt637.2.2.2.2.2.2.2).bind fun bt649 => ((laws_toGarden.f k a0_0 a0_1 a0_2 l0_3 a0_4 a0_5 l0_6 a0_7).bind fun bt663 => ((impl_Enter.f k bt663.1 bt663.2.1 bt663.2.2.1 bt663.2.2.2.1 bt663.2.2.2.2.1 bt663.2.2.2.2.2.1 bt663.2.2.2.2.2.2.1 bt663.2.2.2.2.2.2.2).bind fun bt676 => ((laws_eqGarden.f k bt676.1 bt676.2.1 bt676.2.2.1 bt676.2.2.2.1 bt676.2.2.2.2.1 bt676.2.2.2.2.2.1 bt676.2.2.2.2.2.2.1 bt676.2.2.2.2.2.2.2.1 bt649.1 bt649.2.1 bt649.2.2.1 bt649.2.2.2.1 bt649.2.2.2.2.1 bt649.2.2.2.2.2.1 bt649.2.2.2.2.2.2.1 bt649.2.2.2.2.2.2.2.1).bind fun t690 => (if t690 = true then (laws_FnExactEnter.j0 k bt649.2.2.2.2.2.2.2.2 bt676.2.2.2.2.2.2.2.2 (bt676.2.2.2.2.2.2.2.2 != bt649.2.2.2.2.2.2.2.2) a0_0 a0_1 a0_2 l0_3 a0_4 a0_5 l0_6 a0_7 bt649.1 bt649.2.1 bt649.2.2.1 bt649.2.2.2.1 bt649.2.2.2.2.1 bt649.2.2.2.2.2.1 bt649.2.2.2.2.2.2.1 bt649.2.2.2.2.2.2.2.1 bt663.1 bt663.2.1 bt663.2.2.1 bt663.2.2.2.1 bt663.2.2.2.2.1 bt663.2.2.2.2.2.1 bt663.2.2.2.2.2.2.1 bt663.2.2.2.2.2.2.2 bt676.1 bt676.2.1 bt676.2.2.1 bt676.2.2.2.1 bt676.2.2.2.2.1 bt676.2.2.2.2.2.1 bt676.2.2.2.2.2.2.1 bt676.2.2.2.2.2.2.2.1) else (laws_FnExactEnter.j0 k bt649.2.2.2.2.2.2.2.2 bt676.2.2.2.2.2.2.2.2 true a0_0 a0_1 a0_2 l0_3 a0_4 a0_5 l0_6 a0_7 bt649.1 bt649.2.1 bt649.2.2.1 bt649.2.2.2.1 bt649.2.2.2.2.1 bt649.2.2.2.2.2.1 bt649.2.2.2.2.2.2.1 bt649.2.2.2.2.2.2.2.1 bt663.1 bt663.2.1 bt663.2.2.1 bt663.2.2.2.1 bt663.2.2.2.2.1 bt663.2.2.2.2.2.1 bt663.2.2.2.2.2.2.1 bt663.2.2.2.2.2.2.2 bt676.1 bt676.2.1 bt676.2.2.1 bt676.2.2.2.1 bt676.2.2.2.2.1 bt676.2.2.2.2.2.1 bt676.2.2.2.2.2.2.1 bt676.2.2.2.2.2.2.2.1)))))))) = some true := H
 have A2 := aK A20
 clear A20
 by_cases c3 : t636 < 0
 ·rw [if_pos c3] at H
  have c3b0 : decide (t636 < 0) = true := decide_eq_true c3
  clear c3
  go_enter Tryz.func3, Tryz.ntmps3
  go_wp2_with (first | ((with_reducible refine gate_dst (N := 1) rfl ?_); refine box_event ?hg (N := 1) ?hd (cs := #[.int .i64 a0_0, .int .i64 a0_1, .int .i64 a0_2, .slice A0_3 l0_3.length c0_3, .int .i64 a0_4, .int .i64 a0_5, .slice A0_6 l0_6.length c0_6, .int .i64 a0_7]) (t := 30) ?hr ?_; (case hd => rfl); (case hg => rfl); (case hr => first | (go_simp; done) | (go_simp; rfl)); intro gb635 hg w4 hbox hb; have BK635 := aK (hbox); have GW635 := aK ((by rw [hg]; exact (bSz (zH0 HB)) : w.heap.size ≤ gb635)); replace HB := aK (bSp (zH0 HB) hb); have GE635 := GW635; clear hb hbox hg; obtain ⟨hcz5_0, hcz5_1, hcz5_2, hcz5_3, hcz5_4, hcz5_5, hcz5_6, hcz5_7, hfz5_0, hfz5_1, hfz5_2, hfz5_3, hfz5_4, hfz5_5, hfz5_6, hfz5_7⟩ := cl8 BK635.out) | ((with_reducible refine gate_callee (f := 15) rfl ?_); refine goesL_ (some 16) rfl rfl Tryz.func15 (by kernel_rfl) rfl #[.agg #[.int .i64 a0_0, .int .i64 a0_1, .int .i64 a0_2, .slice A0_3 l0_3.length c0_3, .int .i64 a0_4, .int .i64 a0_5, .slice A0_6 l0_6.length c0_6, .int .i64 a0_7], .int .i64 1048576] rfl zD ?_; (with_reducible refine (laws_szGarden.calls a0_0 a0_1 a0_2 _ _ l0_3 a0_4 a0_5 _ _ l0_6 a0_7 1048576 t636 _ ?side1 ?side2 ?side3 ?side4 A2.out).mono ?_); (case side1 => exact zC (Kd.C_below HR0_3.out HB.out)); (case side2 => exact HC0_3.out); (case side3 => exact zC (Kd.C_below HR0_6.out HB.out)); (case side4 => exact HC0_6.out); rintro e w6 ⟨rfl, hb⟩; refine ⟨_, rfl, ?_⟩; replace BK635 := zB BK635 hb; replace HB := aK (bSp (zH1 HB GE635) hb); (try clear hb); (try clear hb2); (try clear hk); (try clear hi)))
  go_ret
  exact ⟨by first | rfl | (simp [errW_none, errW_some] <;> rfl) | (simp [*, errW_none, errW_some] <;> rfl), by repeat (first | (with_reducible first | exact HB.out | apply bAl | apply bDN | apply bD1 | refine bSt ?_ GE635.out) | exact HB.out)⟩
 ·rw [if_neg c3] at H
  have c3b0 : decide (t636 < 0) = false := decide_eq_false c3
  clear c3
  replace H := Option.bind_eq_some_iff.mp H
  obtain ⟨⟨t637, t638, t639, t640, t643, t644, t645, t648⟩, A70, H⟩ := H
  replace H : ((spec_Enter.f k t637 t638 t639 t640 t643 t644 t645 t648).bind fun bt649 => ((laws_toGarden.f k a0_0 a0_1 a0_2 l0_3 a0_4 a0_5 l0_6 a0_7).bind fun bt663 => ((impl_Enter.f k bt663.1 bt663.2.1 bt663.2.2.1 bt663.2.2.2.1 bt663.2.2.2.2.1 bt663.2.2.2.2.2.1 bt663.2.2.2.2.2.2.1 bt663.2.2.2.2.2.2.2).bind fun bt676 => ((laws_eqGarden.f k bt676.1 bt676.2.1 bt676.2.2.1 bt676.2.2.2.1 bt676.2.2.2.2.1 bt676.2.2.2.2.2.1 bt676.2.2.2.2.2.2.1 bt676.2.2.2.2.2.2.2.1 bt649.1 bt649.2.1 bt649.2.2.1 bt649.2.2.2.1 bt649.2.2.2.2.1 bt649.2.2.2.2.2.1 bt649.2.2.2.2.2.2.1 bt649.2.2.2.2.2.2.2.1).bind fun t690 => (if t690 = true then (laws_FnExactEnter.j0 k bt649.2.2.2.2.2.2.2.2 bt676.2.2.2.2.2.2.2.2 (bt676.2.2.2.2.2.2.2.2 != bt649.2.2.2.2.2.2.2.2) a0_0 a0_1 a0_2 l0_3 a0_4 a0_5 l0_6 a0_7 bt649.1 bt649.2.1 bt649.2.2.1 bt649.2.2.2.1 bt649.2.2.2.2.1 bt649.2.2.2.2.2.1 bt649.2.2.2.2.2.2.1 bt649.2.2.2.2.2.2.2.1 bt663.1 bt663.2.1 bt663.2.2.1 bt663.2.2.2.1 bt663.2.2.2.2.1 bt663.2.2.2.2.2.1 bt663.2.2.2.2.2.2.1 bt663.2.2.2.2.2.2.2 bt676.1 bt676.2.1 bt676.2.2.1 bt676.2.2.2.1 bt676.2.2.2.2.1 bt676.2.2.2.2.2.1 bt676.2.2.2.2.2.2.1 bt676.2.2.2.2.2.2.2.1) else (laws_FnExactEnter.j0 k bt649.2.2.2.2.2.2.2.2 bt676.2.2.2.2.2.2.2.2 true a0_0 a0_1 a0_2 l0_3 a0_4 a0_5 l0_6 a0_7 bt649.1 bt649.2.1 bt649.2.2.1 bt649.2.2.2.1 bt649.2.2.2.2.1 bt649.2.2.2.2.2.1 bt649.2.2.2.2.2.2.1 bt649.2.2.2.2.2.2.2.1 bt663.1 bt663.2.1 bt663.2.2.1 bt663.2.2.2.1 bt663.2.2.2.2.1 bt663.2.2.2.2.2.1 bt663.2.2.2.2.2.2.1 bt663.2.2.2.2.2.2.2 bt676.1 bt676.2.1 bt676.2.2.1 bt676.2.2.2.1 bt676.2.2.2.2.1 bt676.2.2.2.2.2.1 bt676.2.2.2.2.2.2.1 bt676.2.2.2.2.2.2.2.1)))))) = some true := H
  have A7 := aK A70
  clear A70
  replace H := Option.bind_eq_some_iff.mp H
  obtain ⟨⟨t649, t650, t651, t652, t655, t656, t657, t660, t661⟩, A80, H⟩ := H
  replace H : ((laws_toGarden.f k a0_0 a0_1 a0_2 l0_3 a0_4 a0_5 l0_6 a0_7).bind fun bt663 => ((impl_Enter.f k bt663.1 bt663.2.1 bt663.2.2.1 bt663.2.2.2.1 bt663.2.2.2.2.1 bt663.2.2.2.2.2.1 bt663.2.2.2.2.2.2.1 bt663.2.2.2.2.2.2.2).bind fun bt676 => ((laws_eqGarden.f k bt676.1 bt676.2.1 bt676.2.2.1 bt676.2.2.2.1 bt676.2.2.2.2.1 bt676.2.2.2.2.2.1 bt676.2.2.2.2.2.2.1 bt676.2.2.2.2.2.2.2.1 t649 t650 t651 t652 t655 t656 t657 t660).bind fun t690 => (if t690 = true then (laws_FnExactEnter.j0 k t661 bt676.2.2.2.2.2.2.2.2 (bt676.2.2.2.2.2.2.2.2 != t661) a0_0 a0_1 a0_2 l0_3 a0_4 a0_5 l0_6 a0_7 t649 t650 t651 t652 t655 t656 t657 t660 bt663.1 bt663.2.1 bt663.2.2.1 bt663.2.2.2.1 bt663.2.2.2.2.1 bt663.2.2.2.2.2.1 bt663.2.2.2.2.2.2.1 bt663.2.2.2.2.2.2.2 bt676.1 bt676.2.1 bt676.2.2.1 bt676.2.2.2.1 bt676.2.2.2.2.1 bt676.2.2.2.2.2.1 bt676.2.2.2.2.2.2.1 bt676.2.2.2.2.2.2.2.1) else (laws_FnExactEnter.j0 k t661 bt676.2.2.2.2.2.2.2.2 true a0_0 a0_1 a0_2 l0_3 a0_4 a0_5 l0_6 a0_7 t649 t650 t651 t652 t655 t656 t657 t660 bt663.1 bt663.2.1 bt663.2.2.1 bt663.2.2.2.1 bt663.2.2.2.2.1 bt663.2.2.2.2.2.1 bt663.2.2.2.2.2.2.1 bt663.2.2.2.2.2.2.2 bt676.1 bt676.2.1 bt676.2.2.1 bt676.2.2.2.1 bt676.2.2.2.2.1 bt676.2.2.2.2.2.1 bt676.2.2.2.2.2.2.1 bt676.2.2.2.2.2.2.2.1))))) = some true := H
  have A8 := aK A80
  clear A80
  replace H := Option.bind_eq_some_iff.mp H
  obtain ⟨⟨t663, t664, t665, t666, t669, t670, t671, t674⟩, A90, H⟩ := H
  replace H : ((impl_Enter.f k t663 t664 t665 t666 t669 t670 t671 t674).bind fun bt676 => ((laws_eqGarden.f k bt676.1 bt676.2.1 bt676.2.2.1 bt676.2.2.2.1 bt676.2.2.2.2.1 bt676.2.2.2.2.2.1 bt676.2.2.2.2.2.2.1 bt676.2.2.2.2.2.2.2.1 t649 t650 t651 t652 t655 t656 t657 t660).bind fun t690 => (if t690 = true then (laws_FnExactEnter.j0 k t661 bt676.2.2.2.2.2.2.2.2 (bt676.2.2.2.2.2.2.2.2 != t661) a0_0 a0_1 a0_2 l0_3 a0_4 a0_5 l0_6 a0_7 t649 t650 t651 t652 t655 t656 t657 t660 t663 t664 t665 t666 t669 t670 t671 t674 bt676.1 bt676.2.1 bt676.2.2.1 bt676.2.2.2.1 bt676.2.2.2.2.1 bt676.2.2.2.2.2.1 bt676.2.2.2.2.2.2.1 bt676.2.2.2.2.2.2.2.1) else (laws_FnExactEnter.j0 k t661 bt676.2.2.2.2.2.2.2.2 true a0_0 a0_1 a0_2 l0_3 a0_4 a0_5 l0_6 a0_7 t649 t650 t651 t652 t655 t656 t657 t660 t663 t664 t665 t666 t669 t670 t671 t674 bt676.1 bt676.2.1 bt676.2.2.1 bt676.2.2.2.1 bt676.2.2.2.2.1 bt676.2.2.2.2.2.1 bt676.2.2.2.2.2.2.1 bt676.2.2.2.2.2.2.2.1)))) = some true := H
  have A9 := aK A90
  clear A90
  replace H := Option.bind_eq_some_iff.mp H
  obtain ⟨⟨t676, t677, t678, t679, t682, t683, t684, t687, t688⟩, A100, H⟩ := H
  replace H : ((laws_eqGarden.f k t676 t677 t678 t679 t682 t683 t684 t687 t649 t650 t651 t652 t655 t656 t657 t660).bind fun t690 => (if t690 = true then (laws_FnExactEnter.j0 k t661 t688 (t688 != t661) a0_0 a0_1 a0_2 l0_3 a0_4 a0_5 l0_6 a0_7 t649 t650 t651 t652 t655 t656 t657 t660 t663 t664 t665 t666 t669 t670 t671 t674 t676 t677 t678 t679 t682 t683 t684 t687) else (laws_FnExactEnter.j0 k t661 t688 true a0_0 a0_1 a0_2 l0_3 a0_4 a0_5 l0_6 a0_7 t649 t650 t651 t652 t655 t656 t657 t660 t663 t664 t665 t666 t669 t670 t671 t674 t676 t677 t678 t679 t682 t683 t684 t687))) = some true := H
  have A10 := aK A100
  clear A100
  have HC11 := aK H
  clear H
  go_enter Tryz.func3, Tryz.ntmps3
  go_upto_region 8 with (first | ((with_reducible refine gate_dst (N := 1) rfl ?_); refine box_event ?hg (N := 1) ?hd (cs := #[.int .i64 a0_0, .int .i64 a0_1, .int .i64 a0_2, .slice A0_3 l0_3.length c0_3, .int .i64 a0_4, .int .i64 a0_5, .slice A0_6 l0_6.length c0_6, .int .i64 a0_7]) (t := 30) ?hr ?_; (case hd => rfl); (case hg => rfl); (case hr => first | (go_simp; done) | (go_simp; rfl)); intro gb635 hg w12 hbox hb; have BK635 := aK (hbox); have GW635 := aK ((by rw [hg]; exact (bSz (zH0 HB)) : w.heap.size ≤ gb635)); replace HB := aK (bSp (zH0 HB) hb); have GE635 := GW635; clear hb hbox hg; obtain ⟨hcz13_0, hcz13_1, hcz13_2, hcz13_3, hcz13_4, hcz13_5, hcz13_6, hcz13_7, hfz13_0, hfz13_1, hfz13_2, hfz13_3, hfz13_4, hfz13_5, hfz13_6, hfz13_7⟩ := cl8 BK635.out) | ((with_reducible refine gate_callee (f := 15) rfl ?_); refine goesL_ (some 16) rfl rfl Tryz.func15 (by kernel_rfl) rfl #[.agg #[.int .i64 a0_0, .int .i64 a0_1, .int .i64 a0_2, .slice A0_3 l0_3.length c0_3, .int .i64 a0_4, .int .i64 a0_5, .slice A0_6 l0_6.length c0_6, .int .i64 a0_7], .int .i64 1048576] rfl zD ?_; (with_reducible refine (laws_szGarden.calls a0_0 a0_1 a0_2 _ _ l0_3 a0_4 a0_5 _ _ l0_6 a0_7 1048576 t636 _ ?side1 ?side2 ?side3 ?side4 A2.out).mono ?_); (case side1 => exact zC (Kd.C_below HR0_3.out HB.out)); (case side2 => exact HC0_3.out); (case side3 => exact zC (Kd.C_below HR0_6.out HB.out)); (case side4 => exact HC0_6.out); rintro e w14 ⟨rfl, hb⟩; refine ⟨_, rfl, ?_⟩; replace BK635 := zB BK635 hb; replace HB := aK (bSp (zH1 HB GE635) hb); (try clear hb); (try clear hb2); (try clear hk); (try clear hi); obtain ⟨hcz15_0, hcz15_1, hcz15_2, hcz15_3, hcz15_4, hcz15_5, hcz15_6, hcz15_7, hfz15_0, hfz15_1, hfz15_2, hfz15_3, hfz15_4, hfz15_5, hfz15_6, hfz15_7⟩ := cl8 BK635.out) | ((with_reducible refine gate_callee (f := 17) rfl ?_); refine goesL_ (some 21) rfl rfl Tryz.func17 (by kernel_rfl) rfl #[.agg #[.int .i64 a0_0, .int .i64 a0_1, .int .i64 a0_2, .slice A0_3 l0_3.length c0_3, .int .i64 a0_4, .int .i64 a0_5, .slice A0_6 l0_6.length c0_6, .int .i64 a0_7]] rfl zD ?_; (with_reducible refine (laws_toGarden.calls k a0_0 a0_1 a0_2 _ _ l0_3 a0_4 a0_5 _ _ l0_6 a0_7 t637 t638 t639 t640 t643 t644 t645 t648 _ ?side1 ?side2 ?side3 ?side4 A7.out).mono ?_); (case side1 => exact zC (Kd.C_below HR0_3.out HB.out)); (case side2 => exact HC0_3.out); (case side3 => exact zC (Kd.C_below HR0_6.out HB.out)); (case side4 => exact HC0_6.out); rintro e w16 ⟨v641, v646, rfl, ho0, ho1, hb⟩; refine ⟨_, rfl, ?_⟩; have HO642 := aK (Kd.R_lower ho0 (bSz (zH1 HB GE635))); have HO647 := aK (Kd.R_lower ho1 (bSz (zH1 HB GE635))); replace BK635 := zB BK635 hb; replace HB := aK (bSp (zH1 HB GE635) hb); (try clear hb); (try clear hb2); (try clear hk); (try clear hi); (try clear ho0); (try clear ho1); obtain ⟨Ao17, co17, eo17⟩ := Kd.R_slice HO642.out; subst eo17; obtain ⟨Ao18, co18, eo18⟩ := Kd.R_slice HO647.out; subst eo18) | ((with_reducible refine gate_callee (f := 16) rfl ?_); refine goesL_ (some 22) rfl rfl Tryz.func16 (by kernel_rfl) rfl #[.agg #[.int .i64 t637, .int .i64 t638, .int .i64 t639, .slice Ao17 t640.length co17, .int .i64 t643, .int .i64 t644, .slice Ao18 t645.length co18, .int .i64 t648]] rfl zD ?_; (with_reducible refine (spec_Enter.calls k t637 t638 t639 _ _ t640 t643 t644 _ _ t645 t648 t649 t650 t651 t652 t655 t656 t657 t660 t661 _ ?side1 ?side2 ?side3 ?side4 A8.out).mono ?_); (case side1 => exact zC (Kd.R_reads' HO642.out).2.2); (case side2 => exact (Kd.R_reads' HO642.out).2.1); (case side3 => exact zC (Kd.R_reads' HO647.out).2.2); (case side4 => exact (Kd.R_reads' HO647.out).2.1); rintro e w19 ⟨v653, v658, rfl, ho0, ho1, hb⟩; refine ⟨_, rfl, ?_⟩; have HO654 := aK (Kd.R_lower (Kd.R_new' (Kd.R_new' ho0 (Kd.R_lt (zA HO642))) (Kd.R_lt (zA HO647))) (bSz (zH1 HB GE635))); have HO659 := aK (Kd.R_lower (Kd.R_new' (Kd.R_new' ho1 (Kd.R_lt (zA HO642))) (Kd.R_lt (zA HO647))) (bSz (zH1 HB GE635))); replace HO642 := aK (Kd.R_mono (Kd.R_told (Kd.R_told (Kd.R_old (zA HO642) hb) (Kd.R_base ho0)) (Kd.R_base ho1)) (fun _ h_ => h_.1)); replace HO647 := aK (Kd.R_mono (Kd.R_told (Kd.R_told (Kd.R_old (zA HO647) hb) (Kd.R_base ho0)) (Kd.R_base ho1)) (fun _ h_ => h_.1)); replace BK635 := zB BK635 hb; replace HB := aK (bSp (zH1 HB GE635) hb); (try clear hb); (try clear hb2); (try clear hk); (try clear hi); (try clear ho0); (try clear ho1)) | ((with_reducible refine gate_dst (N := 4) rfl ?_); refine box_event ?hg (N := 4) ?hd (cs := #[.int .i64 0, .int .i64 0, .int .i64 0, .slice none 0 0, .int .i64 0, .int .i64 0, .slice none 0 0, .int .i64 0]) (t := 38) ?hr ?_; (case hd => rfl); (case hg => rfl); (case hr => first | (go_simp; done) | (go_simp; rfl)); intro gb662 hg w20 hbox hb; replace HO642 := aK (Kd.R_below (zA HO642) hb); replace HO647 := aK (Kd.R_below (zA HO647) hb); replace HO654 := aK (Kd.R_below (zA HO654) hb); replace HO659 := aK (Kd.R_below (zA HO659) hb); have BK662 := aK (hbox); have GW662 := aK ((by rw [hg]; exact (bSz (zH1 HB GE635)) : w.heap.size ≤ gb662)); replace HB := aK (bSp (zH1 HB GE635) hb); have GE662 := GW662; have NB635_662 := nbl BK635 hg (by intro z_; (with_reducible repeat (first | refine blk_drewN ?_ _ | refine kD ?_ | refine kA ?_ _)); exact z_); replace BK635 := zB BK635 hb; have NB662_635 := nbs NB635_662; clear hb hbox hg; have hnb21 := NB662_635.out; have hnc21 := NB635_662.out; obtain ⟨hcz22_0, hcz22_1, hcz22_2, hcz22_3, hcz22_4, hcz22_5, hcz22_6, hcz22_7, hfz22_0, hfz22_1, hfz22_2, hfz22_3, hfz22_4, hfz22_5, hfz22_6, hfz22_7⟩ := cl8 BK662.out; obtain ⟨Ao23, co23, eo23⟩ := Kd.R_slice HO654.out; subst eo23; obtain ⟨Ao24, co24, eo24⟩ := Kd.R_slice HO659.out; subst eo24; obtain ⟨hcz25_0, hcz25_1, hcz25_2, hcz25_3, hcz25_4, hcz25_5, hcz25_6, hcz25_7, hfz25_0, hfz25_1, hfz25_2, hfz25_3, hfz25_4, hfz25_5, hfz25_6, hfz25_7⟩ := cl8 BK635.out) | ((with_reducible refine gate_callee (f := 17) rfl ?_); refine goesL_ (some 26) rfl rfl Tryz.func17 (by kernel_rfl) rfl #[.agg #[.int .i64 a0_0, .int .i64 a0_1, .int .i64 a0_2, .slice A0_3 l0_3.length c0_3, .int .i64 a0_4, .int .i64 a0_5, .slice A0_6 l0_6.length c0_6, .int .i64 a0_7]] rfl zD ?_; (with_reducible refine (laws_toGarden.calls k a0_0 a0_1 a0_2 _ _ l0_3 a0_4 a0_5 _ _ l0_6 a0_7 t663 t664 t665 t666 t669 t670 t671 t674 _ ?side1 ?side2 ?side3 ?side4 A9.out).mono ?_); (case side1 => exact Kd.C_below HR0_3.out (zH2 HB GE635 GE662)); (case side2 => exact HC0_3.out); (case side3 => exact Kd.C_below HR0_6.out (zH2 HB GE635 GE662)); (case side4 => exact HC0_6.out); rintro e w26 ⟨v667, v672, rfl, ho0, ho1, hb⟩; refine ⟨_, rfl, ?_⟩; have HO668 := aK (Kd.R_lower (Kd.R_new' (Kd.R_new' (Kd.R_new' (Kd.R_new' ho0 (Kd.R_lt (zF8 HO642 BK662))) (Kd.R_lt (zF8 HO647 BK662))) (Kd.R_lt (zF8 HO654 BK662))) (Kd.R_lt (zF8 HO659 BK662))) (bSz (zH2 HB GE635 GE662))); have HO673 := aK (Kd.R_lower (Kd.R_new' (Kd.R_new' (Kd.R_new' (Kd.R_new' ho1 (Kd.R_lt (zF8 HO642 BK662))) (Kd.R_lt (zF8 HO647 BK662))) (Kd.R_lt (zF8 HO654 BK662))) (Kd.R_lt (zF8 HO659 BK662))) (bSz (zH2 HB GE635 GE662))); replace HO642 := aK (Kd.R_mono (Kd.R_told (Kd.R_told (Kd.R_old (zF8 HO642 BK662) hb) (Kd.R_base ho0)) (Kd.R_base ho1)) (fun _ h_ => h_.1)); replace HO647 := aK (Kd.R_mono (Kd.R_told (Kd.R_told (Kd.R_old (zF8 HO647 BK662) hb) (Kd.R_base ho0)) (Kd.R_base ho1)) (fun _ h_ => h_.1)); replace HO654 := aK (Kd.R_mono (Kd.R_told (Kd.R_told (Kd.R_old (zF8 HO654 BK662) hb) (Kd.R_base ho0)) (Kd.R_base ho1)) (fun _ h_ => h_.1)); replace HO659 := aK (Kd.R_mono (Kd.R_told (Kd.R_told (Kd.R_old (zF8 HO659 BK662) hb) (Kd.R_base ho0)) (Kd.R_base ho1)) (fun _ h_ => h_.1)); replace BK635 := bkb BK635 hb (by intro z_; (with_reducible repeat (first | refine blk_drewN ?_ _ | refine kD ?_ | refine kA ?_ _)); refine blk_far ?_ NB635_662.out _; (with_reducible repeat (first | refine blk_drewN ?_ _ | refine kD ?_ | refine kA ?_ _)); refine blk_far ?_ NB635_662.out _; (with_reducible repeat (first | refine blk_drewN ?_ _ | refine kD ?_ | refine kA ?_ _)); refine blk_far ?_ NB635_662.out _; (with_reducible repeat (first | refine blk_drewN ?_ _ | refine kD ?_ | refine kA ?_ _)); refine blk_far ?_ NB635_662.out _; (with_reducible repeat (first | refine blk_drewN ?_ _ | refine kD ?_ | refine kA ?_ _)); refine blk_far ?_ NB635_662.out _; (with_reducible repeat (first | refine blk_drewN ?_ _ | refine kD ?_ | refine kA ?_ _)); refine blk_far ?_ NB635_662.out _; (with_reducible repeat (first | refine blk_drewN ?_ _ | refine kD ?_ | refine kA ?_ _)); refine blk_far ?_ NB635_662.out _; (with_reducible repeat (first | refine blk_drewN ?_ _ | refine kD ?_ | refine kA ?_ _)); refine blk_far ?_ NB635_662.out _; (with_reducible repeat (first | refine blk_drewN ?_ _ | refine kD ?_ | refine kA ?_ _)); exact z_); replace BK662 := aK (blk_below (g := gb662) (o := .cells #[.int .i64 t649, .int .i64 t650, .int .i64 t651, .slice Ao23 t652.length co23, .int .i64 t655, .int .i64 t656, .slice Ao24 t657.length co24, .int .i64 t660] 38 (0, 0)) (by (with_reducible repeat (first | refine blk_drewN ?_ _ | refine kD ?_ | refine kA ?_ _)); refine blk_put (cs := #[.int .i64 t649, .int .i64 t650, .int .i64 t651, .slice Ao23 t652.length co23, .int .i64 t655, .int .i64 t656, .slice Ao24 t657.length co24, .int .i64 0]) ?_ 7 _ rfl; (with_reducible repeat (first | refine blk_drewN ?_ _ | refine kD ?_ | refine kA ?_ _)); refine blk_put (cs := #[.int .i64 t649, .int .i64 t650, .int .i64 t651, .slice Ao23 t652.length co23, .int .i64 t655, .int .i64 t656, .slice none 0 0, .int .i64 0]) ?_ 6 _ rfl; (with_reducible repeat (first | refine blk_drewN ?_ _ | refine kD ?_ | refine kA ?_ _)); refine blk_put (cs := #[.int .i64 t649, .int .i64 t650, .int .i64 t651, .slice Ao23 t652.length co23, .int .i64 t655, .int .i64 0, .slice none 0 0, .int .i64 0]) ?_ 5 _ rfl; (with_reducible repeat (first | refine blk_drewN ?_ _ | refine kD ?_ | refine kA ?_ _)); refine blk_put (cs := #[.int .i64 t649, .int .i64 t650, .int .i64 t651, .slice Ao23 t652.length co23, .int .i64 0, .int .i64 0, .slice none 0 0, .int .i64 0]) ?_ 4 _ rfl; (with_reducible repeat (first | refine blk_drewN ?_ _ | refine kD ?_ | refine kA ?_ _)); refine blk_put (cs := #[.int .i64 t649, .int .i64 t650, .int .i64 t651, .slice none 0 0, .int .i64 0, .int .i64 0, .slice none 0 0, .int .i64 0]) ?_ 3 _ rfl; (with_reducible repeat (first | refine blk_drewN ?_ _ | refine kD ?_ | refine kA ?_ _)); refine blk_put (cs := #[.int .i64 t649, .int .i64 t650, .int .i64 0, .slice none 0 0, .int .i64 0, .int .i64 0, .slice none 0 0, .int .i64 0]) ?_ 2 _ rfl; (with_reducible repeat (first | refine blk_drewN ?_ _ | refine kD ?_ | refine kA ?_ _)); refine blk_put (cs := #[.int .i64 t649, .int .i64 0, .int .i64 0, .slice none 0 0, .int .i64 0, .int .i64 0, .slice none 0 0, .int .i64 0]) ?_ 1 _ rfl; (with_reducible repeat (first | refine blk_drewN ?_ _ | refine kD ?_ | refine kA ?_ _)); refine blk_put (cs := #[.int .i64 0, .int .i64 0, .int .i64 0, .slice none 0 0, .int .i64 0, .int .i64 0, .slice none 0 0, .int .i64 0]) ?_ 0 _ rfl; (with_reducible repeat (first | refine blk_drewN ?_ _ | refine kD ?_ | refine kA ?_ _)); exact BK662.out) hb); replace HB := aK (bSp (zH2 HB GE635 GE662) hb); (try clear hb); (try clear hb2); (try clear hk); (try clear hi); (try clear ho0); (try clear ho1)) | ((with_reducible refine gate_dst (N := 6) rfl ?_); refine box_event ?hg (N := 6) ?hd (cs := #[.int .i64 0, .int .i64 0, .int .i64 0, .slice none 0 0, .int .i64 0, .int .i64 0, .slice none 0 0, .int .i64 0]) (t := 38) ?hr ?_; (case hd => rfl); (case hg => rfl); (case hr => first | (go_simp; done) | (go_simp; rfl)); intro gb675 hg w27 hbox hb; replace HO642 := aK (Kd.R_below (zA HO642) hb); replace HO647 := aK (Kd.R_below (zA HO647) hb); replace HO654 := aK (Kd.R_below (zA HO654) hb); replace HO659 := aK (Kd.R_below (zA HO659) hb); replace HO668 := aK (Kd.R_below (zA HO668) hb); replace HO673 := aK (Kd.R_below (zA HO673) hb); have BK675 := aK (hbox); have GW675 := aK ((by rw [hg]; exact (bSz (zH2 HB GE635 GE662)) : w.heap.size ≤ gb675)); replace HB := aK (bSp (zH2 HB GE635 GE662) hb); have GE675 := GW675; have NB635_675 := nbl BK635 hg (by intro z_; (with_reducible repeat (first | refine blk_drewN ?_ _ | refine kD ?_ | refine kA ?_ _)); exact z_); replace BK635 := zB BK635 hb; have NB675_635 := nbs NB635_675; have NB662_675 := nbl BK662 hg (by intro z_; (with_reducible repeat (first | refine blk_drewN ?_ _ | refine kD ?_ | refine kA ?_ _)); exact z_); replace BK662 := zB BK662 hb; have NB675_662 := nbs NB662_675; clear hb hbox hg; have hnb28 := NB675_635.out; have hnc28 := NB635_675.out; have hnb29 := NB675_662.out; have hnc29 := NB662_675.out; obtain ⟨hcz30_0, hcz30_1, hcz30_2, hcz30_3, hcz30_4, hcz30_5, hcz30_6, hcz30_7, hfz30_0, hfz30_1, hfz30_2, hfz30_3, hfz30_4, hfz30_5, hfz30_6, hfz30_7⟩ := cl8 BK675.out; obtain ⟨Ao31, co31, eo31⟩ := Kd.R_slice HO668.out; subst eo31; obtain ⟨Ao32, co32, eo32⟩ := Kd.R_slice HO673.out; subst eo32) | ((with_reducible refine gate_callee (f := 18) rfl ?_); refine goesL_ (some 29) rfl rfl Tryz.func18 (by kernel_rfl) rfl #[.agg #[.int .i64 t663, .int .i64 t664, .int .i64 t665, .slice Ao31 t666.length co31, .int .i64 t669, .int .i64 t670, .slice Ao32 t671.length co32, .int .i64 t674]] rfl zD ?_; (with_reducible refine (impl_Enter.calls k t663 t664 t665 _ _ t666 t669 t670 _ _ t671 t674 t676 t677 t678 t679 t682 t683 t684 t687 t688 _ ?side1 ?side2 ?side3 ?side4 A10.out).mono ?_); (case side1 => refine (Kd.R_reads' (e := 3) (base := w.heap.size) (ok := fun k_ => ((((some k_ ≠ (.slice Ao32 t671.length co32 : Value).ownBlock ∧ some k_ ≠ (.slice Ao17 t640.length co17 : Value).ownBlock) ∧ some k_ ≠ (.slice Ao18 t645.length co18 : Value).ownBlock) ∧ some k_ ≠ (.slice Ao23 t652.length co23 : Value).ownBlock) ∧ some k_ ≠ (.slice Ao24 t657.length co24 : Value).ownBlock)) (n := t666.length) (c := co31) ?_).2.2; exact (zF8 HO668 BK675)); (case side2 => exact (Kd.R_reads' HO668.out).2.1); (case side3 => refine (Kd.R_reads' (e := 3) (base := w.heap.size) (ok := fun k_ => ((((some k_ ≠ (.slice Ao31 t666.length co31 : Value).ownBlock ∧ some k_ ≠ (.slice Ao17 t640.length co17 : Value).ownBlock) ∧ some k_ ≠ (.slice Ao18 t645.length co18 : Value).ownBlock) ∧ some k_ ≠ (.slice Ao23 t652.length co23 : Value).ownBlock) ∧ some k_ ≠ (.slice Ao24 t657.length co24 : Value).ownBlock)) (n := t671.length) (c := co32) ?_).2.2; exact (zF8 HO673 BK675)); (case side4 => exact (Kd.R_reads' HO673.out).2.1); rintro e w33 ⟨v680, v685, rfl, ho0, ho1, hb⟩; refine ⟨_, rfl, ?_⟩; have HO681 := aK (Kd.R_lower (Kd.R_new' (Kd.R_new' (Kd.R_new' (Kd.R_new' (Kd.R_new' (Kd.R_new' ho0 (Kd.R_lt (zF8 HO642 BK675))) (Kd.R_lt (zF8 HO647 BK675))) (Kd.R_lt (zF8 HO654 BK675))) (Kd.R_lt (zF8 HO659 BK675))) (Kd.R_lt (zF8 HO668 BK675))) (Kd.R_lt (zF8 HO673 BK675))) (bSz (zH3 HB GE635 GE662 GE675))); have HO686 := aK (Kd.R_lower (Kd.R_new' (Kd.R_new' (Kd.R_new' (Kd.R_new' (Kd.R_new' (Kd.R_new' ho1 (Kd.R_lt (zF8 HO642 BK675))) (Kd.R_lt (zF8 HO647 BK675))) (Kd.R_lt (zF8 HO654 BK675))) (Kd.R_lt (zF8 HO659 BK675))) (Kd.R_lt (zF8 HO668 BK675))) (Kd.R_lt (zF8 HO673 BK675))) (bSz (zH3 HB GE635 GE662 GE675))); replace HO642 := aK (Kd.R_mono (Kd.R_told (Kd.R_told (Kd.R_old (zF8 HO642 BK675) hb) (Kd.R_base ho0)) (Kd.R_base ho1)) (fun _ h_ => h_.1)); replace HO647 := aK (Kd.R_mono (Kd.R_told (Kd.R_told (Kd.R_old (zF8 HO647 BK675) hb) (Kd.R_base ho0)) (Kd.R_base ho1)) (fun _ h_ => h_.1)); replace HO654 := aK (Kd.R_mono (Kd.R_told (Kd.R_told (Kd.R_old (zF8 HO654 BK675) hb) (Kd.R_base ho0)) (Kd.R_base ho1)) (fun _ h_ => h_.1)); replace HO659 := aK (Kd.R_mono (Kd.R_told (Kd.R_told (Kd.R_old (zF8 HO659 BK675) hb) (Kd.R_base ho0)) (Kd.R_base ho1)) (fun _ h_ => h_.1)); replace HO668 := aK (Kd.R_mono (Kd.R_told (Kd.R_told (Kd.R_old (zF8 HO668 BK675) hb) (Kd.R_base ho0)) (Kd.R_base ho1)) (fun _ h_ => h_.1)); replace HO673 := aK (Kd.R_mono (Kd.R_told (Kd.R_told (Kd.R_old (zF8 HO673 BK675) hb) (Kd.R_base ho0)) (Kd.R_base ho1)) (fun _ h_ => h_.1)); replace BK635 := bkb BK635 hb (by intro z_; (with_reducible repeat (first | refine blk_drewN ?_ _ | refine kD ?_ | refine kA ?_ _)); refine blk_far ?_ NB635_675.out _; (with_reducible repeat (first | refine blk_drewN ?_ _ | refine kD ?_ | refine kA ?_ _)); refine blk_far ?_ NB635_675.out _; (with_reducible repeat (first | refine blk_drewN ?_ _ | refine kD ?_ | refine kA ?_ _)); refine blk_far ?_ NB635_675.out _; (with_reducible repeat (first | refine blk_drewN ?_ _ | refine kD ?_ | refine kA ?_ _)); refine blk_far ?_ NB635_675.out _; (with_reducible repeat (first | refine blk_drewN ?_ _ | refine kD ?_ | refine kA ?_ _)); refine blk_far ?_ NB635_675.out _; (with_reducible repeat (first | refine blk_drewN ?_ _ | refine kD ?_ | refine kA ?_ _)); refine blk_far ?_ NB635_675.out _; (with_reducible repeat (first | refine blk_drewN ?_ _ | refine kD ?_ | refine kA ?_ _)); refine blk_far ?_ NB635_675.out _; (with_reducible repeat (first | refine blk_drewN ?_ _ | refine kD ?_ | refine kA ?_ _)); refine blk_far ?_ NB635_675.out _; (with_reducible repeat (first | refine blk_drewN ?_ _ | refine kD ?_ | refine kA ?_ _)); exact z_); replace BK662 := bkb BK662 hb (by intro z_; (with_reducible repeat (first | refine blk_drewN ?_ _ | refine kD ?_ | refine kA ?_ _)); refine blk_far ?_ NB662_675.out _; (with_reducible repeat (first | refine blk_drewN ?_ _ | refine kD ?_ | refine kA ?_ _)); refine blk_far ?_ NB662_675.out _; (with_reducible repeat (first | refine blk_drewN ?_ _ | refine kD ?_ | refine kA ?_ _)); refine blk_far ?_ NB662_675.out _; (with_reducible repeat (first | refine blk_drewN ?_ _ | refine kD ?_ | refine kA ?_ _)); refine blk_far ?_ NB662_675.out _; (with_reducible repeat (first | refine blk_drewN ?_ _ | refine kD ?_ | refine kA ?_ _)); refine blk_far ?_ NB662_675.out _; (with_reducible repeat (first | refine blk_drewN ?_ _ | refine kD ?_ | refine kA ?_ _)); refine blk_far ?_ NB662_675.out _; (with_reducible repeat (first | refine blk_drewN ?_ _ | refine kD ?_ | refine kA ?_ _)); refine blk_far ?_ NB662_675.out _; (with_reducible repeat (first | refine blk_drewN ?_ _ | refine kD ?_ | refine kA ?_ _)); refine blk_far ?_ NB662_675.out _; (with_reducible repeat (first | refine blk_drewN ?_ _ | refine kD ?_ | refine kA ?_ _)); exact z_); replace BK675 := aK (blk_below (g := gb675) (o := .cells #[.int .i64 t663, .int .i64 t664, .int .i64 t665, .slice Ao31 t666.length co31, .int .i64 t669, .int .i64 t670, .slice Ao32 t671.length co32, .int .i64 t674] 38 (0, 0)) (by (with_reducible repeat (first | refine blk_drewN ?_ _ | refine kD ?_ | refine kA ?_ _)); refine blk_put (cs := #[.int .i64 t663, .int .i64 t664, .int .i64 t665, .slice Ao31 t666.length co31, .int .i64 t669, .int .i64 t670, .slice Ao32 t671.length co32, .int .i64 0]) ?_ 7 _ rfl; (with_reducible repeat (first | refine blk_drewN ?_ _ | refine kD ?_ | refine kA ?_ _)); refine blk_put (cs := #[.int .i64 t663, .int .i64 t664, .int .i64 t665, .slice Ao31 t666.length co31, .int .i64 t669, .int .i64 t670, .slice none 0 0, .int .i64 0]) ?_ 6 _ rfl; (with_reducible repeat (first | refine blk_drewN ?_ _ | refine kD ?_ | refine kA ?_ _)); refine blk_put (cs := #[.int .i64 t663, .int .i64 t664, .int .i64 t665, .slice Ao31 t666.length co31, .int .i64 t669, .int .i64 0, .slice none 0 0, .int .i64 0]) ?_ 5 _ rfl; (with_reducible repeat (first | refine blk_drewN ?_ _ | refine kD ?_ | refine kA ?_ _)); refine blk_put (cs := #[.int .i64 t663, .int .i64 t664, .int .i64 t665, .slice Ao31 t666.length co31, .int .i64 0, .int .i64 0, .slice none 0 0, .int .i64 0]) ?_ 4 _ rfl; (with_reducible repeat (first | refine blk_drewN ?_ _ | refine kD ?_ | refine kA ?_ _)); refine blk_put (cs := #[.int .i64 t663, .int .i64 t664, .int .i64 t665, .slice none 0 0, .int .i64 0, .int .i64 0, .slice none 0 0, .int .i64 0]) ?_ 3 _ rfl; (with_reducible repeat (first | refine blk_drewN ?_ _ | refine kD ?_ | refine kA ?_ _)); refine blk_put (cs := #[.int .i64 t663, .int .i64 t664, .int .i64 0, .slice none 0 0, .int .i64 0, .int .i64 0, .slice none 0 0, .int .i64 0]) ?_ 2 _ rfl; (with_reducible repeat (first | refine blk_drewN ?_ _ | refine kD ?_ | refine kA ?_ _)); refine blk_put (cs := #[.int .i64 t663, .int .i64 0, .int .i64 0, .slice none 0 0, .int .i64 0, .int .i64 0, .slice none 0 0, .int .i64 0]) ?_ 1 _ rfl; (with_reducible repeat (first | refine blk_drewN ?_ _ | refine kD ?_ | refine kA ?_ _)); refine blk_put (cs := #[.int .i64 0, .int .i64 0, .int .i64 0, .slice none 0 0, .int .i64 0, .int .i64 0, .slice none 0 0, .int .i64 0]) ?_ 0 _ rfl; (with_reducible repeat (first | refine blk_drewN ?_ _ | refine kD ?_ | refine kA ?_ _)); exact BK675.out) hb); replace HB := aK (bSp (zH3 HB GE635 GE662 GE675) hb); (try clear hb); (try clear hb2); (try clear hk); (try clear hi); (try clear ho0); (try clear ho1)) | ((with_reducible refine gate_dst (N := 7) rfl ?_); refine box_event ?hg (N := 7) ?hd (cs := #[.int .i64 0, .int .i64 0, .int .i64 0, .slice none 0 0, .int .i64 0, .int .i64 0, .slice none 0 0, .int .i64 0]) (t := 38) ?hr ?_; (case hd => rfl); (case hg => rfl); (case hr => first | (go_simp; done) | (go_simp; rfl)); intro gb689 hg w34 hbox hb; replace HO642 := aK (Kd.R_below (zA HO642) hb); replace HO647 := aK (Kd.R_below (zA HO647) hb); replace HO654 := aK (Kd.R_below (zA HO654) hb); replace HO659 := aK (Kd.R_below (zA HO659) hb); replace HO668 := aK (Kd.R_below (zA HO668) hb); replace HO673 := aK (Kd.R_below (zA HO673) hb); replace HO681 := aK (Kd.R_below (zA HO681) hb); replace HO686 := aK (Kd.R_below (zA HO686) hb); have BK689 := aK (hbox); have GW689 := aK ((by rw [hg]; exact (bSz (zH3 HB GE635 GE662 GE675)) : w.heap.size ≤ gb689)); replace HB := aK (bSp (zH3 HB GE635 GE662 GE675) hb); have GE689 := GW689; have NB635_689 := nbl BK635 hg (by intro z_; (with_reducible repeat (first | refine blk_drewN ?_ _ | refine kD ?_ | refine kA ?_ _)); exact z_); replace BK635 := zB BK635 hb; have NB689_635 := nbs NB635_689; have NB662_689 := nbl BK662 hg (by intro z_; (with_reducible repeat (first | refine blk_drewN ?_ _ | refine kD ?_ | refine kA ?_ _)); exact z_); replace BK662 := zB BK662 hb; have NB689_662 := nbs NB662_689; have NB675_689 := nbl BK675 hg (by intro z_; (with_reducible repeat (first | refine blk_drewN ?_ _ | refine kD ?_ | refine kA ?_ _)); exact z_); replace BK675 := zB BK675 hb; have NB689_675 := nbs NB675_689; clear hb hbox hg; have hnb35 := NB689_635.out; have hnc35 := NB635_689.out; have hnb36 := NB689_662.out; have hnc36 := NB662_689.out; have hnb37 := NB689_675.out; have hnc37 := NB675_689.out; obtain ⟨hcz38_0, hcz38_1, hcz38_2, hcz38_3, hcz38_4, hcz38_5, hcz38_6, hcz38_7, hfz38_0, hfz38_1, hfz38_2, hfz38_3, hfz38_4, hfz38_5, hfz38_6, hfz38_7⟩ := cl8 BK689.out; obtain ⟨Ao39, co39, eo39⟩ := Kd.R_slice HO681.out; subst eo39; obtain ⟨Ao40, co40, eo40⟩ := Kd.R_slice HO686.out; subst eo40))
  (try simp only [Act.put, sTA, sZ, sS])
  go_cut [40] (fun v40 wc => ∃ (kq : Nat) (x40_10 : Bool), v40 = .bool x40_10 ∧ Aside0 (laws_FnExactEnter.j0 kq t661 t688 x40_10 a0_0 a0_1 a0_2 l0_3 a0_4 a0_5 l0_6 a0_7 t649 t650 t651 t652 t655 t656 t657 t660 t663 t664 t665 t666 t669 t670 t671 t674 t676 t677 t678 t679 t682 t683 t684 t687 = some true) ∧ Aside0 (kq ≤ k) ∧ Aside0 (Kd.R (Kd.int .i64) 3 wc w.heap.size (fun k_ => some k_ ≠ ((.slice Ao24 t657.length co24) : Value).ownBlock ∧ some k_ ≠ ((.slice Ao31 t666.length co31) : Value).ownBlock ∧ some k_ ≠ ((.slice Ao32 t671.length co32) : Value).ownBlock ∧ some k_ ≠ ((.slice Ao39 t679.length co39) : Value).ownBlock ∧ some k_ ≠ ((.slice Ao40 t684.length co40) : Value).ownBlock) (.slice Ao23 t652.length co23) t652) ∧ Aside0 (Kd.R (Kd.int .i64) 3 wc w.heap.size (fun k_ => some k_ ≠ ((.slice Ao23 t652.length co23) : Value).ownBlock ∧ some k_ ≠ ((.slice Ao31 t666.length co31) : Value).ownBlock ∧ some k_ ≠ ((.slice Ao32 t671.length co32) : Value).ownBlock ∧ some k_ ≠ ((.slice Ao39 t679.length co39) : Value).ownBlock ∧ some k_ ≠ ((.slice Ao40 t684.length co40) : Value).ownBlock) (.slice Ao24 t657.length co24) t657) ∧ Aside0 (Kd.R (Kd.int .i64) 3 wc w.heap.size (fun k_ => some k_ ≠ ((.slice Ao23 t652.length co23) : Value).ownBlock ∧ some k_ ≠ ((.slice Ao24 t657.length co24) : Value).ownBlock ∧ some k_ ≠ ((.slice Ao32 t671.length co32) : Value).ownBlock ∧ some k_ ≠ ((.slice Ao39 t679.length co39) : Value).ownBlock ∧ some k_ ≠ ((.slice Ao40 t684.length co40) : Value).ownBlock) (.slice Ao31 t666.length co31) t666) ∧ Aside0 (Kd.R (Kd.int .i64) 3 wc w.heap.size (fun k_ => some k_ ≠ ((.slice Ao23 t652.length co23) : Value).ownBlock ∧ some k_ ≠ ((.slice Ao24 t657.length co24) : Value).ownBlock ∧ some k_ ≠ ((.slice Ao31 t666.length co31) : Value).ownBlock ∧ some k_ ≠ ((.slice Ao39 t679.length co39) : Value).ownBlock ∧ some k_ ≠ ((.slice Ao40 t684.length co40) : Value).ownBlock) (.slice Ao32 t671.length co32) t671) ∧ Aside0 (Kd.R (Kd.int .i64) 3 wc w.heap.size (fun k_ => some k_ ≠ ((.slice Ao23 t652.length co23) : Value).ownBlock ∧ some k_ ≠ ((.slice Ao24 t657.length co24) : Value).ownBlock ∧ some k_ ≠ ((.slice Ao31 t666.length co31) : Value).ownBlock ∧ some k_ ≠ ((.slice Ao32 t671.length co32) : Value).ownBlock ∧ some k_ ≠ ((.slice Ao40 t684.length co40) : Value).ownBlock) (.slice Ao39 t679.length co39) t679) ∧ Aside0 (Kd.R (Kd.int .i64) 3 wc w.heap.size (fun k_ => some k_ ≠ ((.slice Ao23 t652.length co23) : Value).ownBlock ∧ some k_ ≠ ((.slice Ao24 t657.length co24) : Value).ownBlock ∧ some k_ ≠ ((.slice Ao31 t666.length co31) : Value).ownBlock ∧ some k_ ≠ ((.slice Ao32 t671.length co32) : Value).ownBlock ∧ some k_ ≠ ((.slice Ao39 t679.length co39) : Value).ownBlock) (.slice Ao40 t684.length co40) t684) ∧ Aside0 (wc.heap[gb635]? = some (.cells #[.int .i64 a0_0, .int .i64 a0_1, .int .i64 a0_2, (.slice A0_3 l0_3.length c0_3), .int .i64 a0_4, .int .i64 a0_5, (.slice A0_6 l0_6.length c0_6), .int .i64 a0_7] 30 (0, 0))) ∧ Aside0 (wc.heap[gb662]? = some (.cells #[.int .i64 t649, .int .i64 t650, .int .i64 t651, (.slice Ao23 t652.length co23), .int .i64 t655, .int .i64 t656, (.slice Ao24 t657.length co24), .int .i64 t660] 38 (0, 0))) ∧ Aside0 (wc.heap[gb675]? = some (.cells #[.int .i64 t663, .int .i64 t664, .int .i64 t665, (.slice Ao31 t666.length co31), .int .i64 t669, .int .i64 t670, (.slice Ao32 t671.length co32), .int .i64 t674] 38 (0, 0))) ∧ Aside0 (wc.heap[gb689]? = some (.cells #[.int .i64 t676, .int .i64 t677, .int .i64 t678, (.slice Ao39 t679.length co39), .int .i64 t682, .int .i64 t683, (.slice Ao40 t684.length co40), .int .i64 t687] 38 (0, 0))) ∧ Aside0 (Below w.heap.size w wc))
  case first =>
   have H := HC11.out
   clear HC11
   replace H := Option.bind_eq_some_iff.mp H
   obtain ⟨t690, A410, H⟩ := H
   replace H : (if t690 = true then (laws_FnExactEnter.j0 k t661 t688 (t688 != t661) a0_0 a0_1 a0_2 l0_3 a0_4 a0_5 l0_6 a0_7 t649 t650 t651 t652 t655 t656 t657 t660 t663 t664 t665 t666 t669 t670 t671 t674 t676 t677 t678 t679 t682 t683 t684 t687) else (laws_FnExactEnter.j0 k t661 t688 true a0_0 a0_1 a0_2 l0_3 a0_4 a0_5 l0_6 a0_7 t649 t650 t651 t652 t655 t656 t657 t660 t663 t664 t665 t666 t669 t670 t671 t674 t676 t677 t678 t679 t682 t683 t684 t687)) = some true := H
   have A41 := aK A410
   clear A410
   by_cases c42 : t690 = true
   ·subst c42
    have H1 : (laws_FnExactEnter.j0 k t661 t688 (t688 != t661) a0_0 a0_1 a0_2 l0_3 a0_4 a0_5 l0_6 a0_7 t649 t650 t651 t652 t655 t656 t657 t660 t663 t664 t665 t666 t669 t670 t671 t674 t676 t677 t678 t679 t682 t683 t684 t687) = some true := by first | (rw [if_pos rfl] at H; exact H) | rfl
    clear H
    have H := H1
    clear H1
    have H' := aK H
    clear H
    have hnb43 := NB689_635.out
    have hnc43 := NB635_689.out
    have hnb44 := NB689_662.out
    have hnc44 := NB662_689.out
    have hnb45 := NB689_675.out
    have hnc45 := NB675_689.out
    obtain ⟨hcz46_0, hcz46_1, hcz46_2, hcz46_3, hcz46_4, hcz46_5, hcz46_6, hcz46_7, hfz46_0, hfz46_1, hfz46_2, hfz46_3, hfz46_4, hfz46_5, hfz46_6, hfz46_7⟩ := cl8 BK689.out
    have hnb47 := NB662_635.out
    have hnc47 := NB635_662.out
    have hnb48 := NB662_675.out
    have hnc48 := NB675_662.out
    obtain ⟨hcz49_0, hcz49_1, hcz49_2, hcz49_3, hcz49_4, hcz49_5, hcz49_6, hcz49_7, hfz49_0, hfz49_1, hfz49_2, hfz49_3, hfz49_4, hfz49_5, hfz49_6, hfz49_7⟩ := cl8 BK662.out
    go_wp2_with (first | ((with_reducible refine gate_callee (f := 19) rfl ?_); refine goesL_ (some 34) rfl rfl Tryz.func19 (by kernel_rfl) rfl #[.agg #[.int .i64 t676, .int .i64 t677, .int .i64 t678, .slice Ao39 t679.length co39, .int .i64 t682, .int .i64 t683, .slice Ao40 t684.length co40, .int .i64 t687], .agg #[.int .i64 t649, .int .i64 t650, .int .i64 t651, .slice Ao23 t652.length co23, .int .i64 t655, .int .i64 t656, .slice Ao24 t657.length co24, .int .i64 t660]] rfl zD ?_; (with_reducible refine (laws_eqGarden.calls k t676 t677 t678 _ _ t679 t682 t683 _ _ t684 t687 t649 t650 t651 _ _ t652 t655 t656 _ _ t657 t660 true _ ?side1 ?side2 ?side3 ?side4 ?side5 ?side6 ?side7 ?side8 A41.out).mono ?_); (case side1 => refine (Kd.R_reads' (e := 3) (base := w.heap.size) (ok := fun k_ => ((((((some k_ ≠ (.slice Ao40 t684.length co40 : Value).ownBlock ∧ some k_ ≠ (.slice Ao17 t640.length co17 : Value).ownBlock) ∧ some k_ ≠ (.slice Ao18 t645.length co18 : Value).ownBlock) ∧ some k_ ≠ (.slice Ao23 t652.length co23 : Value).ownBlock) ∧ some k_ ≠ (.slice Ao24 t657.length co24 : Value).ownBlock) ∧ some k_ ≠ (.slice Ao31 t666.length co31 : Value).ownBlock) ∧ some k_ ≠ (.slice Ao32 t671.length co32 : Value).ownBlock)) (n := t679.length) (c := co39) ?_).2.2; exact (zF8 HO681 BK689)); (case side2 => exact (Kd.R_reads' HO681.out).2.1); (case side3 => refine (Kd.R_reads' (e := 3) (base := w.heap.size) (ok := fun k_ => ((((((some k_ ≠ (.slice Ao39 t679.length co39 : Value).ownBlock ∧ some k_ ≠ (.slice Ao17 t640.length co17 : Value).ownBlock) ∧ some k_ ≠ (.slice Ao18 t645.length co18 : Value).ownBlock) ∧ some k_ ≠ (.slice Ao23 t652.length co23 : Value).ownBlock) ∧ some k_ ≠ (.slice Ao24 t657.length co24 : Value).ownBlock) ∧ some k_ ≠ (.slice Ao31 t666.length co31 : Value).ownBlock) ∧ some k_ ≠ (.slice Ao32 t671.length co32 : Value).ownBlock)) (n := t684.length) (c := co40) ?_).2.2; exact (zF8 HO686 BK689)); (case side4 => exact (Kd.R_reads' HO686.out).2.1); (case side5 => refine (Kd.R_reads' (e := 3) (base := w.heap.size) (ok := fun k_ => ((((((some k_ ≠ (.slice Ao24 t657.length co24 : Value).ownBlock ∧ some k_ ≠ (.slice Ao17 t640.length co17 : Value).ownBlock) ∧ some k_ ≠ (.slice Ao18 t645.length co18 : Value).ownBlock) ∧ some k_ ≠ (.slice Ao31 t666.length co31 : Value).ownBlock) ∧ some k_ ≠ (.slice Ao32 t671.length co32 : Value).ownBlock) ∧ some k_ ≠ (.slice Ao39 t679.length co39 : Value).ownBlock) ∧ some k_ ≠ (.slice Ao40 t684.length co40 : Value).ownBlock)) (n := t652.length) (c := co23) ?_).2.2; exact (zF8 HO654 BK689)); (case side6 => exact (Kd.R_reads' HO654.out).2.1); (case side7 => refine (Kd.R_reads' (e := 3) (base := w.heap.size) (ok := fun k_ => ((((((some k_ ≠ (.slice Ao23 t652.length co23 : Value).ownBlock ∧ some k_ ≠ (.slice Ao17 t640.length co17 : Value).ownBlock) ∧ some k_ ≠ (.slice Ao18 t645.length co18 : Value).ownBlock) ∧ some k_ ≠ (.slice Ao31 t666.length co31 : Value).ownBlock) ∧ some k_ ≠ (.slice Ao32 t671.length co32 : Value).ownBlock) ∧ some k_ ≠ (.slice Ao39 t679.length co39 : Value).ownBlock) ∧ some k_ ≠ (.slice Ao40 t684.length co40 : Value).ownBlock)) (n := t657.length) (c := co24) ?_).2.2; exact (zF8 HO659 BK689)); (case side8 => exact (Kd.R_reads' HO659.out).2.1); rintro e w50 ⟨rfl, hb⟩; refine ⟨_, rfl, ?_⟩; replace HO642 := aK (Kd.R_below (zF8 HO642 BK689) hb); replace HO647 := aK (Kd.R_below (zF8 HO647 BK689) hb); replace HO654 := aK (Kd.R_below (zF8 HO654 BK689) hb); replace HO659 := aK (Kd.R_below (zF8 HO659 BK689) hb); replace HO668 := aK (Kd.R_below (zF8 HO668 BK689) hb); replace HO673 := aK (Kd.R_below (zF8 HO673 BK689) hb); replace HO681 := aK (Kd.R_below (zF8 HO681 BK689) hb); replace HO686 := aK (Kd.R_below (zF8 HO686 BK689) hb); replace BK635 := bkb BK635 hb (by intro z_; (with_reducible repeat (first | refine blk_drewN ?_ _ | refine kD ?_ | refine kA ?_ _)); refine blk_far ?_ NB635_689.out _; (with_reducible repeat (first | refine blk_drewN ?_ _ | refine kD ?_ | refine kA ?_ _)); refine blk_far ?_ NB635_689.out _; (with_reducible repeat (first | refine blk_drewN ?_ _ | refine kD ?_ | refine kA ?_ _)); refine blk_far ?_ NB635_689.out _; (with_reducible repeat (first | refine blk_drewN ?_ _ | refine kD ?_ | refine kA ?_ _)); refine blk_far ?_ NB635_689.out _; (with_reducible repeat (first | refine blk_drewN ?_ _ | refine kD ?_ | refine kA ?_ _)); refine blk_far ?_ NB635_689.out _; (with_reducible repeat (first | refine blk_drewN ?_ _ | refine kD ?_ | refine kA ?_ _)); refine blk_far ?_ NB635_689.out _; (with_reducible repeat (first | refine blk_drewN ?_ _ | refine kD ?_ | refine kA ?_ _)); refine blk_far ?_ NB635_689.out _; (with_reducible repeat (first | refine blk_drewN ?_ _ | refine kD ?_ | refine kA ?_ _)); refine blk_far ?_ NB635_689.out _; (with_reducible repeat (first | refine blk_drewN ?_ _ | refine kD ?_ | refine kA ?_ _)); exact z_); replace BK662 := bkb BK662 hb (by intro z_; (with_reducible repeat (first | refine blk_drewN ?_ _ | refine kD ?_ | refine kA ?_ _)); refine blk_far ?_ NB662_689.out _; (with_reducible repeat (first | refine blk_drewN ?_ _ | refine kD ?_ | refine kA ?_ _)); refine blk_far ?_ NB662_689.out _; (with_reducible repeat (first | refine blk_drewN ?_ _ | refine kD ?_ | refine kA ?_ _)); refine blk_far ?_ NB662_689.out _; (with_reducible repeat (first | refine blk_drewN ?_ _ | refine kD ?_ | refine kA ?_ _)); refine blk_far ?_ NB662_689.out _; (with_reducible repeat (first | refine blk_drewN ?_ _ | refine kD ?_ | refine kA ?_ _)); refine blk_far ?_ NB662_689.out _; (with_reducible repeat (first | refine blk_drewN ?_ _ | refine kD ?_ | refine kA ?_ _)); refine blk_far ?_ NB662_689.out _; (with_reducible repeat (first | refine blk_drewN ?_ _ | refine kD ?_ | refine kA ?_ _)); refine blk_far ?_ NB662_689.out _; (with_reducible repeat (first | refine blk_drewN ?_ _ | refine kD ?_ | refine kA ?_ _)); refine blk_far ?_ NB662_689.out _; (with_reducible repeat (first | refine blk_drewN ?_ _ | refine kD ?_ | refine kA ?_ _)); exact z_); replace BK675 := bkb BK675 hb (by intro z_; (with_reducible repeat (first | refine blk_drewN ?_ _ | refine kD ?_ | refine kA ?_ _)); refine blk_far ?_ NB675_689.out _; (with_reducible repeat (first | refine blk_drewN ?_ _ | refine kD ?_ | refine kA ?_ _)); refine blk_far ?_ NB675_689.out _; (with_reducible repeat (first | refine blk_drewN ?_ _ | refine kD ?_ | refine kA ?_ _)); refine blk_far ?_ NB675_689.out _; (with_reducible repeat (first | refine blk_drewN ?_ _ | refine kD ?_ | refine kA ?_ _)); refine blk_far ?_ NB675_689.out _; (with_reducible repeat (first | refine blk_drewN ?_ _ | refine kD ?_ | refine kA ?_ _)); refine blk_far ?_ NB675_689.out _; (with_reducible repeat (first | refine blk_drewN ?_ _ | refine kD ?_ | refine kA ?_ _)); refine blk_far ?_ NB675_689.out _; (with_reducible repeat (first | refine blk_drewN ?_ _ | refine kD ?_ | refine kA ?_ _)); refine blk_far ?_ NB675_689.out _; (with_reducible repeat (first | refine blk_drewN ?_ _ | refine kD ?_ | refine kA ?_ _)); refine blk_far ?_ NB675_689.out _; (with_reducible repeat (first | refine blk_drewN ?_ _ | refine kD ?_ | refine kA ?_ _)); exact z_); replace BK689 := aK (blk_below (g := gb689) (o := .cells #[.int .i64 t676, .int .i64 t677, .int .i64 t678, .slice Ao39 t679.length co39, .int .i64 t682, .int .i64 t683, .slice Ao40 t684.length co40, .int .i64 t687] 38 (0, 0)) (by (with_reducible repeat (first | refine blk_drewN ?_ _ | refine kD ?_ | refine kA ?_ _)); refine blk_put (cs := #[.int .i64 t676, .int .i64 t677, .int .i64 t678, .slice Ao39 t679.length co39, .int .i64 t682, .int .i64 t683, .slice Ao40 t684.length co40, .int .i64 0]) ?_ 7 _ rfl; (with_reducible repeat (first | refine blk_drewN ?_ _ | refine kD ?_ | refine kA ?_ _)); refine blk_put (cs := #[.int .i64 t676, .int .i64 t677, .int .i64 t678, .slice Ao39 t679.length co39, .int .i64 t682, .int .i64 t683, .slice none 0 0, .int .i64 0]) ?_ 6 _ rfl; (with_reducible repeat (first | refine blk_drewN ?_ _ | refine kD ?_ | refine kA ?_ _)); refine blk_put (cs := #[.int .i64 t676, .int .i64 t677, .int .i64 t678, .slice Ao39 t679.length co39, .int .i64 t682, .int .i64 0, .slice none 0 0, .int .i64 0]) ?_ 5 _ rfl; (with_reducible repeat (first | refine blk_drewN ?_ _ | refine kD ?_ | refine kA ?_ _)); refine blk_put (cs := #[.int .i64 t676, .int .i64 t677, .int .i64 t678, .slice Ao39 t679.length co39, .int .i64 0, .int .i64 0, .slice none 0 0, .int .i64 0]) ?_ 4 _ rfl; (with_reducible repeat (first | refine blk_drewN ?_ _ | refine kD ?_ | refine kA ?_ _)); refine blk_put (cs := #[.int .i64 t676, .int .i64 t677, .int .i64 t678, .slice none 0 0, .int .i64 0, .int .i64 0, .slice none 0 0, .int .i64 0]) ?_ 3 _ rfl; (with_reducible repeat (first | refine blk_drewN ?_ _ | refine kD ?_ | refine kA ?_ _)); refine blk_put (cs := #[.int .i64 t676, .int .i64 t677, .int .i64 0, .slice none 0 0, .int .i64 0, .int .i64 0, .slice none 0 0, .int .i64 0]) ?_ 2 _ rfl; (with_reducible repeat (first | refine blk_drewN ?_ _ | refine kD ?_ | refine kA ?_ _)); refine blk_put (cs := #[.int .i64 t676, .int .i64 0, .int .i64 0, .slice none 0 0, .int .i64 0, .int .i64 0, .slice none 0 0, .int .i64 0]) ?_ 1 _ rfl; (with_reducible repeat (first | refine blk_drewN ?_ _ | refine kD ?_ | refine kA ?_ _)); refine blk_put (cs := #[.int .i64 0, .int .i64 0, .int .i64 0, .slice none 0 0, .int .i64 0, .int .i64 0, .slice none 0 0, .int .i64 0]) ?_ 0 _ rfl; (with_reducible repeat (first | refine blk_drewN ?_ _ | refine kD ?_ | refine kA ?_ _)); exact BK689.out) hb); replace HB := aK (bSp (zH4 HB GE635 GE662 GE675 GE689) hb); (try clear hb); (try clear hb2); (try clear hk); (try clear hi)))
    go_meet
    case rel => exact ⟨_, ((t688 != t661)), (by first | rfl | (simp; done) | (simp [*]; done)), H', ⟨by first | omega | exact Nat.le_refl _⟩, ⟨by (with_reducible repeat (first | apply Kd.R_alloc | apply Kd.R_drewN | apply Kd.R_drew)); exact Kd.R_mono HO654.out (fun _ hk => ⟨hk.1.1.1.1.1.1, ⟨hk.1.1.1.2, ⟨hk.1.1.2, ⟨hk.1.2, hk.2⟩⟩⟩⟩)⟩, ⟨by (with_reducible repeat (first | apply Kd.R_alloc | apply Kd.R_drewN | apply Kd.R_drew)); exact Kd.R_mono HO659.out (fun _ hk => ⟨hk.1.1.1.1.1.1, ⟨hk.1.1.1.2, ⟨hk.1.1.2, ⟨hk.1.2, hk.2⟩⟩⟩⟩)⟩, ⟨by (with_reducible repeat (first | apply Kd.R_alloc | apply Kd.R_drewN | apply Kd.R_drew)); exact Kd.R_mono HO668.out (fun _ hk => ⟨hk.1.1.1.2, ⟨hk.1.1.2, ⟨hk.1.1.1.1.1.1, ⟨hk.1.2, hk.2⟩⟩⟩⟩)⟩, ⟨by (with_reducible repeat (first | apply Kd.R_alloc | apply Kd.R_drewN | apply Kd.R_drew)); exact Kd.R_mono HO673.out (fun _ hk => ⟨hk.1.1.1.2, ⟨hk.1.1.2, ⟨hk.1.1.1.1.1.1, ⟨hk.1.2, hk.2⟩⟩⟩⟩)⟩, ⟨by (with_reducible repeat (first | apply Kd.R_alloc | apply Kd.R_drewN | apply Kd.R_drew)); exact Kd.R_mono HO681.out (fun _ hk => ⟨hk.1.1.1.2, ⟨hk.1.1.2, ⟨hk.1.2, ⟨hk.2, hk.1.1.1.1.1.1⟩⟩⟩⟩)⟩, ⟨by (with_reducible repeat (first | apply Kd.R_alloc | apply Kd.R_drewN | apply Kd.R_drew)); exact Kd.R_mono HO686.out (fun _ hk => ⟨hk.1.1.1.2, ⟨hk.1.1.2, ⟨hk.1.2, ⟨hk.2, hk.1.1.1.1.1.1⟩⟩⟩⟩)⟩, ⟨by (with_reducible repeat (first | refine blk_drewN ?_ _ | refine kD ?_ | refine kA ?_ _)); exact BK635.out⟩, ⟨by (with_reducible repeat (first | refine blk_drewN ?_ _ | refine kD ?_ | refine kA ?_ _)); exact BK662.out⟩, ⟨by (with_reducible repeat (first | refine blk_drewN ?_ _ | refine kD ?_ | refine kA ?_ _)); exact BK675.out⟩, ⟨by (with_reducible repeat (first | refine blk_drewN ?_ _ | refine kD ?_ | refine kA ?_ _)); exact BK689.out⟩, ⟨by repeat (first | (with_reducible first | exact HB.out | apply bAl | apply bDN | apply bD1 | refine bSt ?_ GE635.out | refine bSt ?_ GE662.out | refine bSt ?_ GE675.out | refine bSt ?_ GE689.out) | exact HB.out)⟩⟩
   ·replace c42 := Bool.eq_false_iff.mpr c42
    subst c42
    have H1 : (laws_FnExactEnter.j0 k t661 t688 true a0_0 a0_1 a0_2 l0_3 a0_4 a0_5 l0_6 a0_7 t649 t650 t651 t652 t655 t656 t657 t660 t663 t664 t665 t666 t669 t670 t671 t674 t676 t677 t678 t679 t682 t683 t684 t687) = some true := by rw [if_neg (show ¬ (false = true) by decide)] at H; exact H
    clear H
    have H := H1
    clear H1
    have H' := aK H
    clear H
    have hnb51 := NB689_635.out
    have hnc51 := NB635_689.out
    have hnb52 := NB689_662.out
    have hnc52 := NB662_689.out
    have hnb53 := NB689_675.out
    have hnc53 := NB675_689.out
    obtain ⟨hcz54_0, hcz54_1, hcz54_2, hcz54_3, hcz54_4, hcz54_5, hcz54_6, hcz54_7, hfz54_0, hfz54_1, hfz54_2, hfz54_3, hfz54_4, hfz54_5, hfz54_6, hfz54_7⟩ := cl8 BK689.out
    have hnb55 := NB662_635.out
    have hnc55 := NB635_662.out
    have hnb56 := NB662_675.out
    have hnc56 := NB675_662.out
    obtain ⟨hcz57_0, hcz57_1, hcz57_2, hcz57_3, hcz57_4, hcz57_5, hcz57_6, hcz57_7, hfz57_0, hfz57_1, hfz57_2, hfz57_3, hfz57_4, hfz57_5, hfz57_6, hfz57_7⟩ := cl8 BK662.out
    go_wp2_with (first | ((with_reducible refine gate_callee (f := 19) rfl ?_); refine goesL_ (some 34) rfl rfl Tryz.func19 (by kernel_rfl) rfl #[.agg #[.int .i64 t676, .int .i64 t677, .int .i64 t678, .slice Ao39 t679.length co39, .int .i64 t682, .int .i64 t683, .slice Ao40 t684.length co40, .int .i64 t687], .agg #[.int .i64 t649, .int .i64 t650, .int .i64 t651, .slice Ao23 t652.length co23, .int .i64 t655, .int .i64 t656, .slice Ao24 t657.length co24, .int .i64 t660]] rfl zD ?_; (with_reducible refine (laws_eqGarden.calls k t676 t677 t678 _ _ t679 t682 t683 _ _ t684 t687 t649 t650 t651 _ _ t652 t655 t656 _ _ t657 t660 false _ ?side1 ?side2 ?side3 ?side4 ?side5 ?side6 ?side7 ?side8 A41.out).mono ?_); (case side1 => refine (Kd.R_reads' (e := 3) (base := w.heap.size) (ok := fun k_ => ((((((some k_ ≠ (.slice Ao40 t684.length co40 : Value).ownBlock ∧ some k_ ≠ (.slice Ao17 t640.length co17 : Value).ownBlock) ∧ some k_ ≠ (.slice Ao18 t645.length co18 : Value).ownBlock) ∧ some k_ ≠ (.slice Ao23 t652.length co23 : Value).ownBlock) ∧ some k_ ≠ (.slice Ao24 t657.length co24 : Value).ownBlock) ∧ some k_ ≠ (.slice Ao31 t666.length co31 : Value).ownBlock) ∧ some k_ ≠ (.slice Ao32 t671.length co32 : Value).ownBlock)) (n := t679.length) (c := co39) ?_).2.2; exact (zF8 HO681 BK689)); (case side2 => exact (Kd.R_reads' HO681.out).2.1); (case side3 => refine (Kd.R_reads' (e := 3) (base := w.heap.size) (ok := fun k_ => ((((((some k_ ≠ (.slice Ao39 t679.length co39 : Value).ownBlock ∧ some k_ ≠ (.slice Ao17 t640.length co17 : Value).ownBlock) ∧ some k_ ≠ (.slice Ao18 t645.length co18 : Value).ownBlock) ∧ some k_ ≠ (.slice Ao23 t652.length co23 : Value).ownBlock) ∧ some k_ ≠ (.slice Ao24 t657.length co24 : Value).ownBlock) ∧ some k_ ≠ (.slice Ao31 t666.length co31 : Value).ownBlock) ∧ some k_ ≠ (.slice Ao32 t671.length co32 : Value).ownBlock)) (n := t684.length) (c := co40) ?_).2.2; exact (zF8 HO686 BK689)); (case side4 => exact (Kd.R_reads' HO686.out).2.1); (case side5 => refine (Kd.R_reads' (e := 3) (base := w.heap.size) (ok := fun k_ => ((((((some k_ ≠ (.slice Ao24 t657.length co24 : Value).ownBlock ∧ some k_ ≠ (.slice Ao17 t640.length co17 : Value).ownBlock) ∧ some k_ ≠ (.slice Ao18 t645.length co18 : Value).ownBlock) ∧ some k_ ≠ (.slice Ao31 t666.length co31 : Value).ownBlock) ∧ some k_ ≠ (.slice Ao32 t671.length co32 : Value).ownBlock) ∧ some k_ ≠ (.slice Ao39 t679.length co39 : Value).ownBlock) ∧ some k_ ≠ (.slice Ao40 t684.length co40 : Value).ownBlock)) (n := t652.length) (c := co23) ?_).2.2; exact (zF8 HO654 BK689)); (case side6 => exact (Kd.R_reads' HO654.out).2.1); (case side7 => refine (Kd.R_reads' (e := 3) (base := w.heap.size) (ok := fun k_ => ((((((some k_ ≠ (.slice Ao23 t652.length co23 : Value).ownBlock ∧ some k_ ≠ (.slice Ao17 t640.length co17 : Value).ownBlock) ∧ some k_ ≠ (.slice Ao18 t645.length co18 : Value).ownBlock) ∧ some k_ ≠ (.slice Ao31 t666.length co31 : Value).ownBlock) ∧ some k_ ≠ (.slice Ao32 t671.length co32 : Value).ownBlock) ∧ some k_ ≠ (.slice Ao39 t679.length co39 : Value).ownBlock) ∧ some k_ ≠ (.slice Ao40 t684.length co40 : Value).ownBlock)) (n := t657.length) (c := co24) ?_).2.2; exact (zF8 HO659 BK689)); (case side8 => exact (Kd.R_reads' HO659.out).2.1); rintro e w58 ⟨rfl, hb⟩; refine ⟨_, rfl, ?_⟩; replace HO642 := aK (Kd.R_below (zF8 HO642 BK689) hb); replace HO647 := aK (Kd.R_below (zF8 HO647 BK689) hb); replace HO654 := aK (Kd.R_below (zF8 HO654 BK689) hb); replace HO659 := aK (Kd.R_below (zF8 HO659 BK689) hb); replace HO668 := aK (Kd.R_below (zF8 HO668 BK689) hb); replace HO673 := aK (Kd.R_below (zF8 HO673 BK689) hb); replace HO681 := aK (Kd.R_below (zF8 HO681 BK689) hb); replace HO686 := aK (Kd.R_below (zF8 HO686 BK689) hb); replace BK635 := bkb BK635 hb (by intro z_; (with_reducible repeat (first | refine blk_drewN ?_ _ | refine kD ?_ | refine kA ?_ _)); refine blk_far ?_ NB635_689.out _; (with_reducible repeat (first | refine blk_drewN ?_ _ | refine kD ?_ | refine kA ?_ _)); refine blk_far ?_ NB635_689.out _; (with_reducible repeat (first | refine blk_drewN ?_ _ | refine kD ?_ | refine kA ?_ _)); refine blk_far ?_ NB635_689.out _; (with_reducible repeat (first | refine blk_drewN ?_ _ | refine kD ?_ | refine kA ?_ _)); refine blk_far ?_ NB635_689.out _; (with_reducible repeat (first | refine blk_drewN ?_ _ | refine kD ?_ | refine kA ?_ _)); refine blk_far ?_ NB635_689.out _; (with_reducible repeat (first | refine blk_drewN ?_ _ | refine kD ?_ | refine kA ?_ _)); refine blk_far ?_ NB635_689.out _; (with_reducible repeat (first | refine blk_drewN ?_ _ | refine kD ?_ | refine kA ?_ _)); refine blk_far ?_ NB635_689.out _; (with_reducible repeat (first | refine blk_drewN ?_ _ | refine kD ?_ | refine kA ?_ _)); refine blk_far ?_ NB635_689.out _; (with_reducible repeat (first | refine blk_drewN ?_ _ | refine kD ?_ | refine kA ?_ _)); exact z_); replace BK662 := bkb BK662 hb (by intro z_; (with_reducible repeat (first | refine blk_drewN ?_ _ | refine kD ?_ | refine kA ?_ _)); refine blk_far ?_ NB662_689.out _; (with_reducible repeat (first | refine blk_drewN ?_ _ | refine kD ?_ | refine kA ?_ _)); refine blk_far ?_ NB662_689.out _; (with_reducible repeat (first | refine blk_drewN ?_ _ | refine kD ?_ | refine kA ?_ _)); refine blk_far ?_ NB662_689.out _; (with_reducible repeat (first | refine blk_drewN ?_ _ | refine kD ?_ | refine kA ?_ _)); refine blk_far ?_ NB662_689.out _; (with_reducible repeat (first | refine blk_drewN ?_ _ | refine kD ?_ | refine kA ?_ _)); refine blk_far ?_ NB662_689.out _; (with_reducible repeat (first | refine blk_drewN ?_ _ | refine kD ?_ | refine kA ?_ _)); refine blk_far ?_ NB662_689.out _; (with_reducible repeat (first | refine blk_drewN ?_ _ | refine kD ?_ | refine kA ?_ _)); refine blk_far ?_ NB662_689.out _; (with_reducible repeat (first | refine blk_drewN ?_ _ | refine kD ?_ | refine kA ?_ _)); refine blk_far ?_ NB662_689.out _; (with_reducible repeat (first | refine blk_drewN ?_ _ | refine kD ?_ | refine kA ?_ _)); exact z_); replace BK675 := bkb BK675 hb (by intro z_; (with_reducible repeat (first | refine blk_drewN ?_ _ | refine kD ?_ | refine kA ?_ _)); refine blk_far ?_ NB675_689.out _; (with_reducible repeat (first | refine blk_drewN ?_ _ | refine kD ?_ | refine kA ?_ _)); refine blk_far ?_ NB675_689.out _; (with_reducible repeat (first | refine blk_drewN ?_ _ | refine kD ?_ | refine kA ?_ _)); refine blk_far ?_ NB675_689.out _; (with_reducible repeat (first | refine blk_drewN ?_ _ | refine kD ?_ | refine kA ?_ _)); refine blk_far ?_ NB675_689.out _; (with_reducible repeat (first | refine blk_drewN ?_ _ | refine kD ?_ | refine kA ?_ _)); refine blk_far ?_ NB675_689.out _; (with_reducible repeat (first | refine blk_drewN ?_ _ | refine kD ?_ | refine kA ?_ _)); refine blk_far ?_ NB675_689.out _; (with_reducible repeat (first | refine blk_drewN ?_ _ | refine kD ?_ | refine kA ?_ _)); refine blk_far ?_ NB675_689.out _; (with_reducible repeat (first | refine blk_drewN ?_ _ | refine kD ?_ | refine kA ?_ _)); refine blk_far ?_ NB675_689.out _; (with_reducible repeat (first | refine blk_drewN ?_ _ | refine kD ?_ | refine kA ?_ _)); exact z_); replace BK689 := aK (blk_below (g := gb689) (o := .cells #[.int .i64 t676, .int .i64 t677, .int .i64 t678, .slice Ao39 t679.length co39, .int .i64 t682, .int .i64 t683, .slice Ao40 t684.length co40, .int .i64 t687] 38 (0, 0)) (by (with_reducible repeat (first | refine blk_drewN ?_ _ | refine kD ?_ | refine kA ?_ _)); refine blk_put (cs := #[.int .i64 t676, .int .i64 t677, .int .i64 t678, .slice Ao39 t679.length co39, .int .i64 t682, .int .i64 t683, .slice Ao40 t684.length co40, .int .i64 0]) ?_ 7 _ rfl; (with_reducible repeat (first | refine blk_drewN ?_ _ | refine kD ?_ | refine kA ?_ _)); refine blk_put (cs := #[.int .i64 t676, .int .i64 t677, .int .i64 t678, .slice Ao39 t679.length co39, .int .i64 t682, .int .i64 t683, .slice none 0 0, .int .i64 0]) ?_ 6 _ rfl; (with_reducible repeat (first | refine blk_drewN ?_ _ | refine kD ?_ | refine kA ?_ _)); refine blk_put (cs := #[.int .i64 t676, .int .i64 t677, .int .i64 t678, .slice Ao39 t679.length co39, .int .i64 t682, .int .i64 0, .slice none 0 0, .int .i64 0]) ?_ 5 _ rfl; (with_reducible repeat (first | refine blk_drewN ?_ _ | refine kD ?_ | refine kA ?_ _)); refine blk_put (cs := #[.int .i64 t676, .int .i64 t677, .int .i64 t678, .slice Ao39 t679.length co39, .int .i64 0, .int .i64 0, .slice none 0 0, .int .i64 0]) ?_ 4 _ rfl; (with_reducible repeat (first | refine blk_drewN ?_ _ | refine kD ?_ | refine kA ?_ _)); refine blk_put (cs := #[.int .i64 t676, .int .i64 t677, .int .i64 t678, .slice none 0 0, .int .i64 0, .int .i64 0, .slice none 0 0, .int .i64 0]) ?_ 3 _ rfl; (with_reducible repeat (first | refine blk_drewN ?_ _ | refine kD ?_ | refine kA ?_ _)); refine blk_put (cs := #[.int .i64 t676, .int .i64 t677, .int .i64 0, .slice none 0 0, .int .i64 0, .int .i64 0, .slice none 0 0, .int .i64 0]) ?_ 2 _ rfl; (with_reducible repeat (first | refine blk_drewN ?_ _ | refine kD ?_ | refine kA ?_ _)); refine blk_put (cs := #[.int .i64 t676, .int .i64 0, .int .i64 0, .slice none 0 0, .int .i64 0, .int .i64 0, .slice none 0 0, .int .i64 0]) ?_ 1 _ rfl; (with_reducible repeat (first | refine blk_drewN ?_ _ | refine kD ?_ | refine kA ?_ _)); refine blk_put (cs := #[.int .i64 0, .int .i64 0, .int .i64 0, .slice none 0 0, .int .i64 0, .int .i64 0, .slice none 0 0, .int .i64 0]) ?_ 0 _ rfl; (with_reducible repeat (first | refine blk_drewN ?_ _ | refine kD ?_ | refine kA ?_ _)); exact BK689.out) hb); replace HB := aK (bSp (zH4 HB GE635 GE662 GE675 GE689) hb); (try clear hb); (try clear hb2); (try clear hk); (try clear hi)))
    go_meet
    case rel => exact ⟨_, (true), (by first | rfl | (simp; done) | (simp [*]; done)), H', ⟨by first | omega | exact Nat.le_refl _⟩, ⟨by (with_reducible repeat (first | apply Kd.R_alloc | apply Kd.R_drewN | apply Kd.R_drew)); exact Kd.R_mono HO654.out (fun _ hk => ⟨hk.1.1.1.1.1.1, ⟨hk.1.1.1.2, ⟨hk.1.1.2, ⟨hk.1.2, hk.2⟩⟩⟩⟩)⟩, ⟨by (with_reducible repeat (first | apply Kd.R_alloc | apply Kd.R_drewN | apply Kd.R_drew)); exact Kd.R_mono HO659.out (fun _ hk => ⟨hk.1.1.1.1.1.1, ⟨hk.1.1.1.2, ⟨hk.1.1.2, ⟨hk.1.2, hk.2⟩⟩⟩⟩)⟩, ⟨by (with_reducible repeat (first | apply Kd.R_alloc | apply Kd.R_drewN | apply Kd.R_drew)); exact Kd.R_mono HO668.out (fun _ hk => ⟨hk.1.1.1.2, ⟨hk.1.1.2, ⟨hk.1.1.1.1.1.1, ⟨hk.1.2, hk.2⟩⟩⟩⟩)⟩, ⟨by (with_reducible repeat (first | apply Kd.R_alloc | apply Kd.R_drewN | apply Kd.R_drew)); exact Kd.R_mono HO673.out (fun _ hk => ⟨hk.1.1.1.2, ⟨hk.1.1.2, ⟨hk.1.1.1.1.1.1, ⟨hk.1.2, hk.2⟩⟩⟩⟩)⟩, ⟨by (with_reducible repeat (first | apply Kd.R_alloc | apply Kd.R_drewN | apply Kd.R_drew)); exact Kd.R_mono HO681.out (fun _ hk => ⟨hk.1.1.1.2, ⟨hk.1.1.2, ⟨hk.1.2, ⟨hk.2, hk.1.1.1.1.1.1⟩⟩⟩⟩)⟩, ⟨by (with_reducible repeat (first | apply Kd.R_alloc | apply Kd.R_drewN | apply Kd.R_drew)); exact Kd.R_mono HO686.out (fun _ hk => ⟨hk.1.1.1.2, ⟨hk.1.1.2, ⟨hk.1.2, ⟨hk.2, hk.1.1.1.1.1.1⟩⟩⟩⟩)⟩, ⟨by (with_reducible repeat (first | refine blk_drewN ?_ _ | refine kD ?_ | refine kA ?_ _)); exact BK635.out⟩, ⟨by (with_reducible repeat (first | refine blk_drewN ?_ _ | refine kD ?_ | refine kA ?_ _)); exact BK662.out⟩, ⟨by (with_reducible repeat (first | refine blk_drewN ?_ _ | refine kD ?_ | refine kA ?_ _)); exact BK675.out⟩, ⟨by (with_reducible repeat (first | refine blk_drewN ?_ _ | refine kD ?_ | refine kA ?_ _)); exact BK689.out⟩, ⟨by repeat (first | (with_reducible first | exact HB.out | apply bAl | apply bDN | apply bD1 | refine bSt ?_ GE635.out | refine bSt ?_ GE662.out | refine bSt ?_ GE675.out | refine bSt ?_ GE689.out) | exact HB.out)⟩⟩
  case rest =>
   clear HC11
   try clear c1
   try clear c2
   try clear p2
   try clear c3
   try clear c3b0
   try clear c4
   try clear c5
   try clear c15
   try clear c16
   try clear c17
   try clear c18
   try clear c19
   try clear c21
   try clear c28
   try clear c29
   try clear c35
   try clear c36
   try clear c37
   try clear c42
   try clear c43
   try clear c44
   try clear c45
   try clear c47
   try clear c48
   try clear c51
   try clear c52
   try clear c53
   try clear c55
   try clear c56
   try clear hcz13_0
   try clear hcz13_1
   try clear hcz13_2
   try clear hcz13_3
   try clear hcz13_4
   try clear hcz13_5
   try clear hcz13_6
   try clear hcz13_7
   try clear hcz15_0
   try clear hcz15_1
   try clear hcz15_2
   try clear hcz15_3
   try clear hcz15_4
   try clear hcz15_5
   try clear hcz15_6
   try clear hcz15_7
   try clear hcz22_0
   try clear hcz22_1
   try clear hcz22_2
   try clear hcz22_3
   try clear hcz22_4
   try clear hcz22_5
   try clear hcz22_6
   try clear hcz22_7
   try clear hcz25_0
   try clear hcz25_1
   try clear hcz25_2
   try clear hcz25_3
   try clear hcz25_4
   try clear hcz25_5
   try clear hcz25_6
   try clear hcz25_7
   try clear hcz30_0
   try clear hcz30_1
   try clear hcz30_2
   try clear hcz30_3
   try clear hcz30_4
   try clear hcz30_5
   try clear hcz30_6
   try clear hcz30_7
   try clear hcz38_0
   try clear hcz38_1
   try clear hcz38_2
   try clear hcz38_3
   try clear hcz38_4
   try clear hcz38_5
   try clear hcz38_6
   try clear hcz38_7
   try clear hcz46_0
   try clear hcz46_1
   try clear hcz46_2
   try clear hcz46_3
   try clear hcz46_4
   try clear hcz46_5
   try clear hcz46_6
   try clear hcz46_7
   try clear hcz49_0
   try clear hcz49_1
   try clear hcz49_2
   try clear hcz49_3
   try clear hcz49_4
   try clear hcz49_5
   try clear hcz49_6
   try clear hcz49_7
   try clear hcz54_0
   try clear hcz54_1
   try clear hcz54_2
   try clear hcz54_3
   try clear hcz54_4
   try clear hcz54_5
   try clear hcz54_6
   try clear hcz54_7
   try clear hcz57_0
   try clear hcz57_1
   try clear hcz57_2
   try clear hcz57_3
   try clear hcz57_4
   try clear hcz57_5
   try clear hcz57_6
   try clear hcz57_7
   try clear hcz5_0
   try clear hcz5_1
   try clear hcz5_2
   try clear hcz5_3
   try clear hcz5_4
   try clear hcz5_5
   try clear hcz5_6
   try clear hcz5_7
   try clear hfz13_0
   try clear hfz13_1
   try clear hfz13_2
   try clear hfz13_3
   try clear hfz13_4
   try clear hfz13_5
   try clear hfz13_6
   try clear hfz13_7
   try clear hfz15_0
   try clear hfz15_1
   try clear hfz15_2
   try clear hfz15_3
   try clear hfz15_4
   try clear hfz15_5
   try clear hfz15_6
   try clear hfz15_7
   try clear hfz22_0
   try clear hfz22_1
   try clear hfz22_2
   try clear hfz22_3
   try clear hfz22_4
   try clear hfz22_5
   try clear hfz22_6
   try clear hfz22_7
   try clear hfz25_0
   try clear hfz25_1
   try clear hfz25_2
   try clear hfz25_3
   try clear hfz25_4
   try clear hfz25_5
   try clear hfz25_6
   try clear hfz25_7
   try clear hfz30_0
   try clear hfz30_1
   try clear hfz30_2
   try clear hfz30_3
   try clear hfz30_4
   try clear hfz30_5
   try clear hfz30_6
   try clear hfz30_7
   try clear hfz38_0
   try clear hfz38_1
   try clear hfz38_2
   try clear hfz38_3
   try clear hfz38_4
   try clear hfz38_5
   try clear hfz38_6
   try clear hfz38_7
   try clear hfz46_0
   try clear hfz46_1
   try clear hfz46_2
   try clear hfz46_3
   try clear hfz46_4
   try clear hfz46_5
   try clear hfz46_6
   try clear hfz46_7
   try clear hfz49_0
   try clear hfz49_1
   try clear hfz49_2
   try clear hfz49_3
   try clear hfz49_4
   try clear hfz49_5
   try clear hfz49_6
   try clear hfz49_7
   try clear hfz54_0
   try clear hfz54_1
   try clear hfz54_2
   try clear hfz54_3
   try clear hfz54_4
   try clear hfz54_5
   try clear hfz54_6
   try clear hfz54_7
   try clear hfz57_0
   try clear hfz57_1
   try clear hfz57_2
   try clear hfz57_3
   try clear hfz57_4
   try clear hfz57_5
   try clear hfz57_6
   try clear hfz57_7
   try clear hfz5_0
   try clear hfz5_1
   try clear hfz5_2
   try clear hfz5_3
   try clear hfz5_4
   try clear hfz5_5
   try clear hfz5_6
   try clear hfz5_7
   obtain ⟨kq, x40_10, rfl, HA, HJ10, HO_663003, HO_663006, HO_676003, HO_676006, HO_690003, HO_690006, BK635, BK662, BK675, BK689, HB⟩ := hcut
   cases kq with
   | zero => exact absurd HA.out (by simp [laws_FnExactEnter.j0])
   | succ kj10 =>
    have H := HA.out
    clear HA
    simp only [laws_FnExactEnter.j0] at H
    by_cases c59 : x40_10 = true
    ·subst c59
     have H1 : (some false) = some true := by first | (rw [if_pos rfl] at H; exact H) | rfl
     clear H
     have H := H1
     clear H1
     exact absurd (Option.some.inj H) Bool.false_ne_true
    ·replace c59 := Bool.eq_false_iff.mpr c59
     subst c59
     have H1 : ((laws_toGarden.f kj10 a0_0 a0_1 a0_2 l0_3 a0_4 a0_5 l0_6 a0_7).bind fun bt691 => ((laws_eqGarden.f kj10 t663 t664 t665 t666 t669 t670 t671 t674 bt691.1 bt691.2.1 bt691.2.2.1 bt691.2.2.2.1 bt691.2.2.2.2.1 bt691.2.2.2.2.2.1 bt691.2.2.2.2.2.2.1 bt691.2.2.2.2.2.2.2).bind fun t703 => (if t703 = true then ((laws_markGarden.f kj10 t663 t664 t665 t666 t669 t670 t671 t674 1).bind fun bt704 => (if bt704.1 < 0 then (laws_FnExactEnter.j1 kj10 t661 true a0_0 a0_1 a0_2 l0_3 a0_4 a0_5 l0_6 a0_7 t649 t650 t651 t652 t655 t656 t657 t660 t676 t677 t678 t679 t682 t683 t684 t687) else ((laws_eqGarden.f kj10 t676 t677 t678 t679 t682 t683 t684 t687 t649 t650 t651 t652 t655 t656 t657 t660).bind fun t707 => (if t707 = true then (laws_FnExactEnter.j1 kj10 t661 (t688 != t661) a0_0 a0_1 a0_2 l0_3 a0_4 a0_5 l0_6 a0_7 t649 t650 t651 t652 t655 t656 t657 t660 t676 t677 t678 t679 t682 t683 t684 t687) else (laws_FnExactEnter.j1 kj10 t661 true a0_0 a0_1 a0_2 l0_3 a0_4 a0_5 l0_6 a0_7 t649 t650 t651 t652 t655 t656 t657 t660 t676 t677 t678 t679 t682 t683 t684 t687))))) else (some false)))) = some true := by rw [if_neg (show ¬ (false = true) by decide)] at H; exact H
     clear H
     have H := H1
     clear H1
     replace H := Option.bind_eq_some_iff.mp H
     obtain ⟨⟨t691, t692, t693, t694, t697, t698, t699, t702⟩, A600, H⟩ := H
     replace H : ((laws_eqGarden.f kj10 t663 t664 t665 t666 t669 t670 t671 t674 t691 t692 t693 t694 t697 t698 t699 t702).bind fun t703 => (if t703 = true then ((laws_markGarden.f kj10 t663 t664 t665 t666 t669 t670 t671 t674 1).bind fun bt704 => (if bt704.1 < 0 then (laws_FnExactEnter.j1 kj10 t661 true a0_0 a0_1 a0_2 l0_3 a0_4 a0_5 l0_6 a0_7 t649 t650 t651 t652 t655 t656 t657 t660 t676 t677 t678 t679 t682 t683 t684 t687) else ((laws_eqGarden.f kj10 t676 t677 t678 t679 t682 t683 t684 t687 t649 t650 t651 t652 t655 t656 t657 t660).bind fun t707 => (if t707 = true then (laws_FnExactEnter.j1 kj10 t661 (t688 != t661) a0_0 a0_1 a0_2 l0_3 a0_4 a0_5 l0_6 a0_7 t649 t650 t651 t652 t655 t656 t657 t660 t676 t677 t678 t679 t682 t683 t684 t687) else (laws_FnExactEnter.j1 kj10 t661 true a0_0 a0_1 a0_2 l0_3 a0_4 a0_5 l0_6 a0_7 t649 t650 t651 t652 t655 t656 t657 t660 t676 t677 t678 t679 t682 t683 t684 t687))))) else (some false))) = some true := H
     have A60 := aK A600
     clear A600
     replace H := Option.bind_eq_some_iff.mp H
     obtain ⟨t703, A610, H⟩ := H
     replace H : (if t703 = true then ((laws_markGarden.f kj10 t663 t664 t665 t666 t669 t670 t671 t674 1).bind fun bt704 => (if bt704.1 < 0 then (laws_FnExactEnter.j1 kj10 t661 true a0_0 a0_1 a0_2 l0_3 a0_4 a0_5 l0_6 a0_7 t649 t650 t651 t652 t655 t656 t657 t660 t676 t677 t678 t679 t682 t683 t684 t687) else ((laws_eqGarden.f kj10 t676 t677 t678 t679 t682 t683 t684 t687 t649 t650 t651 t652 t655 t656 t657 t660).bind fun t707 => (if t707 = true then (laws_FnExactEnter.j1 kj10 t661 (t688 != t661) a0_0 a0_1 a0_2 l0_3 a0_4 a0_5 l0_6 a0_7 t649 t650 t651 t652 t655 t656 t657 t660 t676 t677 t678 t679 t682 t683 t684 t687) else (laws_FnExactEnter.j1 kj10 t661 true a0_0 a0_1 a0_2 l0_3 a0_4 a0_5 l0_6 a0_7 t649 t650 t651 t652 t655 t656 t657 t660 t676 t677 t678 t679 t682 t683 t684 t687))))) else (some false)) = some true := H
     have A61 := aK A610
     clear A610
     by_cases c62 : t703 = true
     ·subst c62
      have H1 : ((laws_markGarden.f kj10 t663 t664 t665 t666 t669 t670 t671 t674 1).bind fun bt704 => (if bt704.1 < 0 then (laws_FnExactEnter.j1 kj10 t661 true a0_0 a0_1 a0_2 l0_3 a0_4 a0_5 l0_6 a0_7 t649 t650 t651 t652 t655 t656 t657 t660 t676 t677 t678 t679 t682 t683 t684 t687) else ((laws_eqGarden.f kj10 t676 t677 t678 t679 t682 t683 t684 t687 t649 t650 t651 t652 t655 t656 t657 t660).bind fun t707 => (if t707 = true then (laws_FnExactEnter.j1 kj10 t661 (t688 != t661) a0_0 a0_1 a0_2 l0_3 a0_4 a0_5 l0_6 a0_7 t649 t650 t651 t652 t655 t656 t657 t660 t676 t677 t678 t679 t682 t683 t684 t687) else (laws_FnExactEnter.j1 kj10 t661 true a0_0 a0_1 a0_2 l0_3 a0_4 a0_5 l0_6 a0_7 t649 t650 t651 t652 t655 t656 t657 t660 t676 t677 t678 t679 t682 t683 t684 t687))))) = some true := by first | (rw [if_pos rfl] at H; exact H) | rfl
      clear H
      have H := H1
      clear H1
      replace H := Option.bind_eq_some_iff.mp H
      obtain ⟨⟨t704, t705, t706⟩, A630, H⟩ := H
      replace H : (if t704 < 0 then (laws_FnExactEnter.j1 kj10 t661 true a0_0 a0_1 a0_2 l0_3 a0_4 a0_5 l0_6 a0_7 t649 t650 t651 t652 t655 t656 t657 t660 t676 t677 t678 t679 t682 t683 t684 t687) else ((laws_eqGarden.f kj10 t676 t677 t678 t679 t682 t683 t684 t687 t649 t650 t651 t652 t655 t656 t657 t660).bind fun t707 => (if t707 = true then (laws_FnExactEnter.j1 kj10 t661 (t688 != t661) a0_0 a0_1 a0_2 l0_3 a0_4 a0_5 l0_6 a0_7 t649 t650 t651 t652 t655 t656 t657 t660 t676 t677 t678 t679 t682 t683 t684 t687) else (laws_FnExactEnter.j1 kj10 t661 true a0_0 a0_1 a0_2 l0_3 a0_4 a0_5 l0_6 a0_7 t649 t650 t651 t652 t655 t656 t657 t660 t676 t677 t678 t679 t682 t683 t684 t687)))) = some true := H
      have A63 := aK A630
      clear A630
      have HC64 := aK H
      clear H
      try go_wp2
      have n0_ := aK (Kd.R_drew HO_663003.out)
      have n1_ := aK (Kd.R_drew HO_663006.out)
      have n2_ := aK (Kd.R_drew HO_676003.out)
      have n3_ := aK (Kd.R_drew HO_676006.out)
      have n4_ := aK (Kd.R_drew HO_690003.out)
      have n5_ := aK (Kd.R_drew HO_690006.out)
      have n6_ := aK (kD BK635.out)
      have n7_ := aK (kD BK662.out)
      have n8_ := aK (kD BK675.out)
      have n9_ := aK (kD BK689.out)
      have n10_ := aK (bD1 HB.out)
      clear HO_663003
      clear HO_663006
      clear HO_676003
      clear HO_676006
      clear HO_690003
      clear HO_690006
      clear BK635
      clear BK662
      clear BK675
      clear BK689
      clear HB
      have HO_663003 := n0_
      have HO_663006 := n1_
      have HO_676003 := n2_
      have HO_676006 := n3_
      have HO_690003 := n4_
      have HO_690006 := n5_
      have BK635 := n6_
      have BK662 := n7_
      have BK675 := n8_
      have BK689 := n9_
      have HB := n10_
      clear n0_ n1_ n2_ n3_ n4_ n5_ n6_ n7_ n8_ n9_ n10_
      refine start_ (n := 5) (S := fun w' => w'.cell? ⟨gb675, 0, none⟩ = some (.int .i64 t663) ∧ w'.cell? ⟨gb675, 1, none⟩ = some (.int .i64 t664) ∧ w'.cell? ⟨gb675, 2, none⟩ = some (.int .i64 t665) ∧ w'.cell? ⟨gb675, 3, none⟩ = some (.slice Ao31 t666.length co31) ∧ w'.cell? ⟨gb675, 4, none⟩ = some (.int .i64 t669) ∧ w'.cell? ⟨gb675, 5, none⟩ = some (.int .i64 t670) ∧ w'.cell? ⟨gb675, 6, none⟩ = some (.slice Ao32 t671.length co32) ∧ w'.cell? ⟨gb675, 7, none⟩ = some (.int .i64 t674) ∧ w'.cell? ⟨gb635, 0, none⟩ = some (.int .i64 a0_0) ∧ w'.cell? ⟨gb635, 1, none⟩ = some (.int .i64 a0_1) ∧ w'.cell? ⟨gb635, 2, none⟩ = some (.int .i64 a0_2) ∧ w'.cell? ⟨gb635, 3, none⟩ = some (.slice A0_3 l0_3.length c0_3) ∧ w'.cell? ⟨gb635, 4, none⟩ = some (.int .i64 a0_4) ∧ w'.cell? ⟨gb635, 5, none⟩ = some (.int .i64 a0_5) ∧ w'.cell? ⟨gb635, 6, none⟩ = some (.slice A0_6 l0_6.length c0_6) ∧ w'.cell? ⟨gb635, 7, none⟩ = some (.int .i64 a0_7)) (ds := []) #[bN,bN,bN,bN,bN] (by kernel_rfl) rfl rfl ⟨(kC BK675.out 0).trans rfl, (kC BK675.out 1).trans rfl, (kC BK675.out 2).trans rfl, (kC BK675.out 3).trans rfl, (kC BK675.out 4).trans rfl, (kC BK675.out 5).trans rfl, (kC BK675.out 6).trans rfl, (kC BK675.out 7).trans rfl, (kC BK635.out 0).trans rfl, (kC BK635.out 1).trans rfl, (kC BK635.out 2).trans rfl, (kC BK635.out 3).trans rfl, (kC BK635.out 4).trans rfl, (kC BK635.out 5).trans rfl, (kC BK635.out 6).trans rfl, (kC BK635.out 7).trans rfl⟩ (fun hHeld => ?_)
      generalize wc.drew = w65 at HO_663003 HO_663006 HO_676003 HO_676006 HO_690003 HO_690006 BK635 BK662 BK675 BK689 HB hHeld ⊢
      refine take_ (i := 0) (N := some 41) (v := ?_) (a' := ?_) #[bY,bN,bN,bN,bN] rfl rfl (by kernel_rfl) (fun _ _ _ h => h) (Or.inl ⟨by rfl, ?_⟩) hHeld ?_ ?_
      rotate_left
      ·rintro w' ⟨s0, s1, s2, s3, s4, s5, s6, s7, s8, s9, s10, s11, s12, s13, s14, s15⟩
       go_simp
       with_reducible rfl
      rotate_left
      ·simp only [Act.put, sTA, sZ, sS, i64_w, i32_w]
       rfl
      refine take_ (i := 1) (N := some 42) (v := ?_) (a' := ?_) #[bY,bY,bN,bN,bN] rfl rfl (by kernel_rfl) (fun _ _ _ h => h) (Or.inl ⟨by rfl, ?_⟩) hHeld ?_ ?_
      rotate_left
      ·rintro w' ⟨s0, s1, s2, s3, s4, s5, s6, s7, s8, s9, s10, s11, s12, s13, s14, s15⟩
       go_simp
       with_reducible rfl
      rotate_left
      ·simp only [Act.put, sTA, sZ, sS, i64_w, i32_w]
       rfl
      refine one_ (i := 2) (N := some 43) #[bY,bY,bY,bN,bN] rfl rfl (by kernel_rfl) (by decide) (fun K hK => ?_)
      refine goes_ Tryz.func17 (by kernel_rfl) rfl #[.agg #[.int .i64 a0_0, .int .i64 a0_1, .int .i64 a0_2, .slice A0_3 l0_3.length c0_3, .int .i64 a0_4, .int .i64 a0_5, .slice A0_6 l0_6.length c0_6, .int .i64 a0_7]] (by rfl) rfl rfl zD ?_
      with_reducible refine (laws_toGarden.calls kj10 a0_0 a0_1 a0_2 _ _ l0_3 a0_4 a0_5 _ _ l0_6 a0_7 t691 t692 t693 t694 t697 t698 t699 t702 _ ?side1 ?side2 ?side3 ?side4 A60.out).mono ?_
      (case side1 => exact zC (Kd.C_below HR0_3.out HB.out))
      (case side2 => exact HC0_3.out)
      (case side3 => exact zC (Kd.C_below HR0_6.out HB.out))
      (case side4 => exact HC0_6.out)
      rintro e w66 ⟨v695, v700, rfl, ho0, ho1, hb⟩
      refine ⟨_, rfl, ?_⟩
      have n0_ := aK (Kd.R_mono (Kd.R_told (Kd.R_told (Kd.R_old (zA HO_663003) hb) (Kd.R_base ho0)) (Kd.R_base ho1)) (fun _ h_ => h_.1))
      have n1_ := aK (Kd.R_mono (Kd.R_told (Kd.R_told (Kd.R_old (zA HO_663006) hb) (Kd.R_base ho0)) (Kd.R_base ho1)) (fun _ h_ => h_.1))
      have n2_ := aK (Kd.R_mono (Kd.R_told (Kd.R_told (Kd.R_old (zA HO_676003) hb) (Kd.R_base ho0)) (Kd.R_base ho1)) (fun _ h_ => h_.1))
      have n3_ := aK (Kd.R_mono (Kd.R_told (Kd.R_told (Kd.R_old (zA HO_676006) hb) (Kd.R_base ho0)) (Kd.R_base ho1)) (fun _ h_ => h_.1))
      have n4_ := aK (Kd.R_mono (Kd.R_told (Kd.R_told (Kd.R_old (zA HO_690003) hb) (Kd.R_base ho0)) (Kd.R_base ho1)) (fun _ h_ => h_.1))
      have n5_ := aK (Kd.R_mono (Kd.R_told (Kd.R_told (Kd.R_old (zA HO_690006) hb) (Kd.R_base ho0)) (Kd.R_base ho1)) (fun _ h_ => h_.1))
      have n6_ := aK (Kd.R_lower (Kd.R_new' (Kd.R_new' (Kd.R_new' (Kd.R_new' (Kd.R_new' (Kd.R_new' ho0 (Kd.R_lt (zA HO_663003))) (Kd.R_lt (zA HO_663006))) (Kd.R_lt (zA HO_676003))) (Kd.R_lt (zA HO_676006))) (Kd.R_lt (zA HO_690003))) (Kd.R_lt (zA HO_690006))) (bSz (zH4 HB GE635 GE662 GE675 GE689)))
      have n7_ := aK (Kd.R_lower (Kd.R_new' (Kd.R_new' (Kd.R_new' (Kd.R_new' (Kd.R_new' (Kd.R_new' ho1 (Kd.R_lt (zA HO_663003))) (Kd.R_lt (zA HO_663006))) (Kd.R_lt (zA HO_676003))) (Kd.R_lt (zA HO_676006))) (Kd.R_lt (zA HO_690003))) (Kd.R_lt (zA HO_690006))) (bSz (zH4 HB GE635 GE662 GE675 GE689)))
      have n8_ := zB BK635 hb
      have n9_ := zB BK662 hb
      have n10_ := zB BK675 hb
      have n11_ := zB BK689 hb
      have n12_ := aK (bSp (zH4 HB GE635 GE662 GE675 GE689) hb)
      clear HO_663003
      clear HO_663006
      clear HO_676003
      clear HO_676006
      clear HO_690003
      clear HO_690006
      clear BK635
      clear BK662
      clear BK675
      clear BK689
      clear HB
      have HO_663003 := n0_
      have HO_663006 := n1_
      have HO_676003 := n2_
      have HO_676006 := n3_
      have HO_690003 := n4_
      have HO_690006 := n5_
      have HO696 := n6_
      have HO701 := n7_
      have BK635 := n8_
      have BK662 := n9_
      have BK675 := n10_
      have BK689 := n11_
      have HB := n12_
      clear n0_ n1_ n2_ n3_ n4_ n5_ n6_ n7_ n8_ n9_ n10_ n11_ n12_
      (try clear hb)
      (try clear hb2)
      (try clear hk)
      (try clear hi)
      (try clear ho0)
      (try clear ho1)
      obtain ⟨Ao67, co67, eo67⟩ := Kd.R_slice HO696.out
      (first | subst eo67 | (injection eo67 with f1_ f2_ f3_; have f4_ := f1_.symm; have f5_ := f3_.symm; clear f1_ f2_ f3_; subst f4_; subst f5_))
      obtain ⟨Ao68, co68, eo68⟩ := Kd.R_slice HO701.out
      (first | subst eo68 | (injection eo68 with f1_ f2_ f3_; have f4_ := f1_.symm; have f5_ := f3_.symm; clear f1_ f2_ f3_; subst f4_; subst f5_))
      refine hK.out _ _ ⟨(kC BK675.out 0).trans rfl, (kC BK675.out 1).trans rfl, (kC BK675.out 2).trans rfl, (kC BK675.out 3).trans rfl, (kC BK675.out 4).trans rfl, (kC BK675.out 5).trans rfl, (kC BK675.out 6).trans rfl, (kC BK675.out 7).trans rfl, (kC BK635.out 0).trans rfl, (kC BK635.out 1).trans rfl, (kC BK635.out 2).trans rfl, (kC BK635.out 3).trans rfl, (kC BK635.out 4).trans rfl, (kC BK635.out 5).trans rfl, (kC BK635.out 6).trans rfl, (kC BK635.out 7).trans rfl⟩ (fun hHeld => ?_)
      clear hK K
      refine norm_ (a' := ?_) ?_ ?_
      rotate_left
      ·show Act.put _ (some 43) _ = _
       simp only [Act.put, sTA, sZ, sS, i64_w, i32_w]
       rfl
      refine one_ (i := 3) (N := some 44) #[bY,bY,bY,bY,bN] rfl rfl (by kernel_rfl) (by decide) (fun K hK => ?_)
      refine goes_ Tryz.func19 (by kernel_rfl) rfl #[.agg #[.int .i64 t663, .int .i64 t664, .int .i64 t665, .slice Ao31 t666.length co31, .int .i64 t669, .int .i64 t670, .slice Ao32 t671.length co32, .int .i64 t674], .agg #[.int .i64 t691, .int .i64 t692, .int .i64 t693, .slice Ao67 t694.length co67, .int .i64 t697, .int .i64 t698, .slice Ao68 t699.length co68, .int .i64 t702]] (by rfl) rfl rfl zD ?_
      with_reducible refine (laws_eqGarden.calls kj10 t663 t664 t665 _ _ t666 t669 t670 _ _ t671 t674 t691 t692 t693 _ _ t694 t697 t698 _ _ t699 t702 true _ ?side1 ?side2 ?side3 ?side4 ?side5 ?side6 ?side7 ?side8 A61.out).mono ?_
      (case side1 => exact zC (Kd.R_reads' HO_676003.out).2.2)
      (case side2 => exact (Kd.R_reads' HO_676003.out).2.1)
      (case side3 => exact zC (Kd.R_reads' HO_676006.out).2.2)
      (case side4 => exact (Kd.R_reads' HO_676006.out).2.1)
      (case side5 => exact zC (Kd.R_reads' HO696.out).2.2)
      (case side6 => exact (Kd.R_reads' HO696.out).2.1)
      (case side7 => exact zC (Kd.R_reads' HO701.out).2.2)
      (case side8 => exact (Kd.R_reads' HO701.out).2.1)
      rintro e w69 ⟨rfl, hb⟩
      refine ⟨_, rfl, ?_⟩
      have n0_ := aK (Kd.R_below (zA HO_663003) hb)
      have n1_ := aK (Kd.R_below (zA HO_663006) hb)
      have n2_ := aK (Kd.R_below (zA HO_676003) hb)
      have n3_ := aK (Kd.R_below (zA HO_676006) hb)
      have n4_ := aK (Kd.R_below (zA HO_690003) hb)
      have n5_ := aK (Kd.R_below (zA HO_690006) hb)
      have n6_ := aK (Kd.R_below (zA HO696) hb)
      have n7_ := aK (Kd.R_below (zA HO701) hb)
      have n8_ := zB BK635 hb
      have n9_ := zB BK662 hb
      have n10_ := zB BK675 hb
      have n11_ := zB BK689 hb
      have n12_ := aK (bSp (zH4 HB GE635 GE662 GE675 GE689) hb)
      clear HO_663003
      clear HO_663006
      clear HO_676003
      clear HO_676006
      clear HO_690003
      clear HO_690006
      clear HO696
      clear HO701
      clear BK635
      clear BK662
      clear BK675
      clear BK689
      clear HB
      have HO_663003 := n0_
      have HO_663006 := n1_
      have HO_676003 := n2_
      have HO_676006 := n3_
      have HO_690003 := n4_
      have HO_690006 := n5_
      have HO696 := n6_
      have HO701 := n7_
      have BK635 := n8_
      have BK662 := n9_
      have BK675 := n10_
      have BK689 := n11_
      have HB := n12_
      clear n0_ n1_ n2_ n3_ n4_ n5_ n6_ n7_ n8_ n9_ n10_ n11_ n12_
      (try clear hb)
      (try clear hb2)
      (try clear hk)
      (try clear hi)
      refine hK.out _ _ ⟨(kC BK675.out 0).trans rfl, (kC BK675.out 1).trans rfl, (kC BK675.out 2).trans rfl, (kC BK675.out 3).trans rfl, (kC BK675.out 4).trans rfl, (kC BK675.out 5).trans rfl, (kC BK675.out 6).trans rfl, (kC BK675.out 7).trans rfl, (kC BK635.out 0).trans rfl, (kC BK635.out 1).trans rfl, (kC BK635.out 2).trans rfl, (kC BK635.out 3).trans rfl, (kC BK635.out 4).trans rfl, (kC BK635.out 5).trans rfl, (kC BK635.out 6).trans rfl, (kC BK635.out 7).trans rfl⟩ (fun hHeld => ?_)
      clear hK K
      refine norm_ (a' := ?_) ?_ ?_
      rotate_left
      ·show Act.put _ (some 44) _ = _
       simp only [Act.put, sTA, sZ, sS, i64_w, i32_w]
       rfl
      refine pure_ (i := 4) (N := some 45) (v := ?_) (a' := ?_) #[bY,bY,bY,bY,bY] rfl rfl (by kernel_rfl) (fun _ _ _ h => h) (Or.inl ⟨by rfl, ?_⟩) ?_ ?_
      rotate_left
      ·intro w'
       go_simp
       with_reducible rfl
      rotate_left
      ·simp only [Act.put, sTA, sZ, sS, i64_w, i32_w]
       rfl
      refine done_ (by kernel_rfl) ?_
      have hnb70 := NB675_635.out
      have hnc70 := NB635_675.out
      have hnb71 := NB675_662.out
      have hnc71 := NB662_675.out
      have hnb72 := NB675_689.out
      have hnc72 := NB689_675.out
      obtain ⟨hcz73_0, hcz73_1, hcz73_2, hcz73_3, hcz73_4, hcz73_5, hcz73_6, hcz73_7, hfz73_0, hfz73_1, hfz73_2, hfz73_3, hfz73_4, hfz73_5, hfz73_6, hfz73_7⟩ := cl8 BK675.out
      go_upto_region 14 with (first | ((with_reducible refine gate_callee (f := 20) rfl ?_); refine goesL_ (some 48) rfl rfl Tryz.func20 (by kernel_rfl) rfl #[.agg #[.int .i64 t663, .int .i64 t664, .int .i64 t665, .slice Ao31 t666.length co31, .int .i64 t669, .int .i64 t670, .slice Ao32 t671.length co32, .int .i64 t674], .int .i64 1] rfl zD ?_; (with_reducible refine (laws_markGarden.calls kj10 t663 t664 t665 (fun k_ => some k_ = (.slice Ao31 t666.length co31 : Value).ownBlock) (.slice Ao31 t666.length co31) t666 t669 t670 (fun k_ => some k_ = (.slice Ao32 t671.length co32 : Value).ownBlock) (.slice Ao32 t671.length co32) t671 t674 1 t704 t705 t706 w _ ?side1 ?side2 ?side3 ?side4 ?side5 A63.out).mono ?_); (case side1 => exact (zH4 HB GE635 GE662 GE675 GE689)); (case side2 => exact Kd.R_tight rfl HO_676003.out); (case side3 => exact fun k_ e_ => (HO_676003.out.1 k_ e_.symm).1.1.2.2.1); (case side4 => exact Kd.R_tight rfl HO_676006.out); (case side5 => exact fun k_ e_ => (HO_676006.out.1 k_ e_.symm).1.1.2.2.1); rintro e w74 ⟨rfl, hy0, hy1, hb, hkp⟩; refine ⟨_, rfl, ?_⟩; replace HO_663003 := aK (Kd.R_mono (ok' := fun k_ => some k_ ≠ (.slice Ao24 t657.length co24 : Value).ownBlock ∧ some k_ ≠ (.slice Ao31 t666.length co31 : Value).ownBlock ∧ some k_ ≠ (.slice Ao32 t671.length co32 : Value).ownBlock ∧ some k_ ≠ (.slice Ao39 t679.length co39 : Value).ownBlock ∧ some k_ ≠ (.slice Ao40 t684.length co40 : Value).ownBlock ∧ some k_ ≠ (.slice Ao67 t694.length co67 : Value).ownBlock ∧ some k_ ≠ (.slice Ao68 t699.length co68 : Value).ownBlock) (Kd.R_keptB (HO_663003.out) hkp (fun k_ hk_ hs_ => Or.elim hs_ (hk_.1.1.2.1) (hk_.1.1.2.2.1))) (fun k_ hk_ => ⟨hk_.1.1.1.1, hk_.1.1.1.2.1, hk_.1.1.1.2.2.1, hk_.1.1.1.2.2.2.1, hk_.1.1.1.2.2.2.2, hk_.1.1.2, hk_.1.2⟩)); replace HO_663006 := aK (Kd.R_mono (ok' := fun k_ => some k_ ≠ (.slice Ao23 t652.length co23 : Value).ownBlock ∧ some k_ ≠ (.slice Ao31 t666.length co31 : Value).ownBlock ∧ some k_ ≠ (.slice Ao32 t671.length co32 : Value).ownBlock ∧ some k_ ≠ (.slice Ao39 t679.length co39 : Value).ownBlock ∧ some k_ ≠ (.slice Ao40 t684.length co40 : Value).ownBlock ∧ some k_ ≠ (.slice Ao67 t694.length co67 : Value).ownBlock ∧ some k_ ≠ (.slice Ao68 t699.length co68 : Value).ownBlock) (Kd.R_keptB (HO_663006.out) hkp (fun k_ hk_ hs_ => Or.elim hs_ (hk_.1.1.2.1) (hk_.1.1.2.2.1))) (fun k_ hk_ => ⟨hk_.1.1.1.1, hk_.1.1.1.2.1, hk_.1.1.1.2.2.1, hk_.1.1.1.2.2.2.1, hk_.1.1.1.2.2.2.2, hk_.1.1.2, hk_.1.2⟩)); replace HO_690003 := aK (Kd.R_mono (ok' := fun k_ => some k_ ≠ (.slice Ao23 t652.length co23 : Value).ownBlock ∧ some k_ ≠ (.slice Ao24 t657.length co24 : Value).ownBlock ∧ some k_ ≠ (.slice Ao31 t666.length co31 : Value).ownBlock ∧ some k_ ≠ (.slice Ao32 t671.length co32 : Value).ownBlock ∧ some k_ ≠ (.slice Ao40 t684.length co40 : Value).ownBlock ∧ some k_ ≠ (.slice Ao67 t694.length co67 : Value).ownBlock ∧ some k_ ≠ (.slice Ao68 t699.length co68 : Value).ownBlock) (Kd.R_keptB (HO_690003.out) hkp (fun k_ hk_ hs_ => Or.elim hs_ (hk_.1.1.2.2.1) (hk_.1.1.2.2.2.1))) (fun k_ hk_ => ⟨hk_.1.1.1.1, hk_.1.1.1.2.1, hk_.1.1.1.2.2.1, hk_.1.1.1.2.2.2.1, hk_.1.1.1.2.2.2.2, hk_.1.1.2, hk_.1.2⟩)); replace HO_690006 := aK (Kd.R_mono (ok' := fun k_ => some k_ ≠ (.slice Ao23 t652.length co23 : Value).ownBlock ∧ some k_ ≠ (.slice Ao24 t657.length co24 : Value).ownBlock ∧ some k_ ≠ (.slice Ao31 t666.length co31 : Value).ownBlock ∧ some k_ ≠ (.slice Ao32 t671.length co32 : Value).ownBlock ∧ some k_ ≠ (.slice Ao39 t679.length co39 : Value).ownBlock ∧ some k_ ≠ (.slice Ao67 t694.length co67 : Value).ownBlock ∧ some k_ ≠ (.slice Ao68 t699.length co68 : Value).ownBlock) (Kd.R_keptB (HO_690006.out) hkp (fun k_ hk_ hs_ => Or.elim hs_ (hk_.1.1.2.2.1) (hk_.1.1.2.2.2.1))) (fun k_ hk_ => ⟨hk_.1.1.1.1, hk_.1.1.1.2.1, hk_.1.1.1.2.2.1, hk_.1.1.1.2.2.2.1, hk_.1.1.1.2.2.2.2, hk_.1.1.2, hk_.1.2⟩)); replace BK635 := aK (blk_kept (zK BK635) hkp (fun hs_ => Or.elim hs_ (Kd.R_ne HO_676003.out BK635.out (by decide)) (Kd.R_ne HO_676006.out BK635.out (by decide)))); replace BK662 := aK (blk_kept (zK BK662) hkp (fun hs_ => Or.elim hs_ (Kd.R_ne HO_676003.out BK662.out (by decide)) (Kd.R_ne HO_676006.out BK662.out (by decide)))); replace BK675 := aK (blk_kept (zK BK675) hkp (fun hs_ => Or.elim hs_ (Kd.R_ne HO_676003.out BK675.out (by decide)) (Kd.R_ne HO_676006.out BK675.out (by decide)))); replace BK689 := aK (blk_kept (zK BK689) hkp (fun hs_ => Or.elim hs_ (Kd.R_ne HO_676003.out BK689.out (by decide)) (Kd.R_ne HO_676006.out BK689.out (by decide)))); replace HO_676003 := aK (Kd.R_reok rfl hy0 (fun k_ e_ => HO_676003.out.1 k_ e_)); replace HO_676006 := aK (Kd.R_reok rfl hy1 (fun k_ e_ => HO_676006.out.1 k_ e_)); replace HO696 := aK (Kd.R_mono (ok' := fun k_ => some k_ ≠ (.slice Ao23 t652.length co23 : Value).ownBlock ∧ some k_ ≠ (.slice Ao24 t657.length co24 : Value).ownBlock ∧ some k_ ≠ (.slice Ao31 t666.length co31 : Value).ownBlock ∧ some k_ ≠ (.slice Ao32 t671.length co32 : Value).ownBlock ∧ some k_ ≠ (.slice Ao39 t679.length co39 : Value).ownBlock ∧ some k_ ≠ (.slice Ao40 t684.length co40 : Value).ownBlock ∧ some k_ ≠ (.slice Ao68 t699.length co68 : Value).ownBlock) (Kd.R_keptB (HO696.out) hkp (fun k_ hk_ hs_ => Or.elim hs_ (hk_.1.1.1.2) (hk_.1.1.2))) (fun k_ hk_ => ⟨hk_.1.1.1.1.1.1.2, hk_.1.1.1.1.1.2, hk_.1.1.1.1.2, hk_.1.1.1.2, hk_.1.1.2, hk_.1.2, hk_.1.1.1.1.1.1.1⟩)); replace HO701 := aK (Kd.R_mono (ok' := fun k_ => some k_ ≠ (.slice Ao23 t652.length co23 : Value).ownBlock ∧ some k_ ≠ (.slice Ao24 t657.length co24 : Value).ownBlock ∧ some k_ ≠ (.slice Ao31 t666.length co31 : Value).ownBlock ∧ some k_ ≠ (.slice Ao32 t671.length co32 : Value).ownBlock ∧ some k_ ≠ (.slice Ao39 t679.length co39 : Value).ownBlock ∧ some k_ ≠ (.slice Ao40 t684.length co40 : Value).ownBlock ∧ some k_ ≠ (.slice Ao67 t694.length co67 : Value).ownBlock) (Kd.R_keptB (HO701.out) hkp (fun k_ hk_ hs_ => Or.elim hs_ (hk_.1.1.1.2) (hk_.1.1.2))) (fun k_ hk_ => ⟨hk_.1.1.1.1.1.1.2, hk_.1.1.1.1.1.2, hk_.1.1.1.1.2, hk_.1.1.1.2, hk_.1.1.2, hk_.1.2, hk_.1.1.1.1.1.1.1⟩)); replace HB := aK (hb); (try clear hb); (try clear hkp); (try clear hy0); (try clear hy1)))
      (try simp only [Act.put, sTA, sZ, sS])
      go_cut [61] (fun v61 wc => ∃ (kq : Nat) (x61_63 : Bool), v61 = .bool x61_63 ∧ Aside0 (laws_FnExactEnter.j1 kq t661 x61_63 a0_0 a0_1 a0_2 l0_3 a0_4 a0_5 l0_6 a0_7 t649 t650 t651 t652 t655 t656 t657 t660 t676 t677 t678 t679 t682 t683 t684 t687 = some true) ∧ Aside0 (kq ≤ kj10) ∧ Aside0 (Kd.R (Kd.int .i64) 3 wc w.heap.size (fun k_ => some k_ ≠ ((.slice Ao24 t657.length co24) : Value).ownBlock ∧ some k_ ≠ ((.slice Ao31 t666.length co31) : Value).ownBlock ∧ some k_ ≠ ((.slice Ao32 t671.length co32) : Value).ownBlock ∧ some k_ ≠ ((.slice Ao39 t679.length co39) : Value).ownBlock ∧ some k_ ≠ ((.slice Ao40 t684.length co40) : Value).ownBlock) (.slice Ao23 t652.length co23) t652) ∧ Aside0 (Kd.R (Kd.int .i64) 3 wc w.heap.size (fun k_ => some k_ ≠ ((.slice Ao23 t652.length co23) : Value).ownBlock ∧ some k_ ≠ ((.slice Ao31 t666.length co31) : Value).ownBlock ∧ some k_ ≠ ((.slice Ao32 t671.length co32) : Value).ownBlock ∧ some k_ ≠ ((.slice Ao39 t679.length co39) : Value).ownBlock ∧ some k_ ≠ ((.slice Ao40 t684.length co40) : Value).ownBlock) (.slice Ao24 t657.length co24) t657) ∧ Aside0 (Kd.R (Kd.int .i64) 3 wc w.heap.size (fun k_ => some k_ ≠ ((.slice Ao23 t652.length co23) : Value).ownBlock ∧ some k_ ≠ ((.slice Ao24 t657.length co24) : Value).ownBlock ∧ some k_ ≠ ((.slice Ao32 t671.length co32) : Value).ownBlock ∧ some k_ ≠ ((.slice Ao39 t679.length co39) : Value).ownBlock ∧ some k_ ≠ ((.slice Ao40 t684.length co40) : Value).ownBlock) (.slice Ao31 t666.length co31) t705) ∧ Aside0 (Kd.R (Kd.int .i64) 3 wc w.heap.size (fun k_ => some k_ ≠ ((.slice Ao23 t652.length co23) : Value).ownBlock ∧ some k_ ≠ ((.slice Ao24 t657.length co24) : Value).ownBlock ∧ some k_ ≠ ((.slice Ao31 t666.length co31) : Value).ownBlock ∧ some k_ ≠ ((.slice Ao39 t679.length co39) : Value).ownBlock ∧ some k_ ≠ ((.slice Ao40 t684.length co40) : Value).ownBlock) (.slice Ao32 t671.length co32) t706) ∧ Aside0 (Kd.R (Kd.int .i64) 3 wc w.heap.size (fun k_ => some k_ ≠ ((.slice Ao23 t652.length co23) : Value).ownBlock ∧ some k_ ≠ ((.slice Ao24 t657.length co24) : Value).ownBlock ∧ some k_ ≠ ((.slice Ao31 t666.length co31) : Value).ownBlock ∧ some k_ ≠ ((.slice Ao32 t671.length co32) : Value).ownBlock ∧ some k_ ≠ ((.slice Ao40 t684.length co40) : Value).ownBlock) (.slice Ao39 t679.length co39) t679) ∧ Aside0 (Kd.R (Kd.int .i64) 3 wc w.heap.size (fun k_ => some k_ ≠ ((.slice Ao23 t652.length co23) : Value).ownBlock ∧ some k_ ≠ ((.slice Ao24 t657.length co24) : Value).ownBlock ∧ some k_ ≠ ((.slice Ao31 t666.length co31) : Value).ownBlock ∧ some k_ ≠ ((.slice Ao32 t671.length co32) : Value).ownBlock ∧ some k_ ≠ ((.slice Ao39 t679.length co39) : Value).ownBlock) (.slice Ao40 t684.length co40) t684) ∧ Aside0 (wc.heap[gb635]? = some (.cells #[.int .i64 a0_0, .int .i64 a0_1, .int .i64 a0_2, (.slice A0_3 l0_3.length c0_3), .int .i64 a0_4, .int .i64 a0_5, (.slice A0_6 l0_6.length c0_6), .int .i64 a0_7] 30 (0, 0))) ∧ Aside0 (wc.heap[gb662]? = some (.cells #[.int .i64 t649, .int .i64 t650, .int .i64 t651, (.slice Ao23 t652.length co23), .int .i64 t655, .int .i64 t656, (.slice Ao24 t657.length co24), .int .i64 t660] 38 (0, 0))) ∧ Aside0 (wc.heap[gb675]? = some (.cells #[.int .i64 t663, .int .i64 t664, .int .i64 t665, (.slice Ao31 t666.length co31), .int .i64 t669, .int .i64 t670, (.slice Ao32 t671.length co32), .int .i64 t674] 38 (0, 0))) ∧ Aside0 (wc.heap[gb689]? = some (.cells #[.int .i64 t676, .int .i64 t677, .int .i64 t678, (.slice Ao39 t679.length co39), .int .i64 t682, .int .i64 t683, (.slice Ao40 t684.length co40), .int .i64 t687] 38 (0, 0))) ∧ Aside0 (Below w.heap.size w wc))
      case first =>
       have H := HC64.out
       clear HC64
       by_cases c75 : t704 < 0
       ·rw [if_pos c75] at H
        have c75b0 : decide (t704 < 0) = true := decide_eq_true c75
        clear c75
        (first | rw [c75b0] | (simp only [i64_w, i32_w]; rw [c75b0]) | skip)
        have H' := aK H
        clear H
        go_wp2
        go_meet
        case rel => exact ⟨_, (true), (by first | rfl | (simp; done) | (simp [*]; done)), H', ⟨by have := HJ10.out; first | omega | exact Nat.le_refl _⟩, ⟨by (with_reducible repeat (first | apply Kd.R_alloc | apply Kd.R_drewN | apply Kd.R_drew)); exact Kd.R_mono HO_663003.out (fun _ hk => ⟨hk.1, ⟨hk.2.1, ⟨hk.2.2.1, ⟨hk.2.2.2.1, hk.2.2.2.2.1⟩⟩⟩⟩)⟩, ⟨by (with_reducible repeat (first | apply Kd.R_alloc | apply Kd.R_drewN | apply Kd.R_drew)); exact Kd.R_mono HO_663006.out (fun _ hk => ⟨hk.1, ⟨hk.2.1, ⟨hk.2.2.1, ⟨hk.2.2.2.1, hk.2.2.2.2.1⟩⟩⟩⟩)⟩, ⟨by (with_reducible repeat (first | apply Kd.R_alloc | apply Kd.R_drewN | apply Kd.R_drew)); exact Kd.R_mono HO_676003.out (fun _ hk => ⟨hk.1.1.1, ⟨hk.1.1.2.1, ⟨hk.1.1.2.2.1, ⟨hk.1.1.2.2.2.1, hk.1.1.2.2.2.2⟩⟩⟩⟩)⟩, ⟨by (with_reducible repeat (first | apply Kd.R_alloc | apply Kd.R_drewN | apply Kd.R_drew)); exact Kd.R_mono HO_676006.out (fun _ hk => ⟨hk.1.1.1, ⟨hk.1.1.2.1, ⟨hk.1.1.2.2.1, ⟨hk.1.1.2.2.2.1, hk.1.1.2.2.2.2⟩⟩⟩⟩)⟩, ⟨by (with_reducible repeat (first | apply Kd.R_alloc | apply Kd.R_drewN | apply Kd.R_drew)); exact Kd.R_mono HO_690003.out (fun _ hk => ⟨hk.1, ⟨hk.2.1, ⟨hk.2.2.1, ⟨hk.2.2.2.1, hk.2.2.2.2.1⟩⟩⟩⟩)⟩, ⟨by (with_reducible repeat (first | apply Kd.R_alloc | apply Kd.R_drewN | apply Kd.R_drew)); exact Kd.R_mono HO_690006.out (fun _ hk => ⟨hk.1, ⟨hk.2.1, ⟨hk.2.2.1, ⟨hk.2.2.2.1, hk.2.2.2.2.1⟩⟩⟩⟩)⟩, ⟨by (with_reducible repeat (first | refine blk_drewN ?_ _ | refine kD ?_ | refine kA ?_ _)); exact BK635.out⟩, ⟨by (with_reducible repeat (first | refine blk_drewN ?_ _ | refine kD ?_ | refine kA ?_ _)); exact BK662.out⟩, ⟨by (with_reducible repeat (first | refine blk_drewN ?_ _ | refine kD ?_ | refine kA ?_ _)); exact BK675.out⟩, ⟨by (with_reducible repeat (first | refine blk_drewN ?_ _ | refine kD ?_ | refine kA ?_ _)); exact BK689.out⟩, ⟨by repeat (first | (with_reducible first | exact HB.out | apply bAl | apply bDN | apply bD1 | refine bSt ?_ GE635.out | refine bSt ?_ GE662.out | refine bSt ?_ GE675.out | refine bSt ?_ GE689.out) | exact HB.out)⟩⟩
       ·rw [if_neg c75] at H
        have c75b0 : decide (t704 < 0) = false := decide_eq_false c75
        clear c75
        (first | rw [c75b0] | (simp only [i64_w, i32_w]; rw [c75b0]) | skip)
        replace H := Option.bind_eq_some_iff.mp H
        obtain ⟨t707, A760, H⟩ := H
        replace H : (if t707 = true then (laws_FnExactEnter.j1 kj10 t661 (t688 != t661) a0_0 a0_1 a0_2 l0_3 a0_4 a0_5 l0_6 a0_7 t649 t650 t651 t652 t655 t656 t657 t660 t676 t677 t678 t679 t682 t683 t684 t687) else (laws_FnExactEnter.j1 kj10 t661 true a0_0 a0_1 a0_2 l0_3 a0_4 a0_5 l0_6 a0_7 t649 t650 t651 t652 t655 t656 t657 t660 t676 t677 t678 t679 t682 t683 t684 t687)) = some true := H
        have A76 := aK A760
        clear A760
        by_cases c77 : t707 = true
        ·subst c77
         have H1 : (laws_FnExactEnter.j1 kj10 t661 (t688 != t661) a0_0 a0_1 a0_2 l0_3 a0_4 a0_5 l0_6 a0_7 t649 t650 t651 t652 t655 t656 t657 t660 t676 t677 t678 t679 t682 t683 t684 t687) = some true := by first | (rw [if_pos rfl] at H; exact H) | rfl
         clear H
         have H := H1
         clear H1
         have H' := aK H
         clear H
         have hnb78 := NB689_635.out
         have hnc78 := NB635_689.out
         have hnb79 := NB689_662.out
         have hnc79 := NB662_689.out
         have hnb80 := NB689_675.out
         have hnc80 := NB675_689.out
         obtain ⟨hcz81_0, hcz81_1, hcz81_2, hcz81_3, hcz81_4, hcz81_5, hcz81_6, hcz81_7, hfz81_0, hfz81_1, hfz81_2, hfz81_3, hfz81_4, hfz81_5, hfz81_6, hfz81_7⟩ := cl8 BK689.out
         have hnb82 := NB662_635.out
         have hnc82 := NB635_662.out
         have hnb83 := NB662_675.out
         have hnc83 := NB675_662.out
         obtain ⟨hcz84_0, hcz84_1, hcz84_2, hcz84_3, hcz84_4, hcz84_5, hcz84_6, hcz84_7, hfz84_0, hfz84_1, hfz84_2, hfz84_3, hfz84_4, hfz84_5, hfz84_6, hfz84_7⟩ := cl8 BK662.out
         go_wp2_with (first | (go_at_call 19; (with_reducible refine (laws_eqGarden.calls kj10 t676 t677 t678 _ _ t679 t682 t683 _ _ t684 t687 t649 t650 t651 _ _ t652 t655 t656 _ _ t657 t660 true _ ?side1 ?side2 ?side3 ?side4 ?side5 ?side6 ?side7 ?side8 A76.out).mono ?_); (case side1 => exact zC (Kd.R_reads' HO_690003.out).2.2); (case side2 => exact (Kd.R_reads' HO_690003.out).2.1); (case side3 => exact zC (Kd.R_reads' HO_690006.out).2.2); (case side4 => exact (Kd.R_reads' HO_690006.out).2.1); (case side5 => exact zC (Kd.R_reads' HO_663003.out).2.2); (case side6 => exact (Kd.R_reads' HO_663003.out).2.1); (case side7 => exact zC (Kd.R_reads' HO_663006.out).2.2); (case side8 => exact (Kd.R_reads' HO_663006.out).2.1); rintro e w85 ⟨rfl, hb⟩; replace HO_663003 := aK (Kd.R_below (zA HO_663003) hb); replace HO_663006 := aK (Kd.R_below (zA HO_663006) hb); replace HO_676003 := aK (Kd.R_below (zA HO_676003) hb); replace HO_676006 := aK (Kd.R_below (zA HO_676006) hb); replace HO_690003 := aK (Kd.R_below (zA HO_690003) hb); replace HO_690006 := aK (Kd.R_below (zA HO_690006) hb); replace HO696 := aK (Kd.R_below (zA HO696) hb); replace HO701 := aK (Kd.R_below (zA HO701) hb); replace BK635 := zB BK635 hb; replace BK662 := zB BK662 hb; replace BK675 := zB BK675 hb; replace BK689 := zB BK689 hb; replace HB := aK (bSp (zH4 HB GE635 GE662 GE675 GE689) hb); (try clear hb); (try clear hb2); (try clear hk); (try clear hi)))
         go_meet
         case rel => exact ⟨_, ((t688 != t661)), (by first | rfl | (simp; done) | (simp [*]; done)), H', ⟨by have := HJ10.out; first | omega | exact Nat.le_refl _⟩, ⟨by (with_reducible repeat (first | apply Kd.R_alloc | apply Kd.R_drewN | apply Kd.R_drew)); exact Kd.R_mono HO_663003.out (fun _ hk => ⟨hk.1, ⟨hk.2.1, ⟨hk.2.2.1, ⟨hk.2.2.2.1, hk.2.2.2.2.1⟩⟩⟩⟩)⟩, ⟨by (with_reducible repeat (first | apply Kd.R_alloc | apply Kd.R_drewN | apply Kd.R_drew)); exact Kd.R_mono HO_663006.out (fun _ hk => ⟨hk.1, ⟨hk.2.1, ⟨hk.2.2.1, ⟨hk.2.2.2.1, hk.2.2.2.2.1⟩⟩⟩⟩)⟩, ⟨by (with_reducible repeat (first | apply Kd.R_alloc | apply Kd.R_drewN | apply Kd.R_drew)); exact Kd.R_mono HO_676003.out (fun _ hk => ⟨hk.1.1.1, ⟨hk.1.1.2.1, ⟨hk.1.1.2.2.1, ⟨hk.1.1.2.2.2.1, hk.1.1.2.2.2.2⟩⟩⟩⟩)⟩, ⟨by (with_reducible repeat (first | apply Kd.R_alloc | apply Kd.R_drewN | apply Kd.R_drew)); exact Kd.R_mono HO_676006.out (fun _ hk => ⟨hk.1.1.1, ⟨hk.1.1.2.1, ⟨hk.1.1.2.2.1, ⟨hk.1.1.2.2.2.1, hk.1.1.2.2.2.2⟩⟩⟩⟩)⟩, ⟨by (with_reducible repeat (first | apply Kd.R_alloc | apply Kd.R_drewN | apply Kd.R_drew)); exact Kd.R_mono HO_690003.out (fun _ hk => ⟨hk.1, ⟨hk.2.1, ⟨hk.2.2.1, ⟨hk.2.2.2.1, hk.2.2.2.2.1⟩⟩⟩⟩)⟩, ⟨by (with_reducible repeat (first | apply Kd.R_alloc | apply Kd.R_drewN | apply Kd.R_drew)); exact Kd.R_mono HO_690006.out (fun _ hk => ⟨hk.1, ⟨hk.2.1, ⟨hk.2.2.1, ⟨hk.2.2.2.1, hk.2.2.2.2.1⟩⟩⟩⟩)⟩, ⟨by (with_reducible repeat (first | refine blk_drewN ?_ _ | refine kD ?_ | refine kA ?_ _)); exact BK635.out⟩, ⟨by (with_reducible repeat (first | refine blk_drewN ?_ _ | refine kD ?_ | refine kA ?_ _)); exact BK662.out⟩, ⟨by (with_reducible repeat (first | refine blk_drewN ?_ _ | refine kD ?_ | refine kA ?_ _)); exact BK675.out⟩, ⟨by (with_reducible repeat (first | refine blk_drewN ?_ _ | refine kD ?_ | refine kA ?_ _)); exact BK689.out⟩, ⟨by repeat (first | (with_reducible first | exact HB.out | apply bAl | apply bDN | apply bD1 | refine bSt ?_ GE635.out | refine bSt ?_ GE662.out | refine bSt ?_ GE675.out | refine bSt ?_ GE689.out) | exact HB.out)⟩⟩
        ·replace c77 := Bool.eq_false_iff.mpr c77
         subst c77
         have H1 : (laws_FnExactEnter.j1 kj10 t661 true a0_0 a0_1 a0_2 l0_3 a0_4 a0_5 l0_6 a0_7 t649 t650 t651 t652 t655 t656 t657 t660 t676 t677 t678 t679 t682 t683 t684 t687) = some true := by rw [if_neg (show ¬ (false = true) by decide)] at H; exact H
         clear H
         have H := H1
         clear H1
         have H' := aK H
         clear H
         have hnb86 := NB689_635.out
         have hnc86 := NB635_689.out
         have hnb87 := NB689_662.out
         have hnc87 := NB662_689.out
         have hnb88 := NB689_675.out
         have hnc88 := NB675_689.out
         obtain ⟨hcz89_0, hcz89_1, hcz89_2, hcz89_3, hcz89_4, hcz89_5, hcz89_6, hcz89_7, hfz89_0, hfz89_1, hfz89_2, hfz89_3, hfz89_4, hfz89_5, hfz89_6, hfz89_7⟩ := cl8 BK689.out
         have hnb90 := NB662_635.out
         have hnc90 := NB635_662.out
         have hnb91 := NB662_675.out
         have hnc91 := NB675_662.out
         obtain ⟨hcz92_0, hcz92_1, hcz92_2, hcz92_3, hcz92_4, hcz92_5, hcz92_6, hcz92_7, hfz92_0, hfz92_1, hfz92_2, hfz92_3, hfz92_4, hfz92_5, hfz92_6, hfz92_7⟩ := cl8 BK662.out
         go_wp2_with (first | (go_at_call 19; (with_reducible refine (laws_eqGarden.calls kj10 t676 t677 t678 _ _ t679 t682 t683 _ _ t684 t687 t649 t650 t651 _ _ t652 t655 t656 _ _ t657 t660 false _ ?side1 ?side2 ?side3 ?side4 ?side5 ?side6 ?side7 ?side8 A76.out).mono ?_); (case side1 => exact zC (Kd.R_reads' HO_690003.out).2.2); (case side2 => exact (Kd.R_reads' HO_690003.out).2.1); (case side3 => exact zC (Kd.R_reads' HO_690006.out).2.2); (case side4 => exact (Kd.R_reads' HO_690006.out).2.1); (case side5 => exact zC (Kd.R_reads' HO_663003.out).2.2); (case side6 => exact (Kd.R_reads' HO_663003.out).2.1); (case side7 => exact zC (Kd.R_reads' HO_663006.out).2.2); (case side8 => exact (Kd.R_reads' HO_663006.out).2.1); rintro e w93 ⟨rfl, hb⟩; replace HO_663003 := aK (Kd.R_below (zA HO_663003) hb); replace HO_663006 := aK (Kd.R_below (zA HO_663006) hb); replace HO_676003 := aK (Kd.R_below (zA HO_676003) hb); replace HO_676006 := aK (Kd.R_below (zA HO_676006) hb); replace HO_690003 := aK (Kd.R_below (zA HO_690003) hb); replace HO_690006 := aK (Kd.R_below (zA HO_690006) hb); replace HO696 := aK (Kd.R_below (zA HO696) hb); replace HO701 := aK (Kd.R_below (zA HO701) hb); replace BK635 := zB BK635 hb; replace BK662 := zB BK662 hb; replace BK675 := zB BK675 hb; replace BK689 := zB BK689 hb; replace HB := aK (bSp (zH4 HB GE635 GE662 GE675 GE689) hb); (try clear hb); (try clear hb2); (try clear hk); (try clear hi)))
         go_meet
         case rel => exact ⟨_, (true), (by first | rfl | (simp; done) | (simp [*]; done)), H', ⟨by have := HJ10.out; first | omega | exact Nat.le_refl _⟩, ⟨by (with_reducible repeat (first | apply Kd.R_alloc | apply Kd.R_drewN | apply Kd.R_drew)); exact Kd.R_mono HO_663003.out (fun _ hk => ⟨hk.1, ⟨hk.2.1, ⟨hk.2.2.1, ⟨hk.2.2.2.1, hk.2.2.2.2.1⟩⟩⟩⟩)⟩, ⟨by (with_reducible repeat (first | apply Kd.R_alloc | apply Kd.R_drewN | apply Kd.R_drew)); exact Kd.R_mono HO_663006.out (fun _ hk => ⟨hk.1, ⟨hk.2.1, ⟨hk.2.2.1, ⟨hk.2.2.2.1, hk.2.2.2.2.1⟩⟩⟩⟩)⟩, ⟨by (with_reducible repeat (first | apply Kd.R_alloc | apply Kd.R_drewN | apply Kd.R_drew)); exact Kd.R_mono HO_676003.out (fun _ hk => ⟨hk.1.1.1, ⟨hk.1.1.2.1, ⟨hk.1.1.2.2.1, ⟨hk.1.1.2.2.2.1, hk.1.1.2.2.2.2⟩⟩⟩⟩)⟩, ⟨by (with_reducible repeat (first | apply Kd.R_alloc | apply Kd.R_drewN | apply Kd.R_drew)); exact Kd.R_mono HO_676006.out (fun _ hk => ⟨hk.1.1.1, ⟨hk.1.1.2.1, ⟨hk.1.1.2.2.1, ⟨hk.1.1.2.2.2.1, hk.1.1.2.2.2.2⟩⟩⟩⟩)⟩, ⟨by (with_reducible repeat (first | apply Kd.R_alloc | apply Kd.R_drewN | apply Kd.R_drew)); exact Kd.R_mono HO_690003.out (fun _ hk => ⟨hk.1, ⟨hk.2.1, ⟨hk.2.2.1, ⟨hk.2.2.2.1, hk.2.2.2.2.1⟩⟩⟩⟩)⟩, ⟨by (with_reducible repeat (first | apply Kd.R_alloc | apply Kd.R_drewN | apply Kd.R_drew)); exact Kd.R_mono HO_690006.out (fun _ hk => ⟨hk.1, ⟨hk.2.1, ⟨hk.2.2.1, ⟨hk.2.2.2.1, hk.2.2.2.2.1⟩⟩⟩⟩)⟩, ⟨by (with_reducible repeat (first | refine blk_drewN ?_ _ | refine kD ?_ | refine kA ?_ _)); exact BK635.out⟩, ⟨by (with_reducible repeat (first | refine blk_drewN ?_ _ | refine kD ?_ | refine kA ?_ _)); exact BK662.out⟩, ⟨by (with_reducible repeat (first | refine blk_drewN ?_ _ | refine kD ?_ | refine kA ?_ _)); exact BK675.out⟩, ⟨by (with_reducible repeat (first | refine blk_drewN ?_ _ | refine kD ?_ | refine kA ?_ _)); exact BK689.out⟩, ⟨by repeat (first | (with_reducible first | exact HB.out | apply bAl | apply bDN | apply bD1 | refine bSt ?_ GE635.out | refine bSt ?_ GE662.out | refine bSt ?_ GE675.out | refine bSt ?_ GE689.out) | exact HB.out)⟩⟩
      case rest =>
       clear HC64
       try clear c1
       try clear c2
       try clear p2
       try clear c3
       try clear c3b0
       try clear c4
       try clear c5
       try clear c6
       try clear c7
       try clear c8
       try clear c9
       try clear c15
       try clear c16
       try clear c17
       try clear c18
       try clear c19
       try clear c20
       try clear c21
       try clear c28
       try clear c29
       try clear c35
       try clear c36
       try clear c37
       try clear c42
       try clear c43
       try clear c44
       try clear c45
       try clear c47
       try clear c48
       try clear c51
       try clear c52
       try clear c53
       try clear c55
       try clear c56
       try clear c59
       try clear c62
       try clear c70
       try clear c71
       try clear c72
       try clear c75
       try clear c75b0
       try clear c77
       try clear c78
       try clear c79
       try clear c80
       try clear c82
       try clear c83
       try clear c86
       try clear c87
       try clear c88
       try clear c90
       try clear c91
       try clear hcz13_0
       try clear hcz13_1
       try clear hcz13_2
       try clear hcz13_3
       try clear hcz13_4
       try clear hcz13_5
       try clear hcz13_6
       try clear hcz13_7
       try clear hcz15_0
       try clear hcz15_1
       try clear hcz15_2
       try clear hcz15_3
       try clear hcz15_4
       try clear hcz15_5
       try clear hcz15_6
       try clear hcz15_7
       try clear hcz22_0
       try clear hcz22_1
       try clear hcz22_2
       try clear hcz22_3
       try clear hcz22_4
       try clear hcz22_5
       try clear hcz22_6
       try clear hcz22_7
       try clear hcz25_0
       try clear hcz25_1
       try clear hcz25_2
       try clear hcz25_3
       try clear hcz25_4
       try clear hcz25_5
       try clear hcz25_6
       try clear hcz25_7
       try clear hcz30_0
       try clear hcz30_1
       try clear hcz30_2
       try clear hcz30_3
       try clear hcz30_4
       try clear hcz30_5
       try clear hcz30_6
       try clear hcz30_7
       try clear hcz38_0
       try clear hcz38_1
       try clear hcz38_2
       try clear hcz38_3
       try clear hcz38_4
       try clear hcz38_5
       try clear hcz38_6
       try clear hcz38_7
       try clear hcz46_0
       try clear hcz46_1
       try clear hcz46_2
       try clear hcz46_3
       try clear hcz46_4
       try clear hcz46_5
       try clear hcz46_6
       try clear hcz46_7
       try clear hcz49_0
       try clear hcz49_1
       try clear hcz49_2
       try clear hcz49_3
       try clear hcz49_4
       try clear hcz49_5
       try clear hcz49_6
       try clear hcz49_7
       try clear hcz54_0
       try clear hcz54_1
       try clear hcz54_2
       try clear hcz54_3
       try clear hcz54_4
       try clear hcz54_5
       try clear hcz54_6
       try clear hcz54_7
       try clear hcz57_0
       try clear hcz57_1
       try clear hcz57_2
       try clear hcz57_3
       try clear hcz57_4
       try clear hcz57_5
       try clear hcz57_6
       try clear hcz57_7
       try clear hcz5_0
       try clear hcz5_1
       try clear hcz5_2
       try clear hcz5_3
       try clear hcz5_4
       try clear hcz5_5
       try clear hcz5_6
       try clear hcz5_7
       try clear hcz73_0
       try clear hcz73_1
       try clear hcz73_2
       try clear hcz73_3
       try clear hcz73_4
       try clear hcz73_5
       try clear hcz73_6
       try clear hcz73_7
       try clear hcz81_0
       try clear hcz81_1
       try clear hcz81_2
       try clear hcz81_3
       try clear hcz81_4
       try clear hcz81_5
       try clear hcz81_6
       try clear hcz81_7
       try clear hcz84_0
       try clear hcz84_1
       try clear hcz84_2
       try clear hcz84_3
       try clear hcz84_4
       try clear hcz84_5
       try clear hcz84_6
       try clear hcz84_7
       try clear hcz89_0
       try clear hcz89_1
       try clear hcz89_2
       try clear hcz89_3
       try clear hcz89_4
       try clear hcz89_5
       try clear hcz89_6
       try clear hcz89_7
       try clear hcz92_0
       try clear hcz92_1
       try clear hcz92_2
       try clear hcz92_3
       try clear hcz92_4
       try clear hcz92_5
       try clear hcz92_6
       try clear hcz92_7
       try clear hfz13_0
       try clear hfz13_1
       try clear hfz13_2
       try clear hfz13_3
       try clear hfz13_4
       try clear hfz13_5
       try clear hfz13_6
       try clear hfz13_7
       try clear hfz15_0
       try clear hfz15_1
       try clear hfz15_2
       try clear hfz15_3
       try clear hfz15_4
       try clear hfz15_5
       try clear hfz15_6
       try clear hfz15_7
       try clear hfz22_0
       try clear hfz22_1
       try clear hfz22_2
       try clear hfz22_3
       try clear hfz22_4
       try clear hfz22_5
       try clear hfz22_6
       try clear hfz22_7
       try clear hfz25_0
       try clear hfz25_1
       try clear hfz25_2
       try clear hfz25_3
       try clear hfz25_4
       try clear hfz25_5
       try clear hfz25_6
       try clear hfz25_7
       try clear hfz30_0
       try clear hfz30_1
       try clear hfz30_2
       try clear hfz30_3
       try clear hfz30_4
       try clear hfz30_5
       try clear hfz30_6
       try clear hfz30_7
       try clear hfz38_0
       try clear hfz38_1
       try clear hfz38_2
       try clear hfz38_3
       try clear hfz38_4
       try clear hfz38_5
       try clear hfz38_6
       try clear hfz38_7
       try clear hfz46_0
       try clear hfz46_1
       try clear hfz46_2
       try clear hfz46_3
       try clear hfz46_4
       try clear hfz46_5
       try clear hfz46_6
       try clear hfz46_7
       try clear hfz49_0
       try clear hfz49_1
       try clear hfz49_2
       try clear hfz49_3
       try clear hfz49_4
       try clear hfz49_5
       try clear hfz49_6
       try clear hfz49_7
       try clear hfz54_0
       try clear hfz54_1
       try clear hfz54_2
       try clear hfz54_3
       try clear hfz54_4
       try clear hfz54_5
       try clear hfz54_6
       try clear hfz54_7
       try clear hfz57_0
       try clear hfz57_1
       try clear hfz57_2
       try clear hfz57_3
       try clear hfz57_4
       try clear hfz57_5
       try clear hfz57_6
       try clear hfz57_7
       try clear hfz5_0
       try clear hfz5_1
       try clear hfz5_2
       try clear hfz5_3
       try clear hfz5_4
       try clear hfz5_5
       try clear hfz5_6
       try clear hfz5_7
       try clear hfz73_0
       try clear hfz73_1
       try clear hfz73_2
       try clear hfz73_3
       try clear hfz73_4
       try clear hfz73_5
       try clear hfz73_6
       try clear hfz73_7
       try clear hfz81_0
       try clear hfz81_1
       try clear hfz81_2
       try clear hfz81_3
       try clear hfz81_4
       try clear hfz81_5
       try clear hfz81_6
       try clear hfz81_7
       try clear hfz84_0
       try clear hfz84_1
       try clear hfz84_2
       try clear hfz84_3
       try clear hfz84_4
       try clear hfz84_5
       try clear hfz84_6
       try clear hfz84_7
       try clear hfz89_0
       try clear hfz89_1
       try clear hfz89_2
       try clear hfz89_3
       try clear hfz89_4
       try clear hfz89_5
       try clear hfz89_6
       try clear hfz89_7
       try clear hfz92_0
       try clear hfz92_1
       try clear hfz92_2
       try clear hfz92_3
       try clear hfz92_4
       try clear hfz92_5
       try clear hfz92_6
       try clear hfz92_7
       try clear p2
       obtain ⟨kq, x61_63, rfl, HA, HJ63, HO_663003, HO_663006, HO_676003, HO_676006, HO_690003, HO_690006, BK635, BK662, BK675, BK689, HB⟩ := hcut
       have hl676003_63 := (Kd.R_reads' HO_676003.out).1
       rw [hl676003_63] at HO_676003
       (try simp only [hl676003_63])
       (try simp only [hl676003_63] at BK635)
       (try simp only [hl676003_63] at BK662)
       (try simp only [hl676003_63] at BK675)
       (try simp only [hl676003_63] at BK689)
       (try simp only [hl676003_63] at HO_663003)
       (try simp only [hl676003_63] at HO_663006)
       (try simp only [hl676003_63] at HO_676006)
       (try simp only [hl676003_63] at HO_690003)
       (try simp only [hl676003_63] at HO_690006)
       have hl676006_63 := (Kd.R_reads' HO_676006.out).1
       rw [hl676006_63] at HO_676006
       (try simp only [hl676006_63])
       (try simp only [hl676006_63] at BK635)
       (try simp only [hl676006_63] at BK662)
       (try simp only [hl676006_63] at BK675)
       (try simp only [hl676006_63] at BK689)
       (try simp only [hl676006_63] at HO_663003)
       (try simp only [hl676006_63] at HO_663006)
       (try simp only [hl676006_63] at HO_676003)
       (try simp only [hl676006_63] at HO_690003)
       (try simp only [hl676006_63] at HO_690006)
       cases kq with
       | zero => exact absurd HA.out (by simp [laws_FnExactEnter.j1])
       | succ kj63 =>
        have H := HA.out
        clear HA
        simp only [laws_FnExactEnter.j1] at H
        by_cases c94 : x61_63 = true
        ·subst c94
         have H1 : (some false) = some true := by first | (rw [if_pos rfl] at H; exact H) | rfl
         clear H
         have H := H1
         clear H1
         exact absurd (Option.some.inj H) Bool.false_ne_true
        ·replace c94 := Bool.eq_false_iff.mpr c94
         subst c94
         have H1 : ((laws_markGarden.f kj63 t676 t677 t678 t679 t682 t683 t684 t687 1).bind fun bt708 => ((laws_heldGarden.f kj63 t676 t677 t678 bt708.2.1 t682 t683 bt708.2.2 t687 1).bind fun t711 => (if t711 < 0 then (some false) else (if t711 = bt708.1 then ((laws_toGarden.f kj63 a0_0 a0_1 a0_2 l0_3 a0_4 a0_5 l0_6 a0_7).bind fun bt712 => ((impl_Enter.f kj63 bt712.1 bt712.2.1 bt712.2.2.1 bt712.2.2.2.1 bt712.2.2.2.2.1 bt712.2.2.2.2.2.1 bt712.2.2.2.2.2.2.1 bt712.2.2.2.2.2.2.2).bind fun bt724 => ((laws_eqGarden.f kj63 bt724.1 bt724.2.1 bt724.2.2.1 bt724.2.2.2.1 bt724.2.2.2.2.1 bt724.2.2.2.2.2.1 bt724.2.2.2.2.2.2.1 bt724.2.2.2.2.2.2.2.1 t649 t650 t651 t652 t655 t656 t657 t660).bind fun t738 => (if t738 = true then (laws_FnExactEnter.j2 kj63 bt708.1 (bt724.2.2.2.2.2.2.2.2 != t661) t676 t677 t678 bt708.2.1 t682 t683 bt708.2.2 t687) else (laws_FnExactEnter.j2 kj63 bt708.1 true t676 t677 t678 bt708.2.1 t682 t683 bt708.2.2 t687))))) else (some false))))) = some true := by rw [if_neg (show ¬ (false = true) by decide)] at H; exact H
         clear H
         have H := H1
         clear H1
         replace H := Option.bind_eq_some_iff.mp H
         obtain ⟨⟨t708, t709, t710⟩, A950, H⟩ := H
         replace H : ((laws_heldGarden.f kj63 t676 t677 t678 t709 t682 t683 t710 t687 1).bind fun t711 => (if t711 < 0 then (some false) else (if t711 = t708 then ((laws_toGarden.f kj63 a0_0 a0_1 a0_2 l0_3 a0_4 a0_5 l0_6 a0_7).bind fun bt712 => ((impl_Enter.f kj63 bt712.1 bt712.2.1 bt712.2.2.1 bt712.2.2.2.1 bt712.2.2.2.2.1 bt712.2.2.2.2.2.1 bt712.2.2.2.2.2.2.1 bt712.2.2.2.2.2.2.2).bind fun bt724 => ((laws_eqGarden.f kj63 bt724.1 bt724.2.1 bt724.2.2.1 bt724.2.2.2.1 bt724.2.2.2.2.1 bt724.2.2.2.2.2.1 bt724.2.2.2.2.2.2.1 bt724.2.2.2.2.2.2.2.1 t649 t650 t651 t652 t655 t656 t657 t660).bind fun t738 => (if t738 = true then (laws_FnExactEnter.j2 kj63 t708 (bt724.2.2.2.2.2.2.2.2 != t661) t676 t677 t678 t709 t682 t683 t710 t687) else (laws_FnExactEnter.j2 kj63 t708 true t676 t677 t678 t709 t682 t683 t710 t687))))) else (some false)))) = some true := H
         have A95 := aK A950
         clear A950
         replace H := Option.bind_eq_some_iff.mp H
         obtain ⟨t711, A960, H⟩ := H
         replace H : (if t711 < 0 then (some false) else (if t711 = t708 then ((laws_toGarden.f kj63 a0_0 a0_1 a0_2 l0_3 a0_4 a0_5 l0_6 a0_7).bind fun bt712 => ((impl_Enter.f kj63 bt712.1 bt712.2.1 bt712.2.2.1 bt712.2.2.2.1 bt712.2.2.2.2.1 bt712.2.2.2.2.2.1 bt712.2.2.2.2.2.2.1 bt712.2.2.2.2.2.2.2).bind fun bt724 => ((laws_eqGarden.f kj63 bt724.1 bt724.2.1 bt724.2.2.1 bt724.2.2.2.1 bt724.2.2.2.2.1 bt724.2.2.2.2.2.1 bt724.2.2.2.2.2.2.1 bt724.2.2.2.2.2.2.2.1 t649 t650 t651 t652 t655 t656 t657 t660).bind fun t738 => (if t738 = true then (laws_FnExactEnter.j2 kj63 t708 (bt724.2.2.2.2.2.2.2.2 != t661) t676 t677 t678 t709 t682 t683 t710 t687) else (laws_FnExactEnter.j2 kj63 t708 true t676 t677 t678 t709 t682 t683 t710 t687))))) else (some false))) = some true := H
         have A96 := aK A960
         clear A960
         by_cases c97 : t711 < 0
         ·rw [if_pos c97] at H
          have c97b0 : decide (t711 < 0) = true := decide_eq_true c97
          clear c97
          exact absurd (Option.some.inj H) Bool.false_ne_true
         ·rw [if_neg c97] at H
          have c97b0 : decide (t711 < 0) = false := decide_eq_false c97
          clear c97
          by_cases c98 : t711 = t708
          ·rw [if_pos c98] at H
           have c98b0 : (t711 == t708) = true := beq_iff_eq.mpr c98
           have c98b1 : (t711 != t708) = false := bne_eq_false_iff_eq.mpr c98
           clear c98
           replace H := Option.bind_eq_some_iff.mp H
           obtain ⟨⟨t712, t713, t714, t715, t718, t719, t720, t723⟩, A990, H⟩ := H
           replace H : ((impl_Enter.f kj63 t712 t713 t714 t715 t718 t719 t720 t723).bind fun bt724 => ((laws_eqGarden.f kj63 bt724.1 bt724.2.1 bt724.2.2.1 bt724.2.2.2.1 bt724.2.2.2.2.1 bt724.2.2.2.2.2.1 bt724.2.2.2.2.2.2.1 bt724.2.2.2.2.2.2.2.1 t649 t650 t651 t652 t655 t656 t657 t660).bind fun t738 => (if t738 = true then (laws_FnExactEnter.j2 kj63 t708 (bt724.2.2.2.2.2.2.2.2 != t661) t676 t677 t678 t709 t682 t683 t710 t687) else (laws_FnExactEnter.j2 kj63 t708 true t676 t677 t678 t709 t682 t683 t710 t687)))) = some true := H
           have A99 := aK A990
           clear A990
           replace H := Option.bind_eq_some_iff.mp H
           obtain ⟨⟨t724, t725, t726, t727, t730, t731, t732, t735, t736⟩, A1000, H⟩ := H
           replace H : ((laws_eqGarden.f kj63 t724 t725 t726 t727 t730 t731 t732 t735 t649 t650 t651 t652 t655 t656 t657 t660).bind fun t738 => (if t738 = true then (laws_FnExactEnter.j2 kj63 t708 (t736 != t661) t676 t677 t678 t709 t682 t683 t710 t687) else (laws_FnExactEnter.j2 kj63 t708 true t676 t677 t678 t709 t682 t683 t710 t687))) = some true := H
           have A100 := aK A1000
           clear A1000
           have HC101 := aK H
           clear H
           have hnb102 := NB689_635.out
           have hnc102 := NB635_689.out
           have hnb103 := NB689_662.out
           have hnc103 := NB662_689.out
           have hnb104 := NB689_675.out
           have hnc104 := NB675_689.out
           obtain ⟨hcz105_0, hcz105_1, hcz105_2, hcz105_3, hcz105_4, hcz105_5, hcz105_6, hcz105_7, hfz105_0, hfz105_1, hfz105_2, hfz105_3, hfz105_4, hfz105_5, hfz105_6, hfz105_7⟩ := cl8 BK689.out
           go_upto_region 25 with (first | ((with_reducible refine gate_callee (f := 20) rfl ?_); refine goesL_ (some 64) rfl rfl Tryz.func20 (by kernel_rfl) rfl #[.agg #[.int .i64 t676, .int .i64 t677, .int .i64 t678, .slice Ao39 t679.length co39, .int .i64 t682, .int .i64 t683, .slice Ao40 t684.length co40, .int .i64 t687], .int .i64 1] rfl zD ?_; (with_reducible refine (laws_markGarden.calls kj63 t676 t677 t678 (fun k_ => some k_ = (.slice Ao39 t679.length co39 : Value).ownBlock) (.slice Ao39 t679.length co39) t679 t682 t683 (fun k_ => some k_ = (.slice Ao40 t684.length co40 : Value).ownBlock) (.slice Ao40 t684.length co40) t684 t687 1 t708 t709 t710 w _ ?side1 ?side2 ?side3 ?side4 ?side5 A95.out).mono ?_); (case side1 => exact (zH4 HB GE635 GE662 GE675 GE689)); (case side2 => exact Kd.R_tight rfl HO_690003.out); (case side3 => exact fun k_ e_ => (HO_690003.out.1 k_ e_.symm).2.2.2.2); (case side4 => exact Kd.R_tight rfl HO_690006.out); (case side5 => exact fun k_ e_ => (HO_690006.out.1 k_ e_.symm).2.2.2.2); rintro e w106 ⟨rfl, hy0, hy1, hb, hkp⟩; refine ⟨_, rfl, ?_⟩; replace HO_663003 := aK (Kd.R_mono (ok' := fun k_ => some k_ ≠ (.slice Ao24 t657.length co24 : Value).ownBlock ∧ some k_ ≠ (.slice Ao31 t705.length co31 : Value).ownBlock ∧ some k_ ≠ (.slice Ao32 t706.length co32 : Value).ownBlock ∧ some k_ ≠ (.slice Ao39 t679.length co39 : Value).ownBlock ∧ some k_ ≠ (.slice Ao40 t684.length co40 : Value).ownBlock) (Kd.R_keptB (HO_663003.out) hkp (fun k_ hk_ hs_ => Or.elim hs_ (hk_.2.2.2.1) (hk_.2.2.2.2))) (fun k_ hk_ => ⟨hk_.1.1, hk_.1.2.1, hk_.1.2.2.1, hk_.1.2.2.2.1, hk_.1.2.2.2.2⟩)); replace HO_663006 := aK (Kd.R_mono (ok' := fun k_ => some k_ ≠ (.slice Ao23 t652.length co23 : Value).ownBlock ∧ some k_ ≠ (.slice Ao31 t705.length co31 : Value).ownBlock ∧ some k_ ≠ (.slice Ao32 t706.length co32 : Value).ownBlock ∧ some k_ ≠ (.slice Ao39 t679.length co39 : Value).ownBlock ∧ some k_ ≠ (.slice Ao40 t684.length co40 : Value).ownBlock) (Kd.R_keptB (HO_663006.out) hkp (fun k_ hk_ hs_ => Or.elim hs_ (hk_.2.2.2.1) (hk_.2.2.2.2))) (fun k_ hk_ => ⟨hk_.1.1, hk_.1.2.1, hk_.1.2.2.1, hk_.1.2.2.2.1, hk_.1.2.2.2.2⟩)); replace HO_676003 := aK (Kd.R_mono (ok' := fun k_ => some k_ ≠ (.slice Ao23 t652.length co23 : Value).ownBlock ∧ some k_ ≠ (.slice Ao24 t657.length co24 : Value).ownBlock ∧ some k_ ≠ (.slice Ao32 t706.length co32 : Value).ownBlock ∧ some k_ ≠ (.slice Ao39 t679.length co39 : Value).ownBlock ∧ some k_ ≠ (.slice Ao40 t684.length co40 : Value).ownBlock) (Kd.R_keptB (HO_676003.out) hkp (fun k_ hk_ hs_ => Or.elim hs_ (hk_.2.2.2.1) (hk_.2.2.2.2))) (fun k_ hk_ => ⟨hk_.1.1, hk_.1.2.1, hk_.1.2.2.1, hk_.1.2.2.2.1, hk_.1.2.2.2.2⟩)); replace HO_676006 := aK (Kd.R_mono (ok' := fun k_ => some k_ ≠ (.slice Ao23 t652.length co23 : Value).ownBlock ∧ some k_ ≠ (.slice Ao24 t657.length co24 : Value).ownBlock ∧ some k_ ≠ (.slice Ao31 t705.length co31 : Value).ownBlock ∧ some k_ ≠ (.slice Ao39 t679.length co39 : Value).ownBlock ∧ some k_ ≠ (.slice Ao40 t684.length co40 : Value).ownBlock) (Kd.R_keptB (HO_676006.out) hkp (fun k_ hk_ hs_ => Or.elim hs_ (hk_.2.2.2.1) (hk_.2.2.2.2))) (fun k_ hk_ => ⟨hk_.1.1, hk_.1.2.1, hk_.1.2.2.1, hk_.1.2.2.2.1, hk_.1.2.2.2.2⟩)); replace BK635 := aK (blk_kept (zK BK635) hkp (fun hs_ => Or.elim hs_ (Kd.R_ne HO_690003.out BK635.out (by decide)) (Kd.R_ne HO_690006.out BK635.out (by decide)))); replace BK662 := aK (blk_kept (zK BK662) hkp (fun hs_ => Or.elim hs_ (Kd.R_ne HO_690003.out BK662.out (by decide)) (Kd.R_ne HO_690006.out BK662.out (by decide)))); replace BK675 := aK (blk_kept (zK BK675) hkp (fun hs_ => Or.elim hs_ (Kd.R_ne HO_690003.out BK675.out (by decide)) (Kd.R_ne HO_690006.out BK675.out (by decide)))); replace BK689 := aK (blk_kept (zK BK689) hkp (fun hs_ => Or.elim hs_ (Kd.R_ne HO_690003.out BK689.out (by decide)) (Kd.R_ne HO_690006.out BK689.out (by decide)))); replace HO_690003 := aK (Kd.R_reok rfl hy0 (fun k_ e_ => HO_690003.out.1 k_ e_)); replace HO_690006 := aK (Kd.R_reok rfl hy1 (fun k_ e_ => HO_690006.out.1 k_ e_)); replace HB := aK (hb); (try clear hb); (try clear hkp); (try clear hy0); (try clear hy1); obtain ⟨hcz107_0, hcz107_1, hcz107_2, hcz107_3, hcz107_4, hcz107_5, hcz107_6, hcz107_7, hfz107_0, hfz107_1, hfz107_2, hfz107_3, hfz107_4, hfz107_5, hfz107_6, hfz107_7⟩ := cl8 BK689.out) | ((with_reducible refine gate_callee (f := 21) rfl ?_); refine goesL_ (some 67) rfl rfl Tryz.func21 (by kernel_rfl) rfl #[.agg #[.int .i64 t676, .int .i64 t677, .int .i64 t678, .slice Ao39 t709.length co39, .int .i64 t682, .int .i64 t683, .slice Ao40 t710.length co40, .int .i64 t687], .int .i64 1] rfl (by (try simp only [List.map_toArray, List.map_cons, List.map_nil]); first | done | (rw [show t709.length = t679.length from (Kd.R_reads' HO_690003.out).1.symm, show t710.length = t684.length from (Kd.R_reads' HO_690006.out).1.symm] <;> rfl) | rfl | (simp only [List.length_drop, List.length_take]; rfl)) ?_; (with_reducible refine (laws_heldGarden.calls kj63 t676 t677 t678 _ _ t709 t682 t683 _ _ t710 t687 1 t711 _ ?side1 ?side2 ?side3 ?side4 A96.out).mono ?_); (case side1 => exact zC (Kd.R_reads' HO_690003.out).2.2); (case side2 => rw [show t709.length = t679.length from (Kd.R_reads' HO_690003.out).1.symm]; exact (Kd.R_reads' HO_690003.out).2.1); (case side3 => exact zC (Kd.R_reads' HO_690006.out).2.2); (case side4 => rw [show t710.length = t684.length from (Kd.R_reads' HO_690006.out).1.symm]; exact (Kd.R_reads' HO_690006.out).2.1); rintro e w108 ⟨rfl, hb⟩; refine ⟨_, rfl, ?_⟩; replace HO_663003 := aK (Kd.R_below (zA HO_663003) hb); replace HO_663006 := aK (Kd.R_below (zA HO_663006) hb); replace HO_676003 := aK (Kd.R_below (zA HO_676003) hb); replace HO_676006 := aK (Kd.R_below (zA HO_676006) hb); replace HO_690003 := aK (Kd.R_below (zA HO_690003) hb); replace HO_690006 := aK (Kd.R_below (zA HO_690006) hb); replace BK635 := zB BK635 hb; replace BK662 := zB BK662 hb; replace BK675 := zB BK675 hb; replace BK689 := zB BK689 hb; replace HB := aK (bSp (zH4 HB GE635 GE662 GE675 GE689) hb); (try clear hb); (try clear hb2); (try clear hk); (try clear hi); have hnb109 := NB635_662.out; have hnc109 := NB662_635.out; have hnb110 := NB635_675.out; have hnc110 := NB675_635.out; obtain ⟨hcz111_0, hcz111_1, hcz111_2, hcz111_3, hcz111_4, hcz111_5, hcz111_6, hcz111_7, hfz111_0, hfz111_1, hfz111_2, hfz111_3, hfz111_4, hfz111_5, hfz111_6, hfz111_7⟩ := cl8 BK635.out) | ((with_reducible refine gate_callee (f := 17) rfl ?_); refine goesL_ (some 75) rfl rfl Tryz.func17 (by kernel_rfl) rfl #[.agg #[.int .i64 a0_0, .int .i64 a0_1, .int .i64 a0_2, .slice A0_3 l0_3.length c0_3, .int .i64 a0_4, .int .i64 a0_5, .slice A0_6 l0_6.length c0_6, .int .i64 a0_7]] rfl zD ?_; (with_reducible refine (laws_toGarden.calls kj63 a0_0 a0_1 a0_2 _ _ l0_3 a0_4 a0_5 _ _ l0_6 a0_7 t712 t713 t714 t715 t718 t719 t720 t723 _ ?side1 ?side2 ?side3 ?side4 A99.out).mono ?_); (case side1 => exact zC (Kd.C_below HR0_3.out HB.out)); (case side2 => exact HC0_3.out); (case side3 => exact zC (Kd.C_below HR0_6.out HB.out)); (case side4 => exact HC0_6.out); rintro e w112 ⟨v716, v721, rfl, ho0, ho1, hb⟩; refine ⟨_, rfl, ?_⟩; have HO717 := aK (Kd.R_lower (Kd.R_new' (Kd.R_new' (Kd.R_new' (Kd.R_new' (Kd.R_new' (Kd.R_new' ho0 (Kd.R_lt (zA HO_663003))) (Kd.R_lt (zA HO_663006))) (Kd.R_lt (zA HO_676003))) (Kd.R_lt (zA HO_676006))) (Kd.R_lt (zA HO_690003))) (Kd.R_lt (zA HO_690006))) (bSz (zH4 HB GE635 GE662 GE675 GE689))); have HO722 := aK (Kd.R_lower (Kd.R_new' (Kd.R_new' (Kd.R_new' (Kd.R_new' (Kd.R_new' (Kd.R_new' ho1 (Kd.R_lt (zA HO_663003))) (Kd.R_lt (zA HO_663006))) (Kd.R_lt (zA HO_676003))) (Kd.R_lt (zA HO_676006))) (Kd.R_lt (zA HO_690003))) (Kd.R_lt (zA HO_690006))) (bSz (zH4 HB GE635 GE662 GE675 GE689))); replace HO_663003 := aK (Kd.R_mono (Kd.R_told (Kd.R_told (Kd.R_old (zA HO_663003) hb) (Kd.R_base ho0)) (Kd.R_base ho1)) (fun _ h_ => h_.1)); replace HO_663006 := aK (Kd.R_mono (Kd.R_told (Kd.R_told (Kd.R_old (zA HO_663006) hb) (Kd.R_base ho0)) (Kd.R_base ho1)) (fun _ h_ => h_.1)); replace HO_676003 := aK (Kd.R_mono (Kd.R_told (Kd.R_told (Kd.R_old (zA HO_676003) hb) (Kd.R_base ho0)) (Kd.R_base ho1)) (fun _ h_ => h_.1)); replace HO_676006 := aK (Kd.R_mono (Kd.R_told (Kd.R_told (Kd.R_old (zA HO_676006) hb) (Kd.R_base ho0)) (Kd.R_base ho1)) (fun _ h_ => h_.1)); replace HO_690003 := aK (Kd.R_mono (Kd.R_told (Kd.R_told (Kd.R_old (zA HO_690003) hb) (Kd.R_base ho0)) (Kd.R_base ho1)) (fun _ h_ => h_.1)); replace HO_690006 := aK (Kd.R_mono (Kd.R_told (Kd.R_told (Kd.R_old (zA HO_690006) hb) (Kd.R_base ho0)) (Kd.R_base ho1)) (fun _ h_ => h_.1)); replace BK635 := zB BK635 hb; replace BK662 := zB BK662 hb; replace BK675 := zB BK675 hb; replace BK689 := zB BK689 hb; replace HB := aK (bSp (zH4 HB GE635 GE662 GE675 GE689) hb); (try clear hb); (try clear hb2); (try clear hk); (try clear hi); (try clear ho0); (try clear ho1); obtain ⟨Ao113, co113, eo113⟩ := Kd.R_slice HO717.out; subst eo113; obtain ⟨Ao114, co114, eo114⟩ := Kd.R_slice HO722.out; subst eo114) | ((with_reducible refine gate_callee (f := 18) rfl ?_); refine goesL_ (some 76) rfl rfl Tryz.func18 (by kernel_rfl) rfl #[.agg #[.int .i64 t712, .int .i64 t713, .int .i64 t714, .slice Ao113 t715.length co113, .int .i64 t718, .int .i64 t719, .slice Ao114 t720.length co114, .int .i64 t723]] rfl zD ?_; (with_reducible refine (impl_Enter.calls kj63 t712 t713 t714 _ _ t715 t718 t719 _ _ t720 t723 t724 t725 t726 t727 t730 t731 t732 t735 t736 _ ?side1 ?side2 ?side3 ?side4 A100.out).mono ?_); (case side1 => exact zC (Kd.R_reads' HO717.out).2.2); (case side2 => exact (Kd.R_reads' HO717.out).2.1); (case side3 => exact zC (Kd.R_reads' HO722.out).2.2); (case side4 => exact (Kd.R_reads' HO722.out).2.1); rintro e w115 ⟨v728, v733, rfl, ho0, ho1, hb⟩; refine ⟨_, rfl, ?_⟩; have HO729 := aK (Kd.R_lower (Kd.R_new' (Kd.R_new' (Kd.R_new' (Kd.R_new' (Kd.R_new' (Kd.R_new' (Kd.R_new' (Kd.R_new' ho0 (Kd.R_lt (zA HO_663003))) (Kd.R_lt (zA HO_663006))) (Kd.R_lt (zA HO_676003))) (Kd.R_lt (zA HO_676006))) (Kd.R_lt (zA HO_690003))) (Kd.R_lt (zA HO_690006))) (Kd.R_lt (zA HO717))) (Kd.R_lt (zA HO722))) (bSz (zH4 HB GE635 GE662 GE675 GE689))); have HO734 := aK (Kd.R_lower (Kd.R_new' (Kd.R_new' (Kd.R_new' (Kd.R_new' (Kd.R_new' (Kd.R_new' (Kd.R_new' (Kd.R_new' ho1 (Kd.R_lt (zA HO_663003))) (Kd.R_lt (zA HO_663006))) (Kd.R_lt (zA HO_676003))) (Kd.R_lt (zA HO_676006))) (Kd.R_lt (zA HO_690003))) (Kd.R_lt (zA HO_690006))) (Kd.R_lt (zA HO717))) (Kd.R_lt (zA HO722))) (bSz (zH4 HB GE635 GE662 GE675 GE689))); replace HO_663003 := aK (Kd.R_mono (Kd.R_told (Kd.R_told (Kd.R_old (zA HO_663003) hb) (Kd.R_base ho0)) (Kd.R_base ho1)) (fun _ h_ => h_.1)); replace HO_663006 := aK (Kd.R_mono (Kd.R_told (Kd.R_told (Kd.R_old (zA HO_663006) hb) (Kd.R_base ho0)) (Kd.R_base ho1)) (fun _ h_ => h_.1)); replace HO_676003 := aK (Kd.R_mono (Kd.R_told (Kd.R_told (Kd.R_old (zA HO_676003) hb) (Kd.R_base ho0)) (Kd.R_base ho1)) (fun _ h_ => h_.1)); replace HO_676006 := aK (Kd.R_mono (Kd.R_told (Kd.R_told (Kd.R_old (zA HO_676006) hb) (Kd.R_base ho0)) (Kd.R_base ho1)) (fun _ h_ => h_.1)); replace HO_690003 := aK (Kd.R_mono (Kd.R_told (Kd.R_told (Kd.R_old (zA HO_690003) hb) (Kd.R_base ho0)) (Kd.R_base ho1)) (fun _ h_ => h_.1)); replace HO_690006 := aK (Kd.R_mono (Kd.R_told (Kd.R_told (Kd.R_old (zA HO_690006) hb) (Kd.R_base ho0)) (Kd.R_base ho1)) (fun _ h_ => h_.1)); replace HO717 := aK (Kd.R_mono (Kd.R_told (Kd.R_told (Kd.R_old (zA HO717) hb) (Kd.R_base ho0)) (Kd.R_base ho1)) (fun _ h_ => h_.1)); replace HO722 := aK (Kd.R_mono (Kd.R_told (Kd.R_told (Kd.R_old (zA HO722) hb) (Kd.R_base ho0)) (Kd.R_base ho1)) (fun _ h_ => h_.1)); replace BK635 := zB BK635 hb; replace BK662 := zB BK662 hb; replace BK675 := zB BK675 hb; replace BK689 := zB BK689 hb; replace HB := aK (bSp (zH4 HB GE635 GE662 GE675 GE689) hb); (try clear hb); (try clear hb2); (try clear hk); (try clear hi); (try clear ho0); (try clear ho1)) | ((with_reducible refine gate_dst (N := 12) rfl ?_); refine box_event ?hg (N := 12) ?hd (cs := #[.int .i64 0, .int .i64 0, .int .i64 0, .slice none 0 0, .int .i64 0, .int .i64 0, .slice none 0 0, .int .i64 0]) (t := 38) ?hr ?_; (case hd => rfl); (case hg => rfl); (case hr => first | (go_simp; done) | (go_simp; rfl)); intro gb737 hg w116 hbox hb; replace HO_663003 := aK (Kd.R_below (zA HO_663003) hb); replace HO_663006 := aK (Kd.R_below (zA HO_663006) hb); replace HO_676003 := aK (Kd.R_below (zA HO_676003) hb); replace HO_676006 := aK (Kd.R_below (zA HO_676006) hb); replace HO_690003 := aK (Kd.R_below (zA HO_690003) hb); replace HO_690006 := aK (Kd.R_below (zA HO_690006) hb); replace HO717 := aK (Kd.R_below (zA HO717) hb); replace HO722 := aK (Kd.R_below (zA HO722) hb); replace HO729 := aK (Kd.R_below (zA HO729) hb); replace HO734 := aK (Kd.R_below (zA HO734) hb); have BK737 := aK (hbox); have GW737 := aK ((by rw [hg]; exact (bSz (zH4 HB GE635 GE662 GE675 GE689)) : w.heap.size ≤ gb737)); replace HB := aK (bSp (zH4 HB GE635 GE662 GE675 GE689) hb); have GE737 := GW737; have NB635_737 := nbl BK635 hg (by intro z_; (with_reducible repeat (first | refine blk_drewN ?_ _ | refine kD ?_ | refine kA ?_ _)); exact z_); replace BK635 := zB BK635 hb; have NB737_635 := nbs NB635_737; have NB662_737 := nbl BK662 hg (by intro z_; (with_reducible repeat (first | refine blk_drewN ?_ _ | refine kD ?_ | refine kA ?_ _)); exact z_); replace BK662 := zB BK662 hb; have NB737_662 := nbs NB662_737; have NB675_737 := nbl BK675 hg (by intro z_; (with_reducible repeat (first | refine blk_drewN ?_ _ | refine kD ?_ | refine kA ?_ _)); exact z_); replace BK675 := zB BK675 hb; have NB737_675 := nbs NB675_737; have NB689_737 := nbl BK689 hg (by intro z_; (with_reducible repeat (first | refine blk_drewN ?_ _ | refine kD ?_ | refine kA ?_ _)); exact z_); replace BK689 := zB BK689 hb; have NB737_689 := nbs NB689_737; clear hb hbox hg; have hnb117 := NB737_635.out; have hnc117 := NB635_737.out; have hnb118 := NB737_662.out; have hnc118 := NB662_737.out; have hnb119 := NB737_675.out; have hnc119 := NB675_737.out; have hnb120 := NB737_689.out; have hnc120 := NB689_737.out; obtain ⟨hcz121_0, hcz121_1, hcz121_2, hcz121_3, hcz121_4, hcz121_5, hcz121_6, hcz121_7, hfz121_0, hfz121_1, hfz121_2, hfz121_3, hfz121_4, hfz121_5, hfz121_6, hfz121_7⟩ := cl8 BK737.out; obtain ⟨Ao122, co122, eo122⟩ := Kd.R_slice HO729.out; subst eo122; obtain ⟨Ao123, co123, eo123⟩ := Kd.R_slice HO734.out; subst eo123))
           (try simp only [Act.put, sTA, sZ, sS])
           go_cut [87] (fun v87 wc => ∃ (kq : Nat) (x87_100 : Bool), v87 = .bool x87_100 ∧ Aside0 (laws_FnExactEnter.j2 kq t708 x87_100 t676 t677 t678 t709 t682 t683 t710 t687 = some true) ∧ Aside0 (kq ≤ kj63) ∧ Aside0 (Kd.R (Kd.int .i64) 3 wc w.heap.size (fun k_ => some k_ ≠ ((.slice Ao24 t657.length co24) : Value).ownBlock ∧ some k_ ≠ ((.slice Ao31 t705.length co31) : Value).ownBlock ∧ some k_ ≠ ((.slice Ao32 t706.length co32) : Value).ownBlock ∧ some k_ ≠ ((.slice Ao39 t679.length co39) : Value).ownBlock ∧ some k_ ≠ ((.slice Ao40 t684.length co40) : Value).ownBlock ∧ some k_ ≠ ((.slice Ao122 t727.length co122) : Value).ownBlock ∧ some k_ ≠ ((.slice Ao123 t732.length co123) : Value).ownBlock) (.slice Ao23 t652.length co23) t652) ∧ Aside0 (Kd.R (Kd.int .i64) 3 wc w.heap.size (fun k_ => some k_ ≠ ((.slice Ao23 t652.length co23) : Value).ownBlock ∧ some k_ ≠ ((.slice Ao31 t705.length co31) : Value).ownBlock ∧ some k_ ≠ ((.slice Ao32 t706.length co32) : Value).ownBlock ∧ some k_ ≠ ((.slice Ao39 t679.length co39) : Value).ownBlock ∧ some k_ ≠ ((.slice Ao40 t684.length co40) : Value).ownBlock ∧ some k_ ≠ ((.slice Ao122 t727.length co122) : Value).ownBlock ∧ some k_ ≠ ((.slice Ao123 t732.length co123) : Value).ownBlock) (.slice Ao24 t657.length co24) t657) ∧ Aside0 (Kd.R (Kd.int .i64) 3 wc w.heap.size (fun k_ => some k_ ≠ ((.slice Ao23 t652.length co23) : Value).ownBlock ∧ some k_ ≠ ((.slice Ao24 t657.length co24) : Value).ownBlock ∧ some k_ ≠ ((.slice Ao32 t706.length co32) : Value).ownBlock ∧ some k_ ≠ ((.slice Ao39 t679.length co39) : Value).ownBlock ∧ some k_ ≠ ((.slice Ao40 t684.length co40) : Value).ownBlock ∧ some k_ ≠ ((.slice Ao122 t727.length co122) : Value).ownBlock ∧ some k_ ≠ ((.slice Ao123 t732.length co123) : Value).ownBlock) (.slice Ao31 t705.length co31) t705) ∧ Aside0 (Kd.R (Kd.int .i64) 3 wc w.heap.size (fun k_ => some k_ ≠ ((.slice Ao23 t652.length co23) : Value).ownBlock ∧ some k_ ≠ ((.slice Ao24 t657.length co24) : Value).ownBlock ∧ some k_ ≠ ((.slice Ao31 t705.length co31) : Value).ownBlock ∧ some k_ ≠ ((.slice Ao39 t679.length co39) : Value).ownBlock ∧ some k_ ≠ ((.slice Ao40 t684.length co40) : Value).ownBlock ∧ some k_ ≠ ((.slice Ao122 t727.length co122) : Value).ownBlock ∧ some k_ ≠ ((.slice Ao123 t732.length co123) : Value).ownBlock) (.slice Ao32 t706.length co32) t706) ∧ Aside0 (Kd.R (Kd.int .i64) 3 wc w.heap.size (fun k_ => some k_ ≠ ((.slice Ao23 t652.length co23) : Value).ownBlock ∧ some k_ ≠ ((.slice Ao24 t657.length co24) : Value).ownBlock ∧ some k_ ≠ ((.slice Ao31 t705.length co31) : Value).ownBlock ∧ some k_ ≠ ((.slice Ao32 t706.length co32) : Value).ownBlock ∧ some k_ ≠ ((.slice Ao40 t684.length co40) : Value).ownBlock ∧ some k_ ≠ ((.slice Ao122 t727.length co122) : Value).ownBlock ∧ some k_ ≠ ((.slice Ao123 t732.length co123) : Value).ownBlock) (.slice Ao39 t679.length co39) t709) ∧ Aside0 (Kd.R (Kd.int .i64) 3 wc w.heap.size (fun k_ => some k_ ≠ ((.slice Ao23 t652.length co23) : Value).ownBlock ∧ some k_ ≠ ((.slice Ao24 t657.length co24) : Value).ownBlock ∧ some k_ ≠ ((.slice Ao31 t705.length co31) : Value).ownBlock ∧ some k_ ≠ ((.slice Ao32 t706.length co32) : Value).ownBlock ∧ some k_ ≠ ((.slice Ao39 t679.length co39) : Value).ownBlock ∧ some k_ ≠ ((.slice Ao122 t727.length co122) : Value).ownBlock ∧ some k_ ≠ ((.slice Ao123 t732.length co123) : Value).ownBlock) (.slice Ao40 t684.length co40) t710) ∧ Aside0 (Kd.R (Kd.int .i64) 3 wc w.heap.size (fun k_ => some k_ ≠ ((.slice Ao23 t652.length co23) : Value).ownBlock ∧ some k_ ≠ ((.slice Ao24 t657.length co24) : Value).ownBlock ∧ some k_ ≠ ((.slice Ao31 t705.length co31) : Value).ownBlock ∧ some k_ ≠ ((.slice Ao32 t706.length co32) : Value).ownBlock ∧ some k_ ≠ ((.slice Ao39 t679.length co39) : Value).ownBlock ∧ some k_ ≠ ((.slice Ao40 t684.length co40) : Value).ownBlock ∧ some k_ ≠ ((.slice Ao123 t732.length co123) : Value).ownBlock) (.slice Ao122 t727.length co122) t727) ∧ Aside0 (Kd.R (Kd.int .i64) 3 wc w.heap.size (fun k_ => some k_ ≠ ((.slice Ao23 t652.length co23) : Value).ownBlock ∧ some k_ ≠ ((.slice Ao24 t657.length co24) : Value).ownBlock ∧ some k_ ≠ ((.slice Ao31 t705.length co31) : Value).ownBlock ∧ some k_ ≠ ((.slice Ao32 t706.length co32) : Value).ownBlock ∧ some k_ ≠ ((.slice Ao39 t679.length co39) : Value).ownBlock ∧ some k_ ≠ ((.slice Ao40 t684.length co40) : Value).ownBlock ∧ some k_ ≠ ((.slice Ao122 t727.length co122) : Value).ownBlock) (.slice Ao123 t732.length co123) t732) ∧ Aside0 (wc.heap[gb635]? = some (.cells #[.int .i64 a0_0, .int .i64 a0_1, .int .i64 a0_2, (.slice A0_3 l0_3.length c0_3), .int .i64 a0_4, .int .i64 a0_5, (.slice A0_6 l0_6.length c0_6), .int .i64 a0_7] 30 (0, 0))) ∧ Aside0 (wc.heap[gb662]? = some (.cells #[.int .i64 t649, .int .i64 t650, .int .i64 t651, (.slice Ao23 t652.length co23), .int .i64 t655, .int .i64 t656, (.slice Ao24 t657.length co24), .int .i64 t660] 38 (0, 0))) ∧ Aside0 (wc.heap[gb675]? = some (.cells #[.int .i64 t663, .int .i64 t664, .int .i64 t665, (.slice Ao31 t705.length co31), .int .i64 t669, .int .i64 t670, (.slice Ao32 t706.length co32), .int .i64 t674] 38 (0, 0))) ∧ Aside0 (wc.heap[gb689]? = some (.cells #[.int .i64 t676, .int .i64 t677, .int .i64 t678, (.slice Ao39 t679.length co39), .int .i64 t682, .int .i64 t683, (.slice Ao40 t684.length co40), .int .i64 t687] 38 (0, 0))) ∧ Aside0 (wc.heap[gb737]? = some (.cells #[.int .i64 t724, .int .i64 t725, .int .i64 t726, (.slice Ao122 t727.length co122), .int .i64 t730, .int .i64 t731, (.slice Ao123 t732.length co123), .int .i64 t735] 38 (0, 0))) ∧ Aside0 (Below w.heap.size w wc))
           case first =>
            have H := HC101.out
            clear HC101
            replace H := Option.bind_eq_some_iff.mp H
            obtain ⟨t738, A1240, H⟩ := H
            replace H : (if t738 = true then (laws_FnExactEnter.j2 kj63 t708 (t736 != t661) t676 t677 t678 t709 t682 t683 t710 t687) else (laws_FnExactEnter.j2 kj63 t708 true t676 t677 t678 t709 t682 t683 t710 t687)) = some true := H
            have A124 := aK A1240
            clear A1240
            by_cases c125 : t738 = true
            ·subst c125
             have H1 : (laws_FnExactEnter.j2 kj63 t708 (t736 != t661) t676 t677 t678 t709 t682 t683 t710 t687) = some true := by first | (rw [if_pos rfl] at H; exact H) | rfl
             clear H
             have H := H1
             clear H1
             have H' := aK H
             clear H
             have hnb126 := NB737_635.out
             have hnc126 := NB635_737.out
             have hnb127 := NB737_662.out
             have hnc127 := NB662_737.out
             have hnb128 := NB737_675.out
             have hnc128 := NB675_737.out
             have hnb129 := NB737_689.out
             have hnc129 := NB689_737.out
             obtain ⟨hcz130_0, hcz130_1, hcz130_2, hcz130_3, hcz130_4, hcz130_5, hcz130_6, hcz130_7, hfz130_0, hfz130_1, hfz130_2, hfz130_3, hfz130_4, hfz130_5, hfz130_6, hfz130_7⟩ := cl8 BK737.out
             have hnb131 := NB662_635.out
             have hnc131 := NB635_662.out
             have hnb132 := NB662_675.out
             have hnc132 := NB675_662.out
             have hnb133 := NB662_689.out
             have hnc133 := NB689_662.out
             obtain ⟨hcz134_0, hcz134_1, hcz134_2, hcz134_3, hcz134_4, hcz134_5, hcz134_6, hcz134_7, hfz134_0, hfz134_1, hfz134_2, hfz134_3, hfz134_4, hfz134_5, hfz134_6, hfz134_7⟩ := cl8 BK662.out
             go_wp2_with (first | ((with_reducible refine gate_callee (f := 19) rfl ?_); refine goesL_ (some 81) rfl rfl Tryz.func19 (by kernel_rfl) rfl #[.agg #[.int .i64 t724, .int .i64 t725, .int .i64 t726, .slice Ao122 t727.length co122, .int .i64 t730, .int .i64 t731, .slice Ao123 t732.length co123, .int .i64 t735], .agg #[.int .i64 t649, .int .i64 t650, .int .i64 t651, .slice Ao23 t652.length co23, .int .i64 t655, .int .i64 t656, .slice Ao24 t657.length co24, .int .i64 t660]] rfl zD ?_; (with_reducible refine (laws_eqGarden.calls kj63 t724 t725 t726 _ _ t727 t730 t731 _ _ t732 t735 t649 t650 t651 _ _ t652 t655 t656 _ _ t657 t660 true _ ?side1 ?side2 ?side3 ?side4 ?side5 ?side6 ?side7 ?side8 A124.out).mono ?_); (case side1 => refine (Kd.R_reads' (e := 3) (base := w.heap.size) (ok := fun k_ => ((((((((some k_ ≠ (.slice Ao123 t732.length co123 : Value).ownBlock ∧ some k_ ≠ (.slice Ao23 t652.length co23 : Value).ownBlock) ∧ some k_ ≠ (.slice Ao24 t657.length co24 : Value).ownBlock) ∧ some k_ ≠ (.slice Ao31 t705.length co31 : Value).ownBlock) ∧ some k_ ≠ (.slice Ao32 t706.length co32 : Value).ownBlock) ∧ some k_ ≠ (.slice Ao39 t679.length co39 : Value).ownBlock) ∧ some k_ ≠ (.slice Ao40 t684.length co40 : Value).ownBlock) ∧ some k_ ≠ (.slice Ao113 t715.length co113 : Value).ownBlock) ∧ some k_ ≠ (.slice Ao114 t720.length co114 : Value).ownBlock)) (n := t727.length) (c := co122) ?_).2.2; exact (zF8 HO729 BK737)); (case side2 => exact (Kd.R_reads' HO729.out).2.1); (case side3 => refine (Kd.R_reads' (e := 3) (base := w.heap.size) (ok := fun k_ => ((((((((some k_ ≠ (.slice Ao122 t727.length co122 : Value).ownBlock ∧ some k_ ≠ (.slice Ao23 t652.length co23 : Value).ownBlock) ∧ some k_ ≠ (.slice Ao24 t657.length co24 : Value).ownBlock) ∧ some k_ ≠ (.slice Ao31 t705.length co31 : Value).ownBlock) ∧ some k_ ≠ (.slice Ao32 t706.length co32 : Value).ownBlock) ∧ some k_ ≠ (.slice Ao39 t679.length co39 : Value).ownBlock) ∧ some k_ ≠ (.slice Ao40 t684.length co40 : Value).ownBlock) ∧ some k_ ≠ (.slice Ao113 t715.length co113 : Value).ownBlock) ∧ some k_ ≠ (.slice Ao114 t720.length co114 : Value).ownBlock)) (n := t732.length) (c := co123) ?_).2.2; exact (zF8 HO734 BK737)); (case side4 => exact (Kd.R_reads' HO734.out).2.1); (case side5 => refine (Kd.R_reads' (e := 3) (base := w.heap.size) (ok := fun k_ => (((((some k_ ≠ (.slice Ao24 t657.length co24 : Value).ownBlock ∧ (some k_ ≠ (.slice Ao31 t705.length co31 : Value).ownBlock ∧ (some k_ ≠ (.slice Ao32 t706.length co32 : Value).ownBlock ∧ (some k_ ≠ (.slice Ao39 t679.length co39 : Value).ownBlock ∧ some k_ ≠ (.slice Ao40 t684.length co40 : Value).ownBlock)))) ∧ some k_ ≠ (.slice Ao113 t715.length co113 : Value).ownBlock) ∧ some k_ ≠ (.slice Ao114 t720.length co114 : Value).ownBlock) ∧ some k_ ≠ (.slice Ao122 t727.length co122 : Value).ownBlock) ∧ some k_ ≠ (.slice Ao123 t732.length co123 : Value).ownBlock)) (n := t652.length) (c := co23) ?_).2.2; exact (zF8 HO_663003 BK737)); (case side6 => exact (Kd.R_reads' HO_663003.out).2.1); (case side7 => refine (Kd.R_reads' (e := 3) (base := w.heap.size) (ok := fun k_ => (((((some k_ ≠ (.slice Ao23 t652.length co23 : Value).ownBlock ∧ (some k_ ≠ (.slice Ao31 t705.length co31 : Value).ownBlock ∧ (some k_ ≠ (.slice Ao32 t706.length co32 : Value).ownBlock ∧ (some k_ ≠ (.slice Ao39 t679.length co39 : Value).ownBlock ∧ some k_ ≠ (.slice Ao40 t684.length co40 : Value).ownBlock)))) ∧ some k_ ≠ (.slice Ao113 t715.length co113 : Value).ownBlock) ∧ some k_ ≠ (.slice Ao114 t720.length co114 : Value).ownBlock) ∧ some k_ ≠ (.slice Ao122 t727.length co122 : Value).ownBlock) ∧ some k_ ≠ (.slice Ao123 t732.length co123 : Value).ownBlock)) (n := t657.length) (c := co24) ?_).2.2; exact (zF8 HO_663006 BK737)); (case side8 => exact (Kd.R_reads' HO_663006.out).2.1); rintro e w135 ⟨rfl, hb⟩; refine ⟨_, rfl, ?_⟩; replace HO_663003 := aK (Kd.R_below (zF8 HO_663003 BK737) hb); replace HO_663006 := aK (Kd.R_below (zF8 HO_663006 BK737) hb); replace HO_676003 := aK (Kd.R_below (zF8 HO_676003 BK737) hb); replace HO_676006 := aK (Kd.R_below (zF8 HO_676006 BK737) hb); replace HO_690003 := aK (Kd.R_below (zF8 HO_690003 BK737) hb); replace HO_690006 := aK (Kd.R_below (zF8 HO_690006 BK737) hb); replace HO717 := aK (Kd.R_below (zF8 HO717 BK737) hb); replace HO722 := aK (Kd.R_below (zF8 HO722 BK737) hb); replace HO729 := aK (Kd.R_below (zF8 HO729 BK737) hb); replace HO734 := aK (Kd.R_below (zF8 HO734 BK737) hb); replace BK635 := bkb BK635 hb (by intro z_; (with_reducible repeat (first | refine blk_drewN ?_ _ | refine kD ?_ | refine kA ?_ _)); refine blk_far ?_ NB635_737.out _; (with_reducible repeat (first | refine blk_drewN ?_ _ | refine kD ?_ | refine kA ?_ _)); refine blk_far ?_ NB635_737.out _; (with_reducible repeat (first | refine blk_drewN ?_ _ | refine kD ?_ | refine kA ?_ _)); refine blk_far ?_ NB635_737.out _; (with_reducible repeat (first | refine blk_drewN ?_ _ | refine kD ?_ | refine kA ?_ _)); refine blk_far ?_ NB635_737.out _; (with_reducible repeat (first | refine blk_drewN ?_ _ | refine kD ?_ | refine kA ?_ _)); refine blk_far ?_ NB635_737.out _; (with_reducible repeat (first | refine blk_drewN ?_ _ | refine kD ?_ | refine kA ?_ _)); refine blk_far ?_ NB635_737.out _; (with_reducible repeat (first | refine blk_drewN ?_ _ | refine kD ?_ | refine kA ?_ _)); refine blk_far ?_ NB635_737.out _; (with_reducible repeat (first | refine blk_drewN ?_ _ | refine kD ?_ | refine kA ?_ _)); refine blk_far ?_ NB635_737.out _; (with_reducible repeat (first | refine blk_drewN ?_ _ | refine kD ?_ | refine kA ?_ _)); exact z_); replace BK662 := bkb BK662 hb (by intro z_; (with_reducible repeat (first | refine blk_drewN ?_ _ | refine kD ?_ | refine kA ?_ _)); refine blk_far ?_ NB662_737.out _; (with_reducible repeat (first | refine blk_drewN ?_ _ | refine kD ?_ | refine kA ?_ _)); refine blk_far ?_ NB662_737.out _; (with_reducible repeat (first | refine blk_drewN ?_ _ | refine kD ?_ | refine kA ?_ _)); refine blk_far ?_ NB662_737.out _; (with_reducible repeat (first | refine blk_drewN ?_ _ | refine kD ?_ | refine kA ?_ _)); refine blk_far ?_ NB662_737.out _; (with_reducible repeat (first | refine blk_drewN ?_ _ | refine kD ?_ | refine kA ?_ _)); refine blk_far ?_ NB662_737.out _; (with_reducible repeat (first | refine blk_drewN ?_ _ | refine kD ?_ | refine kA ?_ _)); refine blk_far ?_ NB662_737.out _; (with_reducible repeat (first | refine blk_drewN ?_ _ | refine kD ?_ | refine kA ?_ _)); refine blk_far ?_ NB662_737.out _; (with_reducible repeat (first | refine blk_drewN ?_ _ | refine kD ?_ | refine kA ?_ _)); refine blk_far ?_ NB662_737.out _; (with_reducible repeat (first | refine blk_drewN ?_ _ | refine kD ?_ | refine kA ?_ _)); exact z_); replace BK675 := bkb BK675 hb (by intro z_; (with_reducible repeat (first | refine blk_drewN ?_ _ | refine kD ?_ | refine kA ?_ _)); refine blk_far ?_ NB675_737.out _; (with_reducible repeat (first | refine blk_drewN ?_ _ | refine kD ?_ | refine kA ?_ _)); refine blk_far ?_ NB675_737.out _; (with_reducible repeat (first | refine blk_drewN ?_ _ | refine kD ?_ | refine kA ?_ _)); refine blk_far ?_ NB675_737.out _; (with_reducible repeat (first | refine blk_drewN ?_ _ | refine kD ?_ | refine kA ?_ _)); refine blk_far ?_ NB675_737.out _; (with_reducible repeat (first | refine blk_drewN ?_ _ | refine kD ?_ | refine kA ?_ _)); refine blk_far ?_ NB675_737.out _; (with_reducible repeat (first | refine blk_drewN ?_ _ | refine kD ?_ | refine kA ?_ _)); refine blk_far ?_ NB675_737.out _; (with_reducible repeat (first | refine blk_drewN ?_ _ | refine kD ?_ | refine kA ?_ _)); refine blk_far ?_ NB675_737.out _; (with_reducible repeat (first | refine blk_drewN ?_ _ | refine kD ?_ | refine kA ?_ _)); refine blk_far ?_ NB675_737.out _; (with_reducible repeat (first | refine blk_drewN ?_ _ | refine kD ?_ | refine kA ?_ _)); exact z_); replace BK689 := bkb BK689 hb (by intro z_; (with_reducible repeat (first | refine blk_drewN ?_ _ | refine kD ?_ | refine kA ?_ _)); refine blk_far ?_ NB689_737.out _; (with_reducible repeat (first | refine blk_drewN ?_ _ | refine kD ?_ | refine kA ?_ _)); refine blk_far ?_ NB689_737.out _; (with_reducible repeat (first | refine blk_drewN ?_ _ | refine kD ?_ | refine kA ?_ _)); refine blk_far ?_ NB689_737.out _; (with_reducible repeat (first | refine blk_drewN ?_ _ | refine kD ?_ | refine kA ?_ _)); refine blk_far ?_ NB689_737.out _; (with_reducible repeat (first | refine blk_drewN ?_ _ | refine kD ?_ | refine kA ?_ _)); refine blk_far ?_ NB689_737.out _; (with_reducible repeat (first | refine blk_drewN ?_ _ | refine kD ?_ | refine kA ?_ _)); refine blk_far ?_ NB689_737.out _; (with_reducible repeat (first | refine blk_drewN ?_ _ | refine kD ?_ | refine kA ?_ _)); refine blk_far ?_ NB689_737.out _; (with_reducible repeat (first | refine blk_drewN ?_ _ | refine kD ?_ | refine kA ?_ _)); refine blk_far ?_ NB689_737.out _; (with_reducible repeat (first | refine blk_drewN ?_ _ | refine kD ?_ | refine kA ?_ _)); exact z_); replace BK737 := aK (blk_below (g := gb737) (o := .cells #[.int .i64 t724, .int .i64 t725, .int .i64 t726, .slice Ao122 t727.length co122, .int .i64 t730, .int .i64 t731, .slice Ao123 t732.length co123, .int .i64 t735] 38 (0, 0)) (by (with_reducible repeat (first | refine blk_drewN ?_ _ | refine kD ?_ | refine kA ?_ _)); refine blk_put (cs := #[.int .i64 t724, .int .i64 t725, .int .i64 t726, .slice Ao122 t727.length co122, .int .i64 t730, .int .i64 t731, .slice Ao123 t732.length co123, .int .i64 0]) ?_ 7 _ rfl; (with_reducible repeat (first | refine blk_drewN ?_ _ | refine kD ?_ | refine kA ?_ _)); refine blk_put (cs := #[.int .i64 t724, .int .i64 t725, .int .i64 t726, .slice Ao122 t727.length co122, .int .i64 t730, .int .i64 t731, .slice none 0 0, .int .i64 0]) ?_ 6 _ rfl; (with_reducible repeat (first | refine blk_drewN ?_ _ | refine kD ?_ | refine kA ?_ _)); refine blk_put (cs := #[.int .i64 t724, .int .i64 t725, .int .i64 t726, .slice Ao122 t727.length co122, .int .i64 t730, .int .i64 0, .slice none 0 0, .int .i64 0]) ?_ 5 _ rfl; (with_reducible repeat (first | refine blk_drewN ?_ _ | refine kD ?_ | refine kA ?_ _)); refine blk_put (cs := #[.int .i64 t724, .int .i64 t725, .int .i64 t726, .slice Ao122 t727.length co122, .int .i64 0, .int .i64 0, .slice none 0 0, .int .i64 0]) ?_ 4 _ rfl; (with_reducible repeat (first | refine blk_drewN ?_ _ | refine kD ?_ | refine kA ?_ _)); refine blk_put (cs := #[.int .i64 t724, .int .i64 t725, .int .i64 t726, .slice none 0 0, .int .i64 0, .int .i64 0, .slice none 0 0, .int .i64 0]) ?_ 3 _ rfl; (with_reducible repeat (first | refine blk_drewN ?_ _ | refine kD ?_ | refine kA ?_ _)); refine blk_put (cs := #[.int .i64 t724, .int .i64 t725, .int .i64 0, .slice none 0 0, .int .i64 0, .int .i64 0, .slice none 0 0, .int .i64 0]) ?_ 2 _ rfl; (with_reducible repeat (first | refine blk_drewN ?_ _ | refine kD ?_ | refine kA ?_ _)); refine blk_put (cs := #[.int .i64 t724, .int .i64 0, .int .i64 0, .slice none 0 0, .int .i64 0, .int .i64 0, .slice none 0 0, .int .i64 0]) ?_ 1 _ rfl; (with_reducible repeat (first | refine blk_drewN ?_ _ | refine kD ?_ | refine kA ?_ _)); refine blk_put (cs := #[.int .i64 0, .int .i64 0, .int .i64 0, .slice none 0 0, .int .i64 0, .int .i64 0, .slice none 0 0, .int .i64 0]) ?_ 0 _ rfl; (with_reducible repeat (first | refine blk_drewN ?_ _ | refine kD ?_ | refine kA ?_ _)); exact BK737.out) hb); replace HB := aK (bSp (zH5 HB GE635 GE662 GE675 GE689 GE737) hb); (try clear hb); (try clear hb2); (try clear hk); (try clear hi)))
             go_meet
             case rel => exact ⟨_, ((t736 != t661)), (by first | rfl | (simp; done) | (simp [*]; done)), H', ⟨by have := HJ10.out; have := HJ63.out; first | omega | exact Nat.le_refl _⟩, ⟨by (try simp only [hl676003_63]); (try simp only [hl676006_63]); (with_reducible repeat (first | apply Kd.R_alloc | apply Kd.R_drewN | apply Kd.R_drew)); exact Kd.R_mono HO_663003.out (fun _ hk => ⟨hk.1.1.1.1.1, ⟨hk.1.1.1.1.2.1, ⟨hk.1.1.1.1.2.2.1, ⟨hk.1.1.1.1.2.2.2.1, ⟨hk.1.1.1.1.2.2.2.2, ⟨hk.1.2, hk.2⟩⟩⟩⟩⟩⟩)⟩, ⟨by (try simp only [hl676003_63]); (try simp only [hl676006_63]); (with_reducible repeat (first | apply Kd.R_alloc | apply Kd.R_drewN | apply Kd.R_drew)); exact Kd.R_mono HO_663006.out (fun _ hk => ⟨hk.1.1.1.1.1, ⟨hk.1.1.1.1.2.1, ⟨hk.1.1.1.1.2.2.1, ⟨hk.1.1.1.1.2.2.2.1, ⟨hk.1.1.1.1.2.2.2.2, ⟨hk.1.2, hk.2⟩⟩⟩⟩⟩⟩)⟩, ⟨by (try simp only [hl676003_63]); (try simp only [hl676006_63]); (with_reducible repeat (first | apply Kd.R_alloc | apply Kd.R_drewN | apply Kd.R_drew)); exact Kd.R_mono HO_676003.out (fun _ hk => ⟨hk.1.1.1.1.1, ⟨hk.1.1.1.1.2.1, ⟨hk.1.1.1.1.2.2.1, ⟨hk.1.1.1.1.2.2.2.1, ⟨hk.1.1.1.1.2.2.2.2, ⟨hk.1.2, hk.2⟩⟩⟩⟩⟩⟩)⟩, ⟨by (try simp only [hl676003_63]); (try simp only [hl676006_63]); (with_reducible repeat (first | apply Kd.R_alloc | apply Kd.R_drewN | apply Kd.R_drew)); exact Kd.R_mono HO_676006.out (fun _ hk => ⟨hk.1.1.1.1.1, ⟨hk.1.1.1.1.2.1, ⟨hk.1.1.1.1.2.2.1, ⟨hk.1.1.1.1.2.2.2.1, ⟨hk.1.1.1.1.2.2.2.2, ⟨hk.1.2, hk.2⟩⟩⟩⟩⟩⟩)⟩, ⟨by (try simp only [hl676003_63]); (try simp only [hl676006_63]); (with_reducible repeat (first | apply Kd.R_alloc | apply Kd.R_drewN | apply Kd.R_drew)); exact Kd.R_mono HO_690003.out (fun _ hk => ⟨hk.1.1.1.1.1, ⟨hk.1.1.1.1.2.1, ⟨hk.1.1.1.1.2.2.1, ⟨hk.1.1.1.1.2.2.2.1, ⟨hk.1.1.1.1.2.2.2.2, ⟨hk.1.2, hk.2⟩⟩⟩⟩⟩⟩)⟩, ⟨by (try simp only [hl676003_63]); (try simp only [hl676006_63]); (with_reducible repeat (first | apply Kd.R_alloc | apply Kd.R_drewN | apply Kd.R_drew)); exact Kd.R_mono HO_690006.out (fun _ hk => ⟨hk.1.1.1.1.1, ⟨hk.1.1.1.1.2.1, ⟨hk.1.1.1.1.2.2.1, ⟨hk.1.1.1.1.2.2.2.1, ⟨hk.1.1.1.1.2.2.2.2, ⟨hk.1.2, hk.2⟩⟩⟩⟩⟩⟩)⟩, ⟨by (try simp only [hl676003_63]); (try simp only [hl676006_63]); (with_reducible repeat (first | apply Kd.R_alloc | apply Kd.R_drewN | apply Kd.R_drew)); exact Kd.R_mono HO729.out (fun _ hk => ⟨hk.1.1.1.1.1.1.1.2, ⟨hk.1.1.1.1.1.1.2, ⟨hk.1.1.1.1.1.2, ⟨hk.1.1.1.1.2, ⟨hk.1.1.1.2, ⟨hk.1.1.2, hk.1.1.1.1.1.1.1.1⟩⟩⟩⟩⟩⟩)⟩, ⟨by (try simp only [hl676003_63]); (try simp only [hl676006_63]); (with_reducible repeat (first | apply Kd.R_alloc | apply Kd.R_drewN | apply Kd.R_drew)); exact Kd.R_mono HO734.out (fun _ hk => ⟨hk.1.1.1.1.1.1.1.2, ⟨hk.1.1.1.1.1.1.2, ⟨hk.1.1.1.1.1.2, ⟨hk.1.1.1.1.2, ⟨hk.1.1.1.2, ⟨hk.1.1.2, hk.1.1.1.1.1.1.1.1⟩⟩⟩⟩⟩⟩)⟩, ⟨by (try simp only [hl676003_63]); (try simp only [hl676006_63]); (with_reducible repeat (first | refine blk_drewN ?_ _ | refine kD ?_ | refine kA ?_ _)); exact BK635.out⟩, ⟨by (try simp only [hl676003_63]); (try simp only [hl676006_63]); (with_reducible repeat (first | refine blk_drewN ?_ _ | refine kD ?_ | refine kA ?_ _)); exact BK662.out⟩, ⟨by (try simp only [hl676003_63]); (try simp only [hl676006_63]); (with_reducible repeat (first | refine blk_drewN ?_ _ | refine kD ?_ | refine kA ?_ _)); exact BK675.out⟩, ⟨by (try simp only [hl676003_63]); (try simp only [hl676006_63]); (with_reducible repeat (first | refine blk_drewN ?_ _ | refine kD ?_ | refine kA ?_ _)); exact BK689.out⟩, ⟨by (try simp only [hl676003_63]); (try simp only [hl676006_63]); (with_reducible repeat (first | refine blk_drewN ?_ _ | refine kD ?_ | refine kA ?_ _)); exact BK737.out⟩, ⟨by repeat (first | (with_reducible first | exact HB.out | apply bAl | apply bDN | apply bD1 | refine bSt ?_ GE635.out | refine bSt ?_ GE662.out | refine bSt ?_ GE675.out | refine bSt ?_ GE689.out | refine bSt ?_ GE737.out) | exact HB.out)⟩⟩
            ·replace c125 := Bool.eq_false_iff.mpr c125
             subst c125
             have H1 : (laws_FnExactEnter.j2 kj63 t708 true t676 t677 t678 t709 t682 t683 t710 t687) = some true := by rw [if_neg (show ¬ (false = true) by decide)] at H; exact H
             clear H
             have H := H1
             clear H1
             have H' := aK H
             clear H
             have hnb136 := NB737_635.out
             have hnc136 := NB635_737.out
             have hnb137 := NB737_662.out
             have hnc137 := NB662_737.out
             have hnb138 := NB737_675.out
             have hnc138 := NB675_737.out
             have hnb139 := NB737_689.out
             have hnc139 := NB689_737.out
             obtain ⟨hcz140_0, hcz140_1, hcz140_2, hcz140_3, hcz140_4, hcz140_5, hcz140_6, hcz140_7, hfz140_0, hfz140_1, hfz140_2, hfz140_3, hfz140_4, hfz140_5, hfz140_6, hfz140_7⟩ := cl8 BK737.out
             have hnb141 := NB662_635.out
             have hnc141 := NB635_662.out
             have hnb142 := NB662_675.out
             have hnc142 := NB675_662.out
             have hnb143 := NB662_689.out
             have hnc143 := NB689_662.out
             obtain ⟨hcz144_0, hcz144_1, hcz144_2, hcz144_3, hcz144_4, hcz144_5, hcz144_6, hcz144_7, hfz144_0, hfz144_1, hfz144_2, hfz144_3, hfz144_4, hfz144_5, hfz144_6, hfz144_7⟩ := cl8 BK662.out
             go_wp2_with (first | ((with_reducible refine gate_callee (f := 19) rfl ?_); refine goesL_ (some 81) rfl rfl Tryz.func19 (by kernel_rfl) rfl #[.agg #[.int .i64 t724, .int .i64 t725, .int .i64 t726, .slice Ao122 t727.length co122, .int .i64 t730, .int .i64 t731, .slice Ao123 t732.length co123, .int .i64 t735], .agg #[.int .i64 t649, .int .i64 t650, .int .i64 t651, .slice Ao23 t652.length co23, .int .i64 t655, .int .i64 t656, .slice Ao24 t657.length co24, .int .i64 t660]] rfl zD ?_; (with_reducible refine (laws_eqGarden.calls kj63 t724 t725 t726 _ _ t727 t730 t731 _ _ t732 t735 t649 t650 t651 _ _ t652 t655 t656 _ _ t657 t660 false _ ?side1 ?side2 ?side3 ?side4 ?side5 ?side6 ?side7 ?side8 A124.out).mono ?_); (case side1 => refine (Kd.R_reads' (e := 3) (base := w.heap.size) (ok := fun k_ => ((((((((some k_ ≠ (.slice Ao123 t732.length co123 : Value).ownBlock ∧ some k_ ≠ (.slice Ao23 t652.length co23 : Value).ownBlock) ∧ some k_ ≠ (.slice Ao24 t657.length co24 : Value).ownBlock) ∧ some k_ ≠ (.slice Ao31 t705.length co31 : Value).ownBlock) ∧ some k_ ≠ (.slice Ao32 t706.length co32 : Value).ownBlock) ∧ some k_ ≠ (.slice Ao39 t679.length co39 : Value).ownBlock) ∧ some k_ ≠ (.slice Ao40 t684.length co40 : Value).ownBlock) ∧ some k_ ≠ (.slice Ao113 t715.length co113 : Value).ownBlock) ∧ some k_ ≠ (.slice Ao114 t720.length co114 : Value).ownBlock)) (n := t727.length) (c := co122) ?_).2.2; exact (zF8 HO729 BK737)); (case side2 => exact (Kd.R_reads' HO729.out).2.1); (case side3 => refine (Kd.R_reads' (e := 3) (base := w.heap.size) (ok := fun k_ => ((((((((some k_ ≠ (.slice Ao122 t727.length co122 : Value).ownBlock ∧ some k_ ≠ (.slice Ao23 t652.length co23 : Value).ownBlock) ∧ some k_ ≠ (.slice Ao24 t657.length co24 : Value).ownBlock) ∧ some k_ ≠ (.slice Ao31 t705.length co31 : Value).ownBlock) ∧ some k_ ≠ (.slice Ao32 t706.length co32 : Value).ownBlock) ∧ some k_ ≠ (.slice Ao39 t679.length co39 : Value).ownBlock) ∧ some k_ ≠ (.slice Ao40 t684.length co40 : Value).ownBlock) ∧ some k_ ≠ (.slice Ao113 t715.length co113 : Value).ownBlock) ∧ some k_ ≠ (.slice Ao114 t720.length co114 : Value).ownBlock)) (n := t732.length) (c := co123) ?_).2.2; exact (zF8 HO734 BK737)); (case side4 => exact (Kd.R_reads' HO734.out).2.1); (case side5 => refine (Kd.R_reads' (e := 3) (base := w.heap.size) (ok := fun k_ => (((((some k_ ≠ (.slice Ao24 t657.length co24 : Value).ownBlock ∧ (some k_ ≠ (.slice Ao31 t705.length co31 : Value).ownBlock ∧ (some k_ ≠ (.slice Ao32 t706.length co32 : Value).ownBlock ∧ (some k_ ≠ (.slice Ao39 t679.length co39 : Value).ownBlock ∧ some k_ ≠ (.slice Ao40 t684.length co40 : Value).ownBlock)))) ∧ some k_ ≠ (.slice Ao113 t715.length co113 : Value).ownBlock) ∧ some k_ ≠ (.slice Ao114 t720.length co114 : Value).ownBlock) ∧ some k_ ≠ (.slice Ao122 t727.length co122 : Value).ownBlock) ∧ some k_ ≠ (.slice Ao123 t732.length co123 : Value).ownBlock)) (n := t652.length) (c := co23) ?_).2.2; exact (zF8 HO_663003 BK737)); (case side6 => exact (Kd.R_reads' HO_663003.out).2.1); (case side7 => refine (Kd.R_reads' (e := 3) (base := w.heap.size) (ok := fun k_ => (((((some k_ ≠ (.slice Ao23 t652.length co23 : Value).ownBlock ∧ (some k_ ≠ (.slice Ao31 t705.length co31 : Value).ownBlock ∧ (some k_ ≠ (.slice Ao32 t706.length co32 : Value).ownBlock ∧ (some k_ ≠ (.slice Ao39 t679.length co39 : Value).ownBlock ∧ some k_ ≠ (.slice Ao40 t684.length co40 : Value).ownBlock)))) ∧ some k_ ≠ (.slice Ao113 t715.length co113 : Value).ownBlock) ∧ some k_ ≠ (.slice Ao114 t720.length co114 : Value).ownBlock) ∧ some k_ ≠ (.slice Ao122 t727.length co122 : Value).ownBlock) ∧ some k_ ≠ (.slice Ao123 t732.length co123 : Value).ownBlock)) (n := t657.length) (c := co24) ?_).2.2; exact (zF8 HO_663006 BK737)); (case side8 => exact (Kd.R_reads' HO_663006.out).2.1); rintro e w145 ⟨rfl, hb⟩; refine ⟨_, rfl, ?_⟩; replace HO_663003 := aK (Kd.R_below (zF8 HO_663003 BK737) hb); replace HO_663006 := aK (Kd.R_below (zF8 HO_663006 BK737) hb); replace HO_676003 := aK (Kd.R_below (zF8 HO_676003 BK737) hb); replace HO_676006 := aK (Kd.R_below (zF8 HO_676006 BK737) hb); replace HO_690003 := aK (Kd.R_below (zF8 HO_690003 BK737) hb); replace HO_690006 := aK (Kd.R_below (zF8 HO_690006 BK737) hb); replace HO717 := aK (Kd.R_below (zF8 HO717 BK737) hb); replace HO722 := aK (Kd.R_below (zF8 HO722 BK737) hb); replace HO729 := aK (Kd.R_below (zF8 HO729 BK737) hb); replace HO734 := aK (Kd.R_below (zF8 HO734 BK737) hb); replace BK635 := bkb BK635 hb (by intro z_; (with_reducible repeat (first | refine blk_drewN ?_ _ | refine kD ?_ | refine kA ?_ _)); refine blk_far ?_ NB635_737.out _; (with_reducible repeat (first | refine blk_drewN ?_ _ | refine kD ?_ | refine kA ?_ _)); refine blk_far ?_ NB635_737.out _; (with_reducible repeat (first | refine blk_drewN ?_ _ | refine kD ?_ | refine kA ?_ _)); refine blk_far ?_ NB635_737.out _; (with_reducible repeat (first | refine blk_drewN ?_ _ | refine kD ?_ | refine kA ?_ _)); refine blk_far ?_ NB635_737.out _; (with_reducible repeat (first | refine blk_drewN ?_ _ | refine kD ?_ | refine kA ?_ _)); refine blk_far ?_ NB635_737.out _; (with_reducible repeat (first | refine blk_drewN ?_ _ | refine kD ?_ | refine kA ?_ _)); refine blk_far ?_ NB635_737.out _; (with_reducible repeat (first | refine blk_drewN ?_ _ | refine kD ?_ | refine kA ?_ _)); refine blk_far ?_ NB635_737.out _; (with_reducible repeat (first | refine blk_drewN ?_ _ | refine kD ?_ | refine kA ?_ _)); refine blk_far ?_ NB635_737.out _; (with_reducible repeat (first | refine blk_drewN ?_ _ | refine kD ?_ | refine kA ?_ _)); exact z_); replace BK662 := bkb BK662 hb (by intro z_; (with_reducible repeat (first | refine blk_drewN ?_ _ | refine kD ?_ | refine kA ?_ _)); refine blk_far ?_ NB662_737.out _; (with_reducible repeat (first | refine blk_drewN ?_ _ | refine kD ?_ | refine kA ?_ _)); refine blk_far ?_ NB662_737.out _; (with_reducible repeat (first | refine blk_drewN ?_ _ | refine kD ?_ | refine kA ?_ _)); refine blk_far ?_ NB662_737.out _; (with_reducible repeat (first | refine blk_drewN ?_ _ | refine kD ?_ | refine kA ?_ _)); refine blk_far ?_ NB662_737.out _; (with_reducible repeat (first | refine blk_drewN ?_ _ | refine kD ?_ | refine kA ?_ _)); refine blk_far ?_ NB662_737.out _; (with_reducible repeat (first | refine blk_drewN ?_ _ | refine kD ?_ | refine kA ?_ _)); refine blk_far ?_ NB662_737.out _; (with_reducible repeat (first | refine blk_drewN ?_ _ | refine kD ?_ | refine kA ?_ _)); refine blk_far ?_ NB662_737.out _; (with_reducible repeat (first | refine blk_drewN ?_ _ | refine kD ?_ | refine kA ?_ _)); refine blk_far ?_ NB662_737.out _; (with_reducible repeat (first | refine blk_drewN ?_ _ | refine kD ?_ | refine kA ?_ _)); exact z_); replace BK675 := bkb BK675 hb (by intro z_; (with_reducible repeat (first | refine blk_drewN ?_ _ | refine kD ?_ | refine kA ?_ _)); refine blk_far ?_ NB675_737.out _; (with_reducible repeat (first | refine blk_drewN ?_ _ | refine kD ?_ | refine kA ?_ _)); refine blk_far ?_ NB675_737.out _; (with_reducible repeat (first | refine blk_drewN ?_ _ | refine kD ?_ | refine kA ?_ _)); refine blk_far ?_ NB675_737.out _; (with_reducible repeat (first | refine blk_drewN ?_ _ | refine kD ?_ | refine kA ?_ _)); refine blk_far ?_ NB675_737.out _; (with_reducible repeat (first | refine blk_drewN ?_ _ | refine kD ?_ | refine kA ?_ _)); refine blk_far ?_ NB675_737.out _; (with_reducible repeat (first | refine blk_drewN ?_ _ | refine kD ?_ | refine kA ?_ _)); refine blk_far ?_ NB675_737.out _; (with_reducible repeat (first | refine blk_drewN ?_ _ | refine kD ?_ | refine kA ?_ _)); refine blk_far ?_ NB675_737.out _; (with_reducible repeat (first | refine blk_drewN ?_ _ | refine kD ?_ | refine kA ?_ _)); refine blk_far ?_ NB675_737.out _; (with_reducible repeat (first | refine blk_drewN ?_ _ | refine kD ?_ | refine kA ?_ _)); exact z_); replace BK689 := bkb BK689 hb (by intro z_; (with_reducible repeat (first | refine blk_drewN ?_ _ | refine kD ?_ | refine kA ?_ _)); refine blk_far ?_ NB689_737.out _; (with_reducible repeat (first | refine blk_drewN ?_ _ | refine kD ?_ | refine kA ?_ _)); refine blk_far ?_ NB689_737.out _; (with_reducible repeat (first | refine blk_drewN ?_ _ | refine kD ?_ | refine kA ?_ _)); refine blk_far ?_ NB689_737.out _; (with_reducible repeat (first | refine blk_drewN ?_ _ | refine kD ?_ | refine kA ?_ _)); refine blk_far ?_ NB689_737.out _; (with_reducible repeat (first | refine blk_drewN ?_ _ | refine kD ?_ | refine kA ?_ _)); refine blk_far ?_ NB689_737.out _; (with_reducible repeat (first | refine blk_drewN ?_ _ | refine kD ?_ | refine kA ?_ _)); refine blk_far ?_ NB689_737.out _; (with_reducible repeat (first | refine blk_drewN ?_ _ | refine kD ?_ | refine kA ?_ _)); refine blk_far ?_ NB689_737.out _; (with_reducible repeat (first | refine blk_drewN ?_ _ | refine kD ?_ | refine kA ?_ _)); refine blk_far ?_ NB689_737.out _; (with_reducible repeat (first | refine blk_drewN ?_ _ | refine kD ?_ | refine kA ?_ _)); exact z_); replace BK737 := aK (blk_below (g := gb737) (o := .cells #[.int .i64 t724, .int .i64 t725, .int .i64 t726, .slice Ao122 t727.length co122, .int .i64 t730, .int .i64 t731, .slice Ao123 t732.length co123, .int .i64 t735] 38 (0, 0)) (by (with_reducible repeat (first | refine blk_drewN ?_ _ | refine kD ?_ | refine kA ?_ _)); refine blk_put (cs := #[.int .i64 t724, .int .i64 t725, .int .i64 t726, .slice Ao122 t727.length co122, .int .i64 t730, .int .i64 t731, .slice Ao123 t732.length co123, .int .i64 0]) ?_ 7 _ rfl; (with_reducible repeat (first | refine blk_drewN ?_ _ | refine kD ?_ | refine kA ?_ _)); refine blk_put (cs := #[.int .i64 t724, .int .i64 t725, .int .i64 t726, .slice Ao122 t727.length co122, .int .i64 t730, .int .i64 t731, .slice none 0 0, .int .i64 0]) ?_ 6 _ rfl; (with_reducible repeat (first | refine blk_drewN ?_ _ | refine kD ?_ | refine kA ?_ _)); refine blk_put (cs := #[.int .i64 t724, .int .i64 t725, .int .i64 t726, .slice Ao122 t727.length co122, .int .i64 t730, .int .i64 0, .slice none 0 0, .int .i64 0]) ?_ 5 _ rfl; (with_reducible repeat (first | refine blk_drewN ?_ _ | refine kD ?_ | refine kA ?_ _)); refine blk_put (cs := #[.int .i64 t724, .int .i64 t725, .int .i64 t726, .slice Ao122 t727.length co122, .int .i64 0, .int .i64 0, .slice none 0 0, .int .i64 0]) ?_ 4 _ rfl; (with_reducible repeat (first | refine blk_drewN ?_ _ | refine kD ?_ | refine kA ?_ _)); refine blk_put (cs := #[.int .i64 t724, .int .i64 t725, .int .i64 t726, .slice none 0 0, .int .i64 0, .int .i64 0, .slice none 0 0, .int .i64 0]) ?_ 3 _ rfl; (with_reducible repeat (first | refine blk_drewN ?_ _ | refine kD ?_ | refine kA ?_ _)); refine blk_put (cs := #[.int .i64 t724, .int .i64 t725, .int .i64 0, .slice none 0 0, .int .i64 0, .int .i64 0, .slice none 0 0, .int .i64 0]) ?_ 2 _ rfl; (with_reducible repeat (first | refine blk_drewN ?_ _ | refine kD ?_ | refine kA ?_ _)); refine blk_put (cs := #[.int .i64 t724, .int .i64 0, .int .i64 0, .slice none 0 0, .int .i64 0, .int .i64 0, .slice none 0 0, .int .i64 0]) ?_ 1 _ rfl; (with_reducible repeat (first | refine blk_drewN ?_ _ | refine kD ?_ | refine kA ?_ _)); refine blk_put (cs := #[.int .i64 0, .int .i64 0, .int .i64 0, .slice none 0 0, .int .i64 0, .int .i64 0, .slice none 0 0, .int .i64 0]) ?_ 0 _ rfl; (with_reducible repeat (first | refine blk_drewN ?_ _ | refine kD ?_ | refine kA ?_ _)); exact BK737.out) hb); replace HB := aK (bSp (zH5 HB GE635 GE662 GE675 GE689 GE737) hb); (try clear hb); (try clear hb2); (try clear hk); (try clear hi)))
             go_meet
             case rel => exact ⟨_, (true), (by first | rfl | (simp; done) | (simp [*]; done)), H', ⟨by have := HJ10.out; have := HJ63.out; first | omega | exact Nat.le_refl _⟩, ⟨by (try simp only [hl676003_63]); (try simp only [hl676006_63]); (with_reducible repeat (first | apply Kd.R_alloc | apply Kd.R_drewN | apply Kd.R_drew)); exact Kd.R_mono HO_663003.out (fun _ hk => ⟨hk.1.1.1.1.1, ⟨hk.1.1.1.1.2.1, ⟨hk.1.1.1.1.2.2.1, ⟨hk.1.1.1.1.2.2.2.1, ⟨hk.1.1.1.1.2.2.2.2, ⟨hk.1.2, hk.2⟩⟩⟩⟩⟩⟩)⟩, ⟨by (try simp only [hl676003_63]); (try simp only [hl676006_63]); (with_reducible repeat (first | apply Kd.R_alloc | apply Kd.R_drewN | apply Kd.R_drew)); exact Kd.R_mono HO_663006.out (fun _ hk => ⟨hk.1.1.1.1.1, ⟨hk.1.1.1.1.2.1, ⟨hk.1.1.1.1.2.2.1, ⟨hk.1.1.1.1.2.2.2.1, ⟨hk.1.1.1.1.2.2.2.2, ⟨hk.1.2, hk.2⟩⟩⟩⟩⟩⟩)⟩, ⟨by (try simp only [hl676003_63]); (try simp only [hl676006_63]); (with_reducible repeat (first | apply Kd.R_alloc | apply Kd.R_drewN | apply Kd.R_drew)); exact Kd.R_mono HO_676003.out (fun _ hk => ⟨hk.1.1.1.1.1, ⟨hk.1.1.1.1.2.1, ⟨hk.1.1.1.1.2.2.1, ⟨hk.1.1.1.1.2.2.2.1, ⟨hk.1.1.1.1.2.2.2.2, ⟨hk.1.2, hk.2⟩⟩⟩⟩⟩⟩)⟩, ⟨by (try simp only [hl676003_63]); (try simp only [hl676006_63]); (with_reducible repeat (first | apply Kd.R_alloc | apply Kd.R_drewN | apply Kd.R_drew)); exact Kd.R_mono HO_676006.out (fun _ hk => ⟨hk.1.1.1.1.1, ⟨hk.1.1.1.1.2.1, ⟨hk.1.1.1.1.2.2.1, ⟨hk.1.1.1.1.2.2.2.1, ⟨hk.1.1.1.1.2.2.2.2, ⟨hk.1.2, hk.2⟩⟩⟩⟩⟩⟩)⟩, ⟨by (try simp only [hl676003_63]); (try simp only [hl676006_63]); (with_reducible repeat (first | apply Kd.R_alloc | apply Kd.R_drewN | apply Kd.R_drew)); exact Kd.R_mono HO_690003.out (fun _ hk => ⟨hk.1.1.1.1.1, ⟨hk.1.1.1.1.2.1, ⟨hk.1.1.1.1.2.2.1, ⟨hk.1.1.1.1.2.2.2.1, ⟨hk.1.1.1.1.2.2.2.2, ⟨hk.1.2, hk.2⟩⟩⟩⟩⟩⟩)⟩, ⟨by (try simp only [hl676003_63]); (try simp only [hl676006_63]); (with_reducible repeat (first | apply Kd.R_alloc | apply Kd.R_drewN | apply Kd.R_drew)); exact Kd.R_mono HO_690006.out (fun _ hk => ⟨hk.1.1.1.1.1, ⟨hk.1.1.1.1.2.1, ⟨hk.1.1.1.1.2.2.1, ⟨hk.1.1.1.1.2.2.2.1, ⟨hk.1.1.1.1.2.2.2.2, ⟨hk.1.2, hk.2⟩⟩⟩⟩⟩⟩)⟩, ⟨by (try simp only [hl676003_63]); (try simp only [hl676006_63]); (with_reducible repeat (first | apply Kd.R_alloc | apply Kd.R_drewN | apply Kd.R_drew)); exact Kd.R_mono HO729.out (fun _ hk => ⟨hk.1.1.1.1.1.1.1.2, ⟨hk.1.1.1.1.1.1.2, ⟨hk.1.1.1.1.1.2, ⟨hk.1.1.1.1.2, ⟨hk.1.1.1.2, ⟨hk.1.1.2, hk.1.1.1.1.1.1.1.1⟩⟩⟩⟩⟩⟩)⟩, ⟨by (try simp only [hl676003_63]); (try simp only [hl676006_63]); (with_reducible repeat (first | apply Kd.R_alloc | apply Kd.R_drewN | apply Kd.R_drew)); exact Kd.R_mono HO734.out (fun _ hk => ⟨hk.1.1.1.1.1.1.1.2, ⟨hk.1.1.1.1.1.1.2, ⟨hk.1.1.1.1.1.2, ⟨hk.1.1.1.1.2, ⟨hk.1.1.1.2, ⟨hk.1.1.2, hk.1.1.1.1.1.1.1.1⟩⟩⟩⟩⟩⟩)⟩, ⟨by (try simp only [hl676003_63]); (try simp only [hl676006_63]); (with_reducible repeat (first | refine blk_drewN ?_ _ | refine kD ?_ | refine kA ?_ _)); exact BK635.out⟩, ⟨by (try simp only [hl676003_63]); (try simp only [hl676006_63]); (with_reducible repeat (first | refine blk_drewN ?_ _ | refine kD ?_ | refine kA ?_ _)); exact BK662.out⟩, ⟨by (try simp only [hl676003_63]); (try simp only [hl676006_63]); (with_reducible repeat (first | refine blk_drewN ?_ _ | refine kD ?_ | refine kA ?_ _)); exact BK675.out⟩, ⟨by (try simp only [hl676003_63]); (try simp only [hl676006_63]); (with_reducible repeat (first | refine blk_drewN ?_ _ | refine kD ?_ | refine kA ?_ _)); exact BK689.out⟩, ⟨by (try simp only [hl676003_63]); (try simp only [hl676006_63]); (with_reducible repeat (first | refine blk_drewN ?_ _ | refine kD ?_ | refine kA ?_ _)); exact BK737.out⟩, ⟨by repeat (first | (with_reducible first | exact HB.out | apply bAl | apply bDN | apply bD1 | refine bSt ?_ GE635.out | refine bSt ?_ GE662.out | refine bSt ?_ GE675.out | refine bSt ?_ GE689.out | refine bSt ?_ GE737.out) | exact HB.out)⟩⟩
           case rest =>
            clear HC101
            try clear c1
            try clear c2
            try clear p2
            try clear c3
            try clear c3b0
            try clear c4
            try clear c5
            try clear c6
            try clear c7
            try clear c8
            try clear c9
            try clear c10
            try clear c11
            try clear c12
            try clear c13
            try clear c14
            try clear c15
            try clear c16
            try clear c17
            try clear c18
            try clear c19
            try clear c20
            try clear c21
            try clear c28
            try clear c29
            try clear c35
            try clear c36
            try clear c37
            try clear c42
            try clear c43
            try clear c44
            try clear c45
            try clear c47
            try clear c48
            try clear c51
            try clear c52
            try clear c53
            try clear c55
            try clear c56
            try clear c59
            try clear c62
            try clear c70
            try clear c71
            try clear c72
            try clear c75
            try clear c75b0
            try clear c77
            try clear c78
            try clear c79
            try clear c80
            try clear c82
            try clear c83
            try clear c86
            try clear c87
            try clear c88
            try clear c90
            try clear c91
            try clear c94
            try clear c97
            try clear c97b0
            try clear c98
            try clear c98b0
            try clear c98b1
            try clear c102
            try clear c103
            try clear c104
            try clear c109
            try clear c110
            try clear c117
            try clear c118
            try clear c119
            try clear c120
            try clear c125
            try clear c126
            try clear c127
            try clear c128
            try clear c129
            try clear c131
            try clear c132
            try clear c133
            try clear c136
            try clear c137
            try clear c138
            try clear c139
            try clear c141
            try clear c142
            try clear c143
            try clear hcz105_0
            try clear hcz105_1
            try clear hcz105_2
            try clear hcz105_3
            try clear hcz105_4
            try clear hcz105_5
            try clear hcz105_6
            try clear hcz105_7
            try clear hcz107_0
            try clear hcz107_1
            try clear hcz107_2
            try clear hcz107_3
            try clear hcz107_4
            try clear hcz107_5
            try clear hcz107_6
            try clear hcz107_7
            try clear hcz111_0
            try clear hcz111_1
            try clear hcz111_2
            try clear hcz111_3
            try clear hcz111_4
            try clear hcz111_5
            try clear hcz111_6
            try clear hcz111_7
            try clear hcz121_0
            try clear hcz121_1
            try clear hcz121_2
            try clear hcz121_3
            try clear hcz121_4
            try clear hcz121_5
            try clear hcz121_6
            try clear hcz121_7
            try clear hcz130_0
            try clear hcz130_1
            try clear hcz130_2
            try clear hcz130_3
            try clear hcz130_4
            try clear hcz130_5
            try clear hcz130_6
            try clear hcz130_7
            try clear hcz134_0
            try clear hcz134_1
            try clear hcz134_2
            try clear hcz134_3
            try clear hcz134_4
            try clear hcz134_5
            try clear hcz134_6
            try clear hcz134_7
            try clear hcz13_0
            try clear hcz13_1
            try clear hcz13_2
            try clear hcz13_3
            try clear hcz13_4
            try clear hcz13_5
            try clear hcz13_6
            try clear hcz13_7
            try clear hcz140_0
            try clear hcz140_1
            try clear hcz140_2
            try clear hcz140_3
            try clear hcz140_4
            try clear hcz140_5
            try clear hcz140_6
            try clear hcz140_7
            try clear hcz144_0
            try clear hcz144_1
            try clear hcz144_2
            try clear hcz144_3
            try clear hcz144_4
            try clear hcz144_5
            try clear hcz144_6
            try clear hcz144_7
            try clear hcz15_0
            try clear hcz15_1
            try clear hcz15_2
            try clear hcz15_3
            try clear hcz15_4
            try clear hcz15_5
            try clear hcz15_6
            try clear hcz15_7
            try clear hcz22_0
            try clear hcz22_1
            try clear hcz22_2
            try clear hcz22_3
            try clear hcz22_4
            try clear hcz22_5
            try clear hcz22_6
            try clear hcz22_7
            try clear hcz25_0
            try clear hcz25_1
            try clear hcz25_2
            try clear hcz25_3
            try clear hcz25_4
            try clear hcz25_5
            try clear hcz25_6
            try clear hcz25_7
            try clear hcz30_0
            try clear hcz30_1
            try clear hcz30_2
            try clear hcz30_3
            try clear hcz30_4
            try clear hcz30_5
            try clear hcz30_6
            try clear hcz30_7
            try clear hcz38_0
            try clear hcz38_1
            try clear hcz38_2
            try clear hcz38_3
            try clear hcz38_4
            try clear hcz38_5
            try clear hcz38_6
            try clear hcz38_7
            try clear hcz46_0
            try clear hcz46_1
            try clear hcz46_2
            try clear hcz46_3
            try clear hcz46_4
            try clear hcz46_5
            try clear hcz46_6
            try clear hcz46_7
            try clear hcz49_0
            try clear hcz49_1
            try clear hcz49_2
            try clear hcz49_3
            try clear hcz49_4
            try clear hcz49_5
            try clear hcz49_6
            try clear hcz49_7
            try clear hcz54_0
            try clear hcz54_1
            try clear hcz54_2
            try clear hcz54_3
            try clear hcz54_4
            try clear hcz54_5
            try clear hcz54_6
            try clear hcz54_7
            try clear hcz57_0
            try clear hcz57_1
            try clear hcz57_2
            try clear hcz57_3
            try clear hcz57_4
            try clear hcz57_5
            try clear hcz57_6
            try clear hcz57_7
            try clear hcz5_0
            try clear hcz5_1
            try clear hcz5_2
            try clear hcz5_3
            try clear hcz5_4
            try clear hcz5_5
            try clear hcz5_6
            try clear hcz5_7
            try clear hcz73_0
            try clear hcz73_1
            try clear hcz73_2
            try clear hcz73_3
            try clear hcz73_4
            try clear hcz73_5
            try clear hcz73_6
            try clear hcz73_7
            try clear hcz81_0
            try clear hcz81_1
            try clear hcz81_2
            try clear hcz81_3
            try clear hcz81_4
            try clear hcz81_5
            try clear hcz81_6
            try clear hcz81_7
            try clear hcz84_0
            try clear hcz84_1
            try clear hcz84_2
            try clear hcz84_3
            try clear hcz84_4
            try clear hcz84_5
            try clear hcz84_6
            try clear hcz84_7
            try clear hcz89_0
            try clear hcz89_1
            try clear hcz89_2
            try clear hcz89_3
            try clear hcz89_4
            try clear hcz89_5
            try clear hcz89_6
            try clear hcz89_7
            try clear hcz92_0
            try clear hcz92_1
            try clear hcz92_2
            try clear hcz92_3
            try clear hcz92_4
            try clear hcz92_5
            try clear hcz92_6
            try clear hcz92_7
            try clear hfz105_0
            try clear hfz105_1
            try clear hfz105_2
            try clear hfz105_3
            try clear hfz105_4
            try clear hfz105_5
            try clear hfz105_6
            try clear hfz105_7
            try clear hfz107_0
            try clear hfz107_1
            try clear hfz107_2
            try clear hfz107_3
            try clear hfz107_4
            try clear hfz107_5
            try clear hfz107_6
            try clear hfz107_7
            try clear hfz111_0
            try clear hfz111_1
            try clear hfz111_2
            try clear hfz111_3
            try clear hfz111_4
            try clear hfz111_5
            try clear hfz111_6
            try clear hfz111_7
            try clear hfz121_0
            try clear hfz121_1
            try clear hfz121_2
            try clear hfz121_3
            try clear hfz121_4
            try clear hfz121_5
            try clear hfz121_6
            try clear hfz121_7
            try clear hfz130_0
            try clear hfz130_1
            try clear hfz130_2
            try clear hfz130_3
            try clear hfz130_4
            try clear hfz130_5
            try clear hfz130_6
            try clear hfz130_7
            try clear hfz134_0
            try clear hfz134_1
            try clear hfz134_2
            try clear hfz134_3
            try clear hfz134_4
            try clear hfz134_5
            try clear hfz134_6
            try clear hfz134_7
            try clear hfz13_0
            try clear hfz13_1
            try clear hfz13_2
            try clear hfz13_3
            try clear hfz13_4
            try clear hfz13_5
            try clear hfz13_6
            try clear hfz13_7
            try clear hfz140_0
            try clear hfz140_1
            try clear hfz140_2
            try clear hfz140_3
            try clear hfz140_4
            try clear hfz140_5
            try clear hfz140_6
            try clear hfz140_7
            try clear hfz144_0
            try clear hfz144_1
            try clear hfz144_2
            try clear hfz144_3
            try clear hfz144_4
            try clear hfz144_5
            try clear hfz144_6
            try clear hfz144_7
            try clear hfz15_0
            try clear hfz15_1
            try clear hfz15_2
            try clear hfz15_3
            try clear hfz15_4
            try clear hfz15_5
            try clear hfz15_6
            try clear hfz15_7
            try clear hfz22_0
            try clear hfz22_1
            try clear hfz22_2
            try clear hfz22_3
            try clear hfz22_4
            try clear hfz22_5
            try clear hfz22_6
            try clear hfz22_7
            try clear hfz25_0
            try clear hfz25_1
            try clear hfz25_2
            try clear hfz25_3
            try clear hfz25_4
            try clear hfz25_5
            try clear hfz25_6
            try clear hfz25_7
            try clear hfz30_0
            try clear hfz30_1
            try clear hfz30_2
            try clear hfz30_3
            try clear hfz30_4
            try clear hfz30_5
            try clear hfz30_6
            try clear hfz30_7
            try clear hfz38_0
            try clear hfz38_1
            try clear hfz38_2
            try clear hfz38_3
            try clear hfz38_4
            try clear hfz38_5
            try clear hfz38_6
            try clear hfz38_7
            try clear hfz46_0
            try clear hfz46_1
            try clear hfz46_2
            try clear hfz46_3
            try clear hfz46_4
            try clear hfz46_5
            try clear hfz46_6
            try clear hfz46_7
            try clear hfz49_0
            try clear hfz49_1
            try clear hfz49_2
            try clear hfz49_3
            try clear hfz49_4
            try clear hfz49_5
            try clear hfz49_6
            try clear hfz49_7
            try clear hfz54_0
            try clear hfz54_1
            try clear hfz54_2
            try clear hfz54_3
            try clear hfz54_4
            try clear hfz54_5
            try clear hfz54_6
            try clear hfz54_7
            try clear hfz57_0
            try clear hfz57_1
            try clear hfz57_2
            try clear hfz57_3
            try clear hfz57_4
            try clear hfz57_5
            try clear hfz57_6
            try clear hfz57_7
            try clear hfz5_0
            try clear hfz5_1
            try clear hfz5_2
            try clear hfz5_3
            try clear hfz5_4
            try clear hfz5_5
            try clear hfz5_6
            try clear hfz5_7
            try clear hfz73_0
            try clear hfz73_1
            try clear hfz73_2
            try clear hfz73_3
            try clear hfz73_4
            try clear hfz73_5
            try clear hfz73_6
            try clear hfz73_7
            try clear hfz81_0
            try clear hfz81_1
            try clear hfz81_2
            try clear hfz81_3
            try clear hfz81_4
            try clear hfz81_5
            try clear hfz81_6
            try clear hfz81_7
            try clear hfz84_0
            try clear hfz84_1
            try clear hfz84_2
            try clear hfz84_3
            try clear hfz84_4
            try clear hfz84_5
            try clear hfz84_6
            try clear hfz84_7
            try clear hfz89_0
            try clear hfz89_1
            try clear hfz89_2
            try clear hfz89_3
            try clear hfz89_4
            try clear hfz89_5
            try clear hfz89_6
            try clear hfz89_7
            try clear hfz92_0
            try clear hfz92_1
            try clear hfz92_2
            try clear hfz92_3
            try clear hfz92_4
            try clear hfz92_5
            try clear hfz92_6
            try clear hfz92_7
            try clear p2
            obtain ⟨kq, x87_100, rfl, HA, HJ100, HO_663003, HO_663006, HO_676003, HO_676006, HO_690003, HO_690006, HO_738003, HO_738006, BK635, BK662, BK675, BK689, BK737, HB⟩ := hcut
            have hl690003_100 := (Kd.R_reads' HO_690003.out).1
            rw [hl690003_100] at HO_690003
            (try simp only [hl690003_100])
            (try simp only [hl690003_100] at BK635)
            (try simp only [hl690003_100] at BK662)
            (try simp only [hl690003_100] at BK675)
            (try simp only [hl690003_100] at BK689)
            (try simp only [hl690003_100] at BK737)
            (try simp only [hl690003_100] at HO_663003)
            (try simp only [hl690003_100] at HO_663006)
            (try simp only [hl690003_100] at HO_676003)
            (try simp only [hl690003_100] at HO_676006)
            (try simp only [hl690003_100] at HO_690006)
            (try simp only [hl690003_100] at HO_738003)
            (try simp only [hl690003_100] at HO_738006)
            have hl690006_100 := (Kd.R_reads' HO_690006.out).1
            rw [hl690006_100] at HO_690006
            (try simp only [hl690006_100])
            (try simp only [hl690006_100] at BK635)
            (try simp only [hl690006_100] at BK662)
            (try simp only [hl690006_100] at BK675)
            (try simp only [hl690006_100] at BK689)
            (try simp only [hl690006_100] at BK737)
            (try simp only [hl690006_100] at HO_663003)
            (try simp only [hl690006_100] at HO_663006)
            (try simp only [hl690006_100] at HO_676003)
            (try simp only [hl690006_100] at HO_676006)
            (try simp only [hl690006_100] at HO_690003)
            (try simp only [hl690006_100] at HO_738003)
            (try simp only [hl690006_100] at HO_738006)
            cases kq with
            | zero => exact absurd HA.out (by simp [laws_FnExactEnter.j2])
            | succ kj100 =>
             have H := HA.out
             clear HA
             simp only [laws_FnExactEnter.j2] at H
             by_cases c146 : x87_100 = true
             ·subst c146
              have H1 : (some false) = some true := by first | (rw [if_pos rfl] at H; exact H) | rfl
              clear H
              have H := H1
              clear H1
              exact absurd (Option.some.inj H) Bool.false_ne_true
             ·replace c146 := Bool.eq_false_iff.mpr c146
              subst c146
              have H1 : ((laws_heldGarden.f kj100 t676 t677 t678 t709 t682 t683 t710 t687 1).bind fun t739 => (if t739 < 0 then (some false) else (if t739 = t708 then (some true) else (some false)))) = some true := by rw [if_neg (show ¬ (false = true) by decide)] at H; exact H
              clear H
              have H := H1
              clear H1
              replace H := Option.bind_eq_some_iff.mp H
              obtain ⟨t739, A1470, H⟩ := H
              replace H : (if t739 < 0 then (some false) else (if t739 = t708 then (some true) else (some false))) = some true := H
              have A147 := aK A1470
              clear A1470
              by_cases c148 : t739 < 0
              ·rw [if_pos c148] at H
               have c148b0 : decide (t739 < 0) = true := decide_eq_true c148
               clear c148
               exact absurd (Option.some.inj H) Bool.false_ne_true
              ·rw [if_neg c148] at H
               have c148b0 : decide (t739 < 0) = false := decide_eq_false c148
               clear c148
               by_cases c149 : t739 = t708
               ·rw [if_pos c149] at H
                have c149b0 : (t739 == t708) = true := beq_iff_eq.mpr c149
                have c149b1 : (t739 != t708) = false := bne_eq_false_iff_eq.mpr c149
                clear c149
                have hnb150 := NB689_635.out
                have hnc150 := NB635_689.out
                have hnb151 := NB689_662.out
                have hnc151 := NB662_689.out
                have hnb152 := NB689_675.out
                have hnc152 := NB675_689.out
                have hnb153 := NB689_737.out
                have hnc153 := NB737_689.out
                obtain ⟨hcz154_0, hcz154_1, hcz154_2, hcz154_3, hcz154_4, hcz154_5, hcz154_6, hcz154_7, hfz154_0, hfz154_1, hfz154_2, hfz154_3, hfz154_4, hfz154_5, hfz154_6, hfz154_7⟩ := cl8 BK689.out
                go_wp2_with (first | ((with_reducible refine gate_callee (f := 21) rfl ?_); refine goesL_ (some 90) rfl rfl Tryz.func21 (by kernel_rfl) rfl #[.agg #[.int .i64 t676, .int .i64 t677, .int .i64 t678, .slice Ao39 t709.length co39, .int .i64 t682, .int .i64 t683, .slice Ao40 t710.length co40, .int .i64 t687], .int .i64 1] rfl zD ?_; (with_reducible refine (laws_heldGarden.calls kj100 t676 t677 t678 _ _ t709 t682 t683 _ _ t710 t687 1 t739 _ ?side1 ?side2 ?side3 ?side4 A147.out).mono ?_); (case side1 => exact zC (Kd.R_reads' HO_690003.out).2.2); (case side2 => exact (Kd.R_reads' HO_690003.out).2.1); (case side3 => exact zC (Kd.R_reads' HO_690006.out).2.2); (case side4 => exact (Kd.R_reads' HO_690006.out).2.1); rintro e w155 ⟨rfl, hb⟩; refine ⟨_, rfl, ?_⟩; replace HO_663003 := aK (Kd.R_below (zA HO_663003) hb); replace HO_663006 := aK (Kd.R_below (zA HO_663006) hb); replace HO_676003 := aK (Kd.R_below (zA HO_676003) hb); replace HO_676006 := aK (Kd.R_below (zA HO_676006) hb); replace HO_690003 := aK (Kd.R_below (zA HO_690003) hb); replace HO_690006 := aK (Kd.R_below (zA HO_690006) hb); replace HO_738003 := aK (Kd.R_below (zA HO_738003) hb); replace HO_738006 := aK (Kd.R_below (zA HO_738006) hb); replace BK635 := zB BK635 hb; replace BK662 := zB BK662 hb; replace BK675 := zB BK675 hb; replace BK689 := zB BK689 hb; replace BK737 := zB BK737 hb; replace HB := aK (bSp (zH5 HB GE635 GE662 GE675 GE689 GE737) hb); (try clear hb); (try clear hb2); (try clear hk); (try clear hi)))
                go_ret
                exact ⟨by first | rfl | (simp [errW_none, errW_some] <;> rfl) | (simp [*, errW_none, errW_some] <;> rfl), by repeat (first | (with_reducible first | exact HB.out | apply bAl | apply bDN | apply bD1 | refine bSt ?_ GE635.out | refine bSt ?_ GE662.out | refine bSt ?_ GE675.out | refine bSt ?_ GE689.out | refine bSt ?_ GE737.out) | exact HB.out)⟩
               ·rw [if_neg c149] at H
                have c149b0 : (t739 == t708) = false := beq_eq_false_iff_ne.mpr c149
                have c149b1 : (t739 != t708) = true := bne_iff_ne.mpr c149
                exact absurd (Option.some.inj H) Bool.false_ne_true
          ·rw [if_neg c98] at H
           have c98b0 : (t711 == t708) = false := beq_eq_false_iff_ne.mpr c98
           have c98b1 : (t711 != t708) = true := bne_iff_ne.mpr c98
           exact absurd (Option.some.inj H) Bool.false_ne_true
     ·replace c62 := Bool.eq_false_iff.mpr c62
      subst c62
      have H1 : (some false) = some true := by rw [if_neg (show ¬ (false = true) by decide)] at H; exact H
      clear H
      have H := H1
      clear H1
      exact absurd (Option.some.inj H) Bool.false_ne_true
end Go.Proofs.YtkindoepnganmaaGreat.F
end
