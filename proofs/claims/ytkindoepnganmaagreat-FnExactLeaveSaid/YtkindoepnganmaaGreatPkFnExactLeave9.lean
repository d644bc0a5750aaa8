/- Packed by a program of the session (wip/tools/pack.py): what the claim's theorem reaches, of the texts that wip/ and the kit's printer lay. -/
import Derived.Test.YtkindoepnganmaaGreatPkFnExactLeave7
import Derived.Test.YtkindoepnganmaaGreatPkFnExactLeave8
import Derived.Laws.StructEq
section
namespace Go.Proofs.YtkindoepnganmaaGreat.F
open Go.RowKit Go.Proofs.YtkindoepnganmaaGreatW.PrintWords Go.Proofs.YtkindoepnganmaaGreatW.PrintLast Go.Proofs.YtkindoepnganmaaGreatW.PrintMore
set_option linter.unusedVariables false
set_option linter.unusedSimpArgs false
attribute [local go_sem] max2_int min2_int max_two min_two
set_option maxHeartbeats 8000000 in
set_option maxRecDepth 100000 in
theorem laws_FnExactLeave.calls (k : Nat) (a0_0 : Int) (a0_1 : Int) (a0_2 : Int) (A0_3 : Option Addr) (c0_3 : Nat) (l0_3 : List Int) (a0_4 : Int) (a0_5 : Int) (A0_6 : Option Addr) (c0_6 : Nat) (l0_6 : List Int) (a0_7 : Int) (w : World) (hr0_3 : Kd.C (Kd.int .i64) w A0_3 l0_3.length l0_3) (hc0_3 : l0_3.length ≤ c0_3) (hr0_6 : Kd.C (Kd.int .i64) w A0_6 l0_6.length l0_6) (hc0_6 : l0_6.length ≤ c0_6) (h : laws_FnExactLeave.f k a0_0 a0_1 a0_2 l0_3 a0_4 a0_5 l0_6 a0_7 = some true) :
  Calls Tryz.prog 4 #[.agg #[.int .i64 a0_0, .int .i64 a0_1, .int .i64 a0_2, .slice A0_3 l0_3.length c0_3, .int .i64 a0_4, .int .i64 a0_5, .slice A0_6 l0_6.length c0_6, .int .i64 a0_7]] w fun e w' => e = .returned (.bool true) ∧ Below w.heap.size w w' := by
 have hu30 := Tryz.underlying30
 have hu38 := Tryz.underlying38
 have HR0_3 := aK hr0_3
 have HC0_3 := aK hc0_3
 clear hr0_3 hc0_3
 have HR0_6 := aK hr0_6
 have HC0_6 := aK hc0_6
 clear hr0_6 hc0_6
 have HB := aK (Below.refl w.heap.size w)
 have H : ((laws_szGarden.f a0_0 a0_1 a0_2 l0_3 a0_4 a0_5 l0_6 a0_7 1048576).bind fun t767 => (if t767 < 0 then (some true) else ((laws_toGarden.f k a0_0 a0_1 a0_2 l0_3 a0_4 a0_5 l0_6 a0_7).bind fun bt768 => ((spec_Leave.f k bt768.1 bt768.2.1 bt768.2.2.1 bt768.2.2.2.1 bt768.2.2.2.2.1 bt768.2.2.2.2.2.1 bt768.2.2.2.2.2.2.1 bt768.2.2.2.2.2.2.2).bind fun bt780 => ((laws_toGarden.f k a0_0 a0_1 a0_2 l0_3 a0_4 a0_5 l0_6 a0_7).bind fun bt794 => ((impl_Leave.f k bt794.1 bt794.2.1 bt794.2.2.1 bt794.2.2.2.1 bt794.2.2.2.2.1 bt794.2.2.2.2.2.1 bt794.2.2.2.2.2.2.1 bt794.2.2.2.2.2.2.2).bind fun bt807 => ((laws_eqGarden.f k bt807.1 bt807.2.1 bt807.2.2.1 bt807.2.2.2.1 bt807.2.2.2.2.1 bt807.2.2.2.2.2.1 bt807.2.2.2.2.2.2.1 bt807.2.2.2.2.2.2.2.1 bt780.1 bt780.2.1 bt780.2.2.1 bt780.2.2.2.1 bt780.2.2.2.2.1 bt780.2.2.2.2.2.1 bt780.2.2.2.2.2.2.1 bt780.2.2.2.2.2.2.2.1).bind fun t821 => (if t821 = true then (laws_FnExactLeave.j0 k bt780.2.2.2.2.2.2.2.2 bt807.2.2.2.2.2.2.2.2 (bt807.2.2.2.2.2.2.2.2 != bt780.2.2.2.2.2.2.2.2) a0_0 a0_1 a0_2 l0_3 a0_4 a0_5 l0_6 a0_7 bt780.1 bt780.2.1 bt780.2.2.1 bt780.2.2.2.1 bt780.2.2.2.2.1 bt780.2.2.2.2.2.1 bt780.2.2.2.2.2.2.1 bt780.2.2.2.2.2.2.2.1 bt794.1 bt794.2.1 bt794.2.2.1 bt794.2.2.2.1 bt794.2.2.2.2.1 bt794.2.2.2.2.2.1 bt794.2.2.2.2.2.2.1 bt794.2.2.2.2.2.2.2 bt807.1 bt807.2.1 bt807.2.2.1 bt807.2.2.2.1 bt807.2.2.2.2.1 bt807.2.2.2.2.2.1 bt807.2.2.2.2.2.2.1 bt807.2.2.2.2.2.2.2.1) else (laws_FnExactLeave.j0 k bt780.2.2.2.2.2.2.2.2 bt807.2.2.2.2.2.2.2.2 true a0_0 a0_1 a0_2 l0_3 a0_4 a0_5 l0_6 a0_7 bt780.1 bt780.2.1 bt780.2.2.1 bt780.2.2.2.1 bt780.2.2.2.2.1 bt780.2.2.2.2.2.1 bt780.2.2.2.2.2.2.1 bt780.2.2.2.2.2.2.2.1 bt794.1 bt794.2.1 bt794.2.2.1 bt794.2.2.2.1 bt794.2.2.2.2.1 bt794.2.2.2.2.2.1 bt794.2.2.2.2.2.2.1 bt794.2.2.2.2.2.2.2 bt807.1 bt807.2.1 bt807.2.2.1 bt807.2.2.2.1 bt807.2.2.2.2.1 bt807.2.2.2.2.2.1 bt807.2.2.2.2.2.2.1 bt807.2.2.2.2.2.2.2.1))))))))) = some true := h
 clear h
 replace H := Option.bind_eq_some_iff.mp H
 obtain ⟨t767, A20, H⟩ := H
 replace H : (if t767 < 0 then (some true) else ((laws_toGarden.f k a0_0 a0_1 a0_2 l0_3 a0_4 a0_5 l0_6 a0_7).bind fun bt768 => ((spec_Leave.f k bt768.1 bt768.2.1 bt768.2.2.1 bt768.2.2.2.1 bt768.2.2.2.2.1 bt768.2.2.2.2.2.1 bt768.2.2.2.2.2.2.1 bt768.2.2.2.2.2.2.2).bind fun bt780 => ((laws_toGarden.f k a0_0 a0_1 a0_2 l0_3 a0_4 a0_5 l0_6 a0_7).bind fun bt794 => ((impl_Leave.f k bt794.1 bt794.2.1 bt794.2.2.1 bt794.2.2.2.1 bt794.2.2.2.2.1 bt794.2.2.2.2.2.1 bt794.2.2.2.2.2.2.1 bt794.2.2.2.2.2.2.2).bind fun bt807 => ((laws_eqGarden.f k bt807.1 bt807.2.1 bt807.2.2.1 bt807.2.2.2.1 bt807.2.2.2.2.1 bt807.2.2.2.2.2.1 bt807.2.2.2.2.2.2.1 bt807.2.2.2.2.2.2.2.1 bt780.1 bt780.2.1 bt780.2.2.1 bt780.2.2.2.1 bt780.2.2.2.2.1 bt780.2.2.2.2.2.1 bt780.2.2.2.2.2.2.1 bt780.2.2.2.2.2.2.2.1).bind fun t821 => (if t821 = true then (laws_FnExactLeave.j0 k bt780.2.2.2.2.2.2.2.2 bt807.2.2.2.2.2.2.2.2 (bt807.2.2.2.2.2.2.2.2 != bt780.2.2.2.2.2.2.2.2) a0_0 a0_1 a0_2 l0_3 a0_4 a0_5 l0_6 a0_7 bt780.1 bt780.2.1 bt780.2.2.1 bt780.2.2.2.1 bt780.2.2.2.2.1 bt780.2.2.2.2.2.1 bt780.2.2.2.2.2.2.1 bt780.2.2.2.2.2.2.2.1 bt794.1 bt794.2.1 bt794.2.2.1 bt794.2.2.2.1 bt794.2.2.2.2.1 bt794.2.2.2.2.2.1 bt794.2.2.2.2.2.2.1 bt794.2.2.2.2.2.2.2 bt807.1 bt807.2.1 bt807.2.2.1 bt807.2.2.2.1 bt807.2.2.2.2.1 bt807.2.2.2.2.2.1 bt807.2.2.2.2.2.2.1 bt807.2.2.2.2.2.2.2.1) else (laws_FnExactLeave.j0 k bt780.2.2.2.2.2.2.2.2 bt807.2.2.2.2.2.2.2.2 true a0_0 a0_1 a0_2 l0_3 a0_4 a0_5 l0_6 a0_7 bt780.1 bt780.2.1 bt780.2.2.1 bt780.2.2.2.1 bt780.2.2.2.2.1 bt780.2.2.2.2.2.1 bt780.2.2.2.2.2.2.1 bt780.2.2.2.2.2.2.2.1 bt794.1 bt794.2.1 bt794.2.2.1 bt794.2.2.2.1 bt794.2.2.2.2.1 bt794.2.2.2.2.2.1 bt794.2.2.2.2.2.2.1 bt794.2.2.2.2.2.2.2 bt807.1 bt807.2.1 bt807.2.2.1 bt807.2.2.2.1 bt807.2.2.2.2.1 bt807.2.2.2.2.2.1 bt807.2.2.2.2.2.2.1 bt807.2.2.2.2.2.2.2.1)))))))) = some true := H
 have A2 := aK A20
 clear A20
 by_cases c3 : t767 < 0
 ·rw [if_pos c3] at H
  have c3b0 : decide (t767 < 0) = true := decide_eq_true c3
  clear c3
  go_enter Tryz.func4, Tryz.ntmps4
  go_wp2_with (first | ((with_reducible refine gate_dst (N := 1) rfl ?_); refine box_event ?hg (N := 1) ?hd (cs := #[.int .i64 a0_0, .int .i64 a0_1, .int .i64 a0_2, .slice A0_3 l0_3.length c0_3, .int .i64 a0_4, .int .i64 a0_5, .slice A0_6 l0_6.length c0_6, .int .i64 a0_7]) (t := 30) ?hr ?_; (case hd => rfl); (case hg => rfl); (case hr => first | (go_simp; done) | (go_simp; rfl)); intro gb766 hg w4 hbox hb; have BK766 := aK (hbox); have GW766 := aK ((by rw [hg]; exact (bSz (zH0 HB)) : w.heap.size ≤ gb766)); replace HB := aK (bSp (zH0 HB) hb); have GE766 := GW766; clear hb hbox hg; obtain ⟨hcz5_0, hcz5_1, hcz5_2, hcz5_3, hcz5_4, hcz5_5, hcz5_6, hcz5_7, hfz5_0, hfz5_1, hfz5_2, hfz5_3, hfz5_4, hfz5_5, hfz5_6, hfz5_7⟩ := cl8 BK766.out) | ((with_reducible refine gate_callee (f := 15) rfl ?_); refine goesL_ (some 16) rfl rfl Tryz.func15 (by kernel_rfl) rfl #[.agg #[.int .i64 a0_0, .int .i64 a0_1, .int .i64 a0_2, .slice A0_3 l0_3.length c0_3, .int .i64 a0_4, .int .i64 a0_5, .slice A0_6 l0_6.length c0_6, .int .i64 a0_7], .int .i64 1048576] rfl zD ?_; (with_reducible refine (laws_szGarden.calls a0_0 a0_1 a0_2 _ _ l0_3 a0_4 a0_5 _ _ l0_6 a0_7 1048576 t767 _ ?side1 ?side2 ?side3 ?side4 A2.out).mono ?_); (case side1 => exact zC (Kd.C_below HR0_3.out HB.out)); (case side2 => exact HC0_3.out); (case side3 => exact zC (Kd.C_below HR0_6.out HB.out)); (case side4 => exact HC0_6.out); rintro e w6 ⟨rfl, hb⟩; refine ⟨_, rfl, ?_⟩; replace BK766 := zB BK766 hb; replace HB := aK (bSp (zH1 HB GE766) hb); (try clear hb); (try clear hb2); (try clear hk); (try clear hi)))
  go_ret
  exact ⟨by first | rfl | (simp [errW_none, errW_some] <;> rfl) | (simp [*, errW_none, errW_some] <;> rfl), by repeat (first | (with_reducible first | exact HB.out | apply bAl | apply bDN | apply bD1 | refine bSt ?_ GE766.out) | exact HB.out)⟩
 ·rw [if_neg c3] at H
  have c3b0 : decide (t767 < 0) = false := decide_eq_false c3
  clear c3
  replace H := Option.bind_eq_some_iff.mp H
  obtain ⟨⟨t768, t769, t770, t771, t774, t775, t776, t779⟩, A70, H⟩ := H
  replace H : ((spec_Leave.f k t768 t769 t770 t771 t774 t775 t776 t779).bind fun bt780 => ((laws_toGarden.f k a0_0 a0_1 a0_2 l0_3 a0_4 a0_5 l0_6 a0_7).bind fun bt794 => ((impl_Leave.f k bt794.1 bt794.2.1 bt794.2.2.1 bt794.2.2.2.1 bt794.2.2.2.2.1 bt794.2.2.2.2.2.1 bt794.2.2.2.2.2.2.1 bt794.2.2.2.2.2.2.2).bind fun bt807 => ((laws_eqGarden.f k bt807.1 bt807.2.1 bt807.2.2.1 bt807.2.2.2.1 bt807.2.2.2.2.1 bt807.2.2.2.2.2.1 bt807.2.2.2.2.2.2.1 bt807.2.2.2.2.2.2.2.1 bt780.1 bt780.2.1 bt780.2.2.1 bt780.2.2.2.1 bt780.2.2.2.2.1 bt780.2.2.2.2.2.1 bt780.2.2.2.2.2.2.1 bt780.2.2.2.2.2.2.2.1).bind fun t821 => (if t821 = true then (laws_FnExactLeave.j0 k bt780.2.2.2.2.2.2.2.2 bt807.2.2.2.2.2.2.2.2 (bt807.2.2.2.2.2.2.2.2 != bt780.2.2.2.2.2.2.2.2) a0_0 a0_1 a0_2 l0_3 a0_4 a0_5 l0_6 a0_7 bt780.1 bt780.2.1 bt780.2.2.1 bt780.2.2.2.1 bt780.2.2.2.2.1 bt780.2.2.2.2.2.1 bt780.2.2.2.2.2.2.1 bt780.2.2.2.2.2.2.2.1 bt794.1 bt794.2.1 bt794.2.2.1 bt794.2.2.2.1 bt794.2.2.2.2.1 bt794.2.2.2.2.2.1 bt794.2.2.2.2.2.2.1 bt794.2.2.2.2.2.2.2 bt807.1 bt807.2.1 bt807.2.2.1 bt807.2.2.2.1 bt807.2.2.2.2.1 bt807.2.2.2.2.2.1 bt807.2.2.2.2.2.2.1 bt807.2.2.2.2.2.2.2.1) else (laws_FnExactLeave.j0 k bt780.2.2.2.2.2.2.2.2 bt807.2.2.2.2.2.2.2.2 true a0_0 a0_1 a0_2 l0_3 a0_4 a0_5 l0_6 a0_7 bt780.1 bt780.2.1 bt780.2.2.1 bt780.2.2.2.1 bt780.2.2.2.2.1 bt780.2.2.2.2.2.1 bt780.2.2.2.2.2.2.1 bt780.2.2.2.2.2.2.2.1 bt794.1 bt794.2.1 bt794.2.2.1 bt794.2.2.2.1 bt794.2.2.2.2.1 bt794.2.2.2.2.2.1 bt794.2.2.2.2.2.2.1 bt794.2.2.2.2.2.2.2 bt807.1 bt807.2.1 bt807.2.2.1 bt807.2.2.2.1 bt807.2.2.2.2.1 bt807.2.2.2.2.2.1 bt807.2.2.2.2.2.2.1 bt807.2.2.2.2.2.2.2.1)))))) = some true := H
  have A7 := aK A70
  clear A70
  replace H := Option.bind_eq_some_iff.mp H
  obtain ⟨⟨t780, t781, t782, t783, t786, t787, t788, t791, t792⟩, A80, H⟩ := H
  replace H : ((laws_toGarden.f k a0_0 a0_1 a0_2 l0_3 a0_4 a0_5 l0_6 a0_7).bind fun bt794 => ((impl_Leave.f k bt794.1 bt794.2.1 bt794.2.2.1 bt794.2.2.2.1 bt794.2.2.2.2.1 bt794.2.2.2.2.2.1 bt794.2.2.2.2.2.2.1 bt794.2.2.2.2.2.2.2).bind fun bt807 => ((laws_eqGarden.f k bt807.1 bt807.2.1 bt807.2.2.1 bt807.2.2.2.1 bt807.2.2.2.2.1 bt807.2.2.2.2.2.1 bt807.2.2.2.2.2.2.1 bt807.2.2.2.2.2.2.2.1 t780 t781 t782 t783 t786 t787 t788 t791).bind fun t821 => (if t821 = true then (laws_FnExactLeave.j0 k t792 bt807.2.2.2.2.2.2.2.2 (bt807.2.2.2.2.2.2.2.2 != t792) a0_0 a0_1 a0_2 l0_3 a0_4 a0_5 l0_6 a0_7 t780 t781 t782 t783 t786 t787 t788 t791 bt794.1 bt794.2.1 bt794.2.2.1 bt794.2.2.2.1 bt794.2.2.2.2.1 bt794.2.2.2.2.2.1 bt794.2.2.2.2.2.2.1 bt794.2.2.2.2.2.2.2 bt807.1 bt807.2.1 bt807.2.2.1 bt807.2.2.2.1 bt807.2.2.2.2.1 bt807.2.2.2.2.2.1 bt807.2.2.2.2.2.2.1 bt807.2.2.2.2.2.2.2.1) else (laws_FnExactLeave.j0 k t792 bt807.2.2.2.2.2.2.2.2 true a0_0 a0_1 a0_2 l0_3 a0_4 a0_5 l0_6 a0_7 t780 t781 t782 t783 t786 t787 t788 t791 bt794.1 bt794.2.1 bt794.2.2.1 bt794.2.2.2.1 bt794.2.2.2.2.1 bt794.2.2.2.2.2.1 bt794.2.2.2.2.2.2.1 bt794.2.2.2.2.2.2.2 bt807.1 bt807.2.1 bt807.2.2.1 bt807.2.2.2.1 bt807.2.2.2.2.1 bt807.2.2.2.2.2.1 bt807.2.2.2.2.2.2.1 bt807.2.2.2.2.2.2.2.1))))) = some true := H
  have A8 := aK A80
  clear A80
  replace H := Option.bind_eq_some_iff.mp H
  obtain ⟨⟨t794, t795, t796, t797, t800, t801, t802, t805⟩, A90, H⟩ := H
  replace H : ((impl_Leave.f k t794 t795 t796 t797 t800 t801 t802 t805).bind fun bt807 => ((laws_eqGarden.f k bt807.1 bt807.2.1 bt807.2.2.1 bt807.2.2.2.1 bt807.2.2.2.2.1 bt807.2.2.2.2.2.1 bt807.2.2.2.2.2.2.1 bt807.2.2.2.2.2.2.2.1 t780 t781 t782 t783 t786 t787 t788 t791).bind fun t821 => (if t821 = true then (laws_FnExactLeave.j0 k t792 bt807.2.2.2.2.2.2.2.2 (bt807.2.2.2.2.2.2.2.2 != t792) a0_0 a0_1 a0_2 l0_3 a0_4 a0_5 l0_6 a0_7 t780 t781 t782 t783 t786 t787 t788 t791 t794 t795 t796 t797 t800 t801 t802 t805 bt807.1 bt807.2.1 bt807.2.2.1 bt807.2.2.2.1 bt807.2.2.2.2.1 bt807.2.2.2.2.2.1 bt807.2.2.2.2.2.2.1 bt807.2.2.2.2.2.2.2.1) else (laws_FnExactLeave.j0 k t792 bt807.2.2.2.2.2.2.2.2 true a0_0 a0_1 a0_2 l0_3 a0_4 a0_5 l0_6 a0_7 t780 t781 t782 t783 t786 t787 t788 t791 t794 t795 t796 t797 t800 t801 t802 t805 bt807.1 bt807.2.1 bt807.2.2.1 bt807.2.2.2.1 bt807.2.2.2.2.1 bt807.2.2.2.2.2.1 bt807.2.2.2.2.2.2.1 bt807.2.2.2.2.2.2.2.1)))) = some true := H
  have A9 := aK A90
  clear A90
  replace H := Option.bind_eq_some_iff.mp H
  obtain ⟨⟨t807, t808, t809, t810, t813, t814, t815, t818, t819⟩, A100, H⟩ := H
  replace H : ((laws_eqGarden.f k t807 t808 t809 t810 t813 t814 t815 t818 t780 t781 t782 t783 t786 t787 t788 t791).bind fun t821 => (if t821 = true then (laws_FnExactLeave.j0 k t792 t819 (t819 != t792) a0_0 a0_1 a0_2 l0_3 a0_4 a0_5 l0_6 a0_7 t780 t781 t782 t783 t786 t787 t788 t791 t794 t795 t796 t797 t800 t801 t802 t805 t807 t808 t809 t810 t813 t814 t815 t818) else (laws_FnExactLeave.j0 k t792 t819 true a0_0 a0_1 a0_2 l0_3 a0_4 a0_5 l0_6 a0_7 t780 t781 t782 t783 t786 t787 t788 t791 t794 t795 t796 t797 t800 t801 t802 t805 t807 t808 t809 t810 t813 t814 t815 t818))) = some true := H
  have A10 := aK A100
  clear A100
  have HC11 := aK H
  clear H
  go_enter Tryz.func4, Tryz.ntmps4
  go_upto_region 8 with (first | ((with_reducible refine gate_dst (N := 1) rfl ?_); refine box_event ?hg (N := 1) ?hd (cs := #[.int .i64 a0_0, .int .i64 a0_1, .int .i64 a0_2, .slice A0_3 l0_3.length c0_3, .int .i64 a0_4, .int .i64 a0_5, .slice A0_6 l0_6.length c0_6, .int .i64 a0_7]) (t := 30) ?hr ?_; (case hd => rfl); (case hg => rfl); (case hr => first | (go_simp; done) | (go_simp; rfl)); intro gb766 hg w12 hbox hb; have BK766 := aK (hbox); have GW766 := aK ((by rw [hg]; exact (bSz (zH0 HB)) : w.heap.size ≤ gb766)); replace HB := aK (bSp (zH0 HB) hb); have GE766 := GW766; clear hb hbox hg; obtain ⟨hcz13_0, hcz13_1, hcz13_2, hcz13_3, hcz13_4, hcz13_5, hcz13_6, hcz13_7, hfz13_0, hfz13_1, hfz13_2, hfz13_3, hfz13_4, hfz13_5, hfz13_6, hfz13_7⟩ := cl8 BK766.out) | ((with_reducible refine gate_callee (f := 15) rfl ?_); refine goesL_ (some 16) rfl rfl Tryz.func15 (by kernel_rfl) rfl #[.agg #[.int .i64 a0_0, .int .i64 a0_1, .int .i64 a0_2, .slice A0_3 l0_3.length c0_3, .int .i64 a0_4, .int .i64 a0_5, .slice A0_6 l0_6.length c0_6, .int .i64 a0_7], .int .i64 1048576] rfl zD ?_; (with_reducible refine (laws_szGarden.calls a0_0 a0_1 a0_2 _ _ l0_3 a0_4 a0_5 _ _ l0_6 a0_7 1048576 t767 _ ?side1 ?side2 ?side3 ?side4 A2.out).mono ?_); (case side1 => exact zC (Kd.C_below HR0_3.out HB.out)); (case side2 => exact HC0_3.out); (case side3 => exact zC (Kd.C_below HR0_6.out HB.out)); (case side4 => exact HC0_6.out); rintro e w14 ⟨rfl, hb⟩; refine ⟨_, rfl, ?_⟩; replace BK766 := zB BK766 hb; replace HB := aK (bSp (zH1 HB GE766) hb); (try clear hb); (try clear hb2); (try clear hk); (try clear hi); obtain ⟨hcz15_0, hcz15_1, hcz15_2, hcz15_3, hcz15_4, hcz15_5, hcz15_6, hcz15_7, hfz15_0, hfz15_1, hfz15_2, hfz15_3, hfz15_4, hfz15_5, hfz15_6, hfz15_7⟩ := cl8 BK766.out) | ((with_reducible refine gate_callee (f := 17) rfl ?_); refine goesL_ (some 21) rfl rfl Tryz.func17 (by kernel_rfl) rfl #[.agg #[.int .i64 a0_0, .int .i64 a0_1, .int .i64 a0_2, .slice A0_3 l0_3.length c0_3, .int .i64 a0_4, .int .i64 a0_5, .slice A0_6 l0_6.length c0_6, .int .i64 a0_7]] rfl zD ?_; (with_reducible refine (laws_toGarden.calls k a0_0 a0_1 a0_2 _ _ l0_3 a0_4 a0_5 _ _ l0_6 a0_7 t768 t769 t770 t771 t774 t775 t776 t779 _ ?side1 ?side2 ?side3 ?side4 A7.out).mono ?_); (case side1 => exact zC (Kd.C_below HR0_3.out HB.out)); (case side2 => exact HC0_3.out); (case side3 => exact zC (Kd.C_below HR0_6.out HB.out)); (case side4 => exact HC0_6.out); rintro e w16 ⟨v772, v777, rfl, ho0, ho1, hb⟩; refine ⟨_, rfl, ?_⟩; have HO773 := aK (Kd.R_lower ho0 (bSz (zH1 HB GE766))); have HO778 := aK (Kd.R_lower ho1 (bSz (zH1 HB GE766))); replace BK766 := zB BK766 hb; replace HB := aK (bSp (zH1 HB GE766) hb); (try clear hb); (try clear hb2); (try clear hk); (try clear hi); (try clear ho0); (try clear ho1); obtain ⟨Ao17, co17, eo17⟩ := Kd.R_slice HO773.out; subst eo17; obtain ⟨Ao18, co18, eo18⟩ := Kd.R_slice HO778.out; subst eo18) | ((with_reducible refine gate_callee (f := 22) rfl ?_); refine goesL_ (some 22) rfl rfl Tryz.func22 (by kernel_rfl) rfl #[.agg #[.int .i64 t768, .int .i64 t769, .int .i64 t770, .slice Ao17 t771.length co17, .int .i64 t774, .int .i64 t775, .slice Ao18 t776.length co18, .int .i64 t779]] rfl zD ?_; (with_reducible refine (spec_Leave.calls k t768 t769 t770 _ _ t771 t774 t775 _ _ t776 t779 t780 t781 t782 t783 t786 t787 t788 t791 t792 _ ?side1 ?side2 ?side3 ?side4 A8.out).mono ?_); (case side1 => exact zC (Kd.R_reads' HO773.out).2.2); (case side2 => exact (Kd.R_reads' HO773.out).2.1); (case side3 => exact zC (Kd.R_reads' HO778.out).2.2); (case side4 => exact (Kd.R_reads' HO778.out).2.1); rintro e w19 ⟨v784, v789, rfl, ho0, ho1, hb⟩; refine ⟨_, rfl, ?_⟩; have HO785 := aK (Kd.R_lower (Kd.R_new' (Kd.R_new' ho0 (Kd.R_lt (zA HO773))) (Kd.R_lt (zA HO778))) (bSz (zH1 HB GE766))); have HO790 := aK (Kd.R_lower (Kd.R_new' (Kd.R_new' ho1 (Kd.R_lt (zA HO773))) (Kd.R_lt (zA HO778))) (bSz (zH1 HB GE766))); replace HO773 := aK (Kd.R_mono (Kd.R_told (Kd.R_told (Kd.R_old (zA HO773) hb) (Kd.R_base ho0)) (Kd.R_base ho1)) (fun _ h_ => h_.1)); replace HO778 := aK (Kd.R_mono (Kd.R_told (Kd.R_told (Kd.R_old (zA HO778) hb) (Kd.R_base ho0)) (Kd.R_base ho1)) (fun _ h_ => h_.1)); replace BK766 := zB BK766 hb; replace HB := aK (bSp (zH1 HB GE766) hb); (try clear hb); (try clear hb2); (try clear hk); (try clear hi); (try clear ho0); (try clear ho1)) | ((with_reducible refine gate_dst (N := 4) rfl ?_); refine box_event ?hg (N := 4) ?hd (cs := #[.int .i64 0, .int .i64 0, .int .i64 0, .slice none 0 0, .int .i64 0, .int .i64 0, .slice none 0 0, .int .i64 0]) (t := 38) ?hr ?_; (case hd => rfl); (case hg => rfl); (case hr => first | (go_simp; done) | (go_simp; rfl)); intro gb793 hg w20 hbox hb; replace HO773 := aK (Kd.R_below (zA HO773) hb); replace HO778 := aK (Kd.R_below (zA HO778) hb); replace HO785 := aK (Kd.R_below (zA HO785) hb); replace HO790 := aK (Kd.R_below (zA HO790) hb); have BK793 := aK (hbox); have GW793 := aK ((by rw [hg]; exact (bSz (zH1 HB GE766)) : w.heap.size ≤ gb793)); replace HB := aK (bSp (zH1 HB GE766) hb); have GE793 := GW793; have NB766_793 := nbl BK766 hg (by intro z_; (with_reducible repeat (first | refine kDN ?_ _ | refine kD ?_ | refine kA ?_ _)); exact z_); replace BK766 := zB BK766 hb; have NB793_766 := nbs NB766_793; clear hb hbox hg; have hnb21 := NB793_766.out; have hnc21 := NB766_793.out; obtain ⟨hcz22_0, hcz22_1, hcz22_2, hcz22_3, hcz22_4, hcz22_5, hcz22_6, hcz22_7, hfz22_0, hfz22_1, hfz22_2, hfz22_3, hfz22_4, hfz22_5, hfz22_6, hfz22_7⟩ := cl8 BK793.out; obtain ⟨Ao23, co23, eo23⟩ := Kd.R_slice HO785.out; subst eo23; obtain ⟨Ao24, co24, eo24⟩ := Kd.R_slice HO790.out; subst eo24; obtain ⟨hcz25_0, hcz25_1, hcz25_2, hcz25_3, hcz25_4, hcz25_5, hcz25_6, hcz25_7, hfz25_0, hfz25_1, hfz25_2, hfz25_3, hfz25_4, hfz25_5, hfz25_6, hfz25_7⟩ := cl8 BK766.out) | ((with_reducible refine gate_callee (f := 17) rfl ?_); refine goesL_ (some 26) rfl rfl Tryz.func17 (by kernel_rfl) rfl #[.agg #[.int .i64 a0_0, .int .i64 a0_1, .int .i64 a0_2, .slice A0_3 l0_3.length c0_3, .int .i64 a0_4, .int .i64 a0_5, .slice A0_6 l0_6.length c0_6, .int .i64 a0_7]] rfl zD ?_; (with_reducible refine (laws_toGarden.calls k a0_0 a0_1 a0_2 _ _ l0_3 a0_4 a0_5 _ _ l0_6 a0_7 t794 t795 t796 t797 t800 t801 t802 t805 _ ?side1 ?side2 ?side3 ?side4 A9.out).mono ?_); (case side1 => exact Kd.C_below HR0_3.out (zH2 HB GE766 GE793)); (case side2 => exact HC0_3.out); (case side3 => exact Kd.C_below HR0_6.out (zH2 HB GE766 GE793)); (case side4 => exact HC0_6.out); rintro e w26 ⟨v798, v803, rfl, ho0, ho1, hb⟩; refine ⟨_, rfl, ?_⟩; have HO799 := aK (Kd.R_lower (Kd.R_new' (Kd.R_new' (Kd.R_new' (Kd.R_new' ho0 (Kd.R_lt (zF8 HO773 BK793))) (Kd.R_lt (zF8 HO778 BK793))) (Kd.R_lt (zF8 HO785 BK793))) (Kd.R_lt (zF8 HO790 BK793))) (bSz (zH2 HB GE766 GE793))); have HO804 := aK (Kd.R_lower (Kd.R_new' (Kd.R_new' (Kd.R_new' (Kd.R_new' ho1 (Kd.R_lt (zF8 HO773 BK793))) (Kd.R_lt (zF8 HO778 BK793))) (Kd.R_lt (zF8 HO785 BK793))) (Kd.R_lt (zF8 HO790 BK793))) (bSz (zH2 HB GE766 GE793))); replace HO773 := aK (Kd.R_mono (Kd.R_told (Kd.R_told (Kd.R_old (zF8 HO773 BK793) hb) (Kd.R_base ho0)) (Kd.R_base ho1)) (fun _ h_ => h_.1)); replace HO778 := aK (Kd.R_mono (Kd.R_told (Kd.R_told (Kd.R_old (zF8 HO778 BK793) hb) (Kd.R_base ho0)) (Kd.R_base ho1)) (fun _ h_ => h_.1)); replace HO785 := aK (Kd.R_mono (Kd.R_told (Kd.R_told (Kd.R_old (zF8 HO785 BK793) hb) (Kd.R_base ho0)) (Kd.R_base ho1)) (fun _ h_ => h_.1)); replace HO790 := aK (Kd.R_mono (Kd.R_told (Kd.R_told (Kd.R_old (zF8 HO790 BK793) hb) (Kd.R_base ho0)) (Kd.R_base ho1)) (fun _ h_ => h_.1)); replace BK766 := zG8 BK766 NB766_793 hb; replace BK793 := aK (blk_below (g := gb793) (o := .cells #[.int .i64 t780, .int .i64 t781, .int .i64 t782, .slice Ao23 t783.length co23, .int .i64 t786, .int .i64 t787, .slice Ao24 t788.length co24, .int .i64 t791] 38 (0, 0)) (by (with_reducible repeat (first | refine kDN ?_ _ | refine kD ?_ | refine kA ?_ _)); refine blk_put (cs := #[.int .i64 t780, .int .i64 t781, .int .i64 t782, .slice Ao23 t783.length co23, .int .i64 t786, .int .i64 t787, .slice Ao24 t788.length co24, .int .i64 0]) ?_ 7 _ rfl; (with_reducible repeat (first | refine kDN ?_ _ | refine kD ?_ | refine kA ?_ _)); refine blk_put (cs := #[.int .i64 t780, .int .i64 t781, .int .i64 t782, .slice Ao23 t783.length co23, .int .i64 t786, .int .i64 t787, .slice none 0 0, .int .i64 0]) ?_ 6 _ rfl; (with_reducible repeat (first | refine kDN ?_ _ | refine kD ?_ | refine kA ?_ _)); refine blk_put (cs := #[.int .i64 t780, .int .i64 t781, .int .i64 t782, .slice Ao23 t783.length co23, .int .i64 t786, .int .i64 0, .slice none 0 0, .int .i64 0]) ?_ 5 _ rfl; (with_reducible repeat (first | refine kDN ?_ _ | refine kD ?_ | refine kA ?_ _)); refine blk_put (cs := #[.int .i64 t780, .int .i64 t781, .int .i64 t782, .slice Ao23 t783.length co23, .int .i64 0, .int .i64 0, .slice none 0 0, .int .i64 0]) ?_ 4 _ rfl; (with_reducible repeat (first | refine kDN ?_ _ | refine kD ?_ | refine kA ?_ _)); refine blk_put (cs := #[.int .i64 t780, .int .i64 t781, .int .i64 t782, .slice none 0 0, .int .i64 0, .int .i64 0, .slice none 0 0, .int .i64 0]) ?_ 3 _ rfl; (with_reducible repeat (first | refine kDN ?_ _ | refine kD ?_ | refine kA ?_ _)); refine blk_put (cs := #[.int .i64 t780, .int .i64 t781, .int .i64 0, .slice none 0 0, .int .i64 0, .int .i64 0, .slice none 0 0, .int .i64 0]) ?_ 2 _ rfl; (with_reducible repeat (first | refine kDN ?_ _ | refine kD ?_ | refine kA ?_ _)); refine blk_put (cs := #[.int .i64 t780, .int .i64 0, .int .i64 0, .slice none 0 0, .int .i64 0, .int .i64 0, .slice none 0 0, .int .i64 0]) ?_ 1 _ rfl; (with_reducible repeat (first | refine kDN ?_ _ | refine kD ?_ | refine kA ?_ _)); refine blk_put (cs := #[.int .i64 0, .int .i64 0, .int .i64 0, .slice none 0 0, .int .i64 0, .int .i64 0, .slice none 0 0, .int .i64 0]) ?_ 0 _ rfl; (with_reducible repeat (first | refine kDN ?_ _ | refine kD ?_ | refine kA ?_ _)); exact BK793.out) hb); replace HB := aK (bSp (zH2 HB GE766 GE793) hb); (try clear hb); (try clear hb2); (try clear hk); (try clear hi); (try clear ho0); (try clear ho1)) | ((with_reducible refine gate_dst (N := 6) rfl ?_); refine box_event ?hg (N := 6) ?hd (cs := #[.int .i64 0, .int .i64 0, .int .i64 0, .slice none 0 0, .int .i64 0, .int .i64 0, .slice none 0 0, .int .i64 0]) (t := 38) ?hr ?_; (case hd => rfl); (case hg => rfl); (case hr => first | (go_simp; done) | (go_simp; rfl)); intro gb806 hg w27 hbox hb; replace HO773 := aK (Kd.R_below (zA HO773) hb); replace HO778 := aK (Kd.R_below (zA HO778) hb); replace HO785 := aK (Kd.R_below (zA HO785) hb); replace HO790 := aK (Kd.R_below (zA HO790) hb); replace HO799 := aK (Kd.R_below (zA HO799) hb); replace HO804 := aK (Kd.R_below (zA HO804) hb); have BK806 := aK (hbox); have GW806 := aK ((by rw [hg]; exact (bSz (zH2 HB GE766 GE793)) : w.heap.size ≤ gb806)); replace HB := aK (bSp (zH2 HB GE766 GE793) hb); have GE806 := GW806; have NB766_806 := nbl BK766 hg (by intro z_; (with_reducible repeat (first | refine kDN ?_ _ | refine kD ?_ | refine kA ?_ _)); exact z_); replace BK766 := zB BK766 hb; have NB806_766 := nbs NB766_806; have NB793_806 := nbl BK793 hg (by intro z_; (with_reducible repeat (first | refine kDN ?_ _ | refine kD ?_ | refine kA ?_ _)); exact z_); replace BK793 := zB BK793 hb; have NB806_793 := nbs NB793_806; clear hb hbox hg; have hnb28 := NB806_766.out; have hnc28 := NB766_806.out; have hnb29 := NB806_793.out; have hnc29 := NB793_806.out; obtain ⟨hcz30_0, hcz30_1, hcz30_2, hcz30_3, hcz30_4, hcz30_5, hcz30_6, hcz30_7, hfz30_0, hfz30_1, hfz30_2, hfz30_3, hfz30_4, hfz30_5, hfz30_6, hfz30_7⟩ := cl8 BK806.out; obtain ⟨Ao31, co31, eo31⟩ := Kd.R_slice HO799.out; subst eo31; obtain ⟨Ao32, co32, eo32⟩ := Kd.R_slice HO804.out; subst eo32) | ((with_reducible refine gate_callee (f := 23) rfl ?_); refine goesL_ (some 29) rfl rfl Tryz.func23 (by kernel_rfl) rfl #[.agg #[.int .i64 t794, .int .i64 t795, .int .i64 t796, .slice Ao31 t797.length co31, .int .i64 t800, .int .i64 t801, .slice Ao32 t802.length co32, .int .i64 t805]] rfl zD ?_; (with_reducible refine (impl_Leave.calls k t794 t795 t796 _ _ t797 t800 t801 _ _ t802 t805 t807 t808 t809 t810 t813 t814 t815 t818 t819 _ ?side1 ?side2 ?side3 ?side4 A10.out).mono ?_); (case side1 => refine (Kd.R_reads' (e := 3) (base := w.heap.size) (ok := fun k_ => ((((some k_ ≠ (.slice Ao32 t802.length co32 : Value).ownBlock ∧ some k_ ≠ (.slice Ao17 t771.length co17 : Value).ownBlock) ∧ some k_ ≠ (.slice Ao18 t776.length co18 : Value).ownBlock) ∧ some k_ ≠ (.slice Ao23 t783.length co23 : Value).ownBlock) ∧ some k_ ≠ (.slice Ao24 t788.length co24 : Value).ownBlock)) (n := t797.length) (c := co31) ?_).2.2; exact (zF8 HO799 BK806)); (case side2 => exact (Kd.R_reads' HO799.out).2.1); (case side3 => refine (Kd.R_reads' (e := 3) (base := w.heap.size) (ok := fun k_ => ((((some k_ ≠ (.slice Ao31 t797.length co31 : Value).ownBlock ∧ some k_ ≠ (.slice Ao17 t771.length co17 : Value).ownBlock) ∧ some k_ ≠ (.slice Ao18 t776.length co18 : Value).ownBlock) ∧ some k_ ≠ (.slice Ao23 t783.length co23 : Value).ownBlock) ∧ some k_ ≠ (.slice Ao24 t788.length co24 : Value).ownBlock)) (n := t802.length) (c := co32) ?_).2.2; exact (zF8 HO804 BK806)); (case side4 => exact (Kd.R_reads' HO804.out).2.1); rintro e w33 ⟨v811, v816, rfl, ho0, ho1, hb⟩; refine ⟨_, rfl, ?_⟩; have HO812 := aK (Kd.R_lower (Kd.R_new' (Kd.R_new' (Kd.R_new' (Kd.R_new' (Kd.R_new' (Kd.R_new' ho0 (Kd.R_lt (zF8 HO773 BK806))) (Kd.R_lt (zF8 HO778 BK806))) (Kd.R_lt (zF8 HO785 BK806))) (Kd.R_lt (zF8 HO790 BK806))) (Kd.R_lt (zF8 HO799 BK806))) (Kd.R_lt (zF8 HO804 BK806))) (bSz (zH3 HB GE766 GE793 GE806))); have HO817 := aK (Kd.R_lower (Kd.R_new' (Kd.R_new' (Kd.R_new' (Kd.R_new' (Kd.R_new' (Kd.R_new' ho1 (Kd.R_lt (zF8 HO773 BK806))) (Kd.R_lt (zF8 HO778 BK806))) (Kd.R_lt (zF8 HO785 BK806))) (Kd.R_lt (zF8 HO790 BK806))) (Kd.R_lt (zF8 HO799 BK806))) (Kd.R_lt (zF8 HO804 BK806))) (bSz (zH3 HB GE766 GE793 GE806))); replace HO773 := aK (Kd.R_mono (Kd.R_told (Kd.R_told (Kd.R_old (zF8 HO773 BK806) hb) (Kd.R_base ho0)) (Kd.R_base ho1)) (fun _ h_ => h_.1)); replace HO778 := aK (Kd.R_mono (Kd.R_told (Kd.R_told (Kd.R_old (zF8 HO778 BK806) hb) (Kd.R_base ho0)) (Kd.R_base ho1)) (fun _ h_ => h_.1)); replace HO785 := aK (Kd.R_mono (Kd.R_told (Kd.R_told (Kd.R_old (zF8 HO785 BK806) hb) (Kd.R_base ho0)) (Kd.R_base ho1)) (fun _ h_ => h_.1)); replace HO790 := aK (Kd.R_mono (Kd.R_told (Kd.R_told (Kd.R_old (zF8 HO790 BK806) hb) (Kd.R_base ho0)) (Kd.R_base ho1)) (fun _ h_ => h_.1)); replace HO799 := aK (Kd.R_mono (Kd.R_told (Kd.R_told (Kd.R_old (zF8 HO799 BK806) hb) (Kd.R_base ho0)) (Kd.R_base ho1)) (fun _ h_ => h_.1)); replace HO804 := aK (Kd.R_mono (Kd.R_told (Kd.R_told (Kd.R_old (zF8 HO804 BK806) hb) (Kd.R_base ho0)) (Kd.R_base ho1)) (fun _ h_ => h_.1)); replace BK766 := zG8 BK766 NB766_806 hb; replace BK793 := zG8 BK793 NB793_806 hb; replace BK806 := aK (blk_below (g := gb806) (o := .cells #[.int .i64 t794, .int .i64 t795, .int .i64 t796, .slice Ao31 t797.length co31, .int .i64 t800, .int .i64 t801, .slice Ao32 t802.length co32, .int .i64 t805] 38 (0, 0)) (by (with_reducible repeat (first | refine kDN ?_ _ | refine kD ?_ | refine kA ?_ _)); refine blk_put (cs := #[.int .i64 t794, .int .i64 t795, .int .i64 t796, .slice Ao31 t797.length co31, .int .i64 t800, .int .i64 t801, .slice Ao32 t802.length co32, .int .i64 0]) ?_ 7 _ rfl; (with_reducible repeat (first | refine kDN ?_ _ | refine kD ?_ | refine kA ?_ _)); refine blk_put (cs := #[.int .i64 t794, .int .i64 t795, .int .i64 t796, .slice Ao31 t797.length co31, .int .i64 t800, .int .i64 t801, .slice none 0 0, .int .i64 0]) ?_ 6 _ rfl; (with_reducible repeat (first | refine kDN ?_ _ | refine kD ?_ | refine kA ?_ _)); refine blk_put (cs := #[.int .i64 t794, .int .i64 t795, .int .i64 t796, .slice Ao31 t797.length co31, .int .i64 t800, .int .i64 0, .slice none 0 0, .int .i64 0]) ?_ 5 _ rfl; (with_reducible repeat (first | refine kDN ?_ _ | refine kD ?_ | refine kA ?_ _)); refine blk_put (cs := #[.int .i64 t794, .int .i64 t795, .int .i64 t796, .slice Ao31 t797.length co31, .int .i64 0, .int .i64 0, .slice none 0 0, .int .i64 0]) ?_ 4 _ rfl; (with_reducible repeat (first | refine kDN ?_ _ | refine kD ?_ | refine kA ?_ _)); refine blk_put (cs := #[.int .i64 t794, .int .i64 t795, .int .i64 t796, .slice none 0 0, .int .i64 0, .int .i64 0, .slice none 0 0, .int .i64 0]) ?_ 3 _ rfl; (with_reducible repeat (first | refine kDN ?_ _ | refine kD ?_ | refine kA ?_ _)); refine blk_put (cs := #[.int .i64 t794, .int .i64 t795, .int .i64 0, .slice none 0 0, .int .i64 0, .int .i64 0, .slice none 0 0, .int .i64 0]) ?_ 2 _ rfl; (with_reducible repeat (first | refine kDN ?_ _ | refine kD ?_ | refine kA ?_ _)); refine blk_put (cs := #[.int .i64 t794, .int .i64 0, .int .i64 0, .slice none 0 0, .int .i64 0, .int .i64 0, .slice none 0 0, .int .i64 0]) ?_ 1 _ rfl; (with_reducible repeat (first | refine kDN ?_ _ | refine kD ?_ | refine kA ?_ _)); refine blk_put (cs := #[.int .i64 0, .int .i64 0, .int .i64 0, .slice none 0 0, .int .i64 0, .int .i64 0, .slice none 0 0, .int .i64 0]) ?_ 0 _ rfl; (with_reducible repeat (first | refine kDN ?_ _ | refine kD ?_ | refine kA ?_ _)); exact BK806.out) hb); replace HB := aK (bSp (zH3 HB GE766 GE793 GE806) hb); (try clear hb); (try clear hb2); (try clear hk); (try clear hi); (try clear ho0); (try clear ho1)) | ((with_reducible refine gate_dst (N := 7) rfl ?_); refine box_event ?hg (N := 7) ?hd (cs := #[.int .i64 0, .int .i64 0, .int .i64 0, .slice none 0 0, .int .i64 0, .int .i64 0, .slice none 0 0, .int .i64 0]) (t := 38) ?hr ?_; (case hd => rfl); (case hg => rfl); (case hr => first | (go_simp; done) | (go_simp; rfl)); intro gb820 hg w34 hbox hb; replace HO773 := aK (Kd.R_below (zA HO773) hb); replace HO778 := aK (Kd.R_below (zA HO778) hb); replace HO785 := aK (Kd.R_below (zA HO785) hb); replace HO790 := aK (Kd.R_below (zA HO790) hb); replace HO799 := aK (Kd.R_below (zA HO799) hb); replace HO804 := aK (Kd.R_below (zA HO804) hb); replace HO812 := aK (Kd.R_below (zA HO812) hb); replace HO817 := aK (Kd.R_below (zA HO817) hb); have BK820 := aK (hbox); have GW820 := aK ((by rw [hg]; exact (bSz (zH3 HB GE766 GE793 GE806)) : w.heap.size ≤ gb820)); replace HB := aK (bSp (zH3 HB GE766 GE793 GE806) hb); have GE820 := GW820; have NB766_820 := nbl BK766 hg (by intro z_; (with_reducible repeat (first | refine kDN ?_ _ | refine kD ?_ | refine kA ?_ _)); exact z_); replace BK766 := zB BK766 hb; have NB820_766 := nbs NB766_820; have NB793_820 := nbl BK793 hg (by intro z_; (with_reducible repeat (first | refine kDN ?_ _ | refine kD ?_ | refine kA ?_ _)); exact z_); replace BK793 := zB BK793 hb; have NB820_793 := nbs NB793_820; have NB806_820 := nbl BK806 hg (by intro z_; (with_reducible repeat (first | refine kDN ?_ _ | refine kD ?_ | refine kA ?_ _)); exact z_); replace BK806 := zB BK806 hb; have NB820_806 := nbs NB806_820; clear hb hbox hg; have hnb35 := NB820_766.out; have hnc35 := NB766_820.out; have hnb36 := NB820_793.out; have hnc36 := NB793_820.out; have hnb37 := NB820_806.out; have hnc37 := NB806_820.out; obtain ⟨hcz38_0, hcz38_1, hcz38_2, hcz38_3, hcz38_4, hcz38_5, hcz38_6, hcz38_7, hfz38_0, hfz38_1, hfz38_2, hfz38_3, hfz38_4, hfz38_5, hfz38_6, hfz38_7⟩ := cl8 BK820.out; obtain ⟨Ao39, co39, eo39⟩ := Kd.R_slice HO812.out; subst eo39; obtain ⟨Ao40, co40, eo40⟩ := Kd.R_slice HO817.out; subst eo40))
  (try simp only [Act.put, sTA, sZ, sS])
  go_cut [40] (fun v40 wc => ∃ (kq : Nat) (x40_10 : Bool), v40 = .bool x40_10 ∧ Aside0 (laws_FnExactLeave.j0 kq t792 t819 x40_10 a0_0 a0_1 a0_2 l0_3 a0_4 a0_5 l0_6 a0_7 t780 t781 t782 t783 t786 t787 t788 t791 t794 t795 t796 t797 t800 t801 t802 t805 t807 t808 t809 t810 t813 t814 t815 t818 = some true) ∧ Aside0 (kq ≤ k) ∧ Aside0 (Kd.R (Kd.int .i64) 3 wc w.heap.size (fun k_ => some k_ ≠ ((.slice Ao24 t788.length co24) : Value).ownBlock ∧ some k_ ≠ ((.slice Ao31 t797.length co31) : Value).ownBlock ∧ some k_ ≠ ((.slice Ao32 t802.length co32) : Value).ownBlock ∧ some k_ ≠ ((.slice Ao39 t810.length co39) : Value).ownBlock ∧ some k_ ≠ ((.slice Ao40 t815.length co40) : Value).ownBlock) (.slice Ao23 t783.length co23) t783) ∧ Aside0 (Kd.R (Kd.int .i64) 3 wc w.heap.size (fun k_ => some k_ ≠ ((.slice Ao23 t783.length co23) : Value).ownBlock ∧ some k_ ≠ ((.slice Ao31 t797.length co31) : Value).ownBlock ∧ some k_ ≠ ((.slice Ao32 t802.length co32) : Value).ownBlock ∧ some k_ ≠ ((.slice Ao39 t810.length co39) : Value).ownBlock ∧ some k_ ≠ ((.slice Ao40 t815.length co40) : Value).ownBlock) (.slice Ao24 t788.length co24) t788) ∧ Aside0 (Kd.R (Kd.int .i64) 3 wc w.heap.size (fun k_ => some k_ ≠ ((.slice Ao23 t783.length co23) : Value).ownBlock ∧ some k_ ≠ ((.slice Ao24 t788.length co24) : Value).ownBlock ∧ some k_ ≠ ((.slice Ao32 t802.length co32) : Value).ownBlock ∧ some k_ ≠ ((.slice Ao39 t810.length co39) : Value).ownBlock ∧ some k_ ≠ ((.slice Ao40 t815.length co40) : Value).ownBlock) (.slice Ao31 t797.length co31) t797) ∧ Aside0 (Kd.R (Kd.int .i64) 3 wc w.heap.size (fun k_ => some k_ ≠ ((.slice Ao23 t783.length co23) : Value).ownBlock ∧ some k_ ≠ ((.slice Ao24 t788.length co24) : Value).ownBlock ∧ some k_ ≠ ((.slice Ao31 t797.length co31) : Value).ownBlock ∧ some k_ ≠ ((.slice Ao39 t810.length co39) : Value).ownBlock ∧ some k_ ≠ ((.slice Ao40 t815.length co40) : Value).ownBlock) (.slice Ao32 t802.length co32) t802) ∧ Aside0 (Kd.R (Kd.int .i64) 3 wc w.heap.size (fun k_ => some k_ ≠ ((.slice Ao23 t783.length co23) : Value).ownBlock ∧ some k_ ≠ ((.slice Ao24 t788.length co24) : Value).ownBlock ∧ some k_ ≠ ((.slice Ao31 t797.length co31) : Value).ownBlock ∧ some k_ ≠ ((.slice Ao32 t802.length co32) : Value).ownBlock ∧ some k_ ≠ ((.slice Ao40 t815.length co40) : Value).ownBlock) (.slice Ao39 t810.length co39) t810) ∧ Aside0 (Kd.R (Kd.int .i64) 3 wc w.heap.size (fun k_ => some k_ ≠ ((.slice Ao23 t783.length co23) : Value).ownBlock ∧ some k_ ≠ ((.slice Ao24 t788.length co24) : Value).ownBlock ∧ some k_ ≠ ((.slice Ao31 t797.length co31) : Value).ownBlock ∧ some k_ ≠ ((.slice Ao32 t802.length co32) : Value).ownBlock ∧ some k_ ≠ ((.slice Ao39 t810.length co39) : Value).ownBlock) (.slice Ao40 t815.length co40) t815) ∧ Aside0 (wc.heap[gb766]? = some (.cells #[.int .i64 a0_0, .int .i64 a0_1, .int .i64 a0_2, (.slice A0_3 l0_3.length c0_3), .int .i64 a0_4, .int .i64 a0_5, (.slice A0_6 l0_6.length c0_6), .int .i64 a0_7] 30 (0, 0))) ∧ Aside0 (wc.heap[gb793]? = some (.cells #[.int .i64 t780, .int .i64 t781, .int .i64 t782, (.slice Ao23 t783.length co23), .int .i64 t786, .int .i64 t787, (.slice Ao24 t788.length co24), .int .i64 t791] 38 (0, 0))) ∧ Aside0 (wc.heap[gb806]? = some (.cells #[.int .i64 t794, .int .i64 t795, .int .i64 t796, (.slice Ao31 t797.length co31), .int .i64 t800, .int .i64 t801, (.slice Ao32 t802.length co32), .int .i64 t805] 38 (0, 0))) ∧ Aside0 (wc.heap[gb820]? = some (.cells #[.int .i64 t807, .int .i64 t808, .int .i64 t809, (.slice Ao39 t810.length co39), .int .i64 t813, .int .i64 t814, (.slice Ao40 t815.length co40), .int .i64 t818] 38 (0, 0))) ∧ Aside0 (Below w.heap.size w wc))
  case first =>
   have H := HC11.out
   clear HC11
   replace H := Option.bind_eq_some_iff.mp H
   obtain ⟨t821, A410, H⟩ := H
   replace H : (if t821 = true then (laws_FnExactLeave.j0 k t792 t819 (t819 != t792) a0_0 a0_1 a0_2 l0_3 a0_4 a0_5 l0_6 a0_7 t780 t781 t782 t783 t786 t787 t788 t791 t794 t795 t796 t797 t800 t801 t802 t805 t807 t808 t809 t810 t813 t814 t815 t818) else (laws_FnExactLeave.j0 k t792 t819 true a0_0 a0_1 a0_2 l0_3 a0_4 a0_5 l0_6 a0_7 t780 t781 t782 t783 t786 t787 t788 t791 t794 t795 t796 t797 t800 t801 t802 t805 t807 t808 t809 t810 t813 t814 t815 t818)) = some true := H
   have A41 := aK A410
   clear A410
   by_cases c42 : t821 = true
   ·subst c42
    have H1 : (laws_FnExactLeave.j0 k t792 t819 (t819 != t792) a0_0 a0_1 a0_2 l0_3 a0_4 a0_5 l0_6 a0_7 t780 t781 t782 t783 t786 t787 t788 t791 t794 t795 t796 t797 t800 t801 t802 t805 t807 t808 t809 t810 t813 t814 t815 t818) = some true := by first | (rw [if_pos rfl] at H; exact H) | rfl
    clear H
    have H := H1
    clear H1
    have H' := aK H
    clear H
    have hnb43 := NB820_766.out
    have hnc43 := NB766_820.out
    have hnb44 := NB820_793.out
    have hnc44 := NB793_820.out
    have hnb45 := NB820_806.out
    have hnc45 := NB806_820.out
    obtain ⟨hcz46_0, hcz46_1, hcz46_2, hcz46_3, hcz46_4, hcz46_5, hcz46_6, hcz46_7, hfz46_0, hfz46_1, hfz46_2, hfz46_3, hfz46_4, hfz46_5, hfz46_6, hfz46_7⟩ := cl8 BK820.out
    have hnb47 := NB793_766.out
    have hnc47 := NB766_793.out
    have hnb48 := NB793_806.out
    have hnc48 := NB806_793.out
    obtain ⟨hcz49_0, hcz49_1, hcz49_2, hcz49_3, hcz49_4, hcz49_5, hcz49_6, hcz49_7, hfz49_0, hfz49_1, hfz49_2, hfz49_3, hfz49_4, hfz49_5, hfz49_6, hfz49_7⟩ := cl8 BK793.out
    go_wp2_with (first | ((with_reducible refine gate_callee (f := 19) rfl ?_); refine goesL_ (some 34) rfl rfl Tryz.func19 (by kernel_rfl) rfl #[.agg #[.int .i64 t807, .int .i64 t808, .int .i64 t809, .slice Ao39 t810.length co39, .int .i64 t813, .int .i64 t814, .slice Ao40 t815.length co40, .int .i64 t818], .agg #[.int .i64 t780, .int .i64 t781, .int .i64 t782, .slice Ao23 t783.length co23, .int .i64 t786, .int .i64 t787, .slice Ao24 t788.length co24, .int .i64 t791]] rfl zD ?_; (with_reducible refine (laws_eqGarden.calls k t807 t808 t809 _ _ t810 t813 t814 _ _ t815 t818 t780 t781 t782 _ _ t783 t786 t787 _ _ t788 t791 true _ ?side1 ?side2 ?side3 ?side4 ?side5 ?side6 ?side7 ?side8 A41.out).mono ?_); (case side1 => refine (Kd.R_reads' (e := 3) (base := w.heap.size) (ok := fun k_ => ((((((some k_ ≠ (.slice Ao40 t815.length co40 : Value).ownBlock ∧ some k_ ≠ (.slice Ao17 t771.length co17 : Value).ownBlock) ∧ some k_ ≠ (.slice Ao18 t776.length co18 : Value).ownBlock) ∧ some k_ ≠ (.slice Ao23 t783.length co23 : Value).ownBlock) ∧ some k_ ≠ (.slice Ao24 t788.length co24 : Value).ownBlock) ∧ some k_ ≠ (.slice Ao31 t797.length co31 : Value).ownBlock) ∧ some k_ ≠ (.slice Ao32 t802.length co32 : Value).ownBlock)) (n := t810.length) (c := co39) ?_).2.2; exact (zF8 HO812 BK820)); (case side2 => exact (Kd.R_reads' HO812.out).2.1); (case side3 => refine (Kd.R_reads' (e := 3) (base := w.heap.size) (ok := fun k_ => ((((((some k_ ≠ (.slice Ao39 t810.length co39 : Value).ownBlock ∧ some k_ ≠ (.slice Ao17 t771.length co17 : Value).ownBlock) ∧ some k_ ≠ (.slice Ao18 t776.length co18 : Value).ownBlock) ∧ some k_ ≠ (.slice Ao23 t783.length co23 : Value).ownBlock) ∧ some k_ ≠ (.slice Ao24 t788.length co24 : Value).ownBlock) ∧ some k_ ≠ (.slice Ao31 t797.length co31 : Value).ownBlock) ∧ some k_ ≠ (.slice Ao32 t802.length co32 : Value).ownBlock)) (n := t815.length) (c := co40) ?_).2.2; exact (zF8 HO817 BK820)); (case side4 => exact (Kd.R_reads' HO817.out).2.1); (case side5 => refine (Kd.R_reads' (e := 3) (base := w.heap.size) (ok := fun k_ => ((((((some k_ ≠ (.slice Ao24 t788.length co24 : Value).ownBlock ∧ some k_ ≠ (.slice Ao17 t771.length co17 : Value).ownBlock) ∧ some k_ ≠ (.slice Ao18 t776.length co18 : Value).ownBlock) ∧ some k_ ≠ (.slice Ao31 t797.length co31 : Value).ownBlock) ∧ some k_ ≠ (.slice Ao32 t802.length co32 : Value).ownBlock) ∧ some k_ ≠ (.slice Ao39 t810.length co39 : Value).ownBlock) ∧ some k_ ≠ (.slice Ao40 t815.length co40 : Value).ownBlock)) (n := t783.length) (c := co23) ?_).2.2; exact (zF8 HO785 BK820)); (case side6 => exact (Kd.R_reads' HO785.out).2.1); (case side7 => refine (Kd.R_reads' (e := 3) (base := w.heap.size) (ok := fun k_ => ((((((some k_ ≠ (.slice Ao23 t783.length co23 : Value).ownBlock ∧ some k_ ≠ (.slice Ao17 t771.length co17 : Value).ownBlock) ∧ some k_ ≠ (.slice Ao18 t776.length co18 : Value).ownBlock) ∧ some k_ ≠ (.slice Ao31 t797.length co31 : Value).ownBlock) ∧ some k_ ≠ (.slice Ao32 t802.length co32 : Value).ownBlock) ∧ some k_ ≠ (.slice Ao39 t810.length co39 : Value).ownBlock) ∧ some k_ ≠ (.slice Ao40 t815.length co40 : Value).ownBlock)) (n := t788.length) (c := co24) ?_).2.2; exact (zF8 HO790 BK820)); (case side8 => exact (Kd.R_reads' HO790.out).2.1); rintro e w50 ⟨rfl, hb⟩; refine ⟨_, rfl, ?_⟩; replace HO773 := aK (Kd.R_below (zF8 HO773 BK820) hb); replace HO778 := aK (Kd.R_below (zF8 HO778 BK820) hb); replace HO785 := aK (Kd.R_below (zF8 HO785 BK820) hb); replace HO790 := aK (Kd.R_below (zF8 HO790 BK820) hb); replace HO799 := aK (Kd.R_below (zF8 HO799 BK820) hb); replace HO804 := aK (Kd.R_below (zF8 HO804 BK820) hb); replace HO812 := aK (Kd.R_below (zF8 HO812 BK820) hb); replace HO817 := aK (Kd.R_below (zF8 HO817 BK820) hb); replace BK766 := zG8 BK766 NB766_820 hb; replace BK793 := zG8 BK793 NB793_820 hb; replace BK806 := zG8 BK806 NB806_820 hb; replace BK820 := aK (blk_below (g := gb820) (o := .cells #[.int .i64 t807, .int .i64 t808, .int .i64 t809, .slice Ao39 t810.length co39, .int .i64 t813, .int .i64 t814, .slice Ao40 t815.length co40, .int .i64 t818] 38 (0, 0)) (by (with_reducible repeat (first | refine kDN ?_ _ | refine kD ?_ | refine kA ?_ _)); refine blk_put (cs := #[.int .i64 t807, .int .i64 t808, .int .i64 t809, .slice Ao39 t810.length co39, .int .i64 t813, .int .i64 t814, .slice Ao40 t815.length co40, .int .i64 0]) ?_ 7 _ rfl; (with_reducible repeat (first | refine kDN ?_ _ | refine kD ?_ | refine kA ?_ _)); refine blk_put (cs := #[.int .i64 t807, .int .i64 t808, .int .i64 t809, .slice Ao39 t810.length co39, .int .i64 t813, .int .i64 t814, .slice none 0 0, .int .i64 0]) ?_ 6 _ rfl; (with_reducible repeat (first | refine kDN ?_ _ | refine kD ?_ | refine kA ?_ _)); refine blk_put (cs := #[.int .i64 t807, .int .i64 t808, .int .i64 t809, .slice Ao39 t810.length co39, .int .i64 t813, .int .i64 0, .slice none 0 0, .int .i64 0]) ?_ 5 _ rfl; (with_reducible repeat (first | refine kDN ?_ _ | refine kD ?_ | refine kA ?_ _)); refine blk_put (cs := #[.int .i64 t807, .int .i64 t808, .int .i64 t809, .slice Ao39 t810.length co39, .int .i64 0, .int .i64 0, .slice none 0 0, .int .i64 0]) ?_ 4 _ rfl; (with_reducible repeat (first | refine kDN ?_ _ | refine kD ?_ | refine kA ?_ _)); refine blk_put (cs := #[.int .i64 t807, .int .i64 t808, .int .i64 t809, .slice none 0 0, .int .i64 0, .int .i64 0, .slice none 0 0, .int .i64 0]) ?_ 3 _ rfl; (with_reducible repeat (first | refine kDN ?_ _ | refine kD ?_ | refine kA ?_ _)); refine blk_put (cs := #[.int .i64 t807, .int .i64 t808, .int .i64 0, .slice none 0 0, .int .i64 0, .int .i64 0, .slice none 0 0, .int .i64 0]) ?_ 2 _ rfl; (with_reducible repeat (first | refine kDN ?_ _ | refine kD ?_ | refine kA ?_ _)); refine blk_put (cs := #[.int .i64 t807, .int .i64 0, .int .i64 0, .slice none 0 0, .int .i64 0, .int .i64 0, .slice none 0 0, .int .i64 0]) ?_ 1 _ rfl; (with_reducible repeat (first | refine kDN ?_ _ | refine kD ?_ | refine kA ?_ _)); refine blk_put (cs := #[.int .i64 0, .int .i64 0, .int .i64 0, .slice none 0 0, .int .i64 0, .int .i64 0, .slice none 0 0, .int .i64 0]) ?_ 0 _ rfl; (with_reducible repeat (first | refine kDN ?_ _ | refine kD ?_ | refine kA ?_ _)); exact BK820.out) hb); replace HB := aK (bSp (zH4 HB GE766 GE793 GE806 GE820) hb); (try clear hb); (try clear hb2); (try clear hk); (try clear hi)))
    go_meet
    case rel => exact ⟨_, ((t819 != t792)), (by first | rfl | (simp; done) | (simp [*]; done)), H', ⟨by first | omega | exact Nat.le_refl _⟩, ⟨by (with_reducible repeat (first | apply Kd.R_alloc | apply Kd.R_drewN | apply Kd.R_drew)); exact Kd.R_mono HO785.out (fun _ hk => ⟨hk.1.1.1.1.1.1, ⟨hk.1.1.1.2, ⟨hk.1.1.2, ⟨hk.1.2, hk.2⟩⟩⟩⟩)⟩, ⟨by (with_reducible repeat (first | apply Kd.R_alloc | apply Kd.R_drewN | apply Kd.R_drew)); exact Kd.R_mono HO790.out (fun _ hk => ⟨hk.1.1.1.1.1.1, ⟨hk.1.1.1.2, ⟨hk.1.1.2, ⟨hk.1.2, hk.2⟩⟩⟩⟩)⟩, ⟨by (with_reducible repeat (first | apply Kd.R_alloc | apply Kd.R_drewN | apply Kd.R_drew)); exact Kd.R_mono HO799.out (fun _ hk => ⟨hk.1.1.1.2, ⟨hk.1.1.2, ⟨hk.1.1.1.1.1.1, ⟨hk.1.2, hk.2⟩⟩⟩⟩)⟩, ⟨by (with_reducible repeat (first | apply Kd.R_alloc | apply Kd.R_drewN | apply Kd.R_drew)); exact Kd.R_mono HO804.out (fun _ hk => ⟨hk.1.1.1.2, ⟨hk.1.1.2, ⟨hk.1.1.1.1.1.1, ⟨hk.1.2, hk.2⟩⟩⟩⟩)⟩, ⟨by (with_reducible repeat (first | apply Kd.R_alloc | apply Kd.R_drewN | apply Kd.R_drew)); exact Kd.R_mono HO812.out (fun _ hk => ⟨hk.1.1.1.2, ⟨hk.1.1.2, ⟨hk.1.2, ⟨hk.2, hk.1.1.1.1.1.1⟩⟩⟩⟩)⟩, ⟨by (with_reducible repeat (first | apply Kd.R_alloc | apply Kd.R_drewN | apply Kd.R_drew)); exact Kd.R_mono HO817.out (fun _ hk => ⟨hk.1.1.1.2, ⟨hk.1.1.2, ⟨hk.1.2, ⟨hk.2, hk.1.1.1.1.1.1⟩⟩⟩⟩)⟩, ⟨zK BK766⟩, ⟨zK BK793⟩, ⟨zK BK806⟩, ⟨zK BK820⟩, ⟨zH4 HB GE766 GE793 GE806 GE820⟩⟩
   ·replace c42 := Bool.eq_false_iff.mpr c42
    subst c42
    have H1 : (laws_FnExactLeave.j0 k t792 t819 true a0_0 a0_1 a0_2 l0_3 a0_4 a0_5 l0_6 a0_7 t780 t781 t782 t783 t786 t787 t788 t791 t794 t795 t796 t797 t800 t801 t802 t805 t807 t808 t809 t810 t813 t814 t815 t818) = some true := by rw [if_neg (show ¬ (false = true) by decide)] at H; exact H
    clear H
    have H := H1
    clear H1
    have H' := aK H
    clear H
    have hnb51 := NB820_766.out
    have hnc51 := NB766_820.out
    have hnb52 := NB820_793.out
    have hnc52 := NB793_820.out
    have hnb53 := NB820_806.out
    have hnc53 := NB806_820.out
    obtain ⟨hcz54_0, hcz54_1, hcz54_2, hcz54_3, hcz54_4, hcz54_5, hcz54_6, hcz54_7, hfz54_0, hfz54_1, hfz54_2, hfz54_3, hfz54_4, hfz54_5, hfz54_6, hfz54_7⟩ := cl8 BK820.out
    have hnb55 := NB793_766.out
    have hnc55 := NB766_793.out
    have hnb56 := NB793_806.out
    have hnc56 := NB806_793.out
    obtain ⟨hcz57_0, hcz57_1, hcz57_2, hcz57_3, hcz57_4, hcz57_5, hcz57_6, hcz57_7, hfz57_0, hfz57_1, hfz57_2, hfz57_3, hfz57_4, hfz57_5, hfz57_6, hfz57_7⟩ := cl8 BK793.out
    go_wp2_with (first | ((with_reducible refine gate_callee (f := 19) rfl ?_); refine goesL_ (some 34) rfl rfl Tryz.func19 (by kernel_rfl) rfl #[.agg #[.int .i64 t807, .int .i64 t808, .int .i64 t809, .slice Ao39 t810.length co39, .int .i64 t813, .int .i64 t814, .slice Ao40 t815.length co40, .int .i64 t818], .agg #[.int .i64 t780, .int .i64 t781, .int .i64 t782, .slice Ao23 t783.length co23, .int .i64 t786, .int .i64 t787, .slice Ao24 t788.length co24, .int .i64 t791]] rfl zD ?_; (with_reducible refine (laws_eqGarden.calls k t807 t808 t809 _ _ t810 t813 t814 _ _ t815 t818 t780 t781 t782 _ _ t783 t786 t787 _ _ t788 t791 false _ ?side1 ?side2 ?side3 ?side4 ?side5 ?side6 ?side7 ?side8 A41.out).mono ?_); (case side1 => refine (Kd.R_reads' (e := 3) (base := w.heap.size) (ok := fun k_ => ((((((some k_ ≠ (.slice Ao40 t815.length co40 : Value).ownBlock ∧ some k_ ≠ (.slice Ao17 t771.length co17 : Value).ownBlock) ∧ some k_ ≠ (.slice Ao18 t776.length co18 : Value).ownBlock) ∧ some k_ ≠ (.slice Ao23 t783.length co23 : Value).ownBlock) ∧ some k_ ≠ (.slice Ao24 t788.length co24 : Value).ownBlock) ∧ some k_ ≠ (.slice Ao31 t797.length co31 : Value).ownBlock) ∧ some k_ ≠ (.slice Ao32 t802.length co32 : Value).ownBlock)) (n := t810.length) (c := co39) ?_).2.2; exact (zF8 HO812 BK820)); (case side2 => exact (Kd.R_reads' HO812.out).2.1); (case side3 => refine (Kd.R_reads' (e := 3) (base := w.heap.size) (ok := fun k_ => ((((((some k_ ≠ (.slice Ao39 t810.length co39 : Value).ownBlock ∧ some k_ ≠ (.slice Ao17 t771.length co17 : Value).ownBlock) ∧ some k_ ≠ (.slice Ao18 t776.length co18 : Value).ownBlock) ∧ some k_ ≠ (.slice Ao23 t783.length co23 : Value).ownBlock) ∧ some k_ ≠ (.slice Ao24 t788.length co24 : Value).ownBlock) ∧ some k_ ≠ (.slice Ao31 t797.length co31 : Value).ownBlock) ∧ some k_ ≠ (.slice Ao32 t802.length co32 : Value).ownBlock)) (n := t815.length) (c := co40) ?_).2.2; exact (zF8 HO817 BK820)); (case side4 => exact (Kd.R_reads' HO817.out).2.1); (case side5 => refine (Kd.R_reads' (e := 3) (base := w.heap.size) (ok := fun k_ => ((((((some k_ ≠ (.slice Ao24 t788.length co24 : Value).ownBlock ∧ some k_ ≠ (.slice Ao17 t771.length co17 : Value).ownBlock) ∧ some k_ ≠ (.slice Ao18 t776.length co18 : Value).ownBlock) ∧ some k_ ≠ (.slice Ao31 t797.length co31 : Value).ownBlock) ∧ some k_ ≠ (.slice Ao32 t802.length co32 : Value).ownBlock) ∧ some k_ ≠ (.slice Ao39 t810.length co39 : Value).ownBlock) ∧ some k_ ≠ (.slice Ao40 t815.length co40 : Value).ownBlock)) (n := t783.length) (c := co23) ?_).2.2; exact (zF8 HO785 BK820)); (case side6 => exact (Kd.R_reads' HO785.out).2.1); (case side7 => refine (Kd.R_reads' (e := 3) (base := w.heap.size) (ok := fun k_ => ((((((some k_ ≠ (.slice Ao23 t783.length co23 : Value).ownBlock ∧ some k_ ≠ (.slice Ao17 t771.length co17 : Value).ownBlock) ∧ some k_ ≠ (.slice Ao18 t776.length co18 : Value).ownBlock) ∧ some k_ ≠ (.slice Ao31 t797.length co31 : Value).ownBlock) ∧ some k_ ≠ (.slice Ao32 t802.length co32 : Value).ownBlock) ∧ some k_ ≠ (.slice Ao39 t810.length co39 : Value).ownBlock) ∧ some k_ ≠ (.slice Ao40 t815.length co40 : Value).ownBlock)) (n := t788.length) (c := co24) ?_).2.2; exact (zF8 HO790 BK820)); (case side8 => exact (Kd.R_reads' HO790.out).2.1); rintro e w58 ⟨rfl, hb⟩; refine ⟨_, rfl, ?_⟩; replace HO773 := aK (Kd.R_below (zF8 HO773 BK820) hb); replace HO778 := aK (Kd.R_below (zF8 HO778 BK820) hb); replace HO785 := aK (Kd.R_below (zF8 HO785 BK820) hb); replace HO790 := aK (Kd.R_below (zF8 HO790 BK820) hb); replace HO799 := aK (Kd.R_below (zF8 HO799 BK820) hb); replace HO804 := aK (Kd.R_below (zF8 HO804 BK820) hb); replace HO812 := aK (Kd.R_below (zF8 HO812 BK820) hb); replace HO817 := aK (Kd.R_below (zF8 HO817 BK820) hb); replace BK766 := zG8 BK766 NB766_820 hb; replace BK793 := zG8 BK793 NB793_820 hb; replace BK806 := zG8 BK806 NB806_820 hb; replace BK820 := aK (blk_below (g := gb820) (o := .cells #[.int .i64 t807, .int .i64 t808, .int .i64 t809, .slice Ao39 t810.length co39, .int .i64 t813, .int .i64 t814, .slice Ao40 t815.length co40, .int .i64 t818] 38 (0, 0)) (by (with_reducible repeat (first | refine kDN ?_ _ | refine kD ?_ | refine kA ?_ _)); refine blk_put (cs := #[.int .i64 t807, .int .i64 t808, .int .i64 t809, .slice Ao39 t810.length co39, .int .i64 t813, .int .i64 t814, .slice Ao40 t815.length co40, .int .i64 0]) ?_ 7 _ rfl; (with_reducible repeat (first | refine kDN ?_ _ | refine kD ?_ | refine kA ?_ _)); refine blk_put (cs := #[.int .i64 t807, .int .i64 t808, .int .i64 t809, .slice Ao39 t810.length co39, .int .i64 t813, .int .i64 t814, .slice none 0 0, .int .i64 0]) ?_ 6 _ rfl; (with_reducible repeat (first | refine kDN ?_ _ | refine kD ?_ | refine kA ?_ _)); refine blk_put (cs := #[.int .i64 t807, .int .i64 t808, .int .i64 t809, .slice Ao39 t810.length co39, .int .i64 t813, .int .i64 0, .slice none 0 0, .int .i64 0]) ?_ 5 _ rfl; (with_reducible repeat (first | refine kDN ?_ _ | refine kD ?_ | refine kA ?_ _)); refine blk_put (cs := #[.int .i64 t807, .int .i64 t808, .int .i64 t809, .slice Ao39 t810.length co39, .int .i64 0, .int .i64 0, .slice none 0 0, .int .i64 0]) ?_ 4 _ rfl; (with_reducible repeat (first | refine kDN ?_ _ | refine kD ?_ | refine kA ?_ _)); refine blk_put (cs := #[.int .i64 t807, .int .i64 t808, .int .i64 t809, .slice none 0 0, .int .i64 0, .int .i64 0, .slice none 0 0, .int .i64 0]) ?_ 3 _ rfl; (with_reducible repeat (first | refine kDN ?_ _ | refine kD ?_ | refine kA ?_ _)); refine blk_put (cs := #[.int .i64 t807, .int .i64 t808, .int .i64 0, .slice none 0 0, .int .i64 0, .int .i64 0, .slice none 0 0, .int .i64 0]) ?_ 2 _ rfl; (with_reducible repeat (first | refine kDN ?_ _ | refine kD ?_ | refine kA ?_ _)); refine blk_put (cs := #[.int .i64 t807, .int .i64 0, .int .i64 0, .slice none 0 0, .int .i64 0, .int .i64 0, .slice none 0 0, .int .i64 0]) ?_ 1 _ rfl; (with_reducible repeat (first | refine kDN ?_ _ | refine kD ?_ | refine kA ?_ _)); refine blk_put (cs := #[.int .i64 0, .int .i64 0, .int .i64 0, .slice none 0 0, .int .i64 0, .int .i64 0, .slice none 0 0, .int .i64 0]) ?_ 0 _ rfl; (with_reducible repeat (first | refine kDN ?_ _ | refine kD ?_ | refine kA ?_ _)); exact BK820.out) hb); replace HB := aK (bSp (zH4 HB GE766 GE793 GE806 GE820) hb); (try clear hb); (try clear hb2); (try clear hk); (try clear hi)))
    go_meet
    case rel => exact ⟨_, (true), (by first | rfl | (simp; done) | (simp [*]; done)), H', ⟨by first | omega | exact Nat.le_refl _⟩, ⟨by (with_reducible repeat (first | apply Kd.R_alloc | apply Kd.R_drewN | apply Kd.R_drew)); exact Kd.R_mono HO785.out (fun _ hk => ⟨hk.1.1.1.1.1.1, ⟨hk.1.1.1.2, ⟨hk.1.1.2, ⟨hk.1.2, hk.2⟩⟩⟩⟩)⟩, ⟨by (with_reducible repeat (first | apply Kd.R_alloc | apply Kd.R_drewN | apply Kd.R_drew)); exact Kd.R_mono HO790.out (fun _ hk => ⟨hk.1.1.1.1.1.1, ⟨hk.1.1.1.2, ⟨hk.1.1.2, ⟨hk.1.2, hk.2⟩⟩⟩⟩)⟩, ⟨by (with_reducible repeat (first | apply Kd.R_alloc | apply Kd.R_drewN | apply Kd.R_drew)); exact Kd.R_mono HO799.out (fun _ hk => ⟨hk.1.1.1.2, ⟨hk.1.1.2, ⟨hk.1.1.1.1.1.1, ⟨hk.1.2, hk.2⟩⟩⟩⟩)⟩, ⟨by (with_reducible repeat (first | apply Kd.R_alloc | apply Kd.R_drewN | apply Kd.R_drew)); exact Kd.R_mono HO804.out (fun _ hk => ⟨hk.1.1.1.2, ⟨hk.1.1.2, ⟨hk.1.1.1.1.1.1, ⟨hk.1.2, hk.2⟩⟩⟩⟩)⟩, ⟨by (with_reducible repeat (first | apply Kd.R_alloc | apply Kd.R_drewN | apply Kd.R_drew)); exact Kd.R_mono HO812.out (fun _ hk => ⟨hk.1.1.1.2, ⟨hk.1.1.2, ⟨hk.1.2, ⟨hk.2, hk.1.1.1.1.1.1⟩⟩⟩⟩)⟩, ⟨by (with_reducible repeat (first | apply Kd.R_alloc | apply Kd.R_drewN | apply Kd.R_drew)); exact Kd.R_mono HO817.out (fun _ hk => ⟨hk.1.1.1.2, ⟨hk.1.1.2, ⟨hk.1.2, ⟨hk.2, hk.1.1.1.1.1.1⟩⟩⟩⟩)⟩, ⟨zK BK766⟩, ⟨zK BK793⟩, ⟨zK BK806⟩, ⟨zK BK820⟩, ⟨zH4 HB GE766 GE793 GE806 GE820⟩⟩
  case rest =>
   clear HC11
   try clear c1
   try clear c2
   try clear p2
   try clear c3
   try clear c3b0
   try clear c4
   try clear c5
   try clear c15
   try clear c17
   try clear c19
   try clear c21
   try clear c22
   try clear c23
   try clear c28
   try clear c29
   try clear c35
   try clear c36
   try clear c37
   try clear c42
   try clear c43
   try clear c44
   try clear c45
   try clear c47
   try clear c48
   try clear c51
   try clear c52
   try clear c53
   try clear c55
   try clear c56
   try clear hcz13_0
   try clear hcz13_1
   try clear hcz13_2
   try clear hcz13_3
   try clear hcz13_4
   try clear hcz13_5
   try clear hcz13_6
   try clear hcz13_7
   try clear hcz15_0
   try clear hcz15_1
   try clear hcz15_2
   try clear hcz15_3
   try clear hcz15_4
   try clear hcz15_5
   try clear hcz15_6
   try clear hcz15_7
   try clear hcz22_0
   try clear hcz22_1
   try clear hcz22_2
   try clear hcz22_3
   try clear hcz22_4
   try clear hcz22_5
   try clear hcz22_6
   try clear hcz22_7
   try clear hcz25_0
   try clear hcz25_1
   try clear hcz25_2
   try clear hcz25_3
   try clear hcz25_4
   try clear hcz25_5
   try clear hcz25_6
   try clear hcz25_7
   try clear hcz30_0
   try clear hcz30_1
   try clear hcz30_2
   try clear hcz30_3
   try clear hcz30_4
   try clear hcz30_5
   try clear hcz30_6
   try clear hcz30_7
   try clear hcz38_0
   try clear hcz38_1
   try clear hcz38_2
   try clear hcz38_3
   try clear hcz38_4
   try clear hcz38_5
   try clear hcz38_6
   try clear hcz38_7
   try clear hcz46_0
   try clear hcz46_1
   try clear hcz46_2
   try clear hcz46_3
   try clear hcz46_4
   try clear hcz46_5
   try clear hcz46_6
   try clear hcz46_7
   try clear hcz49_0
   try clear hcz49_1
   try clear hcz49_2
   try clear hcz49_3
   try clear hcz49_4
   try clear hcz49_5
   try clear hcz49_6
   try clear hcz49_7
   try clear hcz54_0
   try clear hcz54_1
   try clear hcz54_2
   try clear hcz54_3
   try clear hcz54_4
   try clear hcz54_5
   try clear hcz54_6
   try clear hcz54_7
   try clear hcz57_0
   try clear hcz57_1
   try clear hcz57_2
   try clear hcz57_3
   try clear hcz57_4
   try clear hcz57_5
   try clear hcz57_6
   try clear hcz57_7
   try clear hcz5_0
   try clear hcz5_1
   try clear hcz5_2
   try clear hcz5_3
   try clear hcz5_4
   try clear hcz5_5
   try clear hcz5_6
   try clear hcz5_7
   try clear hfz13_0
   try clear hfz13_1
   try clear hfz13_2
   try clear hfz13_3
   try clear hfz13_4
   try clear hfz13_5
   try clear hfz13_6
   try clear hfz13_7
   try clear hfz15_0
   try clear hfz15_1
   try clear hfz15_2
   try clear hfz15_3
   try clear hfz15_4
   try clear hfz15_5
   try clear hfz15_6
   try clear hfz15_7
   try clear hfz22_0
   try clear hfz22_1
   try clear hfz22_2
   try clear hfz22_3
   try clear hfz22_4
   try clear hfz22_5
   try clear hfz22_6
   try clear hfz22_7
   try clear hfz25_0
   try clear hfz25_1
   try clear hfz25_2
   try clear hfz25_3
   try clear hfz25_4
   try clear hfz25_5
   try clear hfz25_6
   try clear hfz25_7
   try clear hfz30_0
   try clear hfz30_1
   try clear hfz30_2
   try clear hfz30_3
   try clear hfz30_4
   try clear hfz30_5
   try clear hfz30_6
   try clear hfz30_7
   try clear hfz38_0
   try clear hfz38_1
   try clear hfz38_2
   try clear hfz38_3
   try clear hfz38_4
   try clear hfz38_5
   try clear hfz38_6
   try clear hfz38_7
   try clear hfz46_0
   try clear hfz46_1
   try clear hfz46_2
   try clear hfz46_3
   try clear hfz46_4
   try clear hfz46_5
   try clear hfz46_6
   try clear hfz46_7
   try clear hfz49_0
   try clear hfz49_1
   try clear hfz49_2
   try clear hfz49_3
   try clear hfz49_4
   try clear hfz49_5
   try clear hfz49_6
   try clear hfz49_7
   try clear hfz54_0
   try clear hfz54_1
   try clear hfz54_2
   try clear hfz54_3
   try clear hfz54_4
   try clear hfz54_5
   try clear hfz54_6
   try clear hfz54_7
   try clear hfz57_0
   try clear hfz57_1
   try clear hfz57_2
   try clear hfz57_3
   try clear hfz57_4
   try clear hfz57_5
   try clear hfz57_6
   try clear hfz57_7
   try clear hfz5_0
   try clear hfz5_1
   try clear hfz5_2
   try clear hfz5_3
   try clear hfz5_4
   try clear hfz5_5
   try clear hfz5_6
   try clear hfz5_7
   obtain ⟨kq, x40_10, rfl, HA, HJ10, HO_794003, HO_794006, HO_807003, HO_807006, HO_821003, HO_821006, BK766, BK793, BK806, BK820, HB⟩ := hcut
   cases kq with
   | zero => exact absurd HA.out (by simp [laws_FnExactLeave.j0])
   | succ kj10 =>
    have H := HA.out
    clear HA
    simp only [laws_FnExactLeave.j0] at H
    by_cases c59 : x40_10 = true
    ·subst c59
     have H1 : (some false) = some true := by first | (rw [if_pos rfl] at H; exact H) | rfl
     clear H
     have H := H1
     clear H1
     exact absurd (Option.some.inj H) Bool.false_ne_true
    ·replace c59 := Bool.eq_false_iff.mpr c59
     subst c59
     have H1 : ((laws_toGarden.f kj10 a0_0 a0_1 a0_2 l0_3 a0_4 a0_5 l0_6 a0_7).bind fun bt822 => ((laws_eqGarden.f kj10 t794 t795 t796 t797 t800 t801 t802 t805 bt822.1 bt822.2.1 bt822.2.2.1 bt822.2.2.2.1 bt822.2.2.2.2.1 bt822.2.2.2.2.2.1 bt822.2.2.2.2.2.2.1 bt822.2.2.2.2.2.2.2).bind fun t834 => (if t834 = true then ((laws_markGarden.f kj10 t794 t795 t796 t797 t800 t801 t802 t805 1).bind fun bt835 => (if bt835.1 < 0 then (laws_FnExactLeave.j1 kj10 t792 true a0_0 a0_1 a0_2 l0_3 a0_4 a0_5 l0_6 a0_7 t780 t781 t782 t783 t786 t787 t788 t791 t807 t808 t809 t810 t813 t814 t815 t818) else ((laws_eqGarden.f kj10 t807 t808 t809 t810 t813 t814 t815 t818 t780 t781 t782 t783 t786 t787 t788 t791).bind fun t838 => (if t838 = true then (laws_FnExactLeave.j1 kj10 t792 (t819 != t792) a0_0 a0_1 a0_2 l0_3 a0_4 a0_5 l0_6 a0_7 t780 t781 t782 t783 t786 t787 t788 t791 t807 t808 t809 t810 t813 t814 t815 t818) else (laws_FnExactLeave.j1 kj10 t792 true a0_0 a0_1 a0_2 l0_3 a0_4 a0_5 l0_6 a0_7 t780 t781 t782 t783 t786 t787 t788 t791 t807 t808 t809 t810 t813 t814 t815 t818))))) else (some false)))) = some true := by rw [if_neg (show ¬ (false = true) by decide)] at H; exact H
     clear H
     have H := H1
     clear H1
     replace H := Option.bind_eq_some_iff.mp H
     obtain ⟨⟨t822, t823, t824, t825, t828, t829, t830, t833⟩, A600, H⟩ := H
     replace H : ((laws_eqGarden.f kj10 t794 t795 t796 t797 t800 t801 t802 t805 t822 t823 t824 t825 t828 t829 t830 t833).bind fun t834 => (if t834 = true then ((laws_markGarden.f kj10 t794 t795 t796 t797 t800 t801 t802 t805 1).bind fun bt835 => (if bt835.1 < 0 then (laws_FnExactLeave.j1 kj10 t792 true a0_0 a0_1 a0_2 l0_3 a0_4 a0_5 l0_6 a0_7 t780 t781 t782 t783 t786 t787 t788 t791 t807 t808 t809 t810 t813 t814 t815 t818) else ((laws_eqGarden.f kj10 t807 t808 t809 t810 t813 t814 t815 t818 t780 t781 t782 t783 t786 t787 t788 t791).bind fun t838 => (if t838 = true then (laws_FnExactLeave.j1 kj10 t792 (t819 != t792) a0_0 a0_1 a0_2 l0_3 a0_4 a0_5 l0_6 a0_7 t780 t781 t782 t783 t786 t787 t788 t791 t807 t808 t809 t810 t813 t814 t815 t818) else (laws_FnExactLeave.j1 kj10 t792 true a0_0 a0_1 a0_2 l0_3 a0_4 a0_5 l0_6 a0_7 t780 t781 t782 t783 t786 t787 t788 t791 t807 t808 t809 t810 t813 t814 t815 t818))))) else (some false))) = some true := H
     have A60 := aK A600
     clear A600
     replace H := Option.bind_eq_some_iff.mp H
     obtain ⟨t834, A610, H⟩ := H
     replace H : (if t834 = true then ((laws_markGarden.f kj10 t794 t795 t796 t797 t800 t801 t802 t805 1).bind fun bt835 => (if bt835.1 < 0 then (laws_FnExactLeave.j1 kj10 t792 true a0_0 a0_1 a0_2 l0_3 a0_4 a0_5 l0_6 a0_7 t780 t781 t782 t783 t786 t787 t788 t791 t807 t808 t809 t810 t813 t814 t815 t818) else ((laws_eqGarden.f kj10 t807 t808 t809 t810 t813 t814 t815 t818 t780 t781 t782 t783 t786 t787 t788 t791).bind fun t838 => (if t838 = true then (laws_FnExactLeave.j1 kj10 t792 (t819 != t792) a0_0 a0_1 a0_2 l0_3 a0_4 a0_5 l0_6 a0_7 t780 t781 t782 t783 t786 t787 t788 t791 t807 t808 t809 t810 t813 t814 t815 t818) else (laws_FnExactLeave.j1 kj10 t792 true a0_0 a0_1 a0_2 l0_3 a0_4 a0_5 l0_6 a0_7 t780 t781 t782 t783 t786 t787 t788 t791 t807 t808 t809 t810 t813 t814 t815 t818))))) else (some false)) = some true := H
     have A61 := aK A610
     clear A610
     by_cases c62 : t834 = true
     ·subst c62
      have H1 : ((laws_markGarden.f kj10 t794 t795 t796 t797 t800 t801 t802 t805 1).bind fun bt835 => (if bt835.1 < 0 then (laws_FnExactLeave.j1 kj10 t792 true a0_0 a0_1 a0_2 l0_3 a0_4 a0_5 l0_6 a0_7 t780 t781 t782 t783 t786 t787 t788 t791 t807 t808 t809 t810 t813 t814 t815 t818) else ((laws_eqGarden.f kj10 t807 t808 t809 t810 t813 t814 t815 t818 t780 t781 t782 t783 t786 t787 t788 t791).bind fun t838 => (if t838 = true then (laws_FnExactLeave.j1 kj10 t792 (t819 != t792) a0_0 a0_1 a0_2 l0_3 a0_4 a0_5 l0_6 a0_7 t780 t781 t782 t783 t786 t787 t788 t791 t807 t808 t809 t810 t813 t814 t815 t818) else (laws_FnExactLeave.j1 kj10 t792 true a0_0 a0_1 a0_2 l0_3 a0_4 a0_5 l0_6 a0_7 t780 t781 t782 t783 t786 t787 t788 t791 t807 t808 t809 t810 t813 t814 t815 t818))))) = some true := by first | (rw [if_pos rfl] at H; exact H) | rfl
      clear H
      have H := H1
      clear H1
      replace H := Option.bind_eq_some_iff.mp H
      obtain ⟨⟨t835, t836, t837⟩, A630, H⟩ := H
      replace H : (if t835 < 0 then (laws_FnExactLeave.j1 kj10 t792 true a0_0 a0_1 a0_2 l0_3 a0_4 a0_5 l0_6 a0_7 t780 t781 t782 t783 t786 t787 t788 t791 t807 t808 t809 t810 t813 t814 t815 t818) else ((laws_eqGarden.f kj10 t807 t808 t809 t810 t813 t814 t815 t818 t780 t781 t782 t783 t786 t787 t788 t791).bind fun t838 => (if t838 = true then (laws_FnExactLeave.j1 kj10 t792 (t819 != t792) a0_0 a0_1 a0_2 l0_3 a0_4 a0_5 l0_6 a0_7 t780 t781 t782 t783 t786 t787 t788 t791 t807 t808 t809 t810 t813 t814 t815 t818) else (laws_FnExactLeave.j1 kj10 t792 true a0_0 a0_1 a0_2 l0_3 a0_4 a0_5 l0_6 a0_7 t780 t781 t782 t783 t786 t787 t788 t791 t807 t808 t809 t810 t813 t814 t815 t818)))) = some true := H
      have A63 := aK A630
      clear A630
      have HC64 := aK H
      clear H
      try go_wp2
      have n0_ := aK (Kd.R_drew HO_794003.out)
      have n1_ := aK (Kd.R_drew HO_794006.out)
      have n2_ := aK (Kd.R_drew HO_807003.out)
      have n3_ := aK (Kd.R_drew HO_807006.out)
      have n4_ := aK (Kd.R_drew HO_821003.out)
      have n5_ := aK (Kd.R_drew HO_821006.out)
      have n6_ := aK (kD BK766.out)
      have n7_ := aK (kD BK793.out)
      have n8_ := aK (kD BK806.out)
      have n9_ := aK (kD BK820.out)
      have n10_ := aK (bD1 HB.out)
      clear HO_794003
      clear HO_794006
      clear HO_807003
      clear HO_807006
      clear HO_821003
      clear HO_821006
      clear BK766
      clear BK793
      clear BK806
      clear BK820
      clear HB
      have HO_794003 := n0_
      have HO_794006 := n1_
      have HO_807003 := n2_
      have HO_807006 := n3_
      have HO_821003 := n4_
      have HO_821006 := n5_
      have BK766 := n6_
      have BK793 := n7_
      have BK806 := n8_
      have BK820 := n9_
      have HB := n10_
      clear n0_ n1_ n2_ n3_ n4_ n5_ n6_ n7_ n8_ n9_ n10_
      refine start_ (n := 5) (S := fun w' => w'.cell? ⟨gb806, 0, none⟩ = some (.int .i64 t794) ∧ w'.cell? ⟨gb806, 1, none⟩ = some (.int .i64 t795) ∧ w'.cell? ⟨gb806, 2, none⟩ = some (.int .i64 t796) ∧ w'.cell? ⟨gb806, 3, none⟩ = some (.slice Ao31 t797.length co31) ∧ w'.cell? ⟨gb806, 4, none⟩ = some (.int .i64 t800) ∧ w'.cell? ⟨gb806, 5, none⟩ = some (.int .i64 t801) ∧ w'.cell? ⟨gb806, 6, none⟩ = some (.slice Ao32 t802.length co32) ∧ w'.cell? ⟨gb806, 7, none⟩ = some (.int .i64 t805) ∧ w'.cell? ⟨gb766, 0, none⟩ = some (.int .i64 a0_0) ∧ w'.cell? ⟨gb766, 1, none⟩ = some (.int .i64 a0_1) ∧ w'.cell? ⟨gb766, 2, none⟩ = some (.int .i64 a0_2) ∧ w'.cell? ⟨gb766, 3, none⟩ = some (.slice A0_3 l0_3.length c0_3) ∧ w'.cell? ⟨gb766, 4, none⟩ = some (.int .i64 a0_4) ∧ w'.cell? ⟨gb766, 5, none⟩ = some (.int .i64 a0_5) ∧ w'.cell? ⟨gb766, 6, none⟩ = some (.slice A0_6 l0_6.length c0_6) ∧ w'.cell? ⟨gb766, 7, none⟩ = some (.int .i64 a0_7)) (ds := []) #[bN,bN,bN,bN,bN] (by kernel_rfl) rfl rfl ⟨zQ BK806 0, zQ BK806 1, zQ BK806 2, zQ BK806 3, zQ BK806 4, zQ BK806 5, zQ BK806 6, zQ BK806 7, zQ BK766 0, zQ BK766 1, zQ BK766 2, zQ BK766 3, zQ BK766 4, zQ BK766 5, zQ BK766 6, zQ BK766 7⟩ (fun hHeld => ?_)
      generalize wc.drew = w65 at HO_794003 HO_794006 HO_807003 HO_807006 HO_821003 HO_821006 BK766 BK793 BK806 BK820 HB hHeld ⊢
      refine take_ (i := 0) (N := some 41) (v := ?_) (a' := ?_) #[bY,bN,bN,bN,bN] rfl rfl (by kernel_rfl) (fun _ _ _ h => h) (Or.inl ⟨by rfl, ?_⟩) hHeld ?_ ?_
      rotate_left
      ·rintro w' ⟨s0, s1, s2, s3, s4, s5, s6, s7, s8, s9, s10, s11, s12, s13, s14, s15⟩
       go_simp
       with_reducible rfl
      rotate_left
      ·simp only [Act.put, sTA, sZ, sS, i64_w, i32_w]
       rfl
      refine take_ (i := 1) (N := some 42) (v := ?_) (a' := ?_) #[bY,bY,bN,bN,bN] rfl rfl (by kernel_rfl) (fun _ _ _ h => h) (Or.inl ⟨by rfl, ?_⟩) hHeld ?_ ?_
      rotate_left
      ·rintro w' ⟨s0, s1, s2, s3, s4, s5, s6, s7, s8, s9, s10, s11, s12, s13, s14, s15⟩
       go_simp
       with_reducible rfl
      rotate_left
      ·simp only [Act.put, sTA, sZ, sS, i64_w, i32_w]
       rfl
      refine one_ (i := 2) (N := some 43) #[bY,bY,bY,bN,bN] rfl rfl (by kernel_rfl) (by decide) (fun K hK => ?_)
      refine goes_ Tryz.func17 (by kernel_rfl) rfl #[.agg #[.int .i64 a0_0, .int .i64 a0_1, .int .i64 a0_2, .slice A0_3 l0_3.length c0_3, .int .i64 a0_4, .int .i64 a0_5, .slice A0_6 l0_6.length c0_6, .int .i64 a0_7]] (by rfl) rfl rfl zD ?_
      with_reducible refine (laws_toGarden.calls kj10 a0_0 a0_1 a0_2 _ _ l0_3 a0_4 a0_5 _ _ l0_6 a0_7 t822 t823 t824 t825 t828 t829 t830 t833 _ ?side1 ?side2 ?side3 ?side4 A60.out).mono ?_
      (case side1 => exact zC (Kd.C_below HR0_3.out HB.out))
      (case side2 => exact HC0_3.out)
      (case side3 => exact zC (Kd.C_below HR0_6.out HB.out))
      (case side4 => exact HC0_6.out)
      rintro e w66 ⟨v826, v831, rfl, ho0, ho1, hb⟩
      refine ⟨_, rfl, ?_⟩
      have n0_ := aK (Kd.R_mono (Kd.R_told (Kd.R_told (Kd.R_old (zA HO_794003) hb) (Kd.R_base ho0)) (Kd.R_base ho1)) (fun _ h_ => h_.1))
      have n1_ := aK (Kd.R_mono (Kd.R_told (Kd.R_told (Kd.R_old (zA HO_794006) hb) (Kd.R_base ho0)) (Kd.R_base ho1)) (fun _ h_ => h_.1))
      have n2_ := aK (Kd.R_mono (Kd.R_told (Kd.R_told (Kd.R_old (zA HO_807003) hb) (Kd.R_base ho0)) (Kd.R_base ho1)) (fun _ h_ => h_.1))
      have n3_ := aK (Kd.R_mono (Kd.R_told (Kd.R_told (Kd.R_old (zA HO_807006) hb) (Kd.R_base ho0)) (Kd.R_base ho1)) (fun _ h_ => h_.1))
      have n4_ := aK (Kd.R_mono (Kd.R_told (Kd.R_told (Kd.R_old (zA HO_821003) hb) (Kd.R_base ho0)) (Kd.R_base ho1)) (fun _ h_ => h_.1))
      have n5_ := aK (Kd.R_mono (Kd.R_told (Kd.R_told (Kd.R_old (zA HO_821006) hb) (Kd.R_base ho0)) (Kd.R_base ho1)) (fun _ h_ => h_.1))
      have n6_ := aK (Kd.R_lower (Kd.R_new' (Kd.R_new' (Kd.R_new' (Kd.R_new' (Kd.R_new' (Kd.R_new' ho0 (Kd.R_lt (zA HO_794003))) (Kd.R_lt (zA HO_794006))) (Kd.R_lt (zA HO_807003))) (Kd.R_lt (zA HO_807006))) (Kd.R_lt (zA HO_821003))) (Kd.R_lt (zA HO_821006))) (bSz (zH4 HB GE766 GE793 GE806 GE820)))
      have n7_ := aK (Kd.R_lower (Kd.R_new' (Kd.R_new' (Kd.R_new' (Kd.R_new' (Kd.R_new' (Kd.R_new' ho1 (Kd.R_lt (zA HO_794003))) (Kd.R_lt (zA HO_794006))) (Kd.R_lt (zA HO_807003))) (Kd.R_lt (zA HO_807006))) (Kd.R_lt (zA HO_821003))) (Kd.R_lt (zA HO_821006))) (bSz (zH4 HB GE766 GE793 GE806 GE820)))
      have n8_ := zB BK766 hb
      have n9_ := zB BK793 hb
      have n10_ := zB BK806 hb
      have n11_ := zB BK820 hb
      have n12_ := aK (bSp (zH4 HB GE766 GE793 GE806 GE820) hb)
      clear HO_794003
      clear HO_794006
      clear HO_807003
      clear HO_807006
      clear HO_821003
      clear HO_821006
      clear BK766
      clear BK793
      clear BK806
      clear BK820
      clear HB
      have HO_794003 := n0_
      have HO_794006 := n1_
      have HO_807003 := n2_
      have HO_807006 := n3_
      have HO_821003 := n4_
      have HO_821006 := n5_
      have HO827 := n6_
      have HO832 := n7_
      have BK766 := n8_
      have BK793 := n9_
      have BK806 := n10_
      have BK820 := n11_
      have HB := n12_
      clear n0_ n1_ n2_ n3_ n4_ n5_ n6_ n7_ n8_ n9_ n10_ n11_ n12_
      (try clear hb)
      (try clear hb2)
      (try clear hk)
      (try clear hi)
      (try clear ho0)
      (try clear ho1)
      obtain ⟨Ao67, co67, eo67⟩ := Kd.R_slice HO827.out
      (first | subst eo67 | (injection eo67 with f1_ f2_ f3_; have f4_ := f1_.symm; have f5_ := f3_.symm; clear f1_ f2_ f3_; subst f4_; subst f5_))
      obtain ⟨Ao68, co68, eo68⟩ := Kd.R_slice HO832.out
      (first | subst eo68 | (injection eo68 with f1_ f2_ f3_; have f4_ := f1_.symm; have f5_ := f3_.symm; clear f1_ f2_ f3_; subst f4_; subst f5_))
      refine hK.out _ _ ⟨zQ BK806 0, zQ BK806 1, zQ BK806 2, zQ BK806 3, zQ BK806 4, zQ BK806 5, zQ BK806 6, zQ BK806 7, zQ BK766 0, zQ BK766 1, zQ BK766 2, zQ BK766 3, zQ BK766 4, zQ BK766 5, zQ BK766 6, zQ BK766 7⟩ (fun hHeld => ?_)
      clear hK K
      refine norm_ (a' := ?_) ?_ ?_
      rotate_left
      ·show Act.put _ (some 43) _ = _
       simp only [Act.put, sTA, sZ, sS, i64_w, i32_w]
       rfl
      refine one_ (i := 3) (N := some 44) #[bY,bY,bY,bY,bN] rfl rfl (by kernel_rfl) (by decide) (fun K hK => ?_)
      refine goes_ Tryz.func19 (by kernel_rfl) rfl #[.agg #[.int .i64 t794, .int .i64 t795, .int .i64 t796, .slice Ao31 t797.length co31, .int .i64 t800, .int .i64 t801, .slice Ao32 t802.length co32, .int .i64 t805], .agg #[.int .i64 t822, .int .i64 t823, .int .i64 t824, .slice Ao67 t825.length co67, .int .i64 t828, .int .i64 t829, .slice Ao68 t830.length co68, .int .i64 t833]] (by rfl) rfl rfl zD ?_
      with_reducible refine (laws_eqGarden.calls kj10 t794 t795 t796 _ _ t797 t800 t801 _ _ t802 t805 t822 t823 t824 _ _ t825 t828 t829 _ _ t830 t833 true _ ?side1 ?side2 ?side3 ?side4 ?side5 ?side6 ?side7 ?side8 A61.out).mono ?_
      (case side1 => exact zC (Kd.R_reads' HO_807003.out).2.2)
      (case side2 => exact (Kd.R_reads' HO_807003.out).2.1)
      (case side3 => exact zC (Kd.R_reads' HO_807006.out).2.2)
      (case side4 => exact (Kd.R_reads' HO_807006.out).2.1)
      (case side5 => exact zC (Kd.R_reads' HO827.out).2.2)
      (case side6 => exact (Kd.R_reads' HO827.out).2.1)
      (case side7 => exact zC (Kd.R_reads' HO832.out).2.2)
      (case side8 => exact (Kd.R_reads' HO832.out).2.1)
      rintro e w69 ⟨rfl, hb⟩
      refine ⟨_, rfl, ?_⟩
      have n0_ := aK (Kd.R_below (zA HO_794003) hb)
      have n1_ := aK (Kd.R_below (zA HO_794006) hb)
      have n2_ := aK (Kd.R_below (zA HO_807003) hb)
      have n3_ := aK (Kd.R_below (zA HO_807006) hb)
      have n4_ := aK (Kd.R_below (zA HO_821003) hb)
      have n5_ := aK (Kd.R_below (zA HO_821006) hb)
      have n6_ := aK (Kd.R_below (zA HO827) hb)
      have n7_ := aK (Kd.R_below (zA HO832) hb)
      have n8_ := zB BK766 hb
      have n9_ := zB BK793 hb
      have n10_ := zB BK806 hb
      have n11_ := zB BK820 hb
      have n12_ := aK (bSp (zH4 HB GE766 GE793 GE806 GE820) hb)
      clear HO_794003
      clear HO_794006
      clear HO_807003
      clear HO_807006
      clear HO_821003
      clear HO_821006
      clear HO827
      clear HO832
      clear BK766
      clear BK793
      clear BK806
      clear BK820
      clear HB
      have HO_794003 := n0_
      have HO_794006 := n1_
      have HO_807003 := n2_
      have HO_807006 := n3_
      have HO_821003 := n4_
      have HO_821006 := n5_
      have HO827 := n6_
      have HO832 := n7_
      have BK766 := n8_
      have BK793 := n9_
      have BK806 := n10_
      have BK820 := n11_
      have HB := n12_
      clear n0_ n1_ n2_ n3_ n4_ n5_ n6_ n7_ n8_ n9_ n10_ n11_ n12_
      (try clear hb)
      (try clear hb2)
      (try clear hk)
      (try clear hi)
      refine hK.out _ _ ⟨zQ BK806 0, zQ BK806 1, zQ BK806 2, zQ BK806 3, zQ BK806 4, zQ BK806 5, zQ BK806 6, zQ BK806 7, zQ BK766 0, zQ BK766 1, zQ BK766 2, zQ BK766 3, zQ BK766 4, zQ BK766 5, zQ BK766 6, zQ BK766 7⟩ (fun hHeld => ?_)
      clear hK K
      refine norm_ (a' := ?_) ?_ ?_
      rotate_left
      ·show Act.put _ (some 44) _ = _
       simp only [Act.put, sTA, sZ, sS, i64_w, i32_w]
       rfl
      refine pure_ (i := 4) (N := some 45) (v := ?_) (a' := ?_) #[bY,bY,bY,bY,bY] rfl rfl (by kernel_rfl) (fun _ _ _ h => h) (Or.inl ⟨by rfl, ?_⟩) ?_ ?_
      rotate_left
      ·intro w'
       go_simp
       with_reducible rfl
      rotate_left
      ·simp only [Act.put, sTA, sZ, sS, i64_w, i32_w]
       rfl
      refine done_ (by kernel_rfl) ?_
      have hnb70 := NB806_766.out
      have hnc70 := NB766_806.out
      have hnb71 := NB806_793.out
      have hnc71 := NB793_806.out
      have hnb72 := NB806_820.out
      have hnc72 := NB820_806.out
      obtain ⟨hcz73_0, hcz73_1, hcz73_2, hcz73_3, hcz73_4, hcz73_5, hcz73_6, hcz73_7, hfz73_0, hfz73_1, hfz73_2, hfz73_3, hfz73_4, hfz73_5, hfz73_6, hfz73_7⟩ := cl8 BK806.out
      go_upto_region 14 with (first | ((with_reducible refine gate_callee (f := 20) rfl ?_); refine goesL_ (some 48) rfl rfl Tryz.func20 (by kernel_rfl) rfl #[.agg #[.int .i64 t794, .int .i64 t795, .int .i64 t796, .slice Ao31 t797.length co31, .int .i64 t800, .int .i64 t801, .slice Ao32 t802.length co32, .int .i64 t805], .int .i64 1] rfl zD ?_; (with_reducible refine (laws_markGarden.calls kj10 t794 t795 t796 (fun k_ => some k_ = (.slice Ao31 t797.length co31 : Value).ownBlock) (.slice Ao31 t797.length co31) t797 t800 t801 (fun k_ => some k_ = (.slice Ao32 t802.length co32 : Value).ownBlock) (.slice Ao32 t802.length co32) t802 t805 1 t835 t836 t837 w _ ?side1 ?side2 ?side3 ?side4 ?side5 A63.out).mono ?_); (case side1 => exact (zH4 HB GE766 GE793 GE806 GE820)); (case side2 => exact Kd.R_tight rfl HO_807003.out); (case side3 => exact fun k_ e_ => (HO_807003.out.1 k_ e_.symm).1.1.2.2.1); (case side4 => exact Kd.R_tight rfl HO_807006.out); (case side5 => exact fun k_ e_ => (HO_807006.out.1 k_ e_.symm).1.1.2.2.1); rintro e w74 ⟨rfl, hy0, hy1, hb, hkp⟩; refine ⟨_, rfl, ?_⟩; replace HO_794003 := aK (Kd.R_mono (ok' := fun k_ => some k_ ≠ (.slice Ao24 t788.length co24 : Value).ownBlock ∧ some k_ ≠ (.slice Ao31 t797.length co31 : Value).ownBlock ∧ some k_ ≠ (.slice Ao32 t802.length co32 : Value).ownBlock ∧ some k_ ≠ (.slice Ao39 t810.length co39 : Value).ownBlock ∧ some k_ ≠ (.slice Ao40 t815.length co40 : Value).ownBlock ∧ some k_ ≠ (.slice Ao67 t825.length co67 : Value).ownBlock ∧ some k_ ≠ (.slice Ao68 t830.length co68 : Value).ownBlock) (Kd.R_keptB (HO_794003.out) hkp (fun k_ hk_ hs_ => Or.elim hs_ (hk_.1.1.2.1) (hk_.1.1.2.2.1))) (fun k_ hk_ => ⟨hk_.1.1.1.1, hk_.1.1.1.2.1, hk_.1.1.1.2.2.1, hk_.1.1.1.2.2.2.1, hk_.1.1.1.2.2.2.2, hk_.1.1.2, hk_.1.2⟩)); replace HO_794006 := aK (Kd.R_mono (ok' := fun k_ => some k_ ≠ (.slice Ao23 t783.length co23 : Value).ownBlock ∧ some k_ ≠ (.slice Ao31 t797.length co31 : Value).ownBlock ∧ some k_ ≠ (.slice Ao32 t802.length co32 : Value).ownBlock ∧ some k_ ≠ (.slice Ao39 t810.length co39 : Value).ownBlock ∧ some k_ ≠ (.slice Ao40 t815.length co40 : Value).ownBlock ∧ some k_ ≠ (.slice Ao67 t825.length co67 : Value).ownBlock ∧ some k_ ≠ (.slice Ao68 t830.length co68 : Value).ownBlock) (Kd.R_keptB (HO_794006.out) hkp (fun k_ hk_ hs_ => Or.elim hs_ (hk_.1.1.2.1) (hk_.1.1.2.2.1))) (fun k_ hk_ => ⟨hk_.1.1.1.1, hk_.1.1.1.2.1, hk_.1.1.1.2.2.1, hk_.1.1.1.2.2.2.1, hk_.1.1.1.2.2.2.2, hk_.1.1.2, hk_.1.2⟩)); replace HO_821003 := aK (Kd.R_mono (ok' := fun k_ => some k_ ≠ (.slice Ao23 t783.length co23 : Value).ownBlock ∧ some k_ ≠ (.slice Ao24 t788.length co24 : Value).ownBlock ∧ some k_ ≠ (.slice Ao31 t797.length co31 : Value).ownBlock ∧ some k_ ≠ (.slice Ao32 t802.length co32 : Value).ownBlock ∧ some k_ ≠ (.slice Ao40 t815.length co40 : Value).ownBlock ∧ some k_ ≠ (.slice Ao67 t825.length co67 : Value).ownBlock ∧ some k_ ≠ (.slice Ao68 t830.length co68 : Value).ownBlock) (Kd.R_keptB (HO_821003.out) hkp (fun k_ hk_ hs_ => Or.elim hs_ (hk_.1.1.2.2.1) (hk_.1.1.2.2.2.1))) (fun k_ hk_ => ⟨hk_.1.1.1.1, hk_.1.1.1.2.1, hk_.1.1.1.2.2.1, hk_.1.1.1.2.2.2.1, hk_.1.1.1.2.2.2.2, hk_.1.1.2, hk_.1.2⟩)); replace HO_821006 := aK (Kd.R_mono (ok' := fun k_ => some k_ ≠ (.slice Ao23 t783.length co23 : Value).ownBlock ∧ some k_ ≠ (.slice Ao24 t788.length co24 : Value).ownBlock ∧ some k_ ≠ (.slice Ao31 t797.length co31 : Value).ownBlock ∧ some k_ ≠ (.slice Ao32 t802.length co32 : Value).ownBlock ∧ some k_ ≠ (.slice Ao39 t810.length co39 : Value).ownBlock ∧ some k_ ≠ (.slice Ao67 t825.length co67 : Value).ownBlock ∧ some k_ ≠ (.slice Ao68 t830.length co68 : Value).ownBlock) (Kd.R_keptB (HO_821006.out) hkp (fun k_ hk_ hs_ => Or.elim hs_ (hk_.1.1.2.2.1) (hk_.1.1.2.2.2.1))) (fun k_ hk_ => ⟨hk_.1.1.1.1, hk_.1.1.1.2.1, hk_.1.1.1.2.2.1, hk_.1.1.1.2.2.2.1, hk_.1.1.1.2.2.2.2, hk_.1.1.2, hk_.1.2⟩)); replace BK766 := aK (blk_kept (zK BK766) hkp (fun hs_ => Or.elim hs_ (Kd.R_ne HO_807003.out BK766.out (by decide)) (Kd.R_ne HO_807006.out BK766.out (by decide)))); replace BK793 := aK (blk_kept (zK BK793) hkp (fun hs_ => Or.elim hs_ (Kd.R_ne HO_807003.out BK793.out (by decide)) (Kd.R_ne HO_807006.out BK793.out (by decide)))); replace BK806 := aK (blk_kept (zK BK806) hkp (fun hs_ => Or.elim hs_ (Kd.R_ne HO_807003.out BK806.out (by decide)) (Kd.R_ne HO_807006.out BK806.out (by decide)))); replace BK820 := aK (blk_kept (zK BK820) hkp (fun hs_ => Or.elim hs_ (Kd.R_ne HO_807003.out BK820.out (by decide)) (Kd.R_ne HO_807006.out BK820.out (by decide)))); replace HO_807003 := aK (Kd.R_reok rfl hy0 (fun k_ e_ => HO_807003.out.1 k_ e_)); replace HO_807006 := aK (Kd.R_reok rfl hy1 (fun k_ e_ => HO_807006.out.1 k_ e_)); replace HO827 := aK (Kd.R_mono (ok' := fun k_ => some k_ ≠ (.slice Ao23 t783.length co23 : Value).ownBlock ∧ some k_ ≠ (.slice Ao24 t788.length co24 : Value).ownBlock ∧ some k_ ≠ (.slice Ao31 t797.length co31 : Value).ownBlock ∧ some k_ ≠ (.slice Ao32 t802.length co32 : Value).ownBlock ∧ some k_ ≠ (.slice Ao39 t810.length co39 : Value).ownBlock ∧ some k_ ≠ (.slice Ao40 t815.length co40 : Value).ownBlock ∧ some k_ ≠ (.slice Ao68 t830.length co68 : Value).ownBlock) (Kd.R_keptB (HO827.out) hkp (fun k_ hk_ hs_ => Or.elim hs_ (hk_.1.1.1.2) (hk_.1.1.2))) (fun k_ hk_ => ⟨hk_.1.1.1.1.1.1.2, hk_.1.1.1.1.1.2, hk_.1.1.1.1.2, hk_.1.1.1.2, hk_.1.1.2, hk_.1.2, hk_.1.1.1.1.1.1.1⟩)); replace HO832 := aK (Kd.R_mono (ok' := fun k_ => some k_ ≠ (.slice Ao23 t783.length co23 : Value).ownBlock ∧ some k_ ≠ (.slice Ao24 t788.length co24 : Value).ownBlock ∧ some k_ ≠ (.slice Ao31 t797.length co31 : Value).ownBlock ∧ some k_ ≠ (.slice Ao32 t802.length co32 : Value).ownBlock ∧ some k_ ≠ (.slice Ao39 t810.length co39 : Value).ownBlock ∧ some k_ ≠ (.slice Ao40 t815.length co40 : Value).ownBlock ∧ some k_ ≠ (.slice Ao67 t825.length co67 : Value).ownBlock) (Kd.R_keptB (HO832.out) hkp (fun k_ hk_ hs_ => Or.elim hs_ (hk_.1.1.1.2) (hk_.1.1.2))) (fun k_ hk_ => ⟨hk_.1.1.1.1.1.1.2, hk_.1.1.1.1.1.2, hk_.1.1.1.1.2, hk_.1.1.1.2, hk_.1.1.2, hk_.1.2, hk_.1.1.1.1.1.1.1⟩)); replace HB := aK (hb); (try clear hb); (try clear hkp); (try clear hy0); (try clear hy1)))
      (try simp only [Act.put, sTA, sZ, sS])
      go_cut [61] (fun v61 wc => ∃ (kq : Nat) (x61_63 : Bool), v61 = .bool x61_63 ∧ Aside0 (laws_FnExactLeave.j1 kq t792 x61_63 a0_0 a0_1 a0_2 l0_3 a0_4 a0_5 l0_6 a0_7 t780 t781 t782 t783 t786 t787 t788 t791 t807 t808 t809 t810 t813 t814 t815 t818 = some true) ∧ Aside0 (kq ≤ kj10) ∧ Aside0 (Kd.R (Kd.int .i64) 3 wc w.heap.size (fun k_ => some k_ ≠ ((.slice Ao24 t788.length co24) : Value).ownBlock ∧ some k_ ≠ ((.slice Ao31 t797.length co31) : Value).ownBlock ∧ some k_ ≠ ((.slice Ao32 t802.length co32) : Value).ownBlock ∧ some k_ ≠ ((.slice Ao39 t810.length co39) : Value).ownBlock ∧ some k_ ≠ ((.slice Ao40 t815.length co40) : Value).ownBlock) (.slice Ao23 t783.length co23) t783) ∧ Aside0 (Kd.R (Kd.int .i64) 3 wc w.heap.size (fun k_ => some k_ ≠ ((.slice Ao23 t783.length co23) : Value).ownBlock ∧ some k_ ≠ ((.slice Ao31 t797.length co31) : Value).ownBlock ∧ some k_ ≠ ((.slice Ao32 t802.length co32) : Value).ownBlock ∧ some k_ ≠ ((.slice Ao39 t810.length co39) : Value).ownBlock ∧ some k_ ≠ ((.slice Ao40 t815.length co40) : Value).ownBlock) (.slice Ao24 t788.length co24) t788) ∧ Aside0 (Kd.R (Kd.int .i64) 3 wc w.heap.size (fun k_ => some k_ ≠ ((.slice Ao23 t783.length co23) : Value).ownBlock ∧ some k_ ≠ ((.slice Ao24 t788.length co24) : Value).ownBlock ∧ some k_ ≠ ((.slice Ao32 t802.length co32) : Value).ownBlock ∧ some k_ ≠ ((.slice Ao39 t810.length co39) : Value).ownBlock ∧ some k_ ≠ ((.slice Ao40 t815.length co40) : Value).ownBlock) (.slice Ao31 t797.length co31) t836) ∧ Aside0 (Kd.R (Kd.int .i64) 3 wc w.heap.size (fun k_ => some k_ ≠ ((.slice Ao23 t783.length co23) : Value).ownBlock ∧ some k_ ≠ ((.slice Ao24 t788.length co24) : Value).ownBlock ∧ some k_ ≠ ((.slice Ao31 t797.length co31) : Value).ownBlock ∧ some k_ ≠ ((.slice Ao39 t810.length co39) : Value).ownBlock ∧ some k_ ≠ ((.slice Ao40 t815.length co40) : Value).ownBlock) (.slice Ao32 t802.length co32) t837) ∧ Aside0 (Kd.R (Kd.int .i64) 3 wc w.heap.size (fun k_ => some k_ ≠ ((.slice Ao23 t783.length co23) : Value).ownBlock ∧ some k_ ≠ ((.slice Ao24 t788.length co24) : Value).ownBlock ∧ some k_ ≠ ((.slice Ao31 t797.length co31) : Value).ownBlock ∧ some k_ ≠ ((.slice Ao32 t802.length co32) : Value).ownBlock ∧ some k_ ≠ ((.slice Ao40 t815.length co40) : Value).ownBlock) (.slice Ao39 t810.length co39) t810) ∧ Aside0 (Kd.R (Kd.int .i64) 3 wc w.heap.size (fun k_ => some k_ ≠ ((.slice Ao23 t783.length co23) : Value).ownBlock ∧ some k_ ≠ ((.slice Ao24 t788.length co24) : Value).ownBlock ∧ some k_ ≠ ((.slice Ao31 t797.length co31) : Value).ownBlock ∧ some k_ ≠ ((.slice Ao32 t802.length co32) : Value).ownBlock ∧ some k_ ≠ ((.slice Ao39 t810.length co39) : Value).ownBlock) (.slice Ao40 t815.length co40) t815) ∧ Aside0 (wc.heap[gb766]? = some (.cells #[.int .i64 a0_0, .int .i64 a0_1, .int .i64 a0_2, (.slice A0_3 l0_3.length c0_3), .int .i64 a0_4, .int .i64 a0_5, (.slice A0_6 l0_6.length c0_6), .int .i64 a0_7] 30 (0, 0))) ∧ Aside0 (wc.heap[gb793]? = some (.cells #[.int .i64 t780, .int .i64 t781, .int .i64 t782, (.slice Ao23 t783.length co23), .int .i64 t786, .int .i64 t787, (.slice Ao24 t788.length co24), .int .i64 t791] 38 (0, 0))) ∧ Aside0 (wc.heap[gb806]? = some (.cells #[.int .i64 t794, .int .i64 t795, .int .i64 t796, (.slice Ao31 t797.length co31), .int .i64 t800, .int .i64 t801, (.slice Ao32 t802.length co32), .int .i64 t805] 38 (0, 0))) ∧ Aside0 (wc.heap[gb820]? = some (.cells #[.int .i64 t807, .int .i64 t808, .int .i64 t809, (.slice Ao39 t810.length co39), .int .i64 t813, .int .i64 t814, (.slice Ao40 t815.length co40), .int .i64 t818] 38 (0, 0))) ∧ Aside0 (Below w.heap.size w wc))
      case first =>
       have H := HC64.out
       clear HC64
       by_cases c75 : t835 < 0
       ·rw [if_pos c75] at H
        have c75b0 : decide (t835 < 0) = true := decide_eq_true c75
        clear c75
        (first | rw [c75b0] | (simp only [i64_w, i32_w]; rw [c75b0]) | skip)
        have H' := aK H
        clear H
        go_wp2
        go_meet
        case rel => exact ⟨_, (true), (by first | rfl | (simp; done) | (simp [*]; done)), H', ⟨by have := HJ10.out; first | omega | exact Nat.le_refl _⟩, ⟨by (with_reducible repeat (first | apply Kd.R_alloc | apply Kd.R_drewN | apply Kd.R_drew)); exact Kd.R_mono HO_794003.out (fun _ hk => ⟨hk.1, ⟨hk.2.1, ⟨hk.2.2.1, ⟨hk.2.2.2.1, hk.2.2.2.2.1⟩⟩⟩⟩)⟩, ⟨by (with_reducible repeat (first | apply Kd.R_alloc | apply Kd.R_drewN | apply Kd.R_drew)); exact Kd.R_mono HO_794006.out (fun _ hk => ⟨hk.1, ⟨hk.2.1, ⟨hk.2.2.1, ⟨hk.2.2.2.1, hk.2.2.2.2.1⟩⟩⟩⟩)⟩, ⟨by (with_reducible repeat (first | apply Kd.R_alloc | apply Kd.R_drewN | apply Kd.R_drew)); exact Kd.R_mono HO_807003.out (fun _ hk => ⟨hk.1.1.1, ⟨hk.1.1.2.1, ⟨hk.1.1.2.2.1, ⟨hk.1.1.2.2.2.1, hk.1.1.2.2.2.2⟩⟩⟩⟩)⟩, ⟨by (with_reducible repeat (first | apply Kd.R_alloc | apply Kd.R_drewN | apply Kd.R_drew)); exact Kd.R_mono HO_807006.out (fun _ hk => ⟨hk.1.1.1, ⟨hk.1.1.2.1, ⟨hk.1.1.2.2.1, ⟨hk.1.1.2.2.2.1, hk.1.1.2.2.2.2⟩⟩⟩⟩)⟩, ⟨by (with_reducible repeat (first | apply Kd.R_alloc | apply Kd.R_drewN | apply Kd.R_drew)); exact Kd.R_mono HO_821003.out (fun _ hk => ⟨hk.1, ⟨hk.2.1, ⟨hk.2.2.1, ⟨hk.2.2.2.1, hk.2.2.2.2.1⟩⟩⟩⟩)⟩, ⟨by (with_reducible repeat (first | apply Kd.R_alloc | apply Kd.R_drewN | apply Kd.R_drew)); exact Kd.R_mono HO_821006.out (fun _ hk => ⟨hk.1, ⟨hk.2.1, ⟨hk.2.2.1, ⟨hk.2.2.2.1, hk.2.2.2.2.1⟩⟩⟩⟩)⟩, ⟨zK BK766⟩, ⟨zK BK793⟩, ⟨zK BK806⟩, ⟨zK BK820⟩, ⟨zH4 HB GE766 GE793 GE806 GE820⟩⟩
       ·rw [if_neg c75] at H
        have c75b0 : decide (t835 < 0) = false := decide_eq_false c75
        clear c75
        (first | rw [c75b0] | (simp only [i64_w, i32_w]; rw [c75b0]) | skip)
        replace H := Option.bind_eq_some_iff.mp H
        obtain ⟨t838, A760, H⟩ := H
        replace H : (if t838 = true then (laws_FnExactLeave.j1 kj10 t792 (t819 != t792) a0_0 a0_1 a0_2 l0_3 a0_4 a0_5 l0_6 a0_7 t780 t781 t782 t783 t786 t787 t788 t791 t807 t808 t809 t810 t813 t814 t815 t818) else (laws_FnExactLeave.j1 kj10 t792 true a0_0 a0_1 a0_2 l0_3 a0_4 a0_5 l0_6 a0_7 t780 t781 t782 t783 t786 t787 t788 t791 t807 t808 t809 t810 t813 t814 t815 t818)) = some true := H
        have A76 := aK A760
        clear A760
        by_cases c77 : t838 = true
        ·subst c77
         have H1 : (laws_FnExactLeave.j1 kj10 t792 (t819 != t792) a0_0 a0_1 a0_2 l0_3 a0_4 a0_5 l0_6 a0_7 t780 t781 t782 t783 t786 t787 t788 t791 t807 t808 t809 t810 t813 t814 t815 t818) = some true := by first | (rw [if_pos rfl] at H; exact H) | rfl
         clear H
         have H := H1
         clear H1
         have H' := aK H
         clear H
         have hnb78 := NB820_766.out
         have hnc78 := NB766_820.out
         have hnb79 := NB820_793.out
         have hnc79 := NB793_820.out
         have hnb80 := NB820_806.out
         have hnc80 := NB806_820.out
         obtain ⟨hcz81_0, hcz81_1, hcz81_2, hcz81_3, hcz81_4, hcz81_5, hcz81_6, hcz81_7, hfz81_0, hfz81_1, hfz81_2, hfz81_3, hfz81_4, hfz81_5, hfz81_6, hfz81_7⟩ := cl8 BK820.out
         have hnb82 := NB793_766.out
         have hnc82 := NB766_793.out
         have hnb83 := NB793_806.out
         have hnc83 := NB806_793.out
         obtain ⟨hcz84_0, hcz84_1, hcz84_2, hcz84_3, hcz84_4, hcz84_5, hcz84_6, hcz84_7, hfz84_0, hfz84_1, hfz84_2, hfz84_3, hfz84_4, hfz84_5, hfz84_6, hfz84_7⟩ := cl8 BK793.out
         go_wp2_with (first | (go_at_call 19; (with_reducible refine (laws_eqGarden.calls kj10 t807 t808 t809 _ _ t810 t813 t814 _ _ t815 t818 t780 t781 t782 _ _ t783 t786 t787 _ _ t788 t791 true _ ?side1 ?side2 ?side3 ?side4 ?side5 ?side6 ?side7 ?side8 A76.out).mono ?_); (case side1 => exact zC (Kd.R_reads' HO_821003.out).2.2); (case side2 => exact (Kd.R_reads' HO_821003.out).2.1); (case side3 => exact zC (Kd.R_reads' HO_821006.out).2.2); (case side4 => exact (Kd.R_reads' HO_821006.out).2.1); (case side5 => exact zC (Kd.R_reads' HO_794003.out).2.2); (case side6 => exact (Kd.R_reads' HO_794003.out).2.1); (case side7 => exact zC (Kd.R_reads' HO_794006.out).2.2); (case side8 => exact (Kd.R_reads' HO_794006.out).2.1); rintro e w85 ⟨rfl, hb⟩; replace HO_794003 := aK (Kd.R_below (zA HO_794003) hb); replace HO_794006 := aK (Kd.R_below (zA HO_794006) hb); replace HO_807003 := aK (Kd.R_below (zA HO_807003) hb); replace HO_807006 := aK (Kd.R_below (zA HO_807006) hb); replace HO_821003 := aK (Kd.R_below (zA HO_821003) hb); replace HO_821006 := aK (Kd.R_below (zA HO_821006) hb); replace HO827 := aK (Kd.R_below (zA HO827) hb); replace HO832 := aK (Kd.R_below (zA HO832) hb); replace BK766 := zB BK766 hb; replace BK793 := zB BK793 hb; replace BK806 := zB BK806 hb; replace BK820 := zB BK820 hb; replace HB := aK (bSp (zH4 HB GE766 GE793 GE806 GE820) hb); (try clear hb); (try clear hb2); (try clear hk); (try clear hi)))
         go_meet
         case rel => exact ⟨_, ((t819 != t792)), (by first | rfl | (simp; done) | (simp [*]; done)), H', ⟨by have := HJ10.out; first | omega | exact Nat.le_refl _⟩, ⟨by (with_reducible repeat (first | apply Kd.R_alloc | apply Kd.R_drewN | apply Kd.R_drew)); exact Kd.R_mono HO_794003.out (fun _ hk => ⟨hk.1, ⟨hk.2.1, ⟨hk.2.2.1, ⟨hk.2.2.2.1, hk.2.2.2.2.1⟩⟩⟩⟩)⟩, ⟨by (with_reducible repeat (first | apply Kd.R_alloc | apply Kd.R_drewN | apply Kd.R_drew)); exact Kd.R_mono HO_794006.out (fun _ hk => ⟨hk.1, ⟨hk.2.1, ⟨hk.2.2.1, ⟨hk.2.2.2.1, hk.2.2.2.2.1⟩⟩⟩⟩)⟩, ⟨by (with_reducible repeat (first | apply Kd.R_alloc | apply Kd.R_drewN | apply Kd.R_drew)); exact Kd.R_mono HO_807003.out (fun _ hk => ⟨hk.1.1.1, ⟨hk.1.1.2.1, ⟨hk.1.1.2.2.1, ⟨hk.1.1.2.2.2.1, hk.1.1.2.2.2.2⟩⟩⟩⟩)⟩, ⟨by (with_reducible repeat (first | apply Kd.R_alloc | apply Kd.R_drewN | apply Kd.R_drew)); exact Kd.R_mono HO_807006.out (fun _ hk => ⟨hk.1.1.1, ⟨hk.1.1.2.1, ⟨hk.1.1.2.2.1, ⟨hk.1.1.2.2.2.1, hk.1.1.2.2.2.2⟩⟩⟩⟩)⟩, ⟨by (with_reducible repeat (first | apply Kd.R_alloc | apply Kd.R_drewN | apply Kd.R_drew)); exact Kd.R_mono HO_821003.out (fun _ hk => ⟨hk.1, ⟨hk.2.1, ⟨hk.2.2.1, ⟨hk.2.2.2.1, hk.2.2.2.2.1⟩⟩⟩⟩)⟩, ⟨by (with_reducible repeat (first | apply Kd.R_alloc | apply Kd.R_drewN | apply Kd.R_drew)); exact Kd.R_mono HO_821006.out (fun _ hk => ⟨hk.1, ⟨hk.2.1, ⟨hk.2.2.1, ⟨hk.2.2.2.1, hk.2.2.2.2.1⟩⟩⟩⟩)⟩, ⟨zK BK766⟩, ⟨zK BK793⟩, ⟨zK BK806⟩, ⟨zK BK820⟩, ⟨zH4 HB GE766 GE793 GE806 GE820⟩⟩
        ·replace c77 := Bool.eq_false_iff.mpr c77
         subst c77
         have H1 : (laws_FnExactLeave.j1 kj10 t792 true a0_0 a0_1 a0_2 l0_3 a0_4 a0_5 l0_6 a0_7 t780 t781 t782 t783 t786 t787 t788 t791 t807 t808 t809 t810 t813 t814 t815 t818) = some true := by rw [if_neg (show ¬ (false = true) by decide)] at H; exact H
         clear H
         have H := H1
         clear H1
         have H' := aK H
         clear H
         have hnb86 := NB820_766.out
         have hnc86 := NB766_820.out
         have hnb87 := NB820_793.out
         have hnc87 := NB793_820.out
         have hnb88 := NB820_806.out
         have hnc88 := NB806_820.out
         obtain ⟨hcz89_0, hcz89_1, hcz89_2, hcz89_3, hcz89_4, hcz89_5, hcz89_6, hcz89_7, hfz89_0, hfz89_1, hfz89_2, hfz89_3, hfz89_4, hfz89_5, hfz89_6, hfz89_7⟩ := cl8 BK820.out
         have hnb90 := NB793_766.out
         have hnc90 := NB766_793.out
         have hnb91 := NB793_806.out
         have hnc91 := NB806_793.out
         obtain ⟨hcz92_0, hcz92_1, hcz92_2, hcz92_3, hcz92_4, hcz92_5, hcz92_6, hcz92_7, hfz92_0, hfz92_1, hfz92_2, hfz92_3, hfz92_4, hfz92_5, hfz92_6, hfz92_7⟩ := cl8 BK793.out
         go_wp2_with (first | (go_at_call 19; (with_reducible refine (laws_eqGarden.calls kj10 t807 t808 t809 _ _ t810 t813 t814 _ _ t815 t818 t780 t781 t782 _ _ t783 t786 t787 _ _ t788 t791 false _ ?side1 ?side2 ?side3 ?side4 ?side5 ?side6 ?side7 ?side8 A76.out).mono ?_); (case side1 => exact zC (Kd.R_reads' HO_821003.out).2.2); (case side2 => exact (Kd.R_reads' HO_821003.out).2.1); (case side3 => exact zC (Kd.R_reads' HO_821006.out).2.2); (case side4 => exact (Kd.R_reads' HO_821006.out).2.1); (case side5 => exact zC (Kd.R_reads' HO_794003.out).2.2); (case side6 => exact (Kd.R_reads' HO_794003.out).2.1); (case side7 => exact zC (Kd.R_reads' HO_794006.out).2.2); (case side8 => exact (Kd.R_reads' HO_794006.out).2.1); rintro e w93 ⟨rfl, hb⟩; replace HO_794003 := aK (Kd.R_below (zA HO_794003) hb); replace HO_794006 := aK (Kd.R_below (zA HO_794006) hb); replace HO_807003 := aK (Kd.R_below (zA HO_807003) hb); replace HO_807006 := aK (Kd.R_below (zA HO_807006) hb); replace HO_821003 := aK (Kd.R_below (zA HO_821003) hb); replace HO_821006 := aK (Kd.R_below (zA HO_821006) hb); replace HO827 := aK (Kd.R_below (zA HO827) hb); replace HO832 := aK (Kd.R_below (zA HO832) hb); replace BK766 := zB BK766 hb; replace BK793 := zB BK793 hb; replace BK806 := zB BK806 hb; replace BK820 := zB BK820 hb; replace HB := aK (bSp (zH4 HB GE766 GE793 GE806 GE820) hb); (try clear hb); (try clear hb2); (try clear hk); (try clear hi)))
         go_meet
         case rel => exact ⟨_, (true), (by first | rfl | (simp; done) | (simp [*]; done)), H', ⟨by have := HJ10.out; first | omega | exact Nat.le_refl _⟩, ⟨by (with_reducible repeat (first | apply Kd.R_alloc | apply Kd.R_drewN | apply Kd.R_drew)); exact Kd.R_mono HO_794003.out (fun _ hk => ⟨hk.1, ⟨hk.2.1, ⟨hk.2.2.1, ⟨hk.2.2.2.1, hk.2.2.2.2.1⟩⟩⟩⟩)⟩, ⟨by (with_reducible repeat (first | apply Kd.R_alloc | apply Kd.R_drewN | apply Kd.R_drew)); exact Kd.R_mono HO_794006.out (fun _ hk => ⟨hk.1, ⟨hk.2.1, ⟨hk.2.2.1, ⟨hk.2.2.2.1, hk.2.2.2.2.1⟩⟩⟩⟩)⟩, ⟨by (with_reducible repeat (first | apply Kd.R_alloc | apply Kd.R_drewN | apply Kd.R_drew)); exact Kd.R_mono HO_807003.out (fun _ hk => ⟨hk.1.1.1, ⟨hk.1.1.2.1, ⟨hk.1.1.2.2.1, ⟨hk.1.1.2.2.2.1, hk.1.1.2.2.2.2⟩⟩⟩⟩)⟩, ⟨by (with_reducible repeat (first | apply Kd.R_alloc | apply Kd.R_drewN | apply Kd.R_drew)); exact Kd.R_mono HO_807006.out (fun _ hk => ⟨hk.1.1.1, ⟨hk.1.1.2.1, ⟨hk.1.1.2.2.1, ⟨hk.1.1.2.2.2.1, hk.1.1.2.2.2.2⟩⟩⟩⟩)⟩, ⟨by (with_reducible repeat (first | apply Kd.R_alloc | apply Kd.R_drewN | apply Kd.R_drew)); exact Kd.R_mono HO_821003.out (fun _ hk => ⟨hk.1, ⟨hk.2.1, ⟨hk.2.2.1, ⟨hk.2.2.2.1, hk.2.2.2.2.1⟩⟩⟩⟩)⟩, ⟨by (with_reducible repeat (first | apply Kd.R_alloc | apply Kd.R_drewN | apply Kd.R_drew)); exact Kd.R_mono HO_821006.out (fun _ hk => ⟨hk.1, ⟨hk.2.1, ⟨hk.2.2.1, ⟨hk.2.2.2.1, hk.2.2.2.2.1⟩⟩⟩⟩)⟩, ⟨zK BK766⟩, ⟨zK BK793⟩, ⟨zK BK806⟩, ⟨zK BK820⟩, ⟨zH4 HB GE766 GE793 GE806 GE820⟩⟩
      case rest =>
       clear HC64
       try clear c1
       try clear c2
       try clear p2
       try clear c3
       try clear c3b0
       try clear c4
       try clear c5
       try clear c6
       try clear c7
       try clear c8
       try clear c9
       try clear c15
       try clear c17
       try clear c19
       try clear c20
       try clear c21
       try clear c22
       try clear c23
       try clear c28
       try clear c29
       try clear c35
       try clear c36
       try clear c37
       try clear c42
       try clear c43
       try clear c44
       try clear c45
       try clear c47
       try clear c48
       try clear c51
       try clear c52
       try clear c53
       try clear c55
       try clear c56
       try clear c59
       try clear c62
       try clear c70
       try clear c71
       try clear c72
       try clear c75
       try clear c75b0
       try clear c77
       try clear c78
       try clear c79
       try clear c80
       try clear c82
       try clear c83
       try clear c86
       try clear c87
       try clear c88
       try clear c90
       try clear c91
       try clear hcz13_0
       try clear hcz13_1
       try clear hcz13_2
       try clear hcz13_3
       try clear hcz13_4
       try clear hcz13_5
       try clear hcz13_6
       try clear hcz13_7
       try clear hcz15_0
       try clear hcz15_1
       try clear hcz15_2
       try clear hcz15_3
       try clear hcz15_4
       try clear hcz15_5
       try clear hcz15_6
       try clear hcz15_7
       try clear hcz22_0
       try clear hcz22_1
       try clear hcz22_2
       try clear hcz22_3
       try clear hcz22_4
       try clear hcz22_5
       try clear hcz22_6
       try clear hcz22_7
       try clear hcz25_0
       try clear hcz25_1
       try clear hcz25_2
       try clear hcz25_3
       try clear hcz25_4
       try clear hcz25_5
       try clear hcz25_6
       try clear hcz25_7
       try clear hcz30_0
       try clear hcz30_1
       try clear hcz30_2
       try clear hcz30_3
       try clear hcz30_4
       try clear hcz30_5
       try clear hcz30_6
       try clear hcz30_7
       try clear hcz38_0
       try clear hcz38_1
       try clear hcz38_2
       try clear hcz38_3
       try clear hcz38_4
       try clear hcz38_5
       try clear hcz38_6
       try clear hcz38_7
       try clear hcz46_0
       try clear hcz46_1
       try clear hcz46_2
       try clear hcz46_3
       try clear hcz46_4
       try clear hcz46_5
       try clear hcz46_6
       try clear hcz46_7
       try clear hcz49_0
       try clear hcz49_1
       try clear hcz49_2
       try clear hcz49_3
       try clear hcz49_4
       try clear hcz49_5
       try clear hcz49_6
       try clear hcz49_7
       try clear hcz54_0
       try clear hcz54_1
       try clear hcz54_2
       try clear hcz54_3
       try clear hcz54_4
       try clear hcz54_5
       try clear hcz54_6
       try clear hcz54_7
       try clear hcz57_0
       try clear hcz57_1
       try clear hcz57_2
       try clear hcz57_3
       try clear hcz57_4
       try clear hcz57_5
       try clear hcz57_6
       try clear hcz57_7
       try clear hcz5_0
       try clear hcz5_1
       try clear hcz5_2
       try clear hcz5_3
       try clear hcz5_4
       try clear hcz5_5
       try clear hcz5_6
       try clear hcz5_7
       try clear hcz73_0
       try clear hcz73_1
       try clear hcz73_2
       try clear hcz73_3
       try clear hcz73_4
       try clear hcz73_5
       try clear hcz73_6
       try clear hcz73_7
       try clear hcz81_0
       try clear hcz81_1
       try clear hcz81_2
       try clear hcz81_3
       try clear hcz81_4
       try clear hcz81_5
       try clear hcz81_6
       try clear hcz81_7
       try clear hcz84_0
       try clear hcz84_1
       try clear hcz84_2
       try clear hcz84_3
       try clear hcz84_4
       try clear hcz84_5
       try clear hcz84_6
       try clear hcz84_7
       try clear hcz89_0
       try clear hcz89_1
       try clear hcz89_2
       try clear hcz89_3
       try clear hcz89_4
       try clear hcz89_5
       try clear hcz89_6
       try clear hcz89_7
       try clear hcz92_0
       try clear hcz92_1
       try clear hcz92_2
       try clear hcz92_3
       try clear hcz92_4
       try clear hcz92_5
       try clear hcz92_6
       try clear hcz92_7
       try clear hfz13_0
       try clear hfz13_1
       try clear hfz13_2
       try clear hfz13_3
       try clear hfz13_4
       try clear hfz13_5
       try clear hfz13_6
       try clear hfz13_7
       try clear hfz15_0
       try clear hfz15_1
       try clear hfz15_2
       try clear hfz15_3
       try clear hfz15_4
       try clear hfz15_5
       try clear hfz15_6
       try clear hfz15_7
       try clear hfz22_0
       try clear hfz22_1
       try clear hfz22_2
       try clear hfz22_3
       try clear hfz22_4
       try clear hfz22_5
       try clear hfz22_6
       try clear hfz22_7
       try clear hfz25_0
       try clear hfz25_1
       try clear hfz25_2
       try clear hfz25_3
       try clear hfz25_4
       try clear hfz25_5
       try clear hfz25_6
       try clear hfz25_7
       try clear hfz30_0
       try clear hfz30_1
       try clear hfz30_2
       try clear hfz30_3
       try clear hfz30_4
       try clear hfz30_5
       try clear hfz30_6
       try clear hfz30_7
       try clear hfz38_0
       try clear hfz38_1
       try clear hfz38_2
       try clear hfz38_3
       try clear hfz38_4
       try clear hfz38_5
       try clear hfz38_6
       try clear hfz38_7
       try clear hfz46_0
       try clear hfz46_1
       try clear hfz46_2
       try clear hfz46_3
       try clear hfz46_4
       try clear hfz46_5
       try clear hfz46_6
       try clear hfz46_7
       try clear hfz49_0
       try clear hfz49_1
       try clear hfz49_2
       try clear hfz49_3
       try clear hfz49_4
       try clear hfz49_5
       try clear hfz49_6
       try clear hfz49_7
       try clear hfz54_0
       try clear hfz54_1
       try clear hfz54_2
       try clear hfz54_3
       try clear hfz54_4
       try clear hfz54_5
       try clear hfz54_6
       try clear hfz54_7
       try clear hfz57_0
       try clear hfz57_1
       try clear hfz57_2
       try clear hfz57_3
       try clear hfz57_4
       try clear hfz57_5
       try clear hfz57_6
       try clear hfz57_7
       try clear hfz5_0
       try clear hfz5_1
       try clear hfz5_2
       try clear hfz5_3
       try clear hfz5_4
       try clear hfz5_5
       try clear hfz5_6
       try clear hfz5_7
       try clear hfz73_0
       try clear hfz73_1
       try clear hfz73_2
       try clear hfz73_3
       try clear hfz73_4
       try clear hfz73_5
       try clear hfz73_6
       try clear hfz73_7
       try clear hfz81_0
       try clear hfz81_1
       try clear hfz81_2
       try clear hfz81_3
       try clear hfz81_4
       try clear hfz81_5
       try clear hfz81_6
       try clear hfz81_7
       try clear hfz84_0
       try clear hfz84_1
       try clear hfz84_2
       try clear hfz84_3
       try clear hfz84_4
       try clear hfz84_5
       try clear hfz84_6
       try clear hfz84_7
       try clear hfz89_0
       try clear hfz89_1
       try clear hfz89_2
       try clear hfz89_3
       try clear hfz89_4
       try clear hfz89_5
       try clear hfz89_6
       try clear hfz89_7
       try clear hfz92_0
       try clear hfz92_1
       try clear hfz92_2
       try clear hfz92_3
       try clear hfz92_4
       try clear hfz92_5
       try clear hfz92_6
       try clear hfz92_7
       try clear p2
       obtain ⟨kq, x61_63, rfl, HA, HJ63, HO_794003, HO_794006, HO_807003, HO_807006, HO_821003, HO_821006, BK766, BK793, BK806, BK820, HB⟩ := hcut
       have hl807003_63 := (Kd.R_reads' HO_807003.out).1
       rw [hl807003_63] at HO_807003
       (try simp only [hl807003_63])
       (try simp only [hl807003_63] at BK766)
       (try simp only [hl807003_63] at BK793)
       (try simp only [hl807003_63] at BK806)
       (try simp only [hl807003_63] at BK820)
       (try simp only [hl807003_63] at HO_794003)
       (try simp only [hl807003_63] at HO_794006)
       (try simp only [hl807003_63] at HO_807006)
       (try simp only [hl807003_63] at HO_821003)
       (try simp only [hl807003_63] at HO_821006)
       have hl807006_63 := (Kd.R_reads' HO_807006.out).1
       rw [hl807006_63] at HO_807006
       (try simp only [hl807006_63])
       (try simp only [hl807006_63] at BK766)
       (try simp only [hl807006_63] at BK793)
       (try simp only [hl807006_63] at BK806)
       (try simp only [hl807006_63] at BK820)
       (try simp only [hl807006_63] at HO_794003)
       (try simp only [hl807006_63] at HO_794006)
       (try simp only [hl807006_63] at HO_807003)
       (try simp only [hl807006_63] at HO_821003)
       (try simp only [hl807006_63] at HO_821006)
       cases kq with
       | zero => exact absurd HA.out (by simp [laws_FnExactLeave.j1])
       | succ kj63 =>
        have H := HA.out
        clear HA
        simp only [laws_FnExactLeave.j1] at H
        by_cases c94 : x61_63 = true
        ·subst c94
         have H1 : (some false) = some true := by first | (rw [if_pos rfl] at H; exact H) | rfl
         clear H
         have H := H1
         clear H1
         exact absurd (Option.some.inj H) Bool.false_ne_true
        ·replace c94 := Bool.eq_false_iff.mpr c94
         subst c94
         have H1 : ((laws_markGarden.f kj63 t807 t808 t809 t810 t813 t814 t815 t818 1).bind fun bt839 => ((laws_heldGarden.f kj63 t807 t808 t809 bt839.2.1 t813 t814 bt839.2.2 t818 1).bind fun t842 => (if t842 < 0 then (some false) else (if t842 = bt839.1 then ((laws_toGarden.f kj63 a0_0 a0_1 a0_2 l0_3 a0_4 a0_5 l0_6 a0_7).bind fun bt843 => ((impl_Leave.f kj63 bt843.1 bt843.2.1 bt843.2.2.1 bt843.2.2.2.1 bt843.2.2.2.2.1 bt843.2.2.2.2.2.1 bt843.2.2.2.2.2.2.1 bt843.2.2.2.2.2.2.2).bind fun bt855 => ((laws_eqGarden.f kj63 bt855.1 bt855.2.1 bt855.2.2.1 bt855.2.2.2.1 bt855.2.2.2.2.1 bt855.2.2.2.2.2.1 bt855.2.2.2.2.2.2.1 bt855.2.2.2.2.2.2.2.1 t780 t781 t782 t783 t786 t787 t788 t791).bind fun t869 => (if t869 = true then (laws_FnExactLeave.j2 kj63 bt839.1 (bt855.2.2.2.2.2.2.2.2 != t792) t807 t808 t809 bt839.2.1 t813 t814 bt839.2.2 t818) else (laws_FnExactLeave.j2 kj63 bt839.1 true t807 t808 t809 bt839.2.1 t813 t814 bt839.2.2 t818))))) else (some false))))) = some true := by rw [if_neg (show ¬ (false = true) by decide)] at H; exact H
         clear H
         have H := H1
         clear H1
         replace H := Option.bind_eq_some_iff.mp H
         obtain ⟨⟨t839, t840, t841⟩, A950, H⟩ := H
         replace H : ((laws_heldGarden.f kj63 t807 t808 t809 t840 t813 t814 t841 t818 1).bind fun t842 => (if t842 < 0 then (some false) else (if t842 = t839 then ((laws_toGarden.f kj63 a0_0 a0_1 a0_2 l0_3 a0_4 a0_5 l0_6 a0_7).bind fun bt843 => ((impl_Leave.f kj63 bt843.1 bt843.2.1 bt843.2.2.1 bt843.2.2.2.1 bt843.2.2.2.2.1 bt843.2.2.2.2.2.1 bt843.2.2.2.2.2.2.1 bt843.2.2.2.2.2.2.2).bind fun bt855 => ((laws_eqGarden.f kj63 bt855.1 bt855.2.1 bt855.2.2.1 bt855.2.2.2.1 bt855.2.2.2.2.1 bt855.2.2.2.2.2.1 bt855.2.2.2.2.2.2.1 bt855.2.2.2.2.2.2.2.1 t780 t781 t782 t783 t786 t787 t788 t791).bind fun t869 => (if t869 = true then (laws_FnExactLeave.j2 kj63 t839 (bt855.2.2.2.2.2.2.2.2 != t792) t807 t808 t809 t840 t813 t814 t841 t818) else (laws_FnExactLeave.j2 kj63 t839 true t807 t808 t809 t840 t813 t814 t841 t818))))) else (some false)))) = some true := H
         have A95 := aK A950
         clear A950
         replace H := Option.bind_eq_some_iff.mp H
         obtain ⟨t842, A960, H⟩ := H
         replace H : (if t842 < 0 then (some false) else (if t842 = t839 then ((laws_toGarden.f kj63 a0_0 a0_1 a0_2 l0_3 a0_4 a0_5 l0_6 a0_7).bind fun bt843 => ((impl_Leave.f kj63 bt843.1 bt843.2.1 bt843.2.2.1 bt843.2.2.2.1 bt843.2.2.2.2.1 bt843.2.2.2.2.2.1 bt843.2.2.2.2.2.2.1 bt843.2.2.2.2.2.2.2).bind fun bt855 => ((laws_eqGarden.f kj63 bt855.1 bt855.2.1 bt855.2.2.1 bt855.2.2.2.1 bt855.2.2.2.2.1 bt855.2.2.2.2.2.1 bt855.2.2.2.2.2.2.1 bt855.2.2.2.2.2.2.2.1 t780 t781 t782 t783 t786 t787 t788 t791).bind fun t869 => (if t869 = true then (laws_FnExactLeave.j2 kj63 t839 (bt855.2.2.2.2.2.2.2.2 != t792) t807 t808 t809 t840 t813 t814 t841 t818) else (laws_FnExactLeave.j2 kj63 t839 true t807 t808 t809 t840 t813 t814 t841 t818))))) else (some false))) = some true := H
         have A96 := aK A960
         clear A960
         by_cases c97 : t842 < 0
         ·rw [if_pos c97] at H
          have c97b0 : decide (t842 < 0) = true := decide_eq_true c97
          clear c97
          exact absurd (Option.some.inj H) Bool.false_ne_true
         ·rw [if_neg c97] at H
          have c97b0 : decide (t842 < 0) = false := decide_eq_false c97
          clear c97
          by_cases c98 : t842 = t839
          ·rw [if_pos c98] at H
           have c98b0 : (t842 == t839) = true := beq_iff_eq.mpr c98
           have c98b1 : (t842 != t839) = false := bne_eq_false_iff_eq.mpr c98
           clear c98
           replace H := Option.bind_eq_some_iff.mp H
           obtain ⟨⟨t843, t844, t845, t846, t849, t850, t851, t854⟩, A990, H⟩ := H
           replace H : ((impl_Leave.f kj63 t843 t844 t845 t846 t849 t850 t851 t854).bind fun bt855 => ((laws_eqGarden.f kj63 bt855.1 bt855.2.1 bt855.2.2.1 bt855.2.2.2.1 bt855.2.2.2.2.1 bt855.2.2.2.2.2.1 bt855.2.2.2.2.2.2.1 bt855.2.2.2.2.2.2.2.1 t780 t781 t782 t783 t786 t787 t788 t791).bind fun t869 => (if t869 = true then (laws_FnExactLeave.j2 kj63 t839 (bt855.2.2.2.2.2.2.2.2 != t792) t807 t808 t809 t840 t813 t814 t841 t818) else (laws_FnExactLeave.j2 kj63 t839 true t807 t808 t809 t840 t813 t814 t841 t818)))) = some true := H
           have A99 := aK A990
           clear A990
           replace H := Option.bind_eq_some_iff.mp H
           obtain ⟨⟨t855, t856, t857, t858, t861, t862, t863, t866, t867⟩, A1000, H⟩ := H
           replace H : ((laws_eqGarden.f kj63 t855 t856 t857 t858 t861 t862 t863 t866 t780 t781 t782 t783 t786 t787 t788 t791).bind fun t869 => (if t869 = true then (laws_FnExactLeave.j2 kj63 t839 (t867 != t792) t807 t808 t809 t840 t813 t814 t841 t818) else (laws_FnExactLeave.j2 kj63 t839 true t807 t808 t809 t840 t813 t814 t841 t818))) = some true := H
           have A100 := aK A1000
           clear A1000
           have HC101 := aK H
           clear H
           have hnb102 := NB820_766.out
           have hnc102 := NB766_820.out
           have hnb103 := NB820_793.out
           have hnc103 := NB793_820.out
           have hnb104 := NB820_806.out
           have hnc104 := NB806_820.out
           obtain ⟨hcz105_0, hcz105_1, hcz105_2, hcz105_3, hcz105_4, hcz105_5, hcz105_6, hcz105_7, hfz105_0, hfz105_1, hfz105_2, hfz105_3, hfz105_4, hfz105_5, hfz105_6, hfz105_7⟩ := cl8 BK820.out
           go_upto_region 25 with (first | ((with_reducible refine gate_callee (f := 20) rfl ?_); refine goesL_ (some 64) rfl rfl Tryz.func20 (by kernel_rfl) rfl #[.agg #[.int .i64 t807, .int .i64 t808, .int .i64 t809, .slice Ao39 t810.length co39, .int .i64 t813, .int .i64 t814, .slice Ao40 t815.length co40, .int .i64 t818], .int .i64 1] rfl zD ?_; (with_reducible refine (laws_markGarden.calls kj63 t807 t808 t809 (fun k_ => some k_ = (.slice Ao39 t810.length co39 : Value).ownBlock) (.slice Ao39 t810.length co39) t810 t813 t814 (fun k_ => some k_ = (.slice Ao40 t815.length co40 : Value).ownBlock) (.slice Ao40 t815.length co40) t815 t818 1 t839 t840 t841 w _ ?side1 ?side2 ?side3 ?side4 ?side5 A95.out).mono ?_); (case side1 => exact (zH4 HB GE766 GE793 GE806 GE820)); (case side2 => exact Kd.R_tight rfl HO_821003.out); (case side3 => exact fun k_ e_ => (HO_821003.out.1 k_ e_.symm).2.2.2.2); (case side4 => exact Kd.R_tight rfl HO_821006.out); (case side5 => exact fun k_ e_ => (HO_821006.out.1 k_ e_.symm).2.2.2.2); rintro e w106 ⟨rfl, hy0, hy1, hb, hkp⟩; refine ⟨_, rfl, ?_⟩; replace HO_794003 := aK (Kd.R_mono (ok' := fun k_ => some k_ ≠ (.slice Ao24 t788.length co24 : Value).ownBlock ∧ some k_ ≠ (.slice Ao31 t836.length co31 : Value).ownBlock ∧ some k_ ≠ (.slice Ao32 t837.length co32 : Value).ownBlock ∧ some k_ ≠ (.slice Ao39 t810.length co39 : Value).ownBlock ∧ some k_ ≠ (.slice Ao40 t815.length co40 : Value).ownBlock) (Kd.R_keptB (HO_794003.out) hkp (fun k_ hk_ hs_ => Or.elim hs_ (hk_.2.2.2.1) (hk_.2.2.2.2))) (fun k_ hk_ => ⟨hk_.1.1, hk_.1.2.1, hk_.1.2.2.1, hk_.1.2.2.2.1, hk_.1.2.2.2.2⟩)); replace HO_794006 := aK (Kd.R_mono (ok' := fun k_ => some k_ ≠ (.slice Ao23 t783.length co23 : Value).ownBlock ∧ some k_ ≠ (.slice Ao31 t836.length co31 : Value).ownBlock ∧ some k_ ≠ (.slice Ao32 t837.length co32 : Value).ownBlock ∧ some k_ ≠ (.slice Ao39 t810.length co39 : Value).ownBlock ∧ some k_ ≠ (.slice Ao40 t815.length co40 : Value).ownBlock) (Kd.R_keptB (HO_794006.out) hkp (fun k_ hk_ hs_ => Or.elim hs_ (hk_.2.2.2.1) (hk_.2.2.2.2))) (fun k_ hk_ => ⟨hk_.1.1, hk_.1.2.1, hk_.1.2.2.1, hk_.1.2.2.2.1, hk_.1.2.2.2.2⟩)); replace HO_807003 := aK (Kd.R_mono (ok' := fun k_ => some k_ ≠ (.slice Ao23 t783.length co23 : Value).ownBlock ∧ some k_ ≠ (.slice Ao24 t788.length co24 : Value).ownBlock ∧ some k_ ≠ (.slice Ao32 t837.length co32 : Value).ownBlock ∧ some k_ ≠ (.slice Ao39 t810.length co39 : Value).ownBlock ∧ some k_ ≠ (.slice Ao40 t815.length co40 : Value).ownBlock) (Kd.R_keptB (HO_807003.out) hkp (fun k_ hk_ hs_ => Or.elim hs_ (hk_.2.2.2.1) (hk_.2.2.2.2))) (fun k_ hk_ => ⟨hk_.1.1, hk_.1.2.1, hk_.1.2.2.1, hk_.1.2.2.2.1, hk_.1.2.2.2.2⟩)); replace HO_807006 := aK (Kd.R_mono (ok' := fun k_ => some k_ ≠ (.slice Ao23 t783.length co23 : Value).ownBlock ∧ some k_ ≠ (.slice Ao24 t788.length co24 : Value).ownBlock ∧ some k_ ≠ (.slice Ao31 t836.length co31 : Value).ownBlock ∧ some k_ ≠ (.slice Ao39 t810.length co39 : Value).ownBlock ∧ some k_ ≠ (.slice Ao40 t815.length co40 : Value).ownBlock) (Kd.R_keptB (HO_807006.out) hkp (fun k_ hk_ hs_ => Or.elim hs_ (hk_.2.2.2.1) (hk_.2.2.2.2))) (fun k_ hk_ => ⟨hk_.1.1, hk_.1.2.1, hk_.1.2.2.1, hk_.1.2.2.2.1, hk_.1.2.2.2.2⟩)); replace BK766 := aK (blk_kept (zK BK766) hkp (fun hs_ => Or.elim hs_ (Kd.R_ne HO_821003.out BK766.out (by decide)) (Kd.R_ne HO_821006.out BK766.out (by decide)))); replace BK793 := aK (blk_kept (zK BK793) hkp (fun hs_ => Or.elim hs_ (Kd.R_ne HO_821003.out BK793.out (by decide)) (Kd.R_ne HO_821006.out BK793.out (by decide)))); replace BK806 := aK (blk_kept (zK BK806) hkp (fun hs_ => Or.elim hs_ (Kd.R_ne HO_821003.out BK806.out (by decide)) (Kd.R_ne HO_821006.out BK806.out (by decide)))); replace BK820 := aK (blk_kept (zK BK820) hkp (fun hs_ => Or.elim hs_ (Kd.R_ne HO_821003.out BK820.out (by decide)) (Kd.R_ne HO_821006.out BK820.out (by decide)))); replace HO_821003 := aK (Kd.R_reok rfl hy0 (fun k_ e_ => HO_821003.out.1 k_ e_)); replace HO_821006 := aK (Kd.R_reok rfl hy1 (fun k_ e_ => HO_821006.out.1 k_ e_)); replace HB := aK (hb); (try clear hb); (try clear hkp); (try clear hy0); (try clear hy1); obtain ⟨hcz107_0, hcz107_1, hcz107_2, hcz107_3, hcz107_4, hcz107_5, hcz107_6, hcz107_7, hfz107_0, hfz107_1, hfz107_2, hfz107_3, hfz107_4, hfz107_5, hfz107_6, hfz107_7⟩ := cl8 BK820.out) | ((with_reducible refine gate_callee (f := 21) rfl ?_); refine goesL_ (some 67) rfl rfl Tryz.func21 (by kernel_rfl) rfl #[.agg #[.int .i64 t807, .int .i64 t808, .int .i64 t809, .slice Ao39 t840.length co39, .int .i64 t813, .int .i64 t814, .slice Ao40 t841.length co40, .int .i64 t818], .int .i64 1] rfl (by (try simp only [List.map_toArray, List.map_cons, List.map_nil]); first | done | (rw [show t840.length = t810.length from (Kd.R_reads' HO_821003.out).1.symm, show t841.length = t815.length from (Kd.R_reads' HO_821006.out).1.symm] <;> rfl) | rfl | (simp only [List.length_drop, List.length_take]; rfl)) ?_; (with_reducible refine (laws_heldGarden.calls kj63 t807 t808 t809 _ _ t840 t813 t814 _ _ t841 t818 1 t842 _ ?side1 ?side2 ?side3 ?side4 A96.out).mono ?_); (case side1 => exact zC (Kd.R_reads' HO_821003.out).2.2); (case side2 => rw [show t840.length = t810.length from (Kd.R_reads' HO_821003.out).1.symm]; exact (Kd.R_reads' HO_821003.out).2.1); (case side3 => exact zC (Kd.R_reads' HO_821006.out).2.2); (case side4 => rw [show t841.length = t815.length from (Kd.R_reads' HO_821006.out).1.symm]; exact (Kd.R_reads' HO_821006.out).2.1); rintro e w108 ⟨rfl, hb⟩; refine ⟨_, rfl, ?_⟩; replace HO_794003 := aK (Kd.R_below (zA HO_794003) hb); replace HO_794006 := aK (Kd.R_below (zA HO_794006) hb); replace HO_807003 := aK (Kd.R_below (zA HO_807003) hb); replace HO_807006 := aK (Kd.R_below (zA HO_807006) hb); replace HO_821003 := aK (Kd.R_below (zA HO_821003) hb); replace HO_821006 := aK (Kd.R_below (zA HO_821006) hb); replace BK766 := zB BK766 hb; replace BK793 := zB BK793 hb; replace BK806 := zB BK806 hb; replace BK820 := zB BK820 hb; replace HB := aK (bSp (zH4 HB GE766 GE793 GE806 GE820) hb); (try clear hb); (try clear hb2); (try clear hk); (try clear hi); have hnb109 := NB766_793.out; have hnc109 := NB793_766.out; have hnb110 := NB766_806.out; have hnc110 := NB806_766.out; obtain ⟨hcz111_0, hcz111_1, hcz111_2, hcz111_3, hcz111_4, hcz111_5, hcz111_6, hcz111_7, hfz111_0, hfz111_1, hfz111_2, hfz111_3, hfz111_4, hfz111_5, hfz111_6, hfz111_7⟩ := cl8 BK766.out) | ((with_reducible refine gate_callee (f := 17) rfl ?_); refine goesL_ (some 75) rfl rfl Tryz.func17 (by kernel_rfl) rfl #[.agg #[.int .i64 a0_0, .int .i64 a0_1, .int .i64 a0_2, .slice A0_3 l0_3.length c0_3, .int .i64 a0_4, .int .i64 a0_5, .slice A0_6 l0_6.length c0_6, .int .i64 a0_7]] rfl zD ?_; (with_reducible refine (laws_toGarden.calls kj63 a0_0 a0_1 a0_2 _ _ l0_3 a0_4 a0_5 _ _ l0_6 a0_7 t843 t844 t845 t846 t849 t850 t851 t854 _ ?side1 ?side2 ?side3 ?side4 A99.out).mono ?_); (case side1 => exact zC (Kd.C_below HR0_3.out HB.out)); (case side2 => exact HC0_3.out); (case side3 => exact zC (Kd.C_below HR0_6.out HB.out)); (case side4 => exact HC0_6.out); rintro e w112 ⟨v847, v852, rfl, ho0, ho1, hb⟩; refine ⟨_, rfl, ?_⟩; have HO848 := aK (Kd.R_lower (Kd.R_new' (Kd.R_new' (Kd.R_new' (Kd.R_new' (Kd.R_new' (Kd.R_new' ho0 (Kd.R_lt (zA HO_794003))) (Kd.R_lt (zA HO_794006))) (Kd.R_lt (zA HO_807003))) (Kd.R_lt (zA HO_807006))) (Kd.R_lt (zA HO_821003))) (Kd.R_lt (zA HO_821006))) (bSz (zH4 HB GE766 GE793 GE806 GE820))); have HO853 := aK (Kd.R_lower (Kd.R_new' (Kd.R_new' (Kd.R_new' (Kd.R_new' (Kd.R_new' (Kd.R_new' ho1 (Kd.R_lt (zA HO_794003))) (Kd.R_lt (zA HO_794006))) (Kd.R_lt (zA HO_807003))) (Kd.R_lt (zA HO_807006))) (Kd.R_lt (zA HO_821003))) (Kd.R_lt (zA HO_821006))) (bSz (zH4 HB GE766 GE793 GE806 GE820))); replace HO_794003 := aK (Kd.R_mono (Kd.R_told (Kd.R_told (Kd.R_old (zA HO_794003) hb) (Kd.R_base ho0)) (Kd.R_base ho1)) (fun _ h_ => h_.1)); replace HO_794006 := aK (Kd.R_mono (Kd.R_told (Kd.R_told (Kd.R_old (zA HO_794006) hb) (Kd.R_base ho0)) (Kd.R_base ho1)) (fun _ h_ => h_.1)); replace HO_807003 := aK (Kd.R_mono (Kd.R_told (Kd.R_told (Kd.R_old (zA HO_807003) hb) (Kd.R_base ho0)) (Kd.R_base ho1)) (fun _ h_ => h_.1)); replace HO_807006 := aK (Kd.R_mono (Kd.R_told (Kd.R_told (Kd.R_old (zA HO_807006) hb) (Kd.R_base ho0)) (Kd.R_base ho1)) (fun _ h_ => h_.1)); replace HO_821003 := aK (Kd.R_mono (Kd.R_told (Kd.R_told (Kd.R_old (zA HO_821003) hb) (Kd.R_base ho0)) (Kd.R_base ho1)) (fun _ h_ => h_.1)); replace HO_821006 := aK (Kd.R_mono (Kd.R_told (Kd.R_told (Kd.R_old (zA HO_821006) hb) (Kd.R_base ho0)) (Kd.R_base ho1)) (fun _ h_ => h_.1)); replace BK766 := zB BK766 hb; replace BK793 := zB BK793 hb; replace BK806 := zB BK806 hb; replace BK820 := zB BK820 hb; replace HB := aK (bSp (zH4 HB GE766 GE793 GE806 GE820) hb); (try clear hb); (try clear hb2); (try clear hk); (try clear hi); (try clear ho0); (try clear ho1); obtain ⟨Ao113, co113, eo113⟩ := Kd.R_slice HO848.out; subst eo113; obtain ⟨Ao114, co114, eo114⟩ := Kd.R_slice HO853.out; subst eo114) | ((with_reducible refine gate_callee (f := 23) rfl ?_); refine goesL_ (some 76) rfl rfl Tryz.func23 (by kernel_rfl) rfl #[.agg #[.int .i64 t843, .int .i64 t844, .int .i64 t845, .slice Ao113 t846.length co113, .int .i64 t849, .int .i64 t850, .slice Ao114 t851.length co114, .int .i64 t854]] rfl zD ?_; (with_reducible refine (impl_Leave.calls kj63 t843 t844 t845 _ _ t846 t849 t850 _ _ t851 t854 t855 t856 t857 t858 t861 t862 t863 t866 t867 _ ?side1 ?side2 ?side3 ?side4 A100.out).mono ?_); (case side1 => exact zC (Kd.R_reads' HO848.out).2.2); (case side2 => exact (Kd.R_reads' HO848.out).2.1); (case side3 => exact zC (Kd.R_reads' HO853.out).2.2); (case side4 => exact (Kd.R_reads' HO853.out).2.1); rintro e w115 ⟨v859, v864, rfl, ho0, ho1, hb⟩; refine ⟨_, rfl, ?_⟩; have HO860 := aK (Kd.R_lower (Kd.R_new' (Kd.R_new' (Kd.R_new' (Kd.R_new' (Kd.R_new' (Kd.R_new' (Kd.R_new' (Kd.R_new' ho0 (Kd.R_lt (zA HO_794003))) (Kd.R_lt (zA HO_794006))) (Kd.R_lt (zA HO_807003))) (Kd.R_lt (zA HO_807006))) (Kd.R_lt (zA HO_821003))) (Kd.R_lt (zA HO_821006))) (Kd.R_lt (zA HO848))) (Kd.R_lt (zA HO853))) (bSz (zH4 HB GE766 GE793 GE806 GE820))); have HO865 := aK (Kd.R_lower (Kd.R_new' (Kd.R_new' (Kd.R_new' (Kd.R_new' (Kd.R_new' (Kd.R_new' (Kd.R_new' (Kd.R_new' ho1 (Kd.R_lt (zA HO_794003))) (Kd.R_lt (zA HO_794006))) (Kd.R_lt (zA HO_807003))) (Kd.R_lt (zA HO_807006))) (Kd.R_lt (zA HO_821003))) (Kd.R_lt (zA HO_821006))) (Kd.R_lt (zA HO848))) (Kd.R_lt (zA HO853))) (bSz (zH4 HB GE766 GE793 GE806 GE820))); replace HO_794003 := aK (Kd.R_mono (Kd.R_told (Kd.R_told (Kd.R_old (zA HO_794003) hb) (Kd.R_base ho0)) (Kd.R_base ho1)) (fun _ h_ => h_.1)); replace HO_794006 := aK (Kd.R_mono (Kd.R_told (Kd.R_told (Kd.R_old (zA HO_794006) hb) (Kd.R_base ho0)) (Kd.R_base ho1)) (fun _ h_ => h_.1)); replace HO_807003 := aK (Kd.R_mono (Kd.R_told (Kd.R_told (Kd.R_old (zA HO_807003) hb) (Kd.R_base ho0)) (Kd.R_base ho1)) (fun _ h_ => h_.1)); replace HO_807006 := aK (Kd.R_mono (Kd.R_told (Kd.R_told (Kd.R_old (zA HO_807006) hb) (Kd.R_base ho0)) (Kd.R_base ho1)) (fun _ h_ => h_.1)); replace HO_821003 := aK (Kd.R_mono (Kd.R_told (Kd.R_told (Kd.R_old (zA HO_821003) hb) (Kd.R_base ho0)) (Kd.R_base ho1)) (fun _ h_ => h_.1)); replace HO_821006 := aK (Kd.R_mono (Kd.R_told (Kd.R_told (Kd.R_old (zA HO_821006) hb) (Kd.R_base ho0)) (Kd.R_base ho1)) (fun _ h_ => h_.1)); replace HO848 := aK (Kd.R_mono (Kd.R_told (Kd.R_told (Kd.R_old (zA HO848) hb) (Kd.R_base ho0)) (Kd.R_base ho1)) (fun _ h_ => h_.1)); replace HO853 := aK (Kd.R_mono (Kd.R_told (Kd.R_told (Kd.R_old (zA HO853) hb) (Kd.R_base ho0)) (Kd.R_base ho1)) (fun _ h_ => h_.1)); replace BK766 := zB BK766 hb; replace BK793 := zB BK793 hb; replace BK806 := zB BK806 hb; replace BK820 := zB BK820 hb; replace HB := aK (bSp (zH4 HB GE766 GE793 GE806 GE820) hb); (try clear hb); (try clear hb2); (try clear hk); (try clear hi); (try clear ho0); (try clear ho1)) | ((with_reducible refine gate_dst (N := 12) rfl ?_); refine box_event ?hg (N := 12) ?hd (cs := #[.int .i64 0, .int .i64 0, .int .i64 0, .slice none 0 0, .int .i64 0, .int .i64 0, .slice none 0 0, .int .i64 0]) (t := 38) ?hr ?_; (case hd => rfl); (case hg => rfl); (case hr => first | (go_simp; done) | (go_simp; rfl)); intro gb868 hg w116 hbox hb; replace HO_794003 := aK (Kd.R_below (zA HO_794003) hb); replace HO_794006 := aK (Kd.R_below (zA HO_794006) hb); replace HO_807003 := aK (Kd.R_below (zA HO_807003) hb); replace HO_807006 := aK (Kd.R_below (zA HO_807006) hb); replace HO_821003 := aK (Kd.R_below (zA HO_821003) hb); replace HO_821006 := aK (Kd.R_below (zA HO_821006) hb); replace HO848 := aK (Kd.R_below (zA HO848) hb); replace HO853 := aK (Kd.R_below (zA HO853) hb); replace HO860 := aK (Kd.R_below (zA HO860) hb); replace HO865 := aK (Kd.R_below (zA HO865) hb); have BK868 := aK (hbox); have GW868 := aK ((by rw [hg]; exact (bSz (zH4 HB GE766 GE793 GE806 GE820)) : w.heap.size ≤ gb868)); replace HB := aK (bSp (zH4 HB GE766 GE793 GE806 GE820) hb); have GE868 := GW868; have NB766_868 := nbl BK766 hg (by intro z_; (with_reducible repeat (first | refine kDN ?_ _ | refine kD ?_ | refine kA ?_ _)); exact z_); replace BK766 := zB BK766 hb; have NB868_766 := nbs NB766_868; have NB793_868 := nbl BK793 hg (by intro z_; (with_reducible repeat (first | refine kDN ?_ _ | refine kD ?_ | refine kA ?_ _)); exact z_); replace BK793 := zB BK793 hb; have NB868_793 := nbs NB793_868; have NB806_868 := nbl BK806 hg (by intro z_; (with_reducible repeat (first | refine kDN ?_ _ | refine kD ?_ | refine kA ?_ _)); exact z_); replace BK806 := zB BK806 hb; have NB868_806 := nbs NB806_868; have NB820_868 := nbl BK820 hg (by intro z_; (with_reducible repeat (first | refine kDN ?_ _ | refine kD ?_ | refine kA ?_ _)); exact z_); replace BK820 := zB BK820 hb; have NB868_820 := nbs NB820_868; clear hb hbox hg; have hnb117 := NB868_766.out; have hnc117 := NB766_868.out; have hnb118 := NB868_793.out; have hnc118 := NB793_868.out; have hnb119 := NB868_806.out; have hnc119 := NB806_868.out; have hnb120 := NB868_820.out; have hnc120 := NB820_868.out; obtain ⟨hcz121_0, hcz121_1, hcz121_2, hcz121_3, hcz121_4, hcz121_5, hcz121_6, hcz121_7, hfz121_0, hfz121_1, hfz121_2, hfz121_3, hfz121_4, hfz121_5, hfz121_6, hfz121_7⟩ := cl8 BK868.out; obtain ⟨Ao122, co122, eo122⟩ := Kd.R_slice HO860.out; subst eo122; obtain ⟨Ao123, co123, eo123⟩ := Kd.R_slice HO865.out; subst eo123))
           (try simp only [Act.put, sTA, sZ, sS])
           go_cut [87] (fun v87 wc => ∃ (kq : Nat) (x87_100 : Bool), v87 = .bool x87_100 ∧ Aside0 (laws_FnExactLeave.j2 kq t839 x87_100 t807 t808 t809 t840 t813 t814 t841 t818 = some true) ∧ Aside0 (kq ≤ kj63) ∧ Aside0 (Kd.R (Kd.int .i64) 3 wc w.heap.size (fun k_ => some k_ ≠ ((.slice Ao24 t788.length co24) : Value).ownBlock ∧ some k_ ≠ ((.slice Ao31 t836.length co31) : Value).ownBlock ∧ some k_ ≠ ((.slice Ao32 t837.length co32) : Value).ownBlock ∧ some k_ ≠ ((.slice Ao39 t810.length co39) : Value).ownBlock ∧ some k_ ≠ ((.slice Ao40 t815.length co40) : Value).ownBlock ∧ some k_ ≠ ((.slice Ao122 t858.length co122) : Value).ownBlock ∧ some k_ ≠ ((.slice Ao123 t863.length co123) : Value).ownBlock) (.slice Ao23 t783.length co23) t783) ∧ Aside0 (Kd.R (Kd.int .i64) 3 wc w.heap.size (fun k_ => some k_ ≠ ((.slice Ao23 t783.length co23) : Value).ownBlock ∧ some k_ ≠ ((.slice Ao31 t836.length co31) : Value).ownBlock ∧ some k_ ≠ ((.slice Ao32 t837.length co32) : Value).ownBlock ∧ some k_ ≠ ((.slice Ao39 t810.length co39) : Value).ownBlock ∧ some k_ ≠ ((.slice Ao40 t815.length co40) : Value).ownBlock ∧ some k_ ≠ ((.slice Ao122 t858.length co122) : Value).ownBlock ∧ some k_ ≠ ((.slice Ao123 t863.length co123) : Value).ownBlock) (.slice Ao24 t788.length co24) t788) ∧ Aside0 (Kd.R (Kd.int .i64) 3 wc w.heap.size (fun k_ => some k_ ≠ ((.slice Ao23 t783.length co23) : Value).ownBlock ∧ some k_ ≠ ((.slice Ao24 t788.length co24) : Value).ownBlock ∧ some k_ ≠ ((.slice Ao32 t837.length co32) : Value).ownBlock ∧ some k_ ≠ ((.slice Ao39 t810.length co39) : Value).ownBlock ∧ some k_ ≠ ((.slice Ao40 t815.length co40) : Value).ownBlock ∧ some k_ ≠ ((.slice Ao122 t858.length co122) : Value).ownBlock ∧ some k_ ≠ ((.slice Ao123 t863.length co123) : Value).ownBlock) (.slice Ao31 t836.length co31) t836) ∧ Aside0 (Kd.R (Kd.int .i64) 3 wc w.heap.size (fun k_ => some k_ ≠ ((.slice Ao23 t783.length co23) : Value).ownBlock ∧ some k_ ≠ ((.slice Ao24 t788.length co24) : Value).ownBlock ∧ some k_ ≠ ((.slice Ao31 t836.length co31) : Value).ownBlock ∧ some k_ ≠ ((.slice Ao39 t810.length co39) : Value).ownBlock ∧ some k_ ≠ ((.slice Ao40 t815.length co40) : Value).ownBlock ∧ some k_ ≠ ((.slice Ao122 t858.length co122) : Value).ownBlock ∧ some k_ ≠ ((.slice Ao123 t863.length co123) : Value).ownBlock) (.slice Ao32 t837.length co32) t837) ∧ Aside0 (Kd.R (Kd.int .i64) 3 wc w.heap.size (fun k_ => some k_ ≠ ((.slice Ao23 t783.length co23) : Value).ownBlock ∧ some k_ ≠ ((.slice Ao24 t788.length co24) : Value).ownBlock ∧ some k_ ≠ ((.slice Ao31 t836.length co31) : Value).ownBlock ∧ some k_ ≠ ((.slice Ao32 t837.length co32) : Value).ownBlock ∧ some k_ ≠ ((.slice Ao40 t815.length co40) : Value).ownBlock ∧ some k_ ≠ ((.slice Ao122 t858.length co122) : Value).ownBlock ∧ some k_ ≠ ((.slice Ao123 t863.length co123) : Value).ownBlock) (.slice Ao39 t810.length co39) t840) ∧ Aside0 (Kd.R (Kd.int .i64) 3 wc w.heap.size (fun k_ => some k_ ≠ ((.slice Ao23 t783.length co23) : Value).ownBlock ∧ some k_ ≠ ((.slice Ao24 t788.length co24) : Value).ownBlock ∧ some k_ ≠ ((.slice Ao31 t836.length co31) : Value).ownBlock ∧ some k_ ≠ ((.slice Ao32 t837.length co32) : Value).ownBlock ∧ some k_ ≠ ((.slice Ao39 t810.length co39) : Value).ownBlock ∧ some k_ ≠ ((.slice Ao122 t858.length co122) : Value).ownBlock ∧ some k_ ≠ ((.slice Ao123 t863.length co123) : Value).ownBlock) (.slice Ao40 t815.length co40) t841) ∧ Aside0 (Kd.R (Kd.int .i64) 3 wc w.heap.size (fun k_ => some k_ ≠ ((.slice Ao23 t783.length co23) : Value).ownBlock ∧ some k_ ≠ ((.slice Ao24 t788.length co24) : Value).ownBlock ∧ some k_ ≠ ((.slice Ao31 t836.length co31) : Value).ownBlock ∧ some k_ ≠ ((.slice Ao32 t837.length co32) : Value).ownBlock ∧ some k_ ≠ ((.slice Ao39 t810.length co39) : Value).ownBlock ∧ some k_ ≠ ((.slice Ao40 t815.length co40) : Value).ownBlock ∧ some k_ ≠ ((.slice Ao123 t863.length co123) : Value).ownBlock) (.slice Ao122 t858.length co122) t858) ∧ Aside0 (Kd.R (Kd.int .i64) 3 wc w.heap.size (fun k_ => some k_ ≠ ((.slice Ao23 t783.length co23) : Value).ownBlock ∧ some k_ ≠ ((.slice Ao24 t788.length co24) : Value).ownBlock ∧ some k_ ≠ ((.slice Ao31 t836.length co31) : Value).ownBlock ∧ some k_ ≠ ((.slice Ao32 t837.length co32) : Value).ownBlock ∧ some k_ ≠ ((.slice Ao39 t810.length co39) : Value).ownBlock ∧ some k_ ≠ ((.slice Ao40 t815.length co40) : Value).ownBlock ∧ some k_ ≠ ((.slice Ao122 t858.length co122) : Value).ownBlock) (.slice Ao123 t863.length co123) t863) ∧ Aside0 (wc.heap[gb766]? = some (.cells #[.int .i64 a0_0, .int .i64 a0_1, .int .i64 a0_2, (.slice A0_3 l0_3.length c0_3), .int .i64 a0_4, .int .i64 a0_5, (.slice A0_6 l0_6.length c0_6), .int .i64 a0_7] 30 (0, 0))) ∧ Aside0 (wc.heap[gb793]? = some (.cells #[.int .i64 t780, .int .i64 t781, .int .i64 t782, (.slice Ao23 t783.length co23), .int .i64 t786, .int .i64 t787, (.slice Ao24 t788.length co24), .int .i64 t791] 38 (0, 0))) ∧ Aside0 (wc.heap[gb806]? = some (.cells #[.int .i64 t794, .int .i64 t795, .int .i64 t796, (.slice Ao31 t836.length co31), .int .i64 t800, .int .i64 t801, (.slice Ao32 t837.length co32), .int .i64 t805] 38 (0, 0))) ∧ Aside0 (wc.heap[gb820]? = some (.cells #[.int .i64 t807, .int .i64 t808, .int .i64 t809, (.slice Ao39 t810.length co39), .int .i64 t813, .int .i64 t814, (.slice Ao40 t815.length co40), .int .i64 t818] 38 (0, 0))) ∧ Aside0 (wc.heap[gb868]? = some (.cells #[.int .i64 t855, .int .i64 t856, .int .i64 t857, (.slice Ao122 t858.length co122), .int .i64 t861, .int .i64 t862, (.slice Ao123 t863.length co123), .int .i64 t866] 38 (0, 0))) ∧ Aside0 (Below w.heap.size w wc))
           case first =>
            have H := HC101.out
            clear HC101
            replace H := Option.bind_eq_some_iff.mp H
            obtain ⟨t869, A1240, H⟩ := H
            replace H : (if t869 = true then (laws_FnExactLeave.j2 kj63 t839 (t867 != t792) t807 t808 t809 t840 t813 t814 t841 t818) else (laws_FnExactLeave.j2 kj63 t839 true t807 t808 t809 t840 t813 t814 t841 t818)) = some true := H
            have A124 := aK A1240
            clear A1240
            by_cases c125 : t869 = true
            ·subst c125
             have H1 : (laws_FnExactLeave.j2 kj63 t839 (t867 != t792) t807 t808 t809 t840 t813 t814 t841 t818) = some true := by first | (rw [if_pos rfl] at H; exact H) | rfl
             clear H
             have H := H1
             clear H1
             have H' := aK H
             clear H
             have hnb126 := NB868_766.out
             have hnc126 := NB766_868.out
             have hnb127 := NB868_793.out
             have hnc127 := NB793_868.out
             have hnb128 := NB868_806.out
             have hnc128 := NB806_868.out
             have hnb129 := NB868_820.out
             have hnc129 := NB820_868.out
             obtain ⟨hcz130_0, hcz130_1, hcz130_2, hcz130_3, hcz130_4, hcz130_5, hcz130_6, hcz130_7, hfz130_0, hfz130_1, hfz130_2, hfz130_3, hfz130_4, hfz130_5, hfz130_6, hfz130_7⟩ := cl8 BK868.out
             have hnb131 := NB793_766.out
             have hnc131 := NB766_793.out
             have hnb132 := NB793_806.out
             have hnc132 := NB806_793.out
             have hnb133 := NB793_820.out
             have hnc133 := NB820_793.out
             obtain ⟨hcz134_0, hcz134_1, hcz134_2, hcz134_3, hcz134_4, hcz134_5, hcz134_6, hcz134_7, hfz134_0, hfz134_1, hfz134_2, hfz134_3, hfz134_4, hfz134_5, hfz134_6, hfz134_7⟩ := cl8 BK793.out
             go_wp2_with (first | ((with_reducible refine gate_callee (f := 19) rfl ?_); refine goesL_ (some 81) rfl rfl Tryz.func19 (by kernel_rfl) rfl #[.agg #[.int .i64 t855, .int .i64 t856, .int .i64 t857, .slice Ao122 t858.length co122, .int .i64 t861, .int .i64 t862, .slice Ao123 t863.length co123, .int .i64 t866], .agg #[.int .i64 t780, .int .i64 t781, .int .i64 t782, .slice Ao23 t783.length co23, .int .i64 t786, .int .i64 t787, .slice Ao24 t788.length co24, .int .i64 t791]] rfl zD ?_; (with_reducible refine (laws_eqGarden.calls kj63 t855 t856 t857 _ _ t858 t861 t862 _ _ t863 t866 t780 t781 t782 _ _ t783 t786 t787 _ _ t788 t791 true _ ?side1 ?side2 ?side3 ?side4 ?side5 ?side6 ?side7 ?side8 A124.out).mono ?_); (case side1 => refine (Kd.R_reads' (e := 3) (base := w.heap.size) (ok := fun k_ => ((((((((some k_ ≠ (.slice Ao123 t863.length co123 : Value).ownBlock ∧ some k_ ≠ (.slice Ao23 t783.length co23 : Value).ownBlock) ∧ some k_ ≠ (.slice Ao24 t788.length co24 : Value).ownBlock) ∧ some k_ ≠ (.slice Ao31 t836.length co31 : Value).ownBlock) ∧ some k_ ≠ (.slice Ao32 t837.length co32 : Value).ownBlock) ∧ some k_ ≠ (.slice Ao39 t810.length co39 : Value).ownBlock) ∧ some k_ ≠ (.slice Ao40 t815.length co40 : Value).ownBlock) ∧ some k_ ≠ (.slice Ao113 t846.length co113 : Value).ownBlock) ∧ some k_ ≠ (.slice Ao114 t851.length co114 : Value).ownBlock)) (n := t858.length) (c := co122) ?_).2.2; exact (zF8 HO860 BK868)); (case side2 => exact (Kd.R_reads' HO860.out).2.1); (case side3 => refine (Kd.R_reads' (e := 3) (base := w.heap.size) (ok := fun k_ => ((((((((some k_ ≠ (.slice Ao122 t858.length co122 : Value).ownBlock ∧ some k_ ≠ (.slice Ao23 t783.length co23 : Value).ownBlock) ∧ some k_ ≠ (.slice Ao24 t788.length co24 : Value).ownBlock) ∧ some k_ ≠ (.slice Ao31 t836.length co31 : Value).ownBlock) ∧ some k_ ≠ (.slice Ao32 t837.length co32 : Value).ownBlock) ∧ some k_ ≠ (.slice Ao39 t810.length co39 : Value).ownBlock) ∧ some k_ ≠ (.slice Ao40 t815.length co40 : Value).ownBlock) ∧ some k_ ≠ (.slice Ao113 t846.length co113 : Value).ownBlock) ∧ some k_ ≠ (.slice Ao114 t851.length co114 : Value).ownBlock)) (n := t863.length) (c := co123) ?_).2.2; exact (zF8 HO865 BK868)); (case side4 => exact (Kd.R_reads' HO865.out).2.1); (case side5 => refine (Kd.R_reads' (e := 3) (base := w.heap.size) (ok := fun k_ => (((((some k_ ≠ (.slice Ao24 t788.length co24 : Value).ownBlock ∧ (some k_ ≠ (.slice Ao31 t836.length co31 : Value).ownBlock ∧ (some k_ ≠ (.slice Ao32 t837.length co32 : Value).ownBlock ∧ (some k_ ≠ (.slice Ao39 t810.length co39 : Value).ownBlock ∧ some k_ ≠ (.slice Ao40 t815.length co40 : Value).ownBlock)))) ∧ some k_ ≠ (.slice Ao113 t846.length co113 : Value).ownBlock) ∧ some k_ ≠ (.slice Ao114 t851.length co114 : Value).ownBlock) ∧ some k_ ≠ (.slice Ao122 t858.length co122 : Value).ownBlock) ∧ some k_ ≠ (.slice Ao123 t863.length co123 : Value).ownBlock)) (n := t783.length) (c := co23) ?_).2.2; exact (zF8 HO_794003 BK868)); (case side6 => exact (Kd.R_reads' HO_794003.out).2.1); (case side7 => refine (Kd.R_reads' (e := 3) (base := w.heap.size) (ok := fun k_ => (((((some k_ ≠ (.slice Ao23 t783.length co23 : Value).ownBlock ∧ (some k_ ≠ (.slice Ao31 t836.length co31 : Value).ownBlock ∧ (some k_ ≠ (.slice Ao32 t837.length co32 : Value).ownBlock ∧ (some k_ ≠ (.slice Ao39 t810.length co39 : Value).ownBlock ∧ some k_ ≠ (.slice Ao40 t815.length co40 : Value).ownBlock)))) ∧ some k_ ≠ (.slice Ao113 t846.length co113 : Value).ownBlock) ∧ some k_ ≠ (.slice Ao114 t851.length co114 : Value).ownBlock) ∧ some k_ ≠ (.slice Ao122 t858.length co122 : Value).ownBlock) ∧ some k_ ≠ (.slice Ao123 t863.length co123 : Value).ownBlock)) (n := t788.length) (c := co24) ?_).2.2; exact (zF8 HO_794006 BK868)); (case side8 => exact (Kd.R_reads' HO_794006.out).2.1); rintro e w135 ⟨rfl, hb⟩; refine ⟨_, rfl, ?_⟩; replace HO_794003 := aK (Kd.R_below (zF8 HO_794003 BK868) hb); replace HO_794006 := aK (Kd.R_below (zF8 HO_794006 BK868) hb); replace HO_807003 := aK (Kd.R_below (zF8 HO_807003 BK868) hb); replace HO_807006 := aK (Kd.R_below (zF8 HO_807006 BK868) hb); replace HO_821003 := aK (Kd.R_below (zF8 HO_821003 BK868) hb); replace HO_821006 := aK (Kd.R_below (zF8 HO_821006 BK868) hb); replace HO848 := aK (Kd.R_below (zF8 HO848 BK868) hb); replace HO853 := aK (Kd.R_below (zF8 HO853 BK868) hb); replace HO860 := aK (Kd.R_below (zF8 HO860 BK868) hb); replace HO865 := aK (Kd.R_below (zF8 HO865 BK868) hb); replace BK766 := zG8 BK766 NB766_868 hb; replace BK793 := zG8 BK793 NB793_868 hb; replace BK806 := zG8 BK806 NB806_868 hb; replace BK820 := zG8 BK820 NB820_868 hb; replace BK868 := aK (blk_below (g := gb868) (o := .cells #[.int .i64 t855, .int .i64 t856, .int .i64 t857, .slice Ao122 t858.length co122, .int .i64 t861, .int .i64 t862, .slice Ao123 t863.length co123, .int .i64 t866] 38 (0, 0)) (by (with_reducible repeat (first | refine kDN ?_ _ | refine kD ?_ | refine kA ?_ _)); refine blk_put (cs := #[.int .i64 t855, .int .i64 t856, .int .i64 t857, .slice Ao122 t858.length co122, .int .i64 t861, .int .i64 t862, .slice Ao123 t863.length co123, .int .i64 0]) ?_ 7 _ rfl; (with_reducible repeat (first | refine kDN ?_ _ | refine kD ?_ | refine kA ?_ _)); refine blk_put (cs := #[.int .i64 t855, .int .i64 t856, .int .i64 t857, .slice Ao122 t858.length co122, .int .i64 t861, .int .i64 t862, .slice none 0 0, .int .i64 0]) ?_ 6 _ rfl; (with_reducible repeat (first | refine kDN ?_ _ | refine kD ?_ | refine kA ?_ _)); refine blk_put (cs := #[.int .i64 t855, .int .i64 t856, .int .i64 t857, .slice Ao122 t858.length co122, .int .i64 t861, .int .i64 0, .slice none 0 0, .int .i64 0]) ?_ 5 _ rfl; (with_reducible repeat (first | refine kDN ?_ _ | refine kD ?_ | refine kA ?_ _)); refine blk_put (cs := #[.int .i64 t855, .int .i64 t856, .int .i64 t857, .slice Ao122 t858.length co122, .int .i64 0, .int .i64 0, .slice none 0 0, .int .i64 0]) ?_ 4 _ rfl; (with_reducible repeat (first | refine kDN ?_ _ | refine kD ?_ | refine kA ?_ _)); refine blk_put (cs := #[.int .i64 t855, .int .i64 t856, .int .i64 t857, .slice none 0 0, .int .i64 0, .int .i64 0, .slice none 0 0, .int .i64 0]) ?_ 3 _ rfl; (with_reducible repeat (first | refine kDN ?_ _ | refine kD ?_ | refine kA ?_ _)); refine blk_put (cs := #[.int .i64 t855, .int .i64 t856, .int .i64 0, .slice none 0 0, .int .i64 0, .int .i64 0, .slice none 0 0, .int .i64 0]) ?_ 2 _ rfl; (with_reducible repeat (first | refine kDN ?_ _ | refine kD ?_ | refine kA ?_ _)); refine blk_put (cs := #[.int .i64 t855, .int .i64 0, .int .i64 0, .slice none 0 0, .int .i64 0, .int .i64 0, .slice none 0 0, .int .i64 0]) ?_ 1 _ rfl; (with_reducible repeat (first | refine kDN ?_ _ | refine kD ?_ | refine kA ?_ _)); refine blk_put (cs := #[.int .i64 0, .int .i64 0, .int .i64 0, .slice none 0 0, .int .i64 0, .int .i64 0, .slice none 0 0, .int .i64 0]) ?_ 0 _ rfl; (with_reducible repeat (first | refine kDN ?_ _ | refine kD ?_ | refine kA ?_ _)); exact BK868.out) hb); replace HB := aK (bSp (zH5 HB GE766 GE793 GE806 GE820 GE868) hb); (try clear hb); (try clear hb2); (try clear hk); (try clear hi)))
             go_meet
             case rel => exact ⟨_, ((t867 != t792)), (by first | rfl | (simp; done) | (simp [*]; done)), H', ⟨by have := HJ10.out; have := HJ63.out; first | omega | exact Nat.le_refl _⟩, ⟨by (try simp only [hl807003_63]); (try simp only [hl807006_63]); (with_reducible repeat (first | apply Kd.R_alloc | apply Kd.R_drewN | apply Kd.R_drew)); exact Kd.R_mono HO_794003.out (fun _ hk => ⟨hk.1.1.1.1.1, ⟨hk.1.1.1.1.2.1, ⟨hk.1.1.1.1.2.2.1, ⟨hk.1.1.1.1.2.2.2.1, ⟨hk.1.1.1.1.2.2.2.2, ⟨hk.1.2, hk.2⟩⟩⟩⟩⟩⟩)⟩, ⟨by (try simp only [hl807003_63]); (try simp only [hl807006_63]); (with_reducible repeat (first | apply Kd.R_alloc | apply Kd.R_drewN | apply Kd.R_drew)); exact Kd.R_mono HO_794006.out (fun _ hk => ⟨hk.1.1.1.1.1, ⟨hk.1.1.1.1.2.1, ⟨hk.1.1.1.1.2.2.1, ⟨hk.1.1.1.1.2.2.2.1, ⟨hk.1.1.1.1.2.2.2.2, ⟨hk.1.2, hk.2⟩⟩⟩⟩⟩⟩)⟩, ⟨by (try simp only [hl807003_63]); (try simp only [hl807006_63]); (with_reducible repeat (first | apply Kd.R_alloc | apply Kd.R_drewN | apply Kd.R_drew)); exact Kd.R_mono HO_807003.out (fun _ hk => ⟨hk.1.1.1.1.1, ⟨hk.1.1.1.1.2.1, ⟨hk.1.1.1.1.2.2.1, ⟨hk.1.1.1.1.2.2.2.1, ⟨hk.1.1.1.1.2.2.2.2, ⟨hk.1.2, hk.2⟩⟩⟩⟩⟩⟩)⟩, ⟨by (try simp only [hl807003_63]); (try simp only [hl807006_63]); (with_reducible repeat (first | apply Kd.R_alloc | apply Kd.R_drewN | apply Kd.R_drew)); exact Kd.R_mono HO_807006.out (fun _ hk => ⟨hk.1.1.1.1.1, ⟨hk.1.1.1.1.2.1, ⟨hk.1.1.1.1.2.2.1, ⟨hk.1.1.1.1.2.2.2.1, ⟨hk.1.1.1.1.2.2.2.2, ⟨hk.1.2, hk.2⟩⟩⟩⟩⟩⟩)⟩, ⟨by (try simp only [hl807003_63]); (try simp only [hl807006_63]); (with_reducible repeat (first | apply Kd.R_alloc | apply Kd.R_drewN | apply Kd.R_drew)); exact Kd.R_mono HO_821003.out (fun _ hk => ⟨hk.1.1.1.1.1, ⟨hk.1.1.1.1.2.1, ⟨hk.1.1.1.1.2.2.1, ⟨hk.1.1.1.1.2.2.2.1, ⟨hk.1.1.1.1.2.2.2.2, ⟨hk.1.2, hk.2⟩⟩⟩⟩⟩⟩)⟩, ⟨by (try simp only [hl807003_63]); (try simp only [hl807006_63]); (with_reducible repeat (first | apply Kd.R_alloc | apply Kd.R_drewN | apply Kd.R_drew)); exact Kd.R_mono HO_821006.out (fun _ hk => ⟨hk.1.1.1.1.1, ⟨hk.1.1.1.1.2.1, ⟨hk.1.1.1.1.2.2.1, ⟨hk.1.1.1.1.2.2.2.1, ⟨hk.1.1.1.1.2.2.2.2, ⟨hk.1.2, hk.2⟩⟩⟩⟩⟩⟩)⟩, ⟨by (try simp only [hl807003_63]); (try simp only [hl807006_63]); (with_reducible repeat (first | apply Kd.R_alloc | apply Kd.R_drewN | apply Kd.R_drew)); exact Kd.R_mono HO860.out (fun _ hk => ⟨hk.1.1.1.1.1.1.1.2, ⟨hk.1.1.1.1.1.1.2, ⟨hk.1.1.1.1.1.2, ⟨hk.1.1.1.1.2, ⟨hk.1.1.1.2, ⟨hk.1.1.2, hk.1.1.1.1.1.1.1.1⟩⟩⟩⟩⟩⟩)⟩, ⟨by (try simp only [hl807003_63]); (try simp only [hl807006_63]); (with_reducible repeat (first | apply Kd.R_alloc | apply Kd.R_drewN | apply Kd.R_drew)); exact Kd.R_mono HO865.out (fun _ hk => ⟨hk.1.1.1.1.1.1.1.2, ⟨hk.1.1.1.1.1.1.2, ⟨hk.1.1.1.1.1.2, ⟨hk.1.1.1.1.2, ⟨hk.1.1.1.2, ⟨hk.1.1.2, hk.1.1.1.1.1.1.1.1⟩⟩⟩⟩⟩⟩)⟩, ⟨by (try simp only [hl807003_63]); (try simp only [hl807006_63]); (with_reducible repeat (first | refine kDN ?_ _ | refine kD ?_ | refine kA ?_ _)); exact BK766.out⟩, ⟨by (try simp only [hl807003_63]); (try simp only [hl807006_63]); (with_reducible repeat (first | refine kDN ?_ _ | refine kD ?_ | refine kA ?_ _)); exact BK793.out⟩, ⟨by (try simp only [hl807003_63]); (try simp only [hl807006_63]); (with_reducible repeat (first | refine kDN ?_ _ | refine kD ?_ | refine kA ?_ _)); exact BK806.out⟩, ⟨by (try simp only [hl807003_63]); (try simp only [hl807006_63]); (with_reducible repeat (first | refine kDN ?_ _ | refine kD ?_ | refine kA ?_ _)); exact BK820.out⟩, ⟨by (try simp only [hl807003_63]); (try simp only [hl807006_63]); (with_reducible repeat (first | refine kDN ?_ _ | refine kD ?_ | refine kA ?_ _)); exact BK868.out⟩, ⟨zH5 HB GE766 GE793 GE806 GE820 GE868⟩⟩
            ·replace c125 := Bool.eq_false_iff.mpr c125
             subst c125
             have H1 : (laws_FnExactLeave.j2 kj63 t839 true t807 t808 t809 t840 t813 t814 t841 t818) = some true := by rw [if_neg (show ¬ (false = true) by decide)] at H; exact H
             clear H
             have H := H1
             clear H1
             have H' := aK H
             clear H
             have hnb136 := NB868_766.out
             have hnc136 := NB766_868.out
             have hnb137 := NB868_793.out
             have hnc137 := NB793_868.out
             have hnb138 := NB868_806.out
             have hnc138 := NB806_868.out
             have hnb139 := NB868_820.out
             have hnc139 := NB820_868.out
             obtain ⟨hcz140_0, hcz140_1, hcz140_2, hcz140_3, hcz140_4, hcz140_5, hcz140_6, hcz140_7, hfz140_0, hfz140_1, hfz140_2, hfz140_3, hfz140_4, hfz140_5, hfz140_6, hfz140_7⟩ := cl8 BK868.out
             have hnb141 := NB793_766.out
             have hnc141 := NB766_793.out
             have hnb142 := NB793_806.out
             have hnc142 := NB806_793.out
             have hnb143 := NB793_820.out
             have hnc143 := NB820_793.out
             obtain ⟨hcz144_0, hcz144_1, hcz144_2, hcz144_3, hcz144_4, hcz144_5, hcz144_6, hcz144_7, hfz144_0, hfz144_1, hfz144_2, hfz144_3, hfz144_4, hfz144_5, hfz144_6, hfz144_7⟩ := cl8 BK793.out
             go_wp2_with (first | ((with_reducible refine gate_callee (f := 19) rfl ?_); refine goesL_ (some 81) rfl rfl Tryz.func19 (by kernel_rfl) rfl #[.agg #[.int .i64 t855, .int .i64 t856, .int .i64 t857, .slice Ao122 t858.length co122, .int .i64 t861, .int .i64 t862, .slice Ao123 t863.length co123, .int .i64 t866], .agg #[.int .i64 t780, .int .i64 t781, .int .i64 t782, .slice Ao23 t783.length co23, .int .i64 t786, .int .i64 t787, .slice Ao24 t788.length co24, .int .i64 t791]] rfl zD ?_; (with_reducible refine (laws_eqGarden.calls kj63 t855 t856 t857 _ _ t858 t861 t862 _ _ t863 t866 t780 t781 t782 _ _ t783 t786 t787 _ _ t788 t791 false _ ?side1 ?side2 ?side3 ?side4 ?side5 ?side6 ?side7 ?side8 A124.out).mono ?_); (case side1 => refine (Kd.R_reads' (e := 3) (base := w.heap.size) (ok := fun k_ => ((((((((some k_ ≠ (.slice Ao123 t863.length co123 : Value).ownBlock ∧ some k_ ≠ (.slice Ao23 t783.length co23 : Value).ownBlock) ∧ some k_ ≠ (.slice Ao24 t788.length co24 : Value).ownBlock) ∧ some k_ ≠ (.slice Ao31 t836.length co31 : Value).ownBlock) ∧ some k_ ≠ (.slice Ao32 t837.length co32 : Value).ownBlock) ∧ some k_ ≠ (.slice Ao39 t810.length co39 : Value).ownBlock) ∧ some k_ ≠ (.slice Ao40 t815.length co40 : Value).ownBlock) ∧ some k_ ≠ (.slice Ao113 t846.length co113 : Value).ownBlock) ∧ some k_ ≠ (.slice Ao114 t851.length co114 : Value).ownBlock)) (n := t858.length) (c := co122) ?_).2.2; exact (zF8 HO860 BK868)); (case side2 => exact (Kd.R_reads' HO860.out).2.1); (case side3 => refine (Kd.R_reads' (e := 3) (base := w.heap.size) (ok := fun k_ => ((((((((some k_ ≠ (.slice Ao122 t858.length co122 : Value).ownBlock ∧ some k_ ≠ (.slice Ao23 t783.length co23 : Value).ownBlock) ∧ some k_ ≠ (.slice Ao24 t788.length co24 : Value).ownBlock) ∧ some k_ ≠ (.slice Ao31 t836.length co31 : Value).ownBlock) ∧ some k_ ≠ (.slice Ao32 t837.length co32 : Value).ownBlock) ∧ some k_ ≠ (.slice Ao39 t810.length co39 : Value).ownBlock) ∧ some k_ ≠ (.slice Ao40 t815.length co40 : Value).ownBlock) ∧ some k_ ≠ (.slice Ao113 t846.length co113 : Value).ownBlock) ∧ some k_ ≠ (.slice Ao114 t851.length co114 : Value).ownBlock)) (n := t863.length) (c := co123) ?_).2.2; exact (zF8 HO865 BK868)); (case side4 => exact (Kd.R_reads' HO865.out).2.1); (case side5 => refine (Kd.R_reads' (e := 3) (base := w.heap.size) (ok := fun k_ => (((((some k_ ≠ (.slice Ao24 t788.length co24 : Value).ownBlock ∧ (some k_ ≠ (.slice Ao31 t836.length co31 : Value).ownBlock ∧ (some k_ ≠ (.slice Ao32 t837.length co32 : Value).ownBlock ∧ (some k_ ≠ (.slice Ao39 t810.length co39 : Value).ownBlock ∧ some k_ ≠ (.slice Ao40 t815.length co40 : Value).ownBlock)))) ∧ some k_ ≠ (.slice Ao113 t846.length co113 : Value).ownBlock) ∧ some k_ ≠ (.slice Ao114 t851.length co114 : Value).ownBlock) ∧ some k_ ≠ (.slice Ao122 t858.length co122 : Value).ownBlock) ∧ some k_ ≠ (.slice Ao123 t863.length co123 : Value).ownBlock)) (n := t783.length) (c := co23) ?_).2.2; exact (zF8 HO_794003 BK868)); (case side6 => exact (Kd.R_reads' HO_794003.out).2.1); (case side7 => refine (Kd.R_reads' (e := 3) (base := w.heap.size) (ok := fun k_ => (((((some k_ ≠ (.slice Ao23 t783.length co23 : Value).ownBlock ∧ (some k_ ≠ (.slice Ao31 t836.length co31 : Value).ownBlock ∧ (some k_ ≠ (.slice Ao32 t837.length co32 : Value).ownBlock ∧ (some k_ ≠ (.slice Ao39 t810.length co39 : Value).ownBlock ∧ some k_ ≠ (.slice Ao40 t815.length co40 : Value).ownBlock)))) ∧ some k_ ≠ (.slice Ao113 t846.length co113 : Value).ownBlock) ∧ some k_ ≠ (.slice Ao114 t851.length co114 : Value).ownBlock) ∧ some k_ ≠ (.slice Ao122 t858.length co122 : Value).ownBlock) ∧ some k_ ≠ (.slice Ao123 t863.length co123 : Value).ownBlock)) (n := t788.length) (c := co24) ?_).2.2; exact (zF8 HO_794006 BK868)); (case side8 => exact (Kd.R_reads' HO_794006.out).2.1); rintro e w145 ⟨rfl, hb⟩; refine ⟨_, rfl, ?_⟩; replace HO_794003 := aK (Kd.R_below (zF8 HO_794003 BK868) hb); replace HO_794006 := aK (Kd.R_below (zF8 HO_794006 BK868) hb); replace HO_807003 := aK (Kd.R_below (zF8 HO_807003 BK868) hb); replace HO_807006 := aK (Kd.R_below (zF8 HO_807006 BK868) hb); replace HO_821003 := aK (Kd.R_below (zF8 HO_821003 BK868) hb); replace HO_821006 := aK (Kd.R_below (zF8 HO_821006 BK868) hb); replace HO848 := aK (Kd.R_below (zF8 HO848 BK868) hb); replace HO853 := aK (Kd.R_below (zF8 HO853 BK868) hb); replace HO860 := aK (Kd.R_below (zF8 HO860 BK868) hb); replace HO865 := aK (Kd.R_below (zF8 HO865 BK868) hb); replace BK766 := zG8 BK766 NB766_868 hb; replace BK793 := zG8 BK793 NB793_868 hb; replace BK806 := zG8 BK806 NB806_868 hb; replace BK820 := zG8 BK820 NB820_868 hb; replace BK868 := aK (blk_below (g := gb868) (o := .cells #[.int .i64 t855, .int .i64 t856, .int .i64 t857, .slice Ao122 t858.length co122, .int .i64 t861, .int .i64 t862, .slice Ao123 t863.length co123, .int .i64 t866] 38 (0, 0)) (by (with_reducible repeat (first | refine kDN ?_ _ | refine kD ?_ | refine kA ?_ _)); refine blk_put (cs := #[.int .i64 t855, .int .i64 t856, .int .i64 t857, .slice Ao122 t858.length co122, .int .i64 t861, .int .i64 t862, .slice Ao123 t863.length co123, .int .i64 0]) ?_ 7 _ rfl; (with_reducible repeat (first | refine kDN ?_ _ | refine kD ?_ | refine kA ?_ _)); refine blk_put (cs := #[.int .i64 t855, .int .i64 t856, .int .i64 t857, .slice Ao122 t858.length co122, .int .i64 t861, .int .i64 t862, .slice none 0 0, .int .i64 0]) ?_ 6 _ rfl; (with_reducible repeat (first | refine kDN ?_ _ | refine kD ?_ | refine kA ?_ _)); refine blk_put (cs := #[.int .i64 t855, .int .i64 t856, .int .i64 t857, .slice Ao122 t858.length co122, .int .i64 t861, .int .i64 0, .slice none 0 0, .int .i64 0]) ?_ 5 _ rfl; (with_reducible repeat (first | refine kDN ?_ _ | refine kD ?_ | refine kA ?_ _)); refine blk_put (cs := #[.int .i64 t855, .int .i64 t856, .int .i64 t857, .slice Ao122 t858.length co122, .int .i64 0, .int .i64 0, .slice none 0 0, .int .i64 0]) ?_ 4 _ rfl; (with_reducible repeat (first | refine kDN ?_ _ | refine kD ?_ | refine kA ?_ _)); refine blk_put (cs := #[.int .i64 t855, .int .i64 t856, .int .i64 t857, .slice none 0 0, .int .i64 0, .int .i64 0, .slice none 0 0, .int .i64 0]) ?_ 3 _ rfl; (with_reducible repeat (first | refine kDN ?_ _ | refine kD ?_ | refine kA ?_ _)); refine blk_put (cs := #[.int .i64 t855, .int .i64 t856, .int .i64 0, .slice none 0 0, .int .i64 0, .int .i64 0, .slice none 0 0, .int .i64 0]) ?_ 2 _ rfl; (with_reducible repeat (first | refine kDN ?_ _ | refine kD ?_ | refine kA ?_ _)); refine blk_put (cs := #[.int .i64 t855, .int .i64 0, .int .i64 0, .slice none 0 0, .int .i64 0, .int .i64 0, .slice none 0 0, .int .i64 0]) ?_ 1 _ rfl; (with_reducible repeat (first | refine kDN ?_ _ | refine kD ?_ | refine kA ?_ _)); refine blk_put (cs := #[.int .i64 0, .int .i64 0, .int .i64 0, .slice none 0 0, .int .i64 0, .int .i64 0, .slice none 0 0, .int .i64 0]) ?_ 0 _ rfl; (with_reducible repeat (first | refine kDN ?_ _ | refine kD ?_ | refine kA ?_ _)); exact BK868.out) hb); replace HB := aK (bSp (zH5 HB GE766 GE793 GE806 GE820 GE868) hb); (try clear hb); (try clear hb2); (try clear hk); (try clear hi)))
             go_meet
             case rel => exact ⟨_, (true), (by first | rfl | (simp; done) | (simp [*]; done)), H', ⟨by have := HJ10.out; have := HJ63.out; first | omega | exact Nat.le_refl _⟩, ⟨by (try simp only [hl807003_63]); (try simp only [hl807006_63]); (with_reducible repeat (first | apply Kd.R_alloc | apply Kd.R_drewN | apply Kd.R_drew)); exact Kd.R_mono HO_794003.out (fun _ hk => ⟨hk.1.1.1.1.1, ⟨hk.1.1.1.1.2.1, ⟨hk.1.1.1.1.2.2.1, ⟨hk.1.1.1.1.2.2.2.1, ⟨hk.1.1.1.1.2.2.2.2, ⟨hk.1.2, hk.2⟩⟩⟩⟩⟩⟩)⟩, ⟨by (try simp only [hl807003_63]); (try simp only [hl807006_63]); (with_reducible repeat (first | apply Kd.R_alloc | apply Kd.R_drewN | apply Kd.R_drew)); exact Kd.R_mono HO_794006.out (fun _ hk => ⟨hk.1.1.1.1.1, ⟨hk.1.1.1.1.2.1, ⟨hk.1.1.1.1.2.2.1, ⟨hk.1.1.1.1.2.2.2.1, ⟨hk.1.1.1.1.2.2.2.2, ⟨hk.1.2, hk.2⟩⟩⟩⟩⟩⟩)⟩, ⟨by (try simp only [hl807003_63]); (try simp only [hl807006_63]); (with_reducible repeat (first | apply Kd.R_alloc | apply Kd.R_drewN | apply Kd.R_drew)); exact Kd.R_mono HO_807003.out (fun _ hk => ⟨hk.1.1.1.1.1, ⟨hk.1.1.1.1.2.1, ⟨hk.1.1.1.1.2.2.1, ⟨hk.1.1.1.1.2.2.2.1, ⟨hk.1.1.1.1.2.2.2.2, ⟨hk.1.2, hk.2⟩⟩⟩⟩⟩⟩)⟩, ⟨by (try simp only [hl807003_63]); (try simp only [hl807006_63]); (with_reducible repeat (first | apply Kd.R_alloc | apply Kd.R_drewN | apply Kd.R_drew)); exact Kd.R_mono HO_807006.out (fun _ hk => ⟨hk.1.1.1.1.1, ⟨hk.1.1.1.1.2.1, ⟨hk.1.1.1.1.2.2.1, ⟨hk.1.1.1.1.2.2.2.1, ⟨hk.1.1.1.1.2.2.2.2, ⟨hk.1.2, hk.2⟩⟩⟩⟩⟩⟩)⟩, ⟨by (try simp only [hl807003_63]); (try simp only [hl807006_63]); (with_reducible repeat (first | apply Kd.R_alloc | apply Kd.R_drewN | apply Kd.R_drew)); exact Kd.R_mono HO_821003.out (fun _ hk => ⟨hk.1.1.1.1.1, ⟨hk.1.1.1.1.2.1, ⟨hk.1.1.1.1.2.2.1, ⟨hk.1.1.1.1.2.2.2.1, ⟨hk.1.1.1.1.2.2.2.2, ⟨hk.1.2, hk.2⟩⟩⟩⟩⟩⟩)⟩, ⟨by (try simp only [hl807003_63]); (try simp only [hl807006_63]); (with_reducible repeat (first | apply Kd.R_alloc | apply Kd.R_drewN | apply Kd.R_drew)); exact Kd.R_mono HO_821006.out (fun _ hk => ⟨hk.1.1.1.1.1, ⟨hk.1.1.1.1.2.1, ⟨hk.1.1.1.1.2.2.1, ⟨hk.1.1.1.1.2.2.2.1, ⟨hk.1.1.1.1.2.2.2.2, ⟨hk.1.2, hk.2⟩⟩⟩⟩⟩⟩)⟩, ⟨by (try simp only [hl807003_63]); (try simp only [hl807006_63]); (with_reducible repeat (first | apply Kd.R_alloc | apply Kd.R_drewN | apply Kd.R_drew)); exact Kd.R_mono HO860.out (fun _ hk => ⟨hk.1.1.1.1.1.1.1.2, ⟨hk.1.1.1.1.1.1.2, ⟨hk.1.1.1.1.1.2, ⟨hk.1.1.1.1.2, ⟨hk.1.1.1.2, ⟨hk.1.1.2, hk.1.1.1.1.1.1.1.1⟩⟩⟩⟩⟩⟩)⟩, ⟨by (try simp only [hl807003_63]); (try simp only [hl807006_63]); (with_reducible repeat (first | apply Kd.R_alloc | apply Kd.R_drewN | apply Kd.R_drew)); exact Kd.R_mono HO865.out (fun _ hk => ⟨hk.1.1.1.1.1.1.1.2, ⟨hk.1.1.1.1.1.1.2, ⟨hk.1.1.1.1.1.2, ⟨hk.1.1.1.1.2, ⟨hk.1.1.1.2, ⟨hk.1.1.2, hk.1.1.1.1.1.1.1.1⟩⟩⟩⟩⟩⟩)⟩, ⟨by (try simp only [hl807003_63]); (try simp only [hl807006_63]); (with_reducible repeat (first | refine kDN ?_ _ | refine kD ?_ | refine kA ?_ _)); exact BK766.out⟩, ⟨by (try simp only [hl807003_63]); (try simp only [hl807006_63]); (with_reducible repeat (first | refine kDN ?_ _ | refine kD ?_ | refine kA ?_ _)); exact BK793.out⟩, ⟨by (try simp only [hl807003_63]); (try simp only [hl807006_63]); (with_reducible repeat (first | refine kDN ?_ _ | refine kD ?_ | refine kA ?_ _)); exact BK806.out⟩, ⟨by (try simp only [hl807003_63]); (try simp only [hl807006_63]); (with_reducible repeat (first | refine kDN ?_ _ | refine kD ?_ | refine kA ?_ _)); exact BK820.out⟩, ⟨by (try simp only [hl807003_63]); (try simp only [hl807006_63]); (with_reducible repeat (first | refine kDN ?_ _ | refine kD ?_ | refine kA ?_ _)); exact BK868.out⟩, ⟨zH5 HB GE766 GE793 GE806 GE820 GE868⟩⟩
           case rest =>
            clear HC101
            try clear c1
            try clear c2
            try clear p2
            try clear c3
            try clear c3b0
            try clear c4
            try clear c5
            try clear c6
            try clear c7
            try clear c8
            try clear c9
            try clear c10
            try clear c11
            try clear c12
            try clear c13
            try clear c14
            try clear c15
            try clear c17
            try clear c19
            try clear c20
            try clear c21
            try clear c22
            try clear c23
            try clear c28
            try clear c29
            try clear c35
            try clear c36
            try clear c37
            try clear c42
            try clear c43
            try clear c44
            try clear c45
            try clear c47
            try clear c48
            try clear c51
            try clear c52
            try clear c53
            try clear c55
            try clear c56
            try clear c59
            try clear c62
            try clear c70
            try clear c71
            try clear c72
            try clear c75
            try clear c75b0
            try clear c77
            try clear c78
            try clear c79
            try clear c80
            try clear c82
            try clear c83
            try clear c86
            try clear c87
            try clear c88
            try clear c90
            try clear c91
            try clear c94
            try clear c97
            try clear c97b0
            try clear c98
            try clear c98b0
            try clear c98b1
            try clear c102
            try clear c103
            try clear c104
            try clear c109
            try clear c110
            try clear c117
            try clear c118
            try clear c119
            try clear c120
            try clear c125
            try clear c126
            try clear c127
            try clear c128
            try clear c129
            try clear c131
            try clear c132
            try clear c133
            try clear c136
            try clear c137
            try clear c138
            try clear c139
            try clear c141
            try clear c142
            try clear c143
            try clear hcz105_0
            try clear hcz105_1
            try clear hcz105_2
            try clear hcz105_3
            try clear hcz105_4
            try clear hcz105_5
            try clear hcz105_6
            try clear hcz105_7
            try clear hcz107_0
            try clear hcz107_1
            try clear hcz107_2
            try clear hcz107_3
            try clear hcz107_4
            try clear hcz107_5
            try clear hcz107_6
            try clear hcz107_7
            try clear hcz111_0
            try clear hcz111_1
            try clear hcz111_2
            try clear hcz111_3
            try clear hcz111_4
            try clear hcz111_5
            try clear hcz111_6
            try clear hcz111_7
            try clear hcz121_0
            try clear hcz121_1
            try clear hcz121_2
            try clear hcz121_3
            try clear hcz121_4
            try clear hcz121_5
            try clear hcz121_6
            try clear hcz121_7
            try clear hcz130_0
            try clear hcz130_1
            try clear hcz130_2
            try clear hcz130_3
            try clear hcz130_4
            try clear hcz130_5
            try clear hcz130_6
            try clear hcz130_7
            try clear hcz134_0
            try clear hcz134_1
            try clear hcz134_2
            try clear hcz134_3
            try clear hcz134_4
            try clear hcz134_5
            try clear hcz134_6
            try clear hcz134_7
            try clear hcz13_0
            try clear hcz13_1
            try clear hcz13_2
            try clear hcz13_3
            try clear hcz13_4
            try clear hcz13_5
            try clear hcz13_6
            try clear hcz13_7
            try clear hcz140_0
            try clear hcz140_1
            try clear hcz140_2
            try clear hcz140_3
            try clear hcz140_4
            try clear hcz140_5
            try clear hcz140_6
            try clear hcz140_7
            try clear hcz144_0
            try clear hcz144_1
            try clear hcz144_2
            try clear hcz144_3
            try clear hcz144_4
            try clear hcz144_5
            try clear hcz144_6
            try clear hcz144_7
            try clear hcz15_0
            try clear hcz15_1
            try clear hcz15_2
            try clear hcz15_3
            try clear hcz15_4
            try clear hcz15_5
            try clear hcz15_6
            try clear hcz15_7
            try clear hcz22_0
            try clear hcz22_1
            try clear hcz22_2
            try clear hcz22_3
            try clear hcz22_4
            try clear hcz22_5
            try clear hcz22_6
            try clear hcz22_7
            try clear hcz25_0
            try clear hcz25_1
            try clear hcz25_2
            try clear hcz25_3
            try clear hcz25_4
            try clear hcz25_5
            try clear hcz25_6
            try clear hcz25_7
            try clear hcz30_0
            try clear hcz30_1
            try clear hcz30_2
            try clear hcz30_3
            try clear hcz30_4
            try clear hcz30_5
            try clear hcz30_6
            try clear hcz30_7
            try clear hcz38_0
            try clear hcz38_1
            try clear hcz38_2
            try clear hcz38_3
            try clear hcz38_4
            try clear hcz38_5
            try clear hcz38_6
            try clear hcz38_7
            try clear hcz46_0
            try clear hcz46_1
            try clear hcz46_2
            try clear hcz46_3
            try clear hcz46_4
            try clear hcz46_5
            try clear hcz46_6
            try clear hcz46_7
            try clear hcz49_0
            try clear hcz49_1
            try clear hcz49_2
            try clear hcz49_3
            try clear hcz49_4
            try clear hcz49_5
            try clear hcz49_6
            try clear hcz49_7
            try clear hcz54_0
            try clear hcz54_1
            try clear hcz54_2
            try clear hcz54_3
            try clear hcz54_4
            try clear hcz54_5
            try clear hcz54_6
            try clear hcz54_7
            try clear hcz57_0
            try clear hcz57_1
            try clear hcz57_2
            try clear hcz57_3
            try clear hcz57_4
            try clear hcz57_5
            try clear hcz57_6
            try clear hcz57_7
            try clear hcz5_0
            try clear hcz5_1
            try clear hcz5_2
            try clear hcz5_3
            try clear hcz5_4
            try clear hcz5_5
            try clear hcz5_6
            try clear hcz5_7
            try clear hcz73_0
            try clear hcz73_1
            try clear hcz73_2
            try clear hcz73_3
            try clear hcz73_4
            try clear hcz73_5
            try clear hcz73_6
            try clear hcz73_7
            try clear hcz81_0
            try clear hcz81_1
            try clear hcz81_2
            try clear hcz81_3
            try clear hcz81_4
            try clear hcz81_5
            try clear hcz81_6
            try clear hcz81_7
            try clear hcz84_0
            try clear hcz84_1
            try clear hcz84_2
            try clear hcz84_3
            try clear hcz84_4
            try clear hcz84_5
            try clear hcz84_6
            try clear hcz84_7
            try clear hcz89_0
            try clear hcz89_1
            try clear hcz89_2
            try clear hcz89_3
            try clear hcz89_4
            try clear hcz89_5
            try clear hcz89_6
            try clear hcz89_7
            try clear hcz92_0
            try clear hcz92_1
            try clear hcz92_2
            try clear hcz92_3
            try clear hcz92_4
            try clear hcz92_5
            try clear hcz92_6
            try clear hcz92_7
            try clear hfz105_0
            try clear hfz105_1
            try clear hfz105_2
            try clear hfz105_3
            try clear hfz105_4
            try clear hfz105_5
            try clear hfz105_6
            try clear hfz105_7
            try clear hfz107_0
            try clear hfz107_1
            try clear hfz107_2
            try clear hfz107_3
            try clear hfz107_4
            try clear hfz107_5
            try clear hfz107_6
            try clear hfz107_7
            try clear hfz111_0
            try clear hfz111_1
            try clear hfz111_2
            try clear hfz111_3
            try clear hfz111_4
            try clear hfz111_5
            try clear hfz111_6
            try clear hfz111_7
            try clear hfz121_0
            try clear hfz121_1
            try clear hfz121_2
            try clear hfz121_3
            try clear hfz121_4
            try clear hfz121_5
            try clear hfz121_6
            try clear hfz121_7
            try clear hfz130_0
            try clear hfz130_1
            try clear hfz130_2
            try clear hfz130_3
            try clear hfz130_4
            try clear hfz130_5
            try clear hfz130_6
            try clear hfz130_7
            try clear hfz134_0
            try clear hfz134_1
            try clear hfz134_2
            try clear hfz134_3
            try clear hfz134_4
            try clear hfz134_5
            try clear hfz134_6
            try clear hfz134_7
            try clear hfz13_0
            try clear hfz13_1
            try clear hfz13_2
            try clear hfz13_3
            try clear hfz13_4
            try clear hfz13_5
            try clear hfz13_6
            try clear hfz13_7
            try clear hfz140_0
            try clear hfz140_1
            try clear hfz140_2
            try clear hfz140_3
            try clear hfz140_4
            try clear hfz140_5
            try clear hfz140_6
            try clear hfz140_7
            try clear hfz144_0
            try clear hfz144_1
            try clear hfz144_2
            try clear hfz144_3
            try clear hfz144_4
            try clear hfz144_5
            try clear hfz144_6
            try clear hfz144_7
            try clear hfz15_0
            try clear hfz15_1
            try clear hfz15_2
            try clear hfz15_3
            try clear hfz15_4
            try clear hfz15_5
            try clear hfz15_6
            try clear hfz15_7
            try clear hfz22_0
            try clear hfz22_1
            try clear hfz22_2
            try clear hfz22_3
            try clear hfz22_4
            try clear hfz22_5
            try clear hfz22_6
            try clear hfz22_7
            try clear hfz25_0
            try clear hfz25_1
            try clear hfz25_2
            try clear hfz25_3
            try clear hfz25_4
            try clear hfz25_5
            try clear hfz25_6
            try clear hfz25_7
            try clear hfz30_0
            try clear hfz30_1
            try clear hfz30_2
            try clear hfz30_3
            try clear hfz30_4
            try clear hfz30_5
            try clear hfz30_6
            try clear hfz30_7
            try clear hfz38_0
            try clear hfz38_1
            try clear hfz38_2
            try clear hfz38_3
            try clear hfz38_4
            try clear hfz38_5
            try clear hfz38_6
            try clear hfz38_7
            try clear hfz46_0
            try clear hfz46_1
            try clear hfz46_2
            try clear hfz46_3
            try clear hfz46_4
            try clear hfz46_5
            try clear hfz46_6
            try clear hfz46_7
            try clear hfz49_0
            try clear hfz49_1
            try clear hfz49_2
            try clear hfz49_3
            try clear hfz49_4
            try clear hfz49_5
            try clear hfz49_6
            try clear hfz49_7
            try clear hfz54_0
            try clear hfz54_1
            try clear hfz54_2
            try clear hfz54_3
            try clear hfz54_4
            try clear hfz54_5
            try clear hfz54_6
            try clear hfz54_7
            try clear hfz57_0
            try clear hfz57_1
            try clear hfz57_2
            try clear hfz57_3
            try clear hfz57_4
            try clear hfz57_5
            try clear hfz57_6
            try clear hfz57_7
            try clear hfz5_0
            try clear hfz5_1
            try clear hfz5_2
            try clear hfz5_3
            try clear hfz5_4
            try clear hfz5_5
            try clear hfz5_6
            try clear hfz5_7
            try clear hfz73_0
            try clear hfz73_1
            try clear hfz73_2
            try clear hfz73_3
            try clear hfz73_4
            try clear hfz73_5
            try clear hfz73_6
            try clear hfz73_7
            try clear hfz81_0
            try clear hfz81_1
            try clear hfz81_2
            try clear hfz81_3
            try clear hfz81_4
            try clear hfz81_5
            try clear hfz81_6
            try clear hfz81_7
            try clear hfz84_0
            try clear hfz84_1
            try clear hfz84_2
            try clear hfz84_3
            try clear hfz84_4
            try clear hfz84_5
            try clear hfz84_6
            try clear hfz84_7
            try clear hfz89_0
            try clear hfz89_1
            try clear hfz89_2
            try clear hfz89_3
            try clear hfz89_4
            try clear hfz89_5
            try clear hfz89_6
            try clear hfz89_7
            try clear hfz92_0
            try clear hfz92_1
            try clear hfz92_2
            try clear hfz92_3
            try clear hfz92_4
            try clear hfz92_5
            try clear hfz92_6
            try clear hfz92_7
            try clear p2
            obtain ⟨kq, x87_100, rfl, HA, HJ100, HO_794003, HO_794006, HO_807003, HO_807006, HO_821003, HO_821006, HO_869003, HO_869006, BK766, BK793, BK806, BK820, BK868, HB⟩ := hcut
            have hl821003_100 := (Kd.R_reads' HO_821003.out).1
            rw [hl821003_100] at HO_821003
            (try simp only [hl821003_100])
            (try simp only [hl821003_100] at BK766)
            (try simp only [hl821003_100] at BK793)
            (try simp only [hl821003_100] at BK806)
            (try simp only [hl821003_100] at BK820)
            (try simp only [hl821003_100] at BK868)
            (try simp only [hl821003_100] at HO_794003)
            (try simp only [hl821003_100] at HO_794006)
            (try simp only [hl821003_100] at HO_807003)
            (try simp only [hl821003_100] at HO_807006)
            (try simp only [hl821003_100] at HO_821006)
            (try simp only [hl821003_100] at HO_869003)
            (try simp only [hl821003_100] at HO_869006)
            have hl821006_100 := (Kd.R_reads' HO_821006.out).1
            rw [hl821006_100] at HO_821006
            (try simp only [hl821006_100])
            (try simp only [hl821006_100] at BK766)
            (try simp only [hl821006_100] at BK793)
            (try simp only [hl821006_100] at BK806)
            (try simp only [hl821006_100] at BK820)
            (try simp only [hl821006_100] at BK868)
            (try simp only [hl821006_100] at HO_794003)
            (try simp only [hl821006_100] at HO_794006)
            (try simp only [hl821006_100] at HO_807003)
            (try simp only [hl821006_100] at HO_807006)
            (try simp only [hl821006_100] at HO_821003)
            (try simp only [hl821006_100] at HO_869003)
            (try simp only [hl821006_100] at HO_869006)
            cases kq with
            | zero => exact absurd HA.out (by simp [laws_FnExactLeave.j2])
            | succ kj100 =>
             have H := HA.out
             clear HA
             simp only [laws_FnExactLeave.j2] at H
             by_cases c146 : x87_100 = true
             ·subst c146
              have H1 : (some false) = some true := by first | (rw [if_pos rfl] at H; exact H) | rfl
              clear H
              have H := H1
              clear H1
              exact absurd (Option.some.inj H) Bool.false_ne_true
             ·replace c146 := Bool.eq_false_iff.mpr c146
              subst c146
              have H1 : ((laws_heldGarden.f kj100 t807 t808 t809 t840 t813 t814 t841 t818 1).bind fun t870 => (if t870 < 0 then (some false) else (if t870 = t839 then (some true) else (some false)))) = some true := by rw [if_neg (show ¬ (false = true) by decide)] at H; exact H
              clear H
              have H := H1
              clear H1
              replace H := Option.bind_eq_some_iff.mp H
              obtain ⟨t870, A1470, H⟩ := H
              replace H : (if t870 < 0 then (some false) else (if t870 = t839 then (some true) else (some false))) = some true := H
              have A147 := aK A1470
              clear A1470
              by_cases c148 : t870 < 0
              ·rw [if_pos c148] at H
               have c148b0 : decide (t870 < 0) = true := decide_eq_true c148
               clear c148
               exact absurd (Option.some.inj H) Bool.false_ne_true
              ·rw [if_neg c148] at H
               have c148b0 : decide (t870 < 0) = false := decide_eq_false c148
               clear c148
               by_cases c149 : t870 = t839
               ·rw [if_pos c149] at H
                have c149b0 : (t870 == t839) = true := beq_iff_eq.mpr c149
                have c149b1 : (t870 != t839) = false := bne_eq_false_iff_eq.mpr c149
                clear c149
                have hnb150 := NB820_766.out
                have hnc150 := NB766_820.out
                have hnb151 := NB820_793.out
                have hnc151 := NB793_820.out
                have hnb152 := NB820_806.out
                have hnc152 := NB806_820.out
                have hnb153 := NB820_868.out
                have hnc153 := NB868_820.out
                obtain ⟨hcz154_0, hcz154_1, hcz154_2, hcz154_3, hcz154_4, hcz154_5, hcz154_6, hcz154_7, hfz154_0, hfz154_1, hfz154_2, hfz154_3, hfz154_4, hfz154_5, hfz154_6, hfz154_7⟩ := cl8 BK820.out
                go_wp2_with (first | ((with_reducible refine gate_callee (f := 21) rfl ?_); refine goesL_ (some 90) rfl rfl Tryz.func21 (by kernel_rfl) rfl #[.agg #[.int .i64 t807, .int .i64 t808, .int .i64 t809, .slice Ao39 t840.length co39, .int .i64 t813, .int .i64 t814, .slice Ao40 t841.length co40, .int .i64 t818], .int .i64 1] rfl zD ?_; (with_reducible refine (laws_heldGarden.calls kj100 t807 t808 t809 _ _ t840 t813 t814 _ _ t841 t818 1 t870 _ ?side1 ?side2 ?side3 ?side4 A147.out).mono ?_); (case side1 => exact zC (Kd.R_reads' HO_821003.out).2.2); (case side2 => exact (Kd.R_reads' HO_821003.out).2.1); (case side3 => exact zC (Kd.R_reads' HO_821006.out).2.2); (case side4 => exact (Kd.R_reads' HO_821006.out).2.1); rintro e w155 ⟨rfl, hb⟩; refine ⟨_, rfl, ?_⟩; replace HO_794003 := aK (Kd.R_below (zA HO_794003) hb); replace HO_794006 := aK (Kd.R_below (zA HO_794006) hb); replace HO_807003 := aK (Kd.R_below (zA HO_807003) hb); replace HO_807006 := aK (Kd.R_below (zA HO_807006) hb); replace HO_821003 := aK (Kd.R_below (zA HO_821003) hb); replace HO_821006 := aK (Kd.R_below (zA HO_821006) hb); replace HO_869003 := aK (Kd.R_below (zA HO_869003) hb); replace HO_869006 := aK (Kd.R_below (zA HO_869006) hb); replace BK766 := zB BK766 hb; replace BK793 := zB BK793 hb; replace BK806 := zB BK806 hb; replace BK820 := zB BK820 hb; replace BK868 := zB BK868 hb; replace HB := aK (bSp (zH5 HB GE766 GE793 GE806 GE820 GE868) hb); (try clear hb); (try clear hb2); (try clear hk); (try clear hi)))
                go_ret
                exact ⟨by first | rfl | (simp [errW_none, errW_some] <;> rfl) | (simp [*, errW_none, errW_some] <;> rfl), by repeat (first | (with_reducible first | exact HB.out | apply bAl | apply bDN | apply bD1 | refine bSt ?_ GE766.out | refine bSt ?_ GE793.out | refine bSt ?_ GE806.out | refine bSt ?_ GE820.out | refine bSt ?_ GE868.out) | exact HB.out)⟩
               ·rw [if_neg c149] at H
                have c149b0 : (t870 == t839) = false := beq_eq_false_iff_ne.mpr c149
                have c149b1 : (t870 != t839) = true := bne_iff_ne.mpr c149
                exact absurd (Option.some.inj H) Bool.false_ne_true
          ·rw [if_neg c98] at H
           have c98b0 : (t842 == t839) = false := beq_eq_false_iff_ne.mpr c98
           have c98b1 : (t842 != t839) = true := bne_iff_ne.mpr c98
           exact absurd (Option.some.inj H) Bool.false_ne_true
     ·replace c62 := Bool.eq_false_iff.mpr c62
      subst c62
      have H1 : (some false) = some true := by rw [if_neg (show ¬ (false = true) by decide)] at H; exact H
      clear H
      have H := H1
      clear H1
      exact absurd (Option.some.inj H) Bool.false_ne_true
end Go.Proofs.YtkindoepnganmaaGreat.F
end

section
namespace Go.Proofs.YtkindoepnganmaaGreat.F
open Go.RowKit Go.Proofs.YtkindoepnganmaaGreatW.PrintWords Go.Proofs.YtkindoepnganmaaGreatW.PrintLast Go.Proofs.YtkindoepnganmaaGreatW.PrintMore
set_option linter.unusedVariables false
set_option linter.unusedSimpArgs false
theorem rd_set {D : List Int} {i x v : Int} (hi : 0 ≤ i) (hx : 0 ≤ x) (hl : i < D.length) : rd (D.set i.toNat v) x = if x = i then v else rd D x := by
  unfold rd
  rw [List.getD_eq_getElem?_getD, List.getElem?_set]
  by_cases h : x = i
  · subst h
    rw [if_pos rfl, if_pos (by omega), if_pos rfl]; rfl
  · rw [if_neg (by omega), if_neg h, List.getD_eq_getElem?_getD]
theorem rd_lt {D : List Int} {x : Int} (hx : 0 ≤ x) (hl : x < D.length) : ∃ h : x.toNat < D.length, rd D x = D[x.toNat] := by
  have h : x.toNat < D.length := by omega
  exact ⟨h, by unfold rd; rw [List.getD_eq_getElem?_getD, List.getElem?_eq_getElem h]; rfl⟩
theorem rd_memI {D : List Int} {x : Int} (hx : 0 ≤ x) (hl : x < D.length) : rd D x ∈ D := by
  obtain ⟨h, e⟩ := rd_lt hx hl
  rw [e]; exact List.getElem_mem h
theorem mem_rd {D : List Int} {v : Int} (h : v ∈ D) : ∃ j : Nat, j < D.length ∧ rd D (j : Int) = v := by
  obtain ⟨j, hj, rfl⟩ := List.getElem_of_mem h
  exact ⟨j, hj, by rw [rd_nat, List.getD_eq_getElem?_getD, List.getElem?_eq_getElem hj]; rfl⟩
theorem rd_app_left {D E : List Int} {j : Nat} (h : j < D.length) : rd (D ++ E) (j : Int) = rd D (j : Int) := by
  simp only [rd_nat, List.getD_eq_getElem?_getD]
  rw [List.getElem?_append_left h]
theorem rd_app_last {D : List Int} {v : Int} : rd (D ++ [v]) (D.length : Int) = v := by
  simp only [rd_nat, List.getD_eq_getElem?_getD]
  rw [List.getElem?_append_right (Nat.le_refl _)]
  simp
def bfsD (nx : Int → Int → Int) (c : Int) : List Int → List Int × List Int → List Int × List Int
  | [], s => s
  | d :: ds, s => if 0 ≤ nx c d ∧ rd s.1 (nx c d) < 0 then bfsD nx c ds (s.1.set (nx c d).toNat (rd s.1 c + 1), s.2 ++ [nx c d]) else bfsD nx c ds s
def bfs (nx : Int → Int → Int) : Nat → Nat → List Int × List Int → List Int
  | 0, _, s => s.1
  | f + 1, i, s => if i < s.2.length then bfs nx f (i + 1) (bfsD nx (rd s.2 i) [0, 1, 2, 3] s) else s.1
def dists (nx : Int → Int → Int) (N : Nat) (a : Int) : List Int := bfs nx (N + 1) 0 ((List.replicate N (-1)).set a.toNat 0, [a])
inductive Walk (nx : Int → Int → Int) (a : Int) : Nat → Int → Prop
  | nil : Walk nx a 0 a
  | snoc {n : Nat} {b d : Int} : Walk nx a n b → 0 ≤ nx b d → Walk nx a (n + 1) (nx b d)
structure Steps (nx : Int → Int → Int) (N : Nat) : Prop where
  rng : ∀ c d, 0 ≤ nx c d → 0 ≤ c ∧ c < N ∧ nx c d < N ∧ 0 ≤ d ∧ d ≤ 3
structure Bfs (nx : Int → Int → Int) (N : Nat) (a : Int) (D Q : List Int) : Prop where
  len : D.length = N
  cnt : D.countP (· < 0) + Q.length = N
  inq : ∀ x ∈ Q, 0 ≤ x ∧ x < N ∧ 0 ≤ rd D x ∧ Walk nx a (rd D x).toNat x
  out : ∀ x : Int, 0 ≤ x → x < N → x ∉ Q → rd D x = -1
  src : rd D a = 0 ∧ a ∈ Q
  mono : ∀ j k : Nat, j ≤ k → k < Q.length → rd D (rd Q j) ≤ rd D (rd Q k)
structure BfsAt (nx : Int → Int → Int) (N : Nat) (a : Int) (i : Nat) (D Q : List Int) : Prop extends Bfs nx N a D Q where
  near : i < Q.length → ∀ x ∈ Q, rd D x ≤ rd D (rd Q i) + 1
  done : ∀ j, j < i → j < Q.length → ∀ d, 0 ≤ nx (rd Q j) d → nx (rd Q j) d ∈ Q ∧ rd D (nx (rd Q j) d) ≤ rd D (rd Q j) + 1
theorem countP_lt_set {D : List Int} {i v : Int} (hi : 0 ≤ i) (hl : i < D.length) (hneg : rd D i < 0) (hv : 0 ≤ v) : (D.set i.toNat v).countP (· < 0) + 1 = D.countP (· < 0) := by
  obtain ⟨h, e⟩ := rd_lt hi hl
  rw [e] at hneg
  have hpos : 0 < D.countP (· < 0) := List.countP_pos_iff.2 ⟨D[i.toNat], List.getElem_mem h, by simpa using hneg⟩
  rw [List.countP_set h]
  simp [hneg, show ¬ v < 0 by omega]
  omega
theorem bfs_push {nx : Int → Int → Int} {N : Nat} {a : Int} {i : Nat} {D Q : List Int} (S : Steps nx N) (B : BfsAt nx N a i D Q) (hi : i < Q.length) {d : Int} (h0 : 0 ≤ nx (rd Q i) d) (hneg : rd D (nx (rd Q i) d) < 0) :
    BfsAt nx N a i (D.set (nx (rd Q i) d).toNat (rd D (rd Q i) + 1)) (Q ++ [nx (rd Q i) d]) := by
  have hci : rd Q i ∈ Q := rd_memI (by omega) (by omega)
  generalize hc : rd Q i = c at *
  generalize hn : nx c d = n at *
  have hr := S.rng c d (by omega)
  rw [hn] at hr
  obtain ⟨c0, c1, cd, cw⟩ := B.inq c hci
  have hnl : n < D.length := by rw [B.len]; omega
  have hnQ : n ∉ Q := fun h => by have := (B.inq n h).2.2.1; omega
  have same : ∀ x ∈ Q, rd (D.set n.toNat (rd D c + 1)) x = rd D x := fun x hx => by
    have := (B.inq x hx).1
    rw [rd_set h0 this hnl, if_neg (by rintro rfl; exact hnQ hx)]
  have newv : rd (D.set n.toNat (rd D c + 1)) n = rd D c + 1 := by rw [rd_set h0 h0 hnl, if_pos rfl]
  have rq : ∀ j : Nat, j < Q.length → rd (Q ++ [n]) (j : Int) = rd Q (j : Int) := fun j hj => rd_app_left hj
  have wn : Walk nx a (rd D c + 1).toNat n := by
    have := Walk.snoc (d := d) cw (by omega)
    rw [hn] at this
    rwa [show (rd D c).toNat + 1 = (rd D c + 1).toNat by omega] at this
  refine ⟨⟨by rw [List.length_set, B.len], ?_, ?_, ?_, ?_, ?_⟩, ?_, ?_⟩
  · have := countP_lt_set (v := rd D c + 1) h0 hnl hneg (by omega)
    have := B.cnt
    rw [List.length_append, List.length_singleton]
    omega
  · intro x hx
    rcases List.mem_append.1 hx with hx | hx
    · rw [same x hx]; exact B.inq x hx
    · rw [List.mem_singleton.1 hx, newv]
      exact ⟨h0, hr.2.2.1, by omega, wn⟩
  · intro x x0 x1 hx
    rw [List.mem_append, not_or] at hx
    rw [rd_set h0 x0 hnl, if_neg (by rintro rfl; exact hx.2 (by simp))]
    exact B.out x x0 x1 hx.1
  · exact ⟨by rw [same a B.src.2]; exact B.src.1, List.mem_append_left _ B.src.2⟩
  · intro j k hjk hk
    rw [List.length_append, List.length_singleton] at hk
    by_cases hk' : k < Q.length
    · rw [rq j (by omega), rq k hk', same _ (rd_memI (by omega) (by omega)), same _ (rd_memI (by omega) (by omega))]
      exact B.mono j k hjk hk'
    · have ek : k = Q.length := by omega
      subst ek
      rw [rd_app_last, newv]
      by_cases hj' : j < Q.length
      · rw [rq j hj', same _ (rd_memI (by omega) (by omega))]
        have := B.near hi _ (rd_memI (D := Q) (x := (j : Int)) (by omega) (by omega))
        rw [hc] at this
        exact this
      · have ej : j = Q.length := by omega
        subst ej
        rw [rd_app_last, newv]
        exact Int.le_refl _
  · intro _ x hx
    rw [rq i hi, hc]
    rcases List.mem_append.1 hx with hx | hx
    · rw [same x hx, same c hci]
      have := B.near hi x hx
      rwa [hc] at this
    · rw [List.mem_singleton.1 hx, newv, same c hci]
      exact Int.le_refl _
  · intro j hj hjl e he
    rw [rq j (by omega)] at he ⊢
    obtain ⟨m1, m2⟩ := B.done j hj (by omega) e he
    exact ⟨List.mem_append_left _ m1, by rw [same _ m1, same _ (rd_memI (by omega) (by omega))]; exact m2⟩
theorem bfs_dirs {nx : Int → Int → Int} {N : Nat} {a : Int} {i : Nat} (S : Steps nx N) : ∀ (ds : List Int) (D Q : List Int), BfsAt nx N a i D Q → i < Q.length → ∀ D' Q', bfsD nx (rd Q i) ds (D, Q) = (D', Q') →
    BfsAt nx N a i D' Q' ∧ i < Q'.length ∧ rd Q' i = rd Q i ∧ (∀ x ∈ Q, x ∈ Q') ∧ (∀ d ∈ ds, 0 ≤ nx (rd Q i) d → nx (rd Q i) d ∈ Q' ∧ rd D' (nx (rd Q i) d) ≤ rd D' (rd Q i) + 1)
  | [], D, Q, B, hi, D', Q', e => by
    simp only [bfsD, Prod.mk.injEq] at e
    obtain ⟨rfl, rfl⟩ := e
    exact ⟨B, hi, rfl, fun _ h => h, fun d hd => by simp at hd⟩
  | d :: ds, D, Q, B, hi, D', Q', e => by
    simp only [bfsD] at e
    by_cases h : 0 ≤ nx (rd Q i) d ∧ rd D (nx (rd Q i) d) < 0
    · rw [if_pos h] at e
      have B' := bfs_push S B hi h.1 h.2
      have hq : rd (Q ++ [nx (rd Q i) d]) (i : Int) = rd Q i := rd_app_left hi
      have hi' : i < (Q ++ [nx (rd Q i) d]).length := by rw [List.length_append]; omega
      rw [← hq] at e
      obtain ⟨r1, r2, r3, r4, r5⟩ := bfs_dirs S ds _ _ B' hi' D' Q' (by rw [hq] at e ⊢; exact e)
      rw [hq] at r3 r5
      refine ⟨r1, r2, r3, fun x hx => r4 x (List.mem_append_left _ hx), fun e' he h0 => ?_⟩
      rcases List.mem_cons.1 he with rfl | he
      · have hm := r4 (nx (rd Q i) e') (by simp)
        have := r1.near r2 _ hm
        rw [r3] at this
        exact ⟨hm, this⟩
      · exact r5 e' he h0
    · rw [if_neg h] at e
      obtain ⟨r1, r2, r3, r4, r5⟩ := bfs_dirs S ds D Q B hi D' Q' e
      refine ⟨r1, r2, r3, r4, fun e' he h0 => ?_⟩
      rcases List.mem_cons.1 he with rfl | he
      · have hr := S.rng _ _ h0
        have hge : ¬ rd D (nx (rd Q i) e') < 0 := fun hh => h ⟨h0, hh⟩
        have hm : nx (rd Q i) e' ∈ Q := by
          by_cases hx : nx (rd Q i) e' ∈ Q
          · exact hx
          · have := B.out _ h0 hr.2.2.1 hx
            omega
        have := r1.near r2 _ (r4 _ hm)
        rw [r3] at this
        exact ⟨r4 _ hm, this⟩
      · exact r5 e' he h0
theorem bfs_run {nx : Int → Int → Int} {N : Nat} {a : Int} (S : Steps nx N) : ∀ (f i : Nat) (D Q : List Int), BfsAt nx N a i D Q → N < f + i → ∃ Q', BfsAt nx N a Q'.length (bfs nx f i (D, Q)) Q' ∨ (∃ j, Q'.length ≤ j ∧ BfsAt nx N a j (bfs nx f i (D, Q)) Q')
  | 0, i, D, Q, B, hf => ⟨Q, .inr ⟨i, by have := B.cnt; omega, B⟩⟩
  | f + 1, i, D, Q, B, hf => by
    simp only [bfs]
    by_cases hi : i < Q.length
    · rw [if_pos hi]
      generalize hs : bfsD nx (rd Q i) [0, 1, 2, 3] (D, Q) = s
      obtain ⟨D', Q'⟩ := s
      obtain ⟨r1, r2, r3, r4, r5⟩ := bfs_dirs S _ D Q B hi D' Q' hs
      refine bfs_run S f (i + 1) D' Q' ⟨r1.toBfs, fun h x hx => ?_, fun j hj hjl d hd => ?_⟩ (by omega)
      · have h1 := r1.near r2 x hx
        have h2 := r1.mono i (i + 1) (by omega) h
        omega
      · by_cases hj' : j = i
        · subst hj'
          rw [r3] at hd ⊢
          have hr := S.rng _ _ hd
          exact r5 d (by have : d = 0 ∨ d = 1 ∨ d = 2 ∨ d = 3 := by omega
                         rcases this with rfl | rfl | rfl | rfl <;> simp) hd
        · exact r1.done j (by omega) hjl d hd
    · rw [if_neg hi]
      exact ⟨Q, .inr ⟨i, by omega, B⟩⟩
theorem dists_spec {nx : Int → Int → Int} {N : Nat} {a : Int} (S : Steps nx N) (h0 : 0 ≤ a) (h1 : a < N) : (dists nx N a).length = N ∧ rd (dists nx N a) a = 0 ∧
    ∀ x : Int, 0 ≤ x → x < N → (rd (dists nx N a) x = -1 ∧ ∀ n, ¬ Walk nx a n x) ∨ (0 ≤ rd (dists nx N a) x ∧ Walk nx a (rd (dists nx N a) x).toNat x ∧ ∀ n, Walk nx a n x → rd (dists nx N a) x ≤ n) := by
  have hrep : ∀ x : Int, 0 ≤ x → x < N → rd (List.replicate N (-1)) x = -1 := fun x x0 x1 => by
    obtain ⟨h, e⟩ := rd_lt (D := List.replicate N (-1 : Int)) x0 (by simpa using x1)
    rw [e, List.getElem_replicate]
  have hset : ∀ x : Int, 0 ≤ x → x < N → rd ((List.replicate N (-1)).set a.toNat 0) x = if x = a then 0 else -1 := fun x x0 x1 => by
    rw [rd_set h0 x0 (by simpa using h1)]
    split
    · rfl
    · exact hrep x x0 x1
  have B0 : BfsAt nx N a 0 ((List.replicate N (-1)).set a.toNat 0) [a] := by
    refine ⟨⟨by simp, ?_, ?_, ?_, ?_, ?_⟩, ?_, ?_⟩
    · have := countP_lt_set (D := List.replicate N (-1 : Int)) (i := a) (v := 0) h0 (by simpa using h1) (by rw [hrep a h0 h1]; decide) (by decide)
      rw [List.countP_replicate] at this
      simpa using this
    · intro x hx
      rw [List.mem_singleton.1 hx, hset a h0 h1, if_pos rfl]
      exact ⟨h0, h1, by decide, Walk.nil⟩
    · intro x x0 x1 hx
      rw [hset x x0 x1, if_neg (by simpa using hx)]
    · exact ⟨by rw [hset a h0 h1, if_pos rfl], by simp⟩
    · intro j k hjk hk
      have : j = 0 := by simp at hk; omega
      have : k = 0 := by simp at hk; omega
      subst_vars
      exact Int.le_refl _
    · intro _ x hx
      rw [List.mem_singleton.1 hx]
      simp [rd]
      omega
    · intro j hj; omega
  have fin : ∃ j Q', Q'.length ≤ j ∧ BfsAt nx N a j (dists nx N a) Q' := by
    obtain ⟨Q', h | ⟨j, hj, h⟩⟩ := bfs_run S (N + 1) 0 _ _ B0 (by omega)
    · exact ⟨_, Q', Nat.le_refl _, h⟩
    · exact ⟨j, Q', hj, h⟩
  obtain ⟨j, Q', hj, B⟩ := fin
  have close : ∀ n x, Walk nx a n x → x ∈ Q' ∧ rd (dists nx N a) x ≤ n := by
    intro n x h
    induction h with
    | nil => exact ⟨B.src.2, by rw [B.src.1]; simp⟩
    | @snoc n b d hw hd ih =>
      obtain ⟨m1, m2⟩ := ih
      obtain ⟨i, hi, rfl⟩ := mem_rd m1
      obtain ⟨q1, q2⟩ := B.done i (by omega) hi d hd
      exact ⟨q1, by omega⟩
  refine ⟨B.len, B.src.1, fun x x0 x1 => ?_⟩
  by_cases hx : x ∈ Q'
  · right
    obtain ⟨_, _, q1, q2⟩ := B.inq x hx
    exact ⟨q1, q2, fun n hn => (close n x hn).2⟩
  · left
    exact ⟨B.out x x0 x1 hx, fun n hn => hx (close n x hn).1⟩
end Go.Proofs.YtkindoepnganmaaGreat.F
end
