/- Packed by a program of the session (wip/tools/pack.py): what the claim's theorem reaches, of the texts that wip/ and the kit's printer lay. -/
import Derived.Test.YtkindoepnganmaaGreatPkFnExactWalkIn7
import Derived.Test.YtkindoepnganmaaGreatPkFnExactWalkIn8
import Derived.Laws.StructEq
section
namespace Go.Proofs.YtkindoepnganmaaGreat.F
open Go.RowKit Go.Proofs.YtkindoepnganmaaGreatW.PrintWords Go.Proofs.YtkindoepnganmaaGreatW.PrintLast Go.Proofs.YtkindoepnganmaaGreatW.PrintMore
set_option linter.unusedVariables false
set_option linter.unusedSimpArgs false
attribute [local go_sem] max2_int min2_int max_two min_two
set_option maxHeartbeats 8000000 in
set_option maxRecDepth 100000 in
theorem laws_FnExactWalkIn.calls (k : Nat) (a0_0 : Int) (a0_1 : Int) (a0_2 : Int) (A0_3 : Option Addr) (c0_3 : Nat) (l0_3 : List Int) (a0_4 : Int) (a0_5 : Int) (A0_6 : Option Addr) (c0_6 : Nat) (l0_6 : List Int) (a0_7 : Int) (a1 : Int) (a2 : Int) (w : World) (hr0_3 : Kd.C (Kd.int .i64) w A0_3 l0_3.length l0_3) (hc0_3 : l0_3.length ≤ c0_3) (hr0_6 : Kd.C (Kd.int .i64) w A0_6 l0_6.length l0_6) (hc0_6 : l0_6.length ≤ c0_6) (h : laws_FnExactWalkIn.f k a0_0 a0_1 a0_2 l0_3 a0_4 a0_5 l0_6 a0_7 a1 a2 = some true) :
  Calls Tryz.prog 5 #[.agg #[.int .i64 a0_0, .int .i64 a0_1, .int .i64 a0_2, .slice A0_3 l0_3.length c0_3, .int .i64 a0_4, .int .i64 a0_5, .slice A0_6 l0_6.length c0_6, .int .i64 a0_7], .int .i64 a1, .int .i64 a2] w fun e w' => e = .returned (.bool true) ∧ Below w.heap.size w w' := by
 have hu30 := Tryz.underlying30
 have hu38 := Tryz.underlying38
 have HR0_3 := aK hr0_3
 have HC0_3 := aK hc0_3
 clear hr0_3 hc0_3
 have HR0_6 := aK hr0_6
 have HC0_6 := aK hc0_6
 clear hr0_6 hc0_6
 have HB := aK (Below.refl w.heap.size w)
 have H : ((laws_szGarden.f a0_0 a0_1 a0_2 l0_3 a0_4 a0_5 l0_6 a0_7 1048576).bind fun t938 => (if t938 < 0 then (some true) else ((laws_toGarden.f k a0_0 a0_1 a0_2 l0_3 a0_4 a0_5 l0_6 a0_7).bind fun bt939 => ((spec_WalkIn.f k bt939.1 bt939.2.1 bt939.2.2.1 bt939.2.2.2.1 bt939.2.2.2.2.1 bt939.2.2.2.2.2.1 bt939.2.2.2.2.2.2.1 bt939.2.2.2.2.2.2.2 a1 a2).bind fun bt951 => ((laws_toGarden.f k a0_0 a0_1 a0_2 l0_3 a0_4 a0_5 l0_6 a0_7).bind fun bt965 => ((impl_WalkIn.f k bt965.1 bt965.2.1 bt965.2.2.1 bt965.2.2.2.1 bt965.2.2.2.2.1 bt965.2.2.2.2.2.1 bt965.2.2.2.2.2.2.1 bt965.2.2.2.2.2.2.2 a1 a2).bind fun bt978 => ((laws_eqGarden.f k bt978.1 bt978.2.1 bt978.2.2.1 bt978.2.2.2.1 bt978.2.2.2.2.1 bt978.2.2.2.2.2.1 bt978.2.2.2.2.2.2.1 bt978.2.2.2.2.2.2.2.1 bt951.1 bt951.2.1 bt951.2.2.1 bt951.2.2.2.1 bt951.2.2.2.2.1 bt951.2.2.2.2.2.1 bt951.2.2.2.2.2.2.1 bt951.2.2.2.2.2.2.2.1).bind fun t992 => (if t992 = true then (laws_FnExactWalkIn.j0 k a1 a2 bt951.2.2.2.2.2.2.2.2 bt978.2.2.2.2.2.2.2.2 (bt978.2.2.2.2.2.2.2.2 != bt951.2.2.2.2.2.2.2.2) a0_0 a0_1 a0_2 l0_3 a0_4 a0_5 l0_6 a0_7 bt951.1 bt951.2.1 bt951.2.2.1 bt951.2.2.2.1 bt951.2.2.2.2.1 bt951.2.2.2.2.2.1 bt951.2.2.2.2.2.2.1 bt951.2.2.2.2.2.2.2.1 bt965.1 bt965.2.1 bt965.2.2.1 bt965.2.2.2.1 bt965.2.2.2.2.1 bt965.2.2.2.2.2.1 bt965.2.2.2.2.2.2.1 bt965.2.2.2.2.2.2.2 bt978.1 bt978.2.1 bt978.2.2.1 bt978.2.2.2.1 bt978.2.2.2.2.1 bt978.2.2.2.2.2.1 bt978.2.2.2.2.2.2.1 bt978.2.2.2.2.2.2.2.1) else (laws_FnExactWalkIn.j0 k a1 a2 bt951.2.2.2.2.2.2.2.2 bt978.2.2.2.2.2.2.2.2 true a0_0 a0_1 a0_2 l0_3 a0_4 a0_5 l0_6 a0_7 bt951.1 bt951.2.1 bt951.2.2.1 bt951.2.2.2.1 bt951.2.2.2.2.1 bt951.2.2.2.2.2.1 bt951.2.2.2.2.2.2.1 bt951.2.2.2.2.2.2.2.1 bt965.1 bt965.2.1 bt965.2.2.1 bt965.2.2.2.1 bt965.2.2.2.2.1 bt965.2.2.2.2.2.1 bt965.2.2.2.2.2.2.1 bt965.2.2.2.2.2.2.2 bt978.1 bt978.2.1 bt978.2.2.1 bt978.2.2.2.1 bt978.2.2.2.2.1 bt978.2.2.2.2.2.1 bt978.2.2.2.2.2.2.1 bt978.2.2.2.2.2.2.2.1))))))))) = some true := h
 clear h
 replace H := Option.bind_eq_some_iff.mp H
 obtain ⟨t938, A40, H⟩ := H
 replace H : (if t938 < 0 then (some true) else ((laws_toGarden.f k a0_0 a0_1 a0_2 l0_3 a0_4 a0_5 l0_6 a0_7).bind fun bt939 => ((spec_WalkIn.f k bt939.1 bt939.2.1 bt939.2.2.1 bt939.2.2.2.1 bt939.2.2.2.2.1 bt939.2.2.2.2.2.1 bt939.2.2.2.2.2.2.1 bt939.2.2.2.2.2.2.2 a1 a2).bind fun bt951 => ((laws_toGarden.f k a0_0 a0_1 a0_2 l0_3 a0_4 a0_5 l0_6 a0_7).bind fun bt965 => ((impl_WalkIn.f k bt965.1 bt965.2.1 bt965.2.2.1 bt965.2.2.2.1 bt965.2.2.2.2.1 bt965.2.2.2.2.2.1 bt965.2.2.2.2.2.2.1 bt965.2.2.2.2.2.2.2 a1 a2).bind fun bt978 => ((laws_eqGarden.f k bt978.1 bt978.2.1 bt978.2.2.1 bt978.2.2.2.1 bt978.2.2.2.2.1 bt978.2.2.2.2.2.1 bt978.2.2.2.2.2.2.1 bt978.2.2.2.2.2.2.2.1 bt951.1 bt951.2.1 bt951.2.2.1 bt951.2.2.2.1 bt951.2.2.2.2.1 bt951.2.2.2.2.2.1 bt951.2.2.2.2.2.2.1 bt951.2.2.2.2.2.2.2.1).bind fun t992 => (if t992 = true then (laws_FnExactWalkIn.j0 k a1 a2 bt951.2.2.2.2.2.2.2.2 bt978.2.2.2.2.2.2.2.2 (bt978.2.2.2.2.2.2.2.2 != bt951.2.2.2.2.2.2.2.2) a0_0 a0_1 a0_2 l0_3 a0_4 a0_5 l0_6 a0_7 bt951.1 bt951.2.1 bt951.2.2.1 bt951.2.2.2.1 bt951.2.2.2.2.1 bt951.2.2.2.2.2.1 bt951.2.2.2.2.2.2.1 bt951.2.2.2.2.2.2.2.1 bt965.1 bt965.2.1 bt965.2.2.1 bt965.2.2.2.1 bt965.2.2.2.2.1 bt965.2.2.2.2.2.1 bt965.2.2.2.2.2.2.1 bt965.2.2.2.2.2.2.2 bt978.1 bt978.2.1 bt978.2.2.1 bt978.2.2.2.1 bt978.2.2.2.2.1 bt978.2.2.2.2.2.1 bt978.2.2.2.2.2.2.1 bt978.2.2.2.2.2.2.2.1) else (laws_FnExactWalkIn.j0 k a1 a2 bt951.2.2.2.2.2.2.2.2 bt978.2.2.2.2.2.2.2.2 true a0_0 a0_1 a0_2 l0_3 a0_4 a0_5 l0_6 a0_7 bt951.1 bt951.2.1 bt951.2.2.1 bt951.2.2.2.1 bt951.2.2.2.2.1 bt951.2.2.2.2.2.1 bt951.2.2.2.2.2.2.1 bt951.2.2.2.2.2.2.2.1 bt965.1 bt965.2.1 bt965.2.2.1 bt965.2.2.2.1 bt965.2.2.2.2.1 bt965.2.2.2.2.2.1 bt965.2.2.2.2.2.2.1 bt965.2.2.2.2.2.2.2 bt978.1 bt978.2.1 bt978.2.2.1 bt978.2.2.2.1 bt978.2.2.2.2.1 bt978.2.2.2.2.2.1 bt978.2.2.2.2.2.2.1 bt978.2.2.2.2.2.2.2.1)))))))) = some true := H
 have A4 := aK A40
 clear A40
 by_cases c5 : t938 < 0
 ·rw [if_pos c5] at H
  have c5b0 : decide (t938 < 0) = true := decide_eq_true c5
  clear c5
  go_enter Tryz.func5, Tryz.ntmps5
  go_wp2_with (first | ((with_reducible refine gate_dst (N := 3) rfl ?_); refine box_event ?hg (N := 3) ?hd (cs := #[.int .i64 a0_0, .int .i64 a0_1, .int .i64 a0_2, .slice A0_3 l0_3.length c0_3, .int .i64 a0_4, .int .i64 a0_5, .slice A0_6 l0_6.length c0_6, .int .i64 a0_7]) (t := 30) ?hr ?_; (case hd => rfl); (case hg => rfl); (case hr => first | (go_simp; done) | (go_simp; rfl)); intro gb937 hg w6 hbox hb; have BK937 := aK (hbox); have GW937 := aK ((by rw [hg]; exact (bSz (zH0 HB)) : w.heap.size ≤ gb937)); replace HB := aK (bSp (zH0 HB) hb); have GE937 := GW937; clear hb hbox hg; obtain ⟨hcz7_0, hcz7_1, hcz7_2, hcz7_3, hcz7_4, hcz7_5, hcz7_6, hcz7_7, hfz7_0, hfz7_1, hfz7_2, hfz7_3, hfz7_4, hfz7_5, hfz7_6, hfz7_7⟩ := cl8 BK937.out) | ((with_reducible refine gate_callee (f := 15) rfl ?_); refine goesL_ (some 20) rfl rfl Tryz.func15 (by kernel_rfl) rfl #[.agg #[.int .i64 a0_0, .int .i64 a0_1, .int .i64 a0_2, .slice A0_3 l0_3.length c0_3, .int .i64 a0_4, .int .i64 a0_5, .slice A0_6 l0_6.length c0_6, .int .i64 a0_7], .int .i64 1048576] rfl zD ?_; (with_reducible refine (laws_szGarden.calls a0_0 a0_1 a0_2 _ _ l0_3 a0_4 a0_5 _ _ l0_6 a0_7 1048576 t938 _ ?side1 ?side2 ?side3 ?side4 A4.out).mono ?_); (case side1 => exact zC (Kd.C_below HR0_3.out HB.out)); (case side2 => exact HC0_3.out); (case side3 => exact zC (Kd.C_below HR0_6.out HB.out)); (case side4 => exact HC0_6.out); rintro e w8 ⟨rfl, hb⟩; refine ⟨_, rfl, ?_⟩; replace BK937 := zB BK937 hb; replace HB := aK (bSp (zH1 HB GE937) hb); (try clear hb); (try clear hb2); (try clear hk); (try clear hi)))
  go_ret
  exact ⟨by first | rfl | (simp [errW_none, errW_some] <;> rfl) | (simp [*, errW_none, errW_some] <;> rfl), by repeat (first | (with_reducible first | exact HB.out | apply bAl | apply bDN | apply bD1 | refine bSt ?_ GE937.out) | exact HB.out)⟩
 ·rw [if_neg c5] at H
  have c5b0 : decide (t938 < 0) = false := decide_eq_false c5
  clear c5
  replace H := Option.bind_eq_some_iff.mp H
  obtain ⟨⟨t939, t940, t941, t942, t945, t946, t947, t950⟩, A90, H⟩ := H
  replace H : ((spec_WalkIn.f k t939 t940 t941 t942 t945 t946 t947 t950 a1 a2).bind fun bt951 => ((laws_toGarden.f k a0_0 a0_1 a0_2 l0_3 a0_4 a0_5 l0_6 a0_7).bind fun bt965 => ((impl_WalkIn.f k bt965.1 bt965.2.1 bt965.2.2.1 bt965.2.2.2.1 bt965.2.2.2.2.1 bt965.2.2.2.2.2.1 bt965.2.2.2.2.2.2.1 bt965.2.2.2.2.2.2.2 a1 a2).bind fun bt978 => ((laws_eqGarden.f k bt978.1 bt978.2.1 bt978.2.2.1 bt978.2.2.2.1 bt978.2.2.2.2.1 bt978.2.2.2.2.2.1 bt978.2.2.2.2.2.2.1 bt978.2.2.2.2.2.2.2.1 bt951.1 bt951.2.1 bt951.2.2.1 bt951.2.2.2.1 bt951.2.2.2.2.1 bt951.2.2.2.2.2.1 bt951.2.2.2.2.2.2.1 bt951.2.2.2.2.2.2.2.1).bind fun t992 => (if t992 = true then (laws_FnExactWalkIn.j0 k a1 a2 bt951.2.2.2.2.2.2.2.2 bt978.2.2.2.2.2.2.2.2 (bt978.2.2.2.2.2.2.2.2 != bt951.2.2.2.2.2.2.2.2) a0_0 a0_1 a0_2 l0_3 a0_4 a0_5 l0_6 a0_7 bt951.1 bt951.2.1 bt951.2.2.1 bt951.2.2.2.1 bt951.2.2.2.2.1 bt951.2.2.2.2.2.1 bt951.2.2.2.2.2.2.1 bt951.2.2.2.2.2.2.2.1 bt965.1 bt965.2.1 bt965.2.2.1 bt965.2.2.2.1 bt965.2.2.2.2.1 bt965.2.2.2.2.2.1 bt965.2.2.2.2.2.2.1 bt965.2.2.2.2.2.2.2 bt978.1 bt978.2.1 bt978.2.2.1 bt978.2.2.2.1 bt978.2.2.2.2.1 bt978.2.2.2.2.2.1 bt978.2.2.2.2.2.2.1 bt978.2.2.2.2.2.2.2.1) else (laws_FnExactWalkIn.j0 k a1 a2 bt951.2.2.2.2.2.2.2.2 bt978.2.2.2.2.2.2.2.2 true a0_0 a0_1 a0_2 l0_3 a0_4 a0_5 l0_6 a0_7 bt951.1 bt951.2.1 bt951.2.2.1 bt951.2.2.2.1 bt951.2.2.2.2.1 bt951.2.2.2.2.2.1 bt951.2.2.2.2.2.2.1 bt951.2.2.2.2.2.2.2.1 bt965.1 bt965.2.1 bt965.2.2.1 bt965.2.2.2.1 bt965.2.2.2.2.1 bt965.2.2.2.2.2.1 bt965.2.2.2.2.2.2.1 bt965.2.2.2.2.2.2.2 bt978.1 bt978.2.1 bt978.2.2.1 bt978.2.2.2.1 bt978.2.2.2.2.1 bt978.2.2.2.2.2.1 bt978.2.2.2.2.2.2.1 bt978.2.2.2.2.2.2.2.1)))))) = some true := H
  have A9 := aK A90
  clear A90
  replace H := Option.bind_eq_some_iff.mp H
  obtain ⟨⟨t951, t952, t953, t954, t957, t958, t959, t962, t963⟩, A100, H⟩ := H
  replace H : ((laws_toGarden.f k a0_0 a0_1 a0_2 l0_3 a0_4 a0_5 l0_6 a0_7).bind fun bt965 => ((impl_WalkIn.f k bt965.1 bt965.2.1 bt965.2.2.1 bt965.2.2.2.1 bt965.2.2.2.2.1 bt965.2.2.2.2.2.1 bt965.2.2.2.2.2.2.1 bt965.2.2.2.2.2.2.2 a1 a2).bind fun bt978 => ((laws_eqGarden.f k bt978.1 bt978.2.1 bt978.2.2.1 bt978.2.2.2.1 bt978.2.2.2.2.1 bt978.2.2.2.2.2.1 bt978.2.2.2.2.2.2.1 bt978.2.2.2.2.2.2.2.1 t951 t952 t953 t954 t957 t958 t959 t962).bind fun t992 => (if t992 = true then (laws_FnExactWalkIn.j0 k a1 a2 t963 bt978.2.2.2.2.2.2.2.2 (bt978.2.2.2.2.2.2.2.2 != t963) a0_0 a0_1 a0_2 l0_3 a0_4 a0_5 l0_6 a0_7 t951 t952 t953 t954 t957 t958 t959 t962 bt965.1 bt965.2.1 bt965.2.2.1 bt965.2.2.2.1 bt965.2.2.2.2.1 bt965.2.2.2.2.2.1 bt965.2.2.2.2.2.2.1 bt965.2.2.2.2.2.2.2 bt978.1 bt978.2.1 bt978.2.2.1 bt978.2.2.2.1 bt978.2.2.2.2.1 bt978.2.2.2.2.2.1 bt978.2.2.2.2.2.2.1 bt978.2.2.2.2.2.2.2.1) else (laws_FnExactWalkIn.j0 k a1 a2 t963 bt978.2.2.2.2.2.2.2.2 true a0_0 a0_1 a0_2 l0_3 a0_4 a0_5 l0_6 a0_7 t951 t952 t953 t954 t957 t958 t959 t962 bt965.1 bt965.2.1 bt965.2.2.1 bt965.2.2.2.1 bt965.2.2.2.2.1 bt965.2.2.2.2.2.1 bt965.2.2.2.2.2.2.1 bt965.2.2.2.2.2.2.2 bt978.1 bt978.2.1 bt978.2.2.1 bt978.2.2.2.1 bt978.2.2.2.2.1 bt978.2.2.2.2.2.1 bt978.2.2.2.2.2.2.1 bt978.2.2.2.2.2.2.2.1))))) = some true := H
  have A10 := aK A100
  clear A100
  replace H := Option.bind_eq_some_iff.mp H
  obtain ⟨⟨t965, t966, t967, t968, t971, t972, t973, t976⟩, A110, H⟩ := H
  replace H : ((impl_WalkIn.f k t965 t966 t967 t968 t971 t972 t973 t976 a1 a2).bind fun bt978 => ((laws_eqGarden.f k bt978.1 bt978.2.1 bt978.2.2.1 bt978.2.2.2.1 bt978.2.2.2.2.1 bt978.2.2.2.2.2.1 bt978.2.2.2.2.2.2.1 bt978.2.2.2.2.2.2.2.1 t951 t952 t953 t954 t957 t958 t959 t962).bind fun t992 => (if t992 = true then (laws_FnExactWalkIn.j0 k a1 a2 t963 bt978.2.2.2.2.2.2.2.2 (bt978.2.2.2.2.2.2.2.2 != t963) a0_0 a0_1 a0_2 l0_3 a0_4 a0_5 l0_6 a0_7 t951 t952 t953 t954 t957 t958 t959 t962 t965 t966 t967 t968 t971 t972 t973 t976 bt978.1 bt978.2.1 bt978.2.2.1 bt978.2.2.2.1 bt978.2.2.2.2.1 bt978.2.2.2.2.2.1 bt978.2.2.2.2.2.2.1 bt978.2.2.2.2.2.2.2.1) else (laws_FnExactWalkIn.j0 k a1 a2 t963 bt978.2.2.2.2.2.2.2.2 true a0_0 a0_1 a0_2 l0_3 a0_4 a0_5 l0_6 a0_7 t951 t952 t953 t954 t957 t958 t959 t962 t965 t966 t967 t968 t971 t972 t973 t976 bt978.1 bt978.2.1 bt978.2.2.1 bt978.2.2.2.1 bt978.2.2.2.2.1 bt978.2.2.2.2.2.1 bt978.2.2.2.2.2.2.1 bt978.2.2.2.2.2.2.2.1)))) = some true := H
  have A11 := aK A110
  clear A110
  replace H := Option.bind_eq_some_iff.mp H
  obtain ⟨⟨t978, t979, t980, t981, t984, t985, t986, t989, t990⟩, A120, H⟩ := H
  replace H : ((laws_eqGarden.f k t978 t979 t980 t981 t984 t985 t986 t989 t951 t952 t953 t954 t957 t958 t959 t962).bind fun t992 => (if t992 = true then (laws_FnExactWalkIn.j0 k a1 a2 t963 t990 (t990 != t963) a0_0 a0_1 a0_2 l0_3 a0_4 a0_5 l0_6 a0_7 t951 t952 t953 t954 t957 t958 t959 t962 t965 t966 t967 t968 t971 t972 t973 t976 t978 t979 t980 t981 t984 t985 t986 t989) else (laws_FnExactWalkIn.j0 k a1 a2 t963 t990 true a0_0 a0_1 a0_2 l0_3 a0_4 a0_5 l0_6 a0_7 t951 t952 t953 t954 t957 t958 t959 t962 t965 t966 t967 t968 t971 t972 t973 t976 t978 t979 t980 t981 t984 t985 t986 t989))) = some true := H
  have A12 := aK A120
  clear A120
  have HC13 := aK H
  clear H
  go_enter Tryz.func5, Tryz.ntmps5
  go_upto_region 8 with (first | ((with_reducible refine gate_dst (N := 3) rfl ?_); refine box_event ?hg (N := 3) ?hd (cs := #[.int .i64 a0_0, .int .i64 a0_1, .int .i64 a0_2, .slice A0_3 l0_3.length c0_3, .int .i64 a0_4, .int .i64 a0_5, .slice A0_6 l0_6.length c0_6, .int .i64 a0_7]) (t := 30) ?hr ?_; (case hd => rfl); (case hg => rfl); (case hr => first | (go_simp; done) | (go_simp; rfl)); intro gb937 hg w14 hbox hb; have BK937 := aK (hbox); have GW937 := aK ((by rw [hg]; exact (bSz (zH0 HB)) : w.heap.size ≤ gb937)); replace HB := aK (bSp (zH0 HB) hb); have GE937 := GW937; clear hb hbox hg; obtain ⟨hcz15_0, hcz15_1, hcz15_2, hcz15_3, hcz15_4, hcz15_5, hcz15_6, hcz15_7, hfz15_0, hfz15_1, hfz15_2, hfz15_3, hfz15_4, hfz15_5, hfz15_6, hfz15_7⟩ := cl8 BK937.out) | ((with_reducible refine gate_callee (f := 15) rfl ?_); refine goesL_ (some 20) rfl rfl Tryz.func15 (by kernel_rfl) rfl #[.agg #[.int .i64 a0_0, .int .i64 a0_1, .int .i64 a0_2, .slice A0_3 l0_3.length c0_3, .int .i64 a0_4, .int .i64 a0_5, .slice A0_6 l0_6.length c0_6, .int .i64 a0_7], .int .i64 1048576] rfl zD ?_; (with_reducible refine (laws_szGarden.calls a0_0 a0_1 a0_2 _ _ l0_3 a0_4 a0_5 _ _ l0_6 a0_7 1048576 t938 _ ?side1 ?side2 ?side3 ?side4 A4.out).mono ?_); (case side1 => exact zC (Kd.C_below HR0_3.out HB.out)); (case side2 => exact HC0_3.out); (case side3 => exact zC (Kd.C_below HR0_6.out HB.out)); (case side4 => exact HC0_6.out); rintro e w16 ⟨rfl, hb⟩; refine ⟨_, rfl, ?_⟩; replace BK937 := zB BK937 hb; replace HB := aK (bSp (zH1 HB GE937) hb); (try clear hb); (try clear hb2); (try clear hk); (try clear hi); obtain ⟨hcz17_0, hcz17_1, hcz17_2, hcz17_3, hcz17_4, hcz17_5, hcz17_6, hcz17_7, hfz17_0, hfz17_1, hfz17_2, hfz17_3, hfz17_4, hfz17_5, hfz17_6, hfz17_7⟩ := cl8 BK937.out) | ((with_reducible refine gate_callee (f := 17) rfl ?_); refine goesL_ (some 25) rfl rfl Tryz.func17 (by kernel_rfl) rfl #[.agg #[.int .i64 a0_0, .int .i64 a0_1, .int .i64 a0_2, .slice A0_3 l0_3.length c0_3, .int .i64 a0_4, .int .i64 a0_5, .slice A0_6 l0_6.length c0_6, .int .i64 a0_7]] rfl zD ?_; (with_reducible refine (laws_toGarden.calls k a0_0 a0_1 a0_2 _ _ l0_3 a0_4 a0_5 _ _ l0_6 a0_7 t939 t940 t941 t942 t945 t946 t947 t950 _ ?side1 ?side2 ?side3 ?side4 A9.out).mono ?_); (case side1 => exact zC (Kd.C_below HR0_3.out HB.out)); (case side2 => exact HC0_3.out); (case side3 => exact zC (Kd.C_below HR0_6.out HB.out)); (case side4 => exact HC0_6.out); rintro e w18 ⟨v943, v948, rfl, ho0, ho1, hb⟩; refine ⟨_, rfl, ?_⟩; have HO944 := aK (Kd.R_lower ho0 (bSz (zH1 HB GE937))); have HO949 := aK (Kd.R_lower ho1 (bSz (zH1 HB GE937))); replace BK937 := zB BK937 hb; replace HB := aK (bSp (zH1 HB GE937) hb); (try clear hb); (try clear hb2); (try clear hk); (try clear hi); (try clear ho0); (try clear ho1); obtain ⟨Ao19, co19, eo19⟩ := Kd.R_slice HO944.out; subst eo19; obtain ⟨Ao20, co20, eo20⟩ := Kd.R_slice HO949.out; subst eo20) | ((with_reducible refine gate_callee (f := 24) rfl ?_); refine goesL_ (some 28) rfl rfl Tryz.func24 (by kernel_rfl) rfl #[.agg #[.int .i64 t939, .int .i64 t940, .int .i64 t941, .slice Ao19 t942.length co19, .int .i64 t945, .int .i64 t946, .slice Ao20 t947.length co20, .int .i64 t950], .int .i64 a1, .int .i64 a2] rfl zD ?_; (with_reducible refine (spec_WalkIn.calls k t939 t940 t941 _ _ t942 t945 t946 _ _ t947 t950 a1 a2 t951 t952 t953 t954 t957 t958 t959 t962 t963 _ ?side1 ?side2 ?side3 ?side4 A10.out).mono ?_); (case side1 => exact zC (Kd.R_reads' HO944.out).2.2); (case side2 => exact (Kd.R_reads' HO944.out).2.1); (case side3 => exact zC (Kd.R_reads' HO949.out).2.2); (case side4 => exact (Kd.R_reads' HO949.out).2.1); rintro e w21 ⟨v955, v960, rfl, ho0, ho1, hb⟩; refine ⟨_, rfl, ?_⟩; have HO956 := aK (Kd.R_lower (Kd.R_new' (Kd.R_new' ho0 (Kd.R_lt (zA HO944))) (Kd.R_lt (zA HO949))) (bSz (zH1 HB GE937))); have HO961 := aK (Kd.R_lower (Kd.R_new' (Kd.R_new' ho1 (Kd.R_lt (zA HO944))) (Kd.R_lt (zA HO949))) (bSz (zH1 HB GE937))); replace HO944 := aK (Kd.R_mono (Kd.R_told (Kd.R_told (Kd.R_old (zA HO944) hb) (Kd.R_base ho0)) (Kd.R_base ho1)) (fun _ h_ => h_.1)); replace HO949 := aK (Kd.R_mono (Kd.R_told (Kd.R_told (Kd.R_old (zA HO949) hb) (Kd.R_base ho0)) (Kd.R_base ho1)) (fun _ h_ => h_.1)); replace BK937 := zB BK937 hb; replace HB := aK (bSp (zH1 HB GE937) hb); (try clear hb); (try clear hb2); (try clear hk); (try clear hi); (try clear ho0); (try clear ho1)) | ((with_reducible refine gate_dst (N := 8) rfl ?_); refine box_event ?hg (N := 8) ?hd (cs := #[.int .i64 0, .int .i64 0, .int .i64 0, .slice none 0 0, .int .i64 0, .int .i64 0, .slice none 0 0, .int .i64 0]) (t := 38) ?hr ?_; (case hd => rfl); (case hg => rfl); (case hr => first | (go_simp; done) | (go_simp; rfl)); intro gb964 hg w22 hbox hb; replace HO944 := aK (Kd.R_below (zA HO944) hb); replace HO949 := aK (Kd.R_below (zA HO949) hb); replace HO956 := aK (Kd.R_below (zA HO956) hb); replace HO961 := aK (Kd.R_below (zA HO961) hb); have BK964 := aK (hbox); have GW964 := aK ((by rw [hg]; exact (bSz (zH1 HB GE937)) : w.heap.size ≤ gb964)); replace HB := aK (bSp (zH1 HB GE937) hb); have GE964 := GW964; have NB937_964 := nbl BK937 hg (by intro z_; (with_reducible repeat (first | refine blk_drewN ?_ _ | refine kD ?_ | refine kA ?_ _)); exact z_); replace BK937 := zB BK937 hb; have NB964_937 := nbs NB937_964; clear hb hbox hg; have hnb23 := NB964_937.out; have hnc23 := NB937_964.out; obtain ⟨hcz24_0, hcz24_1, hcz24_2, hcz24_3, hcz24_4, hcz24_5, hcz24_6, hcz24_7, hfz24_0, hfz24_1, hfz24_2, hfz24_3, hfz24_4, hfz24_5, hfz24_6, hfz24_7⟩ := cl8 BK964.out; obtain ⟨Ao25, co25, eo25⟩ := Kd.R_slice HO956.out; subst eo25; obtain ⟨Ao26, co26, eo26⟩ := Kd.R_slice HO961.out; subst eo26; obtain ⟨hcz27_0, hcz27_1, hcz27_2, hcz27_3, hcz27_4, hcz27_5, hcz27_6, hcz27_7, hfz27_0, hfz27_1, hfz27_2, hfz27_3, hfz27_4, hfz27_5, hfz27_6, hfz27_7⟩ := cl8 BK937.out) | ((with_reducible refine gate_callee (f := 17) rfl ?_); refine goesL_ (some 32) rfl rfl Tryz.func17 (by kernel_rfl) rfl #[.agg #[.int .i64 a0_0, .int .i64 a0_1, .int .i64 a0_2, .slice A0_3 l0_3.length c0_3, .int .i64 a0_4, .int .i64 a0_5, .slice A0_6 l0_6.length c0_6, .int .i64 a0_7]] rfl zD ?_; (with_reducible refine (laws_toGarden.calls k a0_0 a0_1 a0_2 _ _ l0_3 a0_4 a0_5 _ _ l0_6 a0_7 t965 t966 t967 t968 t971 t972 t973 t976 _ ?side1 ?side2 ?side3 ?side4 A11.out).mono ?_); (case side1 => exact Kd.C_below HR0_3.out (zH2 HB GE937 GE964)); (case side2 => exact HC0_3.out); (case side3 => exact Kd.C_below HR0_6.out (zH2 HB GE937 GE964)); (case side4 => exact HC0_6.out); rintro e w28 ⟨v969, v974, rfl, ho0, ho1, hb⟩; refine ⟨_, rfl, ?_⟩; have HO970 := aK (Kd.R_lower (Kd.R_new' (Kd.R_new' (Kd.R_new' (Kd.R_new' ho0 (Kd.R_lt (zF8 HO944 BK964))) (Kd.R_lt (zF8 HO949 BK964))) (Kd.R_lt (zF8 HO956 BK964))) (Kd.R_lt (zF8 HO961 BK964))) (bSz (zH2 HB GE937 GE964))); have HO975 := aK (Kd.R_lower (Kd.R_new' (Kd.R_new' (Kd.R_new' (Kd.R_new' ho1 (Kd.R_lt (zF8 HO944 BK964))) (Kd.R_lt (zF8 HO949 BK964))) (Kd.R_lt (zF8 HO956 BK964))) (Kd.R_lt (zF8 HO961 BK964))) (bSz (zH2 HB GE937 GE964))); replace HO944 := aK (Kd.R_mono (Kd.R_told (Kd.R_told (Kd.R_old (zF8 HO944 BK964) hb) (Kd.R_base ho0)) (Kd.R_base ho1)) (fun _ h_ => h_.1)); replace HO949 := aK (Kd.R_mono (Kd.R_told (Kd.R_told (Kd.R_old (zF8 HO949 BK964) hb) (Kd.R_base ho0)) (Kd.R_base ho1)) (fun _ h_ => h_.1)); replace HO956 := aK (Kd.R_mono (Kd.R_told (Kd.R_told (Kd.R_old (zF8 HO956 BK964) hb) (Kd.R_base ho0)) (Kd.R_base ho1)) (fun _ h_ => h_.1)); replace HO961 := aK (Kd.R_mono (Kd.R_told (Kd.R_told (Kd.R_old (zF8 HO961 BK964) hb) (Kd.R_base ho0)) (Kd.R_base ho1)) (fun _ h_ => h_.1)); replace BK937 := zG8 BK937 NB937_964 hb; replace BK964 := aK (blk_below (g := gb964) (o := .cells #[.int .i64 t951, .int .i64 t952, .int .i64 t953, .slice Ao25 t954.length co25, .int .i64 t957, .int .i64 t958, .slice Ao26 t959.length co26, .int .i64 t962] 38 (0, 0)) (by (with_reducible repeat (first | refine blk_drewN ?_ _ | refine kD ?_ | refine kA ?_ _)); refine blk_put (cs := #[.int .i64 t951, .int .i64 t952, .int .i64 t953, .slice Ao25 t954.length co25, .int .i64 t957, .int .i64 t958, .slice Ao26 t959.length co26, .int .i64 0]) ?_ 7 _ rfl; (with_reducible repeat (first | refine blk_drewN ?_ _ | refine kD ?_ | refine kA ?_ _)); refine blk_put (cs := #[.int .i64 t951, .int .i64 t952, .int .i64 t953, .slice Ao25 t954.length co25, .int .i64 t957, .int .i64 t958, .slice none 0 0, .int .i64 0]) ?_ 6 _ rfl; (with_reducible repeat (first | refine blk_drewN ?_ _ | refine kD ?_ | refine kA ?_ _)); refine blk_put (cs := #[.int .i64 t951, .int .i64 t952, .int .i64 t953, .slice Ao25 t954.length co25, .int .i64 t957, .int .i64 0, .slice none 0 0, .int .i64 0]) ?_ 5 _ rfl; (with_reducible repeat (first | refine blk_drewN ?_ _ | refine kD ?_ | refine kA ?_ _)); refine blk_put (cs := #[.int .i64 t951, .int .i64 t952, .int .i64 t953, .slice Ao25 t954.length co25, .int .i64 0, .int .i64 0, .slice none 0 0, .int .i64 0]) ?_ 4 _ rfl; (with_reducible repeat (first | refine blk_drewN ?_ _ | refine kD ?_ | refine kA ?_ _)); refine blk_put (cs := #[.int .i64 t951, .int .i64 t952, .int .i64 t953, .slice none 0 0, .int .i64 0, .int .i64 0, .slice none 0 0, .int .i64 0]) ?_ 3 _ rfl; (with_reducible repeat (first | refine blk_drewN ?_ _ | refine kD ?_ | refine kA ?_ _)); refine blk_put (cs := #[.int .i64 t951, .int .i64 t952, .int .i64 0, .slice none 0 0, .int .i64 0, .int .i64 0, .slice none 0 0, .int .i64 0]) ?_ 2 _ rfl; (with_reducible repeat (first | refine blk_drewN ?_ _ | refine kD ?_ | refine kA ?_ _)); refine blk_put (cs := #[.int .i64 t951, .int .i64 0, .int .i64 0, .slice none 0 0, .int .i64 0, .int .i64 0, .slice none 0 0, .int .i64 0]) ?_ 1 _ rfl; (with_reducible repeat (first | refine blk_drewN ?_ _ | refine kD ?_ | refine kA ?_ _)); refine blk_put (cs := #[.int .i64 0, .int .i64 0, .int .i64 0, .slice none 0 0, .int .i64 0, .int .i64 0, .slice none 0 0, .int .i64 0]) ?_ 0 _ rfl; (with_reducible repeat (first | refine blk_drewN ?_ _ | refine kD ?_ | refine kA ?_ _)); exact BK964.out) hb); replace HB := aK (bSp (zH2 HB GE937 GE964) hb); (try clear hb); (try clear hb2); (try clear hk); (try clear hi); (try clear ho0); (try clear ho1)) | ((with_reducible refine gate_dst (N := 10) rfl ?_); refine box_event ?hg (N := 10) ?hd (cs := #[.int .i64 0, .int .i64 0, .int .i64 0, .slice none 0 0, .int .i64 0, .int .i64 0, .slice none 0 0, .int .i64 0]) (t := 38) ?hr ?_; (case hd => rfl); (case hg => rfl); (case hr => first | (go_simp; done) | (go_simp; rfl)); intro gb977 hg w29 hbox hb; replace HO944 := aK (Kd.R_below (zA HO944) hb); replace HO949 := aK (Kd.R_below (zA HO949) hb); replace HO956 := aK (Kd.R_below (zA HO956) hb); replace HO961 := aK (Kd.R_below (zA HO961) hb); replace HO970 := aK (Kd.R_below (zA HO970) hb); replace HO975 := aK (Kd.R_below (zA HO975) hb); have BK977 := aK (hbox); have GW977 := aK ((by rw [hg]; exact (bSz (zH2 HB GE937 GE964)) : w.heap.size ≤ gb977)); replace HB := aK (bSp (zH2 HB GE937 GE964) hb); have GE977 := GW977; have NB937_977 := nbl BK937 hg (by intro z_; (with_reducible repeat (first | refine blk_drewN ?_ _ | refine kD ?_ | refine kA ?_ _)); exact z_); replace BK937 := zB BK937 hb; have NB977_937 := nbs NB937_977; have NB964_977 := nbl BK964 hg (by intro z_; (with_reducible repeat (first | refine blk_drewN ?_ _ | refine kD ?_ | refine kA ?_ _)); exact z_); replace BK964 := zB BK964 hb; have NB977_964 := nbs NB964_977; clear hb hbox hg; have hnb30 := NB977_937.out; have hnc30 := NB937_977.out; have hnb31 := NB977_964.out; have hnc31 := NB964_977.out; obtain ⟨hcz32_0, hcz32_1, hcz32_2, hcz32_3, hcz32_4, hcz32_5, hcz32_6, hcz32_7, hfz32_0, hfz32_1, hfz32_2, hfz32_3, hfz32_4, hfz32_5, hfz32_6, hfz32_7⟩ := cl8 BK977.out; obtain ⟨Ao33, co33, eo33⟩ := Kd.R_slice HO970.out; subst eo33; obtain ⟨Ao34, co34, eo34⟩ := Kd.R_slice HO975.out; subst eo34) | ((with_reducible refine gate_callee (f := 25) rfl ?_); refine goesL_ (some 37) rfl rfl Tryz.func25 (by kernel_rfl) rfl #[.agg #[.int .i64 t965, .int .i64 t966, .int .i64 t967, .slice Ao33 t968.length co33, .int .i64 t971, .int .i64 t972, .slice Ao34 t973.length co34, .int .i64 t976], .int .i64 a1, .int .i64 a2] rfl zD ?_; (with_reducible refine (impl_WalkIn.calls k t965 t966 t967 _ _ t968 t971 t972 _ _ t973 t976 a1 a2 t978 t979 t980 t981 t984 t985 t986 t989 t990 _ ?side1 ?side2 ?side3 ?side4 A12.out).mono ?_); (case side1 => refine (Kd.R_reads' (e := 3) (base := w.heap.size) (ok := fun k_ => ((((some k_ ≠ (.slice Ao34 t973.length co34 : Value).ownBlock ∧ some k_ ≠ (.slice Ao19 t942.length co19 : Value).ownBlock) ∧ some k_ ≠ (.slice Ao20 t947.length co20 : Value).ownBlock) ∧ some k_ ≠ (.slice Ao25 t954.length co25 : Value).ownBlock) ∧ some k_ ≠ (.slice Ao26 t959.length co26 : Value).ownBlock)) (n := t968.length) (c := co33) ?_).2.2; exact (zF8 HO970 BK977)); (case side2 => exact (Kd.R_reads' HO970.out).2.1); (case side3 => refine (Kd.R_reads' (e := 3) (base := w.heap.size) (ok := fun k_ => ((((some k_ ≠ (.slice Ao33 t968.length co33 : Value).ownBlock ∧ some k_ ≠ (.slice Ao19 t942.length co19 : Value).ownBlock) ∧ some k_ ≠ (.slice Ao20 t947.length co20 : Value).ownBlock) ∧ some k_ ≠ (.slice Ao25 t954.length co25 : Value).ownBlock) ∧ some k_ ≠ (.slice Ao26 t959.length co26 : Value).ownBlock)) (n := t973.length) (c := co34) ?_).2.2; exact (zF8 HO975 BK977)); (case side4 => exact (Kd.R_reads' HO975.out).2.1); rintro e w35 ⟨v982, v987, rfl, ho0, ho1, hb⟩; refine ⟨_, rfl, ?_⟩; have HO983 := aK (Kd.R_lower (Kd.R_new' (Kd.R_new' (Kd.R_new' (Kd.R_new' (Kd.R_new' (Kd.R_new' ho0 (Kd.R_lt (zF8 HO944 BK977))) (Kd.R_lt (zF8 HO949 BK977))) (Kd.R_lt (zF8 HO956 BK977))) (Kd.R_lt (zF8 HO961 BK977))) (Kd.R_lt (zF8 HO970 BK977))) (Kd.R_lt (zF8 HO975 BK977))) (bSz (zH3 HB GE937 GE964 GE977))); have HO988 := aK (Kd.R_lower (Kd.R_new' (Kd.R_new' (Kd.R_new' (Kd.R_new' (Kd.R_new' (Kd.R_new' ho1 (Kd.R_lt (zF8 HO944 BK977))) (Kd.R_lt (zF8 HO949 BK977))) (Kd.R_lt (zF8 HO956 BK977))) (Kd.R_lt (zF8 HO961 BK977))) (Kd.R_lt (zF8 HO970 BK977))) (Kd.R_lt (zF8 HO975 BK977))) (bSz (zH3 HB GE937 GE964 GE977))); replace HO944 := aK (Kd.R_mono (Kd.R_told (Kd.R_told (Kd.R_old (zF8 HO944 BK977) hb) (Kd.R_base ho0)) (Kd.R_base ho1)) (fun _ h_ => h_.1)); replace HO949 := aK (Kd.R_mono (Kd.R_told (Kd.R_told (Kd.R_old (zF8 HO949 BK977) hb) (Kd.R_base ho0)) (Kd.R_base ho1)) (fun _ h_ => h_.1)); replace HO956 := aK (Kd.R_mono (Kd.R_told (Kd.R_told (Kd.R_old (zF8 HO956 BK977) hb) (Kd.R_base ho0)) (Kd.R_base ho1)) (fun _ h_ => h_.1)); replace HO961 := aK (Kd.R_mono (Kd.R_told (Kd.R_told (Kd.R_old (zF8 HO961 BK977) hb) (Kd.R_base ho0)) (Kd.R_base ho1)) (fun _ h_ => h_.1)); replace HO970 := aK (Kd.R_mono (Kd.R_told (Kd.R_told (Kd.R_old (zF8 HO970 BK977) hb) (Kd.R_base ho0)) (Kd.R_base ho1)) (fun _ h_ => h_.1)); replace HO975 := aK (Kd.R_mono (Kd.R_told (Kd.R_told (Kd.R_old (zF8 HO975 BK977) hb) (Kd.R_base ho0)) (Kd.R_base ho1)) (fun _ h_ => h_.1)); replace BK937 := zG8 BK937 NB937_977 hb; replace BK964 := zG8 BK964 NB964_977 hb; replace BK977 := aK (blk_below (g := gb977) (o := .cells #[.int .i64 t965, .int .i64 t966, .int .i64 t967, .slice Ao33 t968.length co33, .int .i64 t971, .int .i64 t972, .slice Ao34 t973.length co34, .int .i64 t976] 38 (0, 0)) (by (with_reducible repeat (first | refine blk_drewN ?_ _ | refine kD ?_ | refine kA ?_ _)); refine blk_put (cs := #[.int .i64 t965, .int .i64 t966, .int .i64 t967, .slice Ao33 t968.length co33, .int .i64 t971, .int .i64 t972, .slice Ao34 t973.length co34, .int .i64 0]) ?_ 7 _ rfl; (with_reducible repeat (first | refine blk_drewN ?_ _ | refine kD ?_ | refine kA ?_ _)); refine blk_put (cs := #[.int .i64 t965, .int .i64 t966, .int .i64 t967, .slice Ao33 t968.length co33, .int .i64 t971, .int .i64 t972, .slice none 0 0, .int .i64 0]) ?_ 6 _ rfl; (with_reducible repeat (first | refine blk_drewN ?_ _ | refine kD ?_ | refine kA ?_ _)); refine blk_put (cs := #[.int .i64 t965, .int .i64 t966, .int .i64 t967, .slice Ao33 t968.length co33, .int .i64 t971, .int .i64 0, .slice none 0 0, .int .i64 0]) ?_ 5 _ rfl; (with_reducible repeat (first | refine blk_drewN ?_ _ | refine kD ?_ | refine kA ?_ _)); refine blk_put (cs := #[.int .i64 t965, .int .i64 t966, .int .i64 t967, .slice Ao33 t968.length co33, .int .i64 0, .int .i64 0, .slice none 0 0, .int .i64 0]) ?_ 4 _ rfl; (with_reducible repeat (first | refine blk_drewN ?_ _ | refine kD ?_ | refine kA ?_ _)); refine blk_put (cs := #[.int .i64 t965, .int .i64 t966, .int .i64 t967, .slice none 0 0, .int .i64 0, .int .i64 0, .slice none 0 0, .int .i64 0]) ?_ 3 _ rfl; (with_reducible repeat (first | refine blk_drewN ?_ _ | refine kD ?_ | refine kA ?_ _)); refine blk_put (cs := #[.int .i64 t965, .int .i64 t966, .int .i64 0, .slice none 0 0, .int .i64 0, .int .i64 0, .slice none 0 0, .int .i64 0]) ?_ 2 _ rfl; (with_reducible repeat (first | refine blk_drewN ?_ _ | refine kD ?_ | refine kA ?_ _)); refine blk_put (cs := #[.int .i64 t965, .int .i64 0, .int .i64 0, .slice none 0 0, .int .i64 0, .int .i64 0, .slice none 0 0, .int .i64 0]) ?_ 1 _ rfl; (with_reducible repeat (first | refine blk_drewN ?_ _ | refine kD ?_ | refine kA ?_ _)); refine blk_put (cs := #[.int .i64 0, .int .i64 0, .int .i64 0, .slice none 0 0, .int .i64 0, .int .i64 0, .slice none 0 0, .int .i64 0]) ?_ 0 _ rfl; (with_reducible repeat (first | refine blk_drewN ?_ _ | refine kD ?_ | refine kA ?_ _)); exact BK977.out) hb); replace HB := aK (bSp (zH3 HB GE937 GE964 GE977) hb); (try clear hb); (try clear hb2); (try clear hk); (try clear hi); (try clear ho0); (try clear ho1)) | ((with_reducible refine gate_dst (N := 11) rfl ?_); refine box_event ?hg (N := 11) ?hd (cs := #[.int .i64 0, .int .i64 0, .int .i64 0, .slice none 0 0, .int .i64 0, .int .i64 0, .slice none 0 0, .int .i64 0]) (t := 38) ?hr ?_; (case hd => rfl); (case hg => rfl); (case hr => first | (go_simp; done) | (go_simp; rfl)); intro gb991 hg w36 hbox hb; replace HO944 := aK (Kd.R_below (zA HO944) hb); replace HO949 := aK (Kd.R_below (zA HO949) hb); replace HO956 := aK (Kd.R_below (zA HO956) hb); replace HO961 := aK (Kd.R_below (zA HO961) hb); replace HO970 := aK (Kd.R_below (zA HO970) hb); replace HO975 := aK (Kd.R_below (zA HO975) hb); replace HO983 := aK (Kd.R_below (zA HO983) hb); replace HO988 := aK (Kd.R_below (zA HO988) hb); have BK991 := aK (hbox); have GW991 := aK ((by rw [hg]; exact (bSz (zH3 HB GE937 GE964 GE977)) : w.heap.size ≤ gb991)); replace HB := aK (bSp (zH3 HB GE937 GE964 GE977) hb); have GE991 := GW991; have NB937_991 := nbl BK937 hg (by intro z_; (with_reducible repeat (first | refine blk_drewN ?_ _ | refine kD ?_ | refine kA ?_ _)); exact z_); replace BK937 := zB BK937 hb; have NB991_937 := nbs NB937_991; have NB964_991 := nbl BK964 hg (by intro z_; (with_reducible repeat (first | refine blk_drewN ?_ _ | refine kD ?_ | refine kA ?_ _)); exact z_); replace BK964 := zB BK964 hb; have NB991_964 := nbs NB964_991; have NB977_991 := nbl BK977 hg (by intro z_; (with_reducible repeat (first | refine blk_drewN ?_ _ | refine kD ?_ | refine kA ?_ _)); exact z_); replace BK977 := zB BK977 hb; have NB991_977 := nbs NB977_991; clear hb hbox hg; have hnb37 := NB991_937.out; have hnc37 := NB937_991.out; have hnb38 := NB991_964.out; have hnc38 := NB964_991.out; have hnb39 := NB991_977.out; have hnc39 := NB977_991.out; obtain ⟨hcz40_0, hcz40_1, hcz40_2, hcz40_3, hcz40_4, hcz40_5, hcz40_6, hcz40_7, hfz40_0, hfz40_1, hfz40_2, hfz40_3, hfz40_4, hfz40_5, hfz40_6, hfz40_7⟩ := cl8 BK991.out; obtain ⟨Ao41, co41, eo41⟩ := Kd.R_slice HO983.out; subst eo41; obtain ⟨Ao42, co42, eo42⟩ := Kd.R_slice HO988.out; subst eo42))
  (try simp only [Act.put, sTA, sZ, sS])
  go_cut [48] (fun v48 wc => ∃ (kq : Nat) (x48_12 : Bool), v48 = .bool x48_12 ∧ Aside0 (laws_FnExactWalkIn.j0 kq a1 a2 t963 t990 x48_12 a0_0 a0_1 a0_2 l0_3 a0_4 a0_5 l0_6 a0_7 t951 t952 t953 t954 t957 t958 t959 t962 t965 t966 t967 t968 t971 t972 t973 t976 t978 t979 t980 t981 t984 t985 t986 t989 = some true) ∧ Aside0 (kq ≤ k) ∧ Aside0 (Kd.R (Kd.int .i64) 3 wc w.heap.size (fun k_ => some k_ ≠ ((.slice Ao26 t959.length co26) : Value).ownBlock ∧ some k_ ≠ ((.slice Ao33 t968.length co33) : Value).ownBlock ∧ some k_ ≠ ((.slice Ao34 t973.length co34) : Value).ownBlock ∧ some k_ ≠ ((.slice Ao41 t981.length co41) : Value).ownBlock ∧ some k_ ≠ ((.slice Ao42 t986.length co42) : Value).ownBlock) (.slice Ao25 t954.length co25) t954) ∧ Aside0 (Kd.R (Kd.int .i64) 3 wc w.heap.size (fun k_ => some k_ ≠ ((.slice Ao25 t954.length co25) : Value).ownBlock ∧ some k_ ≠ ((.slice Ao33 t968.length co33) : Value).ownBlock ∧ some k_ ≠ ((.slice Ao34 t973.length co34) : Value).ownBlock ∧ some k_ ≠ ((.slice Ao41 t981.length co41) : Value).ownBlock ∧ some k_ ≠ ((.slice Ao42 t986.length co42) : Value).ownBlock) (.slice Ao26 t959.length co26) t959) ∧ Aside0 (Kd.R (Kd.int .i64) 3 wc w.heap.size (fun k_ => some k_ ≠ ((.slice Ao25 t954.length co25) : Value).ownBlock ∧ some k_ ≠ ((.slice Ao26 t959.length co26) : Value).ownBlock ∧ some k_ ≠ ((.slice Ao34 t973.length co34) : Value).ownBlock ∧ some k_ ≠ ((.slice Ao41 t981.length co41) : Value).ownBlock ∧ some k_ ≠ ((.slice Ao42 t986.length co42) : Value).ownBlock) (.slice Ao33 t968.length co33) t968) ∧ Aside0 (Kd.R (Kd.int .i64) 3 wc w.heap.size (fun k_ => some k_ ≠ ((.slice Ao25 t954.length co25) : Value).ownBlock ∧ some k_ ≠ ((.slice Ao26 t959.length co26) : Value).ownBlock ∧ some k_ ≠ ((.slice Ao33 t968.length co33) : Value).ownBlock ∧ some k_ ≠ ((.slice Ao41 t981.length co41) : Value).ownBlock ∧ some k_ ≠ ((.slice Ao42 t986.length co42) : Value).ownBlock) (.slice Ao34 t973.length co34) t973) ∧ Aside0 (Kd.R (Kd.int .i64) 3 wc w.heap.size (fun k_ => some k_ ≠ ((.slice Ao25 t954.length co25) : Value).ownBlock ∧ some k_ ≠ ((.slice Ao26 t959.length co26) : Value).ownBlock ∧ some k_ ≠ ((.slice Ao33 t968.length co33) : Value).ownBlock ∧ some k_ ≠ ((.slice Ao34 t973.length co34) : Value).ownBlock ∧ some k_ ≠ ((.slice Ao42 t986.length co42) : Value).ownBlock) (.slice Ao41 t981.length co41) t981) ∧ Aside0 (Kd.R (Kd.int .i64) 3 wc w.heap.size (fun k_ => some k_ ≠ ((.slice Ao25 t954.length co25) : Value).ownBlock ∧ some k_ ≠ ((.slice Ao26 t959.length co26) : Value).ownBlock ∧ some k_ ≠ ((.slice Ao33 t968.length co33) : Value).ownBlock ∧ some k_ ≠ ((.slice Ao34 t973.length co34) : Value).ownBlock ∧ some k_ ≠ ((.slice Ao41 t981.length co41) : Value).ownBlock) (.slice Ao42 t986.length co42) t986) ∧ Aside0 (wc.heap[gb937]? = some (.cells #[.int .i64 a0_0, .int .i64 a0_1, .int .i64 a0_2, (.slice A0_3 l0_3.length c0_3), .int .i64 a0_4, .int .i64 a0_5, (.slice A0_6 l0_6.length c0_6), .int .i64 a0_7] 30 (0, 0))) ∧ Aside0 (wc.heap[gb964]? = some (.cells #[.int .i64 t951, .int .i64 t952, .int .i64 t953, (.slice Ao25 t954.length co25), .int .i64 t957, .int .i64 t958, (.slice Ao26 t959.length co26), .int .i64 t962] 38 (0, 0))) ∧ Aside0 (wc.heap[gb977]? = some (.cells #[.int .i64 t965, .int .i64 t966, .int .i64 t967, (.slice Ao33 t968.length co33), .int .i64 t971, .int .i64 t972, (.slice Ao34 t973.length co34), .int .i64 t976] 38 (0, 0))) ∧ Aside0 (wc.heap[gb991]? = some (.cells #[.int .i64 t978, .int .i64 t979, .int .i64 t980, (.slice Ao41 t981.length co41), .int .i64 t984, .int .i64 t985, (.slice Ao42 t986.length co42), .int .i64 t989] 38 (0, 0))) ∧ Aside0 (Below w.heap.size w wc))
  case first =>
   have H := HC13.out
   clear HC13
   replace H := Option.bind_eq_some_iff.mp H
   obtain ⟨t992, A430, H⟩ := H
   replace H : (if t992 = true then (laws_FnExactWalkIn.j0 k a1 a2 t963 t990 (t990 != t963) a0_0 a0_1 a0_2 l0_3 a0_4 a0_5 l0_6 a0_7 t951 t952 t953 t954 t957 t958 t959 t962 t965 t966 t967 t968 t971 t972 t973 t976 t978 t979 t980 t981 t984 t985 t986 t989) else (laws_FnExactWalkIn.j0 k a1 a2 t963 t990 true a0_0 a0_1 a0_2 l0_3 a0_4 a0_5 l0_6 a0_7 t951 t952 t953 t954 t957 t958 t959 t962 t965 t966 t967 t968 t971 t972 t973 t976 t978 t979 t980 t981 t984 t985 t986 t989)) = some true := H
   have A43 := aK A430
   clear A430
   by_cases c44 : t992 = true
   ·subst c44
    have H1 : (laws_FnExactWalkIn.j0 k a1 a2 t963 t990 (t990 != t963) a0_0 a0_1 a0_2 l0_3 a0_4 a0_5 l0_6 a0_7 t951 t952 t953 t954 t957 t958 t959 t962 t965 t966 t967 t968 t971 t972 t973 t976 t978 t979 t980 t981 t984 t985 t986 t989) = some true := by first | (rw [if_pos rfl] at H; exact H) | rfl
    clear H
    have H := H1
    clear H1
    have H' := aK H
    clear H
    have hnb45 := NB991_937.out
    have hnc45 := NB937_991.out
    have hnb46 := NB991_964.out
    have hnc46 := NB964_991.out
    have hnb47 := NB991_977.out
    have hnc47 := NB977_991.out
    obtain ⟨hcz48_0, hcz48_1, hcz48_2, hcz48_3, hcz48_4, hcz48_5, hcz48_6, hcz48_7, hfz48_0, hfz48_1, hfz48_2, hfz48_3, hfz48_4, hfz48_5, hfz48_6, hfz48_7⟩ := cl8 BK991.out
    have hnb49 := NB964_937.out
    have hnc49 := NB937_964.out
    have hnb50 := NB964_977.out
    have hnc50 := NB977_964.out
    obtain ⟨hcz51_0, hcz51_1, hcz51_2, hcz51_3, hcz51_4, hcz51_5, hcz51_6, hcz51_7, hfz51_0, hfz51_1, hfz51_2, hfz51_3, hfz51_4, hfz51_5, hfz51_6, hfz51_7⟩ := cl8 BK964.out
    go_wp2_with (first | ((with_reducible refine gate_callee (f := 19) rfl ?_); refine goesL_ (some 42) rfl rfl Tryz.func19 (by kernel_rfl) rfl #[.agg #[.int .i64 t978, .int .i64 t979, .int .i64 t980, .slice Ao41 t981.length co41, .int .i64 t984, .int .i64 t985, .slice Ao42 t986.length co42, .int .i64 t989], .agg #[.int .i64 t951, .int .i64 t952, .int .i64 t953, .slice Ao25 t954.length co25, .int .i64 t957, .int .i64 t958, .slice Ao26 t959.length co26, .int .i64 t962]] rfl zD ?_; (with_reducible refine (laws_eqGarden.calls k t978 t979 t980 _ _ t981 t984 t985 _ _ t986 t989 t951 t952 t953 _ _ t954 t957 t958 _ _ t959 t962 true _ ?side1 ?side2 ?side3 ?side4 ?side5 ?side6 ?side7 ?side8 A43.out).mono ?_); (case side1 => refine (Kd.R_reads' (e := 3) (base := w.heap.size) (ok := fun k_ => ((((((some k_ ≠ (.slice Ao42 t986.length co42 : Value).ownBlock ∧ some k_ ≠ (.slice Ao19 t942.length co19 : Value).ownBlock) ∧ some k_ ≠ (.slice Ao20 t947.length co20 : Value).ownBlock) ∧ some k_ ≠ (.slice Ao25 t954.length co25 : Value).ownBlock) ∧ some k_ ≠ (.slice Ao26 t959.length co26 : Value).ownBlock) ∧ some k_ ≠ (.slice Ao33 t968.length co33 : Value).ownBlock) ∧ some k_ ≠ (.slice Ao34 t973.length co34 : Value).ownBlock)) (n := t981.length) (c := co41) ?_).2.2; exact (zF8 HO983 BK991)); (case side2 => exact (Kd.R_reads' HO983.out).2.1); (case side3 => refine (Kd.R_reads' (e := 3) (base := w.heap.size) (ok := fun k_ => ((((((some k_ ≠ (.slice Ao41 t981.length co41 : Value).ownBlock ∧ some k_ ≠ (.slice Ao19 t942.length co19 : Value).ownBlock) ∧ some k_ ≠ (.slice Ao20 t947.length co20 : Value).ownBlock) ∧ some k_ ≠ (.slice Ao25 t954.length co25 : Value).ownBlock) ∧ some k_ ≠ (.slice Ao26 t959.length co26 : Value).ownBlock) ∧ some k_ ≠ (.slice Ao33 t968.length co33 : Value).ownBlock) ∧ some k_ ≠ (.slice Ao34 t973.length co34 : Value).ownBlock)) (n := t986.length) (c := co42) ?_).2.2; exact (zF8 HO988 BK991)); (case side4 => exact (Kd.R_reads' HO988.out).2.1); (case side5 => refine (Kd.R_reads' (e := 3) (base := w.heap.size) (ok := fun k_ => ((((((some k_ ≠ (.slice Ao26 t959.length co26 : Value).ownBlock ∧ some k_ ≠ (.slice Ao19 t942.length co19 : Value).ownBlock) ∧ some k_ ≠ (.slice Ao20 t947.length co20 : Value).ownBlock) ∧ some k_ ≠ (.slice Ao33 t968.length co33 : Value).ownBlock) ∧ some k_ ≠ (.slice Ao34 t973.length co34 : Value).ownBlock) ∧ some k_ ≠ (.slice Ao41 t981.length co41 : Value).ownBlock) ∧ some k_ ≠ (.slice Ao42 t986.length co42 : Value).ownBlock)) (n := t954.length) (c := co25) ?_).2.2; exact (zF8 HO956 BK991)); (case side6 => exact (Kd.R_reads' HO956.out).2.1); (case side7 => refine (Kd.R_reads' (e := 3) (base := w.heap.size) (ok := fun k_ => ((((((some k_ ≠ (.slice Ao25 t954.length co25 : Value).ownBlock ∧ some k_ ≠ (.slice Ao19 t942.length co19 : Value).ownBlock) ∧ some k_ ≠ (.slice Ao20 t947.length co20 : Value).ownBlock) ∧ some k_ ≠ (.slice Ao33 t968.length co33 : Value).ownBlock) ∧ some k_ ≠ (.slice Ao34 t973.length co34 : Value).ownBlock) ∧ some k_ ≠ (.slice Ao41 t981.length co41 : Value).ownBlock) ∧ some k_ ≠ (.slice Ao42 t986.length co42 : Value).ownBlock)) (n := t959.length) (c := co26) ?_).2.2; exact (zF8 HO961 BK991)); (case side8 => exact (Kd.R_reads' HO961.out).2.1); rintro e w52 ⟨rfl, hb⟩; refine ⟨_, rfl, ?_⟩; replace HO944 := aK (Kd.R_below (zF8 HO944 BK991) hb); replace HO949 := aK (Kd.R_below (zF8 HO949 BK991) hb); replace HO956 := aK (Kd.R_below (zF8 HO956 BK991) hb); replace HO961 := aK (Kd.R_below (zF8 HO961 BK991) hb); replace HO970 := aK (Kd.R_below (zF8 HO970 BK991) hb); replace HO975 := aK (Kd.R_below (zF8 HO975 BK991) hb); replace HO983 := aK (Kd.R_below (zF8 HO983 BK991) hb); replace HO988 := aK (Kd.R_below (zF8 HO988 BK991) hb); replace BK937 := zG8 BK937 NB937_991 hb; replace BK964 := zG8 BK964 NB964_991 hb; replace BK977 := zG8 BK977 NB977_991 hb; replace BK991 := aK (blk_below (g := gb991) (o := .cells #[.int .i64 t978, .int .i64 t979, .int .i64 t980, .slice Ao41 t981.length co41, .int .i64 t984, .int .i64 t985, .slice Ao42 t986.length co42, .int .i64 t989] 38 (0, 0)) (by (with_reducible repeat (first | refine blk_drewN ?_ _ | refine kD ?_ | refine kA ?_ _)); refine blk_put (cs := #[.int .i64 t978, .int .i64 t979, .int .i64 t980, .slice Ao41 t981.length co41, .int .i64 t984, .int .i64 t985, .slice Ao42 t986.length co42, .int .i64 0]) ?_ 7 _ rfl; (with_reducible repeat (first | refine blk_drewN ?_ _ | refine kD ?_ | refine kA ?_ _)); refine blk_put (cs := #[.int .i64 t978, .int .i64 t979, .int .i64 t980, .slice Ao41 t981.length co41, .int .i64 t984, .int .i64 t985, .slice none 0 0, .int .i64 0]) ?_ 6 _ rfl; (with_reducible repeat (first | refine blk_drewN ?_ _ | refine kD ?_ | refine kA ?_ _)); refine blk_put (cs := #[.int .i64 t978, .int .i64 t979, .int .i64 t980, .slice Ao41 t981.length co41, .int .i64 t984, .int .i64 0, .slice none 0 0, .int .i64 0]) ?_ 5 _ rfl; (with_reducible repeat (first | refine blk_drewN ?_ _ | refine kD ?_ | refine kA ?_ _)); refine blk_put (cs := #[.int .i64 t978, .int .i64 t979, .int .i64 t980, .slice Ao41 t981.length co41, .int .i64 0, .int .i64 0, .slice none 0 0, .int .i64 0]) ?_ 4 _ rfl; (with_reducible repeat (first | refine blk_drewN ?_ _ | refine kD ?_ | refine kA ?_ _)); refine blk_put (cs := #[.int .i64 t978, .int .i64 t979, .int .i64 t980, .slice none 0 0, .int .i64 0, .int .i64 0, .slice none 0 0, .int .i64 0]) ?_ 3 _ rfl; (with_reducible repeat (first | refine blk_drewN ?_ _ | refine kD ?_ | refine kA ?_ _)); refine blk_put (cs := #[.int .i64 t978, .int .i64 t979, .int .i64 0, .slice none 0 0, .int .i64 0, .int .i64 0, .slice none 0 0, .int .i64 0]) ?_ 2 _ rfl; (with_reducible repeat (first | refine blk_drewN ?_ _ | refine kD ?_ | refine kA ?_ _)); refine blk_put (cs := #[.int .i64 t978, .int .i64 0, .int .i64 0, .slice none 0 0, .int .i64 0, .int .i64 0, .slice none 0 0, .int .i64 0]) ?_ 1 _ rfl; (with_reducible repeat (first | refine blk_drewN ?_ _ | refine kD ?_ | refine kA ?_ _)); refine blk_put (cs := #[.int .i64 0, .int .i64 0, .int .i64 0, .slice none 0 0, .int .i64 0, .int .i64 0, .slice none 0 0, .int .i64 0]) ?_ 0 _ rfl; (with_reducible repeat (first | refine blk_drewN ?_ _ | refine kD ?_ | refine kA ?_ _)); exact BK991.out) hb); replace HB := aK (bSp (zH4 HB GE937 GE964 GE977 GE991) hb); (try clear hb); (try clear hb2); (try clear hk); (try clear hi)))
    go_meet
    case rel => exact ⟨_, ((t990 != t963)), (by first | rfl | (simp; done) | (simp [*]; done)), H', ⟨by first | omega | exact Nat.le_refl _⟩, ⟨by (with_reducible repeat (first | apply Kd.R_alloc | apply Kd.R_drewN | apply Kd.R_drew)); exact Kd.R_mono HO956.out (fun _ hk => ⟨hk.1.1.1.1.1.1, ⟨hk.1.1.1.2, ⟨hk.1.1.2, ⟨hk.1.2, hk.2⟩⟩⟩⟩)⟩, ⟨by (with_reducible repeat (first | apply Kd.R_alloc | apply Kd.R_drewN | apply Kd.R_drew)); exact Kd.R_mono HO961.out (fun _ hk => ⟨hk.1.1.1.1.1.1, ⟨hk.1.1.1.2, ⟨hk.1.1.2, ⟨hk.1.2, hk.2⟩⟩⟩⟩)⟩, ⟨by (with_reducible repeat (first | apply Kd.R_alloc | apply Kd.R_drewN | apply Kd.R_drew)); exact Kd.R_mono HO970.out (fun _ hk => ⟨hk.1.1.1.2, ⟨hk.1.1.2, ⟨hk.1.1.1.1.1.1, ⟨hk.1.2, hk.2⟩⟩⟩⟩)⟩, ⟨by (with_reducible repeat (first | apply Kd.R_alloc | apply Kd.R_drewN | apply Kd.R_drew)); exact Kd.R_mono HO975.out (fun _ hk => ⟨hk.1.1.1.2, ⟨hk.1.1.2, ⟨hk.1.1.1.1.1.1, ⟨hk.1.2, hk.2⟩⟩⟩⟩)⟩, ⟨by (with_reducible repeat (first | apply Kd.R_alloc | apply Kd.R_drewN | apply Kd.R_drew)); exact Kd.R_mono HO983.out (fun _ hk => ⟨hk.1.1.1.2, ⟨hk.1.1.2, ⟨hk.1.2, ⟨hk.2, hk.1.1.1.1.1.1⟩⟩⟩⟩)⟩, ⟨by (with_reducible repeat (first | apply Kd.R_alloc | apply Kd.R_drewN | apply Kd.R_drew)); exact Kd.R_mono HO988.out (fun _ hk => ⟨hk.1.1.1.2, ⟨hk.1.1.2, ⟨hk.1.2, ⟨hk.2, hk.1.1.1.1.1.1⟩⟩⟩⟩)⟩, ⟨zK BK937⟩, ⟨zK BK964⟩, ⟨zK BK977⟩, ⟨zK BK991⟩, ⟨zH4 HB GE937 GE964 GE977 GE991⟩⟩
   ·replace c44 := Bool.eq_false_iff.mpr c44
    subst c44
    have H1 : (laws_FnExactWalkIn.j0 k a1 a2 t963 t990 true a0_0 a0_1 a0_2 l0_3 a0_4 a0_5 l0_6 a0_7 t951 t952 t953 t954 t957 t958 t959 t962 t965 t966 t967 t968 t971 t972 t973 t976 t978 t979 t980 t981 t984 t985 t986 t989) = some true := by rw [if_neg (show ¬ (false = true) by decide)] at H; exact H
    clear H
    have H := H1
    clear H1
    have H' := aK H
    clear H
    have hnb53 := NB991_937.out
    have hnc53 := NB937_991.out
    have hnb54 := NB991_964.out
    have hnc54 := NB964_991.out
    have hnb55 := NB991_977.out
    have hnc55 := NB977_991.out
    obtain ⟨hcz56_0, hcz56_1, hcz56_2, hcz56_3, hcz56_4, hcz56_5, hcz56_6, hcz56_7, hfz56_0, hfz56_1, hfz56_2, hfz56_3, hfz56_4, hfz56_5, hfz56_6, hfz56_7⟩ := cl8 BK991.out
    have hnb57 := NB964_937.out
    have hnc57 := NB937_964.out
    have hnb58 := NB964_977.out
    have hnc58 := NB977_964.out
    obtain ⟨hcz59_0, hcz59_1, hcz59_2, hcz59_3, hcz59_4, hcz59_5, hcz59_6, hcz59_7, hfz59_0, hfz59_1, hfz59_2, hfz59_3, hfz59_4, hfz59_5, hfz59_6, hfz59_7⟩ := cl8 BK964.out
    go_wp2_with (first | ((with_reducible refine gate_callee (f := 19) rfl ?_); refine goesL_ (some 42) rfl rfl Tryz.func19 (by kernel_rfl) rfl #[.agg #[.int .i64 t978, .int .i64 t979, .int .i64 t980, .slice Ao41 t981.length co41, .int .i64 t984, .int .i64 t985, .slice Ao42 t986.length co42, .int .i64 t989], .agg #[.int .i64 t951, .int .i64 t952, .int .i64 t953, .slice Ao25 t954.length co25, .int .i64 t957, .int .i64 t958, .slice Ao26 t959.length co26, .int .i64 t962]] rfl zD ?_; (with_reducible refine (laws_eqGarden.calls k t978 t979 t980 _ _ t981 t984 t985 _ _ t986 t989 t951 t952 t953 _ _ t954 t957 t958 _ _ t959 t962 false _ ?side1 ?side2 ?side3 ?side4 ?side5 ?side6 ?side7 ?side8 A43.out).mono ?_); (case side1 => refine (Kd.R_reads' (e := 3) (base := w.heap.size) (ok := fun k_ => ((((((some k_ ≠ (.slice Ao42 t986.length co42 : Value).ownBlock ∧ some k_ ≠ (.slice Ao19 t942.length co19 : Value).ownBlock) ∧ some k_ ≠ (.slice Ao20 t947.length co20 : Value).ownBlock) ∧ some k_ ≠ (.slice Ao25 t954.length co25 : Value).ownBlock) ∧ some k_ ≠ (.slice Ao26 t959.length co26 : Value).ownBlock) ∧ some k_ ≠ (.slice Ao33 t968.length co33 : Value).ownBlock) ∧ some k_ ≠ (.slice Ao34 t973.length co34 : Value).ownBlock)) (n := t981.length) (c := co41) ?_).2.2; exact (zF8 HO983 BK991)); (case side2 => exact (Kd.R_reads' HO983.out).2.1); (case side3 => refine (Kd.R_reads' (e := 3) (base := w.heap.size) (ok := fun k_ => ((((((some k_ ≠ (.slice Ao41 t981.length co41 : Value).ownBlock ∧ some k_ ≠ (.slice Ao19 t942.length co19 : Value).ownBlock) ∧ some k_ ≠ (.slice Ao20 t947.length co20 : Value).ownBlock) ∧ some k_ ≠ (.slice Ao25 t954.length co25 : Value).ownBlock) ∧ some k_ ≠ (.slice Ao26 t959.length co26 : Value).ownBlock) ∧ some k_ ≠ (.slice Ao33 t968.length co33 : Value).ownBlock) ∧ some k_ ≠ (.slice Ao34 t973.length co34 : Value).ownBlock)) (n := t986.length) (c := co42) ?_).2.2; exact (zF8 HO988 BK991)); (case side4 => exact (Kd.R_reads' HO988.out).2.1); (case side5 => refine (Kd.R_reads' (e := 3) (base := w.heap.size) (ok := fun k_ => ((((((some k_ ≠ (.slice Ao26 t959.length co26 : Value).ownBlock ∧ some k_ ≠ (.slice Ao19 t942.length co19 : Value).ownBlock) ∧ some k_ ≠ (.slice Ao20 t947.length co20 : Value).ownBlock) ∧ some k_ ≠ (.slice Ao33 t968.length co33 : Value).ownBlock) ∧ some k_ ≠ (.slice Ao34 t973.length co34 : Value).ownBlock) ∧ some k_ ≠ (.slice Ao41 t981.length co41 : Value).ownBlock) ∧ some k_ ≠ (.slice Ao42 t986.length co42 : Value).ownBlock)) (n := t954.length) (c := co25) ?_).2.2; exact (zF8 HO956 BK991)); (case side6 => exact (Kd.R_reads' HO956.out).2.1); (case side7 => refine (Kd.R_reads' (e := 3) (base := w.heap.size) (ok := fun k_ => ((((((some k_ ≠ (.slice Ao25 t954.length co25 : Value).ownBlock ∧ some k_ ≠ (.slice Ao19 t942.length co19 : Value).ownBlock) ∧ some k_ ≠ (.slice Ao20 t947.length co20 : Value).ownBlock) ∧ some k_ ≠ (.slice Ao33 t968.length co33 : Value).ownBlock) ∧ some k_ ≠ (.slice Ao34 t973.length co34 : Value).ownBlock) ∧ some k_ ≠ (.slice Ao41 t981.length co41 : Value).ownBlock) ∧ some k_ ≠ (.slice Ao42 t986.length co42 : Value).ownBlock)) (n := t959.length) (c := co26) ?_).2.2; exact (zF8 HO961 BK991)); (case side8 => exact (Kd.R_reads' HO961.out).2.1); rintro e w60 ⟨rfl, hb⟩; refine ⟨_, rfl, ?_⟩; replace HO944 := aK (Kd.R_below (zF8 HO944 BK991) hb); replace HO949 := aK (Kd.R_below (zF8 HO949 BK991) hb); replace HO956 := aK (Kd.R_below (zF8 HO956 BK991) hb); replace HO961 := aK (Kd.R_below (zF8 HO961 BK991) hb); replace HO970 := aK (Kd.R_below (zF8 HO970 BK991) hb); replace HO975 := aK (Kd.R_below (zF8 HO975 BK991) hb); replace HO983 := aK (Kd.R_below (zF8 HO983 BK991) hb); replace HO988 := aK (Kd.R_below (zF8 HO988 BK991) hb); replace BK937 := zG8 BK937 NB937_991 hb; replace BK964 := zG8 BK964 NB964_991 hb; replace BK977 := zG8 BK977 NB977_991 hb; replace BK991 := aK (blk_below (g := gb991) (o := .cells #[.int .i64 t978, .int .i64 t979, .int .i64 t980, .slice Ao41 t981.length co41, .int .i64 t984, .int .i64 t985, .slice Ao42 t986.length co42, .int .i64 t989] 38 (0, 0)) (by (with_reducible repeat (first | refine blk_drewN ?_ _ | refine kD ?_ | refine kA ?_ _)); refine blk_put (cs := #[.int .i64 t978, .int .i64 t979, .int .i64 t980, .slice Ao41 t981.length co41, .int .i64 t984, .int .i64 t985, .slice Ao42 t986.length co42, .int .i64 0]) ?_ 7 _ rfl; (with_reducible repeat (first | refine blk_drewN ?_ _ | refine kD ?_ | refine kA ?_ _)); refine blk_put (cs := #[.int .i64 t978, .int .i64 t979, .int .i64 t980, .slice Ao41 t981.length co41, .int .i64 t984, .int .i64 t985, .slice none 0 0, .int .i64 0]) ?_ 6 _ rfl; (with_reducible repeat (first | refine blk_drewN ?_ _ | refine kD ?_ | refine kA ?_ _)); refine blk_put (cs := #[.int .i64 t978, .int .i64 t979, .int .i64 t980, .slice Ao41 t981.length co41, .int .i64 t984, .int .i64 0, .slice none 0 0, .int .i64 0]) ?_ 5 _ rfl; (with_reducible repeat (first | refine blk_drewN ?_ _ | refine kD ?_ | refine kA ?_ _)); refine blk_put (cs := #[.int .i64 t978, .int .i64 t979, .int .i64 t980, .slice Ao41 t981.length co41, .int .i64 0, .int .i64 0, .slice none 0 0, .int .i64 0]) ?_ 4 _ rfl; (with_reducible repeat (first | refine blk_drewN ?_ _ | refine kD ?_ | refine kA ?_ _)); refine blk_put (cs := #[.int .i64 t978, .int .i64 t979, .int .i64 t980, .slice none 0 0, .int .i64 0, .int .i64 0, .slice none 0 0, .int .i64 0]) ?_ 3 _ rfl; (with_reducible repeat (first | refine blk_drewN ?_ _ | refine kD ?_ | refine kA ?_ _)); refine blk_put (cs := #[.int .i64 t978, .int .i64 t979, .int .i64 0, .slice none 0 0, .int .i64 0, .int .i64 0, .slice none 0 0, .int .i64 0]) ?_ 2 _ rfl; (with_reducible repeat (first | refine blk_drewN ?_ _ | refine kD ?_ | refine kA ?_ _)); refine blk_put (cs := #[.int .i64 t978, .int .i64 0, .int .i64 0, .slice none 0 0, .int .i64 0, .int .i64 0, .slice none 0 0, .int .i64 0]) ?_ 1 _ rfl; (with_reducible repeat (first | refine blk_drewN ?_ _ | refine kD ?_ | refine kA ?_ _)); refine blk_put (cs := #[.int .i64 0, .int .i64 0, .int .i64 0, .slice none 0 0, .int .i64 0, .int .i64 0, .slice none 0 0, .int .i64 0]) ?_ 0 _ rfl; (with_reducible repeat (first | refine blk_drewN ?_ _ | refine kD ?_ | refine kA ?_ _)); exact BK991.out) hb); replace HB := aK (bSp (zH4 HB GE937 GE964 GE977 GE991) hb); (try clear hb); (try clear hb2); (try clear hk); (try clear hi)))
    go_meet
    case rel => exact ⟨_, (true), (by first | rfl | (simp; done) | (simp [*]; done)), H', ⟨by first | omega | exact Nat.le_refl _⟩, ⟨by (with_reducible repeat (first | apply Kd.R_alloc | apply Kd.R_drewN | apply Kd.R_drew)); exact Kd.R_mono HO956.out (fun _ hk => ⟨hk.1.1.1.1.1.1, ⟨hk.1.1.1.2, ⟨hk.1.1.2, ⟨hk.1.2, hk.2⟩⟩⟩⟩)⟩, ⟨by (with_reducible repeat (first | apply Kd.R_alloc | apply Kd.R_drewN | apply Kd.R_drew)); exact Kd.R_mono HO961.out (fun _ hk => ⟨hk.1.1.1.1.1.1, ⟨hk.1.1.1.2, ⟨hk.1.1.2, ⟨hk.1.2, hk.2⟩⟩⟩⟩)⟩, ⟨by (with_reducible repeat (first | apply Kd.R_alloc | apply Kd.R_drewN | apply Kd.R_drew)); exact Kd.R_mono HO970.out (fun _ hk => ⟨hk.1.1.1.2, ⟨hk.1.1.2, ⟨hk.1.1.1.1.1.1, ⟨hk.1.2, hk.2⟩⟩⟩⟩)⟩, ⟨by (with_reducible repeat (first | apply Kd.R_alloc | apply Kd.R_drewN | apply Kd.R_drew)); exact Kd.R_mono HO975.out (fun _ hk => ⟨hk.1.1.1.2, ⟨hk.1.1.2, ⟨hk.1.1.1.1.1.1, ⟨hk.1.2, hk.2⟩⟩⟩⟩)⟩, ⟨by (with_reducible repeat (first | apply Kd.R_alloc | apply Kd.R_drewN | apply Kd.R_drew)); exact Kd.R_mono HO983.out (fun _ hk => ⟨hk.1.1.1.2, ⟨hk.1.1.2, ⟨hk.1.2, ⟨hk.2, hk.1.1.1.1.1.1⟩⟩⟩⟩)⟩, ⟨by (with_reducible repeat (first | apply Kd.R_alloc | apply Kd.R_drewN | apply Kd.R_drew)); exact Kd.R_mono HO988.out (fun _ hk => ⟨hk.1.1.1.2, ⟨hk.1.1.2, ⟨hk.1.2, ⟨hk.2, hk.1.1.1.1.1.1⟩⟩⟩⟩)⟩, ⟨zK BK937⟩, ⟨zK BK964⟩, ⟨zK BK977⟩, ⟨zK BK991⟩, ⟨zH4 HB GE937 GE964 GE977 GE991⟩⟩
  case rest =>
   clear HC13
   try clear c1
   try clear c2
   try clear p2
   try clear c3
   try clear c4
   try clear c5
   try clear c5b0
   try clear c15
   try clear c17
   try clear c19
   try clear c23
   try clear c24
   try clear c25
   try clear c30
   try clear c31
   try clear c37
   try clear c38
   try clear c39
   try clear c44
   try clear c45
   try clear c46
   try clear c47
   try clear c49
   try clear c50
   try clear c53
   try clear c54
   try clear c55
   try clear c57
   try clear c58
   try clear hcz15_0
   try clear hcz15_1
   try clear hcz15_2
   try clear hcz15_3
   try clear hcz15_4
   try clear hcz15_5
   try clear hcz15_6
   try clear hcz15_7
   try clear hcz17_0
   try clear hcz17_1
   try clear hcz17_2
   try clear hcz17_3
   try clear hcz17_4
   try clear hcz17_5
   try clear hcz17_6
   try clear hcz17_7
   try clear hcz24_0
   try clear hcz24_1
   try clear hcz24_2
   try clear hcz24_3
   try clear hcz24_4
   try clear hcz24_5
   try clear hcz24_6
   try clear hcz24_7
   try clear hcz27_0
   try clear hcz27_1
   try clear hcz27_2
   try clear hcz27_3
   try clear hcz27_4
   try clear hcz27_5
   try clear hcz27_6
   try clear hcz27_7
   try clear hcz32_0
   try clear hcz32_1
   try clear hcz32_2
   try clear hcz32_3
   try clear hcz32_4
   try clear hcz32_5
   try clear hcz32_6
   try clear hcz32_7
   try clear hcz40_0
   try clear hcz40_1
   try clear hcz40_2
   try clear hcz40_3
   try clear hcz40_4
   try clear hcz40_5
   try clear hcz40_6
   try clear hcz40_7
   try clear hcz48_0
   try clear hcz48_1
   try clear hcz48_2
   try clear hcz48_3
   try clear hcz48_4
   try clear hcz48_5
   try clear hcz48_6
   try clear hcz48_7
   try clear hcz51_0
   try clear hcz51_1
   try clear hcz51_2
   try clear hcz51_3
   try clear hcz51_4
   try clear hcz51_5
   try clear hcz51_6
   try clear hcz51_7
   try clear hcz56_0
   try clear hcz56_1
   try clear hcz56_2
   try clear hcz56_3
   try clear hcz56_4
   try clear hcz56_5
   try clear hcz56_6
   try clear hcz56_7
   try clear hcz59_0
   try clear hcz59_1
   try clear hcz59_2
   try clear hcz59_3
   try clear hcz59_4
   try clear hcz59_5
   try clear hcz59_6
   try clear hcz59_7
   try clear hcz7_0
   try clear hcz7_1
   try clear hcz7_2
   try clear hcz7_3
   try clear hcz7_4
   try clear hcz7_5
   try clear hcz7_6
   try clear hcz7_7
   try clear hfz15_0
   try clear hfz15_1
   try clear hfz15_2
   try clear hfz15_3
   try clear hfz15_4
   try clear hfz15_5
   try clear hfz15_6
   try clear hfz15_7
   try clear hfz17_0
   try clear hfz17_1
   try clear hfz17_2
   try clear hfz17_3
   try clear hfz17_4
   try clear hfz17_5
   try clear hfz17_6
   try clear hfz17_7
   try clear hfz24_0
   try clear hfz24_1
   try clear hfz24_2
   try clear hfz24_3
   try clear hfz24_4
   try clear hfz24_5
   try clear hfz24_6
   try clear hfz24_7
   try clear hfz27_0
   try clear hfz27_1
   try clear hfz27_2
   try clear hfz27_3
   try clear hfz27_4
   try clear hfz27_5
   try clear hfz27_6
   try clear hfz27_7
   try clear hfz32_0
   try clear hfz32_1
   try clear hfz32_2
   try clear hfz32_3
   try clear hfz32_4
   try clear hfz32_5
   try clear hfz32_6
   try clear hfz32_7
   try clear hfz40_0
   try clear hfz40_1
   try clear hfz40_2
   try clear hfz40_3
   try clear hfz40_4
   try clear hfz40_5
   try clear hfz40_6
   try clear hfz40_7
   try clear hfz48_0
   try clear hfz48_1
   try clear hfz48_2
   try clear hfz48_3
   try clear hfz48_4
   try clear hfz48_5
   try clear hfz48_6
   try clear hfz48_7
   try clear hfz51_0
   try clear hfz51_1
   try clear hfz51_2
   try clear hfz51_3
   try clear hfz51_4
   try clear hfz51_5
   try clear hfz51_6
   try clear hfz51_7
   try clear hfz56_0
   try clear hfz56_1
   try clear hfz56_2
   try clear hfz56_3
   try clear hfz56_4
   try clear hfz56_5
   try clear hfz56_6
   try clear hfz56_7
   try clear hfz59_0
   try clear hfz59_1
   try clear hfz59_2
   try clear hfz59_3
   try clear hfz59_4
   try clear hfz59_5
   try clear hfz59_6
   try clear hfz59_7
   try clear hfz7_0
   try clear hfz7_1
   try clear hfz7_2
   try clear hfz7_3
   try clear hfz7_4
   try clear hfz7_5
   try clear hfz7_6
   try clear hfz7_7
   obtain ⟨kq, x48_12, rfl, HA, HJ12, HO_965003, HO_965006, HO_978003, HO_978006, HO_992003, HO_992006, BK937, BK964, BK977, BK991, HB⟩ := hcut
   cases kq with
   | zero => exact absurd HA.out (by simp [laws_FnExactWalkIn.j0])
   | succ kj12 =>
    have H := HA.out
    clear HA
    simp only [laws_FnExactWalkIn.j0] at H
    by_cases c61 : x48_12 = true
    ·subst c61
     have H1 : (some false) = some true := by first | (rw [if_pos rfl] at H; exact H) | rfl
     clear H
     have H := H1
     clear H1
     exact absurd (Option.some.inj H) Bool.false_ne_true
    ·replace c61 := Bool.eq_false_iff.mpr c61
     subst c61
     have H1 : ((laws_toGarden.f kj12 a0_0 a0_1 a0_2 l0_3 a0_4 a0_5 l0_6 a0_7).bind fun bt993 => ((laws_eqGarden.f kj12 t965 t966 t967 t968 t971 t972 t973 t976 bt993.1 bt993.2.1 bt993.2.2.1 bt993.2.2.2.1 bt993.2.2.2.2.1 bt993.2.2.2.2.2.1 bt993.2.2.2.2.2.2.1 bt993.2.2.2.2.2.2.2).bind fun t1005 => (if t1005 = true then ((laws_markGarden.f kj12 t965 t966 t967 t968 t971 t972 t973 t976 1).bind fun bt1006 => (if bt1006.1 < 0 then (laws_FnExactWalkIn.j1 kj12 a1 a2 t963 true a0_0 a0_1 a0_2 l0_3 a0_4 a0_5 l0_6 a0_7 t951 t952 t953 t954 t957 t958 t959 t962 t978 t979 t980 t981 t984 t985 t986 t989) else ((laws_eqGarden.f kj12 t978 t979 t980 t981 t984 t985 t986 t989 t951 t952 t953 t954 t957 t958 t959 t962).bind fun t1009 => (if t1009 = true then (laws_FnExactWalkIn.j1 kj12 a1 a2 t963 (t990 != t963) a0_0 a0_1 a0_2 l0_3 a0_4 a0_5 l0_6 a0_7 t951 t952 t953 t954 t957 t958 t959 t962 t978 t979 t980 t981 t984 t985 t986 t989) else (laws_FnExactWalkIn.j1 kj12 a1 a2 t963 true a0_0 a0_1 a0_2 l0_3 a0_4 a0_5 l0_6 a0_7 t951 t952 t953 t954 t957 t958 t959 t962 t978 t979 t980 t981 t984 t985 t986 t989))))) else (some false)))) = some true := by rw [if_neg (show ¬ (false = true) by decide)] at H; exact H
     clear H
     have H := H1
     clear H1
     replace H := Option.bind_eq_some_iff.mp H
     obtain ⟨⟨t993, t994, t995, t996, t999, t1000, t1001, t1004⟩, A620, H⟩ := H
     replace H : ((laws_eqGarden.f kj12 t965 t966 t967 t968 t971 t972 t973 t976 t993 t994 t995 t996 t999 t1000 t1001 t1004).bind fun t1005 => (if t1005 = true then ((laws_markGarden.f kj12 t965 t966 t967 t968 t971 t972 t973 t976 1).bind fun bt1006 => (if bt1006.1 < 0 then (laws_FnExactWalkIn.j1 kj12 a1 a2 t963 true a0_0 a0_1 a0_2 l0_3 a0_4 a0_5 l0_6 a0_7 t951 t952 t953 t954 t957 t958 t959 t962 t978 t979 t980 t981 t984 t985 t986 t989) else ((laws_eqGarden.f kj12 t978 t979 t980 t981 t984 t985 t986 t989 t951 t952 t953 t954 t957 t958 t959 t962).bind fun t1009 => (if t1009 = true then (laws_FnExactWalkIn.j1 kj12 a1 a2 t963 (t990 != t963) a0_0 a0_1 a0_2 l0_3 a0_4 a0_5 l0_6 a0_7 t951 t952 t953 t954 t957 t958 t959 t962 t978 t979 t980 t981 t984 t985 t986 t989) else (laws_FnExactWalkIn.j1 kj12 a1 a2 t963 true a0_0 a0_1 a0_2 l0_3 a0_4 a0_5 l0_6 a0_7 t951 t952 t953 t954 t957 t958 t959 t962 t978 t979 t980 t981 t984 t985 t986 t989))))) else (some false))) = some true := H
     have A62 := aK A620
     clear A620
     replace H := Option.bind_eq_some_iff.mp H
     obtain ⟨t1005, A630, H⟩ := H
     replace H : (if t1005 = true then ((laws_markGarden.f kj12 t965 t966 t967 t968 t971 t972 t973 t976 1).bind fun bt1006 => (if bt1006.1 < 0 then (laws_FnExactWalkIn.j1 kj12 a1 a2 t963 true a0_0 a0_1 a0_2 l0_3 a0_4 a0_5 l0_6 a0_7 t951 t952 t953 t954 t957 t958 t959 t962 t978 t979 t980 t981 t984 t985 t986 t989) else ((laws_eqGarden.f kj12 t978 t979 t980 t981 t984 t985 t986 t989 t951 t952 t953 t954 t957 t958 t959 t962).bind fun t1009 => (if t1009 = true then (laws_FnExactWalkIn.j1 kj12 a1 a2 t963 (t990 != t963) a0_0 a0_1 a0_2 l0_3 a0_4 a0_5 l0_6 a0_7 t951 t952 t953 t954 t957 t958 t959 t962 t978 t979 t980 t981 t984 t985 t986 t989) else (laws_FnExactWalkIn.j1 kj12 a1 a2 t963 true a0_0 a0_1 a0_2 l0_3 a0_4 a0_5 l0_6 a0_7 t951 t952 t953 t954 t957 t958 t959 t962 t978 t979 t980 t981 t984 t985 t986 t989))))) else (some false)) = some true := H
     have A63 := aK A630
     clear A630
     by_cases c64 : t1005 = true
     ·subst c64
      have H1 : ((laws_markGarden.f kj12 t965 t966 t967 t968 t971 t972 t973 t976 1).bind fun bt1006 => (if bt1006.1 < 0 then (laws_FnExactWalkIn.j1 kj12 a1 a2 t963 true a0_0 a0_1 a0_2 l0_3 a0_4 a0_5 l0_6 a0_7 t951 t952 t953 t954 t957 t958 t959 t962 t978 t979 t980 t981 t984 t985 t986 t989) else ((laws_eqGarden.f kj12 t978 t979 t980 t981 t984 t985 t986 t989 t951 t952 t953 t954 t957 t958 t959 t962).bind fun t1009 => (if t1009 = true then (laws_FnExactWalkIn.j1 kj12 a1 a2 t963 (t990 != t963) a0_0 a0_1 a0_2 l0_3 a0_4 a0_5 l0_6 a0_7 t951 t952 t953 t954 t957 t958 t959 t962 t978 t979 t980 t981 t984 t985 t986 t989) else (laws_FnExactWalkIn.j1 kj12 a1 a2 t963 true a0_0 a0_1 a0_2 l0_3 a0_4 a0_5 l0_6 a0_7 t951 t952 t953 t954 t957 t958 t959 t962 t978 t979 t980 t981 t984 t985 t986 t989))))) = some true := by first | (rw [if_pos rfl] at H; exact H) | rfl
      clear H
      have H := H1
      clear H1
      replace H := Option.bind_eq_some_iff.mp H
      obtain ⟨⟨t1006, t1007, t1008⟩, A650, H⟩ := H
      replace H : (if t1006 < 0 then (laws_FnExactWalkIn.j1 kj12 a1 a2 t963 true a0_0 a0_1 a0_2 l0_3 a0_4 a0_5 l0_6 a0_7 t951 t952 t953 t954 t957 t958 t959 t962 t978 t979 t980 t981 t984 t985 t986 t989) else ((laws_eqGarden.f kj12 t978 t979 t980 t981 t984 t985 t986 t989 t951 t952 t953 t954 t957 t958 t959 t962).bind fun t1009 => (if t1009 = true then (laws_FnExactWalkIn.j1 kj12 a1 a2 t963 (t990 != t963) a0_0 a0_1 a0_2 l0_3 a0_4 a0_5 l0_6 a0_7 t951 t952 t953 t954 t957 t958 t959 t962 t978 t979 t980 t981 t984 t985 t986 t989) else (laws_FnExactWalkIn.j1 kj12 a1 a2 t963 true a0_0 a0_1 a0_2 l0_3 a0_4 a0_5 l0_6 a0_7 t951 t952 t953 t954 t957 t958 t959 t962 t978 t979 t980 t981 t984 t985 t986 t989)))) = some true := H
      have A65 := aK A650
      clear A650
      have HC66 := aK H
      clear H
      try go_wp2
      have n0_ := aK (Kd.R_drew HO_965003.out)
      have n1_ := aK (Kd.R_drew HO_965006.out)
      have n2_ := aK (Kd.R_drew HO_978003.out)
      have n3_ := aK (Kd.R_drew HO_978006.out)
      have n4_ := aK (Kd.R_drew HO_992003.out)
      have n5_ := aK (Kd.R_drew HO_992006.out)
      have n6_ := aK (kD BK937.out)
      have n7_ := aK (kD BK964.out)
      have n8_ := aK (kD BK977.out)
      have n9_ := aK (kD BK991.out)
      have n10_ := aK (bD1 HB.out)
      clear HO_965003
      clear HO_965006
      clear HO_978003
      clear HO_978006
      clear HO_992003
      clear HO_992006
      clear BK937
      clear BK964
      clear BK977
      clear BK991
      clear HB
      have HO_965003 := n0_
      have HO_965006 := n1_
      have HO_978003 := n2_
      have HO_978006 := n3_
      have HO_992003 := n4_
      have HO_992006 := n5_
      have BK937 := n6_
      have BK964 := n7_
      have BK977 := n8_
      have BK991 := n9_
      have HB := n10_
      clear n0_ n1_ n2_ n3_ n4_ n5_ n6_ n7_ n8_ n9_ n10_
      refine start_ (n := 5) (S := fun w' => w'.cell? ⟨gb977, 0, none⟩ = some (.int .i64 t965) ∧ w'.cell? ⟨gb977, 1, none⟩ = some (.int .i64 t966) ∧ w'.cell? ⟨gb977, 2, none⟩ = some (.int .i64 t967) ∧ w'.cell? ⟨gb977, 3, none⟩ = some (.slice Ao33 t968.length co33) ∧ w'.cell? ⟨gb977, 4, none⟩ = some (.int .i64 t971) ∧ w'.cell? ⟨gb977, 5, none⟩ = some (.int .i64 t972) ∧ w'.cell? ⟨gb977, 6, none⟩ = some (.slice Ao34 t973.length co34) ∧ w'.cell? ⟨gb977, 7, none⟩ = some (.int .i64 t976) ∧ w'.cell? ⟨gb937, 0, none⟩ = some (.int .i64 a0_0) ∧ w'.cell? ⟨gb937, 1, none⟩ = some (.int .i64 a0_1) ∧ w'.cell? ⟨gb937, 2, none⟩ = some (.int .i64 a0_2) ∧ w'.cell? ⟨gb937, 3, none⟩ = some (.slice A0_3 l0_3.length c0_3) ∧ w'.cell? ⟨gb937, 4, none⟩ = some (.int .i64 a0_4) ∧ w'.cell? ⟨gb937, 5, none⟩ = some (.int .i64 a0_5) ∧ w'.cell? ⟨gb937, 6, none⟩ = some (.slice A0_6 l0_6.length c0_6) ∧ w'.cell? ⟨gb937, 7, none⟩ = some (.int .i64 a0_7)) (ds := []) #[bN,bN,bN,bN,bN] (by kernel_rfl) rfl rfl ⟨zQ BK977 0, zQ BK977 1, zQ BK977 2, zQ BK977 3, zQ BK977 4, zQ BK977 5, zQ BK977 6, zQ BK977 7, zQ BK937 0, zQ BK937 1, zQ BK937 2, zQ BK937 3, zQ BK937 4, zQ BK937 5, zQ BK937 6, zQ BK937 7⟩ (fun hHeld => ?_)
      generalize wc.drew = w67 at HO_965003 HO_965006 HO_978003 HO_978006 HO_992003 HO_992006 BK937 BK964 BK977 BK991 HB hHeld ⊢
      refine take_ (i := 0) (N := some 49) (v := ?_) (a' := ?_) #[bY,bN,bN,bN,bN] rfl rfl (by kernel_rfl) (fun _ _ _ h => h) (Or.inl ⟨by rfl, ?_⟩) hHeld ?_ ?_
      rotate_left
      ·rintro w' ⟨s0, s1, s2, s3, s4, s5, s6, s7, s8, s9, s10, s11, s12, s13, s14, s15⟩
       go_simp
       with_reducible rfl
      rotate_left
      ·simp only [Act.put, sTA, sZ, sS, i64_w, i32_w]
       rfl
      refine take_ (i := 1) (N := some 50) (v := ?_) (a' := ?_) #[bY,bY,bN,bN,bN] rfl rfl (by kernel_rfl) (fun _ _ _ h => h) (Or.inl ⟨by rfl, ?_⟩) hHeld ?_ ?_
      rotate_left
      ·rintro w' ⟨s0, s1, s2, s3, s4, s5, s6, s7, s8, s9, s10, s11, s12, s13, s14, s15⟩
       go_simp
       with_reducible rfl
      rotate_left
      ·simp only [Act.put, sTA, sZ, sS, i64_w, i32_w]
       rfl
      refine one_ (i := 2) (N := some 51) #[bY,bY,bY,bN,bN] rfl rfl (by kernel_rfl) (by decide) (fun K hK => ?_)
      refine goes_ Tryz.func17 (by kernel_rfl) rfl #[.agg #[.int .i64 a0_0, .int .i64 a0_1, .int .i64 a0_2, .slice A0_3 l0_3.length c0_3, .int .i64 a0_4, .int .i64 a0_5, .slice A0_6 l0_6.length c0_6, .int .i64 a0_7]] (by rfl) rfl rfl zD ?_
      with_reducible refine (laws_toGarden.calls kj12 a0_0 a0_1 a0_2 _ _ l0_3 a0_4 a0_5 _ _ l0_6 a0_7 t993 t994 t995 t996 t999 t1000 t1001 t1004 _ ?side1 ?side2 ?side3 ?side4 A62.out).mono ?_
      (case side1 => exact zC (Kd.C_below HR0_3.out HB.out))
      (case side2 => exact HC0_3.out)
      (case side3 => exact zC (Kd.C_below HR0_6.out HB.out))
      (case side4 => exact HC0_6.out)
      rintro e w68 ⟨v997, v1002, rfl, ho0, ho1, hb⟩
      refine ⟨_, rfl, ?_⟩
      have n0_ := aK (Kd.R_mono (Kd.R_told (Kd.R_told (Kd.R_old (zA HO_965003) hb) (Kd.R_base ho0)) (Kd.R_base ho1)) (fun _ h_ => h_.1))
      have n1_ := aK (Kd.R_mono (Kd.R_told (Kd.R_told (Kd.R_old (zA HO_965006) hb) (Kd.R_base ho0)) (Kd.R_base ho1)) (fun _ h_ => h_.1))
      have n2_ := aK (Kd.R_mono (Kd.R_told (Kd.R_told (Kd.R_old (zA HO_978003) hb) (Kd.R_base ho0)) (Kd.R_base ho1)) (fun _ h_ => h_.1))
      have n3_ := aK (Kd.R_mono (Kd.R_told (Kd.R_told (Kd.R_old (zA HO_978006) hb) (Kd.R_base ho0)) (Kd.R_base ho1)) (fun _ h_ => h_.1))
      have n4_ := aK (Kd.R_mono (Kd.R_told (Kd.R_told (Kd.R_old (zA HO_992003) hb) (Kd.R_base ho0)) (Kd.R_base ho1)) (fun _ h_ => h_.1))
      have n5_ := aK (Kd.R_mono (Kd.R_told (Kd.R_told (Kd.R_old (zA HO_992006) hb) (Kd.R_base ho0)) (Kd.R_base ho1)) (fun _ h_ => h_.1))
      have n6_ := aK (Kd.R_lower (Kd.R_new' (Kd.R_new' (Kd.R_new' (Kd.R_new' (Kd.R_new' (Kd.R_new' ho0 (Kd.R_lt (zA HO_965003))) (Kd.R_lt (zA HO_965006))) (Kd.R_lt (zA HO_978003))) (Kd.R_lt (zA HO_978006))) (Kd.R_lt (zA HO_992003))) (Kd.R_lt (zA HO_992006))) (bSz (zH4 HB GE937 GE964 GE977 GE991)))
      have n7_ := aK (Kd.R_lower (Kd.R_new' (Kd.R_new' (Kd.R_new' (Kd.R_new' (Kd.R_new' (Kd.R_new' ho1 (Kd.R_lt (zA HO_965003))) (Kd.R_lt (zA HO_965006))) (Kd.R_lt (zA HO_978003))) (Kd.R_lt (zA HO_978006))) (Kd.R_lt (zA HO_992003))) (Kd.R_lt (zA HO_992006))) (bSz (zH4 HB GE937 GE964 GE977 GE991)))
      have n8_ := zB BK937 hb
      have n9_ := zB BK964 hb
      have n10_ := zB BK977 hb
      have n11_ := zB BK991 hb
      have n12_ := aK (bSp (zH4 HB GE937 GE964 GE977 GE991) hb)
      clear HO_965003
      clear HO_965006
      clear HO_978003
      clear HO_978006
      clear HO_992003
      clear HO_992006
      clear BK937
      clear BK964
      clear BK977
      clear BK991
      clear HB
      have HO_965003 := n0_
      have HO_965006 := n1_
      have HO_978003 := n2_
      have HO_978006 := n3_
      have HO_992003 := n4_
      have HO_992006 := n5_
      have HO998 := n6_
      have HO1003 := n7_
      have BK937 := n8_
      have BK964 := n9_
      have BK977 := n10_
      have BK991 := n11_
      have HB := n12_
      clear n0_ n1_ n2_ n3_ n4_ n5_ n6_ n7_ n8_ n9_ n10_ n11_ n12_
      (try clear hb)
      (try clear hb2)
      (try clear hk)
      (try clear hi)
      (try clear ho0)
      (try clear ho1)
      obtain ⟨Ao69, co69, eo69⟩ := Kd.R_slice HO998.out
      (first | subst eo69 | (injection eo69 with f1_ f2_ f3_; have f4_ := f1_.symm; have f5_ := f3_.symm; clear f1_ f2_ f3_; subst f4_; subst f5_))
      obtain ⟨Ao70, co70, eo70⟩ := Kd.R_slice HO1003.out
      (first | subst eo70 | (injection eo70 with f1_ f2_ f3_; have f4_ := f1_.symm; have f5_ := f3_.symm; clear f1_ f2_ f3_; subst f4_; subst f5_))
      refine hK.out _ _ ⟨zQ BK977 0, zQ BK977 1, zQ BK977 2, zQ BK977 3, zQ BK977 4, zQ BK977 5, zQ BK977 6, zQ BK977 7, zQ BK937 0, zQ BK937 1, zQ BK937 2, zQ BK937 3, zQ BK937 4, zQ BK937 5, zQ BK937 6, zQ BK937 7⟩ (fun hHeld => ?_)
      clear hK K
      refine norm_ (a' := ?_) ?_ ?_
      rotate_left
      ·show Act.put _ (some 51) _ = _
       simp only [Act.put, sTA, sZ, sS, i64_w, i32_w]
       rfl
      refine one_ (i := 3) (N := some 52) #[bY,bY,bY,bY,bN] rfl rfl (by kernel_rfl) (by decide) (fun K hK => ?_)
      refine goes_ Tryz.func19 (by kernel_rfl) rfl #[.agg #[.int .i64 t965, .int .i64 t966, .int .i64 t967, .slice Ao33 t968.length co33, .int .i64 t971, .int .i64 t972, .slice Ao34 t973.length co34, .int .i64 t976], .agg #[.int .i64 t993, .int .i64 t994, .int .i64 t995, .slice Ao69 t996.length co69, .int .i64 t999, .int .i64 t1000, .slice Ao70 t1001.length co70, .int .i64 t1004]] (by rfl) rfl rfl zD ?_
      with_reducible refine (laws_eqGarden.calls kj12 t965 t966 t967 _ _ t968 t971 t972 _ _ t973 t976 t993 t994 t995 _ _ t996 t999 t1000 _ _ t1001 t1004 true _ ?side1 ?side2 ?side3 ?side4 ?side5 ?side6 ?side7 ?side8 A63.out).mono ?_
      (case side1 => exact zC (Kd.R_reads' HO_978003.out).2.2)
      (case side2 => exact (Kd.R_reads' HO_978003.out).2.1)
      (case side3 => exact zC (Kd.R_reads' HO_978006.out).2.2)
      (case side4 => exact (Kd.R_reads' HO_978006.out).2.1)
      (case side5 => exact zC (Kd.R_reads' HO998.out).2.2)
      (case side6 => exact (Kd.R_reads' HO998.out).2.1)
      (case side7 => exact zC (Kd.R_reads' HO1003.out).2.2)
      (case side8 => exact (Kd.R_reads' HO1003.out).2.1)
      rintro e w71 ⟨rfl, hb⟩
      refine ⟨_, rfl, ?_⟩
      have n0_ := aK (Kd.R_below (zA HO_965003) hb)
      have n1_ := aK (Kd.R_below (zA HO_965006) hb)
      have n2_ := aK (Kd.R_below (zA HO_978003) hb)
      have n3_ := aK (Kd.R_below (zA HO_978006) hb)
      have n4_ := aK (Kd.R_below (zA HO_992003) hb)
      have n5_ := aK (Kd.R_below (zA HO_992006) hb)
      have n6_ := aK (Kd.R_below (zA HO998) hb)
      have n7_ := aK (Kd.R_below (zA HO1003) hb)
      have n8_ := zB BK937 hb
      have n9_ := zB BK964 hb
      have n10_ := zB BK977 hb
      have n11_ := zB BK991 hb
      have n12_ := aK (bSp (zH4 HB GE937 GE964 GE977 GE991) hb)
      clear HO_965003
      clear HO_965006
      clear HO_978003
      clear HO_978006
      clear HO_992003
      clear HO_992006
      clear HO998
      clear HO1003
      clear BK937
      clear BK964
      clear BK977
      clear BK991
      clear HB
      have HO_965003 := n0_
      have HO_965006 := n1_
      have HO_978003 := n2_
      have HO_978006 := n3_
      have HO_992003 := n4_
      have HO_992006 := n5_
      have HO998 := n6_
      have HO1003 := n7_
      have BK937 := n8_
      have BK964 := n9_
      have BK977 := n10_
      have BK991 := n11_
      have HB := n12_
      clear n0_ n1_ n2_ n3_ n4_ n5_ n6_ n7_ n8_ n9_ n10_ n11_ n12_
      (try clear hb)
      (try clear hb2)
      (try clear hk)
      (try clear hi)
      refine hK.out _ _ ⟨zQ BK977 0, zQ BK977 1, zQ BK977 2, zQ BK977 3, zQ BK977 4, zQ BK977 5, zQ BK977 6, zQ BK977 7, zQ BK937 0, zQ BK937 1, zQ BK937 2, zQ BK937 3, zQ BK937 4, zQ BK937 5, zQ BK937 6, zQ BK937 7⟩ (fun hHeld => ?_)
      clear hK K
      refine norm_ (a' := ?_) ?_ ?_
      rotate_left
      ·show Act.put _ (some 52) _ = _
       simp only [Act.put, sTA, sZ, sS, i64_w, i32_w]
       rfl
      refine pure_ (i := 4) (N := some 53) (v := ?_) (a' := ?_) #[bY,bY,bY,bY,bY] rfl rfl (by kernel_rfl) (fun _ _ _ h => h) (Or.inl ⟨by rfl, ?_⟩) ?_ ?_
      rotate_left
      ·intro w'
       go_simp
       with_reducible rfl
      rotate_left
      ·simp only [Act.put, sTA, sZ, sS, i64_w, i32_w]
       rfl
      refine done_ (by kernel_rfl) ?_
      have hnb72 := NB977_937.out
      have hnc72 := NB937_977.out
      have hnb73 := NB977_964.out
      have hnc73 := NB964_977.out
      have hnb74 := NB977_991.out
      have hnc74 := NB991_977.out
      obtain ⟨hcz75_0, hcz75_1, hcz75_2, hcz75_3, hcz75_4, hcz75_5, hcz75_6, hcz75_7, hfz75_0, hfz75_1, hfz75_2, hfz75_3, hfz75_4, hfz75_5, hfz75_6, hfz75_7⟩ := cl8 BK977.out
      go_upto_region 14 with (first | ((with_reducible refine gate_callee (f := 20) rfl ?_); refine goesL_ (some 56) rfl rfl Tryz.func20 (by kernel_rfl) rfl #[.agg #[.int .i64 t965, .int .i64 t966, .int .i64 t967, .slice Ao33 t968.length co33, .int .i64 t971, .int .i64 t972, .slice Ao34 t973.length co34, .int .i64 t976], .int .i64 1] rfl zD ?_; (with_reducible refine (laws_markGarden.calls kj12 t965 t966 t967 (fun k_ => some k_ = (.slice Ao33 t968.length co33 : Value).ownBlock) (.slice Ao33 t968.length co33) t968 t971 t972 (fun k_ => some k_ = (.slice Ao34 t973.length co34 : Value).ownBlock) (.slice Ao34 t973.length co34) t973 t976 1 t1006 t1007 t1008 w _ ?side1 ?side2 ?side3 ?side4 ?side5 A65.out).mono ?_); (case side1 => exact (zH4 HB GE937 GE964 GE977 GE991)); (case side2 => exact Kd.R_tight rfl HO_978003.out); (case side3 => exact fun k_ e_ => (HO_978003.out.1 k_ e_.symm).1.1.2.2.1); (case side4 => exact Kd.R_tight rfl HO_978006.out); (case side5 => exact fun k_ e_ => (HO_978006.out.1 k_ e_.symm).1.1.2.2.1); rintro e w76 ⟨rfl, hy0, hy1, hb, hkp⟩; refine ⟨_, rfl, ?_⟩; replace HO_965003 := aK (Kd.R_mono (ok' := fun k_ => some k_ ≠ (.slice Ao26 t959.length co26 : Value).ownBlock ∧ some k_ ≠ (.slice Ao33 t968.length co33 : Value).ownBlock ∧ some k_ ≠ (.slice Ao34 t973.length co34 : Value).ownBlock ∧ some k_ ≠ (.slice Ao41 t981.length co41 : Value).ownBlock ∧ some k_ ≠ (.slice Ao42 t986.length co42 : Value).ownBlock ∧ some k_ ≠ (.slice Ao69 t996.length co69 : Value).ownBlock ∧ some k_ ≠ (.slice Ao70 t1001.length co70 : Value).ownBlock) (Kd.R_keptB (HO_965003.out) hkp (fun k_ hk_ hs_ => Or.elim hs_ (hk_.1.1.2.1) (hk_.1.1.2.2.1))) (fun k_ hk_ => ⟨hk_.1.1.1.1, hk_.1.1.1.2.1, hk_.1.1.1.2.2.1, hk_.1.1.1.2.2.2.1, hk_.1.1.1.2.2.2.2, hk_.1.1.2, hk_.1.2⟩)); replace HO_965006 := aK (Kd.R_mono (ok' := fun k_ => some k_ ≠ (.slice Ao25 t954.length co25 : Value).ownBlock ∧ some k_ ≠ (.slice Ao33 t968.length co33 : Value).ownBlock ∧ some k_ ≠ (.slice Ao34 t973.length co34 : Value).ownBlock ∧ some k_ ≠ (.slice Ao41 t981.length co41 : Value).ownBlock ∧ some k_ ≠ (.slice Ao42 t986.length co42 : Value).ownBlock ∧ some k_ ≠ (.slice Ao69 t996.length co69 : Value).ownBlock ∧ some k_ ≠ (.slice Ao70 t1001.length co70 : Value).ownBlock) (Kd.R_keptB (HO_965006.out) hkp (fun k_ hk_ hs_ => Or.elim hs_ (hk_.1.1.2.1) (hk_.1.1.2.2.1))) (fun k_ hk_ => ⟨hk_.1.1.1.1, hk_.1.1.1.2.1, hk_.1.1.1.2.2.1, hk_.1.1.1.2.2.2.1, hk_.1.1.1.2.2.2.2, hk_.1.1.2, hk_.1.2⟩)); replace HO_992003 := aK (Kd.R_mono (ok' := fun k_ => some k_ ≠ (.slice Ao25 t954.length co25 : Value).ownBlock ∧ some k_ ≠ (.slice Ao26 t959.length co26 : Value).ownBlock ∧ some k_ ≠ (.slice Ao33 t968.length co33 : Value).ownBlock ∧ some k_ ≠ (.slice Ao34 t973.length co34 : Value).ownBlock ∧ some k_ ≠ (.slice Ao42 t986.length co42 : Value).ownBlock ∧ some k_ ≠ (.slice Ao69 t996.length co69 : Value).ownBlock ∧ some k_ ≠ (.slice Ao70 t1001.length co70 : Value).ownBlock) (Kd.R_keptB (HO_992003.out) hkp (fun k_ hk_ hs_ => Or.elim hs_ (hk_.1.1.2.2.1) (hk_.1.1.2.2.2.1))) (fun k_ hk_ => ⟨hk_.1.1.1.1, hk_.1.1.1.2.1, hk_.1.1.1.2.2.1, hk_.1.1.1.2.2.2.1, hk_.1.1.1.2.2.2.2, hk_.1.1.2, hk_.1.2⟩)); replace HO_992006 := aK (Kd.R_mono (ok' := fun k_ => some k_ ≠ (.slice Ao25 t954.length co25 : Value).ownBlock ∧ some k_ ≠ (.slice Ao26 t959.length co26 : Value).ownBlock ∧ some k_ ≠ (.slice Ao33 t968.length co33 : Value).ownBlock ∧ some k_ ≠ (.slice Ao34 t973.length co34 : Value).ownBlock ∧ some k_ ≠ (.slice Ao41 t981.length co41 : Value).ownBlock ∧ some k_ ≠ (.slice Ao69 t996.length co69 : Value).ownBlock ∧ some k_ ≠ (.slice Ao70 t1001.length co70 : Value).ownBlock) (Kd.R_keptB (HO_992006.out) hkp (fun k_ hk_ hs_ => Or.elim hs_ (hk_.1.1.2.2.1) (hk_.1.1.2.2.2.1))) (fun k_ hk_ => ⟨hk_.1.1.1.1, hk_.1.1.1.2.1, hk_.1.1.1.2.2.1, hk_.1.1.1.2.2.2.1, hk_.1.1.1.2.2.2.2, hk_.1.1.2, hk_.1.2⟩)); replace BK937 := aK (blk_kept (zK BK937) hkp (fun hs_ => Or.elim hs_ (Kd.R_ne HO_978003.out BK937.out (by decide)) (Kd.R_ne HO_978006.out BK937.out (by decide)))); replace BK964 := aK (blk_kept (zK BK964) hkp (fun hs_ => Or.elim hs_ (Kd.R_ne HO_978003.out BK964.out (by decide)) (Kd.R_ne HO_978006.out BK964.out (by decide)))); replace BK977 := aK (blk_kept (zK BK977) hkp (fun hs_ => Or.elim hs_ (Kd.R_ne HO_978003.out BK977.out (by decide)) (Kd.R_ne HO_978006.out BK977.out (by decide)))); replace BK991 := aK (blk_kept (zK BK991) hkp (fun hs_ => Or.elim hs_ (Kd.R_ne HO_978003.out BK991.out (by decide)) (Kd.R_ne HO_978006.out BK991.out (by decide)))); replace HO_978003 := aK (Kd.R_reok rfl hy0 (fun k_ e_ => HO_978003.out.1 k_ e_)); replace HO_978006 := aK (Kd.R_reok rfl hy1 (fun k_ e_ => HO_978006.out.1 k_ e_)); replace HO998 := aK (Kd.R_mono (ok' := fun k_ => some k_ ≠ (.slice Ao25 t954.length co25 : Value).ownBlock ∧ some k_ ≠ (.slice Ao26 t959.length co26 : Value).ownBlock ∧ some k_ ≠ (.slice Ao33 t968.length co33 : Value).ownBlock ∧ some k_ ≠ (.slice Ao34 t973.length co34 : Value).ownBlock ∧ some k_ ≠ (.slice Ao41 t981.length co41 : Value).ownBlock ∧ some k_ ≠ (.slice Ao42 t986.length co42 : Value).ownBlock ∧ some k_ ≠ (.slice Ao70 t1001.length co70 : Value).ownBlock) (Kd.R_keptB (HO998.out) hkp (fun k_ hk_ hs_ => Or.elim hs_ (hk_.1.1.1.2) (hk_.1.1.2))) (fun k_ hk_ => ⟨hk_.1.1.1.1.1.1.2, hk_.1.1.1.1.1.2, hk_.1.1.1.1.2, hk_.1.1.1.2, hk_.1.1.2, hk_.1.2, hk_.1.1.1.1.1.1.1⟩)); replace HO1003 := aK (Kd.R_mono (ok' := fun k_ => some k_ ≠ (.slice Ao25 t954.length co25 : Value).ownBlock ∧ some k_ ≠ (.slice Ao26 t959.length co26 : Value).ownBlock ∧ some k_ ≠ (.slice Ao33 t968.length co33 : Value).ownBlock ∧ some k_ ≠ (.slice Ao34 t973.length co34 : Value).ownBlock ∧ some k_ ≠ (.slice Ao41 t981.length co41 : Value).ownBlock ∧ some k_ ≠ (.slice Ao42 t986.length co42 : Value).ownBlock ∧ some k_ ≠ (.slice Ao69 t996.length co69 : Value).ownBlock) (Kd.R_keptB (HO1003.out) hkp (fun k_ hk_ hs_ => Or.elim hs_ (hk_.1.1.1.2) (hk_.1.1.2))) (fun k_ hk_ => ⟨hk_.1.1.1.1.1.1.2, hk_.1.1.1.1.1.2, hk_.1.1.1.1.2, hk_.1.1.1.2, hk_.1.1.2, hk_.1.2, hk_.1.1.1.1.1.1.1⟩)); replace HB := aK (hb); (try clear hb); (try clear hkp); (try clear hy0); (try clear hy1)))
      (try simp only [Act.put, sTA, sZ, sS])
      go_cut [69] (fun v69 wc => ∃ (kq : Nat) (x69_65 : Bool), v69 = .bool x69_65 ∧ Aside0 (laws_FnExactWalkIn.j1 kq a1 a2 t963 x69_65 a0_0 a0_1 a0_2 l0_3 a0_4 a0_5 l0_6 a0_7 t951 t952 t953 t954 t957 t958 t959 t962 t978 t979 t980 t981 t984 t985 t986 t989 = some true) ∧ Aside0 (kq ≤ kj12) ∧ Aside0 (Kd.R (Kd.int .i64) 3 wc w.heap.size (fun k_ => some k_ ≠ ((.slice Ao26 t959.length co26) : Value).ownBlock ∧ some k_ ≠ ((.slice Ao33 t968.length co33) : Value).ownBlock ∧ some k_ ≠ ((.slice Ao34 t973.length co34) : Value).ownBlock ∧ some k_ ≠ ((.slice Ao41 t981.length co41) : Value).ownBlock ∧ some k_ ≠ ((.slice Ao42 t986.length co42) : Value).ownBlock) (.slice Ao25 t954.length co25) t954) ∧ Aside0 (Kd.R (Kd.int .i64) 3 wc w.heap.size (fun k_ => some k_ ≠ ((.slice Ao25 t954.length co25) : Value).ownBlock ∧ some k_ ≠ ((.slice Ao33 t968.length co33) : Value).ownBlock ∧ some k_ ≠ ((.slice Ao34 t973.length co34) : Value).ownBlock ∧ some k_ ≠ ((.slice Ao41 t981.length co41) : Value).ownBlock ∧ some k_ ≠ ((.slice Ao42 t986.length co42) : Value).ownBlock) (.slice Ao26 t959.length co26) t959) ∧ Aside0 (Kd.R (Kd.int .i64) 3 wc w.heap.size (fun k_ => some k_ ≠ ((.slice Ao25 t954.length co25) : Value).ownBlock ∧ some k_ ≠ ((.slice Ao26 t959.length co26) : Value).ownBlock ∧ some k_ ≠ ((.slice Ao34 t973.length co34) : Value).ownBlock ∧ some k_ ≠ ((.slice Ao41 t981.length co41) : Value).ownBlock ∧ some k_ ≠ ((.slice Ao42 t986.length co42) : Value).ownBlock) (.slice Ao33 t968.length co33) t1007) ∧ Aside0 (Kd.R (Kd.int .i64) 3 wc w.heap.size (fun k_ => some k_ ≠ ((.slice Ao25 t954.length co25) : Value).ownBlock ∧ some k_ ≠ ((.slice Ao26 t959.length co26) : Value).ownBlock ∧ some k_ ≠ ((.slice Ao33 t968.length co33) : Value).ownBlock ∧ some k_ ≠ ((.slice Ao41 t981.length co41) : Value).ownBlock ∧ some k_ ≠ ((.slice Ao42 t986.length co42) : Value).ownBlock) (.slice Ao34 t973.length co34) t1008) ∧ Aside0 (Kd.R (Kd.int .i64) 3 wc w.heap.size (fun k_ => some k_ ≠ ((.slice Ao25 t954.length co25) : Value).ownBlock ∧ some k_ ≠ ((.slice Ao26 t959.length co26) : Value).ownBlock ∧ some k_ ≠ ((.slice Ao33 t968.length co33) : Value).ownBlock ∧ some k_ ≠ ((.slice Ao34 t973.length co34) : Value).ownBlock ∧ some k_ ≠ ((.slice Ao42 t986.length co42) : Value).ownBlock) (.slice Ao41 t981.length co41) t981) ∧ Aside0 (Kd.R (Kd.int .i64) 3 wc w.heap.size (fun k_ => some k_ ≠ ((.slice Ao25 t954.length co25) : Value).ownBlock ∧ some k_ ≠ ((.slice Ao26 t959.length co26) : Value).ownBlock ∧ some k_ ≠ ((.slice Ao33 t968.length co33) : Value).ownBlock ∧ some k_ ≠ ((.slice Ao34 t973.length co34) : Value).ownBlock ∧ some k_ ≠ ((.slice Ao41 t981.length co41) : Value).ownBlock) (.slice Ao42 t986.length co42) t986) ∧ Aside0 (wc.heap[gb937]? = some (.cells #[.int .i64 a0_0, .int .i64 a0_1, .int .i64 a0_2, (.slice A0_3 l0_3.length c0_3), .int .i64 a0_4, .int .i64 a0_5, (.slice A0_6 l0_6.length c0_6), .int .i64 a0_7] 30 (0, 0))) ∧ Aside0 (wc.heap[gb964]? = some (.cells #[.int .i64 t951, .int .i64 t952, .int .i64 t953, (.slice Ao25 t954.length co25), .int .i64 t957, .int .i64 t958, (.slice Ao26 t959.length co26), .int .i64 t962] 38 (0, 0))) ∧ Aside0 (wc.heap[gb977]? = some (.cells #[.int .i64 t965, .int .i64 t966, .int .i64 t967, (.slice Ao33 t968.length co33), .int .i64 t971, .int .i64 t972, (.slice Ao34 t973.length co34), .int .i64 t976] 38 (0, 0))) ∧ Aside0 (wc.heap[gb991]? = some (.cells #[.int .i64 t978, .int .i64 t979, .int .i64 t980, (.slice Ao41 t981.length co41), .int .i64 t984, .int .i64 t985, (.slice Ao42 t986.length co42), .int .i64 t989] 38 (0, 0))) ∧ Aside0 (Below w.heap.size w wc))
      case first =>
       have H := HC66.out
       clear HC66
       by_cases c77 : t1006 < 0
       ·rw [if_pos c77] at H
        have c77b0 : decide (t1006 < 0) = true := decide_eq_true c77
        clear c77
        (first | rw [c77b0] | (simp only [i64_w, i32_w]; rw [c77b0]) | skip)
        have H' := aK H
        clear H
        go_wp2
        go_meet
        case rel => exact ⟨_, (true), (by first | rfl | (simp; done) | (simp [*]; done)), H', ⟨by have := HJ12.out; first | omega | exact Nat.le_refl _⟩, ⟨by (with_reducible repeat (first | apply Kd.R_alloc | apply Kd.R_drewN | apply Kd.R_drew)); exact Kd.R_mono HO_965003.out (fun _ hk => ⟨hk.1, ⟨hk.2.1, ⟨hk.2.2.1, ⟨hk.2.2.2.1, hk.2.2.2.2.1⟩⟩⟩⟩)⟩, ⟨by (with_reducible repeat (first | apply Kd.R_alloc | apply Kd.R_drewN | apply Kd.R_drew)); exact Kd.R_mono HO_965006.out (fun _ hk => ⟨hk.1, ⟨hk.2.1, ⟨hk.2.2.1, ⟨hk.2.2.2.1, hk.2.2.2.2.1⟩⟩⟩⟩)⟩, ⟨by (with_reducible repeat (first | apply Kd.R_alloc | apply Kd.R_drewN | apply Kd.R_drew)); exact Kd.R_mono HO_978003.out (fun _ hk => ⟨hk.1.1.1, ⟨hk.1.1.2.1, ⟨hk.1.1.2.2.1, ⟨hk.1.1.2.2.2.1, hk.1.1.2.2.2.2⟩⟩⟩⟩)⟩, ⟨by (with_reducible repeat (first | apply Kd.R_alloc | apply Kd.R_drewN | apply Kd.R_drew)); exact Kd.R_mono HO_978006.out (fun _ hk => ⟨hk.1.1.1, ⟨hk.1.1.2.1, ⟨hk.1.1.2.2.1, ⟨hk.1.1.2.2.2.1, hk.1.1.2.2.2.2⟩⟩⟩⟩)⟩, ⟨by (with_reducible repeat (first | apply Kd.R_alloc | apply Kd.R_drewN | apply Kd.R_drew)); exact Kd.R_mono HO_992003.out (fun _ hk => ⟨hk.1, ⟨hk.2.1, ⟨hk.2.2.1, ⟨hk.2.2.2.1, hk.2.2.2.2.1⟩⟩⟩⟩)⟩, ⟨by (with_reducible repeat (first | apply Kd.R_alloc | apply Kd.R_drewN | apply Kd.R_drew)); exact Kd.R_mono HO_992006.out (fun _ hk => ⟨hk.1, ⟨hk.2.1, ⟨hk.2.2.1, ⟨hk.2.2.2.1, hk.2.2.2.2.1⟩⟩⟩⟩)⟩, ⟨zK BK937⟩, ⟨zK BK964⟩, ⟨zK BK977⟩, ⟨zK BK991⟩, ⟨zH4 HB GE937 GE964 GE977 GE991⟩⟩
       ·rw [if_neg c77] at H
        have c77b0 : decide (t1006 < 0) = false := decide_eq_false c77
        clear c77
        (first | rw [c77b0] | (simp only [i64_w, i32_w]; rw [c77b0]) | skip)
        replace H := Option.bind_eq_some_iff.mp H
        obtain ⟨t1009, A780, H⟩ := H
        replace H : (if t1009 = true then (laws_FnExactWalkIn.j1 kj12 a1 a2 t963 (t990 != t963) a0_0 a0_1 a0_2 l0_3 a0_4 a0_5 l0_6 a0_7 t951 t952 t953 t954 t957 t958 t959 t962 t978 t979 t980 t981 t984 t985 t986 t989) else (laws_FnExactWalkIn.j1 kj12 a1 a2 t963 true a0_0 a0_1 a0_2 l0_3 a0_4 a0_5 l0_6 a0_7 t951 t952 t953 t954 t957 t958 t959 t962 t978 t979 t980 t981 t984 t985 t986 t989)) = some true := H
        have A78 := aK A780
        clear A780
        by_cases c79 : t1009 = true
        ·subst c79
         have H1 : (laws_FnExactWalkIn.j1 kj12 a1 a2 t963 (t990 != t963) a0_0 a0_1 a0_2 l0_3 a0_4 a0_5 l0_6 a0_7 t951 t952 t953 t954 t957 t958 t959 t962 t978 t979 t980 t981 t984 t985 t986 t989) = some true := by first | (rw [if_pos rfl] at H; exact H) | rfl
         clear H
         have H := H1
         clear H1
         have H' := aK H
         clear H
         have hnb80 := NB991_937.out
         have hnc80 := NB937_991.out
         have hnb81 := NB991_964.out
         have hnc81 := NB964_991.out
         have hnb82 := NB991_977.out
         have hnc82 := NB977_991.out
         obtain ⟨hcz83_0, hcz83_1, hcz83_2, hcz83_3, hcz83_4, hcz83_5, hcz83_6, hcz83_7, hfz83_0, hfz83_1, hfz83_2, hfz83_3, hfz83_4, hfz83_5, hfz83_6, hfz83_7⟩ := cl8 BK991.out
         have hnb84 := NB964_937.out
         have hnc84 := NB937_964.out
         have hnb85 := NB964_977.out
         have hnc85 := NB977_964.out
         obtain ⟨hcz86_0, hcz86_1, hcz86_2, hcz86_3, hcz86_4, hcz86_5, hcz86_6, hcz86_7, hfz86_0, hfz86_1, hfz86_2, hfz86_3, hfz86_4, hfz86_5, hfz86_6, hfz86_7⟩ := cl8 BK964.out
         go_wp2_with (first | (go_at_call 19; (with_reducible refine (laws_eqGarden.calls kj12 t978 t979 t980 _ _ t981 t984 t985 _ _ t986 t989 t951 t952 t953 _ _ t954 t957 t958 _ _ t959 t962 true _ ?side1 ?side2 ?side3 ?side4 ?side5 ?side6 ?side7 ?side8 A78.out).mono ?_); (case side1 => exact zC (Kd.R_reads' HO_992003.out).2.2); (case side2 => exact (Kd.R_reads' HO_992003.out).2.1); (case side3 => exact zC (Kd.R_reads' HO_992006.out).2.2); (case side4 => exact (Kd.R_reads' HO_992006.out).2.1); (case side5 => exact zC (Kd.R_reads' HO_965003.out).2.2); (case side6 => exact (Kd.R_reads' HO_965003.out).2.1); (case side7 => exact zC (Kd.R_reads' HO_965006.out).2.2); (case side8 => exact (Kd.R_reads' HO_965006.out).2.1); rintro e w87 ⟨rfl, hb⟩; replace HO_965003 := aK (Kd.R_below (zA HO_965003) hb); replace HO_965006 := aK (Kd.R_below (zA HO_965006) hb); replace HO_978003 := aK (Kd.R_below (zA HO_978003) hb); replace HO_978006 := aK (Kd.R_below (zA HO_978006) hb); replace HO_992003 := aK (Kd.R_below (zA HO_992003) hb); replace HO_992006 := aK (Kd.R_below (zA HO_992006) hb); replace HO998 := aK (Kd.R_below (zA HO998) hb); replace HO1003 := aK (Kd.R_below (zA HO1003) hb); replace BK937 := zB BK937 hb; replace BK964 := zB BK964 hb; replace BK977 := zB BK977 hb; replace BK991 := zB BK991 hb; replace HB := aK (bSp (zH4 HB GE937 GE964 GE977 GE991) hb); (try clear hb); (try clear hb2); (try clear hk); (try clear hi)))
         go_meet
         case rel => exact ⟨_, ((t990 != t963)), (by first | rfl | (simp; done) | (simp [*]; done)), H', ⟨by have := HJ12.out; first | omega | exact Nat.le_refl _⟩, ⟨by (with_reducible repeat (first | apply Kd.R_alloc | apply Kd.R_drewN | apply Kd.R_drew)); exact Kd.R_mono HO_965003.out (fun _ hk => ⟨hk.1, ⟨hk.2.1, ⟨hk.2.2.1, ⟨hk.2.2.2.1, hk.2.2.2.2.1⟩⟩⟩⟩)⟩, ⟨by (with_reducible repeat (first | apply Kd.R_alloc | apply Kd.R_drewN | apply Kd.R_drew)); exact Kd.R_mono HO_965006.out (fun _ hk => ⟨hk.1, ⟨hk.2.1, ⟨hk.2.2.1, ⟨hk.2.2.2.1, hk.2.2.2.2.1⟩⟩⟩⟩)⟩, ⟨by (with_reducible repeat (first | apply Kd.R_alloc | apply Kd.R_drewN | apply Kd.R_drew)); exact Kd.R_mono HO_978003.out (fun _ hk => ⟨hk.1.1.1, ⟨hk.1.1.2.1, ⟨hk.1.1.2.2.1, ⟨hk.1.1.2.2.2.1, hk.1.1.2.2.2.2⟩⟩⟩⟩)⟩, ⟨by (with_reducible repeat (first | apply Kd.R_alloc | apply Kd.R_drewN | apply Kd.R_drew)); exact Kd.R_mono HO_978006.out (fun _ hk => ⟨hk.1.1.1, ⟨hk.1.1.2.1, ⟨hk.1.1.2.2.1, ⟨hk.1.1.2.2.2.1, hk.1.1.2.2.2.2⟩⟩⟩⟩)⟩, ⟨by (with_reducible repeat (first | apply Kd.R_alloc | apply Kd.R_drewN | apply Kd.R_drew)); exact Kd.R_mono HO_992003.out (fun _ hk => ⟨hk.1, ⟨hk.2.1, ⟨hk.2.2.1, ⟨hk.2.2.2.1, hk.2.2.2.2.1⟩⟩⟩⟩)⟩, ⟨by (with_reducible repeat (first | apply Kd.R_alloc | apply Kd.R_drewN | apply Kd.R_drew)); exact Kd.R_mono HO_992006.out (fun _ hk => ⟨hk.1, ⟨hk.2.1, ⟨hk.2.2.1, ⟨hk.2.2.2.1, hk.2.2.2.2.1⟩⟩⟩⟩)⟩, ⟨zK BK937⟩, ⟨zK BK964⟩, ⟨zK BK977⟩, ⟨zK BK991⟩, ⟨zH4 HB GE937 GE964 GE977 GE991⟩⟩
        ·replace c79 := Bool.eq_false_iff.mpr c79
         subst c79
         have H1 : (laws_FnExactWalkIn.j1 kj12 a1 a2 t963 true a0_0 a0_1 a0_2 l0_3 a0_4 a0_5 l0_6 a0_7 t951 t952 t953 t954 t957 t958 t959 t962 t978 t979 t980 t981 t984 t985 t986 t989) = some true := by rw [if_neg (show ¬ (false = true) by decide)] at H; exact H
         clear H
         have H := H1
         clear H1
         have H' := aK H
         clear H
         have hnb88 := NB991_937.out
         have hnc88 := NB937_991.out
         have hnb89 := NB991_964.out
         have hnc89 := NB964_991.out
         have hnb90 := NB991_977.out
         have hnc90 := NB977_991.out
         obtain ⟨hcz91_0, hcz91_1, hcz91_2, hcz91_3, hcz91_4, hcz91_5, hcz91_6, hcz91_7, hfz91_0, hfz91_1, hfz91_2, hfz91_3, hfz91_4, hfz91_5, hfz91_6, hfz91_7⟩ := cl8 BK991.out
         have hnb92 := NB964_937.out
         have hnc92 := NB937_964.out
         have hnb93 := NB964_977.out
         have hnc93 := NB977_964.out
         obtain ⟨hcz94_0, hcz94_1, hcz94_2, hcz94_3, hcz94_4, hcz94_5, hcz94_6, hcz94_7, hfz94_0, hfz94_1, hfz94_2, hfz94_3, hfz94_4, hfz94_5, hfz94_6, hfz94_7⟩ := cl8 BK964.out
         go_wp2_with (first | (go_at_call 19; (with_reducible refine (laws_eqGarden.calls kj12 t978 t979 t980 _ _ t981 t984 t985 _ _ t986 t989 t951 t952 t953 _ _ t954 t957 t958 _ _ t959 t962 false _ ?side1 ?side2 ?side3 ?side4 ?side5 ?side6 ?side7 ?side8 A78.out).mono ?_); (case side1 => exact zC (Kd.R_reads' HO_992003.out).2.2); (case side2 => exact (Kd.R_reads' HO_992003.out).2.1); (case side3 => exact zC (Kd.R_reads' HO_992006.out).2.2); (case side4 => exact (Kd.R_reads' HO_992006.out).2.1); (case side5 => exact zC (Kd.R_reads' HO_965003.out).2.2); (case side6 => exact (Kd.R_reads' HO_965003.out).2.1); (case side7 => exact zC (Kd.R_reads' HO_965006.out).2.2); (case side8 => exact (Kd.R_reads' HO_965006.out).2.1); rintro e w95 ⟨rfl, hb⟩; replace HO_965003 := aK (Kd.R_below (zA HO_965003) hb); replace HO_965006 := aK (Kd.R_below (zA HO_965006) hb); replace HO_978003 := aK (Kd.R_below (zA HO_978003) hb); replace HO_978006 := aK (Kd.R_below (zA HO_978006) hb); replace HO_992003 := aK (Kd.R_below (zA HO_992003) hb); replace HO_992006 := aK (Kd.R_below (zA HO_992006) hb); replace HO998 := aK (Kd.R_below (zA HO998) hb); replace HO1003 := aK (Kd.R_below (zA HO1003) hb); replace BK937 := zB BK937 hb; replace BK964 := zB BK964 hb; replace BK977 := zB BK977 hb; replace BK991 := zB BK991 hb; replace HB := aK (bSp (zH4 HB GE937 GE964 GE977 GE991) hb); (try clear hb); (try clear hb2); (try clear hk); (try clear hi)))
         go_meet
         case rel => exact ⟨_, (true), (by first | rfl | (simp; done) | (simp [*]; done)), H', ⟨by have := HJ12.out; first | omega | exact Nat.le_refl _⟩, ⟨by (with_reducible repeat (first | apply Kd.R_alloc | apply Kd.R_drewN | apply Kd.R_drew)); exact Kd.R_mono HO_965003.out (fun _ hk => ⟨hk.1, ⟨hk.2.1, ⟨hk.2.2.1, ⟨hk.2.2.2.1, hk.2.2.2.2.1⟩⟩⟩⟩)⟩, ⟨by (with_reducible repeat (first | apply Kd.R_alloc | apply Kd.R_drewN | apply Kd.R_drew)); exact Kd.R_mono HO_965006.out (fun _ hk => ⟨hk.1, ⟨hk.2.1, ⟨hk.2.2.1, ⟨hk.2.2.2.1, hk.2.2.2.2.1⟩⟩⟩⟩)⟩, ⟨by (with_reducible repeat (first | apply Kd.R_alloc | apply Kd.R_drewN | apply Kd.R_drew)); exact Kd.R_mono HO_978003.out (fun _ hk => ⟨hk.1.1.1, ⟨hk.1.1.2.1, ⟨hk.1.1.2.2.1, ⟨hk.1.1.2.2.2.1, hk.1.1.2.2.2.2⟩⟩⟩⟩)⟩, ⟨by (with_reducible repeat (first | apply Kd.R_alloc | apply Kd.R_drewN | apply Kd.R_drew)); exact Kd.R_mono HO_978006.out (fun _ hk => ⟨hk.1.1.1, ⟨hk.1.1.2.1, ⟨hk.1.1.2.2.1, ⟨hk.1.1.2.2.2.1, hk.1.1.2.2.2.2⟩⟩⟩⟩)⟩, ⟨by (with_reducible repeat (first | apply Kd.R_alloc | apply Kd.R_drewN | apply Kd.R_drew)); exact Kd.R_mono HO_992003.out (fun _ hk => ⟨hk.1, ⟨hk.2.1, ⟨hk.2.2.1, ⟨hk.2.2.2.1, hk.2.2.2.2.1⟩⟩⟩⟩)⟩, ⟨by (with_reducible repeat (first | apply Kd.R_alloc | apply Kd.R_drewN | apply Kd.R_drew)); exact Kd.R_mono HO_992006.out (fun _ hk => ⟨hk.1, ⟨hk.2.1, ⟨hk.2.2.1, ⟨hk.2.2.2.1, hk.2.2.2.2.1⟩⟩⟩⟩)⟩, ⟨zK BK937⟩, ⟨zK BK964⟩, ⟨zK BK977⟩, ⟨zK BK991⟩, ⟨zH4 HB GE937 GE964 GE977 GE991⟩⟩
      case rest =>
       clear HC66
       try clear c1
       try clear c2
       try clear p2
       try clear c3
       try clear c4
       try clear c5
       try clear c5b0
       try clear c6
       try clear c7
       try clear c8
       try clear c9
       try clear c15
       try clear c17
       try clear c19
       try clear c20
       try clear c23
       try clear c24
       try clear c25
       try clear c30
       try clear c31
       try clear c37
       try clear c38
       try clear c39
       try clear c44
       try clear c45
       try clear c46
       try clear c47
       try clear c49
       try clear c50
       try clear c53
       try clear c54
       try clear c55
       try clear c57
       try clear c58
       try clear c61
       try clear c64
       try clear c72
       try clear c73
       try clear c74
       try clear c77
       try clear c77b0
       try clear c79
       try clear c80
       try clear c81
       try clear c82
       try clear c84
       try clear c85
       try clear c88
       try clear c89
       try clear c90
       try clear c92
       try clear c93
       try clear hcz15_0
       try clear hcz15_1
       try clear hcz15_2
       try clear hcz15_3
       try clear hcz15_4
       try clear hcz15_5
       try clear hcz15_6
       try clear hcz15_7
       try clear hcz17_0
       try clear hcz17_1
       try clear hcz17_2
       try clear hcz17_3
       try clear hcz17_4
       try clear hcz17_5
       try clear hcz17_6
       try clear hcz17_7
       try clear hcz24_0
       try clear hcz24_1
       try clear hcz24_2
       try clear hcz24_3
       try clear hcz24_4
       try clear hcz24_5
       try clear hcz24_6
       try clear hcz24_7
       try clear hcz27_0
       try clear hcz27_1
       try clear hcz27_2
       try clear hcz27_3
       try clear hcz27_4
       try clear hcz27_5
       try clear hcz27_6
       try clear hcz27_7
       try clear hcz32_0
       try clear hcz32_1
       try clear hcz32_2
       try clear hcz32_3
       try clear hcz32_4
       try clear hcz32_5
       try clear hcz32_6
       try clear hcz32_7
       try clear hcz40_0
       try clear hcz40_1
       try clear hcz40_2
       try clear hcz40_3
       try clear hcz40_4
       try clear hcz40_5
       try clear hcz40_6
       try clear hcz40_7
       try clear hcz48_0
       try clear hcz48_1
       try clear hcz48_2
       try clear hcz48_3
       try clear hcz48_4
       try clear hcz48_5
       try clear hcz48_6
       try clear hcz48_7
       try clear hcz51_0
       try clear hcz51_1
       try clear hcz51_2
       try clear hcz51_3
       try clear hcz51_4
       try clear hcz51_5
       try clear hcz51_6
       try clear hcz51_7
       try clear hcz56_0
       try clear hcz56_1
       try clear hcz56_2
       try clear hcz56_3
       try clear hcz56_4
       try clear hcz56_5
       try clear hcz56_6
       try clear hcz56_7
       try clear hcz59_0
       try clear hcz59_1
       try clear hcz59_2
       try clear hcz59_3
       try clear hcz59_4
       try clear hcz59_5
       try clear hcz59_6
       try clear hcz59_7
       try clear hcz75_0
       try clear hcz75_1
       try clear hcz75_2
       try clear hcz75_3
       try clear hcz75_4
       try clear hcz75_5
       try clear hcz75_6
       try clear hcz75_7
       try clear hcz7_0
       try clear hcz7_1
       try clear hcz7_2
       try clear hcz7_3
       try clear hcz7_4
       try clear hcz7_5
       try clear hcz7_6
       try clear hcz7_7
       try clear hcz83_0
       try clear hcz83_1
       try clear hcz83_2
       try clear hcz83_3
       try clear hcz83_4
       try clear hcz83_5
       try clear hcz83_6
       try clear hcz83_7
       try clear hcz86_0
       try clear hcz86_1
       try clear hcz86_2
       try clear hcz86_3
       try clear hcz86_4
       try clear hcz86_5
       try clear hcz86_6
       try clear hcz86_7
       try clear hcz91_0
       try clear hcz91_1
       try clear hcz91_2
       try clear hcz91_3
       try clear hcz91_4
       try clear hcz91_5
       try clear hcz91_6
       try clear hcz91_7
       try clear hcz94_0
       try clear hcz94_1
       try clear hcz94_2
       try clear hcz94_3
       try clear hcz94_4
       try clear hcz94_5
       try clear hcz94_6
       try clear hcz94_7
       try clear hfz15_0
       try clear hfz15_1
       try clear hfz15_2
       try clear hfz15_3
       try clear hfz15_4
       try clear hfz15_5
       try clear hfz15_6
       try clear hfz15_7
       try clear hfz17_0
       try clear hfz17_1
       try clear hfz17_2
       try clear hfz17_3
       try clear hfz17_4
       try clear hfz17_5
       try clear hfz17_6
       try clear hfz17_7
       try clear hfz24_0
       try clear hfz24_1
       try clear hfz24_2
       try clear hfz24_3
       try clear hfz24_4
       try clear hfz24_5
       try clear hfz24_6
       try clear hfz24_7
       try clear hfz27_0
       try clear hfz27_1
       try clear hfz27_2
       try clear hfz27_3
       try clear hfz27_4
       try clear hfz27_5
       try clear hfz27_6
       try clear hfz27_7
       try clear hfz32_0
       try clear hfz32_1
       try clear hfz32_2
       try clear hfz32_3
       try clear hfz32_4
       try clear hfz32_5
       try clear hfz32_6
       try clear hfz32_7
       try clear hfz40_0
       try clear hfz40_1
       try clear hfz40_2
       try clear hfz40_3
       try clear hfz40_4
       try clear hfz40_5
       try clear hfz40_6
       try clear hfz40_7
       try clear hfz48_0
       try clear hfz48_1
       try clear hfz48_2
       try clear hfz48_3
       try clear hfz48_4
       try clear hfz48_5
       try clear hfz48_6
       try clear hfz48_7
       try clear hfz51_0
       try clear hfz51_1
       try clear hfz51_2
       try clear hfz51_3
       try clear hfz51_4
       try clear hfz51_5
       try clear hfz51_6
       try clear hfz51_7
       try clear hfz56_0
       try clear hfz56_1
       try clear hfz56_2
       try clear hfz56_3
       try clear hfz56_4
       try clear hfz56_5
       try clear hfz56_6
       try clear hfz56_7
       try clear hfz59_0
       try clear hfz59_1
       try clear hfz59_2
       try clear hfz59_3
       try clear hfz59_4
       try clear hfz59_5
       try clear hfz59_6
       try clear hfz59_7
       try clear hfz75_0
       try clear hfz75_1
       try clear hfz75_2
       try clear hfz75_3
       try clear hfz75_4
       try clear hfz75_5
       try clear hfz75_6
       try clear hfz75_7
       try clear hfz7_0
       try clear hfz7_1
       try clear hfz7_2
       try clear hfz7_3
       try clear hfz7_4
       try clear hfz7_5
       try clear hfz7_6
       try clear hfz7_7
       try clear hfz83_0
       try clear hfz83_1
       try clear hfz83_2
       try clear hfz83_3
       try clear hfz83_4
       try clear hfz83_5
       try clear hfz83_6
       try clear hfz83_7
       try clear hfz86_0
       try clear hfz86_1
       try clear hfz86_2
       try clear hfz86_3
       try clear hfz86_4
       try clear hfz86_5
       try clear hfz86_6
       try clear hfz86_7
       try clear hfz91_0
       try clear hfz91_1
       try clear hfz91_2
       try clear hfz91_3
       try clear hfz91_4
       try clear hfz91_5
       try clear hfz91_6
       try clear hfz91_7
       try clear hfz94_0
       try clear hfz94_1
       try clear hfz94_2
       try clear hfz94_3
       try clear hfz94_4
       try clear hfz94_5
       try clear hfz94_6
       try clear hfz94_7
       try clear p2
       obtain ⟨kq, x69_65, rfl, HA, HJ65, HO_965003, HO_965006, HO_978003, HO_978006, HO_992003, HO_992006, BK937, BK964, BK977, BK991, HB⟩ := hcut
       have hl978003_65 := (Kd.R_reads' HO_978003.out).1
       rw [hl978003_65] at HO_978003
       (try simp only [hl978003_65])
       (try simp only [hl978003_65] at BK937)
       (try simp only [hl978003_65] at BK964)
       (try simp only [hl978003_65] at BK977)
       (try simp only [hl978003_65] at BK991)
       (try simp only [hl978003_65] at HO_965003)
       (try simp only [hl978003_65] at HO_965006)
       (try simp only [hl978003_65] at HO_978006)
       (try simp only [hl978003_65] at HO_992003)
       (try simp only [hl978003_65] at HO_992006)
       have hl978006_65 := (Kd.R_reads' HO_978006.out).1
       rw [hl978006_65] at HO_978006
       (try simp only [hl978006_65])
       (try simp only [hl978006_65] at BK937)
       (try simp only [hl978006_65] at BK964)
       (try simp only [hl978006_65] at BK977)
       (try simp only [hl978006_65] at BK991)
       (try simp only [hl978006_65] at HO_965003)
       (try simp only [hl978006_65] at HO_965006)
       (try simp only [hl978006_65] at HO_978003)
       (try simp only [hl978006_65] at HO_992003)
       (try simp only [hl978006_65] at HO_992006)
       cases kq with
       | zero => exact absurd HA.out (by simp [laws_FnExactWalkIn.j1])
       | succ kj65 =>
        have H := HA.out
        clear HA
        simp only [laws_FnExactWalkIn.j1] at H
        by_cases c96 : x69_65 = true
        ·subst c96
         have H1 : (some false) = some true := by first | (rw [if_pos rfl] at H; exact H) | rfl
         clear H
         have H := H1
         clear H1
         exact absurd (Option.some.inj H) Bool.false_ne_true
        ·replace c96 := Bool.eq_false_iff.mpr c96
         subst c96
         have H1 : ((laws_markGarden.f kj65 t978 t979 t980 t981 t984 t985 t986 t989 1).bind fun bt1010 => ((laws_heldGarden.f kj65 t978 t979 t980 bt1010.2.1 t984 t985 bt1010.2.2 t989 1).bind fun t1013 => (if t1013 < 0 then (some false) else (if t1013 = bt1010.1 then ((laws_toGarden.f kj65 a0_0 a0_1 a0_2 l0_3 a0_4 a0_5 l0_6 a0_7).bind fun bt1014 => ((impl_WalkIn.f kj65 bt1014.1 bt1014.2.1 bt1014.2.2.1 bt1014.2.2.2.1 bt1014.2.2.2.2.1 bt1014.2.2.2.2.2.1 bt1014.2.2.2.2.2.2.1 bt1014.2.2.2.2.2.2.2 a1 a2).bind fun bt1026 => ((laws_eqGarden.f kj65 bt1026.1 bt1026.2.1 bt1026.2.2.1 bt1026.2.2.2.1 bt1026.2.2.2.2.1 bt1026.2.2.2.2.2.1 bt1026.2.2.2.2.2.2.1 bt1026.2.2.2.2.2.2.2.1 t951 t952 t953 t954 t957 t958 t959 t962).bind fun t1040 => (if t1040 = true then (laws_FnExactWalkIn.j2 kj65 bt1010.1 (bt1026.2.2.2.2.2.2.2.2 != t963) t978 t979 t980 bt1010.2.1 t984 t985 bt1010.2.2 t989) else (laws_FnExactWalkIn.j2 kj65 bt1010.1 true t978 t979 t980 bt1010.2.1 t984 t985 bt1010.2.2 t989))))) else (some false))))) = some true := by rw [if_neg (show ¬ (false = true) by decide)] at H; exact H
         clear H
         have H := H1
         clear H1
         replace H := Option.bind_eq_some_iff.mp H
         obtain ⟨⟨t1010, t1011, t1012⟩, A970, H⟩ := H
         replace H : ((laws_heldGarden.f kj65 t978 t979 t980 t1011 t984 t985 t1012 t989 1).bind fun t1013 => (if t1013 < 0 then (some false) else (if t1013 = t1010 then ((laws_toGarden.f kj65 a0_0 a0_1 a0_2 l0_3 a0_4 a0_5 l0_6 a0_7).bind fun bt1014 => ((impl_WalkIn.f kj65 bt1014.1 bt1014.2.1 bt1014.2.2.1 bt1014.2.2.2.1 bt1014.2.2.2.2.1 bt1014.2.2.2.2.2.1 bt1014.2.2.2.2.2.2.1 bt1014.2.2.2.2.2.2.2 a1 a2).bind fun bt1026 => ((laws_eqGarden.f kj65 bt1026.1 bt1026.2.1 bt1026.2.2.1 bt1026.2.2.2.1 bt1026.2.2.2.2.1 bt1026.2.2.2.2.2.1 bt1026.2.2.2.2.2.2.1 bt1026.2.2.2.2.2.2.2.1 t951 t952 t953 t954 t957 t958 t959 t962).bind fun t1040 => (if t1040 = true then (laws_FnExactWalkIn.j2 kj65 t1010 (bt1026.2.2.2.2.2.2.2.2 != t963) t978 t979 t980 t1011 t984 t985 t1012 t989) else (laws_FnExactWalkIn.j2 kj65 t1010 true t978 t979 t980 t1011 t984 t985 t1012 t989))))) else (some false)))) = some true := H
         have A97 := aK A970
         clear A970
         replace H := Option.bind_eq_some_iff.mp H
         obtain ⟨t1013, A980, H⟩ := H
         replace H : (if t1013 < 0 then (some false) else (if t1013 = t1010 then ((laws_toGarden.f kj65 a0_0 a0_1 a0_2 l0_3 a0_4 a0_5 l0_6 a0_7).bind fun bt1014 => ((impl_WalkIn.f kj65 bt1014.1 bt1014.2.1 bt1014.2.2.1 bt1014.2.2.2.1 bt1014.2.2.2.2.1 bt1014.2.2.2.2.2.1 bt1014.2.2.2.2.2.2.1 bt1014.2.2.2.2.2.2.2 a1 a2).bind fun bt1026 => ((laws_eqGarden.f kj65 bt1026.1 bt1026.2.1 bt1026.2.2.1 bt1026.2.2.2.1 bt1026.2.2.2.2.1 bt1026.2.2.2.2.2.1 bt1026.2.2.2.2.2.2.1 bt1026.2.2.2.2.2.2.2.1 t951 t952 t953 t954 t957 t958 t959 t962).bind fun t1040 => (if t1040 = true then (laws_FnExactWalkIn.j2 kj65 t1010 (bt1026.2.2.2.2.2.2.2.2 != t963) t978 t979 t980 t1011 t984 t985 t1012 t989) else (laws_FnExactWalkIn.j2 kj65 t1010 true t978 t979 t980 t1011 t984 t985 t1012 t989))))) else (some false))) = some true := H
         have A98 := aK A980
         clear A980
         by_cases c99 : t1013 < 0
         ·rw [if_pos c99] at H
          have c99b0 : decide (t1013 < 0) = true := decide_eq_true c99
          clear c99
          exact absurd (Option.some.inj H) Bool.false_ne_true
         ·rw [if_neg c99] at H
          have c99b0 : decide (t1013 < 0) = false := decide_eq_false c99
          clear c99
          by_cases c100 : t1013 = t1010
          ·rw [if_pos c100] at H
           have c100b0 : (t1013 == t1010) = true := beq_iff_eq.mpr c100
           have c100b1 : (t1013 != t1010) = false := bne_eq_false_iff_eq.mpr c100
           clear c100
           replace H := Option.bind_eq_some_iff.mp H
           obtain ⟨⟨t1014, t1015, t1016, t1017, t1020, t1021, t1022, t1025⟩, A1010, H⟩ := H
           replace H : ((impl_WalkIn.f kj65 t1014 t1015 t1016 t1017 t1020 t1021 t1022 t1025 a1 a2).bind fun bt1026 => ((laws_eqGarden.f kj65 bt1026.1 bt1026.2.1 bt1026.2.2.1 bt1026.2.2.2.1 bt1026.2.2.2.2.1 bt1026.2.2.2.2.2.1 bt1026.2.2.2.2.2.2.1 bt1026.2.2.2.2.2.2.2.1 t951 t952 t953 t954 t957 t958 t959 t962).bind fun t1040 => (if t1040 = true then (laws_FnExactWalkIn.j2 kj65 t1010 (bt1026.2.2.2.2.2.2.2.2 != t963) t978 t979 t980 t1011 t984 t985 t1012 t989) else (laws_FnExactWalkIn.j2 kj65 t1010 true t978 t979 t980 t1011 t984 t985 t1012 t989)))) = some true := H
           have A101 := aK A1010
           clear A1010
           replace H := Option.bind_eq_some_iff.mp H
           obtain ⟨⟨t1026, t1027, t1028, t1029, t1032, t1033, t1034, t1037, t1038⟩, A1020, H⟩ := H
           replace H : ((laws_eqGarden.f kj65 t1026 t1027 t1028 t1029 t1032 t1033 t1034 t1037 t951 t952 t953 t954 t957 t958 t959 t962).bind fun t1040 => (if t1040 = true then (laws_FnExactWalkIn.j2 kj65 t1010 (t1038 != t963) t978 t979 t980 t1011 t984 t985 t1012 t989) else (laws_FnExactWalkIn.j2 kj65 t1010 true t978 t979 t980 t1011 t984 t985 t1012 t989))) = some true := H
           have A102 := aK A1020
           clear A1020
           have HC103 := aK H
           clear H
           have hnb104 := NB991_937.out
           have hnc104 := NB937_991.out
           have hnb105 := NB991_964.out
           have hnc105 := NB964_991.out
           have hnb106 := NB991_977.out
           have hnc106 := NB977_991.out
           obtain ⟨hcz107_0, hcz107_1, hcz107_2, hcz107_3, hcz107_4, hcz107_5, hcz107_6, hcz107_7, hfz107_0, hfz107_1, hfz107_2, hfz107_3, hfz107_4, hfz107_5, hfz107_6, hfz107_7⟩ := cl8 BK991.out
           go_upto_region 25 with (first | ((with_reducible refine gate_callee (f := 20) rfl ?_); refine goesL_ (some 72) rfl rfl Tryz.func20 (by kernel_rfl) rfl #[.agg #[.int .i64 t978, .int .i64 t979, .int .i64 t980, .slice Ao41 t981.length co41, .int .i64 t984, .int .i64 t985, .slice Ao42 t986.length co42, .int .i64 t989], .int .i64 1] rfl zD ?_; (with_reducible refine (laws_markGarden.calls kj65 t978 t979 t980 (fun k_ => some k_ = (.slice Ao41 t981.length co41 : Value).ownBlock) (.slice Ao41 t981.length co41) t981 t984 t985 (fun k_ => some k_ = (.slice Ao42 t986.length co42 : Value).ownBlock) (.slice Ao42 t986.length co42) t986 t989 1 t1010 t1011 t1012 w _ ?side1 ?side2 ?side3 ?side4 ?side5 A97.out).mono ?_); (case side1 => exact (zH4 HB GE937 GE964 GE977 GE991)); (case side2 => exact Kd.R_tight rfl HO_992003.out); (case side3 => exact fun k_ e_ => (HO_992003.out.1 k_ e_.symm).2.2.2.2); (case side4 => exact Kd.R_tight rfl HO_992006.out); (case side5 => exact fun k_ e_ => (HO_992006.out.1 k_ e_.symm).2.2.2.2); rintro e w108 ⟨rfl, hy0, hy1, hb, hkp⟩; refine ⟨_, rfl, ?_⟩; replace HO_965003 := aK (Kd.R_mono (ok' := fun k_ => some k_ ≠ (.slice Ao26 t959.length co26 : Value).ownBlock ∧ some k_ ≠ (.slice Ao33 t1007.length co33 : Value).ownBlock ∧ some k_ ≠ (.slice Ao34 t1008.length co34 : Value).ownBlock ∧ some k_ ≠ (.slice Ao41 t981.length co41 : Value).ownBlock ∧ some k_ ≠ (.slice Ao42 t986.length co42 : Value).ownBlock) (Kd.R_keptB (HO_965003.out) hkp (fun k_ hk_ hs_ => Or.elim hs_ (hk_.2.2.2.1) (hk_.2.2.2.2))) (fun k_ hk_ => ⟨hk_.1.1, hk_.1.2.1, hk_.1.2.2.1, hk_.1.2.2.2.1, hk_.1.2.2.2.2⟩)); replace HO_965006 := aK (Kd.R_mono (ok' := fun k_ => some k_ ≠ (.slice Ao25 t954.length co25 : Value).ownBlock ∧ some k_ ≠ (.slice Ao33 t1007.length co33 : Value).ownBlock ∧ some k_ ≠ (.slice Ao34 t1008.length co34 : Value).ownBlock ∧ some k_ ≠ (.slice Ao41 t981.length co41 : Value).ownBlock ∧ some k_ ≠ (.slice Ao42 t986.length co42 : Value).ownBlock) (Kd.R_keptB (HO_965006.out) hkp (fun k_ hk_ hs_ => Or.elim hs_ (hk_.2.2.2.1) (hk_.2.2.2.2))) (fun k_ hk_ => ⟨hk_.1.1, hk_.1.2.1, hk_.1.2.2.1, hk_.1.2.2.2.1, hk_.1.2.2.2.2⟩)); replace HO_978003 := aK (Kd.R_mono (ok' := fun k_ => some k_ ≠ (.slice Ao25 t954.length co25 : Value).ownBlock ∧ some k_ ≠ (.slice Ao26 t959.length co26 : Value).ownBlock ∧ some k_ ≠ (.slice Ao34 t1008.length co34 : Value).ownBlock ∧ some k_ ≠ (.slice Ao41 t981.length co41 : Value).ownBlock ∧ some k_ ≠ (.slice Ao42 t986.length co42 : Value).ownBlock) (Kd.R_keptB (HO_978003.out) hkp (fun k_ hk_ hs_ => Or.elim hs_ (hk_.2.2.2.1) (hk_.2.2.2.2))) (fun k_ hk_ => ⟨hk_.1.1, hk_.1.2.1, hk_.1.2.2.1, hk_.1.2.2.2.1, hk_.1.2.2.2.2⟩)); replace HO_978006 := aK (Kd.R_mono (ok' := fun k_ => some k_ ≠ (.slice Ao25 t954.length co25 : Value).ownBlock ∧ some k_ ≠ (.slice Ao26 t959.length co26 : Value).ownBlock ∧ some k_ ≠ (.slice Ao33 t1007.length co33 : Value).ownBlock ∧ some k_ ≠ (.slice Ao41 t981.length co41 : Value).ownBlock ∧ some k_ ≠ (.slice Ao42 t986.length co42 : Value).ownBlock) (Kd.R_keptB (HO_978006.out) hkp (fun k_ hk_ hs_ => Or.elim hs_ (hk_.2.2.2.1) (hk_.2.2.2.2))) (fun k_ hk_ => ⟨hk_.1.1, hk_.1.2.1, hk_.1.2.2.1, hk_.1.2.2.2.1, hk_.1.2.2.2.2⟩)); replace BK937 := aK (blk_kept (zK BK937) hkp (fun hs_ => Or.elim hs_ (Kd.R_ne HO_992003.out BK937.out (by decide)) (Kd.R_ne HO_992006.out BK937.out (by decide)))); replace BK964 := aK (blk_kept (zK BK964) hkp (fun hs_ => Or.elim hs_ (Kd.R_ne HO_992003.out BK964.out (by decide)) (Kd.R_ne HO_992006.out BK964.out (by decide)))); replace BK977 := aK (blk_kept (zK BK977) hkp (fun hs_ => Or.elim hs_ (Kd.R_ne HO_992003.out BK977.out (by decide)) (Kd.R_ne HO_992006.out BK977.out (by decide)))); replace BK991 := aK (blk_kept (zK BK991) hkp (fun hs_ => Or.elim hs_ (Kd.R_ne HO_992003.out BK991.out (by decide)) (Kd.R_ne HO_992006.out BK991.out (by decide)))); replace HO_992003 := aK (Kd.R_reok rfl hy0 (fun k_ e_ => HO_992003.out.1 k_ e_)); replace HO_992006 := aK (Kd.R_reok rfl hy1 (fun k_ e_ => HO_992006.out.1 k_ e_)); replace HB := aK (hb); (try clear hb); (try clear hkp); (try clear hy0); (try clear hy1); obtain ⟨hcz109_0, hcz109_1, hcz109_2, hcz109_3, hcz109_4, hcz109_5, hcz109_6, hcz109_7, hfz109_0, hfz109_1, hfz109_2, hfz109_3, hfz109_4, hfz109_5, hfz109_6, hfz109_7⟩ := cl8 BK991.out) | ((with_reducible refine gate_callee (f := 21) rfl ?_); refine goesL_ (some 75) rfl rfl Tryz.func21 (by kernel_rfl) rfl #[.agg #[.int .i64 t978, .int .i64 t979, .int .i64 t980, .slice Ao41 t1011.length co41, .int .i64 t984, .int .i64 t985, .slice Ao42 t1012.length co42, .int .i64 t989], .int .i64 1] rfl (by (try simp only [List.map_toArray, List.map_cons, List.map_nil]); first | done | (rw [show t1011.length = t981.length from (Kd.R_reads' HO_992003.out).1.symm, show t1012.length = t986.length from (Kd.R_reads' HO_992006.out).1.symm] <;> rfl) | rfl | (simp only [List.length_drop, List.length_take]; rfl)) ?_; (with_reducible refine (laws_heldGarden.calls kj65 t978 t979 t980 _ _ t1011 t984 t985 _ _ t1012 t989 1 t1013 _ ?side1 ?side2 ?side3 ?side4 A98.out).mono ?_); (case side1 => exact zC (Kd.R_reads' HO_992003.out).2.2); (case side2 => rw [show t1011.length = t981.length from (Kd.R_reads' HO_992003.out).1.symm]; exact (Kd.R_reads' HO_992003.out).2.1); (case side3 => exact zC (Kd.R_reads' HO_992006.out).2.2); (case side4 => rw [show t1012.length = t986.length from (Kd.R_reads' HO_992006.out).1.symm]; exact (Kd.R_reads' HO_992006.out).2.1); rintro e w110 ⟨rfl, hb⟩; refine ⟨_, rfl, ?_⟩; replace HO_965003 := aK (Kd.R_below (zA HO_965003) hb); replace HO_965006 := aK (Kd.R_below (zA HO_965006) hb); replace HO_978003 := aK (Kd.R_below (zA HO_978003) hb); replace HO_978006 := aK (Kd.R_below (zA HO_978006) hb); replace HO_992003 := aK (Kd.R_below (zA HO_992003) hb); replace HO_992006 := aK (Kd.R_below (zA HO_992006) hb); replace BK937 := zB BK937 hb; replace BK964 := zB BK964 hb; replace BK977 := zB BK977 hb; replace BK991 := zB BK991 hb; replace HB := aK (bSp (zH4 HB GE937 GE964 GE977 GE991) hb); (try clear hb); (try clear hb2); (try clear hk); (try clear hi); have hnb111 := NB937_964.out; have hnc111 := NB964_937.out; have hnb112 := NB937_977.out; have hnc112 := NB977_937.out; obtain ⟨hcz113_0, hcz113_1, hcz113_2, hcz113_3, hcz113_4, hcz113_5, hcz113_6, hcz113_7, hfz113_0, hfz113_1, hfz113_2, hfz113_3, hfz113_4, hfz113_5, hfz113_6, hfz113_7⟩ := cl8 BK937.out) | ((with_reducible refine gate_callee (f := 17) rfl ?_); refine goesL_ (some 83) rfl rfl Tryz.func17 (by kernel_rfl) rfl #[.agg #[.int .i64 a0_0, .int .i64 a0_1, .int .i64 a0_2, .slice A0_3 l0_3.length c0_3, .int .i64 a0_4, .int .i64 a0_5, .slice A0_6 l0_6.length c0_6, .int .i64 a0_7]] rfl zD ?_; (with_reducible refine (laws_toGarden.calls kj65 a0_0 a0_1 a0_2 _ _ l0_3 a0_4 a0_5 _ _ l0_6 a0_7 t1014 t1015 t1016 t1017 t1020 t1021 t1022 t1025 _ ?side1 ?side2 ?side3 ?side4 A101.out).mono ?_); (case side1 => exact zC (Kd.C_below HR0_3.out HB.out)); (case side2 => exact HC0_3.out); (case side3 => exact zC (Kd.C_below HR0_6.out HB.out)); (case side4 => exact HC0_6.out); rintro e w114 ⟨v1018, v1023, rfl, ho0, ho1, hb⟩; refine ⟨_, rfl, ?_⟩; have HO1019 := aK (Kd.R_lower (Kd.R_new' (Kd.R_new' (Kd.R_new' (Kd.R_new' (Kd.R_new' (Kd.R_new' ho0 (Kd.R_lt (zA HO_965003))) (Kd.R_lt (zA HO_965006))) (Kd.R_lt (zA HO_978003))) (Kd.R_lt (zA HO_978006))) (Kd.R_lt (zA HO_992003))) (Kd.R_lt (zA HO_992006))) (bSz (zH4 HB GE937 GE964 GE977 GE991))); have HO1024 := aK (Kd.R_lower (Kd.R_new' (Kd.R_new' (Kd.R_new' (Kd.R_new' (Kd.R_new' (Kd.R_new' ho1 (Kd.R_lt (zA HO_965003))) (Kd.R_lt (zA HO_965006))) (Kd.R_lt (zA HO_978003))) (Kd.R_lt (zA HO_978006))) (Kd.R_lt (zA HO_992003))) (Kd.R_lt (zA HO_992006))) (bSz (zH4 HB GE937 GE964 GE977 GE991))); replace HO_965003 := aK (Kd.R_mono (Kd.R_told (Kd.R_told (Kd.R_old (zA HO_965003) hb) (Kd.R_base ho0)) (Kd.R_base ho1)) (fun _ h_ => h_.1)); replace HO_965006 := aK (Kd.R_mono (Kd.R_told (Kd.R_told (Kd.R_old (zA HO_965006) hb) (Kd.R_base ho0)) (Kd.R_base ho1)) (fun _ h_ => h_.1)); replace HO_978003 := aK (Kd.R_mono (Kd.R_told (Kd.R_told (Kd.R_old (zA HO_978003) hb) (Kd.R_base ho0)) (Kd.R_base ho1)) (fun _ h_ => h_.1)); replace HO_978006 := aK (Kd.R_mono (Kd.R_told (Kd.R_told (Kd.R_old (zA HO_978006) hb) (Kd.R_base ho0)) (Kd.R_base ho1)) (fun _ h_ => h_.1)); replace HO_992003 := aK (Kd.R_mono (Kd.R_told (Kd.R_told (Kd.R_old (zA HO_992003) hb) (Kd.R_base ho0)) (Kd.R_base ho1)) (fun _ h_ => h_.1)); replace HO_992006 := aK (Kd.R_mono (Kd.R_told (Kd.R_told (Kd.R_old (zA HO_992006) hb) (Kd.R_base ho0)) (Kd.R_base ho1)) (fun _ h_ => h_.1)); replace BK937 := zB BK937 hb; replace BK964 := zB BK964 hb; replace BK977 := zB BK977 hb; replace BK991 := zB BK991 hb; replace HB := aK (bSp (zH4 HB GE937 GE964 GE977 GE991) hb); (try clear hb); (try clear hb2); (try clear hk); (try clear hi); (try clear ho0); (try clear ho1); obtain ⟨Ao115, co115, eo115⟩ := Kd.R_slice HO1019.out; subst eo115; obtain ⟨Ao116, co116, eo116⟩ := Kd.R_slice HO1024.out; subst eo116) | ((with_reducible refine gate_callee (f := 25) rfl ?_); refine goesL_ (some 86) rfl rfl Tryz.func25 (by kernel_rfl) rfl #[.agg #[.int .i64 t1014, .int .i64 t1015, .int .i64 t1016, .slice Ao115 t1017.length co115, .int .i64 t1020, .int .i64 t1021, .slice Ao116 t1022.length co116, .int .i64 t1025], .int .i64 a1, .int .i64 a2] rfl zD ?_; (with_reducible refine (impl_WalkIn.calls kj65 t1014 t1015 t1016 _ _ t1017 t1020 t1021 _ _ t1022 t1025 a1 a2 t1026 t1027 t1028 t1029 t1032 t1033 t1034 t1037 t1038 _ ?side1 ?side2 ?side3 ?side4 A102.out).mono ?_); (case side1 => exact zC (Kd.R_reads' HO1019.out).2.2); (case side2 => exact (Kd.R_reads' HO1019.out).2.1); (case side3 => exact zC (Kd.R_reads' HO1024.out).2.2); (case side4 => exact (Kd.R_reads' HO1024.out).2.1); rintro e w117 ⟨v1030, v1035, rfl, ho0, ho1, hb⟩; refine ⟨_, rfl, ?_⟩; have HO1031 := aK (Kd.R_lower (Kd.R_new' (Kd.R_new' (Kd.R_new' (Kd.R_new' (Kd.R_new' (Kd.R_new' (Kd.R_new' (Kd.R_new' ho0 (Kd.R_lt (zA HO_965003))) (Kd.R_lt (zA HO_965006))) (Kd.R_lt (zA HO_978003))) (Kd.R_lt (zA HO_978006))) (Kd.R_lt (zA HO_992003))) (Kd.R_lt (zA HO_992006))) (Kd.R_lt (zA HO1019))) (Kd.R_lt (zA HO1024))) (bSz (zH4 HB GE937 GE964 GE977 GE991))); have HO1036 := aK (Kd.R_lower (Kd.R_new' (Kd.R_new' (Kd.R_new' (Kd.R_new' (Kd.R_new' (Kd.R_new' (Kd.R_new' (Kd.R_new' ho1 (Kd.R_lt (zA HO_965003))) (Kd.R_lt (zA HO_965006))) (Kd.R_lt (zA HO_978003))) (Kd.R_lt (zA HO_978006))) (Kd.R_lt (zA HO_992003))) (Kd.R_lt (zA HO_992006))) (Kd.R_lt (zA HO1019))) (Kd.R_lt (zA HO1024))) (bSz (zH4 HB GE937 GE964 GE977 GE991))); replace HO_965003 := aK (Kd.R_mono (Kd.R_told (Kd.R_told (Kd.R_old (zA HO_965003) hb) (Kd.R_base ho0)) (Kd.R_base ho1)) (fun _ h_ => h_.1)); replace HO_965006 := aK (Kd.R_mono (Kd.R_told (Kd.R_told (Kd.R_old (zA HO_965006) hb) (Kd.R_base ho0)) (Kd.R_base ho1)) (fun _ h_ => h_.1)); replace HO_978003 := aK (Kd.R_mono (Kd.R_told (Kd.R_told (Kd.R_old (zA HO_978003) hb) (Kd.R_base ho0)) (Kd.R_base ho1)) (fun _ h_ => h_.1)); replace HO_978006 := aK (Kd.R_mono (Kd.R_told (Kd.R_told (Kd.R_old (zA HO_978006) hb) (Kd.R_base ho0)) (Kd.R_base ho1)) (fun _ h_ => h_.1)); replace HO_992003 := aK (Kd.R_mono (Kd.R_told (Kd.R_told (Kd.R_old (zA HO_992003) hb) (Kd.R_base ho0)) (Kd.R_base ho1)) (fun _ h_ => h_.1)); replace HO_992006 := aK (Kd.R_mono (Kd.R_told (Kd.R_told (Kd.R_old (zA HO_992006) hb) (Kd.R_base ho0)) (Kd.R_base ho1)) (fun _ h_ => h_.1)); replace HO1019 := aK (Kd.R_mono (Kd.R_told (Kd.R_told (Kd.R_old (zA HO1019) hb) (Kd.R_base ho0)) (Kd.R_base ho1)) (fun _ h_ => h_.1)); replace HO1024 := aK (Kd.R_mono (Kd.R_told (Kd.R_told (Kd.R_old (zA HO1024) hb) (Kd.R_base ho0)) (Kd.R_base ho1)) (fun _ h_ => h_.1)); replace BK937 := zB BK937 hb; replace BK964 := zB BK964 hb; replace BK977 := zB BK977 hb; replace BK991 := zB BK991 hb; replace HB := aK (bSp (zH4 HB GE937 GE964 GE977 GE991) hb); (try clear hb); (try clear hb2); (try clear hk); (try clear hi); (try clear ho0); (try clear ho1)) | ((with_reducible refine gate_dst (N := 16) rfl ?_); refine box_event ?hg (N := 16) ?hd (cs := #[.int .i64 0, .int .i64 0, .int .i64 0, .slice none 0 0, .int .i64 0, .int .i64 0, .slice none 0 0, .int .i64 0]) (t := 38) ?hr ?_; (case hd => rfl); (case hg => rfl); (case hr => first | (go_simp; done) | (go_simp; rfl)); intro gb1039 hg w118 hbox hb; replace HO_965003 := aK (Kd.R_below (zA HO_965003) hb); replace HO_965006 := aK (Kd.R_below (zA HO_965006) hb); replace HO_978003 := aK (Kd.R_below (zA HO_978003) hb); replace HO_978006 := aK (Kd.R_below (zA HO_978006) hb); replace HO_992003 := aK (Kd.R_below (zA HO_992003) hb); replace HO_992006 := aK (Kd.R_below (zA HO_992006) hb); replace HO1019 := aK (Kd.R_below (zA HO1019) hb); replace HO1024 := aK (Kd.R_below (zA HO1024) hb); replace HO1031 := aK (Kd.R_below (zA HO1031) hb); replace HO1036 := aK (Kd.R_below (zA HO1036) hb); have BK1039 := aK (hbox); have GW1039 := aK ((by rw [hg]; exact (bSz (zH4 HB GE937 GE964 GE977 GE991)) : w.heap.size ≤ gb1039)); replace HB := aK (bSp (zH4 HB GE937 GE964 GE977 GE991) hb); have GE1039 := GW1039; have NB937_1039 := nbl BK937 hg (by intro z_; (with_reducible repeat (first | refine blk_drewN ?_ _ | refine kD ?_ | refine kA ?_ _)); exact z_); replace BK937 := zB BK937 hb; have NB1039_937 := nbs NB937_1039; have NB964_1039 := nbl BK964 hg (by intro z_; (with_reducible repeat (first | refine blk_drewN ?_ _ | refine kD ?_ | refine kA ?_ _)); exact z_); replace BK964 := zB BK964 hb; have NB1039_964 := nbs NB964_1039; have NB977_1039 := nbl BK977 hg (by intro z_; (with_reducible repeat (first | refine blk_drewN ?_ _ | refine kD ?_ | refine kA ?_ _)); exact z_); replace BK977 := zB BK977 hb; have NB1039_977 := nbs NB977_1039; have NB991_1039 := nbl BK991 hg (by intro z_; (with_reducible repeat (first | refine blk_drewN ?_ _ | refine kD ?_ | refine kA ?_ _)); exact z_); replace BK991 := zB BK991 hb; have NB1039_991 := nbs NB991_1039; clear hb hbox hg; have hnb119 := NB1039_937.out; have hnc119 := NB937_1039.out; have hnb120 := NB1039_964.out; have hnc120 := NB964_1039.out; have hnb121 := NB1039_977.out; have hnc121 := NB977_1039.out; have hnb122 := NB1039_991.out; have hnc122 := NB991_1039.out; obtain ⟨hcz123_0, hcz123_1, hcz123_2, hcz123_3, hcz123_4, hcz123_5, hcz123_6, hcz123_7, hfz123_0, hfz123_1, hfz123_2, hfz123_3, hfz123_4, hfz123_5, hfz123_6, hfz123_7⟩ := cl8 BK1039.out; obtain ⟨Ao124, co124, eo124⟩ := Kd.R_slice HO1031.out; subst eo124; obtain ⟨Ao125, co125, eo125⟩ := Kd.R_slice HO1036.out; subst eo125))
           (try simp only [Act.put, sTA, sZ, sS])
           go_cut [97] (fun v97 wc => ∃ (kq : Nat) (x97_102 : Bool), v97 = .bool x97_102 ∧ Aside0 (laws_FnExactWalkIn.j2 kq t1010 x97_102 t978 t979 t980 t1011 t984 t985 t1012 t989 = some true) ∧ Aside0 (kq ≤ kj65) ∧ Aside0 (Kd.R (Kd.int .i64) 3 wc w.heap.size (fun k_ => some k_ ≠ ((.slice Ao26 t959.length co26) : Value).ownBlock ∧ some k_ ≠ ((.slice Ao33 t1007.length co33) : Value).ownBlock ∧ some k_ ≠ ((.slice Ao34 t1008.length co34) : Value).ownBlock ∧ some k_ ≠ ((.slice Ao41 t981.length co41) : Value).ownBlock ∧ some k_ ≠ ((.slice Ao42 t986.length co42) : Value).ownBlock ∧ some k_ ≠ ((.slice Ao124 t1029.length co124) : Value).ownBlock ∧ some k_ ≠ ((.slice Ao125 t1034.length co125) : Value).ownBlock) (.slice Ao25 t954.length co25) t954) ∧ Aside0 (Kd.R (Kd.int .i64) 3 wc w.heap.size (fun k_ => some k_ ≠ ((.slice Ao25 t954.length co25) : Value).ownBlock ∧ some k_ ≠ ((.slice Ao33 t1007.length co33) : Value).ownBlock ∧ some k_ ≠ ((.slice Ao34 t1008.length co34) : Value).ownBlock ∧ some k_ ≠ ((.slice Ao41 t981.length co41) : Value).ownBlock ∧ some k_ ≠ ((.slice Ao42 t986.length co42) : Value).ownBlock ∧ some k_ ≠ ((.slice Ao124 t1029.length co124) : Value).ownBlock ∧ some k_ ≠ ((.slice Ao125 t1034.length co125) : Value).ownBlock) (.slice Ao26 t959.length co26) t959) ∧ Aside0 (Kd.R (Kd.int .i64) 3 wc w.heap.size (fun k_ => some k_ ≠ ((.slice Ao25 t954.length co25) : Value).ownBlock ∧ some k_ ≠ ((.slice Ao26 t959.length co26) : Value).ownBlock ∧ some k_ ≠ ((.slice Ao34 t1008.length co34) : Value).ownBlock ∧ some k_ ≠ ((.slice Ao41 t981.length co41) : Value).ownBlock ∧ some k_ ≠ ((.slice Ao42 t986.length co42) : Value).ownBlock ∧ some k_ ≠ ((.slice Ao124 t1029.length co124) : Value).ownBlock ∧ some k_ ≠ ((.slice Ao125 t1034.length co125) : Value).ownBlock) (.slice Ao33 t1007.length co33) t1007) ∧ Aside0 (Kd.R (Kd.int .i64) 3 wc w.heap.size (fun k_ => some k_ ≠ ((.slice Ao25 t954.length co25) : Value).ownBlock ∧ some k_ ≠ ((.slice Ao26 t959.length co26) : Value).ownBlock ∧ some k_ ≠ ((.slice Ao33 t1007.length co33) : Value).ownBlock ∧ some k_ ≠ ((.slice Ao41 t981.length co41) : Value).ownBlock ∧ some k_ ≠ ((.slice Ao42 t986.length co42) : Value).ownBlock ∧ some k_ ≠ ((.slice Ao124 t1029.length co124) : Value).ownBlock ∧ some k_ ≠ ((.slice Ao125 t1034.length co125) : Value).ownBlock) (.slice Ao34 t1008.length co34) t1008) ∧ Aside0 (Kd.R (Kd.int .i64) 3 wc w.heap.size (fun k_ => some k_ ≠ ((.slice Ao25 t954.length co25) : Value).ownBlock ∧ some k_ ≠ ((.slice Ao26 t959.length co26) : Value).ownBlock ∧ some k_ ≠ ((.slice Ao33 t1007.length co33) : Value).ownBlock ∧ some k_ ≠ ((.slice Ao34 t1008.length co34) : Value).ownBlock ∧ some k_ ≠ ((.slice Ao42 t986.length co42) : Value).ownBlock ∧ some k_ ≠ ((.slice Ao124 t1029.length co124) : Value).ownBlock ∧ some k_ ≠ ((.slice Ao125 t1034.length co125) : Value).ownBlock) (.slice Ao41 t981.length co41) t1011) ∧ Aside0 (Kd.R (Kd.int .i64) 3 wc w.heap.size (fun k_ => some k_ ≠ ((.slice Ao25 t954.length co25) : Value).ownBlock ∧ some k_ ≠ ((.slice Ao26 t959.length co26) : Value).ownBlock ∧ some k_ ≠ ((.slice Ao33 t1007.length co33) : Value).ownBlock ∧ some k_ ≠ ((.slice Ao34 t1008.length co34) : Value).ownBlock ∧ some k_ ≠ ((.slice Ao41 t981.length co41) : Value).ownBlock ∧ some k_ ≠ ((.slice Ao124 t1029.length co124) : Value).ownBlock ∧ some k_ ≠ ((.slice Ao125 t1034.length co125) : Value).ownBlock) (.slice Ao42 t986.length co42) t1012) ∧ Aside0 (Kd.R (Kd.int .i64) 3 wc w.heap.size (fun k_ => some k_ ≠ ((.slice Ao25 t954.length co25) : Value).ownBlock ∧ some k_ ≠ ((.slice Ao26 t959.length co26) : Value).ownBlock ∧ some k_ ≠ ((.slice Ao33 t1007.length co33) : Value).ownBlock ∧ some k_ ≠ ((.slice Ao34 t1008.length co34) : Value).ownBlock ∧ some k_ ≠ ((.slice Ao41 t981.length co41) : Value).ownBlock ∧ some k_ ≠ ((.slice Ao42 t986.length co42) : Value).ownBlock ∧ some k_ ≠ ((.slice Ao125 t1034.length co125) : Value).ownBlock) (.slice Ao124 t1029.length co124) t1029) ∧ Aside0 (Kd.R (Kd.int .i64) 3 wc w.heap.size (fun k_ => some k_ ≠ ((.slice Ao25 t954.length co25) : Value).ownBlock ∧ some k_ ≠ ((.slice Ao26 t959.length co26) : Value).ownBlock ∧ some k_ ≠ ((.slice Ao33 t1007.length co33) : Value).ownBlock ∧ some k_ ≠ ((.slice Ao34 t1008.length co34) : Value).ownBlock ∧ some k_ ≠ ((.slice Ao41 t981.length co41) : Value).ownBlock ∧ some k_ ≠ ((.slice Ao42 t986.length co42) : Value).ownBlock ∧ some k_ ≠ ((.slice Ao124 t1029.length co124) : Value).ownBlock) (.slice Ao125 t1034.length co125) t1034) ∧ Aside0 (wc.heap[gb937]? = some (.cells #[.int .i64 a0_0, .int .i64 a0_1, .int .i64 a0_2, (.slice A0_3 l0_3.length c0_3), .int .i64 a0_4, .int .i64 a0_5, (.slice A0_6 l0_6.length c0_6), .int .i64 a0_7] 30 (0, 0))) ∧ Aside0 (wc.heap[gb964]? = some (.cells #[.int .i64 t951, .int .i64 t952, .int .i64 t953, (.slice Ao25 t954.length co25), .int .i64 t957, .int .i64 t958, (.slice Ao26 t959.length co26), .int .i64 t962] 38 (0, 0))) ∧ Aside0 (wc.heap[gb977]? = some (.cells #[.int .i64 t965, .int .i64 t966, .int .i64 t967, (.slice Ao33 t1007.length co33), .int .i64 t971, .int .i64 t972, (.slice Ao34 t1008.length co34), .int .i64 t976] 38 (0, 0))) ∧ Aside0 (wc.heap[gb991]? = some (.cells #[.int .i64 t978, .int .i64 t979, .int .i64 t980, (.slice Ao41 t981.length co41), .int .i64 t984, .int .i64 t985, (.slice Ao42 t986.length co42), .int .i64 t989] 38 (0, 0))) ∧ Aside0 (wc.heap[gb1039]? = some (.cells #[.int .i64 t1026, .int .i64 t1027, .int .i64 t1028, (.slice Ao124 t1029.length co124), .int .i64 t1032, .int .i64 t1033, (.slice Ao125 t1034.length co125), .int .i64 t1037] 38 (0, 0))) ∧ Aside0 (Below w.heap.size w wc))
           case first =>
            have H := HC103.out
            clear HC103
            replace H := Option.bind_eq_some_iff.mp H
            obtain ⟨t1040, A1260, H⟩ := H
            replace H : (if t1040 = true then (laws_FnExactWalkIn.j2 kj65 t1010 (t1038 != t963) t978 t979 t980 t1011 t984 t985 t1012 t989) else (laws_FnExactWalkIn.j2 kj65 t1010 true t978 t979 t980 t1011 t984 t985 t1012 t989)) = some true := H
            have A126 := aK A1260
            clear A1260
            by_cases c127 : t1040 = true
            ·subst c127
             have H1 : (laws_FnExactWalkIn.j2 kj65 t1010 (t1038 != t963) t978 t979 t980 t1011 t984 t985 t1012 t989) = some true := by first | (rw [if_pos rfl] at H; exact H) | rfl
             clear H
             have H := H1
             clear H1
             have H' := aK H
             clear H
             have hnb128 := NB1039_937.out
             have hnc128 := NB937_1039.out
             have hnb129 := NB1039_964.out
             have hnc129 := NB964_1039.out
             have hnb130 := NB1039_977.out
             have hnc130 := NB977_1039.out
             have hnb131 := NB1039_991.out
             have hnc131 := NB991_1039.out
             obtain ⟨hcz132_0, hcz132_1, hcz132_2, hcz132_3, hcz132_4, hcz132_5, hcz132_6, hcz132_7, hfz132_0, hfz132_1, hfz132_2, hfz132_3, hfz132_4, hfz132_5, hfz132_6, hfz132_7⟩ := cl8 BK1039.out
             have hnb133 := NB964_937.out
             have hnc133 := NB937_964.out
             have hnb134 := NB964_977.out
             have hnc134 := NB977_964.out
             have hnb135 := NB964_991.out
             have hnc135 := NB991_964.out
             obtain ⟨hcz136_0, hcz136_1, hcz136_2, hcz136_3, hcz136_4, hcz136_5, hcz136_6, hcz136_7, hfz136_0, hfz136_1, hfz136_2, hfz136_3, hfz136_4, hfz136_5, hfz136_6, hfz136_7⟩ := cl8 BK964.out
             go_wp2_with (first | ((with_reducible refine gate_callee (f := 19) rfl ?_); refine goesL_ (some 91) rfl rfl Tryz.func19 (by kernel_rfl) rfl #[.agg #[.int .i64 t1026, .int .i64 t1027, .int .i64 t1028, .slice Ao124 t1029.length co124, .int .i64 t1032, .int .i64 t1033, .slice Ao125 t1034.length co125, .int .i64 t1037], .agg #[.int .i64 t951, .int .i64 t952, .int .i64 t953, .slice Ao25 t954.length co25, .int .i64 t957, .int .i64 t958, .slice Ao26 t959.length co26, .int .i64 t962]] rfl zD ?_; (with_reducible refine (laws_eqGarden.calls kj65 t1026 t1027 t1028 _ _ t1029 t1032 t1033 _ _ t1034 t1037 t951 t952 t953 _ _ t954 t957 t958 _ _ t959 t962 true _ ?side1 ?side2 ?side3 ?side4 ?side5 ?side6 ?side7 ?side8 A126.out).mono ?_); (case side1 => refine (Kd.R_reads' (e := 3) (base := w.heap.size) (ok := fun k_ => ((((((((some k_ ≠ (.slice Ao125 t1034.length co125 : Value).ownBlock ∧ some k_ ≠ (.slice Ao25 t954.length co25 : Value).ownBlock) ∧ some k_ ≠ (.slice Ao26 t959.length co26 : Value).ownBlock) ∧ some k_ ≠ (.slice Ao33 t1007.length co33 : Value).ownBlock) ∧ some k_ ≠ (.slice Ao34 t1008.length co34 : Value).ownBlock) ∧ some k_ ≠ (.slice Ao41 t981.length co41 : Value).ownBlock) ∧ some k_ ≠ (.slice Ao42 t986.length co42 : Value).ownBlock) ∧ some k_ ≠ (.slice Ao115 t1017.length co115 : Value).ownBlock) ∧ some k_ ≠ (.slice Ao116 t1022.length co116 : Value).ownBlock)) (n := t1029.length) (c := co124) ?_).2.2; exact (zF8 HO1031 BK1039)); (case side2 => exact (Kd.R_reads' HO1031.out).2.1); (case side3 => refine (Kd.R_reads' (e := 3) (base := w.heap.size) (ok := fun k_ => ((((((((some k_ ≠ (.slice Ao124 t1029.length co124 : Value).ownBlock ∧ some k_ ≠ (.slice Ao25 t954.length co25 : Value).ownBlock) ∧ some k_ ≠ (.slice Ao26 t959.length co26 : Value).ownBlock) ∧ some k_ ≠ (.slice Ao33 t1007.length co33 : Value).ownBlock) ∧ some k_ ≠ (.slice Ao34 t1008.length co34 : Value).ownBlock) ∧ some k_ ≠ (.slice Ao41 t981.length co41 : Value).ownBlock) ∧ some k_ ≠ (.slice Ao42 t986.length co42 : Value).ownBlock) ∧ some k_ ≠ (.slice Ao115 t1017.length co115 : Value).ownBlock) ∧ some k_ ≠ (.slice Ao116 t1022.length co116 : Value).ownBlock)) (n := t1034.length) (c := co125) ?_).2.2; exact (zF8 HO1036 BK1039)); (case side4 => exact (Kd.R_reads' HO1036.out).2.1); (case side5 => refine (Kd.R_reads' (e := 3) (base := w.heap.size) (ok := fun k_ => (((((some k_ ≠ (.slice Ao26 t959.length co26 : Value).ownBlock ∧ (some k_ ≠ (.slice Ao33 t1007.length co33 : Value).ownBlock ∧ (some k_ ≠ (.slice Ao34 t1008.length co34 : Value).ownBlock ∧ (some k_ ≠ (.slice Ao41 t981.length co41 : Value).ownBlock ∧ some k_ ≠ (.slice Ao42 t986.length co42 : Value).ownBlock)))) ∧ some k_ ≠ (.slice Ao115 t1017.length co115 : Value).ownBlock) ∧ some k_ ≠ (.slice Ao116 t1022.length co116 : Value).ownBlock) ∧ some k_ ≠ (.slice Ao124 t1029.length co124 : Value).ownBlock) ∧ some k_ ≠ (.slice Ao125 t1034.length co125 : Value).ownBlock)) (n := t954.length) (c := co25) ?_).2.2; exact (zF8 HO_965003 BK1039)); (case side6 => exact (Kd.R_reads' HO_965003.out).2.1); (case side7 => refine (Kd.R_reads' (e := 3) (base := w.heap.size) (ok := fun k_ => (((((some k_ ≠ (.slice Ao25 t954.length co25 : Value).ownBlock ∧ (some k_ ≠ (.slice Ao33 t1007.length co33 : Value).ownBlock ∧ (some k_ ≠ (.slice Ao34 t1008.length co34 : Value).ownBlock ∧ (some k_ ≠ (.slice Ao41 t981.length co41 : Value).ownBlock ∧ some k_ ≠ (.slice Ao42 t986.length co42 : Value).ownBlock)))) ∧ some k_ ≠ (.slice Ao115 t1017.length co115 : Value).ownBlock) ∧ some k_ ≠ (.slice Ao116 t1022.length co116 : Value).ownBlock) ∧ some k_ ≠ (.slice Ao124 t1029.length co124 : Value).ownBlock) ∧ some k_ ≠ (.slice Ao125 t1034.length co125 : Value).ownBlock)) (n := t959.length) (c := co26) ?_).2.2; exact (zF8 HO_965006 BK1039)); (case side8 => exact (Kd.R_reads' HO_965006.out).2.1); rintro e w137 ⟨rfl, hb⟩; refine ⟨_, rfl, ?_⟩; replace HO_965003 := aK (Kd.R_below (zF8 HO_965003 BK1039) hb); replace HO_965006 := aK (Kd.R_below (zF8 HO_965006 BK1039) hb); replace HO_978003 := aK (Kd.R_below (zF8 HO_978003 BK1039) hb); replace HO_978006 := aK (Kd.R_below (zF8 HO_978006 BK1039) hb); replace HO_992003 := aK (Kd.R_below (zF8 HO_992003 BK1039) hb); replace HO_992006 := aK (Kd.R_below (zF8 HO_992006 BK1039) hb); replace HO1019 := aK (Kd.R_below (zF8 HO1019 BK1039) hb); replace HO1024 := aK (Kd.R_below (zF8 HO1024 BK1039) hb); replace HO1031 := aK (Kd.R_below (zF8 HO1031 BK1039) hb); replace HO1036 := aK (Kd.R_below (zF8 HO1036 BK1039) hb); replace BK937 := zG8 BK937 NB937_1039 hb; replace BK964 := zG8 BK964 NB964_1039 hb; replace BK977 := zG8 BK977 NB977_1039 hb; replace BK991 := zG8 BK991 NB991_1039 hb; replace BK1039 := aK (blk_below (g := gb1039) (o := .cells #[.int .i64 t1026, .int .i64 t1027, .int .i64 t1028, .slice Ao124 t1029.length co124, .int .i64 t1032, .int .i64 t1033, .slice Ao125 t1034.length co125, .int .i64 t1037] 38 (0, 0)) (by (with_reducible repeat (first | refine blk_drewN ?_ _ | refine kD ?_ | refine kA ?_ _)); refine blk_put (cs := #[.int .i64 t1026, .int .i64 t1027, .int .i64 t1028, .slice Ao124 t1029.length co124, .int .i64 t1032, .int .i64 t1033, .slice Ao125 t1034.length co125, .int .i64 0]) ?_ 7 _ rfl; (with_reducible repeat (first | refine blk_drewN ?_ _ | refine kD ?_ | refine kA ?_ _)); refine blk_put (cs := #[.int .i64 t1026, .int .i64 t1027, .int .i64 t1028, .slice Ao124 t1029.length co124, .int .i64 t1032, .int .i64 t1033, .slice none 0 0, .int .i64 0]) ?_ 6 _ rfl; (with_reducible repeat (first | refine blk_drewN ?_ _ | refine kD ?_ | refine kA ?_ _)); refine blk_put (cs := #[.int .i64 t1026, .int .i64 t1027, .int .i64 t1028, .slice Ao124 t1029.length co124, .int .i64 t1032, .int .i64 0, .slice none 0 0, .int .i64 0]) ?_ 5 _ rfl; (with_reducible repeat (first | refine blk_drewN ?_ _ | refine kD ?_ | refine kA ?_ _)); refine blk_put (cs := #[.int .i64 t1026, .int .i64 t1027, .int .i64 t1028, .slice Ao124 t1029.length co124, .int .i64 0, .int .i64 0, .slice none 0 0, .int .i64 0]) ?_ 4 _ rfl; (with_reducible repeat (first | refine blk_drewN ?_ _ | refine kD ?_ | refine kA ?_ _)); refine blk_put (cs := #[.int .i64 t1026, .int .i64 t1027, .int .i64 t1028, .slice none 0 0, .int .i64 0, .int .i64 0, .slice none 0 0, .int .i64 0]) ?_ 3 _ rfl; (with_reducible repeat (first | refine blk_drewN ?_ _ | refine kD ?_ | refine kA ?_ _)); refine blk_put (cs := #[.int .i64 t1026, .int .i64 t1027, .int .i64 0, .slice none 0 0, .int .i64 0, .int .i64 0, .slice none 0 0, .int .i64 0]) ?_ 2 _ rfl; (with_reducible repeat (first | refine blk_drewN ?_ _ | refine kD ?_ | refine kA ?_ _)); refine blk_put (cs := #[.int .i64 t1026, .int .i64 0, .int .i64 0, .slice none 0 0, .int .i64 0, .int .i64 0, .slice none 0 0, .int .i64 0]) ?_ 1 _ rfl; (with_reducible repeat (first | refine blk_drewN ?_ _ | refine kD ?_ | refine kA ?_ _)); refine blk_put (cs := #[.int .i64 0, .int .i64 0, .int .i64 0, .slice none 0 0, .int .i64 0, .int .i64 0, .slice none 0 0, .int .i64 0]) ?_ 0 _ rfl; (with_reducible repeat (first | refine blk_drewN ?_ _ | refine kD ?_ | refine kA ?_ _)); exact BK1039.out) hb); replace HB := aK (bSp (zH5 HB GE937 GE964 GE977 GE991 GE1039) hb); (try clear hb); (try clear hb2); (try clear hk); (try clear hi)))
             go_meet
             case rel => exact ⟨_, ((t1038 != t963)), (by first | rfl | (simp; done) | (simp [*]; done)), H', ⟨by have := HJ12.out; have := HJ65.out; first | omega | exact Nat.le_refl _⟩, ⟨by (try simp only [hl978003_65]); (try simp only [hl978006_65]); (with_reducible repeat (first | apply Kd.R_alloc | apply Kd.R_drewN | apply Kd.R_drew)); exact Kd.R_mono HO_965003.out (fun _ hk => ⟨hk.1.1.1.1.1, ⟨hk.1.1.1.1.2.1, ⟨hk.1.1.1.1.2.2.1, ⟨hk.1.1.1.1.2.2.2.1, ⟨hk.1.1.1.1.2.2.2.2, ⟨hk.1.2, hk.2⟩⟩⟩⟩⟩⟩)⟩, ⟨by (try simp only [hl978003_65]); (try simp only [hl978006_65]); (with_reducible repeat (first | apply Kd.R_alloc | apply Kd.R_drewN | apply Kd.R_drew)); exact Kd.R_mono HO_965006.out (fun _ hk => ⟨hk.1.1.1.1.1, ⟨hk.1.1.1.1.2.1, ⟨hk.1.1.1.1.2.2.1, ⟨hk.1.1.1.1.2.2.2.1, ⟨hk.1.1.1.1.2.2.2.2, ⟨hk.1.2, hk.2⟩⟩⟩⟩⟩⟩)⟩, ⟨by (try simp only [hl978003_65]); (try simp only [hl978006_65]); (with_reducible repeat (first | apply Kd.R_alloc | apply Kd.R_drewN | apply Kd.R_drew)); exact Kd.R_mono HO_978003.out (fun _ hk => ⟨hk.1.1.1.1.1, ⟨hk.1.1.1.1.2.1, ⟨hk.1.1.1.1.2.2.1, ⟨hk.1.1.1.1.2.2.2.1, ⟨hk.1.1.1.1.2.2.2.2, ⟨hk.1.2, hk.2⟩⟩⟩⟩⟩⟩)⟩, ⟨by (try simp only [hl978003_65]); (try simp only [hl978006_65]); (with_reducible repeat (first | apply Kd.R_alloc | apply Kd.R_drewN | apply Kd.R_drew)); exact Kd.R_mono HO_978006.out (fun _ hk => ⟨hk.1.1.1.1.1, ⟨hk.1.1.1.1.2.1, ⟨hk.1.1.1.1.2.2.1, ⟨hk.1.1.1.1.2.2.2.1, ⟨hk.1.1.1.1.2.2.2.2, ⟨hk.1.2, hk.2⟩⟩⟩⟩⟩⟩)⟩, ⟨by (try simp only [hl978003_65]); (try simp only [hl978006_65]); (with_reducible repeat (first | apply Kd.R_alloc | apply Kd.R_drewN | apply Kd.R_drew)); exact Kd.R_mono HO_992003.out (fun _ hk => ⟨hk.1.1.1.1.1, ⟨hk.1.1.1.1.2.1, ⟨hk.1.1.1.1.2.2.1, ⟨hk.1.1.1.1.2.2.2.1, ⟨hk.1.1.1.1.2.2.2.2, ⟨hk.1.2, hk.2⟩⟩⟩⟩⟩⟩)⟩, ⟨by (try simp only [hl978003_65]); (try simp only [hl978006_65]); (with_reducible repeat (first | apply Kd.R_alloc | apply Kd.R_drewN | apply Kd.R_drew)); exact Kd.R_mono HO_992006.out (fun _ hk => ⟨hk.1.1.1.1.1, ⟨hk.1.1.1.1.2.1, ⟨hk.1.1.1.1.2.2.1, ⟨hk.1.1.1.1.2.2.2.1, ⟨hk.1.1.1.1.2.2.2.2, ⟨hk.1.2, hk.2⟩⟩⟩⟩⟩⟩)⟩, ⟨by (try simp only [hl978003_65]); (try simp only [hl978006_65]); (with_reducible repeat (first | apply Kd.R_alloc | apply Kd.R_drewN | apply Kd.R_drew)); exact Kd.R_mono HO1031.out (fun _ hk => ⟨hk.1.1.1.1.1.1.1.2, ⟨hk.1.1.1.1.1.1.2, ⟨hk.1.1.1.1.1.2, ⟨hk.1.1.1.1.2, ⟨hk.1.1.1.2, ⟨hk.1.1.2, hk.1.1.1.1.1.1.1.1⟩⟩⟩⟩⟩⟩)⟩, ⟨by (try simp only [hl978003_65]); (try simp only [hl978006_65]); (with_reducible repeat (first | apply Kd.R_alloc | apply Kd.R_drewN | apply Kd.R_drew)); exact Kd.R_mono HO1036.out (fun _ hk => ⟨hk.1.1.1.1.1.1.1.2, ⟨hk.1.1.1.1.1.1.2, ⟨hk.1.1.1.1.1.2, ⟨hk.1.1.1.1.2, ⟨hk.1.1.1.2, ⟨hk.1.1.2, hk.1.1.1.1.1.1.1.1⟩⟩⟩⟩⟩⟩)⟩, ⟨by (try simp only [hl978003_65]); (try simp only [hl978006_65]); (with_reducible repeat (first | refine blk_drewN ?_ _ | refine kD ?_ | refine kA ?_ _)); exact BK937.out⟩, ⟨by (try simp only [hl978003_65]); (try simp only [hl978006_65]); (with_reducible repeat (first | refine blk_drewN ?_ _ | refine kD ?_ | refine kA ?_ _)); exact BK964.out⟩, ⟨by (try simp only [hl978003_65]); (try simp only [hl978006_65]); (with_reducible repeat (first | refine blk_drewN ?_ _ | refine kD ?_ | refine kA ?_ _)); exact BK977.out⟩, ⟨by (try simp only [hl978003_65]); (try simp only [hl978006_65]); (with_reducible repeat (first | refine blk_drewN ?_ _ | refine kD ?_ | refine kA ?_ _)); exact BK991.out⟩, ⟨by (try simp only [hl978003_65]); (try simp only [hl978006_65]); (with_reducible repeat (first | refine blk_drewN ?_ _ | refine kD ?_ | refine kA ?_ _)); exact BK1039.out⟩, ⟨zH5 HB GE937 GE964 GE977 GE991 GE1039⟩⟩
            ·replace c127 := Bool.eq_false_iff.mpr c127
             subst c127
             have H1 : (laws_FnExactWalkIn.j2 kj65 t1010 true t978 t979 t980 t1011 t984 t985 t1012 t989) = some true := by rw [if_neg (show ¬ (false = true) by decide)] at H; exact H
             clear H
             have H := H1
             clear H1
             have H' := aK H
             clear H
             have hnb138 := NB1039_937.out
             have hnc138 := NB937_1039.out
             have hnb139 := NB1039_964.out
             have hnc139 := NB964_1039.out
             have hnb140 := NB1039_977.out
             have hnc140 := NB977_1039.out
             have hnb141 := NB1039_991.out
             have hnc141 := NB991_1039.out
             obtain ⟨hcz142_0, hcz142_1, hcz142_2, hcz142_3, hcz142_4, hcz142_5, hcz142_6, hcz142_7, hfz142_0, hfz142_1, hfz142_2, hfz142_3, hfz142_4, hfz142_5, hfz142_6, hfz142_7⟩ := cl8 BK1039.out
             have hnb143 := NB964_937.out
             have hnc143 := NB937_964.out
             have hnb144 := NB964_977.out
             have hnc144 := NB977_964.out
             have hnb145 := NB964_991.out
             have hnc145 := NB991_964.out
             obtain ⟨hcz146_0, hcz146_1, hcz146_2, hcz146_3, hcz146_4, hcz146_5, hcz146_6, hcz146_7, hfz146_0, hfz146_1, hfz146_2, hfz146_3, hfz146_4, hfz146_5, hfz146_6, hfz146_7⟩ := cl8 BK964.out
             go_wp2_with (first | ((with_reducible refine gate_callee (f := 19) rfl ?_); refine goesL_ (some 91) rfl rfl Tryz.func19 (by kernel_rfl) rfl #[.agg #[.int .i64 t1026, .int .i64 t1027, .int .i64 t1028, .slice Ao124 t1029.length co124, .int .i64 t1032, .int .i64 t1033, .slice Ao125 t1034.length co125, .int .i64 t1037], .agg #[.int .i64 t951, .int .i64 t952, .int .i64 t953, .slice Ao25 t954.length co25, .int .i64 t957, .int .i64 t958, .slice Ao26 t959.length co26, .int .i64 t962]] rfl zD ?_; (with_reducible refine (laws_eqGarden.calls kj65 t1026 t1027 t1028 _ _ t1029 t1032 t1033 _ _ t1034 t1037 t951 t952 t953 _ _ t954 t957 t958 _ _ t959 t962 false _ ?side1 ?side2 ?side3 ?side4 ?side5 ?side6 ?side7 ?side8 A126.out).mono ?_); (case side1 => refine (Kd.R_reads' (e := 3) (base := w.heap.size) (ok := fun k_ => ((((((((some k_ ≠ (.slice Ao125 t1034.length co125 : Value).ownBlock ∧ some k_ ≠ (.slice Ao25 t954.length co25 : Value).ownBlock) ∧ some k_ ≠ (.slice Ao26 t959.length co26 : Value).ownBlock) ∧ some k_ ≠ (.slice Ao33 t1007.length co33 : Value).ownBlock) ∧ some k_ ≠ (.slice Ao34 t1008.length co34 : Value).ownBlock) ∧ some k_ ≠ (.slice Ao41 t981.length co41 : Value).ownBlock) ∧ some k_ ≠ (.slice Ao42 t986.length co42 : Value).ownBlock) ∧ some k_ ≠ (.slice Ao115 t1017.length co115 : Value).ownBlock) ∧ some k_ ≠ (.slice Ao116 t1022.length co116 : Value).ownBlock)) (n := t1029.length) (c := co124) ?_).2.2; exact (zF8 HO1031 BK1039)); (case side2 => exact (Kd.R_reads' HO1031.out).2.1); (case side3 => refine (Kd.R_reads' (e := 3) (base := w.heap.size) (ok := fun k_ => ((((((((some k_ ≠ (.slice Ao124 t1029.length co124 : Value).ownBlock ∧ some k_ ≠ (.slice Ao25 t954.length co25 : Value).ownBlock) ∧ some k_ ≠ (.slice Ao26 t959.length co26 : Value).ownBlock) ∧ some k_ ≠ (.slice Ao33 t1007.length co33 : Value).ownBlock) ∧ some k_ ≠ (.slice Ao34 t1008.length co34 : Value).ownBlock) ∧ some k_ ≠ (.slice Ao41 t981.length co41 : Value).ownBlock) ∧ some k_ ≠ (.slice Ao42 t986.length co42 : Value).ownBlock) ∧ some k_ ≠ (.slice Ao115 t1017.length co115 : Value).ownBlock) ∧ some k_ ≠ (.slice Ao116 t1022.length co116 : Value).ownBlock)) (n := t1034.length) (c := co125) ?_).2.2; exact (zF8 HO1036 BK1039)); (case side4 => exact (Kd.R_reads' HO1036.out).2.1); (case side5 => refine (Kd.R_reads' (e := 3) (base := w.heap.size) (ok := fun k_ => (((((some k_ ≠ (.slice Ao26 t959.length co26 : Value).ownBlock ∧ (some k_ ≠ (.slice Ao33 t1007.length co33 : Value).ownBlock ∧ (some k_ ≠ (.slice Ao34 t1008.length co34 : Value).ownBlock ∧ (some k_ ≠ (.slice Ao41 t981.length co41 : Value).ownBlock ∧ some k_ ≠ (.slice Ao42 t986.length co42 : Value).ownBlock)))) ∧ some k_ ≠ (.slice Ao115 t1017.length co115 : Value).ownBlock) ∧ some k_ ≠ (.slice Ao116 t1022.length co116 : Value).ownBlock) ∧ some k_ ≠ (.slice Ao124 t1029.length co124 : Value).ownBlock) ∧ some k_ ≠ (.slice Ao125 t1034.length co125 : Value).ownBlock)) (n := t954.length) (c := co25) ?_).2.2; exact (zF8 HO_965003 BK1039)); (case side6 => exact (Kd.R_reads' HO_965003.out).2.1); (case side7 => refine (Kd.R_reads' (e := 3) (base := w.heap.size) (ok := fun k_ => (((((some k_ ≠ (.slice Ao25 t954.length co25 : Value).ownBlock ∧ (some k_ ≠ (.slice Ao33 t1007.length co33 : Value).ownBlock ∧ (some k_ ≠ (.slice Ao34 t1008.length co34 : Value).ownBlock ∧ (some k_ ≠ (.slice Ao41 t981.length co41 : Value).ownBlock ∧ some k_ ≠ (.slice Ao42 t986.length co42 : Value).ownBlock)))) ∧ some k_ ≠ (.slice Ao115 t1017.length co115 : Value).ownBlock) ∧ some k_ ≠ (.slice Ao116 t1022.length co116 : Value).ownBlock) ∧ some k_ ≠ (.slice Ao124 t1029.length co124 : Value).ownBlock) ∧ some k_ ≠ (.slice Ao125 t1034.length co125 : Value).ownBlock)) (n := t959.length) (c := co26) ?_).2.2; exact (zF8 HO_965006 BK1039)); (case side8 => exact (Kd.R_reads' HO_965006.out).2.1); rintro e w147 ⟨rfl, hb⟩; refine ⟨_, rfl, ?_⟩; replace HO_965003 := aK (Kd.R_below (zF8 HO_965003 BK1039) hb); replace HO_965006 := aK (Kd.R_below (zF8 HO_965006 BK1039) hb); replace HO_978003 := aK (Kd.R_below (zF8 HO_978003 BK1039) hb); replace HO_978006 := aK (Kd.R_below (zF8 HO_978006 BK1039) hb); replace HO_992003 := aK (Kd.R_below (zF8 HO_992003 BK1039) hb); replace HO_992006 := aK (Kd.R_below (zF8 HO_992006 BK1039) hb); replace HO1019 := aK (Kd.R_below (zF8 HO1019 BK1039) hb); replace HO1024 := aK (Kd.R_below (zF8 HO1024 BK1039) hb); replace HO1031 := aK (Kd.R_below (zF8 HO1031 BK1039) hb); replace HO1036 := aK (Kd.R_below (zF8 HO1036 BK1039) hb); replace BK937 := zG8 BK937 NB937_1039 hb; replace BK964 := zG8 BK964 NB964_1039 hb; replace BK977 := zG8 BK977 NB977_1039 hb; replace BK991 := zG8 BK991 NB991_1039 hb; replace BK1039 := aK (blk_below (g := gb1039) (o := .cells #[.int .i64 t1026, .int .i64 t1027, .int .i64 t1028, .slice Ao124 t1029.length co124, .int .i64 t1032, .int .i64 t1033, .slice Ao125 t1034.length co125, .int .i64 t1037] 38 (0, 0)) (by (with_reducible repeat (first | refine blk_drewN ?_ _ | refine kD ?_ | refine kA ?_ _)); refine blk_put (cs := #[.int .i64 t1026, .int .i64 t1027, .int .i64 t1028, .slice Ao124 t1029.length co124, .int .i64 t1032, .int .i64 t1033, .slice Ao125 t1034.length co125, .int .i64 0]) ?_ 7 _ rfl; (with_reducible repeat (first | refine blk_drewN ?_ _ | refine kD ?_ | refine kA ?_ _)); refine blk_put (cs := #[.int .i64 t1026, .int .i64 t1027, .int .i64 t1028, .slice Ao124 t1029.length co124, .int .i64 t1032, .int .i64 t1033, .slice none 0 0, .int .i64 0]) ?_ 6 _ rfl; (with_reducible repeat (first | refine blk_drewN ?_ _ | refine kD ?_ | refine kA ?_ _)); refine blk_put (cs := #[.int .i64 t1026, .int .i64 t1027, .int .i64 t1028, .slice Ao124 t1029.length co124, .int .i64 t1032, .int .i64 0, .slice none 0 0, .int .i64 0]) ?_ 5 _ rfl; (with_reducible repeat (first | refine blk_drewN ?_ _ | refine kD ?_ | refine kA ?_ _)); refine blk_put (cs := #[.int .i64 t1026, .int .i64 t1027, .int .i64 t1028, .slice Ao124 t1029.length co124, .int .i64 0, .int .i64 0, .slice none 0 0, .int .i64 0]) ?_ 4 _ rfl; (with_reducible repeat (first | refine blk_drewN ?_ _ | refine kD ?_ | refine kA ?_ _)); refine blk_put (cs := #[.int .i64 t1026, .int .i64 t1027, .int .i64 t1028, .slice none 0 0, .int .i64 0, .int .i64 0, .slice none 0 0, .int .i64 0]) ?_ 3 _ rfl; (with_reducible repeat (first | refine blk_drewN ?_ _ | refine kD ?_ | refine kA ?_ _)); refine blk_put (cs := #[.int .i64 t1026, .int .i64 t1027, .int .i64 0, .slice none 0 0, .int .i64 0, .int .i64 0, .slice none 0 0, .int .i64 0]) ?_ 2 _ rfl; (with_reducible repeat (first | refine blk_drewN ?_ _ | refine kD ?_ | refine kA ?_ _)); refine blk_put (cs := #[.int .i64 t1026, .int .i64 0, .int .i64 0, .slice none 0 0, .int .i64 0, .int .i64 0, .slice none 0 0, .int .i64 0]) ?_ 1 _ rfl; (with_reducible repeat (first | refine blk_drewN ?_ _ | refine kD ?_ | refine kA ?_ _)); refine blk_put (cs := #[.int .i64 0, .int .i64 0, .int .i64 0, .slice none 0 0, .int .i64 0, .int .i64 0, .slice none 0 0, .int .i64 0]) ?_ 0 _ rfl; (with_reducible repeat (first | refine blk_drewN ?_ _ | refine kD ?_ | refine kA ?_ _)); exact BK1039.out) hb); replace HB := aK (bSp (zH5 HB GE937 GE964 GE977 GE991 GE1039) hb); (try clear hb); (try clear hb2); (try clear hk); (try clear hi)))
             go_meet
             case rel => exact ⟨_, (true), (by first | rfl | (simp; done) | (simp [*]; done)), H', ⟨by have := HJ12.out; have := HJ65.out; first | omega | exact Nat.le_refl _⟩, ⟨by (try simp only [hl978003_65]); (try simp only [hl978006_65]); (with_reducible repeat (first | apply Kd.R_alloc | apply Kd.R_drewN | apply Kd.R_drew)); exact Kd.R_mono HO_965003.out (fun _ hk => ⟨hk.1.1.1.1.1, ⟨hk.1.1.1.1.2.1, ⟨hk.1.1.1.1.2.2.1, ⟨hk.1.1.1.1.2.2.2.1, ⟨hk.1.1.1.1.2.2.2.2, ⟨hk.1.2, hk.2⟩⟩⟩⟩⟩⟩)⟩, ⟨by (try simp only [hl978003_65]); (try simp only [hl978006_65]); (with_reducible repeat (first | apply Kd.R_alloc | apply Kd.R_drewN | apply Kd.R_drew)); exact Kd.R_mono HO_965006.out (fun _ hk => ⟨hk.1.1.1.1.1, ⟨hk.1.1.1.1.2.1, ⟨hk.1.1.1.1.2.2.1, ⟨hk.1.1.1.1.2.2.2.1, ⟨hk.1.1.1.1.2.2.2.2, ⟨hk.1.2, hk.2⟩⟩⟩⟩⟩⟩)⟩, ⟨by (try simp only [hl978003_65]); (try simp only [hl978006_65]); (with_reducible repeat (first | apply Kd.R_alloc | apply Kd.R_drewN | apply Kd.R_drew)); exact Kd.R_mono HO_978003.out (fun _ hk => ⟨hk.1.1.1.1.1, ⟨hk.1.1.1.1.2.1, ⟨hk.1.1.1.1.2.2.1, ⟨hk.1.1.1.1.2.2.2.1, ⟨hk.1.1.1.1.2.2.2.2, ⟨hk.1.2, hk.2⟩⟩⟩⟩⟩⟩)⟩, ⟨by (try simp only [hl978003_65]); (try simp only [hl978006_65]); (with_reducible repeat (first | apply Kd.R_alloc | apply Kd.R_drewN | apply Kd.R_drew)); exact Kd.R_mono HO_978006.out (fun _ hk => ⟨hk.1.1.1.1.1, ⟨hk.1.1.1.1.2.1, ⟨hk.1.1.1.1.2.2.1, ⟨hk.1.1.1.1.2.2.2.1, ⟨hk.1.1.1.1.2.2.2.2, ⟨hk.1.2, hk.2⟩⟩⟩⟩⟩⟩)⟩, ⟨by (try simp only [hl978003_65]); (try simp only [hl978006_65]); (with_reducible repeat (first | apply Kd.R_alloc | apply Kd.R_drewN | apply Kd.R_drew)); exact Kd.R_mono HO_992003.out (fun _ hk => ⟨hk.1.1.1.1.1, ⟨hk.1.1.1.1.2.1, ⟨hk.1.1.1.1.2.2.1, ⟨hk.1.1.1.1.2.2.2.1, ⟨hk.1.1.1.1.2.2.2.2, ⟨hk.1.2, hk.2⟩⟩⟩⟩⟩⟩)⟩, ⟨by (try simp only [hl978003_65]); (try simp only [hl978006_65]); (with_reducible repeat (first | apply Kd.R_alloc | apply Kd.R_drewN | apply Kd.R_drew)); exact Kd.R_mono HO_992006.out (fun _ hk => ⟨hk.1.1.1.1.1, ⟨hk.1.1.1.1.2.1, ⟨hk.1.1.1.1.2.2.1, ⟨hk.1.1.1.1.2.2.2.1, ⟨hk.1.1.1.1.2.2.2.2, ⟨hk.1.2, hk.2⟩⟩⟩⟩⟩⟩)⟩, ⟨by (try simp only [hl978003_65]); (try simp only [hl978006_65]); (with_reducible repeat (first | apply Kd.R_alloc | apply Kd.R_drewN | apply Kd.R_drew)); exact Kd.R_mono HO1031.out (fun _ hk => ⟨hk.1.1.1.1.1.1.1.2, ⟨hk.1.1.1.1.1.1.2, ⟨hk.1.1.1.1.1.2, ⟨hk.1.1.1.1.2, ⟨hk.1.1.1.2, ⟨hk.1.1.2, hk.1.1.1.1.1.1.1.1⟩⟩⟩⟩⟩⟩)⟩, ⟨by (try simp only [hl978003_65]); (try simp only [hl978006_65]); (with_reducible repeat (first | apply Kd.R_alloc | apply Kd.R_drewN | apply Kd.R_drew)); exact Kd.R_mono HO1036.out (fun _ hk => ⟨hk.1.1.1.1.1.1.1.2, ⟨hk.1.1.1.1.1.1.2, ⟨hk.1.1.1.1.1.2, ⟨hk.1.1.1.1.2, ⟨hk.1.1.1.2, ⟨hk.1.1.2, hk.1.1.1.1.1.1.1.1⟩⟩⟩⟩⟩⟩)⟩, ⟨by (try simp only [hl978003_65]); (try simp only [hl978006_65]); (with_reducible repeat (first | refine blk_drewN ?_ _ | refine kD ?_ | refine kA ?_ _)); exact BK937.out⟩, ⟨by (try simp only [hl978003_65]); (try simp only [hl978006_65]); (with_reducible repeat (first | refine blk_drewN ?_ _ | refine kD ?_ | refine kA ?_ _)); exact BK964.out⟩, ⟨by (try simp only [hl978003_65]); (try simp only [hl978006_65]); (with_reducible repeat (first | refine blk_drewN ?_ _ | refine kD ?_ | refine kA ?_ _)); exact BK977.out⟩, ⟨by (try simp only [hl978003_65]); (try simp only [hl978006_65]); (with_reducible repeat (first | refine blk_drewN ?_ _ | refine kD ?_ | refine kA ?_ _)); exact BK991.out⟩, ⟨by (try simp only [hl978003_65]); (try simp only [hl978006_65]); (with_reducible repeat (first | refine blk_drewN ?_ _ | refine kD ?_ | refine kA ?_ _)); exact BK1039.out⟩, ⟨zH5 HB GE937 GE964 GE977 GE991 GE1039⟩⟩
           case rest =>
            clear HC103
            try clear c1
            try clear c2
            try clear p2
            try clear c3
            try clear c4
            try clear c5
            try clear c5b0
            try clear c6
            try clear c7
            try clear c8
            try clear c9
            try clear c10
            try clear c11
            try clear c12
            try clear c13
            try clear c14
            try clear c15
            try clear c17
            try clear c19
            try clear c20
            try clear c21
            try clear c23
            try clear c24
            try clear c25
            try clear c30
            try clear c31
            try clear c37
            try clear c38
            try clear c39
            try clear c44
            try clear c45
            try clear c46
            try clear c47
            try clear c49
            try clear c50
            try clear c53
            try clear c54
            try clear c55
            try clear c57
            try clear c58
            try clear c61
            try clear c64
            try clear c72
            try clear c73
            try clear c74
            try clear c77
            try clear c77b0
            try clear c79
            try clear c80
            try clear c81
            try clear c82
            try clear c84
            try clear c85
            try clear c88
            try clear c89
            try clear c90
            try clear c92
            try clear c93
            try clear c96
            try clear c99
            try clear c99b0
            try clear c100
            try clear c100b0
            try clear c100b1
            try clear c104
            try clear c105
            try clear c106
            try clear c111
            try clear c112
            try clear c119
            try clear c120
            try clear c121
            try clear c122
            try clear c127
            try clear c128
            try clear c129
            try clear c130
            try clear c131
            try clear c133
            try clear c134
            try clear c135
            try clear c138
            try clear c139
            try clear c140
            try clear c141
            try clear c143
            try clear c144
            try clear c145
            try clear hcz107_0
            try clear hcz107_1
            try clear hcz107_2
            try clear hcz107_3
            try clear hcz107_4
            try clear hcz107_5
            try clear hcz107_6
            try clear hcz107_7
            try clear hcz109_0
            try clear hcz109_1
            try clear hcz109_2
            try clear hcz109_3
            try clear hcz109_4
            try clear hcz109_5
            try clear hcz109_6
            try clear hcz109_7
            try clear hcz113_0
            try clear hcz113_1
            try clear hcz113_2
            try clear hcz113_3
            try clear hcz113_4
            try clear hcz113_5
            try clear hcz113_6
            try clear hcz113_7
            try clear hcz123_0
            try clear hcz123_1
            try clear hcz123_2
            try clear hcz123_3
            try clear hcz123_4
            try clear hcz123_5
            try clear hcz123_6
            try clear hcz123_7
            try clear hcz132_0
            try clear hcz132_1
            try clear hcz132_2
            try clear hcz132_3
            try clear hcz132_4
            try clear hcz132_5
            try clear hcz132_6
            try clear hcz132_7
            try clear hcz136_0
            try clear hcz136_1
            try clear hcz136_2
            try clear hcz136_3
            try clear hcz136_4
            try clear hcz136_5
            try clear hcz136_6
            try clear hcz136_7
            try clear hcz142_0
            try clear hcz142_1
            try clear hcz142_2
            try clear hcz142_3
            try clear hcz142_4
            try clear hcz142_5
            try clear hcz142_6
            try clear hcz142_7
            try clear hcz146_0
            try clear hcz146_1
            try clear hcz146_2
            try clear hcz146_3
            try clear hcz146_4
            try clear hcz146_5
            try clear hcz146_6
            try clear hcz146_7
            try clear hcz15_0
            try clear hcz15_1
            try clear hcz15_2
            try clear hcz15_3
            try clear hcz15_4
            try clear hcz15_5
            try clear hcz15_6
            try clear hcz15_7
            try clear hcz17_0
            try clear hcz17_1
            try clear hcz17_2
            try clear hcz17_3
            try clear hcz17_4
            try clear hcz17_5
            try clear hcz17_6
            try clear hcz17_7
            try clear hcz24_0
            try clear hcz24_1
            try clear hcz24_2
            try clear hcz24_3
            try clear hcz24_4
            try clear hcz24_5
            try clear hcz24_6
            try clear hcz24_7
            try clear hcz27_0
            try clear hcz27_1
            try clear hcz27_2
            try clear hcz27_3
            try clear hcz27_4
            try clear hcz27_5
            try clear hcz27_6
            try clear hcz27_7
            try clear hcz32_0
            try clear hcz32_1
            try clear hcz32_2
            try clear hcz32_3
            try clear hcz32_4
            try clear hcz32_5
            try clear hcz32_6
            try clear hcz32_7
            try clear hcz40_0
            try clear hcz40_1
            try clear hcz40_2
            try clear hcz40_3
            try clear hcz40_4
            try clear hcz40_5
            try clear hcz40_6
            try clear hcz40_7
            try clear hcz48_0
            try clear hcz48_1
            try clear hcz48_2
            try clear hcz48_3
            try clear hcz48_4
            try clear hcz48_5
            try clear hcz48_6
            try clear hcz48_7
            try clear hcz51_0
            try clear hcz51_1
            try clear hcz51_2
            try clear hcz51_3
            try clear hcz51_4
            try clear hcz51_5
            try clear hcz51_6
            try clear hcz51_7
            try clear hcz56_0
            try clear hcz56_1
            try clear hcz56_2
            try clear hcz56_3
            try clear hcz56_4
            try clear hcz56_5
            try clear hcz56_6
            try clear hcz56_7
            try clear hcz59_0
            try clear hcz59_1
            try clear hcz59_2
            try clear hcz59_3
            try clear hcz59_4
            try clear hcz59_5
            try clear hcz59_6
            try clear hcz59_7
            try clear hcz75_0
            try clear hcz75_1
            try clear hcz75_2
            try clear hcz75_3
            try clear hcz75_4
            try clear hcz75_5
            try clear hcz75_6
            try clear hcz75_7
            try clear hcz7_0
            try clear hcz7_1
            try clear hcz7_2
            try clear hcz7_3
            try clear hcz7_4
            try clear hcz7_5
            try clear hcz7_6
            try clear hcz7_7
            try clear hcz83_0
            try clear hcz83_1
            try clear hcz83_2
            try clear hcz83_3
            try clear hcz83_4
            try clear hcz83_5
            try clear hcz83_6
            try clear hcz83_7
            try clear hcz86_0
            try clear hcz86_1
            try clear hcz86_2
            try clear hcz86_3
            try clear hcz86_4
            try clear hcz86_5
            try clear hcz86_6
            try clear hcz86_7
            try clear hcz91_0
            try clear hcz91_1
            try clear hcz91_2
            try clear hcz91_3
            try clear hcz91_4
            try clear hcz91_5
            try clear hcz91_6
            try clear hcz91_7
            try clear hcz94_0
            try clear hcz94_1
            try clear hcz94_2
            try clear hcz94_3
            try clear hcz94_4
            try clear hcz94_5
            try clear hcz94_6
            try clear hcz94_7
            try clear hfz107_0
            try clear hfz107_1
            try clear hfz107_2
            try clear hfz107_3
            try clear hfz107_4
            try clear hfz107_5
            try clear hfz107_6
            try clear hfz107_7
            try clear hfz109_0
            try clear hfz109_1
            try clear hfz109_2
            try clear hfz109_3
            try clear hfz109_4
            try clear hfz109_5
            try clear hfz109_6
            try clear hfz109_7
            try clear hfz113_0
            try clear hfz113_1
            try clear hfz113_2
            try clear hfz113_3
            try clear hfz113_4
            try clear hfz113_5
            try clear hfz113_6
            try clear hfz113_7
            try clear hfz123_0
            try clear hfz123_1
            try clear hfz123_2
            try clear hfz123_3
            try clear hfz123_4
            try clear hfz123_5
            try clear hfz123_6
            try clear hfz123_7
            try clear hfz132_0
            try clear hfz132_1
            try clear hfz132_2
            try clear hfz132_3
            try clear hfz132_4
            try clear hfz132_5
            try clear hfz132_6
            try clear hfz132_7
            try clear hfz136_0
            try clear hfz136_1
            try clear hfz136_2
            try clear hfz136_3
            try clear hfz136_4
            try clear hfz136_5
            try clear hfz136_6
            try clear hfz136_7
            try clear hfz142_0
            try clear hfz142_1
            try clear hfz142_2
            try clear hfz142_3
            try clear hfz142_4
            try clear hfz142_5
            try clear hfz142_6
            try clear hfz142_7
            try clear hfz146_0
            try clear hfz146_1
            try clear hfz146_2
            try clear hfz146_3
            try clear hfz146_4
            try clear hfz146_5
            try clear hfz146_6
            try clear hfz146_7
            try clear hfz15_0
            try clear hfz15_1
            try clear hfz15_2
            try clear hfz15_3
            try clear hfz15_4
            try clear hfz15_5
            try clear hfz15_6
            try clear hfz15_7
            try clear hfz17_0
            try clear hfz17_1
            try clear hfz17_2
            try clear hfz17_3
            try clear hfz17_4
            try clear hfz17_5
            try clear hfz17_6
            try clear hfz17_7
            try clear hfz24_0
            try clear hfz24_1
            try clear hfz24_2
            try clear hfz24_3
            try clear hfz24_4
            try clear hfz24_5
            try clear hfz24_6
            try clear hfz24_7
            try clear hfz27_0
            try clear hfz27_1
            try clear hfz27_2
            try clear hfz27_3
            try clear hfz27_4
            try clear hfz27_5
            try clear hfz27_6
            try clear hfz27_7
            try clear hfz32_0
            try clear hfz32_1
            try clear hfz32_2
            try clear hfz32_3
            try clear hfz32_4
            try clear hfz32_5
            try clear hfz32_6
            try clear hfz32_7
            try clear hfz40_0
            try clear hfz40_1
            try clear hfz40_2
            try clear hfz40_3
            try clear hfz40_4
            try clear hfz40_5
            try clear hfz40_6
            try clear hfz40_7
            try clear hfz48_0
            try clear hfz48_1
            try clear hfz48_2
            try clear hfz48_3
            try clear hfz48_4
            try clear hfz48_5
            try clear hfz48_6
            try clear hfz48_7
            try clear hfz51_0
            try clear hfz51_1
            try clear hfz51_2
            try clear hfz51_3
            try clear hfz51_4
            try clear hfz51_5
            try clear hfz51_6
            try clear hfz51_7
            try clear hfz56_0
            try clear hfz56_1
            try clear hfz56_2
            try clear hfz56_3
            try clear hfz56_4
            try clear hfz56_5
            try clear hfz56_6
            try clear hfz56_7
            try clear hfz59_0
            try clear hfz59_1
            try clear hfz59_2
            try clear hfz59_3
            try clear hfz59_4
            try clear hfz59_5
            try clear hfz59_6
            try clear hfz59_7
            try clear hfz75_0
            try clear hfz75_1
            try clear hfz75_2
            try clear hfz75_3
            try clear hfz75_4
            try clear hfz75_5
            try clear hfz75_6
            try clear hfz75_7
            try clear hfz7_0
            try clear hfz7_1
            try clear hfz7_2
            try clear hfz7_3
            try clear hfz7_4
            try clear hfz7_5
            try clear hfz7_6
            try clear hfz7_7
            try clear hfz83_0
            try clear hfz83_1
            try clear hfz83_2
            try clear hfz83_3
            try clear hfz83_4
            try clear hfz83_5
            try clear hfz83_6
            try clear hfz83_7
            try clear hfz86_0
            try clear hfz86_1
            try clear hfz86_2
            try clear hfz86_3
            try clear hfz86_4
            try clear hfz86_5
            try clear hfz86_6
            try clear hfz86_7
            try clear hfz91_0
            try clear hfz91_1
            try clear hfz91_2
            try clear hfz91_3
            try clear hfz91_4
            try clear hfz91_5
            try clear hfz91_6
            try clear hfz91_7
            try clear hfz94_0
            try clear hfz94_1
            try clear hfz94_2
            try clear hfz94_3
            try clear hfz94_4
            try clear hfz94_5
            try clear hfz94_6
            try clear hfz94_7
            try clear p2
            obtain ⟨kq, x97_102, rfl, HA, HJ102, HO_965003, HO_965006, HO_978003, HO_978006, HO_992003, HO_992006, HO_1040003, HO_1040006, BK937, BK964, BK977, BK991, BK1039, HB⟩ := hcut
            have hl992003_102 := (Kd.R_reads' HO_992003.out).1
            rw [hl992003_102] at HO_992003
            (try simp only [hl992003_102])
            (try simp only [hl992003_102] at BK937)
            (try simp only [hl992003_102] at BK964)
            (try simp only [hl992003_102] at BK977)
            (try simp only [hl992003_102] at BK991)
            (try simp only [hl992003_102] at BK1039)
            (try simp only [hl992003_102] at HO_965003)
            (try simp only [hl992003_102] at HO_965006)
            (try simp only [hl992003_102] at HO_978003)
            (try simp only [hl992003_102] at HO_978006)
            (try simp only [hl992003_102] at HO_992006)
            (try simp only [hl992003_102] at HO_1040003)
            (try simp only [hl992003_102] at HO_1040006)
            have hl992006_102 := (Kd.R_reads' HO_992006.out).1
            rw [hl992006_102] at HO_992006
            (try simp only [hl992006_102])
            (try simp only [hl992006_102] at BK937)
            (try simp only [hl992006_102] at BK964)
            (try simp only [hl992006_102] at BK977)
            (try simp only [hl992006_102] at BK991)
            (try simp only [hl992006_102] at BK1039)
            (try simp only [hl992006_102] at HO_965003)
            (try simp only [hl992006_102] at HO_965006)
            (try simp only [hl992006_102] at HO_978003)
            (try simp only [hl992006_102] at HO_978006)
            (try simp only [hl992006_102] at HO_992003)
            (try simp only [hl992006_102] at HO_1040003)
            (try simp only [hl992006_102] at HO_1040006)
            cases kq with
            | zero => exact absurd HA.out (by simp [laws_FnExactWalkIn.j2])
            | succ kj102 =>
             have H := HA.out
             clear HA
             simp only [laws_FnExactWalkIn.j2] at H
             by_cases c148 : x97_102 = true
             ·subst c148
              have H1 : (some false) = some true := by first | (rw [if_pos rfl] at H; exact H) | rfl
              clear H
              have H := H1
              clear H1
              exact absurd (Option.some.inj H) Bool.false_ne_true
             ·replace c148 := Bool.eq_false_iff.mpr c148
              subst c148
              have H1 : ((laws_heldGarden.f kj102 t978 t979 t980 t1011 t984 t985 t1012 t989 1).bind fun t1041 => (if t1041 < 0 then (some false) else (if t1041 = t1010 then (some true) else (some false)))) = some true := by rw [if_neg (show ¬ (false = true) by decide)] at H; exact H
              clear H
              have H := H1
              clear H1
              replace H := Option.bind_eq_some_iff.mp H
              obtain ⟨t1041, A1490, H⟩ := H
              replace H : (if t1041 < 0 then (some false) else (if t1041 = t1010 then (some true) else (some false))) = some true := H
              have A149 := aK A1490
              clear A1490
              by_cases c150 : t1041 < 0
              ·rw [if_pos c150] at H
               have c150b0 : decide (t1041 < 0) = true := decide_eq_true c150
               clear c150
               exact absurd (Option.some.inj H) Bool.false_ne_true
              ·rw [if_neg c150] at H
               have c150b0 : decide (t1041 < 0) = false := decide_eq_false c150
               clear c150
               by_cases c151 : t1041 = t1010
               ·rw [if_pos c151] at H
                have c151b0 : (t1041 == t1010) = true := beq_iff_eq.mpr c151
                have c151b1 : (t1041 != t1010) = false := bne_eq_false_iff_eq.mpr c151
                clear c151
                have hnb152 := NB991_937.out
                have hnc152 := NB937_991.out
                have hnb153 := NB991_964.out
                have hnc153 := NB964_991.out
                have hnb154 := NB991_977.out
                have hnc154 := NB977_991.out
                have hnb155 := NB991_1039.out
                have hnc155 := NB1039_991.out
                obtain ⟨hcz156_0, hcz156_1, hcz156_2, hcz156_3, hcz156_4, hcz156_5, hcz156_6, hcz156_7, hfz156_0, hfz156_1, hfz156_2, hfz156_3, hfz156_4, hfz156_5, hfz156_6, hfz156_7⟩ := cl8 BK991.out
                go_wp2_with (first | ((with_reducible refine gate_callee (f := 21) rfl ?_); refine goesL_ (some 100) rfl rfl Tryz.func21 (by kernel_rfl) rfl #[.agg #[.int .i64 t978, .int .i64 t979, .int .i64 t980, .slice Ao41 t1011.length co41, .int .i64 t984, .int .i64 t985, .slice Ao42 t1012.length co42, .int .i64 t989], .int .i64 1] rfl zD ?_; (with_reducible refine (laws_heldGarden.calls kj102 t978 t979 t980 _ _ t1011 t984 t985 _ _ t1012 t989 1 t1041 _ ?side1 ?side2 ?side3 ?side4 A149.out).mono ?_); (case side1 => exact zC (Kd.R_reads' HO_992003.out).2.2); (case side2 => exact (Kd.R_reads' HO_992003.out).2.1); (case side3 => exact zC (Kd.R_reads' HO_992006.out).2.2); (case side4 => exact (Kd.R_reads' HO_992006.out).2.1); rintro e w157 ⟨rfl, hb⟩; refine ⟨_, rfl, ?_⟩; replace HO_965003 := aK (Kd.R_below (zA HO_965003) hb); replace HO_965006 := aK (Kd.R_below (zA HO_965006) hb); replace HO_978003 := aK (Kd.R_below (zA HO_978003) hb); replace HO_978006 := aK (Kd.R_below (zA HO_978006) hb); replace HO_992003 := aK (Kd.R_below (zA HO_992003) hb); replace HO_992006 := aK (Kd.R_below (zA HO_992006) hb); replace HO_1040003 := aK (Kd.R_below (zA HO_1040003) hb); replace HO_1040006 := aK (Kd.R_below (zA HO_1040006) hb); replace BK937 := zB BK937 hb; replace BK964 := zB BK964 hb; replace BK977 := zB BK977 hb; replace BK991 := zB BK991 hb; replace BK1039 := zB BK1039 hb; replace HB := aK (bSp (zH5 HB GE937 GE964 GE977 GE991 GE1039) hb); (try clear hb); (try clear hb2); (try clear hk); (try clear hi)))
                go_ret
                exact ⟨by first | rfl | (simp [errW_none, errW_some] <;> rfl) | (simp [*, errW_none, errW_some] <;> rfl), by repeat (first | (with_reducible first | exact HB.out | apply bAl | apply bDN | apply bD1 | refine bSt ?_ GE937.out | refine bSt ?_ GE964.out | refine bSt ?_ GE977.out | refine bSt ?_ GE991.out | refine bSt ?_ GE1039.out) | exact HB.out)⟩
               ·rw [if_neg c151] at H
                have c151b0 : (t1041 == t1010) = false := beq_eq_false_iff_ne.mpr c151
                have c151b1 : (t1041 != t1010) = true := bne_iff_ne.mpr c151
                exact absurd (Option.some.inj H) Bool.false_ne_true
          ·rw [if_neg c100] at H
           have c100b0 : (t1013 == t1010) = false := beq_eq_false_iff_ne.mpr c100
           have c100b1 : (t1013 != t1010) = true := bne_iff_ne.mpr c100
           exact absurd (Option.some.inj H) Bool.false_ne_true
     ·replace c64 := Bool.eq_false_iff.mpr c64
      subst c64
      have H1 : (some false) = some true := by rw [if_neg (show ¬ (false = true) by decide)] at H; exact H
      clear H
      have H := H1
      clear H1
      exact absurd (Option.some.inj H) Bool.false_ne_true
end Go.Proofs.YtkindoepnganmaaGreat.F
end

section
namespace Go.Proofs.YtkindoepnganmaaGreat.F
open Go.RowKit Go.Proofs.YtkindoepnganmaaGreatW.PrintWords Go.Proofs.YtkindoepnganmaaGreatW.PrintLast Go.Proofs.YtkindoepnganmaaGreatW.PrintMore
set_option linter.unusedVariables false
set_option linter.unusedSimpArgs false
theorem rd_set {D : List Int} {i x v : Int} (hi : 0 ≤ i) (hx : 0 ≤ x) (hl : i < D.length) : rd (D.set i.toNat v) x = if x = i then v else rd D x := by
  unfold rd
  rw [List.getD_eq_getElem?_getD, List.getElem?_set]
  by_cases h : x = i
  · subst h
    rw [if_pos rfl, if_pos (by omega), if_pos rfl]; rfl
  · rw [if_neg (by omega), if_neg h, List.getD_eq_getElem?_getD]
theorem rd_lt {D : List Int} {x : Int} (hx : 0 ≤ x) (hl : x < D.length) : ∃ h : x.toNat < D.length, rd D x = D[x.toNat] := by
  have h : x.toNat < D.length := by omega
  exact ⟨h, by unfold rd; rw [List.getD_eq_getElem?_getD, List.getElem?_eq_getElem h]; rfl⟩
theorem rd_memI {D : List Int} {x : Int} (hx : 0 ≤ x) (hl : x < D.length) : rd D x ∈ D := by
  obtain ⟨h, e⟩ := rd_lt hx hl
  rw [e]; exact List.getElem_mem h
theorem mem_rd {D : List Int} {v : Int} (h : v ∈ D) : ∃ j : Nat, j < D.length ∧ rd D (j : Int) = v := by
  obtain ⟨j, hj, rfl⟩ := List.getElem_of_mem h
  exact ⟨j, hj, by rw [rd_nat, List.getD_eq_getElem?_getD, List.getElem?_eq_getElem hj]; rfl⟩
theorem rd_app_left {D E : List Int} {j : Nat} (h : j < D.length) : rd (D ++ E) (j : Int) = rd D (j : Int) := by
  simp only [rd_nat, List.getD_eq_getElem?_getD]
  rw [List.getElem?_append_left h]
theorem rd_app_last {D : List Int} {v : Int} : rd (D ++ [v]) (D.length : Int) = v := by
  simp only [rd_nat, List.getD_eq_getElem?_getD]
  rw [List.getElem?_append_right (Nat.le_refl _)]
  simp
def bfsD (nx : Int → Int → Int) (c : Int) : List Int → List Int × List Int → List Int × List Int
  | [], s => s
  | d :: ds, s => if 0 ≤ nx c d ∧ rd s.1 (nx c d) < 0 then bfsD nx c ds (s.1.set (nx c d).toNat (rd s.1 c + 1), s.2 ++ [nx c d]) else bfsD nx c ds s
def bfs (nx : Int → Int → Int) : Nat → Nat → List Int × List Int → List Int
  | 0, _, s => s.1
  | f + 1, i, s => if i < s.2.length then bfs nx f (i + 1) (bfsD nx (rd s.2 i) [0, 1, 2, 3] s) else s.1
def dists (nx : Int → Int → Int) (N : Nat) (a : Int) : List Int := bfs nx (N + 1) 0 ((List.replicate N (-1)).set a.toNat 0, [a])
inductive Walk (nx : Int → Int → Int) (a : Int) : Nat → Int → Prop
  | nil : Walk nx a 0 a
  | snoc {n : Nat} {b d : Int} : Walk nx a n b → 0 ≤ nx b d → Walk nx a (n + 1) (nx b d)
structure Steps (nx : Int → Int → Int) (N : Nat) : Prop where
  rng : ∀ c d, 0 ≤ nx c d → 0 ≤ c ∧ c < N ∧ nx c d < N ∧ 0 ≤ d ∧ d ≤ 3
structure Bfs (nx : Int → Int → Int) (N : Nat) (a : Int) (D Q : List Int) : Prop where
  len : D.length = N
  cnt : D.countP (· < 0) + Q.length = N
  inq : ∀ x ∈ Q, 0 ≤ x ∧ x < N ∧ 0 ≤ rd D x ∧ Walk nx a (rd D x).toNat x
  out : ∀ x : Int, 0 ≤ x → x < N → x ∉ Q → rd D x = -1
  src : rd D a = 0 ∧ a ∈ Q
  mono : ∀ j k : Nat, j ≤ k → k < Q.length → rd D (rd Q j) ≤ rd D (rd Q k)
structure BfsAt (nx : Int → Int → Int) (N : Nat) (a : Int) (i : Nat) (D Q : List Int) : Prop extends Bfs nx N a D Q where
  near : i < Q.length → ∀ x ∈ Q, rd D x ≤ rd D (rd Q i) + 1
  done : ∀ j, j < i → j < Q.length → ∀ d, 0 ≤ nx (rd Q j) d → nx (rd Q j) d ∈ Q ∧ rd D (nx (rd Q j) d) ≤ rd D (rd Q j) + 1
theorem countP_lt_set {D : List Int} {i v : Int} (hi : 0 ≤ i) (hl : i < D.length) (hneg : rd D i < 0) (hv : 0 ≤ v) : (D.set i.toNat v).countP (· < 0) + 1 = D.countP (· < 0) := by
  obtain ⟨h, e⟩ := rd_lt hi hl
  rw [e] at hneg
  have hpos : 0 < D.countP (· < 0) := List.countP_pos_iff.2 ⟨D[i.toNat], List.getElem_mem h, by simpa using hneg⟩
  rw [List.countP_set h]
  simp [hneg, show ¬ v < 0 by omega]
  omega
theorem bfs_push {nx : Int → Int → Int} {N : Nat} {a : Int} {i : Nat} {D Q : List Int} (S : Steps nx N) (B : BfsAt nx N a i D Q) (hi : i < Q.length) {d : Int} (h0 : 0 ≤ nx (rd Q i) d) (hneg : rd D (nx (rd Q i) d) < 0) :
    BfsAt nx N a i (D.set (nx (rd Q i) d).toNat (rd D (rd Q i) + 1)) (Q ++ [nx (rd Q i) d]) := by
  have hci : rd Q i ∈ Q := rd_memI (by omega) (by omega)
  generalize hc : rd Q i = c at *
  generalize hn : nx c d = n at *
  have hr := S.rng c d (by omega)
  rw [hn] at hr
  obtain ⟨c0, c1, cd, cw⟩ := B.inq c hci
  have hnl : n < D.length := by rw [B.len]; omega
  have hnQ : n ∉ Q := fun h => by have := (B.inq n h).2.2.1; omega
  have same : ∀ x ∈ Q, rd (D.set n.toNat (rd D c + 1)) x = rd D x := fun x hx => by
    have := (B.inq x hx).1
    rw [rd_set h0 this hnl, if_neg (by rintro rfl; exact hnQ hx)]
  have newv : rd (D.set n.toNat (rd D c + 1)) n = rd D c + 1 := by rw [rd_set h0 h0 hnl, if_pos rfl]
  have rq : ∀ j : Nat, j < Q.length → rd (Q ++ [n]) (j : Int) = rd Q (j : Int) := fun j hj => rd_app_left hj
  have wn : Walk nx a (rd D c + 1).toNat n := by
    have := Walk.snoc (d := d) cw (by omega)
    rw [hn] at this
    rwa [show (rd D c).toNat + 1 = (rd D c + 1).toNat by omega] at this
  refine ⟨⟨by rw [List.length_set, B.len], ?_, ?_, ?_, ?_, ?_⟩, ?_, ?_⟩
  · have := countP_lt_set (v := rd D c + 1) h0 hnl hneg (by omega)
    have := B.cnt
    rw [List.length_append, List.length_singleton]
    omega
  · intro x hx
    rcases List.mem_append.1 hx with hx | hx
    · rw [same x hx]; exact B.inq x hx
    · rw [List.mem_singleton.1 hx, newv]
      exact ⟨h0, hr.2.2.1, by omega, wn⟩
  · intro x x0 x1 hx
    rw [List.mem_append, not_or] at hx
    rw [rd_set h0 x0 hnl, if_neg (by rintro rfl; exact hx.2 (by simp))]
    exact B.out x x0 x1 hx.1
  · exact ⟨by rw [same a B.src.2]; exact B.src.1, List.mem_append_left _ B.src.2⟩
  · intro j k hjk hk
    rw [List.length_append, List.length_singleton] at hk
    by_cases hk' : k < Q.length
    · rw [rq j (by omega), rq k hk', same _ (rd_memI (by omega) (by omega)), same _ (rd_memI (by omega) (by omega))]
      exact B.mono j k hjk hk'
    · have ek : k = Q.length := by omega
      subst ek
      rw [rd_app_last, newv]
      by_cases hj' : j < Q.length
      · rw [rq j hj', same _ (rd_memI (by omega) (by omega))]
        have := B.near hi _ (rd_memI (D := Q) (x := (j : Int)) (by omega) (by omega))
        rw [hc] at this
        exact this
      · have ej : j = Q.length := by omega
        subst ej
        rw [rd_app_last, newv]
        exact Int.le_refl _
  · intro _ x hx
    rw [rq i hi, hc]
    rcases List.mem_append.1 hx with hx | hx
    · rw [same x hx, same c hci]
      have := B.near hi x hx
      rwa [hc] at this
    · rw [List.mem_singleton.1 hx, newv, same c hci]
      exact Int.le_refl _
  · intro j hj hjl e he
    rw [rq j (by omega)] at he ⊢
    obtain ⟨m1, m2⟩ := B.done j hj (by omega) e he
    exact ⟨List.mem_append_left _ m1, by rw [same _ m1, same _ (rd_memI (by omega) (by omega))]; exact m2⟩
theorem bfs_dirs {nx : Int → Int → Int} {N : Nat} {a : Int} {i : Nat} (S : Steps nx N) : ∀ (ds : List Int) (D Q : List Int), BfsAt nx N a i D Q → i < Q.length → ∀ D' Q', bfsD nx (rd Q i) ds (D, Q) = (D', Q') →
    BfsAt nx N a i D' Q' ∧ i < Q'.length ∧ rd Q' i = rd Q i ∧ (∀ x ∈ Q, x ∈ Q') ∧ (∀ d ∈ ds, 0 ≤ nx (rd Q i) d → nx (rd Q i) d ∈ Q' ∧ rd D' (nx (rd Q i) d) ≤ rd D' (rd Q i) + 1)
  | [], D, Q, B, hi, D', Q', e => by
    simp only [bfsD, Prod.mk.injEq] at e
    obtain ⟨rfl, rfl⟩ := e
    exact ⟨B, hi, rfl, fun _ h => h, fun d hd => by simp at hd⟩
  | d :: ds, D, Q, B, hi, D', Q', e => by
    simp only [bfsD] at e
    by_cases h : 0 ≤ nx (rd Q i) d ∧ rd D (nx (rd Q i) d) < 0
    · rw [if_pos h] at e
      have B' := bfs_push S B hi h.1 h.2
      have hq : rd (Q ++ [nx (rd Q i) d]) (i : Int) = rd Q i := rd_app_left hi
      have hi' : i < (Q ++ [nx (rd Q i) d]).length := by rw [List.length_append]; omega
      rw [← hq] at e
      obtain ⟨r1, r2, r3, r4, r5⟩ := bfs_dirs S ds _ _ B' hi' D' Q' (by rw [hq] at e ⊢; exact e)
      rw [hq] at r3 r5
      refine ⟨r1, r2, r3, fun x hx => r4 x (List.mem_append_left _ hx), fun e' he h0 => ?_⟩
      rcases List.mem_cons.1 he with rfl | he
      · have hm := r4 (nx (rd Q i) e') (by simp)
        have := r1.near r2 _ hm
        rw [r3] at this
        exact ⟨hm, this⟩
      · exact r5 e' he h0
    · rw [if_neg h] at e
      obtain ⟨r1, r2, r3, r4, r5⟩ := bfs_dirs S ds D Q B hi D' Q' e
      refine ⟨r1, r2, r3, r4, fun e' he h0 => ?_⟩
      rcases List.mem_cons.1 he with rfl | he
      · have hr := S.rng _ _ h0
        have hge : ¬ rd D (nx (rd Q i) e') < 0 := fun hh => h ⟨h0, hh⟩
        have hm : nx (rd Q i) e' ∈ Q := by
          by_cases hx : nx (rd Q i) e' ∈ Q
          · exact hx
          · have := B.out _ h0 hr.2.2.1 hx
            omega
        have := r1.near r2 _ (r4 _ hm)
        rw [r3] at this
        exact ⟨r4 _ hm, this⟩
      · exact r5 e' he h0
theorem bfs_run {nx : Int → Int → Int} {N : Nat} {a : Int} (S : Steps nx N) : ∀ (f i : Nat) (D Q : List Int), BfsAt nx N a i D Q → N < f + i → ∃ Q', BfsAt nx N a Q'.length (bfs nx f i (D, Q)) Q' ∨ (∃ j, Q'.length ≤ j ∧ BfsAt nx N a j (bfs nx f i (D, Q)) Q')
  | 0, i, D, Q, B, hf => ⟨Q, .inr ⟨i, by have := B.cnt; omega, B⟩⟩
  | f + 1, i, D, Q, B, hf => by
    simp only [bfs]
    by_cases hi : i < Q.length
    · rw [if_pos hi]
      generalize hs : bfsD nx (rd Q i) [0, 1, 2, 3] (D, Q) = s
      obtain ⟨D', Q'⟩ := s
      obtain ⟨r1, r2, r3, r4, r5⟩ := bfs_dirs S _ D Q B hi D' Q' hs
      refine bfs_run S f (i + 1) D' Q' ⟨r1.toBfs, fun h x hx => ?_, fun j hj hjl d hd => ?_⟩ (by omega)
      · have h1 := r1.near r2 x hx
        have h2 := r1.mono i (i + 1) (by omega) h
        omega
      · by_cases hj' : j = i
        · subst hj'
          rw [r3] at hd ⊢
          have hr := S.rng _ _ hd
          exact r5 d (by have : d = 0 ∨ d = 1 ∨ d = 2 ∨ d = 3 := by omega
                         rcases this with rfl | rfl | rfl | rfl <;> simp) hd
        · exact r1.done j (by omega) hjl d hd
    · rw [if_neg hi]
      exact ⟨Q, .inr ⟨i, by omega, B⟩⟩
theorem dists_spec {nx : Int → Int → Int} {N : Nat} {a : Int} (S : Steps nx N) (h0 : 0 ≤ a) (h1 : a < N) : (dists nx N a).length = N ∧ rd (dists nx N a) a = 0 ∧
    ∀ x : Int, 0 ≤ x → x < N → (rd (dists nx N a) x = -1 ∧ ∀ n, ¬ Walk nx a n x) ∨ (0 ≤ rd (dists nx N a) x ∧ Walk nx a (rd (dists nx N a) x).toNat x ∧ ∀ n, Walk nx a n x → rd (dists nx N a) x ≤ n) := by
  have hrep : ∀ x : Int, 0 ≤ x → x < N → rd (List.replicate N (-1)) x = -1 := fun x x0 x1 => by
    obtain ⟨h, e⟩ := rd_lt (D := List.replicate N (-1 : Int)) x0 (by simpa using x1)
    rw [e, List.getElem_replicate]
  have hset : ∀ x : Int, 0 ≤ x → x < N → rd ((List.replicate N (-1)).set a.toNat 0) x = if x = a then 0 else -1 := fun x x0 x1 => by
    rw [rd_set h0 x0 (by simpa using h1)]
    split
    · rfl
    · exact hrep x x0 x1
  have B0 : BfsAt nx N a 0 ((List.replicate N (-1)).set a.toNat 0) [a] := by
    refine ⟨⟨by simp, ?_, ?_, ?_, ?_, ?_⟩, ?_, ?_⟩
    · have := countP_lt_set (D := List.replicate N (-1 : Int)) (i := a) (v := 0) h0 (by simpa using h1) (by rw [hrep a h0 h1]; decide) (by decide)
      rw [List.countP_replicate] at this
      simpa using this
    · intro x hx
      rw [List.mem_singleton.1 hx, hset a h0 h1, if_pos rfl]
      exact ⟨h0, h1, by decide, Walk.nil⟩
    · intro x x0 x1 hx
      rw [hset x x0 x1, if_neg (by simpa using hx)]
    · exact ⟨by rw [hset a h0 h1, if_pos rfl], by simp⟩
    · intro j k hjk hk
      have : j = 0 := by simp at hk; omega
      have : k = 0 := by simp at hk; omega
      subst_vars
      exact Int.le_refl _
    · intro _ x hx
      rw [List.mem_singleton.1 hx]
      simp [rd]
      omega
    · intro j hj; omega
  have fin : ∃ j Q', Q'.length ≤ j ∧ BfsAt nx N a j (dists nx N a) Q' := by
    obtain ⟨Q', h | ⟨j, hj, h⟩⟩ := bfs_run S (N + 1) 0 _ _ B0 (by omega)
    · exact ⟨_, Q', Nat.le_refl _, h⟩
    · exact ⟨j, Q', hj, h⟩
  obtain ⟨j, Q', hj, B⟩ := fin
  have close : ∀ n x, Walk nx a n x → x ∈ Q' ∧ rd (dists nx N a) x ≤ n := by
    intro n x h
    induction h with
    | nil => exact ⟨B.src.2, by rw [B.src.1]; simp⟩
    | @snoc n b d hw hd ih =>
      obtain ⟨m1, m2⟩ := ih
      obtain ⟨i, hi, rfl⟩ := mem_rd m1
      obtain ⟨q1, q2⟩ := B.done i (by omega) hi d hd
      exact ⟨q1, by omega⟩
  refine ⟨B.len, B.src.1, fun x x0 x1 => ?_⟩
  by_cases hx : x ∈ Q'
  · right
    obtain ⟨_, _, q1, q2⟩ := B.inq x hx
    exact ⟨q1, q2, fun n hn => (close n x hn).2⟩
  · left
    exact ⟨B.out x x0 x1 hx, fun n hn => hx (close n x hn).1⟩
end Go.Proofs.YtkindoepnganmaaGreat.F
end
