/- Packed by a program of the session (wip/tools/pack.py): what the claim's theorem reaches, of the texts that wip/ and the kit's printer lay. -/
import Derived.Test.YtkindoepnganmaaGreatPkFnExactNextDay7
import Derived.Test.YtkindoepnganmaaGreatPkFnExactNextDay8
import Derived.Laws.StructEq
section
namespace Go.Proofs.YtkindoepnganmaaGreat.F
open Go.RowKit Go.Proofs.YtkindoepnganmaaGreatW.PrintWords Go.Proofs.YtkindoepnganmaaGreatW.PrintLast Go.Proofs.YtkindoepnganmaaGreatW.PrintMore
set_option linter.unusedVariables false
set_option linter.unusedSimpArgs false
attribute [local go_sem] max2_int min2_int max_two min_two
set_option maxHeartbeats 8000000 in
set_option maxRecDepth 100000 in
theorem laws_FnExactNextDay.calls (k : Nat) (a0_0 : Int) (a0_1 : Int) (a0_2 : Int) (A0_3 : Option Addr) (c0_3 : Nat) (l0_3 : List Int) (a0_4 : Int) (a0_5 : Int) (A0_6 : Option Addr) (c0_6 : Nat) (l0_6 : List Int) (a0_7 : Int) (a1 : Int) (w : World) (hr0_3 : Kd.C (Kd.int .i64) w A0_3 l0_3.length l0_3) (hc0_3 : l0_3.length ≤ c0_3) (hr0_6 : Kd.C (Kd.int .i64) w A0_6 l0_6.length l0_6) (hc0_6 : l0_6.length ≤ c0_6) (h : laws_FnExactNextDay.f k a0_0 a0_1 a0_2 l0_3 a0_4 a0_5 l0_6 a0_7 a1 = some true) :
  Calls Tryz.prog 6 #[.agg #[.int .i64 a0_0, .int .i64 a0_1, .int .i64 a0_2, .slice A0_3 l0_3.length c0_3, .int .i64 a0_4, .int .i64 a0_5, .slice A0_6 l0_6.length c0_6, .int .i64 a0_7], .int .i64 a1] w fun e w' => e = .returned (.bool true) ∧ Below w.heap.size w w' := by
 have hu30 := Tryz.underlying30
 have hu38 := Tryz.underlying38
 have HR0_3 := aK hr0_3
 have HC0_3 := aK hc0_3
 clear hr0_3 hc0_3
 have HR0_6 := aK hr0_6
 have HC0_6 := aK hc0_6
 clear hr0_6 hc0_6
 have HB := aK (Below.refl w.heap.size w)
 have H : ((laws_szGarden.f a0_0 a0_1 a0_2 l0_3 a0_4 a0_5 l0_6 a0_7 1048576).bind fun t1185 => (if t1185 < 0 then (some true) else ((laws_toGarden.f k a0_0 a0_1 a0_2 l0_3 a0_4 a0_5 l0_6 a0_7).bind fun bt1186 => ((spec_NextDay.f k bt1186.1 bt1186.2.1 bt1186.2.2.1 bt1186.2.2.2.1 bt1186.2.2.2.2.1 bt1186.2.2.2.2.2.1 bt1186.2.2.2.2.2.2.1 bt1186.2.2.2.2.2.2.2 a1).bind fun bt1198 => ((laws_toGarden.f k a0_0 a0_1 a0_2 l0_3 a0_4 a0_5 l0_6 a0_7).bind fun bt1212 => ((impl_NextDay.f k bt1212.1 bt1212.2.1 bt1212.2.2.1 bt1212.2.2.2.1 bt1212.2.2.2.2.1 bt1212.2.2.2.2.2.1 bt1212.2.2.2.2.2.2.1 bt1212.2.2.2.2.2.2.2 a1).bind fun bt1225 => ((laws_eqGarden.f k bt1225.1 bt1225.2.1 bt1225.2.2.1 bt1225.2.2.2.1 bt1225.2.2.2.2.1 bt1225.2.2.2.2.2.1 bt1225.2.2.2.2.2.2.1 bt1225.2.2.2.2.2.2.2.1 bt1198.1 bt1198.2.1 bt1198.2.2.1 bt1198.2.2.2.1 bt1198.2.2.2.2.1 bt1198.2.2.2.2.2.1 bt1198.2.2.2.2.2.2.1 bt1198.2.2.2.2.2.2.2.1).bind fun t1239 => (if t1239 = true then (laws_FnExactNextDay.j0 k a1 bt1198.2.2.2.2.2.2.2.2 bt1225.2.2.2.2.2.2.2.2 (bt1225.2.2.2.2.2.2.2.2 != bt1198.2.2.2.2.2.2.2.2) a0_0 a0_1 a0_2 l0_3 a0_4 a0_5 l0_6 a0_7 bt1198.1 bt1198.2.1 bt1198.2.2.1 bt1198.2.2.2.1 bt1198.2.2.2.2.1 bt1198.2.2.2.2.2.1 bt1198.2.2.2.2.2.2.1 bt1198.2.2.2.2.2.2.2.1 bt1212.1 bt1212.2.1 bt1212.2.2.1 bt1212.2.2.2.1 bt1212.2.2.2.2.1 bt1212.2.2.2.2.2.1 bt1212.2.2.2.2.2.2.1 bt1212.2.2.2.2.2.2.2 bt1225.1 bt1225.2.1 bt1225.2.2.1 bt1225.2.2.2.1 bt1225.2.2.2.2.1 bt1225.2.2.2.2.2.1 bt1225.2.2.2.2.2.2.1 bt1225.2.2.2.2.2.2.2.1) else (laws_FnExactNextDay.j0 k a1 bt1198.2.2.2.2.2.2.2.2 bt1225.2.2.2.2.2.2.2.2 true a0_0 a0_1 a0_2 l0_3 a0_4 a0_5 l0_6 a0_7 bt1198.1 bt1198.2.1 bt1198.2.2.1 bt1198.2.2.2.1 bt1198.2.2.2.2.1 bt1198.2.2.2.2.2.1 bt1198.2.2.2.2.2.2.1 bt1198.2.2.2.2.2.2.2.1 bt1212.1 bt1212.2.1 bt1212.2.2.1 bt1212.2.2.2.1 bt1212.2.2.2.2.1 bt1212.2.2.2.2.2.1 bt1212.2.2.2.2.2.2.1 bt1212.2.2.2.2.2.2.2 bt1225.1 bt1225.2.1 bt1225.2.2.1 bt1225.2.2.2.1 bt1225.2.2.2.2.1 bt1225.2.2.2.2.2.1 bt1225.2.2.2.2.2.2.1 bt1225.2.2.2.2.2.2.2.1))))))))) = some true := h
 clear h
 replace H := Option.bind_eq_some_iff.mp H
 obtain ⟨t1185, A30, H⟩ := H
 replace H : (if t1185 < 0 then (some true) else ((laws_toGarden.f k a0_0 a0_1 a0_2 l0_3 a0_4 a0_5 l0_6 a0_7).bind fun bt1186 => ((spec_NextDay.f k bt1186.1 bt1186.2.1 bt1186.2.2.1 bt1186.2.2.2.1 bt1186.2.2.2.2.1 bt1186.2.2.2.2.2.1 bt1186.2.2.2.2.2.2.1 bt1186.2.2.2.2.2.2.2 a1).bind fun bt1198 => ((laws_toGarden.f k a0_0 a0_1 a0_2 l0_3 a0_4 a0_5 l0_6 a0_7).bind fun bt1212 => ((impl_NextDay.f k bt1212.1 bt1212.2.1 bt1212.2.2.1 bt1212.2.2.2.1 bt1212.2.2.2.2.1 bt1212.2.2.2.2.2.1 bt1212.2.2.2.2.2.2.1 bt1212.2.2.2.2.2.2.2 a1).bind fun bt1225 => ((laws_eqGarden.f k bt1225.1 bt1225.2.1 bt1225.2.2.1 bt1225.2.2.2.1 bt1225.2.2.2.2.1 bt1225.2.2.2.2.2.1 bt1225.2.2.2.2.2.2.1 bt1225.2.2.2.2.2.2.2.1 bt1198.1 bt1198.2.1 bt1198.2.2.1 bt1198.2.2.2.1 bt1198.2.2.2.2.1 bt1198.2.2.2.2.2.1 bt1198.2.2.2.2.2.2.1 bt1198.2.2.2.2.2.2.2.1).bind fun t1239 => (if t1239 = true then (laws_FnExactNextDay.j0 k a1 bt1198.2.2.2.2.2.2.2.2 bt1225.2.2.2.2.2.2.2.2 (bt1225.2.2.2.2.2.2.2.2 != bt1198.2.2.2.2.2.2.2.2) a0_0 a0_1 a0_2 l0_3 a0_4 a0_5 l0_6 a0_7 bt1198.1 bt1198.2.1 bt1198.2.2.1 bt1198.2.2.2.1 bt1198.2.2.2.2.1 bt1198.2.2.2.2.2.1 bt1198.2.2.2.2.2.2.1 bt1198.2.2.2.2.2.2.2.1 bt1212.1 bt1212.2.1 bt1212.2.2.1 bt1212.2.2.2.1 bt1212.2.2.2.2.1 bt1212.2.2.2.2.2.1 bt1212.2.2.2.2.2.2.1 bt1212.2.2.2.2.2.2.2 bt1225.1 bt1225.2.1 bt1225.2.2.1 bt1225.2.2.2.1 bt1225.2.2.2.2.1 bt1225.2.2.2.2.2.1 bt1225.2.2.2.2.2.2.1 bt1225.2.2.2.2.2.2.2.1) else (laws_FnExactNextDay.j0 k a1 bt1198.2.2.2.2.2.2.2.2 bt1225.2.2.2.2.2.2.2.2 true a0_0 a0_1 a0_2 l0_3 a0_4 a0_5 l0_6 a0_7 bt1198.1 bt1198.2.1 bt1198.2.2.1 bt1198.2.2.2.1 bt1198.2.2.2.2.1 bt1198.2.2.2.2.2.1 bt1198.2.2.2.2.2.2.1 bt1198.2.2.2.2.2.2.2.1 bt1212.1 bt1212.2.1 bt1212.2.2.1 bt1212.2.2.2.1 bt1212.2.2.2.2.1 bt1212.2.2.2.2.2.1 bt1212.2.2.2.2.2.2.1 bt1212.2.2.2.2.2.2.2 bt1225.1 bt1225.2.1 bt1225.2.2.1 bt1225.2.2.2.1 bt1225.2.2.2.2.1 bt1225.2.2.2.2.2.1 bt1225.2.2.2.2.2.2.1 bt1225.2.2.2.2.2.2.2.1)))))))) = some true := H
 have A3 := aK A30
 clear A30
 by_cases c4 : t1185 < 0
 ·rw [if_pos c4] at H
  have c4b0 : decide (t1185 < 0) = true := decide_eq_true c4
  clear c4
  go_enter Tryz.func6, Tryz.ntmps6
  go_wp2_with (first | ((with_reducible refine gate_dst (N := 2) rfl ?_); refine box_event ?hg (N := 2) ?hd (cs := #[.int .i64 a0_0, .int .i64 a0_1, .int .i64 a0_2, .slice A0_3 l0_3.length c0_3, .int .i64 a0_4, .int .i64 a0_5, .slice A0_6 l0_6.length c0_6, .int .i64 a0_7]) (t := 30) ?hr ?_; (case hd => rfl); (case hg => rfl); (case hr => first | (go_simp; done) | (go_simp; rfl)); intro gb1184 hg w5 hbox hb; have BK1184 := aK (hbox); have GW1184 := aK ((by rw [hg]; exact (bSz (zH0 HB)) : w.heap.size ≤ gb1184)); replace HB := aK (bSp (zH0 HB) hb); have GE1184 := GW1184; clear hb hbox hg; obtain ⟨hcz6_0, hcz6_1, hcz6_2, hcz6_3, hcz6_4, hcz6_5, hcz6_6, hcz6_7, hfz6_0, hfz6_1, hfz6_2, hfz6_3, hfz6_4, hfz6_5, hfz6_6, hfz6_7⟩ := cl8 BK1184.out) | ((with_reducible refine gate_callee (f := 15) rfl ?_); refine goesL_ (some 18) rfl rfl Tryz.func15 (by kernel_rfl) rfl #[.agg #[.int .i64 a0_0, .int .i64 a0_1, .int .i64 a0_2, .slice A0_3 l0_3.length c0_3, .int .i64 a0_4, .int .i64 a0_5, .slice A0_6 l0_6.length c0_6, .int .i64 a0_7], .int .i64 1048576] rfl zD ?_; (with_reducible refine (laws_szGarden.calls a0_0 a0_1 a0_2 _ _ l0_3 a0_4 a0_5 _ _ l0_6 a0_7 1048576 t1185 _ ?side1 ?side2 ?side3 ?side4 A3.out).mono ?_); (case side1 => exact zC (Kd.C_below HR0_3.out HB.out)); (case side2 => exact HC0_3.out); (case side3 => exact zC (Kd.C_below HR0_6.out HB.out)); (case side4 => exact HC0_6.out); rintro e w7 ⟨rfl, hb⟩; refine ⟨_, rfl, ?_⟩; replace BK1184 := zB BK1184 hb; replace HB := aK (bSp (zH1 HB GE1184) hb); (try clear hb); (try clear hb2); (try clear hk); (try clear hi)))
  go_ret
  exact ⟨by first | rfl | (simp [errW_none, errW_some] <;> rfl) | (simp [*, errW_none, errW_some] <;> rfl), by repeat (first | (with_reducible first | exact HB.out | apply bAl | apply bDN | apply bD1 | refine bSt ?_ GE1184.out) | exact HB.out)⟩
 ·rw [if_neg c4] at H
  have c4b0 : decide (t1185 < 0) = false := decide_eq_false c4
  clear c4
  replace H := Option.bind_eq_some_iff.mp H
  obtain ⟨⟨t1186, t1187, t1188, t1189, t1192, t1193, t1194, t1197⟩, A80, H⟩ := H
  replace H : ((spec_NextDay.f k t1186 t1187 t1188 t1189 t1192 t1193 t1194 t1197 a1).bind fun bt1198 => ((laws_toGarden.f k a0_0 a0_1 a0_2 l0_3 a0_4 a0_5 l0_6 a0_7).bind fun bt1212 => ((impl_NextDay.f k bt1212.1 bt1212.2.1 bt1212.2.2.1 bt1212.2.2.2.1 bt1212.2.2.2.2.1 bt1212.2.2.2.2.2.1 bt1212.2.2.2.2.2.2.1 bt1212.2.2.2.2.2.2.2 a1).bind fun bt1225 => ((laws_eqGarden.f k bt1225.1 bt1225.2.1 bt1225.2.2.1 bt1225.2.2.2.1 bt1225.2.2.2.2.1 bt1225.2.2.2.2.2.1 bt1225.2.2.2.2.2.2.1 bt1225.2.2.2.2.2.2.2.1 bt1198.1 bt1198.2.1 bt1198.2.2.1 bt1198.2.2.2.1 bt1198.2.2.2.2.1 bt1198.2.2.2.2.2.1 bt1198.2.2.2.2.2.2.1 bt1198.2.2.2.2.2.2.2.1).bind fun t1239 => (if t1239 = true then (laws_FnExactNextDay.j0 k a1 bt1198.2.2.2.2.2.2.2.2 bt1225.2.2.2.2.2.2.2.2 (bt1225.2.2.2.2.2.2.2.2 != bt1198.2.2.2.2.2.2.2.2) a0_0 a0_1 a0_2 l0_3 a0_4 a0_5 l0_6 a0_7 bt1198.1 bt1198.2.1 bt1198.2.2.1 bt1198.2.2.2.1 bt1198.2.2.2.2.1 bt1198.2.2.2.2.2.1 bt1198.2.2.2.2.2.2.1 bt1198.2.2.2.2.2.2.2.1 bt1212.1 bt1212.2.1 bt1212.2.2.1 bt1212.2.2.2.1 bt1212.2.2.2.2.1 bt1212.2.2.2.2.2.1 bt1212.2.2.2.2.2.2.1 bt1212.2.2.2.2.2.2.2 bt1225.1 bt1225.2.1 bt1225.2.2.1 bt1225.2.2.2.1 bt1225.2.2.2.2.1 bt1225.2.2.2.2.2.1 bt1225.2.2.2.2.2.2.1 bt1225.2.2.2.2.2.2.2.1) else (laws_FnExactNextDay.j0 k a1 bt1198.2.2.2.2.2.2.2.2 bt1225.2.2.2.2.2.2.2.2 true a0_0 a0_1 a0_2 l0_3 a0_4 a0_5 l0_6 a0_7 bt1198.1 bt1198.2.1 bt1198.2.2.1 bt1198.2.2.2.1 bt1198.2.2.2.2.1 bt1198.2.2.2.2.2.1 bt1198.2.2.2.2.2.2.1 bt1198.2.2.2.2.2.2.2.1 bt1212.1 bt1212.2.1 bt1212.2.2.1 bt1212.2.2.2.1 bt1212.2.2.2.2.1 bt1212.2.2.2.2.2.1 bt1212.2.2.2.2.2.2.1 bt1212.2.2.2.2.2.2.2 bt1225.1 bt1225.2.1 bt1225.2.2.1 bt1225.2.2.2.1 bt1225.2.2.2.2.1 bt1225.2.2.2.2.2.1 bt1225.2.2.2.2.2.2.1 bt1225.2.2.2.2.2.2.2.1)))))) = some true := H
  have A8 := aK A80
  clear A80
  replace H := Option.bind_eq_some_iff.mp H
  obtain ⟨⟨t1198, t1199, t1200, t1201, t1204, t1205, t1206, t1209, t1210⟩, A90, H⟩ := H
  replace H : ((laws_toGarden.f k a0_0 a0_1 a0_2 l0_3 a0_4 a0_5 l0_6 a0_7).bind fun bt1212 => ((impl_NextDay.f k bt1212.1 bt1212.2.1 bt1212.2.2.1 bt1212.2.2.2.1 bt1212.2.2.2.2.1 bt1212.2.2.2.2.2.1 bt1212.2.2.2.2.2.2.1 bt1212.2.2.2.2.2.2.2 a1).bind fun bt1225 => ((laws_eqGarden.f k bt1225.1 bt1225.2.1 bt1225.2.2.1 bt1225.2.2.2.1 bt1225.2.2.2.2.1 bt1225.2.2.2.2.2.1 bt1225.2.2.2.2.2.2.1 bt1225.2.2.2.2.2.2.2.1 t1198 t1199 t1200 t1201 t1204 t1205 t1206 t1209).bind fun t1239 => (if t1239 = true then (laws_FnExactNextDay.j0 k a1 t1210 bt1225.2.2.2.2.2.2.2.2 (bt1225.2.2.2.2.2.2.2.2 != t1210) a0_0 a0_1 a0_2 l0_3 a0_4 a0_5 l0_6 a0_7 t1198 t1199 t1200 t1201 t1204 t1205 t1206 t1209 bt1212.1 bt1212.2.1 bt1212.2.2.1 bt1212.2.2.2.1 bt1212.2.2.2.2.1 bt1212.2.2.2.2.2.1 bt1212.2.2.2.2.2.2.1 bt1212.2.2.2.2.2.2.2 bt1225.1 bt1225.2.1 bt1225.2.2.1 bt1225.2.2.2.1 bt1225.2.2.2.2.1 bt1225.2.2.2.2.2.1 bt1225.2.2.2.2.2.2.1 bt1225.2.2.2.2.2.2.2.1) else (laws_FnExactNextDay.j0 k a1 t1210 bt1225.2.2.2.2.2.2.2.2 true a0_0 a0_1 a0_2 l0_3 a0_4 a0_5 l0_6 a0_7 t1198 t1199 t1200 t1201 t1204 t1205 t1206 t1209 bt1212.1 bt1212.2.1 bt1212.2.2.1 bt1212.2.2.2.1 bt1212.2.2.2.2.1 bt1212.2.2.2.2.2.1 bt1212.2.2.2.2.2.2.1 bt1212.2.2.2.2.2.2.2 bt1225.1 bt1225.2.1 bt1225.2.2.1 bt1225.2.2.2.1 bt1225.2.2.2.2.1 bt1225.2.2.2.2.2.1 bt1225.2.2.2.2.2.2.1 bt1225.2.2.2.2.2.2.2.1))))) = some true := H
  have A9 := aK A90
  clear A90
  replace H := Option.bind_eq_some_iff.mp H
  obtain ⟨⟨t1212, t1213, t1214, t1215, t1218, t1219, t1220, t1223⟩, A100, H⟩ := H
  replace H : ((impl_NextDay.f k t1212 t1213 t1214 t1215 t1218 t1219 t1220 t1223 a1).bind fun bt1225 => ((laws_eqGarden.f k bt1225.1 bt1225.2.1 bt1225.2.2.1 bt1225.2.2.2.1 bt1225.2.2.2.2.1 bt1225.2.2.2.2.2.1 bt1225.2.2.2.2.2.2.1 bt1225.2.2.2.2.2.2.2.1 t1198 t1199 t1200 t1201 t1204 t1205 t1206 t1209).bind fun t1239 => (if t1239 = true then (laws_FnExactNextDay.j0 k a1 t1210 bt1225.2.2.2.2.2.2.2.2 (bt1225.2.2.2.2.2.2.2.2 != t1210) a0_0 a0_1 a0_2 l0_3 a0_4 a0_5 l0_6 a0_7 t1198 t1199 t1200 t1201 t1204 t1205 t1206 t1209 t1212 t1213 t1214 t1215 t1218 t1219 t1220 t1223 bt1225.1 bt1225.2.1 bt1225.2.2.1 bt1225.2.2.2.1 bt1225.2.2.2.2.1 bt1225.2.2.2.2.2.1 bt1225.2.2.2.2.2.2.1 bt1225.2.2.2.2.2.2.2.1) else (laws_FnExactNextDay.j0 k a1 t1210 bt1225.2.2.2.2.2.2.2.2 true a0_0 a0_1 a0_2 l0_3 a0_4 a0_5 l0_6 a0_7 t1198 t1199 t1200 t1201 t1204 t1205 t1206 t1209 t1212 t1213 t1214 t1215 t1218 t1219 t1220 t1223 bt1225.1 bt1225.2.1 bt1225.2.2.1 bt1225.2.2.2.1 bt1225.2.2.2.2.1 bt1225.2.2.2.2.2.1 bt1225.2.2.2.2.2.2.1 bt1225.2.2.2.2.2.2.2.1)))) = some true := H
  have A10 := aK A100
  clear A100
  replace H := Option.bind_eq_some_iff.mp H
  obtain ⟨⟨t1225, t1226, t1227, t1228, t1231, t1232, t1233, t1236, t1237⟩, A110, H⟩ := H
  replace H : ((laws_eqGarden.f k t1225 t1226 t1227 t1228 t1231 t1232 t1233 t1236 t1198 t1199 t1200 t1201 t1204 t1205 t1206 t1209).bind fun t1239 => (if t1239 = true then (laws_FnExactNextDay.j0 k a1 t1210 t1237 (t1237 != t1210) a0_0 a0_1 a0_2 l0_3 a0_4 a0_5 l0_6 a0_7 t1198 t1199 t1200 t1201 t1204 t1205 t1206 t1209 t1212 t1213 t1214 t1215 t1218 t1219 t1220 t1223 t1225 t1226 t1227 t1228 t1231 t1232 t1233 t1236) else (laws_FnExactNextDay.j0 k a1 t1210 t1237 true a0_0 a0_1 a0_2 l0_3 a0_4 a0_5 l0_6 a0_7 t1198 t1199 t1200 t1201 t1204 t1205 t1206 t1209 t1212 t1213 t1214 t1215 t1218 t1219 t1220 t1223 t1225 t1226 t1227 t1228 t1231 t1232 t1233 t1236))) = some true := H
  have A11 := aK A110
  clear A110
  have HC12 := aK H
  clear H
  go_enter Tryz.func6, Tryz.ntmps6
  go_upto_region 8 with (first | ((with_reducible refine gate_dst (N := 2) rfl ?_); refine box_event ?hg (N := 2) ?hd (cs := #[.int .i64 a0_0, .int .i64 a0_1, .int .i64 a0_2, .slice A0_3 l0_3.length c0_3, .int .i64 a0_4, .int .i64 a0_5, .slice A0_6 l0_6.length c0_6, .int .i64 a0_7]) (t := 30) ?hr ?_; (case hd => rfl); (case hg => rfl); (case hr => first | (go_simp; done) | (go_simp; rfl)); intro gb1184 hg w13 hbox hb; have BK1184 := aK (hbox); have GW1184 := aK ((by rw [hg]; exact (bSz (zH0 HB)) : w.heap.size ≤ gb1184)); replace HB := aK (bSp (zH0 HB) hb); have GE1184 := GW1184; clear hb hbox hg; obtain ⟨hcz14_0, hcz14_1, hcz14_2, hcz14_3, hcz14_4, hcz14_5, hcz14_6, hcz14_7, hfz14_0, hfz14_1, hfz14_2, hfz14_3, hfz14_4, hfz14_5, hfz14_6, hfz14_7⟩ := cl8 BK1184.out) | ((with_reducible refine gate_callee (f := 15) rfl ?_); refine goesL_ (some 18) rfl rfl Tryz.func15 (by kernel_rfl) rfl #[.agg #[.int .i64 a0_0, .int .i64 a0_1, .int .i64 a0_2, .slice A0_3 l0_3.length c0_3, .int .i64 a0_4, .int .i64 a0_5, .slice A0_6 l0_6.length c0_6, .int .i64 a0_7], .int .i64 1048576] rfl zD ?_; (with_reducible refine (laws_szGarden.calls a0_0 a0_1 a0_2 _ _ l0_3 a0_4 a0_5 _ _ l0_6 a0_7 1048576 t1185 _ ?side1 ?side2 ?side3 ?side4 A3.out).mono ?_); (case side1 => exact zC (Kd.C_below HR0_3.out HB.out)); (case side2 => exact HC0_3.out); (case side3 => exact zC (Kd.C_below HR0_6.out HB.out)); (case side4 => exact HC0_6.out); rintro e w15 ⟨rfl, hb⟩; refine ⟨_, rfl, ?_⟩; replace BK1184 := zB BK1184 hb; replace HB := aK (bSp (zH1 HB GE1184) hb); (try clear hb); (try clear hb2); (try clear hk); (try clear hi); obtain ⟨hcz16_0, hcz16_1, hcz16_2, hcz16_3, hcz16_4, hcz16_5, hcz16_6, hcz16_7, hfz16_0, hfz16_1, hfz16_2, hfz16_3, hfz16_4, hfz16_5, hfz16_6, hfz16_7⟩ := cl8 BK1184.out) | ((with_reducible refine gate_callee (f := 17) rfl ?_); refine goesL_ (some 23) rfl rfl Tryz.func17 (by kernel_rfl) rfl #[.agg #[.int .i64 a0_0, .int .i64 a0_1, .int .i64 a0_2, .slice A0_3 l0_3.length c0_3, .int .i64 a0_4, .int .i64 a0_5, .slice A0_6 l0_6.length c0_6, .int .i64 a0_7]] rfl zD ?_; (with_reducible refine (laws_toGarden.calls k a0_0 a0_1 a0_2 _ _ l0_3 a0_4 a0_5 _ _ l0_6 a0_7 t1186 t1187 t1188 t1189 t1192 t1193 t1194 t1197 _ ?side1 ?side2 ?side3 ?side4 A8.out).mono ?_); (case side1 => exact zC (Kd.C_below HR0_3.out HB.out)); (case side2 => exact HC0_3.out); (case side3 => exact zC (Kd.C_below HR0_6.out HB.out)); (case side4 => exact HC0_6.out); rintro e w17 ⟨v1190, v1195, rfl, ho0, ho1, hb⟩; refine ⟨_, rfl, ?_⟩; have HO1191 := aK (Kd.R_lower ho0 (bSz (zH1 HB GE1184))); have HO1196 := aK (Kd.R_lower ho1 (bSz (zH1 HB GE1184))); replace BK1184 := zB BK1184 hb; replace HB := aK (bSp (zH1 HB GE1184) hb); (try clear hb); (try clear hb2); (try clear hk); (try clear hi); (try clear ho0); (try clear ho1); obtain ⟨Ao18, co18, eo18⟩ := Kd.R_slice HO1191.out; subst eo18; obtain ⟨Ao19, co19, eo19⟩ := Kd.R_slice HO1196.out; subst eo19) | ((with_reducible refine gate_callee (f := 26) rfl ?_); refine goesL_ (some 25) rfl rfl Tryz.func26 (by kernel_rfl) rfl #[.agg #[.int .i64 t1186, .int .i64 t1187, .int .i64 t1188, .slice Ao18 t1189.length co18, .int .i64 t1192, .int .i64 t1193, .slice Ao19 t1194.length co19, .int .i64 t1197], .int .i64 a1] rfl zD ?_; (with_reducible refine (spec_NextDay.calls k t1186 t1187 t1188 _ _ t1189 t1192 t1193 _ _ t1194 t1197 a1 t1198 t1199 t1200 t1201 t1204 t1205 t1206 t1209 t1210 _ ?side1 ?side2 ?side3 ?side4 A9.out).mono ?_); (case side1 => exact zC (Kd.R_reads' HO1191.out).2.2); (case side2 => exact (Kd.R_reads' HO1191.out).2.1); (case side3 => exact zC (Kd.R_reads' HO1196.out).2.2); (case side4 => exact (Kd.R_reads' HO1196.out).2.1); rintro e w20 ⟨v1202, v1207, rfl, ho0, ho1, hb⟩; refine ⟨_, rfl, ?_⟩; have HO1203 := aK (Kd.R_lower (Kd.R_new' (Kd.R_new' ho0 (Kd.R_lt (zA HO1191))) (Kd.R_lt (zA HO1196))) (bSz (zH1 HB GE1184))); have HO1208 := aK (Kd.R_lower (Kd.R_new' (Kd.R_new' ho1 (Kd.R_lt (zA HO1191))) (Kd.R_lt (zA HO1196))) (bSz (zH1 HB GE1184))); replace HO1191 := aK (Kd.R_mono (Kd.R_told (Kd.R_told (Kd.R_old (zA HO1191) hb) (Kd.R_base ho0)) (Kd.R_base ho1)) (fun _ h_ => h_.1)); replace HO1196 := aK (Kd.R_mono (Kd.R_told (Kd.R_told (Kd.R_old (zA HO1196) hb) (Kd.R_base ho0)) (Kd.R_base ho1)) (fun _ h_ => h_.1)); replace BK1184 := zB BK1184 hb; replace HB := aK (bSp (zH1 HB GE1184) hb); (try clear hb); (try clear hb2); (try clear hk); (try clear hi); (try clear ho0); (try clear ho1)) | ((with_reducible refine gate_dst (N := 6) rfl ?_); refine box_event ?hg (N := 6) ?hd (cs := #[.int .i64 0, .int .i64 0, .int .i64 0, .slice none 0 0, .int .i64 0, .int .i64 0, .slice none 0 0, .int .i64 0]) (t := 38) ?hr ?_; (case hd => rfl); (case hg => rfl); (case hr => first | (go_simp; done) | (go_simp; rfl)); intro gb1211 hg w21 hbox hb; replace HO1191 := aK (Kd.R_below (zA HO1191) hb); replace HO1196 := aK (Kd.R_below (zA HO1196) hb); replace HO1203 := aK (Kd.R_below (zA HO1203) hb); replace HO1208 := aK (Kd.R_below (zA HO1208) hb); have BK1211 := aK (hbox); have GW1211 := aK ((by rw [hg]; exact (bSz (zH1 HB GE1184)) : w.heap.size ≤ gb1211)); replace HB := aK (bSp (zH1 HB GE1184) hb); have GE1211 := GW1211; have NB1184_1211 := nbl BK1184 hg (by intro z_; (with_reducible repeat (first | refine blk_drewN ?_ _ | refine kD ?_ | refine kA ?_ _)); exact z_); replace BK1184 := zB BK1184 hb; have NB1211_1184 := nbs NB1184_1211; clear hb hbox hg; have hnb22 := NB1211_1184.out; have hnc22 := NB1184_1211.out; obtain ⟨hcz23_0, hcz23_1, hcz23_2, hcz23_3, hcz23_4, hcz23_5, hcz23_6, hcz23_7, hfz23_0, hfz23_1, hfz23_2, hfz23_3, hfz23_4, hfz23_5, hfz23_6, hfz23_7⟩ := cl8 BK1211.out; obtain ⟨Ao24, co24, eo24⟩ := Kd.R_slice HO1203.out; subst eo24; obtain ⟨Ao25, co25, eo25⟩ := Kd.R_slice HO1208.out; subst eo25; obtain ⟨hcz26_0, hcz26_1, hcz26_2, hcz26_3, hcz26_4, hcz26_5, hcz26_6, hcz26_7, hfz26_0, hfz26_1, hfz26_2, hfz26_3, hfz26_4, hfz26_5, hfz26_6, hfz26_7⟩ := cl8 BK1184.out) | ((with_reducible refine gate_callee (f := 17) rfl ?_); refine goesL_ (some 29) rfl rfl Tryz.func17 (by kernel_rfl) rfl #[.agg #[.int .i64 a0_0, .int .i64 a0_1, .int .i64 a0_2, .slice A0_3 l0_3.length c0_3, .int .i64 a0_4, .int .i64 a0_5, .slice A0_6 l0_6.length c0_6, .int .i64 a0_7]] rfl zD ?_; (with_reducible refine (laws_toGarden.calls k a0_0 a0_1 a0_2 _ _ l0_3 a0_4 a0_5 _ _ l0_6 a0_7 t1212 t1213 t1214 t1215 t1218 t1219 t1220 t1223 _ ?side1 ?side2 ?side3 ?side4 A10.out).mono ?_); (case side1 => exact Kd.C_below HR0_3.out (zH2 HB GE1184 GE1211)); (case side2 => exact HC0_3.out); (case side3 => exact Kd.C_below HR0_6.out (zH2 HB GE1184 GE1211)); (case side4 => exact HC0_6.out); rintro e w27 ⟨v1216, v1221, rfl, ho0, ho1, hb⟩; refine ⟨_, rfl, ?_⟩; have HO1217 := aK (Kd.R_lower (Kd.R_new' (Kd.R_new' (Kd.R_new' (Kd.R_new' ho0 (Kd.R_lt (zF8 HO1191 BK1211))) (Kd.R_lt (zF8 HO1196 BK1211))) (Kd.R_lt (zF8 HO1203 BK1211))) (Kd.R_lt (zF8 HO1208 BK1211))) (bSz (zH2 HB GE1184 GE1211))); have HO1222 := aK (Kd.R_lower (Kd.R_new' (Kd.R_new' (Kd.R_new' (Kd.R_new' ho1 (Kd.R_lt (zF8 HO1191 BK1211))) (Kd.R_lt (zF8 HO1196 BK1211))) (Kd.R_lt (zF8 HO1203 BK1211))) (Kd.R_lt (zF8 HO1208 BK1211))) (bSz (zH2 HB GE1184 GE1211))); replace HO1191 := aK (Kd.R_mono (Kd.R_told (Kd.R_told (Kd.R_old (zF8 HO1191 BK1211) hb) (Kd.R_base ho0)) (Kd.R_base ho1)) (fun _ h_ => h_.1)); replace HO1196 := aK (Kd.R_mono (Kd.R_told (Kd.R_told (Kd.R_old (zF8 HO1196 BK1211) hb) (Kd.R_base ho0)) (Kd.R_base ho1)) (fun _ h_ => h_.1)); replace HO1203 := aK (Kd.R_mono (Kd.R_told (Kd.R_told (Kd.R_old (zF8 HO1203 BK1211) hb) (Kd.R_base ho0)) (Kd.R_base ho1)) (fun _ h_ => h_.1)); replace HO1208 := aK (Kd.R_mono (Kd.R_told (Kd.R_told (Kd.R_old (zF8 HO1208 BK1211) hb) (Kd.R_base ho0)) (Kd.R_base ho1)) (fun _ h_ => h_.1)); replace BK1184 := zG8 BK1184 NB1184_1211 hb; replace BK1211 := aK (blk_below (g := gb1211) (o := .cells #[.int .i64 t1198, .int .i64 t1199, .int .i64 t1200, .slice Ao24 t1201.length co24, .int .i64 t1204, .int .i64 t1205, .slice Ao25 t1206.length co25, .int .i64 t1209] 38 (0, 0)) (by (with_reducible repeat (first | refine blk_drewN ?_ _ | refine kD ?_ | refine kA ?_ _)); refine blk_put (cs := #[.int .i64 t1198, .int .i64 t1199, .int .i64 t1200, .slice Ao24 t1201.length co24, .int .i64 t1204, .int .i64 t1205, .slice Ao25 t1206.length co25, .int .i64 0]) ?_ 7 _ rfl; (with_reducible repeat (first | refine blk_drewN ?_ _ | refine kD ?_ | refine kA ?_ _)); refine blk_put (cs := #[.int .i64 t1198, .int .i64 t1199, .int .i64 t1200, .slice Ao24 t1201.length co24, .int .i64 t1204, .int .i64 t1205, .slice none 0 0, .int .i64 0]) ?_ 6 _ rfl; (with_reducible repeat (first | refine blk_drewN ?_ _ | refine kD ?_ | refine kA ?_ _)); refine blk_put (cs := #[.int .i64 t1198, .int .i64 t1199, .int .i64 t1200, .slice Ao24 t1201.length co24, .int .i64 t1204, .int .i64 0, .slice none 0 0, .int .i64 0]) ?_ 5 _ rfl; (with_reducible repeat (first | refine blk_drewN ?_ _ | refine kD ?_ | refine kA ?_ _)); refine blk_put (cs := #[.int .i64 t1198, .int .i64 t1199, .int .i64 t1200, .slice Ao24 t1201.length co24, .int .i64 0, .int .i64 0, .slice none 0 0, .int .i64 0]) ?_ 4 _ rfl; (with_reducible repeat (first | refine blk_drewN ?_ _ | refine kD ?_ | refine kA ?_ _)); refine blk_put (cs := #[.int .i64 t1198, .int .i64 t1199, .int .i64 t1200, .slice none 0 0, .int .i64 0, .int .i64 0, .slice none 0 0, .int .i64 0]) ?_ 3 _ rfl; (with_reducible repeat (first | refine blk_drewN ?_ _ | refine kD ?_ | refine kA ?_ _)); refine blk_put (cs := #[.int .i64 t1198, .int .i64 t1199, .int .i64 0, .slice none 0 0, .int .i64 0, .int .i64 0, .slice none 0 0, .int .i64 0]) ?_ 2 _ rfl; (with_reducible repeat (first | refine blk_drewN ?_ _ | refine kD ?_ | refine kA ?_ _)); refine blk_put (cs := #[.int .i64 t1198, .int .i64 0, .int .i64 0, .slice none 0 0, .int .i64 0, .int .i64 0, .slice none 0 0, .int .i64 0]) ?_ 1 _ rfl; (with_reducible repeat (first | refine blk_drewN ?_ _ | refine kD ?_ | refine kA ?_ _)); refine blk_put (cs := #[.int .i64 0, .int .i64 0, .int .i64 0, .slice none 0 0, .int .i64 0, .int .i64 0, .slice none 0 0, .int .i64 0]) ?_ 0 _ rfl; (with_reducible repeat (first | refine blk_drewN ?_ _ | refine kD ?_ | refine kA ?_ _)); exact BK1211.out) hb); replace HB := aK (bSp (zH2 HB GE1184 GE1211) hb); (try clear hb); (try clear hb2); (try clear hk); (try clear hi); (try clear ho0); (try clear ho1)) | ((with_reducible refine gate_dst (N := 8) rfl ?_); refine box_event ?hg (N := 8) ?hd (cs := #[.int .i64 0, .int .i64 0, .int .i64 0, .slice none 0 0, .int .i64 0, .int .i64 0, .slice none 0 0, .int .i64 0]) (t := 38) ?hr ?_; (case hd => rfl); (case hg => rfl); (case hr => first | (go_simp; done) | (go_simp; rfl)); intro gb1224 hg w28 hbox hb; replace HO1191 := aK (Kd.R_below (zA HO1191) hb); replace HO1196 := aK (Kd.R_below (zA HO1196) hb); replace HO1203 := aK (Kd.R_below (zA HO1203) hb); replace HO1208 := aK (Kd.R_below (zA HO1208) hb); replace HO1217 := aK (Kd.R_below (zA HO1217) hb); replace HO1222 := aK (Kd.R_below (zA HO1222) hb); have BK1224 := aK (hbox); have GW1224 := aK ((by rw [hg]; exact (bSz (zH2 HB GE1184 GE1211)) : w.heap.size ≤ gb1224)); replace HB := aK (bSp (zH2 HB GE1184 GE1211) hb); have GE1224 := GW1224; have NB1184_1224 := nbl BK1184 hg (by intro z_; (with_reducible repeat (first | refine blk_drewN ?_ _ | refine kD ?_ | refine kA ?_ _)); exact z_); replace BK1184 := zB BK1184 hb; have NB1224_1184 := nbs NB1184_1224; have NB1211_1224 := nbl BK1211 hg (by intro z_; (with_reducible repeat (first | refine blk_drewN ?_ _ | refine kD ?_ | refine kA ?_ _)); exact z_); replace BK1211 := zB BK1211 hb; have NB1224_1211 := nbs NB1211_1224; clear hb hbox hg; have hnb29 := NB1224_1184.out; have hnc29 := NB1184_1224.out; have hnb30 := NB1224_1211.out; have hnc30 := NB1211_1224.out; obtain ⟨hcz31_0, hcz31_1, hcz31_2, hcz31_3, hcz31_4, hcz31_5, hcz31_6, hcz31_7, hfz31_0, hfz31_1, hfz31_2, hfz31_3, hfz31_4, hfz31_5, hfz31_6, hfz31_7⟩ := cl8 BK1224.out; obtain ⟨Ao32, co32, eo32⟩ := Kd.R_slice HO1217.out; subst eo32; obtain ⟨Ao33, co33, eo33⟩ := Kd.R_slice HO1222.out; subst eo33) | ((with_reducible refine gate_callee (f := 27) rfl ?_); refine goesL_ (some 33) rfl rfl Tryz.func27 (by kernel_rfl) rfl #[.agg #[.int .i64 t1212, .int .i64 t1213, .int .i64 t1214, .slice Ao32 t1215.length co32, .int .i64 t1218, .int .i64 t1219, .slice Ao33 t1220.length co33, .int .i64 t1223], .int .i64 a1] rfl zD ?_; (with_reducible refine (impl_NextDay.calls k t1212 t1213 t1214 _ _ t1215 t1218 t1219 _ _ t1220 t1223 a1 t1225 t1226 t1227 t1228 t1231 t1232 t1233 t1236 t1237 _ ?side1 ?side2 ?side3 ?side4 A11.out).mono ?_); (case side1 => refine (Kd.R_reads' (e := 3) (base := w.heap.size) (ok := fun k_ => ((((some k_ ≠ (.slice Ao33 t1220.length co33 : Value).ownBlock ∧ some k_ ≠ (.slice Ao18 t1189.length co18 : Value).ownBlock) ∧ some k_ ≠ (.slice Ao19 t1194.length co19 : Value).ownBlock) ∧ some k_ ≠ (.slice Ao24 t1201.length co24 : Value).ownBlock) ∧ some k_ ≠ (.slice Ao25 t1206.length co25 : Value).ownBlock)) (n := t1215.length) (c := co32) ?_).2.2; exact (zF8 HO1217 BK1224)); (case side2 => exact (Kd.R_reads' HO1217.out).2.1); (case side3 => refine (Kd.R_reads' (e := 3) (base := w.heap.size) (ok := fun k_ => ((((some k_ ≠ (.slice Ao32 t1215.length co32 : Value).ownBlock ∧ some k_ ≠ (.slice Ao18 t1189.length co18 : Value).ownBlock) ∧ some k_ ≠ (.slice Ao19 t1194.length co19 : Value).ownBlock) ∧ some k_ ≠ (.slice Ao24 t1201.length co24 : Value).ownBlock) ∧ some k_ ≠ (.slice Ao25 t1206.length co25 : Value).ownBlock)) (n := t1220.length) (c := co33) ?_).2.2; exact (zF8 HO1222 BK1224)); (case side4 => exact (Kd.R_reads' HO1222.out).2.1); rintro e w34 ⟨v1229, v1234, rfl, ho0, ho1, hb⟩; refine ⟨_, rfl, ?_⟩; have HO1230 := aK (Kd.R_lower (Kd.R_new' (Kd.R_new' (Kd.R_new' (Kd.R_new' (Kd.R_new' (Kd.R_new' ho0 (Kd.R_lt (zF8 HO1191 BK1224))) (Kd.R_lt (zF8 HO1196 BK1224))) (Kd.R_lt (zF8 HO1203 BK1224))) (Kd.R_lt (zF8 HO1208 BK1224))) (Kd.R_lt (zF8 HO1217 BK1224))) (Kd.R_lt (zF8 HO1222 BK1224))) (bSz (zH3 HB GE1184 GE1211 GE1224))); have HO1235 := aK (Kd.R_lower (Kd.R_new' (Kd.R_new' (Kd.R_new' (Kd.R_new' (Kd.R_new' (Kd.R_new' ho1 (Kd.R_lt (zF8 HO1191 BK1224))) (Kd.R_lt (zF8 HO1196 BK1224))) (Kd.R_lt (zF8 HO1203 BK1224))) (Kd.R_lt (zF8 HO1208 BK1224))) (Kd.R_lt (zF8 HO1217 BK1224))) (Kd.R_lt (zF8 HO1222 BK1224))) (bSz (zH3 HB GE1184 GE1211 GE1224))); replace HO1191 := aK (Kd.R_mono (Kd.R_told (Kd.R_told (Kd.R_old (zF8 HO1191 BK1224) hb) (Kd.R_base ho0)) (Kd.R_base ho1)) (fun _ h_ => h_.1)); replace HO1196 := aK (Kd.R_mono (Kd.R_told (Kd.R_told (Kd.R_old (zF8 HO1196 BK1224) hb) (Kd.R_base ho0)) (Kd.R_base ho1)) (fun _ h_ => h_.1)); replace HO1203 := aK (Kd.R_mono (Kd.R_told (Kd.R_told (Kd.R_old (zF8 HO1203 BK1224) hb) (Kd.R_base ho0)) (Kd.R_base ho1)) (fun _ h_ => h_.1)); replace HO1208 := aK (Kd.R_mono (Kd.R_told (Kd.R_told (Kd.R_old (zF8 HO1208 BK1224) hb) (Kd.R_base ho0)) (Kd.R_base ho1)) (fun _ h_ => h_.1)); replace HO1217 := aK (Kd.R_mono (Kd.R_told (Kd.R_told (Kd.R_old (zF8 HO1217 BK1224) hb) (Kd.R_base ho0)) (Kd.R_base ho1)) (fun _ h_ => h_.1)); replace HO1222 := aK (Kd.R_mono (Kd.R_told (Kd.R_told (Kd.R_old (zF8 HO1222 BK1224) hb) (Kd.R_base ho0)) (Kd.R_base ho1)) (fun _ h_ => h_.1)); replace BK1184 := zG8 BK1184 NB1184_1224 hb; replace BK1211 := zG8 BK1211 NB1211_1224 hb; replace BK1224 := aK (blk_below (g := gb1224) (o := .cells #[.int .i64 t1212, .int .i64 t1213, .int .i64 t1214, .slice Ao32 t1215.length co32, .int .i64 t1218, .int .i64 t1219, .slice Ao33 t1220.length co33, .int .i64 t1223] 38 (0, 0)) (by (with_reducible repeat (first | refine blk_drewN ?_ _ | refine kD ?_ | refine kA ?_ _)); refine blk_put (cs := #[.int .i64 t1212, .int .i64 t1213, .int .i64 t1214, .slice Ao32 t1215.length co32, .int .i64 t1218, .int .i64 t1219, .slice Ao33 t1220.length co33, .int .i64 0]) ?_ 7 _ rfl; (with_reducible repeat (first | refine blk_drewN ?_ _ | refine kD ?_ | refine kA ?_ _)); refine blk_put (cs := #[.int .i64 t1212, .int .i64 t1213, .int .i64 t1214, .slice Ao32 t1215.length co32, .int .i64 t1218, .int .i64 t1219, .slice none 0 0, .int .i64 0]) ?_ 6 _ rfl; (with_reducible repeat (first | refine blk_drewN ?_ _ | refine kD ?_ | refine kA ?_ _)); refine blk_put (cs := #[.int .i64 t1212, .int .i64 t1213, .int .i64 t1214, .slice Ao32 t1215.length co32, .int .i64 t1218, .int .i64 0, .slice none 0 0, .int .i64 0]) ?_ 5 _ rfl; (with_reducible repeat (first | refine blk_drewN ?_ _ | refine kD ?_ | refine kA ?_ _)); refine blk_put (cs := #[.int .i64 t1212, .int .i64 t1213, .int .i64 t1214, .slice Ao32 t1215.length co32, .int .i64 0, .int .i64 0, .slice none 0 0, .int .i64 0]) ?_ 4 _ rfl; (with_reducible repeat (first | refine blk_drewN ?_ _ | refine kD ?_ | refine kA ?_ _)); refine blk_put (cs := #[.int .i64 t1212, .int .i64 t1213, .int .i64 t1214, .slice none 0 0, .int .i64 0, .int .i64 0, .slice none 0 0, .int .i64 0]) ?_ 3 _ rfl; (with_reducible repeat (first | refine blk_drewN ?_ _ | refine kD ?_ | refine kA ?_ _)); refine blk_put (cs := #[.int .i64 t1212, .int .i64 t1213, .int .i64 0, .slice none 0 0, .int .i64 0, .int .i64 0, .slice none 0 0, .int .i64 0]) ?_ 2 _ rfl; (with_reducible repeat (first | refine blk_drewN ?_ _ | refine kD ?_ | refine kA ?_ _)); refine blk_put (cs := #[.int .i64 t1212, .int .i64 0, .int .i64 0, .slice none 0 0, .int .i64 0, .int .i64 0, .slice none 0 0, .int .i64 0]) ?_ 1 _ rfl; (with_reducible repeat (first | refine blk_drewN ?_ _ | refine kD ?_ | refine kA ?_ _)); refine blk_put (cs := #[.int .i64 0, .int .i64 0, .int .i64 0, .slice none 0 0, .int .i64 0, .int .i64 0, .slice none 0 0, .int .i64 0]) ?_ 0 _ rfl; (with_reducible repeat (first | refine blk_drewN ?_ _ | refine kD ?_ | refine kA ?_ _)); exact BK1224.out) hb); replace HB := aK (bSp (zH3 HB GE1184 GE1211 GE1224) hb); (try clear hb); (try clear hb2); (try clear hk); (try clear hi); (try clear ho0); (try clear ho1)) | ((with_reducible refine gate_dst (N := 9) rfl ?_); refine box_event ?hg (N := 9) ?hd (cs := #[.int .i64 0, .int .i64 0, .int .i64 0, .slice none 0 0, .int .i64 0, .int .i64 0, .slice none 0 0, .int .i64 0]) (t := 38) ?hr ?_; (case hd => rfl); (case hg => rfl); (case hr => first | (go_simp; done) | (go_simp; rfl)); intro gb1238 hg w35 hbox hb; replace HO1191 := aK (Kd.R_below (zA HO1191) hb); replace HO1196 := aK (Kd.R_below (zA HO1196) hb); replace HO1203 := aK (Kd.R_below (zA HO1203) hb); replace HO1208 := aK (Kd.R_below (zA HO1208) hb); replace HO1217 := aK (Kd.R_below (zA HO1217) hb); replace HO1222 := aK (Kd.R_below (zA HO1222) hb); replace HO1230 := aK (Kd.R_below (zA HO1230) hb); replace HO1235 := aK (Kd.R_below (zA HO1235) hb); have BK1238 := aK (hbox); have GW1238 := aK ((by rw [hg]; exact (bSz (zH3 HB GE1184 GE1211 GE1224)) : w.heap.size ≤ gb1238)); replace HB := aK (bSp (zH3 HB GE1184 GE1211 GE1224) hb); have GE1238 := GW1238; have NB1184_1238 := nbl BK1184 hg (by intro z_; (with_reducible repeat (first | refine blk_drewN ?_ _ | refine kD ?_ | refine kA ?_ _)); exact z_); replace BK1184 := zB BK1184 hb; have NB1238_1184 := nbs NB1184_1238; have NB1211_1238 := nbl BK1211 hg (by intro z_; (with_reducible repeat (first | refine blk_drewN ?_ _ | refine kD ?_ | refine kA ?_ _)); exact z_); replace BK1211 := zB BK1211 hb; have NB1238_1211 := nbs NB1211_1238; have NB1224_1238 := nbl BK1224 hg (by intro z_; (with_reducible repeat (first | refine blk_drewN ?_ _ | refine kD ?_ | refine kA ?_ _)); exact z_); replace BK1224 := zB BK1224 hb; have NB1238_1224 := nbs NB1224_1238; clear hb hbox hg; have hnb36 := NB1238_1184.out; have hnc36 := NB1184_1238.out; have hnb37 := NB1238_1211.out; have hnc37 := NB1211_1238.out; have hnb38 := NB1238_1224.out; have hnc38 := NB1224_1238.out; obtain ⟨hcz39_0, hcz39_1, hcz39_2, hcz39_3, hcz39_4, hcz39_5, hcz39_6, hcz39_7, hfz39_0, hfz39_1, hfz39_2, hfz39_3, hfz39_4, hfz39_5, hfz39_6, hfz39_7⟩ := cl8 BK1238.out; obtain ⟨Ao40, co40, eo40⟩ := Kd.R_slice HO1230.out; subst eo40; obtain ⟨Ao41, co41, eo41⟩ := Kd.R_slice HO1235.out; subst eo41))
  (try simp only [Act.put, sTA, sZ, sS])
  go_cut [44] (fun v44 wc => ∃ (kq : Nat) (x44_11 : Bool), v44 = .bool x44_11 ∧ Aside0 (laws_FnExactNextDay.j0 kq a1 t1210 t1237 x44_11 a0_0 a0_1 a0_2 l0_3 a0_4 a0_5 l0_6 a0_7 t1198 t1199 t1200 t1201 t1204 t1205 t1206 t1209 t1212 t1213 t1214 t1215 t1218 t1219 t1220 t1223 t1225 t1226 t1227 t1228 t1231 t1232 t1233 t1236 = some true) ∧ Aside0 (kq ≤ k) ∧ Aside0 (Kd.R (Kd.int .i64) 3 wc w.heap.size (fun k_ => some k_ ≠ ((.slice Ao25 t1206.length co25) : Value).ownBlock ∧ some k_ ≠ ((.slice Ao32 t1215.length co32) : Value).ownBlock ∧ some k_ ≠ ((.slice Ao33 t1220.length co33) : Value).ownBlock ∧ some k_ ≠ ((.slice Ao40 t1228.length co40) : Value).ownBlock ∧ some k_ ≠ ((.slice Ao41 t1233.length co41) : Value).ownBlock) (.slice Ao24 t1201.length co24) t1201) ∧ Aside0 (Kd.R (Kd.int .i64) 3 wc w.heap.size (fun k_ => some k_ ≠ ((.slice Ao24 t1201.length co24) : Value).ownBlock ∧ some k_ ≠ ((.slice Ao32 t1215.length co32) : Value).ownBlock ∧ some k_ ≠ ((.slice Ao33 t1220.length co33) : Value).ownBlock ∧ some k_ ≠ ((.slice Ao40 t1228.length co40) : Value).ownBlock ∧ some k_ ≠ ((.slice Ao41 t1233.length co41) : Value).ownBlock) (.slice Ao25 t1206.length co25) t1206) ∧ Aside0 (Kd.R (Kd.int .i64) 3 wc w.heap.size (fun k_ => some k_ ≠ ((.slice Ao24 t1201.length co24) : Value).ownBlock ∧ some k_ ≠ ((.slice Ao25 t1206.length co25) : Value).ownBlock ∧ some k_ ≠ ((.slice Ao33 t1220.length co33) : Value).ownBlock ∧ some k_ ≠ ((.slice Ao40 t1228.length co40) : Value).ownBlock ∧ some k_ ≠ ((.slice Ao41 t1233.length co41) : Value).ownBlock) (.slice Ao32 t1215.length co32) t1215) ∧ Aside0 (Kd.R (Kd.int .i64) 3 wc w.heap.size (fun k_ => some k_ ≠ ((.slice Ao24 t1201.length co24) : Value).ownBlock ∧ some k_ ≠ ((.slice Ao25 t1206.length co25) : Value).ownBlock ∧ some k_ ≠ ((.slice Ao32 t1215.length co32) : Value).ownBlock ∧ some k_ ≠ ((.slice Ao40 t1228.length co40) : Value).ownBlock ∧ some k_ ≠ ((.slice Ao41 t1233.length co41) : Value).ownBlock) (.slice Ao33 t1220.length co33) t1220) ∧ Aside0 (Kd.R (Kd.int .i64) 3 wc w.heap.size (fun k_ => some k_ ≠ ((.slice Ao24 t1201.length co24) : Value).ownBlock ∧ some k_ ≠ ((.slice Ao25 t1206.length co25) : Value).ownBlock ∧ some k_ ≠ ((.slice Ao32 t1215.length co32) : Value).ownBlock ∧ some k_ ≠ ((.slice Ao33 t1220.length co33) : Value).ownBlock ∧ some k_ ≠ ((.slice Ao41 t1233.length co41) : Value).ownBlock) (.slice Ao40 t1228.length co40) t1228) ∧ Aside0 (Kd.R (Kd.int .i64) 3 wc w.heap.size (fun k_ => some k_ ≠ ((.slice Ao24 t1201.length co24) : Value).ownBlock ∧ some k_ ≠ ((.slice Ao25 t1206.length co25) : Value).ownBlock ∧ some k_ ≠ ((.slice Ao32 t1215.length co32) : Value).ownBlock ∧ some k_ ≠ ((.slice Ao33 t1220.length co33) : Value).ownBlock ∧ some k_ ≠ ((.slice Ao40 t1228.length co40) : Value).ownBlock) (.slice Ao41 t1233.length co41) t1233) ∧ Aside0 (wc.heap[gb1184]? = some (.cells #[.int .i64 a0_0, .int .i64 a0_1, .int .i64 a0_2, (.slice A0_3 l0_3.length c0_3), .int .i64 a0_4, .int .i64 a0_5, (.slice A0_6 l0_6.length c0_6), .int .i64 a0_7] 30 (0, 0))) ∧ Aside0 (wc.heap[gb1211]? = some (.cells #[.int .i64 t1198, .int .i64 t1199, .int .i64 t1200, (.slice Ao24 t1201.length co24), .int .i64 t1204, .int .i64 t1205, (.slice Ao25 t1206.length co25), .int .i64 t1209] 38 (0, 0))) ∧ Aside0 (wc.heap[gb1224]? = some (.cells #[.int .i64 t1212, .int .i64 t1213, .int .i64 t1214, (.slice Ao32 t1215.length co32), .int .i64 t1218, .int .i64 t1219, (.slice Ao33 t1220.length co33), .int .i64 t1223] 38 (0, 0))) ∧ Aside0 (wc.heap[gb1238]? = some (.cells #[.int .i64 t1225, .int .i64 t1226, .int .i64 t1227, (.slice Ao40 t1228.length co40), .int .i64 t1231, .int .i64 t1232, (.slice Ao41 t1233.length co41), .int .i64 t1236] 38 (0, 0))) ∧ Aside0 (Below w.heap.size w wc))
  case first =>
   have H := HC12.out
   clear HC12
   replace H := Option.bind_eq_some_iff.mp H
   obtain ⟨t1239, A420, H⟩ := H
   replace H : (if t1239 = true then (laws_FnExactNextDay.j0 k a1 t1210 t1237 (t1237 != t1210) a0_0 a0_1 a0_2 l0_3 a0_4 a0_5 l0_6 a0_7 t1198 t1199 t1200 t1201 t1204 t1205 t1206 t1209 t1212 t1213 t1214 t1215 t1218 t1219 t1220 t1223 t1225 t1226 t1227 t1228 t1231 t1232 t1233 t1236) else (laws_FnExactNextDay.j0 k a1 t1210 t1237 true a0_0 a0_1 a0_2 l0_3 a0_4 a0_5 l0_6 a0_7 t1198 t1199 t1200 t1201 t1204 t1205 t1206 t1209 t1212 t1213 t1214 t1215 t1218 t1219 t1220 t1223 t1225 t1226 t1227 t1228 t1231 t1232 t1233 t1236)) = some true := H
   have A42 := aK A420
   clear A420
   by_cases c43 : t1239 = true
   ·subst c43
    have H1 : (laws_FnExactNextDay.j0 k a1 t1210 t1237 (t1237 != t1210) a0_0 a0_1 a0_2 l0_3 a0_4 a0_5 l0_6 a0_7 t1198 t1199 t1200 t1201 t1204 t1205 t1206 t1209 t1212 t1213 t1214 t1215 t1218 t1219 t1220 t1223 t1225 t1226 t1227 t1228 t1231 t1232 t1233 t1236) = some true := by first | (rw [if_pos rfl] at H; exact H) | rfl
    clear H
    have H := H1
    clear H1
    have H' := aK H
    clear H
    have hnb44 := NB1238_1184.out
    have hnc44 := NB1184_1238.out
    have hnb45 := NB1238_1211.out
    have hnc45 := NB1211_1238.out
    have hnb46 := NB1238_1224.out
    have hnc46 := NB1224_1238.out
    obtain ⟨hcz47_0, hcz47_1, hcz47_2, hcz47_3, hcz47_4, hcz47_5, hcz47_6, hcz47_7, hfz47_0, hfz47_1, hfz47_2, hfz47_3, hfz47_4, hfz47_5, hfz47_6, hfz47_7⟩ := cl8 BK1238.out
    have hnb48 := NB1211_1184.out
    have hnc48 := NB1184_1211.out
    have hnb49 := NB1211_1224.out
    have hnc49 := NB1224_1211.out
    obtain ⟨hcz50_0, hcz50_1, hcz50_2, hcz50_3, hcz50_4, hcz50_5, hcz50_6, hcz50_7, hfz50_0, hfz50_1, hfz50_2, hfz50_3, hfz50_4, hfz50_5, hfz50_6, hfz50_7⟩ := cl8 BK1211.out
    go_wp2_with (first | ((with_reducible refine gate_callee (f := 19) rfl ?_); refine goesL_ (some 38) rfl rfl Tryz.func19 (by kernel_rfl) rfl #[.agg #[.int .i64 t1225, .int .i64 t1226, .int .i64 t1227, .slice Ao40 t1228.length co40, .int .i64 t1231, .int .i64 t1232, .slice Ao41 t1233.length co41, .int .i64 t1236], .agg #[.int .i64 t1198, .int .i64 t1199, .int .i64 t1200, .slice Ao24 t1201.length co24, .int .i64 t1204, .int .i64 t1205, .slice Ao25 t1206.length co25, .int .i64 t1209]] rfl zD ?_; (with_reducible refine (laws_eqGarden.calls k t1225 t1226 t1227 _ _ t1228 t1231 t1232 _ _ t1233 t1236 t1198 t1199 t1200 _ _ t1201 t1204 t1205 _ _ t1206 t1209 true _ ?side1 ?side2 ?side3 ?side4 ?side5 ?side6 ?side7 ?side8 A42.out).mono ?_); (case side1 => refine (Kd.R_reads' (e := 3) (base := w.heap.size) (ok := fun k_ => ((((((some k_ ≠ (.slice Ao41 t1233.length co41 : Value).ownBlock ∧ some k_ ≠ (.slice Ao18 t1189.length co18 : Value).ownBlock) ∧ some k_ ≠ (.slice Ao19 t1194.length co19 : Value).ownBlock) ∧ some k_ ≠ (.slice Ao24 t1201.length co24 : Value).ownBlock) ∧ some k_ ≠ (.slice Ao25 t1206.length co25 : Value).ownBlock) ∧ some k_ ≠ (.slice Ao32 t1215.length co32 : Value).ownBlock) ∧ some k_ ≠ (.slice Ao33 t1220.length co33 : Value).ownBlock)) (n := t1228.length) (c := co40) ?_).2.2; exact (zF8 HO1230 BK1238)); (case side2 => exact (Kd.R_reads' HO1230.out).2.1); (case side3 => refine (Kd.R_reads' (e := 3) (base := w.heap.size) (ok := fun k_ => ((((((some k_ ≠ (.slice Ao40 t1228.length co40 : Value).ownBlock ∧ some k_ ≠ (.slice Ao18 t1189.length co18 : Value).ownBlock) ∧ some k_ ≠ (.slice Ao19 t1194.length co19 : Value).ownBlock) ∧ some k_ ≠ (.slice Ao24 t1201.length co24 : Value).ownBlock) ∧ some k_ ≠ (.slice Ao25 t1206.length co25 : Value).ownBlock) ∧ some k_ ≠ (.slice Ao32 t1215.length co32 : Value).ownBlock) ∧ some k_ ≠ (.slice Ao33 t1220.length co33 : Value).ownBlock)) (n := t1233.length) (c := co41) ?_).2.2; exact (zF8 HO1235 BK1238)); (case side4 => exact (Kd.R_reads' HO1235.out).2.1); (case side5 => refine (Kd.R_reads' (e := 3) (base := w.heap.size) (ok := fun k_ => ((((((some k_ ≠ (.slice Ao25 t1206.length co25 : Value).ownBlock ∧ some k_ ≠ (.slice Ao18 t1189.length co18 : Value).ownBlock) ∧ some k_ ≠ (.slice Ao19 t1194.length co19 : Value).ownBlock) ∧ some k_ ≠ (.slice Ao32 t1215.length co32 : Value).ownBlock) ∧ some k_ ≠ (.slice Ao33 t1220.length co33 : Value).ownBlock) ∧ some k_ ≠ (.slice Ao40 t1228.length co40 : Value).ownBlock) ∧ some k_ ≠ (.slice Ao41 t1233.length co41 : Value).ownBlock)) (n := t1201.length) (c := co24) ?_).2.2; exact (zF8 HO1203 BK1238)); (case side6 => exact (Kd.R_reads' HO1203.out).2.1); (case side7 => refine (Kd.R_reads' (e := 3) (base := w.heap.size) (ok := fun k_ => ((((((some k_ ≠ (.slice Ao24 t1201.length co24 : Value).ownBlock ∧ some k_ ≠ (.slice Ao18 t1189.length co18 : Value).ownBlock) ∧ some k_ ≠ (.slice Ao19 t1194.length co19 : Value).ownBlock) ∧ some k_ ≠ (.slice Ao32 t1215.length co32 : Value).ownBlock) ∧ some k_ ≠ (.slice Ao33 t1220.length co33 : Value).ownBlock) ∧ some k_ ≠ (.slice Ao40 t1228.length co40 : Value).ownBlock) ∧ some k_ ≠ (.slice Ao41 t1233.length co41 : Value).ownBlock)) (n := t1206.length) (c := co25) ?_).2.2; exact (zF8 HO1208 BK1238)); (case side8 => exact (Kd.R_reads' HO1208.out).2.1); rintro e w51 ⟨rfl, hb⟩; refine ⟨_, rfl, ?_⟩; replace HO1191 := aK (Kd.R_below (zF8 HO1191 BK1238) hb); replace HO1196 := aK (Kd.R_below (zF8 HO1196 BK1238) hb); replace HO1203 := aK (Kd.R_below (zF8 HO1203 BK1238) hb); replace HO1208 := aK (Kd.R_below (zF8 HO1208 BK1238) hb); replace HO1217 := aK (Kd.R_below (zF8 HO1217 BK1238) hb); replace HO1222 := aK (Kd.R_below (zF8 HO1222 BK1238) hb); replace HO1230 := aK (Kd.R_below (zF8 HO1230 BK1238) hb); replace HO1235 := aK (Kd.R_below (zF8 HO1235 BK1238) hb); replace BK1184 := zG8 BK1184 NB1184_1238 hb; replace BK1211 := zG8 BK1211 NB1211_1238 hb; replace BK1224 := zG8 BK1224 NB1224_1238 hb; replace BK1238 := aK (blk_below (g := gb1238) (o := .cells #[.int .i64 t1225, .int .i64 t1226, .int .i64 t1227, .slice Ao40 t1228.length co40, .int .i64 t1231, .int .i64 t1232, .slice Ao41 t1233.length co41, .int .i64 t1236] 38 (0, 0)) (by (with_reducible repeat (first | refine blk_drewN ?_ _ | refine kD ?_ | refine kA ?_ _)); refine blk_put (cs := #[.int .i64 t1225, .int .i64 t1226, .int .i64 t1227, .slice Ao40 t1228.length co40, .int .i64 t1231, .int .i64 t1232, .slice Ao41 t1233.length co41, .int .i64 0]) ?_ 7 _ rfl; (with_reducible repeat (first | refine blk_drewN ?_ _ | refine kD ?_ | refine kA ?_ _)); refine blk_put (cs := #[.int .i64 t1225, .int .i64 t1226, .int .i64 t1227, .slice Ao40 t1228.length co40, .int .i64 t1231, .int .i64 t1232, .slice none 0 0, .int .i64 0]) ?_ 6 _ rfl; (with_reducible repeat (first | refine blk_drewN ?_ _ | refine kD ?_ | refine kA ?_ _)); refine blk_put (cs := #[.int .i64 t1225, .int .i64 t1226, .int .i64 t1227, .slice Ao40 t1228.length co40, .int .i64 t1231, .int .i64 0, .slice none 0 0, .int .i64 0]) ?_ 5 _ rfl; (with_reducible repeat (first | refine blk_drewN ?_ _ | refine kD ?_ | refine kA ?_ _)); refine blk_put (cs := #[.int .i64 t1225, .int .i64 t1226, .int .i64 t1227, .slice Ao40 t1228.length co40, .int .i64 0, .int .i64 0, .slice none 0 0, .int .i64 0]) ?_ 4 _ rfl; (with_reducible repeat (first | refine blk_drewN ?_ _ | refine kD ?_ | refine kA ?_ _)); refine blk_put (cs := #[.int .i64 t1225, .int .i64 t1226, .int .i64 t1227, .slice none 0 0, .int .i64 0, .int .i64 0, .slice none 0 0, .int .i64 0]) ?_ 3 _ rfl; (with_reducible repeat (first | refine blk_drewN ?_ _ | refine kD ?_ | refine kA ?_ _)); refine blk_put (cs := #[.int .i64 t1225, .int .i64 t1226, .int .i64 0, .slice none 0 0, .int .i64 0, .int .i64 0, .slice none 0 0, .int .i64 0]) ?_ 2 _ rfl; (with_reducible repeat (first | refine blk_drewN ?_ _ | refine kD ?_ | refine kA ?_ _)); refine blk_put (cs := #[.int .i64 t1225, .int .i64 0, .int .i64 0, .slice none 0 0, .int .i64 0, .int .i64 0, .slice none 0 0, .int .i64 0]) ?_ 1 _ rfl; (with_reducible repeat (first | refine blk_drewN ?_ _ | refine kD ?_ | refine kA ?_ _)); refine blk_put (cs := #[.int .i64 0, .int .i64 0, .int .i64 0, .slice none 0 0, .int .i64 0, .int .i64 0, .slice none 0 0, .int .i64 0]) ?_ 0 _ rfl; (with_reducible repeat (first | refine blk_drewN ?_ _ | refine kD ?_ | refine kA ?_ _)); exact BK1238.out) hb); replace HB := aK (bSp (zH4 HB GE1184 GE1211 GE1224 GE1238) hb); (try clear hb); (try clear hb2); (try clear hk); (try clear hi)))
    go_meet
    case rel => exact ⟨_, ((t1237 != t1210)), (by first | rfl | (simp; done) | (simp [*]; done)), H', ⟨by first | omega | exact Nat.le_refl _⟩, ⟨by (with_reducible repeat (first | apply Kd.R_alloc | apply Kd.R_drewN | apply Kd.R_drew)); exact Kd.R_mono HO1203.out (fun _ hk => ⟨hk.1.1.1.1.1.1, ⟨hk.1.1.1.2, ⟨hk.1.1.2, ⟨hk.1.2, hk.2⟩⟩⟩⟩)⟩, ⟨by (with_reducible repeat (first | apply Kd.R_alloc | apply Kd.R_drewN | apply Kd.R_drew)); exact Kd.R_mono HO1208.out (fun _ hk => ⟨hk.1.1.1.1.1.1, ⟨hk.1.1.1.2, ⟨hk.1.1.2, ⟨hk.1.2, hk.2⟩⟩⟩⟩)⟩, ⟨by (with_reducible repeat (first | apply Kd.R_alloc | apply Kd.R_drewN | apply Kd.R_drew)); exact Kd.R_mono HO1217.out (fun _ hk => ⟨hk.1.1.1.2, ⟨hk.1.1.2, ⟨hk.1.1.1.1.1.1, ⟨hk.1.2, hk.2⟩⟩⟩⟩)⟩, ⟨by (with_reducible repeat (first | apply Kd.R_alloc | apply Kd.R_drewN | apply Kd.R_drew)); exact Kd.R_mono HO1222.out (fun _ hk => ⟨hk.1.1.1.2, ⟨hk.1.1.2, ⟨hk.1.1.1.1.1.1, ⟨hk.1.2, hk.2⟩⟩⟩⟩)⟩, ⟨by (with_reducible repeat (first | apply Kd.R_alloc | apply Kd.R_drewN | apply Kd.R_drew)); exact Kd.R_mono HO1230.out (fun _ hk => ⟨hk.1.1.1.2, ⟨hk.1.1.2, ⟨hk.1.2, ⟨hk.2, hk.1.1.1.1.1.1⟩⟩⟩⟩)⟩, ⟨by (with_reducible repeat (first | apply Kd.R_alloc | apply Kd.R_drewN | apply Kd.R_drew)); exact Kd.R_mono HO1235.out (fun _ hk => ⟨hk.1.1.1.2, ⟨hk.1.1.2, ⟨hk.1.2, ⟨hk.2, hk.1.1.1.1.1.1⟩⟩⟩⟩)⟩, ⟨zK BK1184⟩, ⟨zK BK1211⟩, ⟨zK BK1224⟩, ⟨zK BK1238⟩, ⟨zH4 HB GE1184 GE1211 GE1224 GE1238⟩⟩
   ·replace c43 := Bool.eq_false_iff.mpr c43
    subst c43
    have H1 : (laws_FnExactNextDay.j0 k a1 t1210 t1237 true a0_0 a0_1 a0_2 l0_3 a0_4 a0_5 l0_6 a0_7 t1198 t1199 t1200 t1201 t1204 t1205 t1206 t1209 t1212 t1213 t1214 t1215 t1218 t1219 t1220 t1223 t1225 t1226 t1227 t1228 t1231 t1232 t1233 t1236) = some true := by rw [if_neg (show ¬ (false = true) by decide)] at H; exact H
    clear H
    have H := H1
    clear H1
    have H' := aK H
    clear H
    have hnb52 := NB1238_1184.out
    have hnc52 := NB1184_1238.out
    have hnb53 := NB1238_1211.out
    have hnc53 := NB1211_1238.out
    have hnb54 := NB1238_1224.out
    have hnc54 := NB1224_1238.out
    obtain ⟨hcz55_0, hcz55_1, hcz55_2, hcz55_3, hcz55_4, hcz55_5, hcz55_6, hcz55_7, hfz55_0, hfz55_1, hfz55_2, hfz55_3, hfz55_4, hfz55_5, hfz55_6, hfz55_7⟩ := cl8 BK1238.out
    have hnb56 := NB1211_1184.out
    have hnc56 := NB1184_1211.out
    have hnb57 := NB1211_1224.out
    have hnc57 := NB1224_1211.out
    obtain ⟨hcz58_0, hcz58_1, hcz58_2, hcz58_3, hcz58_4, hcz58_5, hcz58_6, hcz58_7, hfz58_0, hfz58_1, hfz58_2, hfz58_3, hfz58_4, hfz58_5, hfz58_6, hfz58_7⟩ := cl8 BK1211.out
    go_wp2_with (first | ((with_reducible refine gate_callee (f := 19) rfl ?_); refine goesL_ (some 38) rfl rfl Tryz.func19 (by kernel_rfl) rfl #[.agg #[.int .i64 t1225, .int .i64 t1226, .int .i64 t1227, .slice Ao40 t1228.length co40, .int .i64 t1231, .int .i64 t1232, .slice Ao41 t1233.length co41, .int .i64 t1236], .agg #[.int .i64 t1198, .int .i64 t1199, .int .i64 t1200, .slice Ao24 t1201.length co24, .int .i64 t1204, .int .i64 t1205, .slice Ao25 t1206.length co25, .int .i64 t1209]] rfl zD ?_; (with_reducible refine (laws_eqGarden.calls k t1225 t1226 t1227 _ _ t1228 t1231 t1232 _ _ t1233 t1236 t1198 t1199 t1200 _ _ t1201 t1204 t1205 _ _ t1206 t1209 false _ ?side1 ?side2 ?side3 ?side4 ?side5 ?side6 ?side7 ?side8 A42.out).mono ?_); (case side1 => refine (Kd.R_reads' (e := 3) (base := w.heap.size) (ok := fun k_ => ((((((some k_ ≠ (.slice Ao41 t1233.length co41 : Value).ownBlock ∧ some k_ ≠ (.slice Ao18 t1189.length co18 : Value).ownBlock) ∧ some k_ ≠ (.slice Ao19 t1194.length co19 : Value).ownBlock) ∧ some k_ ≠ (.slice Ao24 t1201.length co24 : Value).ownBlock) ∧ some k_ ≠ (.slice Ao25 t1206.length co25 : Value).ownBlock) ∧ some k_ ≠ (.slice Ao32 t1215.length co32 : Value).ownBlock) ∧ some k_ ≠ (.slice Ao33 t1220.length co33 : Value).ownBlock)) (n := t1228.length) (c := co40) ?_).2.2; exact (zF8 HO1230 BK1238)); (case side2 => exact (Kd.R_reads' HO1230.out).2.1); (case side3 => refine (Kd.R_reads' (e := 3) (base := w.heap.size) (ok := fun k_ => ((((((some k_ ≠ (.slice Ao40 t1228.length co40 : Value).ownBlock ∧ some k_ ≠ (.slice Ao18 t1189.length co18 : Value).ownBlock) ∧ some k_ ≠ (.slice Ao19 t1194.length co19 : Value).ownBlock) ∧ some k_ ≠ (.slice Ao24 t1201.length co24 : Value).ownBlock) ∧ some k_ ≠ (.slice Ao25 t1206.length co25 : Value).ownBlock) ∧ some k_ ≠ (.slice Ao32 t1215.length co32 : Value).ownBlock) ∧ some k_ ≠ (.slice Ao33 t1220.length co33 : Value).ownBlock)) (n := t1233.length) (c := co41) ?_).2.2; exact (zF8 HO1235 BK1238)); (case side4 => exact (Kd.R_reads' HO1235.out).2.1); (case side5 => refine (Kd.R_reads' (e := 3) (base := w.heap.size) (ok := fun k_ => ((((((some k_ ≠ (.slice Ao25 t1206.length co25 : Value).ownBlock ∧ some k_ ≠ (.slice Ao18 t1189.length co18 : Value).ownBlock) ∧ some k_ ≠ (.slice Ao19 t1194.length co19 : Value).ownBlock) ∧ some k_ ≠ (.slice Ao32 t1215.length co32 : Value).ownBlock) ∧ some k_ ≠ (.slice Ao33 t1220.length co33 : Value).ownBlock) ∧ some k_ ≠ (.slice Ao40 t1228.length co40 : Value).ownBlock) ∧ some k_ ≠ (.slice Ao41 t1233.length co41 : Value).ownBlock)) (n := t1201.length) (c := co24) ?_).2.2; exact (zF8 HO1203 BK1238)); (case side6 => exact (Kd.R_reads' HO1203.out).2.1); (case side7 => refine (Kd.R_reads' (e := 3) (base := w.heap.size) (ok := fun k_ => ((((((some k_ ≠ (.slice Ao24 t1201.length co24 : Value).ownBlock ∧ some k_ ≠ (.slice Ao18 t1189.length co18 : Value).ownBlock) ∧ some k_ ≠ (.slice Ao19 t1194.length co19 : Value).ownBlock) ∧ some k_ ≠ (.slice Ao32 t1215.length co32 : Value).ownBlock) ∧ some k_ ≠ (.slice Ao33 t1220.length co33 : Value).ownBlock) ∧ some k_ ≠ (.slice Ao40 t1228.length co40 : Value).ownBlock) ∧ some k_ ≠ (.slice Ao41 t1233.length co41 : Value).ownBlock)) (n := t1206.length) (c := co25) ?_).2.2; exact (zF8 HO1208 BK1238)); (case side8 => exact (Kd.R_reads' HO1208.out).2.1); rintro e w59 ⟨rfl, hb⟩; refine ⟨_, rfl, ?_⟩; replace HO1191 := aK (Kd.R_below (zF8 HO1191 BK1238) hb); replace HO1196 := aK (Kd.R_below (zF8 HO1196 BK1238) hb); replace HO1203 := aK (Kd.R_below (zF8 HO1203 BK1238) hb); replace HO1208 := aK (Kd.R_below (zF8 HO1208 BK1238) hb); replace HO1217 := aK (Kd.R_below (zF8 HO1217 BK1238) hb); replace HO1222 := aK (Kd.R_below (zF8 HO1222 BK1238) hb); replace HO1230 := aK (Kd.R_below (zF8 HO1230 BK1238) hb); replace HO1235 := aK (Kd.R_below (zF8 HO1235 BK1238) hb); replace BK1184 := zG8 BK1184 NB1184_1238 hb; replace BK1211 := zG8 BK1211 NB1211_1238 hb; replace BK1224 := zG8 BK1224 NB1224_1238 hb; replace BK1238 := aK (blk_below (g := gb1238) (o := .cells #[.int .i64 t1225, .int .i64 t1226, .int .i64 t1227, .slice Ao40 t1228.length co40, .int .i64 t1231, .int .i64 t1232, .slice Ao41 t1233.length co41, .int .i64 t1236] 38 (0, 0)) (by (with_reducible repeat (first | refine blk_drewN ?_ _ | refine kD ?_ | refine kA ?_ _)); refine blk_put (cs := #[.int .i64 t1225, .int .i64 t1226, .int .i64 t1227, .slice Ao40 t1228.length co40, .int .i64 t1231, .int .i64 t1232, .slice Ao41 t1233.length co41, .int .i64 0]) ?_ 7 _ rfl; (with_reducible repeat (first | refine blk_drewN ?_ _ | refine kD ?_ | refine kA ?_ _)); refine blk_put (cs := #[.int .i64 t1225, .int .i64 t1226, .int .i64 t1227, .slice Ao40 t1228.length co40, .int .i64 t1231, .int .i64 t1232, .slice none 0 0, .int .i64 0]) ?_ 6 _ rfl; (with_reducible repeat (first | refine blk_drewN ?_ _ | refine kD ?_ | refine kA ?_ _)); refine blk_put (cs := #[.int .i64 t1225, .int .i64 t1226, .int .i64 t1227, .slice Ao40 t1228.length co40, .int .i64 t1231, .int .i64 0, .slice none 0 0, .int .i64 0]) ?_ 5 _ rfl; (with_reducible repeat (first | refine blk_drewN ?_ _ | refine kD ?_ | refine kA ?_ _)); refine blk_put (cs := #[.int .i64 t1225, .int .i64 t1226, .int .i64 t1227, .slice Ao40 t1228.length co40, .int .i64 0, .int .i64 0, .slice none 0 0, .int .i64 0]) ?_ 4 _ rfl; (with_reducible repeat (first | refine blk_drewN ?_ _ | refine kD ?_ | refine kA ?_ _)); refine blk_put (cs := #[.int .i64 t1225, .int .i64 t1226, .int .i64 t1227, .slice none 0 0, .int .i64 0, .int .i64 0, .slice none 0 0, .int .i64 0]) ?_ 3 _ rfl; (with_reducible repeat (first | refine blk_drewN ?_ _ | refine kD ?_ | refine kA ?_ _)); refine blk_put (cs := #[.int .i64 t1225, .int .i64 t1226, .int .i64 0, .slice none 0 0, .int .i64 0, .int .i64 0, .slice none 0 0, .int .i64 0]) ?_ 2 _ rfl; (with_reducible repeat (first | refine blk_drewN ?_ _ | refine kD ?_ | refine kA ?_ _)); refine blk_put (cs := #[.int .i64 t1225, .int .i64 0, .int .i64 0, .slice none 0 0, .int .i64 0, .int .i64 0, .slice none 0 0, .int .i64 0]) ?_ 1 _ rfl; (with_reducible repeat (first | refine blk_drewN ?_ _ | refine kD ?_ | refine kA ?_ _)); refine blk_put (cs := #[.int .i64 0, .int .i64 0, .int .i64 0, .slice none 0 0, .int .i64 0, .int .i64 0, .slice none 0 0, .int .i64 0]) ?_ 0 _ rfl; (with_reducible repeat (first | refine blk_drewN ?_ _ | refine kD ?_ | refine kA ?_ _)); exact BK1238.out) hb); replace HB := aK (bSp (zH4 HB GE1184 GE1211 GE1224 GE1238) hb); (try clear hb); (try clear hb2); (try clear hk); (try clear hi)))
    go_meet
    case rel => exact ⟨_, (true), (by first | rfl | (simp; done) | (simp [*]; done)), H', ⟨by first | omega | exact Nat.le_refl _⟩, ⟨by (with_reducible repeat (first | apply Kd.R_alloc | apply Kd.R_drewN | apply Kd.R_drew)); exact Kd.R_mono HO1203.out (fun _ hk => ⟨hk.1.1.1.1.1.1, ⟨hk.1.1.1.2, ⟨hk.1.1.2, ⟨hk.1.2, hk.2⟩⟩⟩⟩)⟩, ⟨by (with_reducible repeat (first | apply Kd.R_alloc | apply Kd.R_drewN | apply Kd.R_drew)); exact Kd.R_mono HO1208.out (fun _ hk => ⟨hk.1.1.1.1.1.1, ⟨hk.1.1.1.2, ⟨hk.1.1.2, ⟨hk.1.2, hk.2⟩⟩⟩⟩)⟩, ⟨by (with_reducible repeat (first | apply Kd.R_alloc | apply Kd.R_drewN | apply Kd.R_drew)); exact Kd.R_mono HO1217.out (fun _ hk => ⟨hk.1.1.1.2, ⟨hk.1.1.2, ⟨hk.1.1.1.1.1.1, ⟨hk.1.2, hk.2⟩⟩⟩⟩)⟩, ⟨by (with_reducible repeat (first | apply Kd.R_alloc | apply Kd.R_drewN | apply Kd.R_drew)); exact Kd.R_mono HO1222.out (fun _ hk => ⟨hk.1.1.1.2, ⟨hk.1.1.2, ⟨hk.1.1.1.1.1.1, ⟨hk.1.2, hk.2⟩⟩⟩⟩)⟩, ⟨by (with_reducible repeat (first | apply Kd.R_alloc | apply Kd.R_drewN | apply Kd.R_drew)); exact Kd.R_mono HO1230.out (fun _ hk => ⟨hk.1.1.1.2, ⟨hk.1.1.2, ⟨hk.1.2, ⟨hk.2, hk.1.1.1.1.1.1⟩⟩⟩⟩)⟩, ⟨by (with_reducible repeat (first | apply Kd.R_alloc | apply Kd.R_drewN | apply Kd.R_drew)); exact Kd.R_mono HO1235.out (fun _ hk => ⟨hk.1.1.1.2, ⟨hk.1.1.2, ⟨hk.1.2, ⟨hk.2, hk.1.1.1.1.1.1⟩⟩⟩⟩)⟩, ⟨zK BK1184⟩, ⟨zK BK1211⟩, ⟨zK BK1224⟩, ⟨zK BK1238⟩, ⟨zH4 HB GE1184 GE1211 GE1224 GE1238⟩⟩
  case rest =>
   clear HC12
   try clear c1
   try clear c2
   try clear p2
   try clear c3
   try clear c4
   try clear c4b0
   try clear c5
   try clear c6
   try clear c15
   try clear c17
   try clear c19
   try clear c22
   try clear c26
   try clear c27
   try clear c29
   try clear c30
   try clear c36
   try clear c37
   try clear c38
   try clear c43
   try clear c44
   try clear c45
   try clear c46
   try clear c48
   try clear c49
   try clear c52
   try clear c53
   try clear c54
   try clear c56
   try clear c57
   try clear hcz14_0
   try clear hcz14_1
   try clear hcz14_2
   try clear hcz14_3
   try clear hcz14_4
   try clear hcz14_5
   try clear hcz14_6
   try clear hcz14_7
   try clear hcz16_0
   try clear hcz16_1
   try clear hcz16_2
   try clear hcz16_3
   try clear hcz16_4
   try clear hcz16_5
   try clear hcz16_6
   try clear hcz16_7
   try clear hcz23_0
   try clear hcz23_1
   try clear hcz23_2
   try clear hcz23_3
   try clear hcz23_4
   try clear hcz23_5
   try clear hcz23_6
   try clear hcz23_7
   try clear hcz26_0
   try clear hcz26_1
   try clear hcz26_2
   try clear hcz26_3
   try clear hcz26_4
   try clear hcz26_5
   try clear hcz26_6
   try clear hcz26_7
   try clear hcz31_0
   try clear hcz31_1
   try clear hcz31_2
   try clear hcz31_3
   try clear hcz31_4
   try clear hcz31_5
   try clear hcz31_6
   try clear hcz31_7
   try clear hcz39_0
   try clear hcz39_1
   try clear hcz39_2
   try clear hcz39_3
   try clear hcz39_4
   try clear hcz39_5
   try clear hcz39_6
   try clear hcz39_7
   try clear hcz47_0
   try clear hcz47_1
   try clear hcz47_2
   try clear hcz47_3
   try clear hcz47_4
   try clear hcz47_5
   try clear hcz47_6
   try clear hcz47_7
   try clear hcz50_0
   try clear hcz50_1
   try clear hcz50_2
   try clear hcz50_3
   try clear hcz50_4
   try clear hcz50_5
   try clear hcz50_6
   try clear hcz50_7
   try clear hcz55_0
   try clear hcz55_1
   try clear hcz55_2
   try clear hcz55_3
   try clear hcz55_4
   try clear hcz55_5
   try clear hcz55_6
   try clear hcz55_7
   try clear hcz58_0
   try clear hcz58_1
   try clear hcz58_2
   try clear hcz58_3
   try clear hcz58_4
   try clear hcz58_5
   try clear hcz58_6
   try clear hcz58_7
   try clear hcz6_0
   try clear hcz6_1
   try clear hcz6_2
   try clear hcz6_3
   try clear hcz6_4
   try clear hcz6_5
   try clear hcz6_6
   try clear hcz6_7
   try clear hfz14_0
   try clear hfz14_1
   try clear hfz14_2
   try clear hfz14_3
   try clear hfz14_4
   try clear hfz14_5
   try clear hfz14_6
   try clear hfz14_7
   try clear hfz16_0
   try clear hfz16_1
   try clear hfz16_2
   try clear hfz16_3
   try clear hfz16_4
   try clear hfz16_5
   try clear hfz16_6
   try clear hfz16_7
   try clear hfz23_0
   try clear hfz23_1
   try clear hfz23_2
   try clear hfz23_3
   try clear hfz23_4
   try clear hfz23_5
   try clear hfz23_6
   try clear hfz23_7
   try clear hfz26_0
   try clear hfz26_1
   try clear hfz26_2
   try clear hfz26_3
   try clear hfz26_4
   try clear hfz26_5
   try clear hfz26_6
   try clear hfz26_7
   try clear hfz31_0
   try clear hfz31_1
   try clear hfz31_2
   try clear hfz31_3
   try clear hfz31_4
   try clear hfz31_5
   try clear hfz31_6
   try clear hfz31_7
   try clear hfz39_0
   try clear hfz39_1
   try clear hfz39_2
   try clear hfz39_3
   try clear hfz39_4
   try clear hfz39_5
   try clear hfz39_6
   try clear hfz39_7
   try clear hfz47_0
   try clear hfz47_1
   try clear hfz47_2
   try clear hfz47_3
   try clear hfz47_4
   try clear hfz47_5
   try clear hfz47_6
   try clear hfz47_7
   try clear hfz50_0
   try clear hfz50_1
   try clear hfz50_2
   try clear hfz50_3
   try clear hfz50_4
   try clear hfz50_5
   try clear hfz50_6
   try clear hfz50_7
   try clear hfz55_0
   try clear hfz55_1
   try clear hfz55_2
   try clear hfz55_3
   try clear hfz55_4
   try clear hfz55_5
   try clear hfz55_6
   try clear hfz55_7
   try clear hfz58_0
   try clear hfz58_1
   try clear hfz58_2
   try clear hfz58_3
   try clear hfz58_4
   try clear hfz58_5
   try clear hfz58_6
   try clear hfz58_7
   try clear hfz6_0
   try clear hfz6_1
   try clear hfz6_2
   try clear hfz6_3
   try clear hfz6_4
   try clear hfz6_5
   try clear hfz6_6
   try clear hfz6_7
   obtain ⟨kq, x44_11, rfl, HA, HJ11, HO_1212003, HO_1212006, HO_1225003, HO_1225006, HO_1239003, HO_1239006, BK1184, BK1211, BK1224, BK1238, HB⟩ := hcut
   cases kq with
   | zero => exact absurd HA.out (by simp [laws_FnExactNextDay.j0])
   | succ kj11 =>
    have H := HA.out
    clear HA
    simp only [laws_FnExactNextDay.j0] at H
    by_cases c60 : x44_11 = true
    ·subst c60
     have H1 : (some false) = some true := by first | (rw [if_pos rfl] at H; exact H) | rfl
     clear H
     have H := H1
     clear H1
     exact absurd (Option.some.inj H) Bool.false_ne_true
    ·replace c60 := Bool.eq_false_iff.mpr c60
     subst c60
     have H1 : ((laws_toGarden.f kj11 a0_0 a0_1 a0_2 l0_3 a0_4 a0_5 l0_6 a0_7).bind fun bt1240 => ((laws_eqGarden.f kj11 t1212 t1213 t1214 t1215 t1218 t1219 t1220 t1223 bt1240.1 bt1240.2.1 bt1240.2.2.1 bt1240.2.2.2.1 bt1240.2.2.2.2.1 bt1240.2.2.2.2.2.1 bt1240.2.2.2.2.2.2.1 bt1240.2.2.2.2.2.2.2).bind fun t1252 => (if t1252 = true then ((laws_markGarden.f kj11 t1212 t1213 t1214 t1215 t1218 t1219 t1220 t1223 1).bind fun bt1253 => (if bt1253.1 < 0 then (laws_FnExactNextDay.j1 kj11 a1 t1210 true a0_0 a0_1 a0_2 l0_3 a0_4 a0_5 l0_6 a0_7 t1198 t1199 t1200 t1201 t1204 t1205 t1206 t1209 t1225 t1226 t1227 t1228 t1231 t1232 t1233 t1236) else ((laws_eqGarden.f kj11 t1225 t1226 t1227 t1228 t1231 t1232 t1233 t1236 t1198 t1199 t1200 t1201 t1204 t1205 t1206 t1209).bind fun t1256 => (if t1256 = true then (laws_FnExactNextDay.j1 kj11 a1 t1210 (t1237 != t1210) a0_0 a0_1 a0_2 l0_3 a0_4 a0_5 l0_6 a0_7 t1198 t1199 t1200 t1201 t1204 t1205 t1206 t1209 t1225 t1226 t1227 t1228 t1231 t1232 t1233 t1236) else (laws_FnExactNextDay.j1 kj11 a1 t1210 true a0_0 a0_1 a0_2 l0_3 a0_4 a0_5 l0_6 a0_7 t1198 t1199 t1200 t1201 t1204 t1205 t1206 t1209 t1225 t1226 t1227 t1228 t1231 t1232 t1233 t1236))))) else (some false)))) = some true := by rw [if_neg (show ¬ (false = true) by decide)] at H; exact H
     clear H
     have H := H1
     clear H1
     replace H := Option.bind_eq_some_iff.mp H
     obtain ⟨⟨t1240, t1241, t1242, t1243, t1246, t1247, t1248, t1251⟩, A610, H⟩ := H
     replace H : ((laws_eqGarden.f kj11 t1212 t1213 t1214 t1215 t1218 t1219 t1220 t1223 t1240 t1241 t1242 t1243 t1246 t1247 t1248 t1251).bind fun t1252 => (if t1252 = true then ((laws_markGarden.f kj11 t1212 t1213 t1214 t1215 t1218 t1219 t1220 t1223 1).bind fun bt1253 => (if bt1253.1 < 0 then (laws_FnExactNextDay.j1 kj11 a1 t1210 true a0_0 a0_1 a0_2 l0_3 a0_4 a0_5 l0_6 a0_7 t1198 t1199 t1200 t1201 t1204 t1205 t1206 t1209 t1225 t1226 t1227 t1228 t1231 t1232 t1233 t1236) else ((laws_eqGarden.f kj11 t1225 t1226 t1227 t1228 t1231 t1232 t1233 t1236 t1198 t1199 t1200 t1201 t1204 t1205 t1206 t1209).bind fun t1256 => (if t1256 = true then (laws_FnExactNextDay.j1 kj11 a1 t1210 (t1237 != t1210) a0_0 a0_1 a0_2 l0_3 a0_4 a0_5 l0_6 a0_7 t1198 t1199 t1200 t1201 t1204 t1205 t1206 t1209 t1225 t1226 t1227 t1228 t1231 t1232 t1233 t1236) else (laws_FnExactNextDay.j1 kj11 a1 t1210 true a0_0 a0_1 a0_2 l0_3 a0_4 a0_5 l0_6 a0_7 t1198 t1199 t1200 t1201 t1204 t1205 t1206 t1209 t1225 t1226 t1227 t1228 t1231 t1232 t1233 t1236))))) else (some false))) = some true := H
     have A61 := aK A610
     clear A610
     replace H := Option.bind_eq_some_iff.mp H
     obtain ⟨t1252, A620, H⟩ := H
     replace H : (if t1252 = true then ((laws_markGarden.f kj11 t1212 t1213 t1214 t1215 t1218 t1219 t1220 t1223 1).bind fun bt1253 => (if bt1253.1 < 0 then (laws_FnExactNextDay.j1 kj11 a1 t1210 true a0_0 a0_1 a0_2 l0_3 a0_4 a0_5 l0_6 a0_7 t1198 t1199 t1200 t1201 t1204 t1205 t1206 t1209 t1225 t1226 t1227 t1228 t1231 t1232 t1233 t1236) else ((laws_eqGarden.f kj11 t1225 t1226 t1227 t1228 t1231 t1232 t1233 t1236 t1198 t1199 t1200 t1201 t1204 t1205 t1206 t1209).bind fun t1256 => (if t1256 = true then (laws_FnExactNextDay.j1 kj11 a1 t1210 (t1237 != t1210) a0_0 a0_1 a0_2 l0_3 a0_4 a0_5 l0_6 a0_7 t1198 t1199 t1200 t1201 t1204 t1205 t1206 t1209 t1225 t1226 t1227 t1228 t1231 t1232 t1233 t1236) else (laws_FnExactNextDay.j1 kj11 a1 t1210 true a0_0 a0_1 a0_2 l0_3 a0_4 a0_5 l0_6 a0_7 t1198 t1199 t1200 t1201 t1204 t1205 t1206 t1209 t1225 t1226 t1227 t1228 t1231 t1232 t1233 t1236))))) else (some false)) = some true := H
     have A62 := aK A620
     clear A620
     by_cases c63 : t1252 = true
     ·subst c63
      have H1 : ((laws_markGarden.f kj11 t1212 t1213 t1214 t1215 t1218 t1219 t1220 t1223 1).bind fun bt1253 => (if bt1253.1 < 0 then (laws_FnExactNextDay.j1 kj11 a1 t1210 true a0_0 a0_1 a0_2 l0_3 a0_4 a0_5 l0_6 a0_7 t1198 t1199 t1200 t1201 t1204 t1205 t1206 t1209 t1225 t1226 t1227 t1228 t1231 t1232 t1233 t1236) else ((laws_eqGarden.f kj11 t1225 t1226 t1227 t1228 t1231 t1232 t1233 t1236 t1198 t1199 t1200 t1201 t1204 t1205 t1206 t1209).bind fun t1256 => (if t1256 = true then (laws_FnExactNextDay.j1 kj11 a1 t1210 (t1237 != t1210) a0_0 a0_1 a0_2 l0_3 a0_4 a0_5 l0_6 a0_7 t1198 t1199 t1200 t1201 t1204 t1205 t1206 t1209 t1225 t1226 t1227 t1228 t1231 t1232 t1233 t1236) else (laws_FnExactNextDay.j1 kj11 a1 t1210 true a0_0 a0_1 a0_2 l0_3 a0_4 a0_5 l0_6 a0_7 t1198 t1199 t1200 t1201 t1204 t1205 t1206 t1209 t1225 t1226 t1227 t1228 t1231 t1232 t1233 t1236))))) = some true := by first | (rw [if_pos rfl] at H; exact H) | rfl
      clear H
      have H := H1
      clear H1
      replace H := Option.bind_eq_some_iff.mp H
      obtain ⟨⟨t1253, t1254, t1255⟩, A640, H⟩ := H
      replace H : (if t1253 < 0 then (laws_FnExactNextDay.j1 kj11 a1 t1210 true a0_0 a0_1 a0_2 l0_3 a0_4 a0_5 l0_6 a0_7 t1198 t1199 t1200 t1201 t1204 t1205 t1206 t1209 t1225 t1226 t1227 t1228 t1231 t1232 t1233 t1236) else ((laws_eqGarden.f kj11 t1225 t1226 t1227 t1228 t1231 t1232 t1233 t1236 t1198 t1199 t1200 t1201 t1204 t1205 t1206 t1209).bind fun t1256 => (if t1256 = true then (laws_FnExactNextDay.j1 kj11 a1 t1210 (t1237 != t1210) a0_0 a0_1 a0_2 l0_3 a0_4 a0_5 l0_6 a0_7 t1198 t1199 t1200 t1201 t1204 t1205 t1206 t1209 t1225 t1226 t1227 t1228 t1231 t1232 t1233 t1236) else (laws_FnExactNextDay.j1 kj11 a1 t1210 true a0_0 a0_1 a0_2 l0_3 a0_4 a0_5 l0_6 a0_7 t1198 t1199 t1200 t1201 t1204 t1205 t1206 t1209 t1225 t1226 t1227 t1228 t1231 t1232 t1233 t1236)))) = some true := H
      have A64 := aK A640
      clear A640
      have HC65 := aK H
      clear H
      try go_wp2
      have n0_ := aK (Kd.R_drew HO_1212003.out)
      have n1_ := aK (Kd.R_drew HO_1212006.out)
      have n2_ := aK (Kd.R_drew HO_1225003.out)
      have n3_ := aK (Kd.R_drew HO_1225006.out)
      have n4_ := aK (Kd.R_drew HO_1239003.out)
      have n5_ := aK (Kd.R_drew HO_1239006.out)
      have n6_ := aK (kD BK1184.out)
      have n7_ := aK (kD BK1211.out)
      have n8_ := aK (kD BK1224.out)
      have n9_ := aK (kD BK1238.out)
      have n10_ := aK (bD1 HB.out)
      clear HO_1212003
      clear HO_1212006
      clear HO_1225003
      clear HO_1225006
      clear HO_1239003
      clear HO_1239006
      clear BK1184
      clear BK1211
      clear BK1224
      clear BK1238
      clear HB
      have HO_1212003 := n0_
      have HO_1212006 := n1_
      have HO_1225003 := n2_
      have HO_1225006 := n3_
      have HO_1239003 := n4_
      have HO_1239006 := n5_
      have BK1184 := n6_
      have BK1211 := n7_
      have BK1224 := n8_
      have BK1238 := n9_
      have HB := n10_
      clear n0_ n1_ n2_ n3_ n4_ n5_ n6_ n7_ n8_ n9_ n10_
      refine start_ (n := 5) (S := fun w' => w'.cell? ⟨gb1224, 0, none⟩ = some (.int .i64 t1212) ∧ w'.cell? ⟨gb1224, 1, none⟩ = some (.int .i64 t1213) ∧ w'.cell? ⟨gb1224, 2, none⟩ = some (.int .i64 t1214) ∧ w'.cell? ⟨gb1224, 3, none⟩ = some (.slice Ao32 t1215.length co32) ∧ w'.cell? ⟨gb1224, 4, none⟩ = some (.int .i64 t1218) ∧ w'.cell? ⟨gb1224, 5, none⟩ = some (.int .i64 t1219) ∧ w'.cell? ⟨gb1224, 6, none⟩ = some (.slice Ao33 t1220.length co33) ∧ w'.cell? ⟨gb1224, 7, none⟩ = some (.int .i64 t1223) ∧ w'.cell? ⟨gb1184, 0, none⟩ = some (.int .i64 a0_0) ∧ w'.cell? ⟨gb1184, 1, none⟩ = some (.int .i64 a0_1) ∧ w'.cell? ⟨gb1184, 2, none⟩ = some (.int .i64 a0_2) ∧ w'.cell? ⟨gb1184, 3, none⟩ = some (.slice A0_3 l0_3.length c0_3) ∧ w'.cell? ⟨gb1184, 4, none⟩ = some (.int .i64 a0_4) ∧ w'.cell? ⟨gb1184, 5, none⟩ = some (.int .i64 a0_5) ∧ w'.cell? ⟨gb1184, 6, none⟩ = some (.slice A0_6 l0_6.length c0_6) ∧ w'.cell? ⟨gb1184, 7, none⟩ = some (.int .i64 a0_7)) (ds := []) #[bN,bN,bN,bN,bN] (by kernel_rfl) rfl rfl ⟨zQ BK1224 0, zQ BK1224 1, zQ BK1224 2, zQ BK1224 3, zQ BK1224 4, zQ BK1224 5, zQ BK1224 6, zQ BK1224 7, zQ BK1184 0, zQ BK1184 1, zQ BK1184 2, zQ BK1184 3, zQ BK1184 4, zQ BK1184 5, zQ BK1184 6, zQ BK1184 7⟩ (fun hHeld => ?_)
      generalize wc.drew = w66 at HO_1212003 HO_1212006 HO_1225003 HO_1225006 HO_1239003 HO_1239006 BK1184 BK1211 BK1224 BK1238 HB hHeld ⊢
      refine take_ (i := 0) (N := some 45) (v := ?_) (a' := ?_) #[bY,bN,bN,bN,bN] rfl rfl (by kernel_rfl) (fun _ _ _ h => h) (Or.inl ⟨by rfl, ?_⟩) hHeld ?_ ?_
      rotate_left
      ·rintro w' ⟨s0, s1, s2, s3, s4, s5, s6, s7, s8, s9, s10, s11, s12, s13, s14, s15⟩
       go_simp
       with_reducible rfl
      rotate_left
      ·simp only [Act.put, sTA, sZ, sS, i64_w, i32_w]
       rfl
      refine take_ (i := 1) (N := some 46) (v := ?_) (a' := ?_) #[bY,bY,bN,bN,bN] rfl rfl (by kernel_rfl) (fun _ _ _ h => h) (Or.inl ⟨by rfl, ?_⟩) hHeld ?_ ?_
      rotate_left
      ·rintro w' ⟨s0, s1, s2, s3, s4, s5, s6, s7, s8, s9, s10, s11, s12, s13, s14, s15⟩
       go_simp
       with_reducible rfl
      rotate_left
      ·simp only [Act.put, sTA, sZ, sS, i64_w, i32_w]
       rfl
      refine one_ (i := 2) (N := some 47) #[bY,bY,bY,bN,bN] rfl rfl (by kernel_rfl) (by decide) (fun K hK => ?_)
      refine goes_ Tryz.func17 (by kernel_rfl) rfl #[.agg #[.int .i64 a0_0, .int .i64 a0_1, .int .i64 a0_2, .slice A0_3 l0_3.length c0_3, .int .i64 a0_4, .int .i64 a0_5, .slice A0_6 l0_6.length c0_6, .int .i64 a0_7]] (by rfl) rfl rfl zD ?_
      with_reducible refine (laws_toGarden.calls kj11 a0_0 a0_1 a0_2 _ _ l0_3 a0_4 a0_5 _ _ l0_6 a0_7 t1240 t1241 t1242 t1243 t1246 t1247 t1248 t1251 _ ?side1 ?side2 ?side3 ?side4 A61.out).mono ?_
      (case side1 => exact zC (Kd.C_below HR0_3.out HB.out))
      (case side2 => exact HC0_3.out)
      (case side3 => exact zC (Kd.C_below HR0_6.out HB.out))
      (case side4 => exact HC0_6.out)
      rintro e w67 ⟨v1244, v1249, rfl, ho0, ho1, hb⟩
      refine ⟨_, rfl, ?_⟩
      have n0_ := aK (Kd.R_mono (Kd.R_told (Kd.R_told (Kd.R_old (zA HO_1212003) hb) (Kd.R_base ho0)) (Kd.R_base ho1)) (fun _ h_ => h_.1))
      have n1_ := aK (Kd.R_mono (Kd.R_told (Kd.R_told (Kd.R_old (zA HO_1212006) hb) (Kd.R_base ho0)) (Kd.R_base ho1)) (fun _ h_ => h_.1))
      have n2_ := aK (Kd.R_mono (Kd.R_told (Kd.R_told (Kd.R_old (zA HO_1225003) hb) (Kd.R_base ho0)) (Kd.R_base ho1)) (fun _ h_ => h_.1))
      have n3_ := aK (Kd.R_mono (Kd.R_told (Kd.R_told (Kd.R_old (zA HO_1225006) hb) (Kd.R_base ho0)) (Kd.R_base ho1)) (fun _ h_ => h_.1))
      have n4_ := aK (Kd.R_mono (Kd.R_told (Kd.R_told (Kd.R_old (zA HO_1239003) hb) (Kd.R_base ho0)) (Kd.R_base ho1)) (fun _ h_ => h_.1))
      have n5_ := aK (Kd.R_mono (Kd.R_told (Kd.R_told (Kd.R_old (zA HO_1239006) hb) (Kd.R_base ho0)) (Kd.R_base ho1)) (fun _ h_ => h_.1))
      have n6_ := aK (Kd.R_lower (Kd.R_new' (Kd.R_new' (Kd.R_new' (Kd.R_new' (Kd.R_new' (Kd.R_new' ho0 (Kd.R_lt (zA HO_1212003))) (Kd.R_lt (zA HO_1212006))) (Kd.R_lt (zA HO_1225003))) (Kd.R_lt (zA HO_1225006))) (Kd.R_lt (zA HO_1239003))) (Kd.R_lt (zA HO_1239006))) (bSz (zH4 HB GE1184 GE1211 GE1224 GE1238)))
      have n7_ := aK (Kd.R_lower (Kd.R_new' (Kd.R_new' (Kd.R_new' (Kd.R_new' (Kd.R_new' (Kd.R_new' ho1 (Kd.R_lt (zA HO_1212003))) (Kd.R_lt (zA HO_1212006))) (Kd.R_lt (zA HO_1225003))) (Kd.R_lt (zA HO_1225006))) (Kd.R_lt (zA HO_1239003))) (Kd.R_lt (zA HO_1239006))) (bSz (zH4 HB GE1184 GE1211 GE1224 GE1238)))
      have n8_ := zB BK1184 hb
      have n9_ := zB BK1211 hb
      have n10_ := zB BK1224 hb
      have n11_ := zB BK1238 hb
      have n12_ := aK (bSp (zH4 HB GE1184 GE1211 GE1224 GE1238) hb)
      clear HO_1212003
      clear HO_1212006
      clear HO_1225003
      clear HO_1225006
      clear HO_1239003
      clear HO_1239006
      clear BK1184
      clear BK1211
      clear BK1224
      clear BK1238
      clear HB
      have HO_1212003 := n0_
      have HO_1212006 := n1_
      have HO_1225003 := n2_
      have HO_1225006 := n3_
      have HO_1239003 := n4_
      have HO_1239006 := n5_
      have HO1245 := n6_
      have HO1250 := n7_
      have BK1184 := n8_
      have BK1211 := n9_
      have BK1224 := n10_
      have BK1238 := n11_
      have HB := n12_
      clear n0_ n1_ n2_ n3_ n4_ n5_ n6_ n7_ n8_ n9_ n10_ n11_ n12_
      (try clear hb)
      (try clear hb2)
      (try clear hk)
      (try clear hi)
      (try clear ho0)
      (try clear ho1)
      obtain ⟨Ao68, co68, eo68⟩ := Kd.R_slice HO1245.out
      (first | subst eo68 | (injection eo68 with f1_ f2_ f3_; have f4_ := f1_.symm; have f5_ := f3_.symm; clear f1_ f2_ f3_; subst f4_; subst f5_))
      obtain ⟨Ao69, co69, eo69⟩ := Kd.R_slice HO1250.out
      (first | subst eo69 | (injection eo69 with f1_ f2_ f3_; have f4_ := f1_.symm; have f5_ := f3_.symm; clear f1_ f2_ f3_; subst f4_; subst f5_))
      refine hK.out _ _ ⟨zQ BK1224 0, zQ BK1224 1, zQ BK1224 2, zQ BK1224 3, zQ BK1224 4, zQ BK1224 5, zQ BK1224 6, zQ BK1224 7, zQ BK1184 0, zQ BK1184 1, zQ BK1184 2, zQ BK1184 3, zQ BK1184 4, zQ BK1184 5, zQ BK1184 6, zQ BK1184 7⟩ (fun hHeld => ?_)
      clear hK K
      refine norm_ (a' := ?_) ?_ ?_
      rotate_left
      ·show Act.put _ (some 47) _ = _
       simp only [Act.put, sTA, sZ, sS, i64_w, i32_w]
       rfl
      refine one_ (i := 3) (N := some 48) #[bY,bY,bY,bY,bN] rfl rfl (by kernel_rfl) (by decide) (fun K hK => ?_)
      refine goes_ Tryz.func19 (by kernel_rfl) rfl #[.agg #[.int .i64 t1212, .int .i64 t1213, .int .i64 t1214, .slice Ao32 t1215.length co32, .int .i64 t1218, .int .i64 t1219, .slice Ao33 t1220.length co33, .int .i64 t1223], .agg #[.int .i64 t1240, .int .i64 t1241, .int .i64 t1242, .slice Ao68 t1243.length co68, .int .i64 t1246, .int .i64 t1247, .slice Ao69 t1248.length co69, .int .i64 t1251]] (by rfl) rfl rfl zD ?_
      with_reducible refine (laws_eqGarden.calls kj11 t1212 t1213 t1214 _ _ t1215 t1218 t1219 _ _ t1220 t1223 t1240 t1241 t1242 _ _ t1243 t1246 t1247 _ _ t1248 t1251 true _ ?side1 ?side2 ?side3 ?side4 ?side5 ?side6 ?side7 ?side8 A62.out).mono ?_
      (case side1 => exact zC (Kd.R_reads' HO_1225003.out).2.2)
      (case side2 => exact (Kd.R_reads' HO_1225003.out).2.1)
      (case side3 => exact zC (Kd.R_reads' HO_1225006.out).2.2)
      (case side4 => exact (Kd.R_reads' HO_1225006.out).2.1)
      (case side5 => exact zC (Kd.R_reads' HO1245.out).2.2)
      (case side6 => exact (Kd.R_reads' HO1245.out).2.1)
      (case side7 => exact zC (Kd.R_reads' HO1250.out).2.2)
      (case side8 => exact (Kd.R_reads' HO1250.out).2.1)
      rintro e w70 ⟨rfl, hb⟩
      refine ⟨_, rfl, ?_⟩
      have n0_ := aK (Kd.R_below (zA HO_1212003) hb)
      have n1_ := aK (Kd.R_below (zA HO_1212006) hb)
      have n2_ := aK (Kd.R_below (zA HO_1225003) hb)
      have n3_ := aK (Kd.R_below (zA HO_1225006) hb)
      have n4_ := aK (Kd.R_below (zA HO_1239003) hb)
      have n5_ := aK (Kd.R_below (zA HO_1239006) hb)
      have n6_ := aK (Kd.R_below (zA HO1245) hb)
      have n7_ := aK (Kd.R_below (zA HO1250) hb)
      have n8_ := zB BK1184 hb
      have n9_ := zB BK1211 hb
      have n10_ := zB BK1224 hb
      have n11_ := zB BK1238 hb
      have n12_ := aK (bSp (zH4 HB GE1184 GE1211 GE1224 GE1238) hb)
      clear HO_1212003
      clear HO_1212006
      clear HO_1225003
      clear HO_1225006
      clear HO_1239003
      clear HO_1239006
      clear HO1245
      clear HO1250
      clear BK1184
      clear BK1211
      clear BK1224
      clear BK1238
      clear HB
      have HO_1212003 := n0_
      have HO_1212006 := n1_
      have HO_1225003 := n2_
      have HO_1225006 := n3_
      have HO_1239003 := n4_
      have HO_1239006 := n5_
      have HO1245 := n6_
      have HO1250 := n7_
      have BK1184 := n8_
      have BK1211 := n9_
      have BK1224 := n10_
      have BK1238 := n11_
      have HB := n12_
      clear n0_ n1_ n2_ n3_ n4_ n5_ n6_ n7_ n8_ n9_ n10_ n11_ n12_
      (try clear hb)
      (try clear hb2)
      (try clear hk)
      (try clear hi)
      refine hK.out _ _ ⟨zQ BK1224 0, zQ BK1224 1, zQ BK1224 2, zQ BK1224 3, zQ BK1224 4, zQ BK1224 5, zQ BK1224 6, zQ BK1224 7, zQ BK1184 0, zQ BK1184 1, zQ BK1184 2, zQ BK1184 3, zQ BK1184 4, zQ BK1184 5, zQ BK1184 6, zQ BK1184 7⟩ (fun hHeld => ?_)
      clear hK K
      refine norm_ (a' := ?_) ?_ ?_
      rotate_left
      ·show Act.put _ (some 48) _ = _
       simp only [Act.put, sTA, sZ, sS, i64_w, i32_w]
       rfl
      refine pure_ (i := 4) (N := some 49) (v := ?_) (a' := ?_) #[bY,bY,bY,bY,bY] rfl rfl (by kernel_rfl) (fun _ _ _ h => h) (Or.inl ⟨by rfl, ?_⟩) ?_ ?_
      rotate_left
      ·intro w'
       go_simp
       with_reducible rfl
      rotate_left
      ·simp only [Act.put, sTA, sZ, sS, i64_w, i32_w]
       rfl
      refine done_ (by kernel_rfl) ?_
      have hnb71 := NB1224_1184.out
      have hnc71 := NB1184_1224.out
      have hnb72 := NB1224_1211.out
      have hnc72 := NB1211_1224.out
      have hnb73 := NB1224_1238.out
      have hnc73 := NB1238_1224.out
      obtain ⟨hcz74_0, hcz74_1, hcz74_2, hcz74_3, hcz74_4, hcz74_5, hcz74_6, hcz74_7, hfz74_0, hfz74_1, hfz74_2, hfz74_3, hfz74_4, hfz74_5, hfz74_6, hfz74_7⟩ := cl8 BK1224.out
      go_upto_region 14 with (first | ((with_reducible refine gate_callee (f := 20) rfl ?_); refine goesL_ (some 52) rfl rfl Tryz.func20 (by kernel_rfl) rfl #[.agg #[.int .i64 t1212, .int .i64 t1213, .int .i64 t1214, .slice Ao32 t1215.length co32, .int .i64 t1218, .int .i64 t1219, .slice Ao33 t1220.length co33, .int .i64 t1223], .int .i64 1] rfl zD ?_; (with_reducible refine (laws_markGarden.calls kj11 t1212 t1213 t1214 (fun k_ => some k_ = (.slice Ao32 t1215.length co32 : Value).ownBlock) (.slice Ao32 t1215.length co32) t1215 t1218 t1219 (fun k_ => some k_ = (.slice Ao33 t1220.length co33 : Value).ownBlock) (.slice Ao33 t1220.length co33) t1220 t1223 1 t1253 t1254 t1255 w _ ?side1 ?side2 ?side3 ?side4 ?side5 A64.out).mono ?_); (case side1 => exact (zH4 HB GE1184 GE1211 GE1224 GE1238)); (case side2 => exact Kd.R_tight rfl HO_1225003.out); (case side3 => exact fun k_ e_ => (HO_1225003.out.1 k_ e_.symm).1.1.2.2.1); (case side4 => exact Kd.R_tight rfl HO_1225006.out); (case side5 => exact fun k_ e_ => (HO_1225006.out.1 k_ e_.symm).1.1.2.2.1); rintro e w75 ⟨rfl, hy0, hy1, hb, hkp⟩; refine ⟨_, rfl, ?_⟩; replace HO_1212003 := aK (Kd.R_mono (ok' := fun k_ => some k_ ≠ (.slice Ao25 t1206.length co25 : Value).ownBlock ∧ some k_ ≠ (.slice Ao32 t1215.length co32 : Value).ownBlock ∧ some k_ ≠ (.slice Ao33 t1220.length co33 : Value).ownBlock ∧ some k_ ≠ (.slice Ao40 t1228.length co40 : Value).ownBlock ∧ some k_ ≠ (.slice Ao41 t1233.length co41 : Value).ownBlock ∧ some k_ ≠ (.slice Ao68 t1243.length co68 : Value).ownBlock ∧ some k_ ≠ (.slice Ao69 t1248.length co69 : Value).ownBlock) (Kd.R_keptB (HO_1212003.out) hkp (fun k_ hk_ hs_ => Or.elim hs_ (hk_.1.1.2.1) (hk_.1.1.2.2.1))) (fun k_ hk_ => ⟨hk_.1.1.1.1, hk_.1.1.1.2.1, hk_.1.1.1.2.2.1, hk_.1.1.1.2.2.2.1, hk_.1.1.1.2.2.2.2, hk_.1.1.2, hk_.1.2⟩)); replace HO_1212006 := aK (Kd.R_mono (ok' := fun k_ => some k_ ≠ (.slice Ao24 t1201.length co24 : Value).ownBlock ∧ some k_ ≠ (.slice Ao32 t1215.length co32 : Value).ownBlock ∧ some k_ ≠ (.slice Ao33 t1220.length co33 : Value).ownBlock ∧ some k_ ≠ (.slice Ao40 t1228.length co40 : Value).ownBlock ∧ some k_ ≠ (.slice Ao41 t1233.length co41 : Value).ownBlock ∧ some k_ ≠ (.slice Ao68 t1243.length co68 : Value).ownBlock ∧ some k_ ≠ (.slice Ao69 t1248.length co69 : Value).ownBlock) (Kd.R_keptB (HO_1212006.out) hkp (fun k_ hk_ hs_ => Or.elim hs_ (hk_.1.1.2.1) (hk_.1.1.2.2.1))) (fun k_ hk_ => ⟨hk_.1.1.1.1, hk_.1.1.1.2.1, hk_.1.1.1.2.2.1, hk_.1.1.1.2.2.2.1, hk_.1.1.1.2.2.2.2, hk_.1.1.2, hk_.1.2⟩)); replace HO_1239003 := aK (Kd.R_mono (ok' := fun k_ => some k_ ≠ (.slice Ao24 t1201.length co24 : Value).ownBlock ∧ some k_ ≠ (.slice Ao25 t1206.length co25 : Value).ownBlock ∧ some k_ ≠ (.slice Ao32 t1215.length co32 : Value).ownBlock ∧ some k_ ≠ (.slice Ao33 t1220.length co33 : Value).ownBlock ∧ some k_ ≠ (.slice Ao41 t1233.length co41 : Value).ownBlock ∧ some k_ ≠ (.slice Ao68 t1243.length co68 : Value).ownBlock ∧ some k_ ≠ (.slice Ao69 t1248.length co69 : Value).ownBlock) (Kd.R_keptB (HO_1239003.out) hkp (fun k_ hk_ hs_ => Or.elim hs_ (hk_.1.1.2.2.1) (hk_.1.1.2.2.2.1))) (fun k_ hk_ => ⟨hk_.1.1.1.1, hk_.1.1.1.2.1, hk_.1.1.1.2.2.1, hk_.1.1.1.2.2.2.1, hk_.1.1.1.2.2.2.2, hk_.1.1.2, hk_.1.2⟩)); replace HO_1239006 := aK (Kd.R_mono (ok' := fun k_ => some k_ ≠ (.slice Ao24 t1201.length co24 : Value).ownBlock ∧ some k_ ≠ (.slice Ao25 t1206.length co25 : Value).ownBlock ∧ some k_ ≠ (.slice Ao32 t1215.length co32 : Value).ownBlock ∧ some k_ ≠ (.slice Ao33 t1220.length co33 : Value).ownBlock ∧ some k_ ≠ (.slice Ao40 t1228.length co40 : Value).ownBlock ∧ some k_ ≠ (.slice Ao68 t1243.length co68 : Value).ownBlock ∧ some k_ ≠ (.slice Ao69 t1248.length co69 : Value).ownBlock) (Kd.R_keptB (HO_1239006.out) hkp (fun k_ hk_ hs_ => Or.elim hs_ (hk_.1.1.2.2.1) (hk_.1.1.2.2.2.1))) (fun k_ hk_ => ⟨hk_.1.1.1.1, hk_.1.1.1.2.1, hk_.1.1.1.2.2.1, hk_.1.1.1.2.2.2.1, hk_.1.1.1.2.2.2.2, hk_.1.1.2, hk_.1.2⟩)); replace BK1184 := aK (blk_kept (zK BK1184) hkp (fun hs_ => Or.elim hs_ (Kd.R_ne HO_1225003.out BK1184.out (by decide)) (Kd.R_ne HO_1225006.out BK1184.out (by decide)))); replace BK1211 := aK (blk_kept (zK BK1211) hkp (fun hs_ => Or.elim hs_ (Kd.R_ne HO_1225003.out BK1211.out (by decide)) (Kd.R_ne HO_1225006.out BK1211.out (by decide)))); replace BK1224 := aK (blk_kept (zK BK1224) hkp (fun hs_ => Or.elim hs_ (Kd.R_ne HO_1225003.out BK1224.out (by decide)) (Kd.R_ne HO_1225006.out BK1224.out (by decide)))); replace BK1238 := aK (blk_kept (zK BK1238) hkp (fun hs_ => Or.elim hs_ (Kd.R_ne HO_1225003.out BK1238.out (by decide)) (Kd.R_ne HO_1225006.out BK1238.out (by decide)))); replace HO_1225003 := aK (Kd.R_reok rfl hy0 (fun k_ e_ => HO_1225003.out.1 k_ e_)); replace HO_1225006 := aK (Kd.R_reok rfl hy1 (fun k_ e_ => HO_1225006.out.1 k_ e_)); replace HO1245 := aK (Kd.R_mono (ok' := fun k_ => some k_ ≠ (.slice Ao24 t1201.length co24 : Value).ownBlock ∧ some k_ ≠ (.slice Ao25 t1206.length co25 : Value).ownBlock ∧ some k_ ≠ (.slice Ao32 t1215.length co32 : Value).ownBlock ∧ some k_ ≠ (.slice Ao33 t1220.length co33 : Value).ownBlock ∧ some k_ ≠ (.slice Ao40 t1228.length co40 : Value).ownBlock ∧ some k_ ≠ (.slice Ao41 t1233.length co41 : Value).ownBlock ∧ some k_ ≠ (.slice Ao69 t1248.length co69 : Value).ownBlock) (Kd.R_keptB (HO1245.out) hkp (fun k_ hk_ hs_ => Or.elim hs_ (hk_.1.1.1.2) (hk_.1.1.2))) (fun k_ hk_ => ⟨hk_.1.1.1.1.1.1.2, hk_.1.1.1.1.1.2, hk_.1.1.1.1.2, hk_.1.1.1.2, hk_.1.1.2, hk_.1.2, hk_.1.1.1.1.1.1.1⟩)); replace HO1250 := aK (Kd.R_mono (ok' := fun k_ => some k_ ≠ (.slice Ao24 t1201.length co24 : Value).ownBlock ∧ some k_ ≠ (.slice Ao25 t1206.length co25 : Value).ownBlock ∧ some k_ ≠ (.slice Ao32 t1215.length co32 : Value).ownBlock ∧ some k_ ≠ (.slice Ao33 t1220.length co33 : Value).ownBlock ∧ some k_ ≠ (.slice Ao40 t1228.length co40 : Value).ownBlock ∧ some k_ ≠ (.slice Ao41 t1233.length co41 : Value).ownBlock ∧ some k_ ≠ (.slice Ao68 t1243.length co68 : Value).ownBlock) (Kd.R_keptB (HO1250.out) hkp (fun k_ hk_ hs_ => Or.elim hs_ (hk_.1.1.1.2) (hk_.1.1.2))) (fun k_ hk_ => ⟨hk_.1.1.1.1.1.1.2, hk_.1.1.1.1.1.2, hk_.1.1.1.1.2, hk_.1.1.1.2, hk_.1.1.2, hk_.1.2, hk_.1.1.1.1.1.1.1⟩)); replace HB := aK (hb); (try clear hb); (try clear hkp); (try clear hy0); (try clear hy1)))
      (try simp only [Act.put, sTA, sZ, sS])
      go_cut [65] (fun v65 wc => ∃ (kq : Nat) (x65_64 : Bool), v65 = .bool x65_64 ∧ Aside0 (laws_FnExactNextDay.j1 kq a1 t1210 x65_64 a0_0 a0_1 a0_2 l0_3 a0_4 a0_5 l0_6 a0_7 t1198 t1199 t1200 t1201 t1204 t1205 t1206 t1209 t1225 t1226 t1227 t1228 t1231 t1232 t1233 t1236 = some true) ∧ Aside0 (kq ≤ kj11) ∧ Aside0 (Kd.R (Kd.int .i64) 3 wc w.heap.size (fun k_ => some k_ ≠ ((.slice Ao25 t1206.length co25) : Value).ownBlock ∧ some k_ ≠ ((.slice Ao32 t1215.length co32) : Value).ownBlock ∧ some k_ ≠ ((.slice Ao33 t1220.length co33) : Value).ownBlock ∧ some k_ ≠ ((.slice Ao40 t1228.length co40) : Value).ownBlock ∧ some k_ ≠ ((.slice Ao41 t1233.length co41) : Value).ownBlock) (.slice Ao24 t1201.length co24) t1201) ∧ Aside0 (Kd.R (Kd.int .i64) 3 wc w.heap.size (fun k_ => some k_ ≠ ((.slice Ao24 t1201.length co24) : Value).ownBlock ∧ some k_ ≠ ((.slice Ao32 t1215.length co32) : Value).ownBlock ∧ some k_ ≠ ((.slice Ao33 t1220.length co33) : Value).ownBlock ∧ some k_ ≠ ((.slice Ao40 t1228.length co40) : Value).ownBlock ∧ some k_ ≠ ((.slice Ao41 t1233.length co41) : Value).ownBlock) (.slice Ao25 t1206.length co25) t1206) ∧ Aside0 (Kd.R (Kd.int .i64) 3 wc w.heap.size (fun k_ => some k_ ≠ ((.slice Ao24 t1201.length co24) : Value).ownBlock ∧ some k_ ≠ ((.slice Ao25 t1206.length co25) : Value).ownBlock ∧ some k_ ≠ ((.slice Ao33 t1220.length co33) : Value).ownBlock ∧ some k_ ≠ ((.slice Ao40 t1228.length co40) : Value).ownBlock ∧ some k_ ≠ ((.slice Ao41 t1233.length co41) : Value).ownBlock) (.slice Ao32 t1215.length co32) t1254) ∧ Aside0 (Kd.R (Kd.int .i64) 3 wc w.heap.size (fun k_ => some k_ ≠ ((.slice Ao24 t1201.length co24) : Value).ownBlock ∧ some k_ ≠ ((.slice Ao25 t1206.length co25) : Value).ownBlock ∧ some k_ ≠ ((.slice Ao32 t1215.length co32) : Value).ownBlock ∧ some k_ ≠ ((.slice Ao40 t1228.length co40) : Value).ownBlock ∧ some k_ ≠ ((.slice Ao41 t1233.length co41) : Value).ownBlock) (.slice Ao33 t1220.length co33) t1255) ∧ Aside0 (Kd.R (Kd.int .i64) 3 wc w.heap.size (fun k_ => some k_ ≠ ((.slice Ao24 t1201.length co24) : Value).ownBlock ∧ some k_ ≠ ((.slice Ao25 t1206.length co25) : Value).ownBlock ∧ some k_ ≠ ((.slice Ao32 t1215.length co32) : Value).ownBlock ∧ some k_ ≠ ((.slice Ao33 t1220.length co33) : Value).ownBlock ∧ some k_ ≠ ((.slice Ao41 t1233.length co41) : Value).ownBlock) (.slice Ao40 t1228.length co40) t1228) ∧ Aside0 (Kd.R (Kd.int .i64) 3 wc w.heap.size (fun k_ => some k_ ≠ ((.slice Ao24 t1201.length co24) : Value).ownBlock ∧ some k_ ≠ ((.slice Ao25 t1206.length co25) : Value).ownBlock ∧ some k_ ≠ ((.slice Ao32 t1215.length co32) : Value).ownBlock ∧ some k_ ≠ ((.slice Ao33 t1220.length co33) : Value).ownBlock ∧ some k_ ≠ ((.slice Ao40 t1228.length co40) : Value).ownBlock) (.slice Ao41 t1233.length co41) t1233) ∧ Aside0 (wc.heap[gb1184]? = some (.cells #[.int .i64 a0_0, .int .i64 a0_1, .int .i64 a0_2, (.slice A0_3 l0_3.length c0_3), .int .i64 a0_4, .int .i64 a0_5, (.slice A0_6 l0_6.length c0_6), .int .i64 a0_7] 30 (0, 0))) ∧ Aside0 (wc.heap[gb1211]? = some (.cells #[.int .i64 t1198, .int .i64 t1199, .int .i64 t1200, (.slice Ao24 t1201.length co24), .int .i64 t1204, .int .i64 t1205, (.slice Ao25 t1206.length co25), .int .i64 t1209] 38 (0, 0))) ∧ Aside0 (wc.heap[gb1224]? = some (.cells #[.int .i64 t1212, .int .i64 t1213, .int .i64 t1214, (.slice Ao32 t1215.length co32), .int .i64 t1218, .int .i64 t1219, (.slice Ao33 t1220.length co33), .int .i64 t1223] 38 (0, 0))) ∧ Aside0 (wc.heap[gb1238]? = some (.cells #[.int .i64 t1225, .int .i64 t1226, .int .i64 t1227, (.slice Ao40 t1228.length co40), .int .i64 t1231, .int .i64 t1232, (.slice Ao41 t1233.length co41), .int .i64 t1236] 38 (0, 0))) ∧ Aside0 (Below w.heap.size w wc))
      case first =>
       have H := HC65.out
       clear HC65
       by_cases c76 : t1253 < 0
       ·rw [if_pos c76] at H
        have c76b0 : decide (t1253 < 0) = true := decide_eq_true c76
        clear c76
        (first | rw [c76b0] | (simp only [i64_w, i32_w]; rw [c76b0]) | skip)
        have H' := aK H
        clear H
        go_wp2
        go_meet
        case rel => exact ⟨_, (true), (by first | rfl | (simp; done) | (simp [*]; done)), H', ⟨by have := HJ11.out; first | omega | exact Nat.le_refl _⟩, ⟨by (with_reducible repeat (first | apply Kd.R_alloc | apply Kd.R_drewN | apply Kd.R_drew)); exact Kd.R_mono HO_1212003.out (fun _ hk => ⟨hk.1, ⟨hk.2.1, ⟨hk.2.2.1, ⟨hk.2.2.2.1, hk.2.2.2.2.1⟩⟩⟩⟩)⟩, ⟨by (with_reducible repeat (first | apply Kd.R_alloc | apply Kd.R_drewN | apply Kd.R_drew)); exact Kd.R_mono HO_1212006.out (fun _ hk => ⟨hk.1, ⟨hk.2.1, ⟨hk.2.2.1, ⟨hk.2.2.2.1, hk.2.2.2.2.1⟩⟩⟩⟩)⟩, ⟨by (with_reducible repeat (first | apply Kd.R_alloc | apply Kd.R_drewN | apply Kd.R_drew)); exact Kd.R_mono HO_1225003.out (fun _ hk => ⟨hk.1.1.1, ⟨hk.1.1.2.1, ⟨hk.1.1.2.2.1, ⟨hk.1.1.2.2.2.1, hk.1.1.2.2.2.2⟩⟩⟩⟩)⟩, ⟨by (with_reducible repeat (first | apply Kd.R_alloc | apply Kd.R_drewN | apply Kd.R_drew)); exact Kd.R_mono HO_1225006.out (fun _ hk => ⟨hk.1.1.1, ⟨hk.1.1.2.1, ⟨hk.1.1.2.2.1, ⟨hk.1.1.2.2.2.1, hk.1.1.2.2.2.2⟩⟩⟩⟩)⟩, ⟨by (with_reducible repeat (first | apply Kd.R_alloc | apply Kd.R_drewN | apply Kd.R_drew)); exact Kd.R_mono HO_1239003.out (fun _ hk => ⟨hk.1, ⟨hk.2.1, ⟨hk.2.2.1, ⟨hk.2.2.2.1, hk.2.2.2.2.1⟩⟩⟩⟩)⟩, ⟨by (with_reducible repeat (first | apply Kd.R_alloc | apply Kd.R_drewN | apply Kd.R_drew)); exact Kd.R_mono HO_1239006.out (fun _ hk => ⟨hk.1, ⟨hk.2.1, ⟨hk.2.2.1, ⟨hk.2.2.2.1, hk.2.2.2.2.1⟩⟩⟩⟩)⟩, ⟨zK BK1184⟩, ⟨zK BK1211⟩, ⟨zK BK1224⟩, ⟨zK BK1238⟩, ⟨zH4 HB GE1184 GE1211 GE1224 GE1238⟩⟩
       ·rw [if_neg c76] at H
        have c76b0 : decide (t1253 < 0) = false := decide_eq_false c76
        clear c76
        (first | rw [c76b0] | (simp only [i64_w, i32_w]; rw [c76b0]) | skip)
        replace H := Option.bind_eq_some_iff.mp H
        obtain ⟨t1256, A770, H⟩ := H
        replace H : (if t1256 = true then (laws_FnExactNextDay.j1 kj11 a1 t1210 (t1237 != t1210) a0_0 a0_1 a0_2 l0_3 a0_4 a0_5 l0_6 a0_7 t1198 t1199 t1200 t1201 t1204 t1205 t1206 t1209 t1225 t1226 t1227 t1228 t1231 t1232 t1233 t1236) else (laws_FnExactNextDay.j1 kj11 a1 t1210 true a0_0 a0_1 a0_2 l0_3 a0_4 a0_5 l0_6 a0_7 t1198 t1199 t1200 t1201 t1204 t1205 t1206 t1209 t1225 t1226 t1227 t1228 t1231 t1232 t1233 t1236)) = some true := H
        have A77 := aK A770
        clear A770
        by_cases c78 : t1256 = true
        ·subst c78
         have H1 : (laws_FnExactNextDay.j1 kj11 a1 t1210 (t1237 != t1210) a0_0 a0_1 a0_2 l0_3 a0_4 a0_5 l0_6 a0_7 t1198 t1199 t1200 t1201 t1204 t1205 t1206 t1209 t1225 t1226 t1227 t1228 t1231 t1232 t1233 t1236) = some true := by first | (rw [if_pos rfl] at H; exact H) | rfl
         clear H
         have H := H1
         clear H1
         have H' := aK H
         clear H
         have hnb79 := NB1238_1184.out
         have hnc79 := NB1184_1238.out
         have hnb80 := NB1238_1211.out
         have hnc80 := NB1211_1238.out
         have hnb81 := NB1238_1224.out
         have hnc81 := NB1224_1238.out
         obtain ⟨hcz82_0, hcz82_1, hcz82_2, hcz82_3, hcz82_4, hcz82_5, hcz82_6, hcz82_7, hfz82_0, hfz82_1, hfz82_2, hfz82_3, hfz82_4, hfz82_5, hfz82_6, hfz82_7⟩ := cl8 BK1238.out
         have hnb83 := NB1211_1184.out
         have hnc83 := NB1184_1211.out
         have hnb84 := NB1211_1224.out
         have hnc84 := NB1224_1211.out
         obtain ⟨hcz85_0, hcz85_1, hcz85_2, hcz85_3, hcz85_4, hcz85_5, hcz85_6, hcz85_7, hfz85_0, hfz85_1, hfz85_2, hfz85_3, hfz85_4, hfz85_5, hfz85_6, hfz85_7⟩ := cl8 BK1211.out
         go_wp2_with (first | (go_at_call 19; (with_reducible refine (laws_eqGarden.calls kj11 t1225 t1226 t1227 _ _ t1228 t1231 t1232 _ _ t1233 t1236 t1198 t1199 t1200 _ _ t1201 t1204 t1205 _ _ t1206 t1209 true _ ?side1 ?side2 ?side3 ?side4 ?side5 ?side6 ?side7 ?side8 A77.out).mono ?_); (case side1 => exact zC (Kd.R_reads' HO_1239003.out).2.2); (case side2 => exact (Kd.R_reads' HO_1239003.out).2.1); (case side3 => exact zC (Kd.R_reads' HO_1239006.out).2.2); (case side4 => exact (Kd.R_reads' HO_1239006.out).2.1); (case side5 => exact zC (Kd.R_reads' HO_1212003.out).2.2); (case side6 => exact (Kd.R_reads' HO_1212003.out).2.1); (case side7 => exact zC (Kd.R_reads' HO_1212006.out).2.2); (case side8 => exact (Kd.R_reads' HO_1212006.out).2.1); rintro e w86 ⟨rfl, hb⟩; replace HO_1212003 := aK (Kd.R_below (zA HO_1212003) hb); replace HO_1212006 := aK (Kd.R_below (zA HO_1212006) hb); replace HO_1225003 := aK (Kd.R_below (zA HO_1225003) hb); replace HO_1225006 := aK (Kd.R_below (zA HO_1225006) hb); replace HO_1239003 := aK (Kd.R_below (zA HO_1239003) hb); replace HO_1239006 := aK (Kd.R_below (zA HO_1239006) hb); replace HO1245 := aK (Kd.R_below (zA HO1245) hb); replace HO1250 := aK (Kd.R_below (zA HO1250) hb); replace BK1184 := zB BK1184 hb; replace BK1211 := zB BK1211 hb; replace BK1224 := zB BK1224 hb; replace BK1238 := zB BK1238 hb; replace HB := aK (bSp (zH4 HB GE1184 GE1211 GE1224 GE1238) hb); (try clear hb); (try clear hb2); (try clear hk); (try clear hi)))
         go_meet
         case rel => exact ⟨_, ((t1237 != t1210)), (by first | rfl | (simp; done) | (simp [*]; done)), H', ⟨by have := HJ11.out; first | omega | exact Nat.le_refl _⟩, ⟨by (with_reducible repeat (first | apply Kd.R_alloc | apply Kd.R_drewN | apply Kd.R_drew)); exact Kd.R_mono HO_1212003.out (fun _ hk => ⟨hk.1, ⟨hk.2.1, ⟨hk.2.2.1, ⟨hk.2.2.2.1, hk.2.2.2.2.1⟩⟩⟩⟩)⟩, ⟨by (with_reducible repeat (first | apply Kd.R_alloc | apply Kd.R_drewN | apply Kd.R_drew)); exact Kd.R_mono HO_1212006.out (fun _ hk => ⟨hk.1, ⟨hk.2.1, ⟨hk.2.2.1, ⟨hk.2.2.2.1, hk.2.2.2.2.1⟩⟩⟩⟩)⟩, ⟨by (with_reducible repeat (first | apply Kd.R_alloc | apply Kd.R_drewN | apply Kd.R_drew)); exact Kd.R_mono HO_1225003.out (fun _ hk => ⟨hk.1.1.1, ⟨hk.1.1.2.1, ⟨hk.1.1.2.2.1, ⟨hk.1.1.2.2.2.1, hk.1.1.2.2.2.2⟩⟩⟩⟩)⟩, ⟨by (with_reducible repeat (first | apply Kd.R_alloc | apply Kd.R_drewN | apply Kd.R_drew)); exact Kd.R_mono HO_1225006.out (fun _ hk => ⟨hk.1.1.1, ⟨hk.1.1.2.1, ⟨hk.1.1.2.2.1, ⟨hk.1.1.2.2.2.1, hk.1.1.2.2.2.2⟩⟩⟩⟩)⟩, ⟨by (with_reducible repeat (first | apply Kd.R_alloc | apply Kd.R_drewN | apply Kd.R_drew)); exact Kd.R_mono HO_1239003.out (fun _ hk => ⟨hk.1, ⟨hk.2.1, ⟨hk.2.2.1, ⟨hk.2.2.2.1, hk.2.2.2.2.1⟩⟩⟩⟩)⟩, ⟨by (with_reducible repeat (first | apply Kd.R_alloc | apply Kd.R_drewN | apply Kd.R_drew)); exact Kd.R_mono HO_1239006.out (fun _ hk => ⟨hk.1, ⟨hk.2.1, ⟨hk.2.2.1, ⟨hk.2.2.2.1, hk.2.2.2.2.1⟩⟩⟩⟩)⟩, ⟨zK BK1184⟩, ⟨zK BK1211⟩, ⟨zK BK1224⟩, ⟨zK BK1238⟩, ⟨zH4 HB GE1184 GE1211 GE1224 GE1238⟩⟩
        ·replace c78 := Bool.eq_false_iff.mpr c78
         subst c78
         have H1 : (laws_FnExactNextDay.j1 kj11 a1 t1210 true a0_0 a0_1 a0_2 l0_3 a0_4 a0_5 l0_6 a0_7 t1198 t1199 t1200 t1201 t1204 t1205 t1206 t1209 t1225 t1226 t1227 t1228 t1231 t1232 t1233 t1236) = some true := by rw [if_neg (show ¬ (false = true) by decide)] at H; exact H
         clear H
         have H := H1
         clear H1
         have H' := aK H
         clear H
         have hnb87 := NB1238_1184.out
         have hnc87 := NB1184_1238.out
         have hnb88 := NB1238_1211.out
         have hnc88 := NB1211_1238.out
         have hnb89 := NB1238_1224.out
         have hnc89 := NB1224_1238.out
         obtain ⟨hcz90_0, hcz90_1, hcz90_2, hcz90_3, hcz90_4, hcz90_5, hcz90_6, hcz90_7, hfz90_0, hfz90_1, hfz90_2, hfz90_3, hfz90_4, hfz90_5, hfz90_6, hfz90_7⟩ := cl8 BK1238.out
         have hnb91 := NB1211_1184.out
         have hnc91 := NB1184_1211.out
         have hnb92 := NB1211_1224.out
         have hnc92 := NB1224_1211.out
         obtain ⟨hcz93_0, hcz93_1, hcz93_2, hcz93_3, hcz93_4, hcz93_5, hcz93_6, hcz93_7, hfz93_0, hfz93_1, hfz93_2, hfz93_3, hfz93_4, hfz93_5, hfz93_6, hfz93_7⟩ := cl8 BK1211.out
         go_wp2_with (first | (go_at_call 19; (with_reducible refine (laws_eqGarden.calls kj11 t1225 t1226 t1227 _ _ t1228 t1231 t1232 _ _ t1233 t1236 t1198 t1199 t1200 _ _ t1201 t1204 t1205 _ _ t1206 t1209 false _ ?side1 ?side2 ?side3 ?side4 ?side5 ?side6 ?side7 ?side8 A77.out).mono ?_); (case side1 => exact zC (Kd.R_reads' HO_1239003.out).2.2); (case side2 => exact (Kd.R_reads' HO_1239003.out).2.1); (case side3 => exact zC (Kd.R_reads' HO_1239006.out).2.2); (case side4 => exact (Kd.R_reads' HO_1239006.out).2.1); (case side5 => exact zC (Kd.R_reads' HO_1212003.out).2.2); (case side6 => exact (Kd.R_reads' HO_1212003.out).2.1); (case side7 => exact zC (Kd.R_reads' HO_1212006.out).2.2); (case side8 => exact (Kd.R_reads' HO_1212006.out).2.1); rintro e w94 ⟨rfl, hb⟩; replace HO_1212003 := aK (Kd.R_below (zA HO_1212003) hb); replace HO_1212006 := aK (Kd.R_below (zA HO_1212006) hb); replace HO_1225003 := aK (Kd.R_below (zA HO_1225003) hb); replace HO_1225006 := aK (Kd.R_below (zA HO_1225006) hb); replace HO_1239003 := aK (Kd.R_below (zA HO_1239003) hb); replace HO_1239006 := aK (Kd.R_below (zA HO_1239006) hb); replace HO1245 := aK (Kd.R_below (zA HO1245) hb); replace HO1250 := aK (Kd.R_below (zA HO1250) hb); replace BK1184 := zB BK1184 hb; replace BK1211 := zB BK1211 hb; replace BK1224 := zB BK1224 hb; replace BK1238 := zB BK1238 hb; replace HB := aK (bSp (zH4 HB GE1184 GE1211 GE1224 GE1238) hb); (try clear hb); (try clear hb2); (try clear hk); (try clear hi)))
         go_meet
         case rel => exact ⟨_, (true), (by first | rfl | (simp; done) | (simp [*]; done)), H', ⟨by have := HJ11.out; first | omega | exact Nat.le_refl _⟩, ⟨by (with_reducible repeat (first | apply Kd.R_alloc | apply Kd.R_drewN | apply Kd.R_drew)); exact Kd.R_mono HO_1212003.out (fun _ hk => ⟨hk.1, ⟨hk.2.1, ⟨hk.2.2.1, ⟨hk.2.2.2.1, hk.2.2.2.2.1⟩⟩⟩⟩)⟩, ⟨by (with_reducible repeat (first | apply Kd.R_alloc | apply Kd.R_drewN | apply Kd.R_drew)); exact Kd.R_mono HO_1212006.out (fun _ hk => ⟨hk.1, ⟨hk.2.1, ⟨hk.2.2.1, ⟨hk.2.2.2.1, hk.2.2.2.2.1⟩⟩⟩⟩)⟩, ⟨by (with_reducible repeat (first | apply Kd.R_alloc | apply Kd.R_drewN | apply Kd.R_drew)); exact Kd.R_mono HO_1225003.out (fun _ hk => ⟨hk.1.1.1, ⟨hk.1.1.2.1, ⟨hk.1.1.2.2.1, ⟨hk.1.1.2.2.2.1, hk.1.1.2.2.2.2⟩⟩⟩⟩)⟩, ⟨by (with_reducible repeat (first | apply Kd.R_alloc | apply Kd.R_drewN | apply Kd.R_drew)); exact Kd.R_mono HO_1225006.out (fun _ hk => ⟨hk.1.1.1, ⟨hk.1.1.2.1, ⟨hk.1.1.2.2.1, ⟨hk.1.1.2.2.2.1, hk.1.1.2.2.2.2⟩⟩⟩⟩)⟩, ⟨by (with_reducible repeat (first | apply Kd.R_alloc | apply Kd.R_drewN | apply Kd.R_drew)); exact Kd.R_mono HO_1239003.out (fun _ hk => ⟨hk.1, ⟨hk.2.1, ⟨hk.2.2.1, ⟨hk.2.2.2.1, hk.2.2.2.2.1⟩⟩⟩⟩)⟩, ⟨by (with_reducible repeat (first | apply Kd.R_alloc | apply Kd.R_drewN | apply Kd.R_drew)); exact Kd.R_mono HO_1239006.out (fun _ hk => ⟨hk.1, ⟨hk.2.1, ⟨hk.2.2.1, ⟨hk.2.2.2.1, hk.2.2.2.2.1⟩⟩⟩⟩)⟩, ⟨zK BK1184⟩, ⟨zK BK1211⟩, ⟨zK BK1224⟩, ⟨zK BK1238⟩, ⟨zH4 HB GE1184 GE1211 GE1224 GE1238⟩⟩
      case rest =>
       clear HC65
       try clear c1
       try clear c2
       try clear p2
       try clear c3
       try clear c4
       try clear c4b0
       try clear c5
       try clear c6
       try clear c7
       try clear c8
       try clear c9
       try clear c15
       try clear c17
       try clear c19
       try clear c20
       try clear c22
       try clear c26
       try clear c27
       try clear c29
       try clear c30
       try clear c36
       try clear c37
       try clear c38
       try clear c43
       try clear c44
       try clear c45
       try clear c46
       try clear c48
       try clear c49
       try clear c52
       try clear c53
       try clear c54
       try clear c56
       try clear c57
       try clear c60
       try clear c63
       try clear c71
       try clear c72
       try clear c73
       try clear c76
       try clear c76b0
       try clear c78
       try clear c79
       try clear c80
       try clear c81
       try clear c83
       try clear c84
       try clear c87
       try clear c88
       try clear c89
       try clear c91
       try clear c92
       try clear hcz14_0
       try clear hcz14_1
       try clear hcz14_2
       try clear hcz14_3
       try clear hcz14_4
       try clear hcz14_5
       try clear hcz14_6
       try clear hcz14_7
       try clear hcz16_0
       try clear hcz16_1
       try clear hcz16_2
       try clear hcz16_3
       try clear hcz16_4
       try clear hcz16_5
       try clear hcz16_6
       try clear hcz16_7
       try clear hcz23_0
       try clear hcz23_1
       try clear hcz23_2
       try clear hcz23_3
       try clear hcz23_4
       try clear hcz23_5
       try clear hcz23_6
       try clear hcz23_7
       try clear hcz26_0
       try clear hcz26_1
       try clear hcz26_2
       try clear hcz26_3
       try clear hcz26_4
       try clear hcz26_5
       try clear hcz26_6
       try clear hcz26_7
       try clear hcz31_0
       try clear hcz31_1
       try clear hcz31_2
       try clear hcz31_3
       try clear hcz31_4
       try clear hcz31_5
       try clear hcz31_6
       try clear hcz31_7
       try clear hcz39_0
       try clear hcz39_1
       try clear hcz39_2
       try clear hcz39_3
       try clear hcz39_4
       try clear hcz39_5
       try clear hcz39_6
       try clear hcz39_7
       try clear hcz47_0
       try clear hcz47_1
       try clear hcz47_2
       try clear hcz47_3
       try clear hcz47_4
       try clear hcz47_5
       try clear hcz47_6
       try clear hcz47_7
       try clear hcz50_0
       try clear hcz50_1
       try clear hcz50_2
       try clear hcz50_3
       try clear hcz50_4
       try clear hcz50_5
       try clear hcz50_6
       try clear hcz50_7
       try clear hcz55_0
       try clear hcz55_1
       try clear hcz55_2
       try clear hcz55_3
       try clear hcz55_4
       try clear hcz55_5
       try clear hcz55_6
       try clear hcz55_7
       try clear hcz58_0
       try clear hcz58_1
       try clear hcz58_2
       try clear hcz58_3
       try clear hcz58_4
       try clear hcz58_5
       try clear hcz58_6
       try clear hcz58_7
       try clear hcz6_0
       try clear hcz6_1
       try clear hcz6_2
       try clear hcz6_3
       try clear hcz6_4
       try clear hcz6_5
       try clear hcz6_6
       try clear hcz6_7
       try clear hcz74_0
       try clear hcz74_1
       try clear hcz74_2
       try clear hcz74_3
       try clear hcz74_4
       try clear hcz74_5
       try clear hcz74_6
       try clear hcz74_7
       try clear hcz82_0
       try clear hcz82_1
       try clear hcz82_2
       try clear hcz82_3
       try clear hcz82_4
       try clear hcz82_5
       try clear hcz82_6
       try clear hcz82_7
       try clear hcz85_0
       try clear hcz85_1
       try clear hcz85_2
       try clear hcz85_3
       try clear hcz85_4
       try clear hcz85_5
       try clear hcz85_6
       try clear hcz85_7
       try clear hcz90_0
       try clear hcz90_1
       try clear hcz90_2
       try clear hcz90_3
       try clear hcz90_4
       try clear hcz90_5
       try clear hcz90_6
       try clear hcz90_7
       try clear hcz93_0
       try clear hcz93_1
       try clear hcz93_2
       try clear hcz93_3
       try clear hcz93_4
       try clear hcz93_5
       try clear hcz93_6
       try clear hcz93_7
       try clear hfz14_0
       try clear hfz14_1
       try clear hfz14_2
       try clear hfz14_3
       try clear hfz14_4
       try clear hfz14_5
       try clear hfz14_6
       try clear hfz14_7
       try clear hfz16_0
       try clear hfz16_1
       try clear hfz16_2
       try clear hfz16_3
       try clear hfz16_4
       try clear hfz16_5
       try clear hfz16_6
       try clear hfz16_7
       try clear hfz23_0
       try clear hfz23_1
       try clear hfz23_2
       try clear hfz23_3
       try clear hfz23_4
       try clear hfz23_5
       try clear hfz23_6
       try clear hfz23_7
       try clear hfz26_0
       try clear hfz26_1
       try clear hfz26_2
       try clear hfz26_3
       try clear hfz26_4
       try clear hfz26_5
       try clear hfz26_6
       try clear hfz26_7
       try clear hfz31_0
       try clear hfz31_1
       try clear hfz31_2
       try clear hfz31_3
       try clear hfz31_4
       try clear hfz31_5
       try clear hfz31_6
       try clear hfz31_7
       try clear hfz39_0
       try clear hfz39_1
       try clear hfz39_2
       try clear hfz39_3
       try clear hfz39_4
       try clear hfz39_5
       try clear hfz39_6
       try clear hfz39_7
       try clear hfz47_0
       try clear hfz47_1
       try clear hfz47_2
       try clear hfz47_3
       try clear hfz47_4
       try clear hfz47_5
       try clear hfz47_6
       try clear hfz47_7
       try clear hfz50_0
       try clear hfz50_1
       try clear hfz50_2
       try clear hfz50_3
       try clear hfz50_4
       try clear hfz50_5
       try clear hfz50_6
       try clear hfz50_7
       try clear hfz55_0
       try clear hfz55_1
       try clear hfz55_2
       try clear hfz55_3
       try clear hfz55_4
       try clear hfz55_5
       try clear hfz55_6
       try clear hfz55_7
       try clear hfz58_0
       try clear hfz58_1
       try clear hfz58_2
       try clear hfz58_3
       try clear hfz58_4
       try clear hfz58_5
       try clear hfz58_6
       try clear hfz58_7
       try clear hfz6_0
       try clear hfz6_1
       try clear hfz6_2
       try clear hfz6_3
       try clear hfz6_4
       try clear hfz6_5
       try clear hfz6_6
       try clear hfz6_7
       try clear hfz74_0
       try clear hfz74_1
       try clear hfz74_2
       try clear hfz74_3
       try clear hfz74_4
       try clear hfz74_5
       try clear hfz74_6
       try clear hfz74_7
       try clear hfz82_0
       try clear hfz82_1
       try clear hfz82_2
       try clear hfz82_3
       try clear hfz82_4
       try clear hfz82_5
       try clear hfz82_6
       try clear hfz82_7
       try clear hfz85_0
       try clear hfz85_1
       try clear hfz85_2
       try clear hfz85_3
       try clear hfz85_4
       try clear hfz85_5
       try clear hfz85_6
       try clear hfz85_7
       try clear hfz90_0
       try clear hfz90_1
       try clear hfz90_2
       try clear hfz90_3
       try clear hfz90_4
       try clear hfz90_5
       try clear hfz90_6
       try clear hfz90_7
       try clear hfz93_0
       try clear hfz93_1
       try clear hfz93_2
       try clear hfz93_3
       try clear hfz93_4
       try clear hfz93_5
       try clear hfz93_6
       try clear hfz93_7
       try clear p2
       obtain ⟨kq, x65_64, rfl, HA, HJ64, HO_1212003, HO_1212006, HO_1225003, HO_1225006, HO_1239003, HO_1239006, BK1184, BK1211, BK1224, BK1238, HB⟩ := hcut
       have hl1225003_64 := (Kd.R_reads' HO_1225003.out).1
       rw [hl1225003_64] at HO_1225003
       (try simp only [hl1225003_64])
       (try simp only [hl1225003_64] at BK1184)
       (try simp only [hl1225003_64] at BK1211)
       (try simp only [hl1225003_64] at BK1224)
       (try simp only [hl1225003_64] at BK1238)
       (try simp only [hl1225003_64] at HO_1212003)
       (try simp only [hl1225003_64] at HO_1212006)
       (try simp only [hl1225003_64] at HO_1225006)
       (try simp only [hl1225003_64] at HO_1239003)
       (try simp only [hl1225003_64] at HO_1239006)
       have hl1225006_64 := (Kd.R_reads' HO_1225006.out).1
       rw [hl1225006_64] at HO_1225006
       (try simp only [hl1225006_64])
       (try simp only [hl1225006_64] at BK1184)
       (try simp only [hl1225006_64] at BK1211)
       (try simp only [hl1225006_64] at BK1224)
       (try simp only [hl1225006_64] at BK1238)
       (try simp only [hl1225006_64] at HO_1212003)
       (try simp only [hl1225006_64] at HO_1212006)
       (try simp only [hl1225006_64] at HO_1225003)
       (try simp only [hl1225006_64] at HO_1239003)
       (try simp only [hl1225006_64] at HO_1239006)
       cases kq with
       | zero => exact absurd HA.out (by simp [laws_FnExactNextDay.j1])
       | succ kj64 =>
        have H := HA.out
        clear HA
        simp only [laws_FnExactNextDay.j1] at H
        by_cases c95 : x65_64 = true
        ·subst c95
         have H1 : (some false) = some true := by first | (rw [if_pos rfl] at H; exact H) | rfl
         clear H
         have H := H1
         clear H1
         exact absurd (Option.some.inj H) Bool.false_ne_true
        ·replace c95 := Bool.eq_false_iff.mpr c95
         subst c95
         have H1 : ((laws_markGarden.f kj64 t1225 t1226 t1227 t1228 t1231 t1232 t1233 t1236 1).bind fun bt1257 => ((laws_heldGarden.f kj64 t1225 t1226 t1227 bt1257.2.1 t1231 t1232 bt1257.2.2 t1236 1).bind fun t1260 => (if t1260 < 0 then (some false) else (if t1260 = bt1257.1 then ((laws_toGarden.f kj64 a0_0 a0_1 a0_2 l0_3 a0_4 a0_5 l0_6 a0_7).bind fun bt1261 => ((impl_NextDay.f kj64 bt1261.1 bt1261.2.1 bt1261.2.2.1 bt1261.2.2.2.1 bt1261.2.2.2.2.1 bt1261.2.2.2.2.2.1 bt1261.2.2.2.2.2.2.1 bt1261.2.2.2.2.2.2.2 a1).bind fun bt1273 => ((laws_eqGarden.f kj64 bt1273.1 bt1273.2.1 bt1273.2.2.1 bt1273.2.2.2.1 bt1273.2.2.2.2.1 bt1273.2.2.2.2.2.1 bt1273.2.2.2.2.2.2.1 bt1273.2.2.2.2.2.2.2.1 t1198 t1199 t1200 t1201 t1204 t1205 t1206 t1209).bind fun t1287 => (if t1287 = true then (laws_FnExactNextDay.j2 kj64 bt1257.1 (bt1273.2.2.2.2.2.2.2.2 != t1210) t1225 t1226 t1227 bt1257.2.1 t1231 t1232 bt1257.2.2 t1236) else (laws_FnExactNextDay.j2 kj64 bt1257.1 true t1225 t1226 t1227 bt1257.2.1 t1231 t1232 bt1257.2.2 t1236))))) else (some false))))) = some true := by rw [if_neg (show ¬ (false = true) by decide)] at H; exact H
         clear H
         have H := H1
         clear H1
         replace H := Option.bind_eq_some_iff.mp H
         obtain ⟨⟨t1257, t1258, t1259⟩, A960, H⟩ := H
         replace H : ((laws_heldGarden.f kj64 t1225 t1226 t1227 t1258 t1231 t1232 t1259 t1236 1).bind fun t1260 => (if t1260 < 0 then (some false) else (if t1260 = t1257 then ((laws_toGarden.f kj64 a0_0 a0_1 a0_2 l0_3 a0_4 a0_5 l0_6 a0_7).bind fun bt1261 => ((impl_NextDay.f kj64 bt1261.1 bt1261.2.1 bt1261.2.2.1 bt1261.2.2.2.1 bt1261.2.2.2.2.1 bt1261.2.2.2.2.2.1 bt1261.2.2.2.2.2.2.1 bt1261.2.2.2.2.2.2.2 a1).bind fun bt1273 => ((laws_eqGarden.f kj64 bt1273.1 bt1273.2.1 bt1273.2.2.1 bt1273.2.2.2.1 bt1273.2.2.2.2.1 bt1273.2.2.2.2.2.1 bt1273.2.2.2.2.2.2.1 bt1273.2.2.2.2.2.2.2.1 t1198 t1199 t1200 t1201 t1204 t1205 t1206 t1209).bind fun t1287 => (if t1287 = true then (laws_FnExactNextDay.j2 kj64 t1257 (bt1273.2.2.2.2.2.2.2.2 != t1210) t1225 t1226 t1227 t1258 t1231 t1232 t1259 t1236) else (laws_FnExactNextDay.j2 kj64 t1257 true t1225 t1226 t1227 t1258 t1231 t1232 t1259 t1236))))) else (some false)))) = some true := H
         have A96 := aK A960
         clear A960
         replace H := Option.bind_eq_some_iff.mp H
         obtain ⟨t1260, A970, H⟩ := H
         replace H : (if t1260 < 0 then (some false) else (if t1260 = t1257 then ((laws_toGarden.f kj64 a0_0 a0_1 a0_2 l0_3 a0_4 a0_5 l0_6 a0_7).bind fun bt1261 => ((impl_NextDay.f kj64 bt1261.1 bt1261.2.1 bt1261.2.2.1 bt1261.2.2.2.1 bt1261.2.2.2.2.1 bt1261.2.2.2.2.2.1 bt1261.2.2.2.2.2.2.1 bt1261.2.2.2.2.2.2.2 a1).bind fun bt1273 => ((laws_eqGarden.f kj64 bt1273.1 bt1273.2.1 bt1273.2.2.1 bt1273.2.2.2.1 bt1273.2.2.2.2.1 bt1273.2.2.2.2.2.1 bt1273.2.2.2.2.2.2.1 bt1273.2.2.2.2.2.2.2.1 t1198 t1199 t1200 t1201 t1204 t1205 t1206 t1209).bind fun t1287 => (if t1287 = true then (laws_FnExactNextDay.j2 kj64 t1257 (bt1273.2.2.2.2.2.2.2.2 != t1210) t1225 t1226 t1227 t1258 t1231 t1232 t1259 t1236) else (laws_FnExactNextDay.j2 kj64 t1257 true t1225 t1226 t1227 t1258 t1231 t1232 t1259 t1236))))) else (some false))) = some true := H
         have A97 := aK A970
         clear A970
         by_cases c98 : t1260 < 0
         ·rw [if_pos c98] at H
          have c98b0 : decide (t1260 < 0) = true := decide_eq_true c98
          clear c98
          exact absurd (Option.some.inj H) Bool.false_ne_true
         ·rw [if_neg c98] at H
          have c98b0 : decide (t1260 < 0) = false := decide_eq_false c98
          clear c98
          by_cases c99 : t1260 = t1257
          ·rw [if_pos c99] at H
           have c99b0 : (t1260 == t1257) = true := beq_iff_eq.mpr c99
           have c99b1 : (t1260 != t1257) = false := bne_eq_false_iff_eq.mpr c99
           clear c99
           replace H := Option.bind_eq_some_iff.mp H
           obtain ⟨⟨t1261, t1262, t1263, t1264, t1267, t1268, t1269, t1272⟩, A1000, H⟩ := H
           replace H : ((impl_NextDay.f kj64 t1261 t1262 t1263 t1264 t1267 t1268 t1269 t1272 a1).bind fun bt1273 => ((laws_eqGarden.f kj64 bt1273.1 bt1273.2.1 bt1273.2.2.1 bt1273.2.2.2.1 bt1273.2.2.2.2.1 bt1273.2.2.2.2.2.1 bt1273.2.2.2.2.2.2.1 bt1273.2.2.2.2.2.2.2.1 t1198 t1199 t1200 t1201 t1204 t1205 t1206 t1209).bind fun t1287 => (if t1287 = true then (laws_FnExactNextDay.j2 kj64 t1257 (bt1273.2.2.2.2.2.2.2.2 != t1210) t1225 t1226 t1227 t1258 t1231 t1232 t1259 t1236) else (laws_FnExactNextDay.j2 kj64 t1257 true t1225 t1226 t1227 t1258 t1231 t1232 t1259 t1236)))) = some true := H
           have A100 := aK A1000
           clear A1000
           replace H := Option.bind_eq_some_iff.mp H
           obtain ⟨⟨t1273, t1274, t1275, t1276, t1279, t1280, t1281, t1284, t1285⟩, A1010, H⟩ := H
           replace H : ((laws_eqGarden.f kj64 t1273 t1274 t1275 t1276 t1279 t1280 t1281 t1284 t1198 t1199 t1200 t1201 t1204 t1205 t1206 t1209).bind fun t1287 => (if t1287 = true then (laws_FnExactNextDay.j2 kj64 t1257 (t1285 != t1210) t1225 t1226 t1227 t1258 t1231 t1232 t1259 t1236) else (laws_FnExactNextDay.j2 kj64 t1257 true t1225 t1226 t1227 t1258 t1231 t1232 t1259 t1236))) = some true := H
           have A101 := aK A1010
           clear A1010
           have HC102 := aK H
           clear H
           have hnb103 := NB1238_1184.out
           have hnc103 := NB1184_1238.out
           have hnb104 := NB1238_1211.out
           have hnc104 := NB1211_1238.out
           have hnb105 := NB1238_1224.out
           have hnc105 := NB1224_1238.out
           obtain ⟨hcz106_0, hcz106_1, hcz106_2, hcz106_3, hcz106_4, hcz106_5, hcz106_6, hcz106_7, hfz106_0, hfz106_1, hfz106_2, hfz106_3, hfz106_4, hfz106_5, hfz106_6, hfz106_7⟩ := cl8 BK1238.out
           go_upto_region 25 with (first | ((with_reducible refine gate_callee (f := 20) rfl ?_); refine goesL_ (some 68) rfl rfl Tryz.func20 (by kernel_rfl) rfl #[.agg #[.int .i64 t1225, .int .i64 t1226, .int .i64 t1227, .slice Ao40 t1228.length co40, .int .i64 t1231, .int .i64 t1232, .slice Ao41 t1233.length co41, .int .i64 t1236], .int .i64 1] rfl zD ?_; (with_reducible refine (laws_markGarden.calls kj64 t1225 t1226 t1227 (fun k_ => some k_ = (.slice Ao40 t1228.length co40 : Value).ownBlock) (.slice Ao40 t1228.length co40) t1228 t1231 t1232 (fun k_ => some k_ = (.slice Ao41 t1233.length co41 : Value).ownBlock) (.slice Ao41 t1233.length co41) t1233 t1236 1 t1257 t1258 t1259 w _ ?side1 ?side2 ?side3 ?side4 ?side5 A96.out).mono ?_); (case side1 => exact (zH4 HB GE1184 GE1211 GE1224 GE1238)); (case side2 => exact Kd.R_tight rfl HO_1239003.out); (case side3 => exact fun k_ e_ => (HO_1239003.out.1 k_ e_.symm).2.2.2.2); (case side4 => exact Kd.R_tight rfl HO_1239006.out); (case side5 => exact fun k_ e_ => (HO_1239006.out.1 k_ e_.symm).2.2.2.2); rintro e w107 ⟨rfl, hy0, hy1, hb, hkp⟩; refine ⟨_, rfl, ?_⟩; replace HO_1212003 := aK (Kd.R_mono (ok' := fun k_ => some k_ ≠ (.slice Ao25 t1206.length co25 : Value).ownBlock ∧ some k_ ≠ (.slice Ao32 t1254.length co32 : Value).ownBlock ∧ some k_ ≠ (.slice Ao33 t1255.length co33 : Value).ownBlock ∧ some k_ ≠ (.slice Ao40 t1228.length co40 : Value).ownBlock ∧ some k_ ≠ (.slice Ao41 t1233.length co41 : Value).ownBlock) (Kd.R_keptB (HO_1212003.out) hkp (fun k_ hk_ hs_ => Or.elim hs_ (hk_.2.2.2.1) (hk_.2.2.2.2))) (fun k_ hk_ => ⟨hk_.1.1, hk_.1.2.1, hk_.1.2.2.1, hk_.1.2.2.2.1, hk_.1.2.2.2.2⟩)); replace HO_1212006 := aK (Kd.R_mono (ok' := fun k_ => some k_ ≠ (.slice Ao24 t1201.length co24 : Value).ownBlock ∧ some k_ ≠ (.slice Ao32 t1254.length co32 : Value).ownBlock ∧ some k_ ≠ (.slice Ao33 t1255.length co33 : Value).ownBlock ∧ some k_ ≠ (.slice Ao40 t1228.length co40 : Value).ownBlock ∧ some k_ ≠ (.slice Ao41 t1233.length co41 : Value).ownBlock) (Kd.R_keptB (HO_1212006.out) hkp (fun k_ hk_ hs_ => Or.elim hs_ (hk_.2.2.2.1) (hk_.2.2.2.2))) (fun k_ hk_ => ⟨hk_.1.1, hk_.1.2.1, hk_.1.2.2.1, hk_.1.2.2.2.1, hk_.1.2.2.2.2⟩)); replace HO_1225003 := aK (Kd.R_mono (ok' := fun k_ => some k_ ≠ (.slice Ao24 t1201.length co24 : Value).ownBlock ∧ some k_ ≠ (.slice Ao25 t1206.length co25 : Value).ownBlock ∧ some k_ ≠ (.slice Ao33 t1255.length co33 : Value).ownBlock ∧ some k_ ≠ (.slice Ao40 t1228.length co40 : Value).ownBlock ∧ some k_ ≠ (.slice Ao41 t1233.length co41 : Value).ownBlock) (Kd.R_keptB (HO_1225003.out) hkp (fun k_ hk_ hs_ => Or.elim hs_ (hk_.2.2.2.1) (hk_.2.2.2.2))) (fun k_ hk_ => ⟨hk_.1.1, hk_.1.2.1, hk_.1.2.2.1, hk_.1.2.2.2.1, hk_.1.2.2.2.2⟩)); replace HO_1225006 := aK (Kd.R_mono (ok' := fun k_ => some k_ ≠ (.slice Ao24 t1201.length co24 : Value).ownBlock ∧ some k_ ≠ (.slice Ao25 t1206.length co25 : Value).ownBlock ∧ some k_ ≠ (.slice Ao32 t1254.length co32 : Value).ownBlock ∧ some k_ ≠ (.slice Ao40 t1228.length co40 : Value).ownBlock ∧ some k_ ≠ (.slice Ao41 t1233.length co41 : Value).ownBlock) (Kd.R_keptB (HO_1225006.out) hkp (fun k_ hk_ hs_ => Or.elim hs_ (hk_.2.2.2.1) (hk_.2.2.2.2))) (fun k_ hk_ => ⟨hk_.1.1, hk_.1.2.1, hk_.1.2.2.1, hk_.1.2.2.2.1, hk_.1.2.2.2.2⟩)); replace BK1184 := aK (blk_kept (zK BK1184) hkp (fun hs_ => Or.elim hs_ (Kd.R_ne HO_1239003.out BK1184.out (by decide)) (Kd.R_ne HO_1239006.out BK1184.out (by decide)))); replace BK1211 := aK (blk_kept (zK BK1211) hkp (fun hs_ => Or.elim hs_ (Kd.R_ne HO_1239003.out BK1211.out (by decide)) (Kd.R_ne HO_1239006.out BK1211.out (by decide)))); replace BK1224 := aK (blk_kept (zK BK1224) hkp (fun hs_ => Or.elim hs_ (Kd.R_ne HO_1239003.out BK1224.out (by decide)) (Kd.R_ne HO_1239006.out BK1224.out (by decide)))); replace BK1238 := aK (blk_kept (zK BK1238) hkp (fun hs_ => Or.elim hs_ (Kd.R_ne HO_1239003.out BK1238.out (by decide)) (Kd.R_ne HO_1239006.out BK1238.out (by decide)))); replace HO_1239003 := aK (Kd.R_reok rfl hy0 (fun k_ e_ => HO_1239003.out.1 k_ e_)); replace HO_1239006 := aK (Kd.R_reok rfl hy1 (fun k_ e_ => HO_1239006.out.1 k_ e_)); replace HB := aK (hb); (try clear hb); (try clear hkp); (try clear hy0); (try clear hy1); obtain ⟨hcz108_0, hcz108_1, hcz108_2, hcz108_3, hcz108_4, hcz108_5, hcz108_6, hcz108_7, hfz108_0, hfz108_1, hfz108_2, hfz108_3, hfz108_4, hfz108_5, hfz108_6, hfz108_7⟩ := cl8 BK1238.out) | ((with_reducible refine gate_callee (f := 21) rfl ?_); refine goesL_ (some 71) rfl rfl Tryz.func21 (by kernel_rfl) rfl #[.agg #[.int .i64 t1225, .int .i64 t1226, .int .i64 t1227, .slice Ao40 t1258.length co40, .int .i64 t1231, .int .i64 t1232, .slice Ao41 t1259.length co41, .int .i64 t1236], .int .i64 1] rfl (by (try simp only [List.map_toArray, List.map_cons, List.map_nil]); first | done | (rw [show t1258.length = t1228.length from (Kd.R_reads' HO_1239003.out).1.symm, show t1259.length = t1233.length from (Kd.R_reads' HO_1239006.out).1.symm] <;> rfl) | rfl | (simp only [List.length_drop, List.length_take]; rfl)) ?_; (with_reducible refine (laws_heldGarden.calls kj64 t1225 t1226 t1227 _ _ t1258 t1231 t1232 _ _ t1259 t1236 1 t1260 _ ?side1 ?side2 ?side3 ?side4 A97.out).mono ?_); (case side1 => exact zC (Kd.R_reads' HO_1239003.out).2.2); (case side2 => rw [show t1258.length = t1228.length from (Kd.R_reads' HO_1239003.out).1.symm]; exact (Kd.R_reads' HO_1239003.out).2.1); (case side3 => exact zC (Kd.R_reads' HO_1239006.out).2.2); (case side4 => rw [show t1259.length = t1233.length from (Kd.R_reads' HO_1239006.out).1.symm]; exact (Kd.R_reads' HO_1239006.out).2.1); rintro e w109 ⟨rfl, hb⟩; refine ⟨_, rfl, ?_⟩; replace HO_1212003 := aK (Kd.R_below (zA HO_1212003) hb); replace HO_1212006 := aK (Kd.R_below (zA HO_1212006) hb); replace HO_1225003 := aK (Kd.R_below (zA HO_1225003) hb); replace HO_1225006 := aK (Kd.R_below (zA HO_1225006) hb); replace HO_1239003 := aK (Kd.R_below (zA HO_1239003) hb); replace HO_1239006 := aK (Kd.R_below (zA HO_1239006) hb); replace BK1184 := zB BK1184 hb; replace BK1211 := zB BK1211 hb; replace BK1224 := zB BK1224 hb; replace BK1238 := zB BK1238 hb; replace HB := aK (bSp (zH4 HB GE1184 GE1211 GE1224 GE1238) hb); (try clear hb); (try clear hb2); (try clear hk); (try clear hi); have hnb110 := NB1184_1211.out; have hnc110 := NB1211_1184.out; have hnb111 := NB1184_1224.out; have hnc111 := NB1224_1184.out; obtain ⟨hcz112_0, hcz112_1, hcz112_2, hcz112_3, hcz112_4, hcz112_5, hcz112_6, hcz112_7, hfz112_0, hfz112_1, hfz112_2, hfz112_3, hfz112_4, hfz112_5, hfz112_6, hfz112_7⟩ := cl8 BK1184.out) | ((with_reducible refine gate_callee (f := 17) rfl ?_); refine goesL_ (some 79) rfl rfl Tryz.func17 (by kernel_rfl) rfl #[.agg #[.int .i64 a0_0, .int .i64 a0_1, .int .i64 a0_2, .slice A0_3 l0_3.length c0_3, .int .i64 a0_4, .int .i64 a0_5, .slice A0_6 l0_6.length c0_6, .int .i64 a0_7]] rfl zD ?_; (with_reducible refine (laws_toGarden.calls kj64 a0_0 a0_1 a0_2 _ _ l0_3 a0_4 a0_5 _ _ l0_6 a0_7 t1261 t1262 t1263 t1264 t1267 t1268 t1269 t1272 _ ?side1 ?side2 ?side3 ?side4 A100.out).mono ?_); (case side1 => exact zC (Kd.C_below HR0_3.out HB.out)); (case side2 => exact HC0_3.out); (case side3 => exact zC (Kd.C_below HR0_6.out HB.out)); (case side4 => exact HC0_6.out); rintro e w113 ⟨v1265, v1270, rfl, ho0, ho1, hb⟩; refine ⟨_, rfl, ?_⟩; have HO1266 := aK (Kd.R_lower (Kd.R_new' (Kd.R_new' (Kd.R_new' (Kd.R_new' (Kd.R_new' (Kd.R_new' ho0 (Kd.R_lt (zA HO_1212003))) (Kd.R_lt (zA HO_1212006))) (Kd.R_lt (zA HO_1225003))) (Kd.R_lt (zA HO_1225006))) (Kd.R_lt (zA HO_1239003))) (Kd.R_lt (zA HO_1239006))) (bSz (zH4 HB GE1184 GE1211 GE1224 GE1238))); have HO1271 := aK (Kd.R_lower (Kd.R_new' (Kd.R_new' (Kd.R_new' (Kd.R_new' (Kd.R_new' (Kd.R_new' ho1 (Kd.R_lt (zA HO_1212003))) (Kd.R_lt (zA HO_1212006))) (Kd.R_lt (zA HO_1225003))) (Kd.R_lt (zA HO_1225006))) (Kd.R_lt (zA HO_1239003))) (Kd.R_lt (zA HO_1239006))) (bSz (zH4 HB GE1184 GE1211 GE1224 GE1238))); replace HO_1212003 := aK (Kd.R_mono (Kd.R_told (Kd.R_told (Kd.R_old (zA HO_1212003) hb) (Kd.R_base ho0)) (Kd.R_base ho1)) (fun _ h_ => h_.1)); replace HO_1212006 := aK (Kd.R_mono (Kd.R_told (Kd.R_told (Kd.R_old (zA HO_1212006) hb) (Kd.R_base ho0)) (Kd.R_base ho1)) (fun _ h_ => h_.1)); replace HO_1225003 := aK (Kd.R_mono (Kd.R_told (Kd.R_told (Kd.R_old (zA HO_1225003) hb) (Kd.R_base ho0)) (Kd.R_base ho1)) (fun _ h_ => h_.1)); replace HO_1225006 := aK (Kd.R_mono (Kd.R_told (Kd.R_told (Kd.R_old (zA HO_1225006) hb) (Kd.R_base ho0)) (Kd.R_base ho1)) (fun _ h_ => h_.1)); replace HO_1239003 := aK (Kd.R_mono (Kd.R_told (Kd.R_told (Kd.R_old (zA HO_1239003) hb) (Kd.R_base ho0)) (Kd.R_base ho1)) (fun _ h_ => h_.1)); replace HO_1239006 := aK (Kd.R_mono (Kd.R_told (Kd.R_told (Kd.R_old (zA HO_1239006) hb) (Kd.R_base ho0)) (Kd.R_base ho1)) (fun _ h_ => h_.1)); replace BK1184 := zB BK1184 hb; replace BK1211 := zB BK1211 hb; replace BK1224 := zB BK1224 hb; replace BK1238 := zB BK1238 hb; replace HB := aK (bSp (zH4 HB GE1184 GE1211 GE1224 GE1238) hb); (try clear hb); (try clear hb2); (try clear hk); (try clear hi); (try clear ho0); (try clear ho1); obtain ⟨Ao114, co114, eo114⟩ := Kd.R_slice HO1266.out; subst eo114; obtain ⟨Ao115, co115, eo115⟩ := Kd.R_slice HO1271.out; subst eo115) | ((with_reducible refine gate_callee (f := 27) rfl ?_); refine goesL_ (some 81) rfl rfl Tryz.func27 (by kernel_rfl) rfl #[.agg #[.int .i64 t1261, .int .i64 t1262, .int .i64 t1263, .slice Ao114 t1264.length co114, .int .i64 t1267, .int .i64 t1268, .slice Ao115 t1269.length co115, .int .i64 t1272], .int .i64 a1] rfl zD ?_; (with_reducible refine (impl_NextDay.calls kj64 t1261 t1262 t1263 _ _ t1264 t1267 t1268 _ _ t1269 t1272 a1 t1273 t1274 t1275 t1276 t1279 t1280 t1281 t1284 t1285 _ ?side1 ?side2 ?side3 ?side4 A101.out).mono ?_); (case side1 => exact zC (Kd.R_reads' HO1266.out).2.2); (case side2 => exact (Kd.R_reads' HO1266.out).2.1); (case side3 => exact zC (Kd.R_reads' HO1271.out).2.2); (case side4 => exact (Kd.R_reads' HO1271.out).2.1); rintro e w116 ⟨v1277, v1282, rfl, ho0, ho1, hb⟩; refine ⟨_, rfl, ?_⟩; have HO1278 := aK (Kd.R_lower (Kd.R_new' (Kd.R_new' (Kd.R_new' (Kd.R_new' (Kd.R_new' (Kd.R_new' (Kd.R_new' (Kd.R_new' ho0 (Kd.R_lt (zA HO_1212003))) (Kd.R_lt (zA HO_1212006))) (Kd.R_lt (zA HO_1225003))) (Kd.R_lt (zA HO_1225006))) (Kd.R_lt (zA HO_1239003))) (Kd.R_lt (zA HO_1239006))) (Kd.R_lt (zA HO1266))) (Kd.R_lt (zA HO1271))) (bSz (zH4 HB GE1184 GE1211 GE1224 GE1238))); have HO1283 := aK (Kd.R_lower (Kd.R_new' (Kd.R_new' (Kd.R_new' (Kd.R_new' (Kd.R_new' (Kd.R_new' (Kd.R_new' (Kd.R_new' ho1 (Kd.R_lt (zA HO_1212003))) (Kd.R_lt (zA HO_1212006))) (Kd.R_lt (zA HO_1225003))) (Kd.R_lt (zA HO_1225006))) (Kd.R_lt (zA HO_1239003))) (Kd.R_lt (zA HO_1239006))) (Kd.R_lt (zA HO1266))) (Kd.R_lt (zA HO1271))) (bSz (zH4 HB GE1184 GE1211 GE1224 GE1238))); replace HO_1212003 := aK (Kd.R_mono (Kd.R_told (Kd.R_told (Kd.R_old (zA HO_1212003) hb) (Kd.R_base ho0)) (Kd.R_base ho1)) (fun _ h_ => h_.1)); replace HO_1212006 := aK (Kd.R_mono (Kd.R_told (Kd.R_told (Kd.R_old (zA HO_1212006) hb) (Kd.R_base ho0)) (Kd.R_base ho1)) (fun _ h_ => h_.1)); replace HO_1225003 := aK (Kd.R_mono (Kd.R_told (Kd.R_told (Kd.R_old (zA HO_1225003) hb) (Kd.R_base ho0)) (Kd.R_base ho1)) (fun _ h_ => h_.1)); replace HO_1225006 := aK (Kd.R_mono (Kd.R_told (Kd.R_told (Kd.R_old (zA HO_1225006) hb) (Kd.R_base ho0)) (Kd.R_base ho1)) (fun _ h_ => h_.1)); replace HO_1239003 := aK (Kd.R_mono (Kd.R_told (Kd.R_told (Kd.R_old (zA HO_1239003) hb) (Kd.R_base ho0)) (Kd.R_base ho1)) (fun _ h_ => h_.1)); replace HO_1239006 := aK (Kd.R_mono (Kd.R_told (Kd.R_told (Kd.R_old (zA HO_1239006) hb) (Kd.R_base ho0)) (Kd.R_base ho1)) (fun _ h_ => h_.1)); replace HO1266 := aK (Kd.R_mono (Kd.R_told (Kd.R_told (Kd.R_old (zA HO1266) hb) (Kd.R_base ho0)) (Kd.R_base ho1)) (fun _ h_ => h_.1)); replace HO1271 := aK (Kd.R_mono (Kd.R_told (Kd.R_told (Kd.R_old (zA HO1271) hb) (Kd.R_base ho0)) (Kd.R_base ho1)) (fun _ h_ => h_.1)); replace BK1184 := zB BK1184 hb; replace BK1211 := zB BK1211 hb; replace BK1224 := zB BK1224 hb; replace BK1238 := zB BK1238 hb; replace HB := aK (bSp (zH4 HB GE1184 GE1211 GE1224 GE1238) hb); (try clear hb); (try clear hb2); (try clear hk); (try clear hi); (try clear ho0); (try clear ho1)) | ((with_reducible refine gate_dst (N := 14) rfl ?_); refine box_event ?hg (N := 14) ?hd (cs := #[.int .i64 0, .int .i64 0, .int .i64 0, .slice none 0 0, .int .i64 0, .int .i64 0, .slice none 0 0, .int .i64 0]) (t := 38) ?hr ?_; (case hd => rfl); (case hg => rfl); (case hr => first | (go_simp; done) | (go_simp; rfl)); intro gb1286 hg w117 hbox hb; replace HO_1212003 := aK (Kd.R_below (zA HO_1212003) hb); replace HO_1212006 := aK (Kd.R_below (zA HO_1212006) hb); replace HO_1225003 := aK (Kd.R_below (zA HO_1225003) hb); replace HO_1225006 := aK (Kd.R_below (zA HO_1225006) hb); replace HO_1239003 := aK (Kd.R_below (zA HO_1239003) hb); replace HO_1239006 := aK (Kd.R_below (zA HO_1239006) hb); replace HO1266 := aK (Kd.R_below (zA HO1266) hb); replace HO1271 := aK (Kd.R_below (zA HO1271) hb); replace HO1278 := aK (Kd.R_below (zA HO1278) hb); replace HO1283 := aK (Kd.R_below (zA HO1283) hb); have BK1286 := aK (hbox); have GW1286 := aK ((by rw [hg]; exact (bSz (zH4 HB GE1184 GE1211 GE1224 GE1238)) : w.heap.size ≤ gb1286)); replace HB := aK (bSp (zH4 HB GE1184 GE1211 GE1224 GE1238) hb); have GE1286 := GW1286; have NB1184_1286 := nbl BK1184 hg (by intro z_; (with_reducible repeat (first | refine blk_drewN ?_ _ | refine kD ?_ | refine kA ?_ _)); exact z_); replace BK1184 := zB BK1184 hb; have NB1286_1184 := nbs NB1184_1286; have NB1211_1286 := nbl BK1211 hg (by intro z_; (with_reducible repeat (first | refine blk_drewN ?_ _ | refine kD ?_ | refine kA ?_ _)); exact z_); replace BK1211 := zB BK1211 hb; have NB1286_1211 := nbs NB1211_1286; have NB1224_1286 := nbl BK1224 hg (by intro z_; (with_reducible repeat (first | refine blk_drewN ?_ _ | refine kD ?_ | refine kA ?_ _)); exact z_); replace BK1224 := zB BK1224 hb; have NB1286_1224 := nbs NB1224_1286; have NB1238_1286 := nbl BK1238 hg (by intro z_; (with_reducible repeat (first | refine blk_drewN ?_ _ | refine kD ?_ | refine kA ?_ _)); exact z_); replace BK1238 := zB BK1238 hb; have NB1286_1238 := nbs NB1238_1286; clear hb hbox hg; have hnb118 := NB1286_1184.out; have hnc118 := NB1184_1286.out; have hnb119 := NB1286_1211.out; have hnc119 := NB1211_1286.out; have hnb120 := NB1286_1224.out; have hnc120 := NB1224_1286.out; have hnb121 := NB1286_1238.out; have hnc121 := NB1238_1286.out; obtain ⟨hcz122_0, hcz122_1, hcz122_2, hcz122_3, hcz122_4, hcz122_5, hcz122_6, hcz122_7, hfz122_0, hfz122_1, hfz122_2, hfz122_3, hfz122_4, hfz122_5, hfz122_6, hfz122_7⟩ := cl8 BK1286.out; obtain ⟨Ao123, co123, eo123⟩ := Kd.R_slice HO1278.out; subst eo123; obtain ⟨Ao124, co124, eo124⟩ := Kd.R_slice HO1283.out; subst eo124))
           (try simp only [Act.put, sTA, sZ, sS])
           go_cut [92] (fun v92 wc => ∃ (kq : Nat) (x92_101 : Bool), v92 = .bool x92_101 ∧ Aside0 (laws_FnExactNextDay.j2 kq t1257 x92_101 t1225 t1226 t1227 t1258 t1231 t1232 t1259 t1236 = some true) ∧ Aside0 (kq ≤ kj64) ∧ Aside0 (Kd.R (Kd.int .i64) 3 wc w.heap.size (fun k_ => some k_ ≠ ((.slice Ao25 t1206.length co25) : Value).ownBlock ∧ some k_ ≠ ((.slice Ao32 t1254.length co32) : Value).ownBlock ∧ some k_ ≠ ((.slice Ao33 t1255.length co33) : Value).ownBlock ∧ some k_ ≠ ((.slice Ao40 t1228.length co40) : Value).ownBlock ∧ some k_ ≠ ((.slice Ao41 t1233.length co41) : Value).ownBlock ∧ some k_ ≠ ((.slice Ao123 t1276.length co123) : Value).ownBlock ∧ some k_ ≠ ((.slice Ao124 t1281.length co124) : Value).ownBlock) (.slice Ao24 t1201.length co24) t1201) ∧ Aside0 (Kd.R (Kd.int .i64) 3 wc w.heap.size (fun k_ => some k_ ≠ ((.slice Ao24 t1201.length co24) : Value).ownBlock ∧ some k_ ≠ ((.slice Ao32 t1254.length co32) : Value).ownBlock ∧ some k_ ≠ ((.slice Ao33 t1255.length co33) : Value).ownBlock ∧ some k_ ≠ ((.slice Ao40 t1228.length co40) : Value).ownBlock ∧ some k_ ≠ ((.slice Ao41 t1233.length co41) : Value).ownBlock ∧ some k_ ≠ ((.slice Ao123 t1276.length co123) : Value).ownBlock ∧ some k_ ≠ ((.slice Ao124 t1281.length co124) : Value).ownBlock) (.slice Ao25 t1206.length co25) t1206) ∧ Aside0 (Kd.R (Kd.int .i64) 3 wc w.heap.size (fun k_ => some k_ ≠ ((.slice Ao24 t1201.length co24) : Value).ownBlock ∧ some k_ ≠ ((.slice Ao25 t1206.length co25) : Value).ownBlock ∧ some k_ ≠ ((.slice Ao33 t1255.length co33) : Value).ownBlock ∧ some k_ ≠ ((.slice Ao40 t1228.length co40) : Value).ownBlock ∧ some k_ ≠ ((.slice Ao41 t1233.length co41) : Value).ownBlock ∧ some k_ ≠ ((.slice Ao123 t1276.length co123) : Value).ownBlock ∧ some k_ ≠ ((.slice Ao124 t1281.length co124) : Value).ownBlock) (.slice Ao32 t1254.length co32) t1254) ∧ Aside0 (Kd.R (Kd.int .i64) 3 wc w.heap.size (fun k_ => some k_ ≠ ((.slice Ao24 t1201.length co24) : Value).ownBlock ∧ some k_ ≠ ((.slice Ao25 t1206.length co25) : Value).ownBlock ∧ some k_ ≠ ((.slice Ao32 t1254.length co32) : Value).ownBlock ∧ some k_ ≠ ((.slice Ao40 t1228.length co40) : Value).ownBlock ∧ some k_ ≠ ((.slice Ao41 t1233.length co41) : Value).ownBlock ∧ some k_ ≠ ((.slice Ao123 t1276.length co123) : Value).ownBlock ∧ some k_ ≠ ((.slice Ao124 t1281.length co124) : Value).ownBlock) (.slice Ao33 t1255.length co33) t1255) ∧ Aside0 (Kd.R (Kd.int .i64) 3 wc w.heap.size (fun k_ => some k_ ≠ ((.slice Ao24 t1201.length co24) : Value).ownBlock ∧ some k_ ≠ ((.slice Ao25 t1206.length co25) : Value).ownBlock ∧ some k_ ≠ ((.slice Ao32 t1254.length co32) : Value).ownBlock ∧ some k_ ≠ ((.slice Ao33 t1255.length co33) : Value).ownBlock ∧ some k_ ≠ ((.slice Ao41 t1233.length co41) : Value).ownBlock ∧ some k_ ≠ ((.slice Ao123 t1276.length co123) : Value).ownBlock ∧ some k_ ≠ ((.slice Ao124 t1281.length co124) : Value).ownBlock) (.slice Ao40 t1228.length co40) t1258) ∧ Aside0 (Kd.R (Kd.int .i64) 3 wc w.heap.size (fun k_ => some k_ ≠ ((.slice Ao24 t1201.length co24) : Value).ownBlock ∧ some k_ ≠ ((.slice Ao25 t1206.length co25) : Value).ownBlock ∧ some k_ ≠ ((.slice Ao32 t1254.length co32) : Value).ownBlock ∧ some k_ ≠ ((.slice Ao33 t1255.length co33) : Value).ownBlock ∧ some k_ ≠ ((.slice Ao40 t1228.length co40) : Value).ownBlock ∧ some k_ ≠ ((.slice Ao123 t1276.length co123) : Value).ownBlock ∧ some k_ ≠ ((.slice Ao124 t1281.length co124) : Value).ownBlock) (.slice Ao41 t1233.length co41) t1259) ∧ Aside0 (Kd.R (Kd.int .i64) 3 wc w.heap.size (fun k_ => some k_ ≠ ((.slice Ao24 t1201.length co24) : Value).ownBlock ∧ some k_ ≠ ((.slice Ao25 t1206.length co25) : Value).ownBlock ∧ some k_ ≠ ((.slice Ao32 t1254.length co32) : Value).ownBlock ∧ some k_ ≠ ((.slice Ao33 t1255.length co33) : Value).ownBlock ∧ some k_ ≠ ((.slice Ao40 t1228.length co40) : Value).ownBlock ∧ some k_ ≠ ((.slice Ao41 t1233.length co41) : Value).ownBlock ∧ some k_ ≠ ((.slice Ao124 t1281.length co124) : Value).ownBlock) (.slice Ao123 t1276.length co123) t1276) ∧ Aside0 (Kd.R (Kd.int .i64) 3 wc w.heap.size (fun k_ => some k_ ≠ ((.slice Ao24 t1201.length co24) : Value).ownBlock ∧ some k_ ≠ ((.slice Ao25 t1206.length co25) : Value).ownBlock ∧ some k_ ≠ ((.slice Ao32 t1254.length co32) : Value).ownBlock ∧ some k_ ≠ ((.slice Ao33 t1255.length co33) : Value).ownBlock ∧ some k_ ≠ ((.slice Ao40 t1228.length co40) : Value).ownBlock ∧ some k_ ≠ ((.slice Ao41 t1233.length co41) : Value).ownBlock ∧ some k_ ≠ ((.slice Ao123 t1276.length co123) : Value).ownBlock) (.slice Ao124 t1281.length co124) t1281) ∧ Aside0 (wc.heap[gb1184]? = some (.cells #[.int .i64 a0_0, .int .i64 a0_1, .int .i64 a0_2, (.slice A0_3 l0_3.length c0_3), .int .i64 a0_4, .int .i64 a0_5, (.slice A0_6 l0_6.length c0_6), .int .i64 a0_7] 30 (0, 0))) ∧ Aside0 (wc.heap[gb1211]? = some (.cells #[.int .i64 t1198, .int .i64 t1199, .int .i64 t1200, (.slice Ao24 t1201.length co24), .int .i64 t1204, .int .i64 t1205, (.slice Ao25 t1206.length co25), .int .i64 t1209] 38 (0, 0))) ∧ Aside0 (wc.heap[gb1224]? = some (.cells #[.int .i64 t1212, .int .i64 t1213, .int .i64 t1214, (.slice Ao32 t1254.length co32), .int .i64 t1218, .int .i64 t1219, (.slice Ao33 t1255.length co33), .int .i64 t1223] 38 (0, 0))) ∧ Aside0 (wc.heap[gb1238]? = some (.cells #[.int .i64 t1225, .int .i64 t1226, .int .i64 t1227, (.slice Ao40 t1228.length co40), .int .i64 t1231, .int .i64 t1232, (.slice Ao41 t1233.length co41), .int .i64 t1236] 38 (0, 0))) ∧ Aside0 (wc.heap[gb1286]? = some (.cells #[.int .i64 t1273, .int .i64 t1274, .int .i64 t1275, (.slice Ao123 t1276.length co123), .int .i64 t1279, .int .i64 t1280, (.slice Ao124 t1281.length co124), .int .i64 t1284] 38 (0, 0))) ∧ Aside0 (Below w.heap.size w wc))
           case first =>
            have H := HC102.out
            clear HC102
            replace H := Option.bind_eq_some_iff.mp H
            obtain ⟨t1287, A1250, H⟩ := H
            replace H : (if t1287 = true then (laws_FnExactNextDay.j2 kj64 t1257 (t1285 != t1210) t1225 t1226 t1227 t1258 t1231 t1232 t1259 t1236) else (laws_FnExactNextDay.j2 kj64 t1257 true t1225 t1226 t1227 t1258 t1231 t1232 t1259 t1236)) = some true := H
            have A125 := aK A1250
            clear A1250
            by_cases c126 : t1287 = true
            ·subst c126
             have H1 : (laws_FnExactNextDay.j2 kj64 t1257 (t1285 != t1210) t1225 t1226 t1227 t1258 t1231 t1232 t1259 t1236) = some true := by first | (rw [if_pos rfl] at H; exact H) | rfl
             clear H
             have H := H1
             clear H1
             have H' := aK H
             clear H
             have hnb127 := NB1286_1184.out
             have hnc127 := NB1184_1286.out
             have hnb128 := NB1286_1211.out
             have hnc128 := NB1211_1286.out
             have hnb129 := NB1286_1224.out
             have hnc129 := NB1224_1286.out
             have hnb130 := NB1286_1238.out
             have hnc130 := NB1238_1286.out
             obtain ⟨hcz131_0, hcz131_1, hcz131_2, hcz131_3, hcz131_4, hcz131_5, hcz131_6, hcz131_7, hfz131_0, hfz131_1, hfz131_2, hfz131_3, hfz131_4, hfz131_5, hfz131_6, hfz131_7⟩ := cl8 BK1286.out
             have hnb132 := NB1211_1184.out
             have hnc132 := NB1184_1211.out
             have hnb133 := NB1211_1224.out
             have hnc133 := NB1224_1211.out
             have hnb134 := NB1211_1238.out
             have hnc134 := NB1238_1211.out
             obtain ⟨hcz135_0, hcz135_1, hcz135_2, hcz135_3, hcz135_4, hcz135_5, hcz135_6, hcz135_7, hfz135_0, hfz135_1, hfz135_2, hfz135_3, hfz135_4, hfz135_5, hfz135_6, hfz135_7⟩ := cl8 BK1211.out
             go_wp2_with (first | ((with_reducible refine gate_callee (f := 19) rfl ?_); refine goesL_ (some 86) rfl rfl Tryz.func19 (by kernel_rfl) rfl #[.agg #[.int .i64 t1273, .int .i64 t1274, .int .i64 t1275, .slice Ao123 t1276.length co123, .int .i64 t1279, .int .i64 t1280, .slice Ao124 t1281.length co124, .int .i64 t1284], .agg #[.int .i64 t1198, .int .i64 t1199, .int .i64 t1200, .slice Ao24 t1201.length co24, .int .i64 t1204, .int .i64 t1205, .slice Ao25 t1206.length co25, .int .i64 t1209]] rfl zD ?_; (with_reducible refine (laws_eqGarden.calls kj64 t1273 t1274 t1275 _ _ t1276 t1279 t1280 _ _ t1281 t1284 t1198 t1199 t1200 _ _ t1201 t1204 t1205 _ _ t1206 t1209 true _ ?side1 ?side2 ?side3 ?side4 ?side5 ?side6 ?side7 ?side8 A125.out).mono ?_); (case side1 => refine (Kd.R_reads' (e := 3) (base := w.heap.size) (ok := fun k_ => ((((((((some k_ ≠ (.slice Ao124 t1281.length co124 : Value).ownBlock ∧ some k_ ≠ (.slice Ao24 t1201.length co24 : Value).ownBlock) ∧ some k_ ≠ (.slice Ao25 t1206.length co25 : Value).ownBlock) ∧ some k_ ≠ (.slice Ao32 t1254.length co32 : Value).ownBlock) ∧ some k_ ≠ (.slice Ao33 t1255.length co33 : Value).ownBlock) ∧ some k_ ≠ (.slice Ao40 t1228.length co40 : Value).ownBlock) ∧ some k_ ≠ (.slice Ao41 t1233.length co41 : Value).ownBlock) ∧ some k_ ≠ (.slice Ao114 t1264.length co114 : Value).ownBlock) ∧ some k_ ≠ (.slice Ao115 t1269.length co115 : Value).ownBlock)) (n := t1276.length) (c := co123) ?_).2.2; exact (zF8 HO1278 BK1286)); (case side2 => exact (Kd.R_reads' HO1278.out).2.1); (case side3 => refine (Kd.R_reads' (e := 3) (base := w.heap.size) (ok := fun k_ => ((((((((some k_ ≠ (.slice Ao123 t1276.length co123 : Value).ownBlock ∧ some k_ ≠ (.slice Ao24 t1201.length co24 : Value).ownBlock) ∧ some k_ ≠ (.slice Ao25 t1206.length co25 : Value).ownBlock) ∧ some k_ ≠ (.slice Ao32 t1254.length co32 : Value).ownBlock) ∧ some k_ ≠ (.slice Ao33 t1255.length co33 : Value).ownBlock) ∧ some k_ ≠ (.slice Ao40 t1228.length co40 : Value).ownBlock) ∧ some k_ ≠ (.slice Ao41 t1233.length co41 : Value).ownBlock) ∧ some k_ ≠ (.slice Ao114 t1264.length co114 : Value).ownBlock) ∧ some k_ ≠ (.slice Ao115 t1269.length co115 : Value).ownBlock)) (n := t1281.length) (c := co124) ?_).2.2; exact (zF8 HO1283 BK1286)); (case side4 => exact (Kd.R_reads' HO1283.out).2.1); (case side5 => refine (Kd.R_reads' (e := 3) (base := w.heap.size) (ok := fun k_ => (((((some k_ ≠ (.slice Ao25 t1206.length co25 : Value).ownBlock ∧ (some k_ ≠ (.slice Ao32 t1254.length co32 : Value).ownBlock ∧ (some k_ ≠ (.slice Ao33 t1255.length co33 : Value).ownBlock ∧ (some k_ ≠ (.slice Ao40 t1228.length co40 : Value).ownBlock ∧ some k_ ≠ (.slice Ao41 t1233.length co41 : Value).ownBlock)))) ∧ some k_ ≠ (.slice Ao114 t1264.length co114 : Value).ownBlock) ∧ some k_ ≠ (.slice Ao115 t1269.length co115 : Value).ownBlock) ∧ some k_ ≠ (.slice Ao123 t1276.length co123 : Value).ownBlock) ∧ some k_ ≠ (.slice Ao124 t1281.length co124 : Value).ownBlock)) (n := t1201.length) (c := co24) ?_).2.2; exact (zF8 HO_1212003 BK1286)); (case side6 => exact (Kd.R_reads' HO_1212003.out).2.1); (case side7 => refine (Kd.R_reads' (e := 3) (base := w.heap.size) (ok := fun k_ => (((((some k_ ≠ (.slice Ao24 t1201.length co24 : Value).ownBlock ∧ (some k_ ≠ (.slice Ao32 t1254.length co32 : Value).ownBlock ∧ (some k_ ≠ (.slice Ao33 t1255.length co33 : Value).ownBlock ∧ (some k_ ≠ (.slice Ao40 t1228.length co40 : Value).ownBlock ∧ some k_ ≠ (.slice Ao41 t1233.length co41 : Value).ownBlock)))) ∧ some k_ ≠ (.slice Ao114 t1264.length co114 : Value).ownBlock) ∧ some k_ ≠ (.slice Ao115 t1269.length co115 : Value).ownBlock) ∧ some k_ ≠ (.slice Ao123 t1276.length co123 : Value).ownBlock) ∧ some k_ ≠ (.slice Ao124 t1281.length co124 : Value).ownBlock)) (n := t1206.length) (c := co25) ?_).2.2; exact (zF8 HO_1212006 BK1286)); (case side8 => exact (Kd.R_reads' HO_1212006.out).2.1); rintro e w136 ⟨rfl, hb⟩; refine ⟨_, rfl, ?_⟩; replace HO_1212003 := aK (Kd.R_below (zF8 HO_1212003 BK1286) hb); replace HO_1212006 := aK (Kd.R_below (zF8 HO_1212006 BK1286) hb); replace HO_1225003 := aK (Kd.R_below (zF8 HO_1225003 BK1286) hb); replace HO_1225006 := aK (Kd.R_below (zF8 HO_1225006 BK1286) hb); replace HO_1239003 := aK (Kd.R_below (zF8 HO_1239003 BK1286) hb); replace HO_1239006 := aK (Kd.R_below (zF8 HO_1239006 BK1286) hb); replace HO1266 := aK (Kd.R_below (zF8 HO1266 BK1286) hb); replace HO1271 := aK (Kd.R_below (zF8 HO1271 BK1286) hb); replace HO1278 := aK (Kd.R_below (zF8 HO1278 BK1286) hb); replace HO1283 := aK (Kd.R_below (zF8 HO1283 BK1286) hb); replace BK1184 := zG8 BK1184 NB1184_1286 hb; replace BK1211 := zG8 BK1211 NB1211_1286 hb; replace BK1224 := zG8 BK1224 NB1224_1286 hb; replace BK1238 := zG8 BK1238 NB1238_1286 hb; replace BK1286 := aK (blk_below (g := gb1286) (o := .cells #[.int .i64 t1273, .int .i64 t1274, .int .i64 t1275, .slice Ao123 t1276.length co123, .int .i64 t1279, .int .i64 t1280, .slice Ao124 t1281.length co124, .int .i64 t1284] 38 (0, 0)) (by (with_reducible repeat (first | refine blk_drewN ?_ _ | refine kD ?_ | refine kA ?_ _)); refine blk_put (cs := #[.int .i64 t1273, .int .i64 t1274, .int .i64 t1275, .slice Ao123 t1276.length co123, .int .i64 t1279, .int .i64 t1280, .slice Ao124 t1281.length co124, .int .i64 0]) ?_ 7 _ rfl; (with_reducible repeat (first | refine blk_drewN ?_ _ | refine kD ?_ | refine kA ?_ _)); refine blk_put (cs := #[.int .i64 t1273, .int .i64 t1274, .int .i64 t1275, .slice Ao123 t1276.length co123, .int .i64 t1279, .int .i64 t1280, .slice none 0 0, .int .i64 0]) ?_ 6 _ rfl; (with_reducible repeat (first | refine blk_drewN ?_ _ | refine kD ?_ | refine kA ?_ _)); refine blk_put (cs := #[.int .i64 t1273, .int .i64 t1274, .int .i64 t1275, .slice Ao123 t1276.length co123, .int .i64 t1279, .int .i64 0, .slice none 0 0, .int .i64 0]) ?_ 5 _ rfl; (with_reducible repeat (first | refine blk_drewN ?_ _ | refine kD ?_ | refine kA ?_ _)); refine blk_put (cs := #[.int .i64 t1273, .int .i64 t1274, .int .i64 t1275, .slice Ao123 t1276.length co123, .int .i64 0, .int .i64 0, .slice none 0 0, .int .i64 0]) ?_ 4 _ rfl; (with_reducible repeat (first | refine blk_drewN ?_ _ | refine kD ?_ | refine kA ?_ _)); refine blk_put (cs := #[.int .i64 t1273, .int .i64 t1274, .int .i64 t1275, .slice none 0 0, .int .i64 0, .int .i64 0, .slice none 0 0, .int .i64 0]) ?_ 3 _ rfl; (with_reducible repeat (first | refine blk_drewN ?_ _ | refine kD ?_ | refine kA ?_ _)); refine blk_put (cs := #[.int .i64 t1273, .int .i64 t1274, .int .i64 0, .slice none 0 0, .int .i64 0, .int .i64 0, .slice none 0 0, .int .i64 0]) ?_ 2 _ rfl; (with_reducible repeat (first | refine blk_drewN ?_ _ | refine kD ?_ | refine kA ?_ _)); refine blk_put (cs := #[.int .i64 t1273, .int .i64 0, .int .i64 0, .slice none 0 0, .int .i64 0, .int .i64 0, .slice none 0 0, .int .i64 0]) ?_ 1 _ rfl; (with_reducible repeat (first | refine blk_drewN ?_ _ | refine kD ?_ | refine kA ?_ _)); refine blk_put (cs := #[.int .i64 0, .int .i64 0, .int .i64 0, .slice none 0 0, .int .i64 0, .int .i64 0, .slice none 0 0, .int .i64 0]) ?_ 0 _ rfl; (with_reducible repeat (first | refine blk_drewN ?_ _ | refine kD ?_ | refine kA ?_ _)); exact BK1286.out) hb); replace HB := aK (bSp (zH5 HB GE1184 GE1211 GE1224 GE1238 GE1286) hb); (try clear hb); (try clear hb2); (try clear hk); (try clear hi)))
             go_meet
             case rel => exact ⟨_, ((t1285 != t1210)), (by first | rfl | (simp; done) | (simp [*]; done)), H', ⟨by have := HJ11.out; have := HJ64.out; first | omega | exact Nat.le_refl _⟩, ⟨by (try simp only [hl1225003_64]); (try simp only [hl1225006_64]); (with_reducible repeat (first | apply Kd.R_alloc | apply Kd.R_drewN | apply Kd.R_drew)); exact Kd.R_mono HO_1212003.out (fun _ hk => ⟨hk.1.1.1.1.1, ⟨hk.1.1.1.1.2.1, ⟨hk.1.1.1.1.2.2.1, ⟨hk.1.1.1.1.2.2.2.1, ⟨hk.1.1.1.1.2.2.2.2, ⟨hk.1.2, hk.2⟩⟩⟩⟩⟩⟩)⟩, ⟨by (try simp only [hl1225003_64]); (try simp only [hl1225006_64]); (with_reducible repeat (first | apply Kd.R_alloc | apply Kd.R_drewN | apply Kd.R_drew)); exact Kd.R_mono HO_1212006.out (fun _ hk => ⟨hk.1.1.1.1.1, ⟨hk.1.1.1.1.2.1, ⟨hk.1.1.1.1.2.2.1, ⟨hk.1.1.1.1.2.2.2.1, ⟨hk.1.1.1.1.2.2.2.2, ⟨hk.1.2, hk.2⟩⟩⟩⟩⟩⟩)⟩, ⟨by (try simp only [hl1225003_64]); (try simp only [hl1225006_64]); (with_reducible repeat (first | apply Kd.R_alloc | apply Kd.R_drewN | apply Kd.R_drew)); exact Kd.R_mono HO_1225003.out (fun _ hk => ⟨hk.1.1.1.1.1, ⟨hk.1.1.1.1.2.1, ⟨hk.1.1.1.1.2.2.1, ⟨hk.1.1.1.1.2.2.2.1, ⟨hk.1.1.1.1.2.2.2.2, ⟨hk.1.2, hk.2⟩⟩⟩⟩⟩⟩)⟩, ⟨by (try simp only [hl1225003_64]); (try simp only [hl1225006_64]); (with_reducible repeat (first | apply Kd.R_alloc | apply Kd.R_drewN | apply Kd.R_drew)); exact Kd.R_mono HO_1225006.out (fun _ hk => ⟨hk.1.1.1.1.1, ⟨hk.1.1.1.1.2.1, ⟨hk.1.1.1.1.2.2.1, ⟨hk.1.1.1.1.2.2.2.1, ⟨hk.1.1.1.1.2.2.2.2, ⟨hk.1.2, hk.2⟩⟩⟩⟩⟩⟩)⟩, ⟨by (try simp only [hl1225003_64]); (try simp only [hl1225006_64]); (with_reducible repeat (first | apply Kd.R_alloc | apply Kd.R_drewN | apply Kd.R_drew)); exact Kd.R_mono HO_1239003.out (fun _ hk => ⟨hk.1.1.1.1.1, ⟨hk.1.1.1.1.2.1, ⟨hk.1.1.1.1.2.2.1, ⟨hk.1.1.1.1.2.2.2.1, ⟨hk.1.1.1.1.2.2.2.2, ⟨hk.1.2, hk.2⟩⟩⟩⟩⟩⟩)⟩, ⟨by (try simp only [hl1225003_64]); (try simp only [hl1225006_64]); (with_reducible repeat (first | apply Kd.R_alloc | apply Kd.R_drewN | apply Kd.R_drew)); exact Kd.R_mono HO_1239006.out (fun _ hk => ⟨hk.1.1.1.1.1, ⟨hk.1.1.1.1.2.1, ⟨hk.1.1.1.1.2.2.1, ⟨hk.1.1.1.1.2.2.2.1, ⟨hk.1.1.1.1.2.2.2.2, ⟨hk.1.2, hk.2⟩⟩⟩⟩⟩⟩)⟩, ⟨by (try simp only [hl1225003_64]); (try simp only [hl1225006_64]); (with_reducible repeat (first | apply Kd.R_alloc | apply Kd.R_drewN | apply Kd.R_drew)); exact Kd.R_mono HO1278.out (fun _ hk => ⟨hk.1.1.1.1.1.1.1.2, ⟨hk.1.1.1.1.1.1.2, ⟨hk.1.1.1.1.1.2, ⟨hk.1.1.1.1.2, ⟨hk.1.1.1.2, ⟨hk.1.1.2, hk.1.1.1.1.1.1.1.1⟩⟩⟩⟩⟩⟩)⟩, ⟨by (try simp only [hl1225003_64]); (try simp only [hl1225006_64]); (with_reducible repeat (first | apply Kd.R_alloc | apply Kd.R_drewN | apply Kd.R_drew)); exact Kd.R_mono HO1283.out (fun _ hk => ⟨hk.1.1.1.1.1.1.1.2, ⟨hk.1.1.1.1.1.1.2, ⟨hk.1.1.1.1.1.2, ⟨hk.1.1.1.1.2, ⟨hk.1.1.1.2, ⟨hk.1.1.2, hk.1.1.1.1.1.1.1.1⟩⟩⟩⟩⟩⟩)⟩, ⟨by (try simp only [hl1225003_64]); (try simp only [hl1225006_64]); (with_reducible repeat (first | refine blk_drewN ?_ _ | refine kD ?_ | refine kA ?_ _)); exact BK1184.out⟩, ⟨by (try simp only [hl1225003_64]); (try simp only [hl1225006_64]); (with_reducible repeat (first | refine blk_drewN ?_ _ | refine kD ?_ | refine kA ?_ _)); exact BK1211.out⟩, ⟨by (try simp only [hl1225003_64]); (try simp only [hl1225006_64]); (with_reducible repeat (first | refine blk_drewN ?_ _ | refine kD ?_ | refine kA ?_ _)); exact BK1224.out⟩, ⟨by (try simp only [hl1225003_64]); (try simp only [hl1225006_64]); (with_reducible repeat (first | refine blk_drewN ?_ _ | refine kD ?_ | refine kA ?_ _)); exact BK1238.out⟩, ⟨by (try simp only [hl1225003_64]); (try simp only [hl1225006_64]); (with_reducible repeat (first | refine blk_drewN ?_ _ | refine kD ?_ | refine kA ?_ _)); exact BK1286.out⟩, ⟨zH5 HB GE1184 GE1211 GE1224 GE1238 GE1286⟩⟩
            ·replace c126 := Bool.eq_false_iff.mpr c126
             subst c126
             have H1 : (laws_FnExactNextDay.j2 kj64 t1257 true t1225 t1226 t1227 t1258 t1231 t1232 t1259 t1236) = some true := by rw [if_neg (show ¬ (false = true) by decide)] at H; exact H
             clear H
             have H := H1
             clear H1
             have H' := aK H
             clear H
             have hnb137 := NB1286_1184.out
             have hnc137 := NB1184_1286.out
             have hnb138 := NB1286_1211.out
             have hnc138 := NB1211_1286.out
             have hnb139 := NB1286_1224.out
             have hnc139 := NB1224_1286.out
             have hnb140 := NB1286_1238.out
             have hnc140 := NB1238_1286.out
             obtain ⟨hcz141_0, hcz141_1, hcz141_2, hcz141_3, hcz141_4, hcz141_5, hcz141_6, hcz141_7, hfz141_0, hfz141_1, hfz141_2, hfz141_3, hfz141_4, hfz141_5, hfz141_6, hfz141_7⟩ := cl8 BK1286.out
             have hnb142 := NB1211_1184.out
             have hnc142 := NB1184_1211.out
             have hnb143 := NB1211_1224.out
             have hnc143 := NB1224_1211.out
             have hnb144 := NB1211_1238.out
             have hnc144 := NB1238_1211.out
             obtain ⟨hcz145_0, hcz145_1, hcz145_2, hcz145_3, hcz145_4, hcz145_5, hcz145_6, hcz145_7, hfz145_0, hfz145_1, hfz145_2, hfz145_3, hfz145_4, hfz145_5, hfz145_6, hfz145_7⟩ := cl8 BK1211.out
             go_wp2_with (first | ((with_reducible refine gate_callee (f := 19) rfl ?_); refine goesL_ (some 86) rfl rfl Tryz.func19 (by kernel_rfl) rfl #[.agg #[.int .i64 t1273, .int .i64 t1274, .int .i64 t1275, .slice Ao123 t1276.length co123, .int .i64 t1279, .int .i64 t1280, .slice Ao124 t1281.length co124, .int .i64 t1284], .agg #[.int .i64 t1198, .int .i64 t1199, .int .i64 t1200, .slice Ao24 t1201.length co24, .int .i64 t1204, .int .i64 t1205, .slice Ao25 t1206.length co25, .int .i64 t1209]] rfl zD ?_; (with_reducible refine (laws_eqGarden.calls kj64 t1273 t1274 t1275 _ _ t1276 t1279 t1280 _ _ t1281 t1284 t1198 t1199 t1200 _ _ t1201 t1204 t1205 _ _ t1206 t1209 false _ ?side1 ?side2 ?side3 ?side4 ?side5 ?side6 ?side7 ?side8 A125.out).mono ?_); (case side1 => refine (Kd.R_reads' (e := 3) (base := w.heap.size) (ok := fun k_ => ((((((((some k_ ≠ (.slice Ao124 t1281.length co124 : Value).ownBlock ∧ some k_ ≠ (.slice Ao24 t1201.length co24 : Value).ownBlock) ∧ some k_ ≠ (.slice Ao25 t1206.length co25 : Value).ownBlock) ∧ some k_ ≠ (.slice Ao32 t1254.length co32 : Value).ownBlock) ∧ some k_ ≠ (.slice Ao33 t1255.length co33 : Value).ownBlock) ∧ some k_ ≠ (.slice Ao40 t1228.length co40 : Value).ownBlock) ∧ some k_ ≠ (.slice Ao41 t1233.length co41 : Value).ownBlock) ∧ some k_ ≠ (.slice Ao114 t1264.length co114 : Value).ownBlock) ∧ some k_ ≠ (.slice Ao115 t1269.length co115 : Value).ownBlock)) (n := t1276.length) (c := co123) ?_).2.2; exact (zF8 HO1278 BK1286)); (case side2 => exact (Kd.R_reads' HO1278.out).2.1); (case side3 => refine (Kd.R_reads' (e := 3) (base := w.heap.size) (ok := fun k_ => ((((((((some k_ ≠ (.slice Ao123 t1276.length co123 : Value).ownBlock ∧ some k_ ≠ (.slice Ao24 t1201.length co24 : Value).ownBlock) ∧ some k_ ≠ (.slice Ao25 t1206.length co25 : Value).ownBlock) ∧ some k_ ≠ (.slice Ao32 t1254.length co32 : Value).ownBlock) ∧ some k_ ≠ (.slice Ao33 t1255.length co33 : Value).ownBlock) ∧ some k_ ≠ (.slice Ao40 t1228.length co40 : Value).ownBlock) ∧ some k_ ≠ (.slice Ao41 t1233.length co41 : Value).ownBlock) ∧ some k_ ≠ (.slice Ao114 t1264.length co114 : Value).ownBlock) ∧ some k_ ≠ (.slice Ao115 t1269.length co115 : Value).ownBlock)) (n := t1281.length) (c := co124) ?_).2.2; exact (zF8 HO1283 BK1286)); (case side4 => exact (Kd.R_reads' HO1283.out).2.1); (case side5 => refine (Kd.R_reads' (e := 3) (base := w.heap.size) (ok := fun k_ => (((((some k_ ≠ (.slice Ao25 t1206.length co25 : Value).ownBlock ∧ (some k_ ≠ (.slice Ao32 t1254.length co32 : Value).ownBlock ∧ (some k_ ≠ (.slice Ao33 t1255.length co33 : Value).ownBlock ∧ (some k_ ≠ (.slice Ao40 t1228.length co40 : Value).ownBlock ∧ some k_ ≠ (.slice Ao41 t1233.length co41 : Value).ownBlock)))) ∧ some k_ ≠ (.slice Ao114 t1264.length co114 : Value).ownBlock) ∧ some k_ ≠ (.slice Ao115 t1269.length co115 : Value).ownBlock) ∧ some k_ ≠ (.slice Ao123 t1276.length co123 : Value).ownBlock) ∧ some k_ ≠ (.slice Ao124 t1281.length co124 : Value).ownBlock)) (n := t1201.length) (c := co24) ?_).2.2; exact (zF8 HO_1212003 BK1286)); (case side6 => exact (Kd.R_reads' HO_1212003.out).2.1); (case side7 => refine (Kd.R_reads' (e := 3) (base := w.heap.size) (ok := fun k_ => (((((some k_ ≠ (.slice Ao24 t1201.length co24 : Value).ownBlock ∧ (some k_ ≠ (.slice Ao32 t1254.length co32 : Value).ownBlock ∧ (some k_ ≠ (.slice Ao33 t1255.length co33 : Value).ownBlock ∧ (some k_ ≠ (.slice Ao40 t1228.length co40 : Value).ownBlock ∧ some k_ ≠ (.slice Ao41 t1233.length co41 : Value).ownBlock)))) ∧ some k_ ≠ (.slice Ao114 t1264.length co114 : Value).ownBlock) ∧ some k_ ≠ (.slice Ao115 t1269.length co115 : Value).ownBlock) ∧ some k_ ≠ (.slice Ao123 t1276.length co123 : Value).ownBlock) ∧ some k_ ≠ (.slice Ao124 t1281.length co124 : Value).ownBlock)) (n := t1206.length) (c := co25) ?_).2.2; exact (zF8 HO_1212006 BK1286)); (case side8 => exact (Kd.R_reads' HO_1212006.out).2.1); rintro e w146 ⟨rfl, hb⟩; refine ⟨_, rfl, ?_⟩; replace HO_1212003 := aK (Kd.R_below (zF8 HO_1212003 BK1286) hb); replace HO_1212006 := aK (Kd.R_below (zF8 HO_1212006 BK1286) hb); replace HO_1225003 := aK (Kd.R_below (zF8 HO_1225003 BK1286) hb); replace HO_1225006 := aK (Kd.R_below (zF8 HO_1225006 BK1286) hb); replace HO_1239003 := aK (Kd.R_below (zF8 HO_1239003 BK1286) hb); replace HO_1239006 := aK (Kd.R_below (zF8 HO_1239006 BK1286) hb); replace HO1266 := aK (Kd.R_below (zF8 HO1266 BK1286) hb); replace HO1271 := aK (Kd.R_below (zF8 HO1271 BK1286) hb); replace HO1278 := aK (Kd.R_below (zF8 HO1278 BK1286) hb); replace HO1283 := aK (Kd.R_below (zF8 HO1283 BK1286) hb); replace BK1184 := zG8 BK1184 NB1184_1286 hb; replace BK1211 := zG8 BK1211 NB1211_1286 hb; replace BK1224 := zG8 BK1224 NB1224_1286 hb; replace BK1238 := zG8 BK1238 NB1238_1286 hb; replace BK1286 := aK (blk_below (g := gb1286) (o := .cells #[.int .i64 t1273, .int .i64 t1274, .int .i64 t1275, .slice Ao123 t1276.length co123, .int .i64 t1279, .int .i64 t1280, .slice Ao124 t1281.length co124, .int .i64 t1284] 38 (0, 0)) (by (with_reducible repeat (first | refine blk_drewN ?_ _ | refine kD ?_ | refine kA ?_ _)); refine blk_put (cs := #[.int .i64 t1273, .int .i64 t1274, .int .i64 t1275, .slice Ao123 t1276.length co123, .int .i64 t1279, .int .i64 t1280, .slice Ao124 t1281.length co124, .int .i64 0]) ?_ 7 _ rfl; (with_reducible repeat (first | refine blk_drewN ?_ _ | refine kD ?_ | refine kA ?_ _)); refine blk_put (cs := #[.int .i64 t1273, .int .i64 t1274, .int .i64 t1275, .slice Ao123 t1276.length co123, .int .i64 t1279, .int .i64 t1280, .slice none 0 0, .int .i64 0]) ?_ 6 _ rfl; (with_reducible repeat (first | refine blk_drewN ?_ _ | refine kD ?_ | refine kA ?_ _)); refine blk_put (cs := #[.int .i64 t1273, .int .i64 t1274, .int .i64 t1275, .slice Ao123 t1276.length co123, .int .i64 t1279, .int .i64 0, .slice none 0 0, .int .i64 0]) ?_ 5 _ rfl; (with_reducible repeat (first | refine blk_drewN ?_ _ | refine kD ?_ | refine kA ?_ _)); refine blk_put (cs := #[.int .i64 t1273, .int .i64 t1274, .int .i64 t1275, .slice Ao123 t1276.length co123, .int .i64 0, .int .i64 0, .slice none 0 0, .int .i64 0]) ?_ 4 _ rfl; (with_reducible repeat (first | refine blk_drewN ?_ _ | refine kD ?_ | refine kA ?_ _)); refine blk_put (cs := #[.int .i64 t1273, .int .i64 t1274, .int .i64 t1275, .slice none 0 0, .int .i64 0, .int .i64 0, .slice none 0 0, .int .i64 0]) ?_ 3 _ rfl; (with_reducible repeat (first | refine blk_drewN ?_ _ | refine kD ?_ | refine kA ?_ _)); refine blk_put (cs := #[.int .i64 t1273, .int .i64 t1274, .int .i64 0, .slice none 0 0, .int .i64 0, .int .i64 0, .slice none 0 0, .int .i64 0]) ?_ 2 _ rfl; (with_reducible repeat (first | refine blk_drewN ?_ _ | refine kD ?_ | refine kA ?_ _)); refine blk_put (cs := #[.int .i64 t1273, .int .i64 0, .int .i64 0, .slice none 0 0, .int .i64 0, .int .i64 0, .slice none 0 0, .int .i64 0]) ?_ 1 _ rfl; (with_reducible repeat (first | refine blk_drewN ?_ _ | refine kD ?_ | refine kA ?_ _)); refine blk_put (cs := #[.int .i64 0, .int .i64 0, .int .i64 0, .slice none 0 0, .int .i64 0, .int .i64 0, .slice none 0 0, .int .i64 0]) ?_ 0 _ rfl; (with_reducible repeat (first | refine blk_drewN ?_ _ | refine kD ?_ | refine kA ?_ _)); exact BK1286.out) hb); replace HB := aK (bSp (zH5 HB GE1184 GE1211 GE1224 GE1238 GE1286) hb); (try clear hb); (try clear hb2); (try clear hk); (try clear hi)))
             go_meet
             case rel => exact ⟨_, (true), (by first | rfl | (simp; done) | (simp [*]; done)), H', ⟨by have := HJ11.out; have := HJ64.out; first | omega | exact Nat.le_refl _⟩, ⟨by (try simp only [hl1225003_64]); (try simp only [hl1225006_64]); (with_reducible repeat (first | apply Kd.R_alloc | apply Kd.R_drewN | apply Kd.R_drew)); exact Kd.R_mono HO_1212003.out (fun _ hk => ⟨hk.1.1.1.1.1, ⟨hk.1.1.1.1.2.1, ⟨hk.1.1.1.1.2.2.1, ⟨hk.1.1.1.1.2.2.2.1, ⟨hk.1.1.1.1.2.2.2.2, ⟨hk.1.2, hk.2⟩⟩⟩⟩⟩⟩)⟩, ⟨by (try simp only [hl1225003_64]); (try simp only [hl1225006_64]); (with_reducible repeat (first | apply Kd.R_alloc | apply Kd.R_drewN | apply Kd.R_drew)); exact Kd.R_mono HO_1212006.out (fun _ hk => ⟨hk.1.1.1.1.1, ⟨hk.1.1.1.1.2.1, ⟨hk.1.1.1.1.2.2.1, ⟨hk.1.1.1.1.2.2.2.1, ⟨hk.1.1.1.1.2.2.2.2, ⟨hk.1.2, hk.2⟩⟩⟩⟩⟩⟩)⟩, ⟨by (try simp only [hl1225003_64]); (try simp only [hl1225006_64]); (with_reducible repeat (first | apply Kd.R_alloc | apply Kd.R_drewN | apply Kd.R_drew)); exact Kd.R_mono HO_1225003.out (fun _ hk => ⟨hk.1.1.1.1.1, ⟨hk.1.1.1.1.2.1, ⟨hk.1.1.1.1.2.2.1, ⟨hk.1.1.1.1.2.2.2.1, ⟨hk.1.1.1.1.2.2.2.2, ⟨hk.1.2, hk.2⟩⟩⟩⟩⟩⟩)⟩, ⟨by (try simp only [hl1225003_64]); (try simp only [hl1225006_64]); (with_reducible repeat (first | apply Kd.R_alloc | apply Kd.R_drewN | apply Kd.R_drew)); exact Kd.R_mono HO_1225006.out (fun _ hk => ⟨hk.1.1.1.1.1, ⟨hk.1.1.1.1.2.1, ⟨hk.1.1.1.1.2.2.1, ⟨hk.1.1.1.1.2.2.2.1, ⟨hk.1.1.1.1.2.2.2.2, ⟨hk.1.2, hk.2⟩⟩⟩⟩⟩⟩)⟩, ⟨by (try simp only [hl1225003_64]); (try simp only [hl1225006_64]); (with_reducible repeat (first | apply Kd.R_alloc | apply Kd.R_drewN | apply Kd.R_drew)); exact Kd.R_mono HO_1239003.out (fun _ hk => ⟨hk.1.1.1.1.1, ⟨hk.1.1.1.1.2.1, ⟨hk.1.1.1.1.2.2.1, ⟨hk.1.1.1.1.2.2.2.1, ⟨hk.1.1.1.1.2.2.2.2, ⟨hk.1.2, hk.2⟩⟩⟩⟩⟩⟩)⟩, ⟨by (try simp only [hl1225003_64]); (try simp only [hl1225006_64]); (with_reducible repeat (first | apply Kd.R_alloc | apply Kd.R_drewN | apply Kd.R_drew)); exact Kd.R_mono HO_1239006.out (fun _ hk => ⟨hk.1.1.1.1.1, ⟨hk.1.1.1.1.2.1, ⟨hk.1.1.1.1.2.2.1, ⟨hk.1.1.1.1.2.2.2.1, ⟨hk.1.1.1.1.2.2.2.2, ⟨hk.1.2, hk.2⟩⟩⟩⟩⟩⟩)⟩, ⟨by (try simp only [hl1225003_64]); (try simp only [hl1225006_64]); (with_reducible repeat (first | apply Kd.R_alloc | apply Kd.R_drewN | apply Kd.R_drew)); exact Kd.R_mono HO1278.out (fun _ hk => ⟨hk.1.1.1.1.1.1.1.2, ⟨hk.1.1.1.1.1.1.2, ⟨hk.1.1.1.1.1.2, ⟨hk.1.1.1.1.2, ⟨hk.1.1.1.2, ⟨hk.1.1.2, hk.1.1.1.1.1.1.1.1⟩⟩⟩⟩⟩⟩)⟩, ⟨by (try simp only [hl1225003_64]); (try simp only [hl1225006_64]); (with_reducible repeat (first | apply Kd.R_alloc | apply Kd.R_drewN | apply Kd.R_drew)); exact Kd.R_mono HO1283.out (fun _ hk => ⟨hk.1.1.1.1.1.1.1.2, ⟨hk.1.1.1.1.1.1.2, ⟨hk.1.1.1.1.1.2, ⟨hk.1.1.1.1.2, ⟨hk.1.1.1.2, ⟨hk.1.1.2, hk.1.1.1.1.1.1.1.1⟩⟩⟩⟩⟩⟩)⟩, ⟨by (try simp only [hl1225003_64]); (try simp only [hl1225006_64]); (with_reducible repeat (first | refine blk_drewN ?_ _ | refine kD ?_ | refine kA ?_ _)); exact BK1184.out⟩, ⟨by (try simp only [hl1225003_64]); (try simp only [hl1225006_64]); (with_reducible repeat (first | refine blk_drewN ?_ _ | refine kD ?_ | refine kA ?_ _)); exact BK1211.out⟩, ⟨by (try simp only [hl1225003_64]); (try simp only [hl1225006_64]); (with_reducible repeat (first | refine blk_drewN ?_ _ | refine kD ?_ | refine kA ?_ _)); exact BK1224.out⟩, ⟨by (try simp only [hl1225003_64]); (try simp only [hl1225006_64]); (with_reducible repeat (first | refine blk_drewN ?_ _ | refine kD ?_ | refine kA ?_ _)); exact BK1238.out⟩, ⟨by (try simp only [hl1225003_64]); (try simp only [hl1225006_64]); (with_reducible repeat (first | refine blk_drewN ?_ _ | refine kD ?_ | refine kA ?_ _)); exact BK1286.out⟩, ⟨zH5 HB GE1184 GE1211 GE1224 GE1238 GE1286⟩⟩
           case rest =>
            clear HC102
            try clear c1
            try clear c2
            try clear p2
            try clear c3
            try clear c4
            try clear c4b0
            try clear c5
            try clear c6
            try clear c7
            try clear c8
            try clear c9
            try clear c10
            try clear c11
            try clear c12
            try clear c13
            try clear c14
            try clear c15
            try clear c17
            try clear c19
            try clear c20
            try clear c21
            try clear c22
            try clear c26
            try clear c27
            try clear c29
            try clear c30
            try clear c36
            try clear c37
            try clear c38
            try clear c43
            try clear c44
            try clear c45
            try clear c46
            try clear c48
            try clear c49
            try clear c52
            try clear c53
            try clear c54
            try clear c56
            try clear c57
            try clear c60
            try clear c63
            try clear c71
            try clear c72
            try clear c73
            try clear c76
            try clear c76b0
            try clear c78
            try clear c79
            try clear c80
            try clear c81
            try clear c83
            try clear c84
            try clear c87
            try clear c88
            try clear c89
            try clear c91
            try clear c92
            try clear c95
            try clear c98
            try clear c98b0
            try clear c99
            try clear c99b0
            try clear c99b1
            try clear c103
            try clear c104
            try clear c105
            try clear c110
            try clear c111
            try clear c118
            try clear c119
            try clear c120
            try clear c121
            try clear c126
            try clear c127
            try clear c128
            try clear c129
            try clear c130
            try clear c132
            try clear c133
            try clear c134
            try clear c137
            try clear c138
            try clear c139
            try clear c140
            try clear c142
            try clear c143
            try clear c144
            try clear hcz106_0
            try clear hcz106_1
            try clear hcz106_2
            try clear hcz106_3
            try clear hcz106_4
            try clear hcz106_5
            try clear hcz106_6
            try clear hcz106_7
            try clear hcz108_0
            try clear hcz108_1
            try clear hcz108_2
            try clear hcz108_3
            try clear hcz108_4
            try clear hcz108_5
            try clear hcz108_6
            try clear hcz108_7
            try clear hcz112_0
            try clear hcz112_1
            try clear hcz112_2
            try clear hcz112_3
            try clear hcz112_4
            try clear hcz112_5
            try clear hcz112_6
            try clear hcz112_7
            try clear hcz122_0
            try clear hcz122_1
            try clear hcz122_2
            try clear hcz122_3
            try clear hcz122_4
            try clear hcz122_5
            try clear hcz122_6
            try clear hcz122_7
            try clear hcz131_0
            try clear hcz131_1
            try clear hcz131_2
            try clear hcz131_3
            try clear hcz131_4
            try clear hcz131_5
            try clear hcz131_6
            try clear hcz131_7
            try clear hcz135_0
            try clear hcz135_1
            try clear hcz135_2
            try clear hcz135_3
            try clear hcz135_4
            try clear hcz135_5
            try clear hcz135_6
            try clear hcz135_7
            try clear hcz141_0
            try clear hcz141_1
            try clear hcz141_2
            try clear hcz141_3
            try clear hcz141_4
            try clear hcz141_5
            try clear hcz141_6
            try clear hcz141_7
            try clear hcz145_0
            try clear hcz145_1
            try clear hcz145_2
            try clear hcz145_3
            try clear hcz145_4
            try clear hcz145_5
            try clear hcz145_6
            try clear hcz145_7
            try clear hcz14_0
            try clear hcz14_1
            try clear hcz14_2
            try clear hcz14_3
            try clear hcz14_4
            try clear hcz14_5
            try clear hcz14_6
            try clear hcz14_7
            try clear hcz16_0
            try clear hcz16_1
            try clear hcz16_2
            try clear hcz16_3
            try clear hcz16_4
            try clear hcz16_5
            try clear hcz16_6
            try clear hcz16_7
            try clear hcz23_0
            try clear hcz23_1
            try clear hcz23_2
            try clear hcz23_3
            try clear hcz23_4
            try clear hcz23_5
            try clear hcz23_6
            try clear hcz23_7
            try clear hcz26_0
            try clear hcz26_1
            try clear hcz26_2
            try clear hcz26_3
            try clear hcz26_4
            try clear hcz26_5
            try clear hcz26_6
            try clear hcz26_7
            try clear hcz31_0
            try clear hcz31_1
            try clear hcz31_2
            try clear hcz31_3
            try clear hcz31_4
            try clear hcz31_5
            try clear hcz31_6
            try clear hcz31_7
            try clear hcz39_0
            try clear hcz39_1
            try clear hcz39_2
            try clear hcz39_3
            try clear hcz39_4
            try clear hcz39_5
            try clear hcz39_6
            try clear hcz39_7
            try clear hcz47_0
            try clear hcz47_1
            try clear hcz47_2
            try clear hcz47_3
            try clear hcz47_4
            try clear hcz47_5
            try clear hcz47_6
            try clear hcz47_7
            try clear hcz50_0
            try clear hcz50_1
            try clear hcz50_2
            try clear hcz50_3
            try clear hcz50_4
            try clear hcz50_5
            try clear hcz50_6
            try clear hcz50_7
            try clear hcz55_0
            try clear hcz55_1
            try clear hcz55_2
            try clear hcz55_3
            try clear hcz55_4
            try clear hcz55_5
            try clear hcz55_6
            try clear hcz55_7
            try clear hcz58_0
            try clear hcz58_1
            try clear hcz58_2
            try clear hcz58_3
            try clear hcz58_4
            try clear hcz58_5
            try clear hcz58_6
            try clear hcz58_7
            try clear hcz6_0
            try clear hcz6_1
            try clear hcz6_2
            try clear hcz6_3
            try clear hcz6_4
            try clear hcz6_5
            try clear hcz6_6
            try clear hcz6_7
            try clear hcz74_0
            try clear hcz74_1
            try clear hcz74_2
            try clear hcz74_3
            try clear hcz74_4
            try clear hcz74_5
            try clear hcz74_6
            try clear hcz74_7
            try clear hcz82_0
            try clear hcz82_1
            try clear hcz82_2
            try clear hcz82_3
            try clear hcz82_4
            try clear hcz82_5
            try clear hcz82_6
            try clear hcz82_7
            try clear hcz85_0
            try clear hcz85_1
            try clear hcz85_2
            try clear hcz85_3
            try clear hcz85_4
            try clear hcz85_5
            try clear hcz85_6
            try clear hcz85_7
            try clear hcz90_0
            try clear hcz90_1
            try clear hcz90_2
            try clear hcz90_3
            try clear hcz90_4
            try clear hcz90_5
            try clear hcz90_6
            try clear hcz90_7
            try clear hcz93_0
            try clear hcz93_1
            try clear hcz93_2
            try clear hcz93_3
            try clear hcz93_4
            try clear hcz93_5
            try clear hcz93_6
            try clear hcz93_7
            try clear hfz106_0
            try clear hfz106_1
            try clear hfz106_2
            try clear hfz106_3
            try clear hfz106_4
            try clear hfz106_5
            try clear hfz106_6
            try clear hfz106_7
            try clear hfz108_0
            try clear hfz108_1
            try clear hfz108_2
            try clear hfz108_3
            try clear hfz108_4
            try clear hfz108_5
            try clear hfz108_6
            try clear hfz108_7
            try clear hfz112_0
            try clear hfz112_1
            try clear hfz112_2
            try clear hfz112_3
            try clear hfz112_4
            try clear hfz112_5
            try clear hfz112_6
            try clear hfz112_7
            try clear hfz122_0
            try clear hfz122_1
            try clear hfz122_2
            try clear hfz122_3
            try clear hfz122_4
            try clear hfz122_5
            try clear hfz122_6
            try clear hfz122_7
            try clear hfz131_0
            try clear hfz131_1
            try clear hfz131_2
            try clear hfz131_3
            try clear hfz131_4
            try clear hfz131_5
            try clear hfz131_6
            try clear hfz131_7
            try clear hfz135_0
            try clear hfz135_1
            try clear hfz135_2
            try clear hfz135_3
            try clear hfz135_4
            try clear hfz135_5
            try clear hfz135_6
            try clear hfz135_7
            try clear hfz141_0
            try clear hfz141_1
            try clear hfz141_2
            try clear hfz141_3
            try clear hfz141_4
            try clear hfz141_5
            try clear hfz141_6
            try clear hfz141_7
            try clear hfz145_0
            try clear hfz145_1
            try clear hfz145_2
            try clear hfz145_3
            try clear hfz145_4
            try clear hfz145_5
            try clear hfz145_6
            try clear hfz145_7
            try clear hfz14_0
            try clear hfz14_1
            try clear hfz14_2
            try clear hfz14_3
            try clear hfz14_4
            try clear hfz14_5
            try clear hfz14_6
            try clear hfz14_7
            try clear hfz16_0
            try clear hfz16_1
            try clear hfz16_2
            try clear hfz16_3
            try clear hfz16_4
            try clear hfz16_5
            try clear hfz16_6
            try clear hfz16_7
            try clear hfz23_0
            try clear hfz23_1
            try clear hfz23_2
            try clear hfz23_3
            try clear hfz23_4
            try clear hfz23_5
            try clear hfz23_6
            try clear hfz23_7
            try clear hfz26_0
            try clear hfz26_1
            try clear hfz26_2
            try clear hfz26_3
            try clear hfz26_4
            try clear hfz26_5
            try clear hfz26_6
            try clear hfz26_7
            try clear hfz31_0
            try clear hfz31_1
            try clear hfz31_2
            try clear hfz31_3
            try clear hfz31_4
            try clear hfz31_5
            try clear hfz31_6
            try clear hfz31_7
            try clear hfz39_0
            try clear hfz39_1
            try clear hfz39_2
            try clear hfz39_3
            try clear hfz39_4
            try clear hfz39_5
            try clear hfz39_6
            try clear hfz39_7
            try clear hfz47_0
            try clear hfz47_1
            try clear hfz47_2
            try clear hfz47_3
            try clear hfz47_4
            try clear hfz47_5
            try clear hfz47_6
            try clear hfz47_7
            try clear hfz50_0
            try clear hfz50_1
            try clear hfz50_2
            try clear hfz50_3
            try clear hfz50_4
            try clear hfz50_5
            try clear hfz50_6
            try clear hfz50_7
            try clear hfz55_0
            try clear hfz55_1
            try clear hfz55_2
            try clear hfz55_3
            try clear hfz55_4
            try clear hfz55_5
            try clear hfz55_6
            try clear hfz55_7
            try clear hfz58_0
            try clear hfz58_1
            try clear hfz58_2
            try clear hfz58_3
            try clear hfz58_4
            try clear hfz58_5
            try clear hfz58_6
            try clear hfz58_7
            try clear hfz6_0
            try clear hfz6_1
            try clear hfz6_2
            try clear hfz6_3
            try clear hfz6_4
            try clear hfz6_5
            try clear hfz6_6
            try clear hfz6_7
            try clear hfz74_0
            try clear hfz74_1
            try clear hfz74_2
            try clear hfz74_3
            try clear hfz74_4
            try clear hfz74_5
            try clear hfz74_6
            try clear hfz74_7
            try clear hfz82_0
            try clear hfz82_1
            try clear hfz82_2
            try clear hfz82_3
            try clear hfz82_4
            try clear hfz82_5
            try clear hfz82_6
            try clear hfz82_7
            try clear hfz85_0
            try clear hfz85_1
            try clear hfz85_2
            try clear hfz85_3
            try clear hfz85_4
            try clear hfz85_5
            try clear hfz85_6
            try clear hfz85_7
            try clear hfz90_0
            try clear hfz90_1
            try clear hfz90_2
            try clear hfz90_3
            try clear hfz90_4
            try clear hfz90_5
            try clear hfz90_6
            try clear hfz90_7
            try clear hfz93_0
            try clear hfz93_1
            try clear hfz93_2
            try clear hfz93_3
            try clear hfz93_4
            try clear hfz93_5
            try clear hfz93_6
            try clear hfz93_7
            try clear p2
            obtain ⟨kq, x92_101, rfl, HA, HJ101, HO_1212003, HO_1212006, HO_1225003, HO_1225006, HO_1239003, HO_1239006, HO_1287003, HO_1287006, BK1184, BK1211, BK1224, BK1238, BK1286, HB⟩ := hcut
            have hl1239003_101 := (Kd.R_reads' HO_1239003.out).1
            rw [hl1239003_101] at HO_1239003
            (try simp only [hl1239003_101])
            (try simp only [hl1239003_101] at BK1184)
            (try simp only [hl1239003_101] at BK1211)
            (try simp only [hl1239003_101] at BK1224)
            (try simp only [hl1239003_101] at BK1238)
            (try simp only [hl1239003_101] at BK1286)
            (try simp only [hl1239003_101] at HO_1212003)
            (try simp only [hl1239003_101] at HO_1212006)
            (try simp only [hl1239003_101] at HO_1225003)
            (try simp only [hl1239003_101] at HO_1225006)
            (try simp only [hl1239003_101] at HO_1239006)
            (try simp only [hl1239003_101] at HO_1287003)
            (try simp only [hl1239003_101] at HO_1287006)
            have hl1239006_101 := (Kd.R_reads' HO_1239006.out).1
            rw [hl1239006_101] at HO_1239006
            (try simp only [hl1239006_101])
            (try simp only [hl1239006_101] at BK1184)
            (try simp only [hl1239006_101] at BK1211)
            (try simp only [hl1239006_101] at BK1224)
            (try simp only [hl1239006_101] at BK1238)
            (try simp only [hl1239006_101] at BK1286)
            (try simp only [hl1239006_101] at HO_1212003)
            (try simp only [hl1239006_101] at HO_1212006)
            (try simp only [hl1239006_101] at HO_1225003)
            (try simp only [hl1239006_101] at HO_1225006)
            (try simp only [hl1239006_101] at HO_1239003)
            (try simp only [hl1239006_101] at HO_1287003)
            (try simp only [hl1239006_101] at HO_1287006)
            cases kq with
            | zero => exact absurd HA.out (by simp [laws_FnExactNextDay.j2])
            | succ kj101 =>
             have H := HA.out
             clear HA
             simp only [laws_FnExactNextDay.j2] at H
             by_cases c147 : x92_101 = true
             ·subst c147
              have H1 : (some false) = some true := by first | (rw [if_pos rfl] at H; exact H) | rfl
              clear H
              have H := H1
              clear H1
              exact absurd (Option.some.inj H) Bool.false_ne_true
             ·replace c147 := Bool.eq_false_iff.mpr c147
              subst c147
              have H1 : ((laws_heldGarden.f kj101 t1225 t1226 t1227 t1258 t1231 t1232 t1259 t1236 1).bind fun t1288 => (if t1288 < 0 then (some false) else (if t1288 = t1257 then (some true) else (some false)))) = some true := by rw [if_neg (show ¬ (false = true) by decide)] at H; exact H
              clear H
              have H := H1
              clear H1
              replace H := Option.bind_eq_some_iff.mp H
              obtain ⟨t1288, A1480, H⟩ := H
              replace H : (if t1288 < 0 then (some false) else (if t1288 = t1257 then (some true) else (some false))) = some true := H
              have A148 := aK A1480
              clear A1480
              by_cases c149 : t1288 < 0
              ·rw [if_pos c149] at H
               have c149b0 : decide (t1288 < 0) = true := decide_eq_true c149
               clear c149
               exact absurd (Option.some.inj H) Bool.false_ne_true
              ·rw [if_neg c149] at H
               have c149b0 : decide (t1288 < 0) = false := decide_eq_false c149
               clear c149
               by_cases c150 : t1288 = t1257
               ·rw [if_pos c150] at H
                have c150b0 : (t1288 == t1257) = true := beq_iff_eq.mpr c150
                have c150b1 : (t1288 != t1257) = false := bne_eq_false_iff_eq.mpr c150
                clear c150
                have hnb151 := NB1238_1184.out
                have hnc151 := NB1184_1238.out
                have hnb152 := NB1238_1211.out
                have hnc152 := NB1211_1238.out
                have hnb153 := NB1238_1224.out
                have hnc153 := NB1224_1238.out
                have hnb154 := NB1238_1286.out
                have hnc154 := NB1286_1238.out
                obtain ⟨hcz155_0, hcz155_1, hcz155_2, hcz155_3, hcz155_4, hcz155_5, hcz155_6, hcz155_7, hfz155_0, hfz155_1, hfz155_2, hfz155_3, hfz155_4, hfz155_5, hfz155_6, hfz155_7⟩ := cl8 BK1238.out
                go_wp2_with (first | ((with_reducible refine gate_callee (f := 21) rfl ?_); refine goesL_ (some 95) rfl rfl Tryz.func21 (by kernel_rfl) rfl #[.agg #[.int .i64 t1225, .int .i64 t1226, .int .i64 t1227, .slice Ao40 t1258.length co40, .int .i64 t1231, .int .i64 t1232, .slice Ao41 t1259.length co41, .int .i64 t1236], .int .i64 1] rfl zD ?_; (with_reducible refine (laws_heldGarden.calls kj101 t1225 t1226 t1227 _ _ t1258 t1231 t1232 _ _ t1259 t1236 1 t1288 _ ?side1 ?side2 ?side3 ?side4 A148.out).mono ?_); (case side1 => exact zC (Kd.R_reads' HO_1239003.out).2.2); (case side2 => exact (Kd.R_reads' HO_1239003.out).2.1); (case side3 => exact zC (Kd.R_reads' HO_1239006.out).2.2); (case side4 => exact (Kd.R_reads' HO_1239006.out).2.1); rintro e w156 ⟨rfl, hb⟩; refine ⟨_, rfl, ?_⟩; replace HO_1212003 := aK (Kd.R_below (zA HO_1212003) hb); replace HO_1212006 := aK (Kd.R_below (zA HO_1212006) hb); replace HO_1225003 := aK (Kd.R_below (zA HO_1225003) hb); replace HO_1225006 := aK (Kd.R_below (zA HO_1225006) hb); replace HO_1239003 := aK (Kd.R_below (zA HO_1239003) hb); replace HO_1239006 := aK (Kd.R_below (zA HO_1239006) hb); replace HO_1287003 := aK (Kd.R_below (zA HO_1287003) hb); replace HO_1287006 := aK (Kd.R_below (zA HO_1287006) hb); replace BK1184 := zB BK1184 hb; replace BK1211 := zB BK1211 hb; replace BK1224 := zB BK1224 hb; replace BK1238 := zB BK1238 hb; replace BK1286 := zB BK1286 hb; replace HB := aK (bSp (zH5 HB GE1184 GE1211 GE1224 GE1238 GE1286) hb); (try clear hb); (try clear hb2); (try clear hk); (try clear hi)))
                go_ret
                exact ⟨by first | rfl | (simp [errW_none, errW_some] <;> rfl) | (simp [*, errW_none, errW_some] <;> rfl), by repeat (first | (with_reducible first | exact HB.out | apply bAl | apply bDN | apply bD1 | refine bSt ?_ GE1184.out | refine bSt ?_ GE1211.out | refine bSt ?_ GE1224.out | refine bSt ?_ GE1238.out | refine bSt ?_ GE1286.out) | exact HB.out)⟩
               ·rw [if_neg c150] at H
                have c150b0 : (t1288 == t1257) = false := beq_eq_false_iff_ne.mpr c150
                have c150b1 : (t1288 != t1257) = true := bne_iff_ne.mpr c150
                exact absurd (Option.some.inj H) Bool.false_ne_true
          ·rw [if_neg c99] at H
           have c99b0 : (t1260 == t1257) = false := beq_eq_false_iff_ne.mpr c99
           have c99b1 : (t1260 != t1257) = true := bne_iff_ne.mpr c99
           exact absurd (Option.some.inj H) Bool.false_ne_true
     ·replace c63 := Bool.eq_false_iff.mpr c63
      subst c63
      have H1 : (some false) = some true := by rw [if_neg (show ¬ (false = true) by decide)] at H; exact H
      clear H
      have H := H1
      clear H1
      exact absurd (Option.some.inj H) Bool.false_ne_true
end Go.Proofs.YtkindoepnganmaaGreat.F
end

section
namespace Go.Proofs.YtkindoepnganmaaGreat.F
open Go.RowKit Go.Proofs.YtkindoepnganmaaGreatW.PrintWords Go.Proofs.YtkindoepnganmaaGreatW.PrintLast Go.Proofs.YtkindoepnganmaaGreatW.PrintMore
set_option linter.unusedVariables false
set_option linter.unusedSimpArgs false
theorem rd_set {D : List Int} {i x v : Int} (hi : 0 ≤ i) (hx : 0 ≤ x) (hl : i < D.length) : rd (D.set i.toNat v) x = if x = i then v else rd D x := by
  unfold rd
  rw [List.getD_eq_getElem?_getD, List.getElem?_set]
  by_cases h : x = i
  · subst h
    rw [if_pos rfl, if_pos (by omega), if_pos rfl]; rfl
  · rw [if_neg (by omega), if_neg h, List.getD_eq_getElem?_getD]
theorem rd_lt {D : List Int} {x : Int} (hx : 0 ≤ x) (hl : x < D.length) : ∃ h : x.toNat < D.length, rd D x = D[x.toNat] := by
  have h : x.toNat < D.length := by omega
  exact ⟨h, by unfold rd; rw [List.getD_eq_getElem?_getD, List.getElem?_eq_getElem h]; rfl⟩
theorem rd_memI {D : List Int} {x : Int} (hx : 0 ≤ x) (hl : x < D.length) : rd D x ∈ D := by
  obtain ⟨h, e⟩ := rd_lt hx hl
  rw [e]; exact List.getElem_mem h
theorem mem_rd {D : List Int} {v : Int} (h : v ∈ D) : ∃ j : Nat, j < D.length ∧ rd D (j : Int) = v := by
  obtain ⟨j, hj, rfl⟩ := List.getElem_of_mem h
  exact ⟨j, hj, by rw [rd_nat, List.getD_eq_getElem?_getD, List.getElem?_eq_getElem hj]; rfl⟩
theorem rd_app_left {D E : List Int} {j : Nat} (h : j < D.length) : rd (D ++ E) (j : Int) = rd D (j : Int) := by
  simp only [rd_nat, List.getD_eq_getElem?_getD]
  rw [List.getElem?_append_left h]
theorem rd_app_last {D : List Int} {v : Int} : rd (D ++ [v]) (D.length : Int) = v := by
  simp only [rd_nat, List.getD_eq_getElem?_getD]
  rw [List.getElem?_append_right (Nat.le_refl _)]
  simp
def bfsD (nx : Int → Int → Int) (c : Int) : List Int → List Int × List Int → List Int × List Int
  | [], s => s
  | d :: ds, s => if 0 ≤ nx c d ∧ rd s.1 (nx c d) < 0 then bfsD nx c ds (s.1.set (nx c d).toNat (rd s.1 c + 1), s.2 ++ [nx c d]) else bfsD nx c ds s
def bfs (nx : Int → Int → Int) : Nat → Nat → List Int × List Int → List Int
  | 0, _, s => s.1
  | f + 1, i, s => if i < s.2.length then bfs nx f (i + 1) (bfsD nx (rd s.2 i) [0, 1, 2, 3] s) else s.1
def dists (nx : Int → Int → Int) (N : Nat) (a : Int) : List Int := bfs nx (N + 1) 0 ((List.replicate N (-1)).set a.toNat 0, [a])
inductive Walk (nx : Int → Int → Int) (a : Int) : Nat → Int → Prop
  | nil : Walk nx a 0 a
  | snoc {n : Nat} {b d : Int} : Walk nx a n b → 0 ≤ nx b d → Walk nx a (n + 1) (nx b d)
structure Steps (nx : Int → Int → Int) (N : Nat) : Prop where
  rng : ∀ c d, 0 ≤ nx c d → 0 ≤ c ∧ c < N ∧ nx c d < N ∧ 0 ≤ d ∧ d ≤ 3
structure Bfs (nx : Int → Int → Int) (N : Nat) (a : Int) (D Q : List Int) : Prop where
  len : D.length = N
  cnt : D.countP (· < 0) + Q.length = N
  inq : ∀ x ∈ Q, 0 ≤ x ∧ x < N ∧ 0 ≤ rd D x ∧ Walk nx a (rd D x).toNat x
  out : ∀ x : Int, 0 ≤ x → x < N → x ∉ Q → rd D x = -1
  src : rd D a = 0 ∧ a ∈ Q
  mono : ∀ j k : Nat, j ≤ k → k < Q.length → rd D (rd Q j) ≤ rd D (rd Q k)
structure BfsAt (nx : Int → Int → Int) (N : Nat) (a : Int) (i : Nat) (D Q : List Int) : Prop extends Bfs nx N a D Q where
  near : i < Q.length → ∀ x ∈ Q, rd D x ≤ rd D (rd Q i) + 1
  done : ∀ j, j < i → j < Q.length → ∀ d, 0 ≤ nx (rd Q j) d → nx (rd Q j) d ∈ Q ∧ rd D (nx (rd Q j) d) ≤ rd D (rd Q j) + 1
theorem countP_lt_set {D : List Int} {i v : Int} (hi : 0 ≤ i) (hl : i < D.length) (hneg : rd D i < 0) (hv : 0 ≤ v) : (D.set i.toNat v).countP (· < 0) + 1 = D.countP (· < 0) := by
  obtain ⟨h, e⟩ := rd_lt hi hl
  rw [e] at hneg
  have hpos : 0 < D.countP (· < 0) := List.countP_pos_iff.2 ⟨D[i.toNat], List.getElem_mem h, by simpa using hneg⟩
  rw [List.countP_set h]
  simp [hneg, show ¬ v < 0 by omega]
  omega
theorem bfs_push {nx : Int → Int → Int} {N : Nat} {a : Int} {i : Nat} {D Q : List Int} (S : Steps nx N) (B : BfsAt nx N a i D Q) (hi : i < Q.length) {d : Int} (h0 : 0 ≤ nx (rd Q i) d) (hneg : rd D (nx (rd Q i) d) < 0) :
    BfsAt nx N a i (D.set (nx (rd Q i) d).toNat (rd D (rd Q i) + 1)) (Q ++ [nx (rd Q i) d]) := by
  have hci : rd Q i ∈ Q := rd_memI (by omega) (by omega)
  generalize hc : rd Q i = c at *
  generalize hn : nx c d = n at *
  have hr := S.rng c d (by omega)
  rw [hn] at hr
  obtain ⟨c0, c1, cd, cw⟩ := B.inq c hci
  have hnl : n < D.length := by rw [B.len]; omega
  have hnQ : n ∉ Q := fun h => by have := (B.inq n h).2.2.1; omega
  have same : ∀ x ∈ Q, rd (D.set n.toNat (rd D c + 1)) x = rd D x := fun x hx => by
    have := (B.inq x hx).1
    rw [rd_set h0 this hnl, if_neg (by rintro rfl; exact hnQ hx)]
  have newv : rd (D.set n.toNat (rd D c + 1)) n = rd D c + 1 := by rw [rd_set h0 h0 hnl, if_pos rfl]
  have rq : ∀ j : Nat, j < Q.length → rd (Q ++ [n]) (j : Int) = rd Q (j : Int) := fun j hj => rd_app_left hj
  have wn : Walk nx a (rd D c + 1).toNat n := by
    have := Walk.snoc (d := d) cw (by omega)
    rw [hn] at this
    rwa [show (rd D c).toNat + 1 = (rd D c + 1).toNat by omega] at this
  refine ⟨⟨by rw [List.length_set, B.len], ?_, ?_, ?_, ?_, ?_⟩, ?_, ?_⟩
  · have := countP_lt_set (v := rd D c + 1) h0 hnl hneg (by omega)
    have := B.cnt
    rw [List.length_append, List.length_singleton]
    omega
  · intro x hx
    rcases List.mem_append.1 hx with hx | hx
    · rw [same x hx]; exact B.inq x hx
    · rw [List.mem_singleton.1 hx, newv]
      exact ⟨h0, hr.2.2.1, by omega, wn⟩
  · intro x x0 x1 hx
    rw [List.mem_append, not_or] at hx
    rw [rd_set h0 x0 hnl, if_neg (by rintro rfl; exact hx.2 (by simp))]
    exact B.out x x0 x1 hx.1
  · exact ⟨by rw [same a B.src.2]; exact B.src.1, List.mem_append_left _ B.src.2⟩
  · intro j k hjk hk
    rw [List.length_append, List.length_singleton] at hk
    by_cases hk' : k < Q.length
    · rw [rq j (by omega), rq k hk', same _ (rd_memI (by omega) (by omega)), same _ (rd_memI (by omega) (by omega))]
      exact B.mono j k hjk hk'
    · have ek : k = Q.length := by omega
      subst ek
      rw [rd_app_last, newv]
      by_cases hj' : j < Q.length
      · rw [rq j hj', same _ (rd_memI (by omega) (by omega))]
        have := B.near hi _ (rd_memI (D := Q) (x := (j : Int)) (by omega) (by omega))
        rw [hc] at this
        exact this
      · have ej : j = Q.length := by omega
        subst ej
        rw [rd_app_last, newv]
        exact Int.le_refl _
  · intro _ x hx
    rw [rq i hi, hc]
    rcases List.mem_append.1 hx with hx | hx
    · rw [same x hx, same c hci]
      have := B.near hi x hx
      rwa [hc] at this
    · rw [List.mem_singleton.1 hx, newv, same c hci]
      exact Int.le_refl _
  · intro j hj hjl e he
    rw [rq j (by omega)] at he ⊢
    obtain ⟨m1, m2⟩ := B.done j hj (by omega) e he
    exact ⟨List.mem_append_left _ m1, by rw [same _ m1, same _ (rd_memI (by omega) (by omega))]; exact m2⟩
theorem bfs_dirs {nx : Int → Int → Int} {N : Nat} {a : Int} {i : Nat} (S : Steps nx N) : ∀ (ds : List Int) (D Q : List Int), BfsAt nx N a i D Q → i < Q.length → ∀ D' Q', bfsD nx (rd Q i) ds (D, Q) = (D', Q') →
    BfsAt nx N a i D' Q' ∧ i < Q'.length ∧ rd Q' i = rd Q i ∧ (∀ x ∈ Q, x ∈ Q') ∧ (∀ d ∈ ds, 0 ≤ nx (rd Q i) d → nx (rd Q i) d ∈ Q' ∧ rd D' (nx (rd Q i) d) ≤ rd D' (rd Q i) + 1)
  | [], D, Q, B, hi, D', Q', e => by
    simp only [bfsD, Prod.mk.injEq] at e
    obtain ⟨rfl, rfl⟩ := e
    exact ⟨B, hi, rfl, fun _ h => h, fun d hd => by simp at hd⟩
  | d :: ds, D, Q, B, hi, D', Q', e => by
    simp only [bfsD] at e
    by_cases h : 0 ≤ nx (rd Q i) d ∧ rd D (nx (rd Q i) d) < 0
    · rw [if_pos h] at e
      have B' := bfs_push S B hi h.1 h.2
      have hq : rd (Q ++ [nx (rd Q i) d]) (i : Int) = rd Q i := rd_app_left hi
      have hi' : i < (Q ++ [nx (rd Q i) d]).length := by rw [List.length_append]; omega
      rw [← hq] at e
      obtain ⟨r1, r2, r3, r4, r5⟩ := bfs_dirs S ds _ _ B' hi' D' Q' (by rw [hq] at e ⊢; exact e)
      rw [hq] at r3 r5
      refine ⟨r1, r2, r3, fun x hx => r4 x (List.mem_append_left _ hx), fun e' he h0 => ?_⟩
      rcases List.mem_cons.1 he with rfl | he
      · have hm := r4 (nx (rd Q i) e') (by simp)
        have := r1.near r2 _ hm
        rw [r3] at this
        exact ⟨hm, this⟩
      · exact r5 e' he h0
    · rw [if_neg h] at e
      obtain ⟨r1, r2, r3, r4, r5⟩ := bfs_dirs S ds D Q B hi D' Q' e
      refine ⟨r1, r2, r3, r4, fun e' he h0 => ?_⟩
      rcases List.mem_cons.1 he with rfl | he
      · have hr := S.rng _ _ h0
        have hge : ¬ rd D (nx (rd Q i) e') < 0 := fun hh => h ⟨h0, hh⟩
        have hm : nx (rd Q i) e' ∈ Q := by
          by_cases hx : nx (rd Q i) e' ∈ Q
          · exact hx
          · have := B.out _ h0 hr.2.2.1 hx
            omega
        have := r1.near r2 _ (r4 _ hm)
        rw [r3] at this
        exact ⟨r4 _ hm, this⟩
      · exact r5 e' he h0
theorem bfs_run {nx : Int → Int → Int} {N : Nat} {a : Int} (S : Steps nx N) : ∀ (f i : Nat) (D Q : List Int), BfsAt nx N a i D Q → N < f + i → ∃ Q', BfsAt nx N a Q'.length (bfs nx f i (D, Q)) Q' ∨ (∃ j, Q'.length ≤ j ∧ BfsAt nx N a j (bfs nx f i (D, Q)) Q')
  | 0, i, D, Q, B, hf => ⟨Q, .inr ⟨i, by have := B.cnt; omega, B⟩⟩
  | f + 1, i, D, Q, B, hf => by
    simp only [bfs]
    by_cases hi : i < Q.length
    · rw [if_pos hi]
      generalize hs : bfsD nx (rd Q i) [0, 1, 2, 3] (D, Q) = s
      obtain ⟨D', Q'⟩ := s
      obtain ⟨r1, r2, r3, r4, r5⟩ := bfs_dirs S _ D Q B hi D' Q' hs
      refine bfs_run S f (i + 1) D' Q' ⟨r1.toBfs, fun h x hx => ?_, fun j hj hjl d hd => ?_⟩ (by omega)
      · have h1 := r1.near r2 x hx
        have h2 := r1.mono i (i + 1) (by omega) h
        omega
      · by_cases hj' : j = i
        · subst hj'
          rw [r3] at hd ⊢
          have hr := S.rng _ _ hd
          exact r5 d (by have : d = 0 ∨ d = 1 ∨ d = 2 ∨ d = 3 := by omega
                         rcases this with rfl | rfl | rfl | rfl <;> simp) hd
        · exact r1.done j (by omega) hjl d hd
    · rw [if_neg hi]
      exact ⟨Q, .inr ⟨i, by omega, B⟩⟩
theorem dists_spec {nx : Int → Int → Int} {N : Nat} {a : Int} (S : Steps nx N) (h0 : 0 ≤ a) (h1 : a < N) : (dists nx N a).length = N ∧ rd (dists nx N a) a = 0 ∧
    ∀ x : Int, 0 ≤ x → x < N → (rd (dists nx N a) x = -1 ∧ ∀ n, ¬ Walk nx a n x) ∨ (0 ≤ rd (dists nx N a) x ∧ Walk nx a (rd (dists nx N a) x).toNat x ∧ ∀ n, Walk nx a n x → rd (dists nx N a) x ≤ n) := by
  have hrep : ∀ x : Int, 0 ≤ x → x < N → rd (List.replicate N (-1)) x = -1 := fun x x0 x1 => by
    obtain ⟨h, e⟩ := rd_lt (D := List.replicate N (-1 : Int)) x0 (by simpa using x1)
    rw [e, List.getElem_replicate]
  have hset : ∀ x : Int, 0 ≤ x → x < N → rd ((List.replicate N (-1)).set a.toNat 0) x = if x = a then 0 else -1 := fun x x0 x1 => by
    rw [rd_set h0 x0 (by simpa using h1)]
    split
    · rfl
    · exact hrep x x0 x1
  have B0 : BfsAt nx N a 0 ((List.replicate N (-1)).set a.toNat 0) [a] := by
    refine ⟨⟨by simp, ?_, ?_, ?_, ?_, ?_⟩, ?_, ?_⟩
    · have := countP_lt_set (D := List.replicate N (-1 : Int)) (i := a) (v := 0) h0 (by simpa using h1) (by rw [hrep a h0 h1]; decide) (by decide)
      rw [List.countP_replicate] at this
      simpa using this
    · intro x hx
      rw [List.mem_singleton.1 hx, hset a h0 h1, if_pos rfl]
      exact ⟨h0, h1, by decide, Walk.nil⟩
    · intro x x0 x1 hx
      rw [hset x x0 x1, if_neg (by simpa using hx)]
    · exact ⟨by rw [hset a h0 h1, if_pos rfl], by simp⟩
    · intro j k hjk hk
      have : j = 0 := by simp at hk; omega
      have : k = 0 := by simp at hk; omega
      subst_vars
      exact Int.le_refl _
    · intro _ x hx
      rw [List.mem_singleton.1 hx]
      simp [rd]
      omega
    · intro j hj; omega
  have fin : ∃ j Q', Q'.length ≤ j ∧ BfsAt nx N a j (dists nx N a) Q' := by
    obtain ⟨Q', h | ⟨j, hj, h⟩⟩ := bfs_run S (N + 1) 0 _ _ B0 (by omega)
    · exact ⟨_, Q', Nat.le_refl _, h⟩
    · exact ⟨j, Q', hj, h⟩
  obtain ⟨j, Q', hj, B⟩ := fin
  have close : ∀ n x, Walk nx a n x → x ∈ Q' ∧ rd (dists nx N a) x ≤ n := by
    intro n x h
    induction h with
    | nil => exact ⟨B.src.2, by rw [B.src.1]; simp⟩
    | @snoc n b d hw hd ih =>
      obtain ⟨m1, m2⟩ := ih
      obtain ⟨i, hi, rfl⟩ := mem_rd m1
      obtain ⟨q1, q2⟩ := B.done i (by omega) hi d hd
      exact ⟨q1, by omega⟩
  refine ⟨B.len, B.src.1, fun x x0 x1 => ?_⟩
  by_cases hx : x ∈ Q'
  · right
    obtain ⟨_, _, q1, q2⟩ := B.inq x hx
    exact ⟨q1, q2, fun n hn => (close n x hn).2⟩
  · left
    exact ⟨B.out x x0 x1 hx, fun n hn => hx (close n x hn).1⟩
structure Sym (nx : Int → Int → Int) : Prop where
  back : ∀ c d, 0 ≤ nx c d → ∃ e, nx (nx c d) e = c
theorem Walk.cons {nx : Int → Int → Int} {a d : Int} (h0 : 0 ≤ nx a d) {n : Nat} {b : Int} (h : Walk nx (nx a d) n b) : Walk nx a (n + 1) b := by
  induction h with
  | nil => exact Walk.snoc Walk.nil h0
  | snoc _ hd ih => exact Walk.snoc ih hd
theorem Walk.trans {nx : Int → Int → Int} {a b : Int} {n : Nat} (h : Walk nx a n b) {m : Nat} {c : Int} (k : Walk nx b m c) : Walk nx a (n + m) c := by
  induction k with
  | nil => exact h
  | snoc _ hd ih => exact Walk.snoc ih hd
theorem Walk.rev {nx : Int → Int → Int} {N : Nat} (S : Steps nx N) (Y : Sym nx) {a : Int} {n : Nat} {b : Int} (h : Walk nx a n b) : Walk nx b n a := by
  induction h with
  | nil => exact Walk.nil
  | @snoc n b d hw hd ih =>
    obtain ⟨e, he⟩ := Y.back b d hd
    have := S.rng b d hd
    have h2 : Walk nx (nx (nx b d) e) n a := by rw [he]; exact ih
    exact Walk.cons (by rw [he]; omega) h2
end Go.Proofs.YtkindoepnganmaaGreat.F
end
