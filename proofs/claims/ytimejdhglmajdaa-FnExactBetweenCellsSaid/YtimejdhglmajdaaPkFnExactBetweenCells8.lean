/- Packed by a program of the session (wip/tools/pack.py): what the claim's theorem reaches, of the texts that wip/ and the kit's printer lay. -/
import Derived.Test.YtimejdhglmajdaaPkFnExactBetweenCells7
import Derived.Laws.StructEq
section
namespace Go.Proofs.Ytimejdhglmajdaa.F
open Go.RowKit Go.Proofs.YtimejdhglmajdaaW.PrintWords Go.Proofs.YtimejdhglmajdaaW.PrintLast Go.Proofs.YtimejdhglmajdaaW.PrintMore
set_option linter.unusedVariables false
set_option linter.unusedSimpArgs false
attribute [local go_sem] min2_int min_two
def laws_FnExactBetweenCells.T5 : Bool × List (List Nat × List Nat) := (true, [([], []), ([0], [0]), ([], []), ([2, 1], [2]), ([], []), ([4, 3], [4]), ([], []), ([1, 3, 5, 6, 5], [1, 3, 5, 6]), ([7, 7, 0, 1, 2, 3, 4, 5, 6, 7], [7])])
def laws_FnExactBetweenCells.B5 : List Nat := [0, 1, 0, 7, 0, 31, 0, 127, 255]
theorem laws_FnExactBetweenCells.tab5 : rtab .any (opsOf Try.f14 5) = laws_FnExactBetweenCells.T5 := by kernel_rfl
theorem laws_FnExactBetweenCells.bits5 : waitsOk laws_FnExactBetweenCells.T5.2 laws_FnExactBetweenCells.B5 = true := by kernel_rfl
def laws_FnExactBetweenCells.T7 : Bool × List (List Nat × List Nat) := (true, [([], []), ([], []), ([1], [1]), ([], []), ([3, 2], [3]), ([], []), ([0, 2, 4, 5, 4], [0, 2, 4, 5]), ([6, 6, 0, 1, 2, 3, 4, 5, 6], [6])])
def laws_FnExactBetweenCells.B7 : List Nat := [0, 0, 2, 0, 14, 0, 63, 127]
theorem laws_FnExactBetweenCells.tab7 : rtab .any (opsOf Try.f14 7) = laws_FnExactBetweenCells.T7 := by kernel_rfl
theorem laws_FnExactBetweenCells.bits7 : waitsOk laws_FnExactBetweenCells.T7.2 laws_FnExactBetweenCells.B7 = true := by kernel_rfl
def laws_FnExactBetweenCells.T24 : Bool × List (List Nat × List Nat) := (true, [([], []), ([0], [0]), ([], []), ([2, 1], [2]), ([], []), ([4, 3], [4]), ([], []), ([1, 3, 5, 6, 5], [1, 3, 5, 6]), ([7, 7, 0, 1, 2, 3, 4, 5, 6, 7], [7])])
def laws_FnExactBetweenCells.B24 : List Nat := [0, 1, 0, 7, 0, 31, 0, 127, 255]
theorem laws_FnExactBetweenCells.tab24 : rtab .any (opsOf Try.f14 24) = laws_FnExactBetweenCells.T24 := by kernel_rfl
theorem laws_FnExactBetweenCells.bits24 : waitsOk laws_FnExactBetweenCells.T24.2 laws_FnExactBetweenCells.B24 = true := by kernel_rfl
set_option maxHeartbeats 8000000 in
set_option maxRecDepth 100000 in
theorem laws_FnExactBetweenCells.calls (k : Nat) (a0_0 : Int) (a0_1 : Int) (a0_2 : Int) (a0_3 : Int) (A0_4 : Option Addr) (c0_4 : Nat) (l0_4 : List (SlaGate)) (a1_0 : Int) (a1_1 : Int) (a2_0 : Int) (a2_1 : Int) (a3 : Int) (w : World) (hr0_4 : Kd.C k139 w A0_4 l0_4.length l0_4) (hc0_4 : l0_4.length ≤ c0_4) (h : laws_FnExactBetweenCells.f k a0_0 a0_1 a0_2 a0_3 l0_4 a1_0 a1_1 a2_0 a2_1 a3 = some true) :
  Calls Try.prog 14 #[.agg #[.int .i64 a0_0, .int .i64 a0_1, .int .i64 a0_2, .int .i64 a0_3, .slice A0_4 l0_4.length c0_4], .agg #[.int .i64 a1_0, .int .i64 a1_1], .agg #[.int .i64 a2_0, .int .i64 a2_1], .int .i64 a3] w fun e w' => e = .returned (.bool true) ∧ Below w.heap.size w w' := by
 have hu51 := Try.underlying51
 have hu53 := Try.underlying53
 have hu58 := Try.underlying58
 have HR0_4 := aK hr0_4
 have HC0_4 := aK hc0_4
 clear hr0_4 hc0_4
 have HB := aK (Below.refl w.heap.size w)
 have H : ((laws_szTimed.f a0_0 a0_1 a0_2 a0_3 l0_4 1048576).bind fun t1198 => (if t1198 < 0 then (some true) else ((laws_toTimed.f k a0_0 a0_1 a0_2 a0_3 l0_4).bind fun bt1199 => ((laws_toEntry.f a1_0 a1_1).bind fun bt1206 => ((laws_toEntry.f a2_0 a2_1).bind fun bt1208 => ((spec_BetweenCells.f k bt1199.1 bt1199.2.1 bt1199.2.2.1 bt1199.2.2.2.1 bt1199.2.2.2.2 bt1206.1 bt1206.2 bt1208.1 bt1208.2 a3).bind fun t1210 => ((laws_toTimed.f k a0_0 a0_1 a0_2 a0_3 l0_4).bind fun bt1213 => ((laws_toEntry.f a1_0 a1_1).bind fun bt1221 => ((laws_toEntry.f a2_0 a2_1).bind fun bt1223 => ((impl_BetweenCells.f bt1213.1 bt1213.2.1 bt1213.2.2.1 bt1213.2.2.2.1 bt1213.2.2.2.2 bt1221.1 bt1221.2 bt1223.1 bt1223.2 a3).bind fun t1225 => ((laws_eqIntS.f k t1225 t1210).bind fun t1228 => (if t1228 = true then ((laws_toTimed.f k a0_0 a0_1 a0_2 a0_3 l0_4).bind fun bt1229 => ((laws_eqTimed.f k bt1213.1 bt1213.2.1 bt1213.2.2.1 bt1213.2.2.2.1 bt1213.2.2.2.2 bt1229.1 bt1229.2.1 bt1229.2.2.1 bt1229.2.2.2.1 bt1229.2.2.2.2).bind fun t1236 => (if t1236 = true then ((laws_markTimed.f k bt1213.1 bt1213.2.1 bt1213.2.2.1 bt1213.2.2.2.1 bt1213.2.2.2.2 1).bind fun bt1237 => (if bt1237.1 < 0 then (laws_FnExactBetweenCells.j0 k a3 t1210 t1225 true a0_0 a0_1 a0_2 a0_3 l0_4 a1_0 a1_1 a2_0 a2_1) else ((laws_eqIntS.f k t1225 t1210).bind fun t1239 => (laws_FnExactBetweenCells.j0 k a3 t1210 t1225 (!t1239) a0_0 a0_1 a0_2 a0_3 l0_4 a1_0 a1_1 a2_0 a2_1)))) else (some false)))) else (some false))))))))))))) = some true := h
 clear h
 replace H := Option.bind_eq_some_iff.mp H
 obtain ⟨t1198, A50, H⟩ := H
 replace H : (if t1198 < 0 then (some true) else ((laws_toTimed.f k a0_0 a0_1 a0_2 a0_3 l0_4).bind fun bt1199 => ((laws_toEntry.f a1_0 a1_1).bind fun bt1206 => ((laws_toEntry.f a2_0 a2_1).bind fun bt1208 => ((spec_BetweenCells.f k bt1199.1 bt1199.2.1 bt1199.2.2.1 bt1199.2.2.2.1 bt1199.2.2.2.2 bt1206.1 bt1206.2 bt1208.1 bt1208.2 a3).bind fun t1210 => ((laws_toTimed.f k a0_0 a0_1 a0_2 a0_3 l0_4).bind fun bt1213 => ((laws_toEntry.f a1_0 a1_1).bind fun bt1221 => ((laws_toEntry.f a2_0 a2_1).bind fun bt1223 => ((impl_BetweenCells.f bt1213.1 bt1213.2.1 bt1213.2.2.1 bt1213.2.2.2.1 bt1213.2.2.2.2 bt1221.1 bt1221.2 bt1223.1 bt1223.2 a3).bind fun t1225 => ((laws_eqIntS.f k t1225 t1210).bind fun t1228 => (if t1228 = true then ((laws_toTimed.f k a0_0 a0_1 a0_2 a0_3 l0_4).bind fun bt1229 => ((laws_eqTimed.f k bt1213.1 bt1213.2.1 bt1213.2.2.1 bt1213.2.2.2.1 bt1213.2.2.2.2 bt1229.1 bt1229.2.1 bt1229.2.2.1 bt1229.2.2.2.1 bt1229.2.2.2.2).bind fun t1236 => (if t1236 = true then ((laws_markTimed.f k bt1213.1 bt1213.2.1 bt1213.2.2.1 bt1213.2.2.2.1 bt1213.2.2.2.2 1).bind fun bt1237 => (if bt1237.1 < 0 then (laws_FnExactBetweenCells.j0 k a3 t1210 t1225 true a0_0 a0_1 a0_2 a0_3 l0_4 a1_0 a1_1 a2_0 a2_1) else ((laws_eqIntS.f k t1225 t1210).bind fun t1239 => (laws_FnExactBetweenCells.j0 k a3 t1210 t1225 (!t1239) a0_0 a0_1 a0_2 a0_3 l0_4 a1_0 a1_1 a2_0 a2_1)))) else (some false)))) else (some false)))))))))))) = some true := H
 have A5 := aK A50
 clear A50
 by_cases c6 : t1198 < 0
 ·rw [if_pos c6] at H
  have c6b0 : decide (t1198 < 0) = true := decide_eq_true c6
  clear c6
  go_enter Try.func14, Try.ntmps14
  go_wp2_with (first | ((with_reducible refine gate_dst (N := 4) rfl ?_); refine box_event ?hg (N := 4) ?hd (cs := #[.int .i64 a0_0, .int .i64 a0_1, .int .i64 a0_2, .int .i64 a0_3, .slice A0_4 l0_4.length c0_4]) (t := 51) ?hr ?_; (case hd => rfl); (case hg => rfl); (case hr => first | (go_simp; done) | (go_simp; rfl)); intro gb1195 hg w7 hbox hb; have n0_ := aK (bSp (by repeat (first | (with_reducible first | exact HB.out | apply bAl | apply bDN | apply bD1) | exact HB.out)) hb); have n1_ := aK (hbox); have n2_ := aK ((by rw [hg]; exact (bSz (by repeat (first | (with_reducible first | exact HB.out | apply bAl | apply bDN | apply bD1) | exact HB.out))) : w.heap.size ≤ gb1195)); have n3_ := n2_; clear HB; have HB := n0_; have BK1195 := n1_; have GW1195 := n2_; have GE1195 := n3_; clear n0_ n1_ n2_ n3_; clear hb hbox hg) | ((with_reducible refine gate_dst (N := 5) rfl ?_); refine box_event ?hg (N := 5) ?hd (cs := #[.int .i64 a1_0, .int .i64 a1_1]) (t := 53) ?hr ?_; (case hd => rfl); (case hg => rfl); (case hr => first | (go_simp; done) | (go_simp; rfl)); intro gb1196 hg w8 hbox hb; have n0_ := bkb BK1195 hb (by intro z_; (with_reducible repeat (first | refine kDN ?_ _ | refine kD ?_ | refine kA ?_ _)); exact z_); have n1_ := aK (bSp (by repeat (first | (with_reducible first | exact HB.out | apply bAl | apply bDN | apply bD1 | refine bSt ?_ GE1195.out) | exact HB.out)) hb); have n2_ := aK (hbox); have n3_ := aK ((by rw [hg]; exact (bSz (by repeat (first | (with_reducible first | exact HB.out | apply bAl | apply bDN | apply bD1 | refine bSt ?_ GE1195.out) | exact HB.out))) : w.heap.size ≤ gb1196)); have n4_ := n3_; have n5_ := nbl BK1195 hg (by intro z_; (with_reducible repeat (first | refine kDN ?_ _ | refine kD ?_ | refine kA ?_ _)); exact z_); have n6_ := nbs n5_; clear BK1195; clear HB; have BK1195 := n0_; have HB := n1_; have BK1196 := n2_; have GW1196 := n3_; have GE1196 := n4_; have NB1195_1196 := n5_; have NB1196_1195 := n6_; clear n0_ n1_ n2_ n3_ n4_ n5_ n6_; clear hb hbox hg) | ((with_reducible refine gate_dst (N := 6) rfl ?_); refine box_event ?hg (N := 6) ?hd (cs := #[.int .i64 a2_0, .int .i64 a2_1]) (t := 53) ?hr ?_; (case hd => rfl); (case hg => rfl); (case hr => first | (go_simp; done) | (go_simp; rfl)); intro gb1197 hg w9 hbox hb; have n0_ := bkb BK1195 hb (by intro z_; (with_reducible repeat (first | refine kDN ?_ _ | refine kD ?_ | refine kA ?_ _)); exact z_); have n1_ := bkb BK1196 hb (by intro z_; (with_reducible repeat (first | refine kDN ?_ _ | refine kD ?_ | refine kA ?_ _)); exact z_); have n2_ := aK (bSp (by repeat (first | (with_reducible first | exact HB.out | apply bAl | apply bDN | apply bD1 | refine bSt ?_ GE1195.out | refine bSt ?_ GE1196.out) | exact HB.out)) hb); have n3_ := aK (hbox); have n4_ := aK ((by rw [hg]; exact (bSz (by repeat (first | (with_reducible first | exact HB.out | apply bAl | apply bDN | apply bD1 | refine bSt ?_ GE1195.out | refine bSt ?_ GE1196.out) | exact HB.out))) : w.heap.size ≤ gb1197)); have n5_ := n4_; have n6_ := nbl BK1195 hg (by intro z_; (with_reducible repeat (first | refine kDN ?_ _ | refine kD ?_ | refine kA ?_ _)); exact z_); have n7_ := nbs n6_; have n8_ := nbl BK1196 hg (by intro z_; (with_reducible repeat (first | refine kDN ?_ _ | refine kD ?_ | refine kA ?_ _)); exact z_); have n9_ := nbs n8_; clear BK1195; clear BK1196; clear HB; have BK1195 := n0_; have BK1196 := n1_; have HB := n2_; have BK1197 := n3_; have GW1197 := n4_; have GE1197 := n5_; have NB1195_1197 := n6_; have NB1197_1195 := n7_; have NB1196_1197 := n8_; have NB1197_1196 := n9_; clear n0_ n1_ n2_ n3_ n4_ n5_ n6_ n7_ n8_ n9_; clear hb hbox hg; have hnb10 := NB1195_1196.out; have hnc10 := NB1196_1195.out; have hnb11 := NB1195_1197.out; have hnc11 := NB1197_1195.out; obtain ⟨hcz12_0, hcz12_1, hcz12_2, hcz12_3, hcz12_4, hfz12_0, hfz12_1, hfz12_2, hfz12_3, hfz12_4⟩ := cl5 BK1195.out) | ((with_reducible refine gate_callee (f := 34) rfl ?_); refine goesL_ (some 19) rfl rfl Try.func34 (by kernel_rfl) rfl #[.agg #[.int .i64 a0_0, .int .i64 a0_1, .int .i64 a0_2, .int .i64 a0_3, .slice A0_4 l0_4.length c0_4], .int .i64 1048576] rfl (by (try simp only [List.map_toArray, List.map_cons, List.map_nil]); first | done | rfl | (simp only [List.length_drop, List.length_take]; rfl)) ?_; (with_reducible refine (laws_szTimed.calls a0_0 a0_1 a0_2 a0_3 _ _ l0_4 1048576 t1198 _ ?side1 ?side2 A5.out).mono ?_); (case side1 => repeat (first | exact (Kd.C_below HR0_4.out HB.out) | (with_reducible refine Kd.C_alloc ?_ _) | (with_reducible refine Kd.C_drewN ?_ _) | (with_reducible refine Kd.C_drew ?_))); (case side2 => exact HC0_4.out); rintro e w13 ⟨rfl, hb⟩; refine ⟨_, rfl, ?_⟩; have n0_ := bkb BK1195 hb (by intro z_; (with_reducible repeat (first | refine kDN ?_ _ | refine kD ?_ | refine kA ?_ _)); exact z_); have n1_ := bkb BK1196 hb (by intro z_; (with_reducible repeat (first | refine kDN ?_ _ | refine kD ?_ | refine kA ?_ _)); exact z_); have n2_ := bkb BK1197 hb (by intro z_; (with_reducible repeat (first | refine kDN ?_ _ | refine kD ?_ | refine kA ?_ _)); exact z_); have n3_ := aK (bSp (by repeat (first | (with_reducible first | exact HB.out | apply bAl | apply bDN | apply bD1 | refine bSt ?_ GE1195.out | refine bSt ?_ GE1196.out | refine bSt ?_ GE1197.out) | exact HB.out)) hb); clear BK1195; clear BK1196; clear BK1197; clear HB; have BK1195 := n0_; have BK1196 := n1_; have BK1197 := n2_; have HB := n3_; clear n0_ n1_ n2_ n3_; (try clear hb); (try clear hb2); (try clear hk); (try clear hi)))
  go_ret
  exact ⟨by first | rfl | (simp [errW_none, errW_some] <;> rfl) | (simp [*, errW_none, errW_some] <;> rfl), by repeat (first | (with_reducible first | exact HB.out | apply bAl | apply bDN | apply bD1 | refine bSt ?_ GE1195.out | refine bSt ?_ GE1196.out | refine bSt ?_ GE1197.out) | exact HB.out)⟩
 ·rw [if_neg c6] at H
  have c6b0 : decide (t1198 < 0) = false := decide_eq_false c6
  clear c6
  replace H := Option.bind_eq_some_iff.mp H
  obtain ⟨⟨t1199, t1200, t1201, t1202, t1203⟩, A140, H⟩ := H
  replace H : ((laws_toEntry.f a1_0 a1_1).bind fun bt1206 => ((laws_toEntry.f a2_0 a2_1).bind fun bt1208 => ((spec_BetweenCells.f k t1199 t1200 t1201 t1202 t1203 bt1206.1 bt1206.2 bt1208.1 bt1208.2 a3).bind fun t1210 => ((laws_toTimed.f k a0_0 a0_1 a0_2 a0_3 l0_4).bind fun bt1213 => ((laws_toEntry.f a1_0 a1_1).bind fun bt1221 => ((laws_toEntry.f a2_0 a2_1).bind fun bt1223 => ((impl_BetweenCells.f bt1213.1 bt1213.2.1 bt1213.2.2.1 bt1213.2.2.2.1 bt1213.2.2.2.2 bt1221.1 bt1221.2 bt1223.1 bt1223.2 a3).bind fun t1225 => ((laws_eqIntS.f k t1225 t1210).bind fun t1228 => (if t1228 = true then ((laws_toTimed.f k a0_0 a0_1 a0_2 a0_3 l0_4).bind fun bt1229 => ((laws_eqTimed.f k bt1213.1 bt1213.2.1 bt1213.2.2.1 bt1213.2.2.2.1 bt1213.2.2.2.2 bt1229.1 bt1229.2.1 bt1229.2.2.1 bt1229.2.2.2.1 bt1229.2.2.2.2).bind fun t1236 => (if t1236 = true then ((laws_markTimed.f k bt1213.1 bt1213.2.1 bt1213.2.2.1 bt1213.2.2.2.1 bt1213.2.2.2.2 1).bind fun bt1237 => (if bt1237.1 < 0 then (laws_FnExactBetweenCells.j0 k a3 t1210 t1225 true a0_0 a0_1 a0_2 a0_3 l0_4 a1_0 a1_1 a2_0 a2_1) else ((laws_eqIntS.f k t1225 t1210).bind fun t1239 => (laws_FnExactBetweenCells.j0 k a3 t1210 t1225 (!t1239) a0_0 a0_1 a0_2 a0_3 l0_4 a1_0 a1_1 a2_0 a2_1)))) else (some false)))) else (some false)))))))))) = some true := H
  have A14 := aK A140
  clear A140
  replace H := Option.bind_eq_some_iff.mp H
  obtain ⟨⟨t1206, t1207⟩, A150, H⟩ := H
  replace H : ((laws_toEntry.f a2_0 a2_1).bind fun bt1208 => ((spec_BetweenCells.f k t1199 t1200 t1201 t1202 t1203 t1206 t1207 bt1208.1 bt1208.2 a3).bind fun t1210 => ((laws_toTimed.f k a0_0 a0_1 a0_2 a0_3 l0_4).bind fun bt1213 => ((laws_toEntry.f a1_0 a1_1).bind fun bt1221 => ((laws_toEntry.f a2_0 a2_1).bind fun bt1223 => ((impl_BetweenCells.f bt1213.1 bt1213.2.1 bt1213.2.2.1 bt1213.2.2.2.1 bt1213.2.2.2.2 bt1221.1 bt1221.2 bt1223.1 bt1223.2 a3).bind fun t1225 => ((laws_eqIntS.f k t1225 t1210).bind fun t1228 => (if t1228 = true then ((laws_toTimed.f k a0_0 a0_1 a0_2 a0_3 l0_4).bind fun bt1229 => ((laws_eqTimed.f k bt1213.1 bt1213.2.1 bt1213.2.2.1 bt1213.2.2.2.1 bt1213.2.2.2.2 bt1229.1 bt1229.2.1 bt1229.2.2.1 bt1229.2.2.2.1 bt1229.2.2.2.2).bind fun t1236 => (if t1236 = true then ((laws_markTimed.f k bt1213.1 bt1213.2.1 bt1213.2.2.1 bt1213.2.2.2.1 bt1213.2.2.2.2 1).bind fun bt1237 => (if bt1237.1 < 0 then (laws_FnExactBetweenCells.j0 k a3 t1210 t1225 true a0_0 a0_1 a0_2 a0_3 l0_4 a1_0 a1_1 a2_0 a2_1) else ((laws_eqIntS.f k t1225 t1210).bind fun t1239 => (laws_FnExactBetweenCells.j0 k a3 t1210 t1225 (!t1239) a0_0 a0_1 a0_2 a0_3 l0_4 a1_0 a1_1 a2_0 a2_1)))) else (some false)))) else (some false))))))))) = some true := H
  have A15 := aK A150
  clear A150
  replace H := Option.bind_eq_some_iff.mp H
  obtain ⟨⟨t1208, t1209⟩, A160, H⟩ := H
  replace H : ((spec_BetweenCells.f k t1199 t1200 t1201 t1202 t1203 t1206 t1207 t1208 t1209 a3).bind fun t1210 => ((laws_toTimed.f k a0_0 a0_1 a0_2 a0_3 l0_4).bind fun bt1213 => ((laws_toEntry.f a1_0 a1_1).bind fun bt1221 => ((laws_toEntry.f a2_0 a2_1).bind fun bt1223 => ((impl_BetweenCells.f bt1213.1 bt1213.2.1 bt1213.2.2.1 bt1213.2.2.2.1 bt1213.2.2.2.2 bt1221.1 bt1221.2 bt1223.1 bt1223.2 a3).bind fun t1225 => ((laws_eqIntS.f k t1225 t1210).bind fun t1228 => (if t1228 = true then ((laws_toTimed.f k a0_0 a0_1 a0_2 a0_3 l0_4).bind fun bt1229 => ((laws_eqTimed.f k bt1213.1 bt1213.2.1 bt1213.2.2.1 bt1213.2.2.2.1 bt1213.2.2.2.2 bt1229.1 bt1229.2.1 bt1229.2.2.1 bt1229.2.2.2.1 bt1229.2.2.2.2).bind fun t1236 => (if t1236 = true then ((laws_markTimed.f k bt1213.1 bt1213.2.1 bt1213.2.2.1 bt1213.2.2.2.1 bt1213.2.2.2.2 1).bind fun bt1237 => (if bt1237.1 < 0 then (laws_FnExactBetweenCells.j0 k a3 t1210 t1225 true a0_0 a0_1 a0_2 a0_3 l0_4 a1_0 a1_1 a2_0 a2_1) else ((laws_eqIntS.f k t1225 t1210).bind fun t1239 => (laws_FnExactBetweenCells.j0 k a3 t1210 t1225 (!t1239) a0_0 a0_1 a0_2 a0_3 l0_4 a1_0 a1_1 a2_0 a2_1)))) else (some false)))) else (some false)))))))) = some true := H
  have A16 := aK A160
  clear A160
  replace H := Option.bind_eq_some_iff.mp H
  obtain ⟨t1210, A170, H⟩ := H
  replace H : ((laws_toTimed.f k a0_0 a0_1 a0_2 a0_3 l0_4).bind fun bt1213 => ((laws_toEntry.f a1_0 a1_1).bind fun bt1221 => ((laws_toEntry.f a2_0 a2_1).bind fun bt1223 => ((impl_BetweenCells.f bt1213.1 bt1213.2.1 bt1213.2.2.1 bt1213.2.2.2.1 bt1213.2.2.2.2 bt1221.1 bt1221.2 bt1223.1 bt1223.2 a3).bind fun t1225 => ((laws_eqIntS.f k t1225 t1210).bind fun t1228 => (if t1228 = true then ((laws_toTimed.f k a0_0 a0_1 a0_2 a0_3 l0_4).bind fun bt1229 => ((laws_eqTimed.f k bt1213.1 bt1213.2.1 bt1213.2.2.1 bt1213.2.2.2.1 bt1213.2.2.2.2 bt1229.1 bt1229.2.1 bt1229.2.2.1 bt1229.2.2.2.1 bt1229.2.2.2.2).bind fun t1236 => (if t1236 = true then ((laws_markTimed.f k bt1213.1 bt1213.2.1 bt1213.2.2.1 bt1213.2.2.2.1 bt1213.2.2.2.2 1).bind fun bt1237 => (if bt1237.1 < 0 then (laws_FnExactBetweenCells.j0 k a3 t1210 t1225 true a0_0 a0_1 a0_2 a0_3 l0_4 a1_0 a1_1 a2_0 a2_1) else ((laws_eqIntS.f k t1225 t1210).bind fun t1239 => (laws_FnExactBetweenCells.j0 k a3 t1210 t1225 (!t1239) a0_0 a0_1 a0_2 a0_3 l0_4 a1_0 a1_1 a2_0 a2_1)))) else (some false)))) else (some false))))))) = some true := H
  have A17 := aK A170
  clear A170
  replace H := Option.bind_eq_some_iff.mp H
  obtain ⟨⟨t1213, t1214, t1215, t1216, t1217⟩, A180, H⟩ := H
  replace H : ((laws_toEntry.f a1_0 a1_1).bind fun bt1221 => ((laws_toEntry.f a2_0 a2_1).bind fun bt1223 => ((impl_BetweenCells.f t1213 t1214 t1215 t1216 t1217 bt1221.1 bt1221.2 bt1223.1 bt1223.2 a3).bind fun t1225 => ((laws_eqIntS.f k t1225 t1210).bind fun t1228 => (if t1228 = true then ((laws_toTimed.f k a0_0 a0_1 a0_2 a0_3 l0_4).bind fun bt1229 => ((laws_eqTimed.f k t1213 t1214 t1215 t1216 t1217 bt1229.1 bt1229.2.1 bt1229.2.2.1 bt1229.2.2.2.1 bt1229.2.2.2.2).bind fun t1236 => (if t1236 = true then ((laws_markTimed.f k t1213 t1214 t1215 t1216 t1217 1).bind fun bt1237 => (if bt1237.1 < 0 then (laws_FnExactBetweenCells.j0 k a3 t1210 t1225 true a0_0 a0_1 a0_2 a0_3 l0_4 a1_0 a1_1 a2_0 a2_1) else ((laws_eqIntS.f k t1225 t1210).bind fun t1239 => (laws_FnExactBetweenCells.j0 k a3 t1210 t1225 (!t1239) a0_0 a0_1 a0_2 a0_3 l0_4 a1_0 a1_1 a2_0 a2_1)))) else (some false)))) else (some false)))))) = some true := H
  have A18 := aK A180
  clear A180
  replace H := Option.bind_eq_some_iff.mp H
  obtain ⟨⟨t1221, t1222⟩, A190, H⟩ := H
  replace H : ((laws_toEntry.f a2_0 a2_1).bind fun bt1223 => ((impl_BetweenCells.f t1213 t1214 t1215 t1216 t1217 t1221 t1222 bt1223.1 bt1223.2 a3).bind fun t1225 => ((laws_eqIntS.f k t1225 t1210).bind fun t1228 => (if t1228 = true then ((laws_toTimed.f k a0_0 a0_1 a0_2 a0_3 l0_4).bind fun bt1229 => ((laws_eqTimed.f k t1213 t1214 t1215 t1216 t1217 bt1229.1 bt1229.2.1 bt1229.2.2.1 bt1229.2.2.2.1 bt1229.2.2.2.2).bind fun t1236 => (if t1236 = true then ((laws_markTimed.f k t1213 t1214 t1215 t1216 t1217 1).bind fun bt1237 => (if bt1237.1 < 0 then (laws_FnExactBetweenCells.j0 k a3 t1210 t1225 true a0_0 a0_1 a0_2 a0_3 l0_4 a1_0 a1_1 a2_0 a2_1) else ((laws_eqIntS.f k t1225 t1210).bind fun t1239 => (laws_FnExactBetweenCells.j0 k a3 t1210 t1225 (!t1239) a0_0 a0_1 a0_2 a0_3 l0_4 a1_0 a1_1 a2_0 a2_1)))) else (some false)))) else (some false))))) = some true := H
  have A19 := aK A190
  clear A190
  replace H := Option.bind_eq_some_iff.mp H
  obtain ⟨⟨t1223, t1224⟩, A200, H⟩ := H
  replace H : ((impl_BetweenCells.f t1213 t1214 t1215 t1216 t1217 t1221 t1222 t1223 t1224 a3).bind fun t1225 => ((laws_eqIntS.f k t1225 t1210).bind fun t1228 => (if t1228 = true then ((laws_toTimed.f k a0_0 a0_1 a0_2 a0_3 l0_4).bind fun bt1229 => ((laws_eqTimed.f k t1213 t1214 t1215 t1216 t1217 bt1229.1 bt1229.2.1 bt1229.2.2.1 bt1229.2.2.2.1 bt1229.2.2.2.2).bind fun t1236 => (if t1236 = true then ((laws_markTimed.f k t1213 t1214 t1215 t1216 t1217 1).bind fun bt1237 => (if bt1237.1 < 0 then (laws_FnExactBetweenCells.j0 k a3 t1210 t1225 true a0_0 a0_1 a0_2 a0_3 l0_4 a1_0 a1_1 a2_0 a2_1) else ((laws_eqIntS.f k t1225 t1210).bind fun t1239 => (laws_FnExactBetweenCells.j0 k a3 t1210 t1225 (!t1239) a0_0 a0_1 a0_2 a0_3 l0_4 a1_0 a1_1 a2_0 a2_1)))) else (some false)))) else (some false)))) = some true := H
  have A20 := aK A200
  clear A200
  replace H := Option.bind_eq_some_iff.mp H
  obtain ⟨t1225, A210, H⟩ := H
  replace H : ((laws_eqIntS.f k t1225 t1210).bind fun t1228 => (if t1228 = true then ((laws_toTimed.f k a0_0 a0_1 a0_2 a0_3 l0_4).bind fun bt1229 => ((laws_eqTimed.f k t1213 t1214 t1215 t1216 t1217 bt1229.1 bt1229.2.1 bt1229.2.2.1 bt1229.2.2.2.1 bt1229.2.2.2.2).bind fun t1236 => (if t1236 = true then ((laws_markTimed.f k t1213 t1214 t1215 t1216 t1217 1).bind fun bt1237 => (if bt1237.1 < 0 then (laws_FnExactBetweenCells.j0 k a3 t1210 t1225 true a0_0 a0_1 a0_2 a0_3 l0_4 a1_0 a1_1 a2_0 a2_1) else ((laws_eqIntS.f k t1225 t1210).bind fun t1239 => (laws_FnExactBetweenCells.j0 k a3 t1210 t1225 (!t1239) a0_0 a0_1 a0_2 a0_3 l0_4 a1_0 a1_1 a2_0 a2_1)))) else (some false)))) else (some false))) = some true := H
  have A21 := aK A210
  clear A210
  replace H := Option.bind_eq_some_iff.mp H
  obtain ⟨t1228, A220, H⟩ := H
  replace H : (if t1228 = true then ((laws_toTimed.f k a0_0 a0_1 a0_2 a0_3 l0_4).bind fun bt1229 => ((laws_eqTimed.f k t1213 t1214 t1215 t1216 t1217 bt1229.1 bt1229.2.1 bt1229.2.2.1 bt1229.2.2.2.1 bt1229.2.2.2.2).bind fun t1236 => (if t1236 = true then ((laws_markTimed.f k t1213 t1214 t1215 t1216 t1217 1).bind fun bt1237 => (if bt1237.1 < 0 then (laws_FnExactBetweenCells.j0 k a3 t1210 t1225 true a0_0 a0_1 a0_2 a0_3 l0_4 a1_0 a1_1 a2_0 a2_1) else ((laws_eqIntS.f k t1225 t1210).bind fun t1239 => (laws_FnExactBetweenCells.j0 k a3 t1210 t1225 (!t1239) a0_0 a0_1 a0_2 a0_3 l0_4 a1_0 a1_1 a2_0 a2_1)))) else (some false)))) else (some false)) = some true := H
  have A22 := aK A220
  clear A220
  by_cases c23 : t1228 = true
  ·subst c23
   have H1 : ((laws_toTimed.f k a0_0 a0_1 a0_2 a0_3 l0_4).bind fun bt1229 => ((laws_eqTimed.f k t1213 t1214 t1215 t1216 t1217 bt1229.1 bt1229.2.1 bt1229.2.2.1 bt1229.2.2.2.1 bt1229.2.2.2.2).bind fun t1236 => (if t1236 = true then ((laws_markTimed.f k t1213 t1214 t1215 t1216 t1217 1).bind fun bt1237 => (if bt1237.1 < 0 then (laws_FnExactBetweenCells.j0 k a3 t1210 t1225 true a0_0 a0_1 a0_2 a0_3 l0_4 a1_0 a1_1 a2_0 a2_1) else ((laws_eqIntS.f k t1225 t1210).bind fun t1239 => (laws_FnExactBetweenCells.j0 k a3 t1210 t1225 (!t1239) a0_0 a0_1 a0_2 a0_3 l0_4 a1_0 a1_1 a2_0 a2_1)))) else (some false)))) = some true := by first | (rw [if_pos rfl] at H; exact H) | rfl
   clear H
   have H := H1
   clear H1
   replace H := Option.bind_eq_some_iff.mp H
   obtain ⟨⟨t1229, t1230, t1231, t1232, t1233⟩, A240, H⟩ := H
   replace H : ((laws_eqTimed.f k t1213 t1214 t1215 t1216 t1217 t1229 t1230 t1231 t1232 t1233).bind fun t1236 => (if t1236 = true then ((laws_markTimed.f k t1213 t1214 t1215 t1216 t1217 1).bind fun bt1237 => (if bt1237.1 < 0 then (laws_FnExactBetweenCells.j0 k a3 t1210 t1225 true a0_0 a0_1 a0_2 a0_3 l0_4 a1_0 a1_1 a2_0 a2_1) else ((laws_eqIntS.f k t1225 t1210).bind fun t1239 => (laws_FnExactBetweenCells.j0 k a3 t1210 t1225 (!t1239) a0_0 a0_1 a0_2 a0_3 l0_4 a1_0 a1_1 a2_0 a2_1)))) else (some false))) = some true := H
   have A24 := aK A240
   clear A240
   replace H := Option.bind_eq_some_iff.mp H
   obtain ⟨t1236, A250, H⟩ := H
   replace H : (if t1236 = true then ((laws_markTimed.f k t1213 t1214 t1215 t1216 t1217 1).bind fun bt1237 => (if bt1237.1 < 0 then (laws_FnExactBetweenCells.j0 k a3 t1210 t1225 true a0_0 a0_1 a0_2 a0_3 l0_4 a1_0 a1_1 a2_0 a2_1) else ((laws_eqIntS.f k t1225 t1210).bind fun t1239 => (laws_FnExactBetweenCells.j0 k a3 t1210 t1225 (!t1239) a0_0 a0_1 a0_2 a0_3 l0_4 a1_0 a1_1 a2_0 a2_1)))) else (some false)) = some true := H
   have A25 := aK A250
   clear A250
   by_cases c26 : t1236 = true
   ·subst c26
    have H1 : ((laws_markTimed.f k t1213 t1214 t1215 t1216 t1217 1).bind fun bt1237 => (if bt1237.1 < 0 then (laws_FnExactBetweenCells.j0 k a3 t1210 t1225 true a0_0 a0_1 a0_2 a0_3 l0_4 a1_0 a1_1 a2_0 a2_1) else ((laws_eqIntS.f k t1225 t1210).bind fun t1239 => (laws_FnExactBetweenCells.j0 k a3 t1210 t1225 (!t1239) a0_0 a0_1 a0_2 a0_3 l0_4 a1_0 a1_1 a2_0 a2_1)))) = some true := by first | (rw [if_pos rfl] at H; exact H) | rfl
    clear H
    have H := H1
    clear H1
    replace H := Option.bind_eq_some_iff.mp H
    obtain ⟨⟨t1237, t1238⟩, A270, H⟩ := H
    replace H : (if t1237 < 0 then (laws_FnExactBetweenCells.j0 k a3 t1210 t1225 true a0_0 a0_1 a0_2 a0_3 l0_4 a1_0 a1_1 a2_0 a2_1) else ((laws_eqIntS.f k t1225 t1210).bind fun t1239 => (laws_FnExactBetweenCells.j0 k a3 t1210 t1225 (!t1239) a0_0 a0_1 a0_2 a0_3 l0_4 a1_0 a1_1 a2_0 a2_1))) = some true := H
    have A27 := aK A270
    clear A270
    have HC28 := aK H
    clear H
    go_enter Try.func14, Try.ntmps14
    try go_wp2_with (first | ((with_reducible refine gate_dst (N := 4) rfl ?_); refine box_event ?hg (N := 4) ?hd (cs := #[.int .i64 a0_0, .int .i64 a0_1, .int .i64 a0_2, .int .i64 a0_3, .slice A0_4 l0_4.length c0_4]) (t := 51) ?hr ?_; (case hd => rfl); (case hg => rfl); (case hr => first | (go_simp; done) | (go_simp; rfl)); intro gb1195 hg w29 hbox hb; have n0_ := aK (bSp (by repeat (first | (with_reducible first | exact HB.out | apply bAl | apply bDN | apply bD1) | exact HB.out)) hb); have n1_ := aK (hbox); have n2_ := aK ((by rw [hg]; exact (bSz (by repeat (first | (with_reducible first | exact HB.out | apply bAl | apply bDN | apply bD1) | exact HB.out))) : w.heap.size ≤ gb1195)); have n3_ := n2_; clear HB; have HB := n0_; have BK1195 := n1_; have GW1195 := n2_; have GE1195 := n3_; clear n0_ n1_ n2_ n3_; clear hb hbox hg) | ((with_reducible refine gate_dst (N := 5) rfl ?_); refine box_event ?hg (N := 5) ?hd (cs := #[.int .i64 a1_0, .int .i64 a1_1]) (t := 53) ?hr ?_; (case hd => rfl); (case hg => rfl); (case hr => first | (go_simp; done) | (go_simp; rfl)); intro gb1196 hg w30 hbox hb; have n0_ := bkb BK1195 hb (by intro z_; (with_reducible repeat (first | refine kDN ?_ _ | refine kD ?_ | refine kA ?_ _)); exact z_); have n1_ := aK (bSp (by repeat (first | (with_reducible first | exact HB.out | apply bAl | apply bDN | apply bD1 | refine bSt ?_ GE1195.out) | exact HB.out)) hb); have n2_ := aK (hbox); have n3_ := aK ((by rw [hg]; exact (bSz (by repeat (first | (with_reducible first | exact HB.out | apply bAl | apply bDN | apply bD1 | refine bSt ?_ GE1195.out) | exact HB.out))) : w.heap.size ≤ gb1196)); have n4_ := n3_; have n5_ := nbl BK1195 hg (by intro z_; (with_reducible repeat (first | refine kDN ?_ _ | refine kD ?_ | refine kA ?_ _)); exact z_); have n6_ := nbs n5_; clear BK1195; clear HB; have BK1195 := n0_; have HB := n1_; have BK1196 := n2_; have GW1196 := n3_; have GE1196 := n4_; have NB1195_1196 := n5_; have NB1196_1195 := n6_; clear n0_ n1_ n2_ n3_ n4_ n5_ n6_; clear hb hbox hg) | ((with_reducible refine gate_dst (N := 6) rfl ?_); refine box_event ?hg (N := 6) ?hd (cs := #[.int .i64 a2_0, .int .i64 a2_1]) (t := 53) ?hr ?_; (case hd => rfl); (case hg => rfl); (case hr => first | (go_simp; done) | (go_simp; rfl)); intro gb1197 hg w31 hbox hb; have n0_ := bkb BK1195 hb (by intro z_; (with_reducible repeat (first | refine kDN ?_ _ | refine kD ?_ | refine kA ?_ _)); exact z_); have n1_ := bkb BK1196 hb (by intro z_; (with_reducible repeat (first | refine kDN ?_ _ | refine kD ?_ | refine kA ?_ _)); exact z_); have n2_ := aK (bSp (by repeat (first | (with_reducible first | exact HB.out | apply bAl | apply bDN | apply bD1 | refine bSt ?_ GE1195.out | refine bSt ?_ GE1196.out) | exact HB.out)) hb); have n3_ := aK (hbox); have n4_ := aK ((by rw [hg]; exact (bSz (by repeat (first | (with_reducible first | exact HB.out | apply bAl | apply bDN | apply bD1 | refine bSt ?_ GE1195.out | refine bSt ?_ GE1196.out) | exact HB.out))) : w.heap.size ≤ gb1197)); have n5_ := n4_; have n6_ := nbl BK1195 hg (by intro z_; (with_reducible repeat (first | refine kDN ?_ _ | refine kD ?_ | refine kA ?_ _)); exact z_); have n7_ := nbs n6_; have n8_ := nbl BK1196 hg (by intro z_; (with_reducible repeat (first | refine kDN ?_ _ | refine kD ?_ | refine kA ?_ _)); exact z_); have n9_ := nbs n8_; clear BK1195; clear BK1196; clear HB; have BK1195 := n0_; have BK1196 := n1_; have HB := n2_; have BK1197 := n3_; have GW1197 := n4_; have GE1197 := n5_; have NB1195_1197 := n6_; have NB1197_1195 := n7_; have NB1196_1197 := n8_; have NB1197_1196 := n9_; clear n0_ n1_ n2_ n3_ n4_ n5_ n6_ n7_ n8_ n9_; clear hb hbox hg; have hnb32 := NB1195_1196.out; have hnc32 := NB1196_1195.out; have hnb33 := NB1195_1197.out; have hnc33 := NB1197_1195.out; obtain ⟨hcz34_0, hcz34_1, hcz34_2, hcz34_3, hcz34_4, hfz34_0, hfz34_1, hfz34_2, hfz34_3, hfz34_4⟩ := cl5 BK1195.out) | ((with_reducible refine gate_callee (f := 34) rfl ?_); refine goesL_ (some 19) rfl rfl Try.func34 (by kernel_rfl) rfl #[.agg #[.int .i64 a0_0, .int .i64 a0_1, .int .i64 a0_2, .int .i64 a0_3, .slice A0_4 l0_4.length c0_4], .int .i64 1048576] rfl (by (try simp only [List.map_toArray, List.map_cons, List.map_nil]); first | done | rfl | (simp only [List.length_drop, List.length_take]; rfl)) ?_; (with_reducible refine (laws_szTimed.calls a0_0 a0_1 a0_2 a0_3 _ _ l0_4 1048576 t1198 _ ?side1 ?side2 A5.out).mono ?_); (case side1 => repeat (first | exact (Kd.C_below HR0_4.out HB.out) | (with_reducible refine Kd.C_alloc ?_ _) | (with_reducible refine Kd.C_drewN ?_ _) | (with_reducible refine Kd.C_drew ?_))); (case side2 => exact HC0_4.out); rintro e w35 ⟨rfl, hb⟩; refine ⟨_, rfl, ?_⟩; have n0_ := bkb BK1195 hb (by intro z_; (with_reducible repeat (first | refine kDN ?_ _ | refine kD ?_ | refine kA ?_ _)); exact z_); have n1_ := bkb BK1196 hb (by intro z_; (with_reducible repeat (first | refine kDN ?_ _ | refine kD ?_ | refine kA ?_ _)); exact z_); have n2_ := bkb BK1197 hb (by intro z_; (with_reducible repeat (first | refine kDN ?_ _ | refine kD ?_ | refine kA ?_ _)); exact z_); have n3_ := aK (bSp (by repeat (first | (with_reducible first | exact HB.out | apply bAl | apply bDN | apply bD1 | refine bSt ?_ GE1195.out | refine bSt ?_ GE1196.out | refine bSt ?_ GE1197.out) | exact HB.out)) hb); clear BK1195; clear BK1196; clear BK1197; clear HB; have BK1195 := n0_; have BK1196 := n1_; have BK1197 := n2_; have HB := n3_; clear n0_ n1_ n2_ n3_; (try clear hb); (try clear hb2); (try clear hk); (try clear hi)))
    have n0_ := aK (kD BK1195.out)
    have n1_ := aK (kD BK1196.out)
    have n2_ := aK (kD BK1197.out)
    have n3_ := aK (bD1 HB.out)
    clear BK1195
    clear BK1196
    clear BK1197
    clear HB
    have BK1195 := n0_
    have BK1196 := n1_
    have BK1197 := n2_
    have HB := n3_
    clear n0_ n1_ n2_ n3_
    refine start_ (n := 9) (S := fun w' => w'.cell? ⟨gb1195, 0, none⟩ = some (.int .i64 a0_0) ∧ w'.cell? ⟨gb1195, 1, none⟩ = some (.int .i64 a0_1) ∧ w'.cell? ⟨gb1195, 2, none⟩ = some (.int .i64 a0_2) ∧ w'.cell? ⟨gb1195, 3, none⟩ = some (.int .i64 a0_3) ∧ w'.cell? ⟨gb1195, 4, none⟩ = some (.slice A0_4 l0_4.length c0_4) ∧ w'.cell? ⟨gb1196, 0, none⟩ = some (.int .i64 a1_0) ∧ w'.cell? ⟨gb1196, 1, none⟩ = some (.int .i64 a1_1) ∧ w'.cell? ⟨gb1197, 0, none⟩ = some (.int .i64 a2_0) ∧ w'.cell? ⟨gb1197, 1, none⟩ = some (.int .i64 a2_1)) (ds := []) #[bN,bN,bN,bN,bN,bN,bN,bN,bN] (by kernel_rfl) rfl rfl ⟨(kC BK1195.out 0).trans rfl, (kC BK1195.out 1).trans rfl, (kC BK1195.out 2).trans rfl, (kC BK1195.out 3).trans rfl, (kC BK1195.out 4).trans rfl, (kC BK1196.out 0).trans rfl, (kC BK1196.out 1).trans rfl, (kC BK1197.out 0).trans rfl, (kC BK1197.out 1).trans rfl⟩ (fun hHeld => ?_); refine with_tabW laws_FnExactBetweenCells.tab5 laws_FnExactBetweenCells.bits5 (fun HT_ HW_ => ?_)
    generalize w35.drew = w36 at BK1195 BK1196 BK1197 HB hHeld ⊢
    refine pure_ (i := 6) (N := some 28) (v := ?_) (a' := ?_) #[bN,bN,bN,bN,bN,bN,bY,bN,bN] rfl rfl (any_of HT_.out (by kernel_rfl)) (fun _ _ _ h => h) (Or.inl ⟨by rfl, ?_⟩) ?_ ?_
    rotate_left
    ·intro w'
     go_simp
     with_reducible rfl
    rotate_left
    ·simp only [Act.put, sTA, sZ, sS, i64_w, i32_w]
     rfl
    refine take_ (i := 0) (N := some 22) (v := ?_) (a' := ?_) #[bY,bN,bN,bN,bN,bN,bY,bN,bN] rfl rfl (take_ofW HT_.out HW_.out (by kernel_rfl)) (fun _ _ _ h => h) (Or.inl ⟨by rfl, ?_⟩) hHeld ?_ ?_
    rotate_left
    ·rintro w' ⟨s0, s1, s2, s3, s4, s5, s6, s7, s8⟩
     go_simp
     with_reducible rfl
    rotate_left
    ·simp only [Act.put, sTA, sZ, sS, i64_w, i32_w]
     rfl
    refine take_ (i := 2) (N := some 24) (v := ?_) (a' := ?_) #[bY,bN,bY,bN,bN,bN,bY,bN,bN] rfl rfl (take_ofW HT_.out HW_.out (by kernel_rfl)) (fun _ _ _ h => h) (Or.inl ⟨by rfl, ?_⟩) hHeld ?_ ?_
    rotate_left
    ·rintro w' ⟨s0, s1, s2, s3, s4, s5, s6, s7, s8⟩
     go_simp
     with_reducible rfl
    rotate_left
    ·simp only [Act.put, sTA, sZ, sS, i64_w, i32_w]
     rfl
    refine take_ (i := 4) (N := some 26) (v := ?_) (a' := ?_) #[bY,bN,bY,bN,bY,bN,bY,bN,bN] rfl rfl (take_ofW HT_.out HW_.out (by kernel_rfl)) (fun _ _ _ h => h) (Or.inl ⟨by rfl, ?_⟩) hHeld ?_ ?_
    rotate_left
    ·rintro w' ⟨s0, s1, s2, s3, s4, s5, s6, s7, s8⟩
     go_simp
     with_reducible rfl
    rotate_left
    ·simp only [Act.put, sTA, sZ, sS, i64_w, i32_w]
     rfl
    refine one_ (i := 1) (N := some 23) #[bY,bY,bY,bN,bY,bN,bY,bN,bN] rfl rfl (one_of HT_.out (by kernel_rfl)) (by decide) (fun K hK => ?_)
    refine goes_ Try.func36 (by kernel_rfl) rfl #[.agg #[.int .i64 a0_0, .int .i64 a0_1, .int .i64 a0_2, .int .i64 a0_3, .slice A0_4 l0_4.length c0_4]] (by rfl) rfl rfl (by (try simp only [List.map_toArray, List.map_cons, List.map_nil]); first | done | rfl | (simp only [List.length_drop, List.length_take]; rfl)) ?_
    with_reducible refine (laws_toTimed.calls k a0_0 a0_1 a0_2 a0_3 _ _ l0_4 t1199 t1200 t1201 t1202 t1203 _ ?side1 ?side2 A14.out).mono ?_
    (case side1 => repeat (first | exact (Kd.C_below HR0_4.out HB.out) | (with_reducible refine Kd.C_alloc ?_ _) | (with_reducible refine Kd.C_drewN ?_ _) | (with_reducible refine Kd.C_drew ?_)))
    (case side2 => exact HC0_4.out)
    rintro e w37 ⟨v1204, rfl, ho0, hb⟩
    refine ⟨_, rfl, ?_⟩
    have n0_ := aK (Kd.R_lower ho0 (bSz (by repeat (first | (with_reducible first | exact HB.out | apply bAl | apply bDN | apply bD1 | refine bSt ?_ GE1195.out | refine bSt ?_ GE1196.out | refine bSt ?_ GE1197.out) | exact HB.out))))
    have n1_ := bkb BK1195 hb (by intro z_; (with_reducible repeat (first | refine kDN ?_ _ | refine kD ?_ | refine kA ?_ _)); exact z_)
    have n2_ := bkb BK1196 hb (by intro z_; (with_reducible repeat (first | refine kDN ?_ _ | refine kD ?_ | refine kA ?_ _)); exact z_)
    have n3_ := bkb BK1197 hb (by intro z_; (with_reducible repeat (first | refine kDN ?_ _ | refine kD ?_ | refine kA ?_ _)); exact z_)
    have n4_ := aK (bSp (by repeat (first | (with_reducible first | exact HB.out | apply bAl | apply bDN | apply bD1 | refine bSt ?_ GE1195.out | refine bSt ?_ GE1196.out | refine bSt ?_ GE1197.out) | exact HB.out)) hb)
    clear BK1195
    clear BK1196
    clear BK1197
    clear HB
    have HO1205 := n0_
    have BK1195 := n1_
    have BK1196 := n2_
    have BK1197 := n3_
    have HB := n4_
    clear n0_ n1_ n2_ n3_ n4_
    (try clear hb)
    (try clear hb2)
    (try clear hk)
    (try clear hi)
    (try clear ho0)
    refine hK.out _ _ ⟨(kC BK1195.out 0).trans rfl, (kC BK1195.out 1).trans rfl, (kC BK1195.out 2).trans rfl, (kC BK1195.out 3).trans rfl, (kC BK1195.out 4).trans rfl, (kC BK1196.out 0).trans rfl, (kC BK1196.out 1).trans rfl, (kC BK1197.out 0).trans rfl, (kC BK1197.out 1).trans rfl⟩ (fun hHeld => ?_)
    clear hK K
    refine norm_ (a' := ?_) ?_ ?_
    rotate_left
    ·show Act.put _ (some 23) _ = _
     simp only [Act.put, sTA, sZ, sS, i64_w, i32_w]
     rfl
    refine one_ (i := 3) (N := some 25) #[bY,bY,bY,bY,bY,bN,bY,bN,bN] rfl rfl (one_of HT_.out (by kernel_rfl)) (by decide) (fun K hK => ?_)
    refine goes_ Try.func37 (by kernel_rfl) rfl #[.agg #[.int .i64 a1_0, .int .i64 a1_1]] (by rfl) rfl rfl (by (try simp only [List.map_toArray, List.map_cons, List.map_nil]); first | done | rfl | (simp only [List.length_drop, List.length_take]; rfl)) ?_
    with_reducible refine (laws_toEntry.calls a1_0 a1_1 t1206 t1207 _ A15.out).mono ?_
    rintro e w38 ⟨rfl, hb⟩
    refine ⟨_, rfl, ?_⟩
    have n0_ := aK (Kd.R_below (by (with_reducible repeat (first | apply Kd.R_alloc | apply Kd.R_drewN | apply Kd.R_drew)); exact HO1205.out) hb)
    have n1_ := bkb BK1195 hb (by intro z_; (with_reducible repeat (first | refine kDN ?_ _ | refine kD ?_ | refine kA ?_ _)); exact z_)
    have n2_ := bkb BK1196 hb (by intro z_; (with_reducible repeat (first | refine kDN ?_ _ | refine kD ?_ | refine kA ?_ _)); exact z_)
    have n3_ := bkb BK1197 hb (by intro z_; (with_reducible repeat (first | refine kDN ?_ _ | refine kD ?_ | refine kA ?_ _)); exact z_)
    have n4_ := aK (bSp (by repeat (first | (with_reducible first | exact HB.out | apply bAl | apply bDN | apply bD1 | refine bSt ?_ GE1195.out | refine bSt ?_ GE1196.out | refine bSt ?_ GE1197.out) | exact HB.out)) hb)
    clear HO1205
    clear BK1195
    clear BK1196
    clear BK1197
    clear HB
    have HO1205 := n0_
    have BK1195 := n1_
    have BK1196 := n2_
    have BK1197 := n3_
    have HB := n4_
    clear n0_ n1_ n2_ n3_ n4_
    (try clear hb)
    (try clear hb2)
    (try clear hk)
    (try clear hi)
    refine hK.out _ _ ⟨(kC BK1195.out 0).trans rfl, (kC BK1195.out 1).trans rfl, (kC BK1195.out 2).trans rfl, (kC BK1195.out 3).trans rfl, (kC BK1195.out 4).trans rfl, (kC BK1196.out 0).trans rfl, (kC BK1196.out 1).trans rfl, (kC BK1197.out 0).trans rfl, (kC BK1197.out 1).trans rfl⟩ (fun hHeld => ?_)
    clear hK K
    refine norm_ (a' := ?_) ?_ ?_
    rotate_left
    ·show Act.put _ (some 25) _ = _
     simp only [Act.put, sTA, sZ, sS, i64_w, i32_w]
     rfl
    refine one_ (i := 5) (N := some 27) #[bY,bY,bY,bY,bY,bY,bY,bN,bN] rfl rfl (one_of HT_.out (by kernel_rfl)) (by decide) (fun K hK => ?_)
    refine goes_ Try.func37 (by kernel_rfl) rfl #[.agg #[.int .i64 a2_0, .int .i64 a2_1]] (by rfl) rfl rfl (by (try simp only [List.map_toArray, List.map_cons, List.map_nil]); first | done | rfl | (simp only [List.length_drop, List.length_take]; rfl)) ?_
    with_reducible refine (laws_toEntry.calls a2_0 a2_1 t1208 t1209 _ A16.out).mono ?_
    rintro e w39 ⟨rfl, hb⟩
    refine ⟨_, rfl, ?_⟩
    have n0_ := aK (Kd.R_below (by (with_reducible repeat (first | apply Kd.R_alloc | apply Kd.R_drewN | apply Kd.R_drew)); exact HO1205.out) hb)
    have n1_ := bkb BK1195 hb (by intro z_; (with_reducible repeat (first | refine kDN ?_ _ | refine kD ?_ | refine kA ?_ _)); exact z_)
    have n2_ := bkb BK1196 hb (by intro z_; (with_reducible repeat (first | refine kDN ?_ _ | refine kD ?_ | refine kA ?_ _)); exact z_)
    have n3_ := bkb BK1197 hb (by intro z_; (with_reducible repeat (first | refine kDN ?_ _ | refine kD ?_ | refine kA ?_ _)); exact z_)
    have n4_ := aK (bSp (by repeat (first | (with_reducible first | exact HB.out | apply bAl | apply bDN | apply bD1 | refine bSt ?_ GE1195.out | refine bSt ?_ GE1196.out | refine bSt ?_ GE1197.out) | exact HB.out)) hb)
    clear HO1205
    clear BK1195
    clear BK1196
    clear BK1197
    clear HB
    have HO1205 := n0_
    have BK1195 := n1_
    have BK1196 := n2_
    have BK1197 := n3_
    have HB := n4_
    clear n0_ n1_ n2_ n3_ n4_
    (try clear hb)
    (try clear hb2)
    (try clear hk)
    (try clear hi)
    obtain ⟨Ao40, co40, eo40⟩ := Kd.R_slice HO1205.out
    (first | subst eo40 | (injection eo40 with f1_ f2_ f3_; have f4_ := f1_.symm; have f5_ := f3_.symm; clear f1_ f2_ f3_; subst f4_; subst f5_))
    refine hK.out _ _ ⟨(kC BK1195.out 0).trans rfl, (kC BK1195.out 1).trans rfl, (kC BK1195.out 2).trans rfl, (kC BK1195.out 3).trans rfl, (kC BK1195.out 4).trans rfl, (kC BK1196.out 0).trans rfl, (kC BK1196.out 1).trans rfl, (kC BK1197.out 0).trans rfl, (kC BK1197.out 1).trans rfl⟩ (fun hHeld => ?_)
    clear hK K
    refine norm_ (a' := ?_) ?_ ?_
    rotate_left
    ·show Act.put _ (some 27) _ = _
     simp only [Act.put, sTA, sZ, sS, i64_w, i32_w]
     rfl
    refine one_ (i := 7) (N := some 29) #[bY,bY,bY,bY,bY,bY,bY,bY,bN] rfl rfl (one_of HT_.out (by kernel_rfl)) (by decide) (fun K hK => ?_)
    refine goes_ Try.func57 (by kernel_rfl) rfl #[.agg #[.int .i64 t1199, .int .i64 t1200, .int .i64 t1201, .int .i64 t1202, .slice Ao40 t1203.length co40], .agg #[.int .i64 t1206, .int .i64 t1207], .agg #[.int .i64 t1208, .int .i64 t1209], .int .i64 a3] (by rfl) rfl rfl (by (try simp only [List.map_toArray, List.map_cons, List.map_nil]); first | done | rfl | (simp only [List.length_drop, List.length_take]; rfl)) ?_
    with_reducible refine (spec_BetweenCells.calls k t1199 t1200 t1201 t1202 _ _ t1203 t1206 t1207 t1208 t1209 a3 t1210 _ ?side1 ?side2 A17.out).mono ?_
    (case side1 => repeat (first | exact (Kd.R_reads' HO1205.out).2.2 | (with_reducible refine Kd.C_alloc ?_ _) | (with_reducible refine Kd.C_drewN ?_ _) | (with_reducible refine Kd.C_drew ?_)))
    (case side2 => exact (Kd.R_reads' HO1205.out).2.1)
    rintro e w41 ⟨v1211, rfl, ho0, hb⟩
    refine ⟨_, rfl, ?_⟩
    have n0_ := aK (Kd.R_below (by (with_reducible repeat (first | apply Kd.R_alloc | apply Kd.R_drewN | apply Kd.R_drew)); exact HO1205.out) hb)
    have n1_ := aK (Kd.R_lower ho0 (bSz (by repeat (first | (with_reducible first | exact HB.out | apply bAl | apply bDN | apply bD1 | refine bSt ?_ GE1195.out | refine bSt ?_ GE1196.out | refine bSt ?_ GE1197.out) | exact HB.out))))
    have n2_ := bkb BK1195 hb (by intro z_; (with_reducible repeat (first | refine kDN ?_ _ | refine kD ?_ | refine kA ?_ _)); exact z_)
    have n3_ := bkb BK1196 hb (by intro z_; (with_reducible repeat (first | refine kDN ?_ _ | refine kD ?_ | refine kA ?_ _)); exact z_)
    have n4_ := bkb BK1197 hb (by intro z_; (with_reducible repeat (first | refine kDN ?_ _ | refine kD ?_ | refine kA ?_ _)); exact z_)
    have n5_ := aK (bSp (by repeat (first | (with_reducible first | exact HB.out | apply bAl | apply bDN | apply bD1 | refine bSt ?_ GE1195.out | refine bSt ?_ GE1196.out | refine bSt ?_ GE1197.out) | exact HB.out)) hb)
    clear HO1205
    clear BK1195
    clear BK1196
    clear BK1197
    clear HB
    have HO1205 := n0_
    have HO1212 := n1_
    have BK1195 := n2_
    have BK1196 := n3_
    have BK1197 := n4_
    have HB := n5_
    clear n0_ n1_ n2_ n3_ n4_ n5_
    (try clear hb)
    (try clear hb2)
    (try clear hk)
    (try clear hi)
    (try clear ho0)
    refine hK.out _ _ ⟨(kC BK1195.out 0).trans rfl, (kC BK1195.out 1).trans rfl, (kC BK1195.out 2).trans rfl, (kC BK1195.out 3).trans rfl, (kC BK1195.out 4).trans rfl, (kC BK1196.out 0).trans rfl, (kC BK1196.out 1).trans rfl, (kC BK1197.out 0).trans rfl, (kC BK1197.out 1).trans rfl⟩ (fun hHeld => ?_)
    clear hK K
    refine norm_ (a' := ?_) ?_ ?_
    rotate_left
    ·show Act.put _ (some 29) _ = _
     simp only [Act.put, sTA, sZ, sS, i64_w, i32_w]
     rfl
    refine pure_ (i := 8) (N := some 10) (v := ?_) (a' := ?_) #[bY,bY,bY,bY,bY,bY,bY,bY,bY] rfl rfl (any_of HT_.out (by kernel_rfl)) (fun _ _ _ h => h) (Or.inl ⟨by rfl, ?_⟩) ?_ ?_
    rotate_left
    ·intro w'
     go_simp
     with_reducible rfl
    rotate_left
    ·simp only [Act.put, sTA, sZ, sS, i64_w, i32_w]
     rfl
    refine done_ (done_of HT_.out (by kernel_rfl)) ?_
    obtain ⟨hcz42_0, hcz42_1, hcz42_2, hcz42_3, hcz42_4, hfz42_0, hfz42_1, hfz42_2, hfz42_3, hfz42_4⟩ := cl5 BK1195.out
    try go_wp2_with (first | ((with_reducible refine gate_callee (f := 36) rfl ?_); refine goesL_ (some 31) rfl rfl Try.func36 (by kernel_rfl) rfl #[.agg #[.int .i64 a0_0, .int .i64 a0_1, .int .i64 a0_2, .int .i64 a0_3, .slice A0_4 l0_4.length c0_4]] rfl (by (try simp only [List.map_toArray, List.map_cons, List.map_nil]); first | done | rfl | (simp only [List.length_drop, List.length_take]; rfl)) ?_; (with_reducible refine (laws_toTimed.calls k a0_0 a0_1 a0_2 a0_3 _ _ l0_4 t1213 t1214 t1215 t1216 t1217 _ ?side1 ?side2 A18.out).mono ?_); (case side1 => repeat (first | exact (Kd.C_below HR0_4.out HB.out) | (with_reducible refine Kd.C_alloc ?_ _) | (with_reducible refine Kd.C_drewN ?_ _) | (with_reducible refine Kd.C_drew ?_))); (case side2 => exact HC0_4.out); rintro e w43 ⟨v1218, rfl, ho0, hb⟩; refine ⟨_, rfl, ?_⟩; have n0_ := aK (Kd.R_elder' (by (with_reducible repeat (first | apply Kd.R_alloc | apply Kd.R_drewN | apply Kd.R_drew)); exact HO1205.out) (Kd.R_base ho0) hb); have n1_ := aK (Kd.R_below (by (with_reducible repeat (first | apply Kd.R_alloc | apply Kd.R_drewN | apply Kd.R_drew)); exact HO1212.out) hb); have n2_ := aK (Kd.R_lower (Kd.R_new' ho0 (Kd.R_lt (by (with_reducible repeat (first | apply Kd.R_alloc | apply Kd.R_drewN | apply Kd.R_drew)); exact HO1205.out))) (bSz (by repeat (first | (with_reducible first | exact HB.out | apply bAl | apply bDN | apply bD1 | refine bSt ?_ GE1195.out | refine bSt ?_ GE1196.out | refine bSt ?_ GE1197.out) | exact HB.out)))); have n3_ := bkb BK1195 hb (by intro z_; (with_reducible repeat (first | refine kDN ?_ _ | refine kD ?_ | refine kA ?_ _)); exact z_); have n4_ := bkb BK1196 hb (by intro z_; (with_reducible repeat (first | refine kDN ?_ _ | refine kD ?_ | refine kA ?_ _)); exact z_); have n5_ := bkb BK1197 hb (by intro z_; (with_reducible repeat (first | refine kDN ?_ _ | refine kD ?_ | refine kA ?_ _)); exact z_); have n6_ := aK (bSp (by repeat (first | (with_reducible first | exact HB.out | apply bAl | apply bDN | apply bD1 | refine bSt ?_ GE1195.out | refine bSt ?_ GE1196.out | refine bSt ?_ GE1197.out) | exact HB.out)) hb); clear HO1205; clear HO1212; clear BK1195; clear BK1196; clear BK1197; clear HB; have HO1205 := n0_; have HO1212 := n1_; have HO1219 := n2_; have BK1195 := n3_; have BK1196 := n4_; have BK1197 := n5_; have HB := n6_; clear n0_ n1_ n2_ n3_ n4_ n5_ n6_; (try clear hb); (try clear hb2); (try clear hk); (try clear hi); (try clear ho0)) | ((with_reducible refine gate_dst (N := 11) rfl ?_); refine box_event ?hg (N := 11) ?hd (cs := #[.int .i64 0, .int .i64 0, .int .i64 0, .int .i64 0, .slice none 0 0]) (t := 58) ?hr ?_; (case hd => rfl); (case hg => rfl); (case hr => first | (go_simp; done) | (go_simp; rfl)); intro gb1220 hg w44 hbox hb; have n0_ := aK (Kd.R_below (by (with_reducible repeat (first | apply Kd.R_alloc | apply Kd.R_drewN | apply Kd.R_drew)); exact HO1205.out) hb); have n1_ := aK (Kd.R_below (by (with_reducible repeat (first | apply Kd.R_alloc | apply Kd.R_drewN | apply Kd.R_drew)); exact HO1212.out) hb); have n2_ := aK (Kd.R_below (by (with_reducible repeat (first | apply Kd.R_alloc | apply Kd.R_drewN | apply Kd.R_drew)); exact HO1219.out) hb); have n3_ := bkb BK1195 hb (by intro z_; (with_reducible repeat (first | refine kDN ?_ _ | refine kD ?_ | refine kA ?_ _)); exact z_); have n4_ := bkb BK1196 hb (by intro z_; (with_reducible repeat (first | refine kDN ?_ _ | refine kD ?_ | refine kA ?_ _)); exact z_); have n5_ := bkb BK1197 hb (by intro z_; (with_reducible repeat (first | refine kDN ?_ _ | refine kD ?_ | refine kA ?_ _)); exact z_); have n6_ := aK (bSp (by repeat (first | (with_reducible first | exact HB.out | apply bAl | apply bDN | apply bD1 | refine bSt ?_ GE1195.out | refine bSt ?_ GE1196.out | refine bSt ?_ GE1197.out) | exact HB.out)) hb); have n7_ := aK (hbox); have n8_ := aK ((by rw [hg]; exact (bSz (by repeat (first | (with_reducible first | exact HB.out | apply bAl | apply bDN | apply bD1 | refine bSt ?_ GE1195.out | refine bSt ?_ GE1196.out | refine bSt ?_ GE1197.out) | exact HB.out))) : w.heap.size ≤ gb1220)); have n9_ := n8_; have n10_ := nbl BK1195 hg (by intro z_; (with_reducible repeat (first | refine kDN ?_ _ | refine kD ?_ | refine kA ?_ _)); exact z_); have n11_ := nbs n10_; have n12_ := nbl BK1196 hg (by intro z_; (with_reducible repeat (first | refine kDN ?_ _ | refine kD ?_ | refine kA ?_ _)); exact z_); have n13_ := nbs n12_; have n14_ := nbl BK1197 hg (by intro z_; (with_reducible repeat (first | refine kDN ?_ _ | refine kD ?_ | refine kA ?_ _)); exact z_); have n15_ := nbs n14_; clear HO1205; clear HO1212; clear HO1219; clear BK1195; clear BK1196; clear BK1197; clear HB; have HO1205 := n0_; have HO1212 := n1_; have HO1219 := n2_; have BK1195 := n3_; have BK1196 := n4_; have BK1197 := n5_; have HB := n6_; have BK1220 := n7_; have GW1220 := n8_; have GE1220 := n9_; have NB1195_1220 := n10_; have NB1220_1195 := n11_; have NB1196_1220 := n12_; have NB1220_1196 := n13_; have NB1197_1220 := n14_; have NB1220_1197 := n15_; clear n0_ n1_ n2_ n3_ n4_ n5_ n6_ n7_ n8_ n9_ n10_ n11_ n12_ n13_ n14_ n15_; clear hb hbox hg; have hnb45 := NB1220_1195.out; have hnc45 := NB1195_1220.out; have hnb46 := NB1220_1196.out; have hnc46 := NB1196_1220.out; have hnb47 := NB1220_1197.out; have hnc47 := NB1197_1220.out; obtain ⟨hcz48_0, hcz48_1, hcz48_2, hcz48_3, hcz48_4, hfz48_0, hfz48_1, hfz48_2, hfz48_3, hfz48_4⟩ := cl5 BK1220.out; obtain ⟨Ao49, co49, eo49⟩ := Kd.R_slice HO1219.out; subst eo49))
    have n0_ : Aside0 (Kd.R k137 137 (((((w44.setCell ⟨gb1220, 0, none⟩ (.int .i64 t1213)).setCell ⟨gb1220, 1, none⟩ (.int .i64 t1214)).setCell ⟨gb1220, 2, none⟩ (.int .i64 t1215)).setCell ⟨gb1220, 3, none⟩ (.int .i64 t1216)).setCell ⟨gb1220, 4, none⟩ (.slice Ao49 t1217.length co49)) w.heap.size (fun k_ => some k_ ≠ (.slice Ao49 t1217.length co49 : Value).ownBlock) (.slice Ao40 t1203.length co40) t1203) := ⟨by (with_reducible repeat (first | apply Kd.R_alloc | apply Kd.R_drewN | apply Kd.R_drew)); exact Kd.R_mono (Kd.R_far (p := ⟨gb1220, 4, none⟩) (Kd.R_far (p := ⟨gb1220, 3, none⟩) (Kd.R_far (p := ⟨gb1220, 2, none⟩) (Kd.R_far (p := ⟨gb1220, 1, none⟩) (Kd.R_far (p := ⟨gb1220, 0, none⟩) (Kd.R_types HO1205.out BK1220.out (by decide)) (fun _ hk => hk.2) (.int .i64 t1213)) (fun _ hk => hk.2) (.int .i64 t1214)) (fun _ hk => hk.2) (.int .i64 t1215)) (fun _ hk => hk.2) (.int .i64 t1216)) (fun _ hk => hk.2) (.slice Ao49 t1217.length co49)) (fun _ hk => hk.1.2)⟩
    have n1_ : Aside0 (Kd.R (Kd.int .i64) 3 (((((w44.setCell ⟨gb1220, 0, none⟩ (.int .i64 t1213)).setCell ⟨gb1220, 1, none⟩ (.int .i64 t1214)).setCell ⟨gb1220, 2, none⟩ (.int .i64 t1215)).setCell ⟨gb1220, 3, none⟩ (.int .i64 t1216)).setCell ⟨gb1220, 4, none⟩ (.slice Ao49 t1217.length co49)) w.heap.size (fun _ => True) v1211 t1210) := ⟨by (with_reducible repeat (first | apply Kd.R_alloc | apply Kd.R_drewN | apply Kd.R_drew)); exact Kd.R_mono (Kd.R_far (p := ⟨gb1220, 4, none⟩) (Kd.R_far (p := ⟨gb1220, 3, none⟩) (Kd.R_far (p := ⟨gb1220, 2, none⟩) (Kd.R_far (p := ⟨gb1220, 1, none⟩) (Kd.R_far (p := ⟨gb1220, 0, none⟩) (Kd.R_types HO1212.out BK1220.out (by decide)) (fun _ hk => hk.2) (.int .i64 t1213)) (fun _ hk => hk.2) (.int .i64 t1214)) (fun _ hk => hk.2) (.int .i64 t1215)) (fun _ hk => hk.2) (.int .i64 t1216)) (fun _ hk => hk.2) (.slice Ao49 t1217.length co49)) (fun _ hk => trivial)⟩
    have n2_ : Aside0 (Kd.R k137 137 (((((w44.setCell ⟨gb1220, 0, none⟩ (.int .i64 t1213)).setCell ⟨gb1220, 1, none⟩ (.int .i64 t1214)).setCell ⟨gb1220, 2, none⟩ (.int .i64 t1215)).setCell ⟨gb1220, 3, none⟩ (.int .i64 t1216)).setCell ⟨gb1220, 4, none⟩ (.slice Ao49 t1217.length co49)) w.heap.size (fun k_ => some k_ ≠ (.slice Ao40 t1203.length co40 : Value).ownBlock) (.slice Ao49 t1217.length co49) t1217) := ⟨by (with_reducible repeat (first | apply Kd.R_alloc | apply Kd.R_drewN | apply Kd.R_drew)); exact Kd.R_mono (Kd.R_far (p := ⟨gb1220, 4, none⟩) (Kd.R_far (p := ⟨gb1220, 3, none⟩) (Kd.R_far (p := ⟨gb1220, 2, none⟩) (Kd.R_far (p := ⟨gb1220, 1, none⟩) (Kd.R_far (p := ⟨gb1220, 0, none⟩) (Kd.R_types HO1219.out BK1220.out (by decide)) (fun _ hk => hk.2) (.int .i64 t1213)) (fun _ hk => hk.2) (.int .i64 t1214)) (fun _ hk => hk.2) (.int .i64 t1215)) (fun _ hk => hk.2) (.int .i64 t1216)) (fun _ hk => hk.2) (.slice Ao49 t1217.length co49)) (fun _ hk => hk.1.2)⟩
    have n3_ : Aside0 ((((((w44.setCell ⟨gb1220, 0, none⟩ (.int .i64 t1213)).setCell ⟨gb1220, 1, none⟩ (.int .i64 t1214)).setCell ⟨gb1220, 2, none⟩ (.int .i64 t1215)).setCell ⟨gb1220, 3, none⟩ (.int .i64 t1216)).setCell ⟨gb1220, 4, none⟩ (.slice Ao49 t1217.length co49)).heap[gb1195]? = some (.cells #[.int .i64 a0_0, .int .i64 a0_1, .int .i64 a0_2, .int .i64 a0_3, .slice A0_4 l0_4.length c0_4] 51 (0, 0))) := ⟨by (with_reducible repeat (first | refine kDN ?_ _ | refine kD ?_ | refine kA ?_ _)); refine blk_far ?_ NB1195_1220.out _; (with_reducible repeat (first | refine kDN ?_ _ | refine kD ?_ | refine kA ?_ _)); refine blk_far ?_ NB1195_1220.out _; (with_reducible repeat (first | refine kDN ?_ _ | refine kD ?_ | refine kA ?_ _)); refine blk_far ?_ NB1195_1220.out _; (with_reducible repeat (first | refine kDN ?_ _ | refine kD ?_ | refine kA ?_ _)); refine blk_far ?_ NB1195_1220.out _; (with_reducible repeat (first | refine kDN ?_ _ | refine kD ?_ | refine kA ?_ _)); refine blk_far ?_ NB1195_1220.out _; (with_reducible repeat (first | refine kDN ?_ _ | refine kD ?_ | refine kA ?_ _)); exact BK1195.out⟩
    have n4_ : Aside0 ((((((w44.setCell ⟨gb1220, 0, none⟩ (.int .i64 t1213)).setCell ⟨gb1220, 1, none⟩ (.int .i64 t1214)).setCell ⟨gb1220, 2, none⟩ (.int .i64 t1215)).setCell ⟨gb1220, 3, none⟩ (.int .i64 t1216)).setCell ⟨gb1220, 4, none⟩ (.slice Ao49 t1217.length co49)).heap[gb1196]? = some (.cells #[.int .i64 a1_0, .int .i64 a1_1] 53 (0, 0))) := ⟨by (with_reducible repeat (first | refine kDN ?_ _ | refine kD ?_ | refine kA ?_ _)); refine blk_far ?_ NB1196_1220.out _; (with_reducible repeat (first | refine kDN ?_ _ | refine kD ?_ | refine kA ?_ _)); refine blk_far ?_ NB1196_1220.out _; (with_reducible repeat (first | refine kDN ?_ _ | refine kD ?_ | refine kA ?_ _)); refine blk_far ?_ NB1196_1220.out _; (with_reducible repeat (first | refine kDN ?_ _ | refine kD ?_ | refine kA ?_ _)); refine blk_far ?_ NB1196_1220.out _; (with_reducible repeat (first | refine kDN ?_ _ | refine kD ?_ | refine kA ?_ _)); refine blk_far ?_ NB1196_1220.out _; (with_reducible repeat (first | refine kDN ?_ _ | refine kD ?_ | refine kA ?_ _)); exact BK1196.out⟩
    have n5_ : Aside0 ((((((w44.setCell ⟨gb1220, 0, none⟩ (.int .i64 t1213)).setCell ⟨gb1220, 1, none⟩ (.int .i64 t1214)).setCell ⟨gb1220, 2, none⟩ (.int .i64 t1215)).setCell ⟨gb1220, 3, none⟩ (.int .i64 t1216)).setCell ⟨gb1220, 4, none⟩ (.slice Ao49 t1217.length co49)).heap[gb1197]? = some (.cells #[.int .i64 a2_0, .int .i64 a2_1] 53 (0, 0))) := ⟨by (with_reducible repeat (first | refine kDN ?_ _ | refine kD ?_ | refine kA ?_ _)); refine blk_far ?_ NB1197_1220.out _; (with_reducible repeat (first | refine kDN ?_ _ | refine kD ?_ | refine kA ?_ _)); refine blk_far ?_ NB1197_1220.out _; (with_reducible repeat (first | refine kDN ?_ _ | refine kD ?_ | refine kA ?_ _)); refine blk_far ?_ NB1197_1220.out _; (with_reducible repeat (first | refine kDN ?_ _ | refine kD ?_ | refine kA ?_ _)); refine blk_far ?_ NB1197_1220.out _; (with_reducible repeat (first | refine kDN ?_ _ | refine kD ?_ | refine kA ?_ _)); refine blk_far ?_ NB1197_1220.out _; (with_reducible repeat (first | refine kDN ?_ _ | refine kD ?_ | refine kA ?_ _)); exact BK1197.out⟩
    have n6_ : Aside0 ((((((w44.setCell ⟨gb1220, 0, none⟩ (.int .i64 t1213)).setCell ⟨gb1220, 1, none⟩ (.int .i64 t1214)).setCell ⟨gb1220, 2, none⟩ (.int .i64 t1215)).setCell ⟨gb1220, 3, none⟩ (.int .i64 t1216)).setCell ⟨gb1220, 4, none⟩ (.slice Ao49 t1217.length co49)).heap[gb1220]? = some (.cells #[.int .i64 t1213, .int .i64 t1214, .int .i64 t1215, .int .i64 t1216, .slice Ao49 t1217.length co49] 58 (0, 0))) := ⟨by (with_reducible repeat (first | refine kDN ?_ _ | refine kD ?_ | refine kA ?_ _)); refine blk_put (cs := #[.int .i64 t1213, .int .i64 t1214, .int .i64 t1215, .int .i64 t1216, .slice none 0 0]) ?_ 4 _ rfl; (with_reducible repeat (first | refine kDN ?_ _ | refine kD ?_ | refine kA ?_ _)); refine blk_put (cs := #[.int .i64 t1213, .int .i64 t1214, .int .i64 t1215, .int .i64 0, .slice none 0 0]) ?_ 3 _ rfl; (with_reducible repeat (first | refine kDN ?_ _ | refine kD ?_ | refine kA ?_ _)); refine blk_put (cs := #[.int .i64 t1213, .int .i64 t1214, .int .i64 0, .int .i64 0, .slice none 0 0]) ?_ 2 _ rfl; (with_reducible repeat (first | refine kDN ?_ _ | refine kD ?_ | refine kA ?_ _)); refine blk_put (cs := #[.int .i64 t1213, .int .i64 0, .int .i64 0, .int .i64 0, .slice none 0 0]) ?_ 1 _ rfl; (with_reducible repeat (first | refine kDN ?_ _ | refine kD ?_ | refine kA ?_ _)); refine blk_put (cs := #[.int .i64 0, .int .i64 0, .int .i64 0, .int .i64 0, .slice none 0 0]) ?_ 0 _ rfl; (with_reducible repeat (first | refine kDN ?_ _ | refine kD ?_ | refine kA ?_ _)); exact BK1220.out⟩
    have n7_ : Aside0 (Below w.heap.size w (((((w44.setCell ⟨gb1220, 0, none⟩ (.int .i64 t1213)).setCell ⟨gb1220, 1, none⟩ (.int .i64 t1214)).setCell ⟨gb1220, 2, none⟩ (.int .i64 t1215)).setCell ⟨gb1220, 3, none⟩ (.int .i64 t1216)).setCell ⟨gb1220, 4, none⟩ (.slice Ao49 t1217.length co49))) := ⟨by repeat (first | (with_reducible first | exact HB.out | apply bAl | apply bDN | apply bD1 | refine bSt ?_ GE1195.out | refine bSt ?_ GE1196.out | refine bSt ?_ GE1197.out | refine bSt ?_ GE1220.out) | exact HB.out)⟩
    (try clear HO1205)
    (try clear HO1212)
    (try clear HO1219)
    (try clear BK1195)
    (try clear BK1196)
    (try clear BK1197)
    (try clear BK1220)
    (try clear HB)
    generalize (((((w44.setCell ⟨gb1220, 0, none⟩ (.int .i64 t1213)).setCell ⟨gb1220, 1, none⟩ (.int .i64 t1214)).setCell ⟨gb1220, 2, none⟩ (.int .i64 t1215)).setCell ⟨gb1220, 3, none⟩ (.int .i64 t1216)).setCell ⟨gb1220, 4, none⟩ (.slice Ao49 t1217.length co49)) = w50 at n0_ n1_ n2_ n3_ n4_ n5_ n6_ n7_ ⊢
    have HO1205 := n0_
    have HO1212 := n1_
    have HO1219 := n2_
    have BK1195 := n3_
    have BK1196 := n4_
    have BK1197 := n5_
    have BK1220 := n6_
    have HB := n7_
    clear n0_ n1_ n2_ n3_ n4_ n5_ n6_ n7_
    have n0_ := aK (Kd.R_drew HO1205.out)
    have n1_ := aK (Kd.R_drew HO1212.out)
    have n2_ := aK (Kd.R_drew HO1219.out)
    have n3_ := aK (kD BK1195.out)
    have n4_ := aK (kD BK1196.out)
    have n5_ := aK (kD BK1197.out)
    have n6_ := aK (kD BK1220.out)
    have n7_ := aK (bD1 HB.out)
    clear HO1205
    clear HO1212
    clear HO1219
    clear BK1195
    clear BK1196
    clear BK1197
    clear BK1220
    clear HB
    have HO1205 := n0_
    have HO1212 := n1_
    have HO1219 := n2_
    have BK1195 := n3_
    have BK1196 := n4_
    have BK1197 := n5_
    have BK1220 := n6_
    have HB := n7_
    clear n0_ n1_ n2_ n3_ n4_ n5_ n6_ n7_
    refine start_ (n := 8) (S := fun w' => w'.cell? ⟨gb1220, 0, none⟩ = some (.int .i64 t1213) ∧ w'.cell? ⟨gb1220, 1, none⟩ = some (.int .i64 t1214) ∧ w'.cell? ⟨gb1220, 2, none⟩ = some (.int .i64 t1215) ∧ w'.cell? ⟨gb1220, 3, none⟩ = some (.int .i64 t1216) ∧ w'.cell? ⟨gb1220, 4, none⟩ = some (.slice Ao49 t1217.length co49) ∧ w'.cell? ⟨gb1196, 0, none⟩ = some (.int .i64 a1_0) ∧ w'.cell? ⟨gb1196, 1, none⟩ = some (.int .i64 a1_1) ∧ w'.cell? ⟨gb1197, 0, none⟩ = some (.int .i64 a2_0) ∧ w'.cell? ⟨gb1197, 1, none⟩ = some (.int .i64 a2_1)) (ds := []) #[bN,bN,bN,bN,bN,bN,bN,bN] (by kernel_rfl) rfl rfl ⟨(kC BK1220.out 0).trans rfl, (kC BK1220.out 1).trans rfl, (kC BK1220.out 2).trans rfl, (kC BK1220.out 3).trans rfl, (kC BK1220.out 4).trans rfl, (kC BK1196.out 0).trans rfl, (kC BK1196.out 1).trans rfl, (kC BK1197.out 0).trans rfl, (kC BK1197.out 1).trans rfl⟩ (fun hHeld => ?_); refine with_tabW laws_FnExactBetweenCells.tab7 laws_FnExactBetweenCells.bits7 (fun HT_ HW_ => ?_)
    generalize w50.drew = w51 at HO1205 HO1212 HO1219 BK1195 BK1196 BK1197 BK1220 HB hHeld ⊢
    refine pure_ (i := 5) (N := some 37) (v := ?_) (a' := ?_) #[bN,bN,bN,bN,bN,bY,bN,bN] rfl rfl (any_of HT_.out (by kernel_rfl)) (fun _ _ _ h => h) (Or.inl ⟨by rfl, ?_⟩) ?_ ?_
    rotate_left
    ·intro w'
     go_simp
     with_reducible rfl
    rotate_left
    ·simp only [Act.put, sTA, sZ, sS, i64_w, i32_w]
     rfl
    refine take_ (i := 0) (N := some 32) (v := ?_) (a' := ?_) #[bY,bN,bN,bN,bN,bY,bN,bN] rfl rfl (take_ofW HT_.out HW_.out (by kernel_rfl)) (fun _ _ _ h => h) (Or.inl ⟨by rfl, ?_⟩) hHeld ?_ ?_
    rotate_left
    ·rintro w' ⟨s0, s1, s2, s3, s4, s5, s6, s7, s8⟩
     go_simp
     with_reducible rfl
    rotate_left
    ·simp only [Act.put, sTA, sZ, sS, i64_w, i32_w]
     rfl
    refine take_ (i := 1) (N := some 33) (v := ?_) (a' := ?_) #[bY,bY,bN,bN,bN,bY,bN,bN] rfl rfl (take_ofW HT_.out HW_.out (by kernel_rfl)) (fun _ _ _ h => h) (Or.inl ⟨by rfl, ?_⟩) hHeld ?_ ?_
    rotate_left
    ·rintro w' ⟨s0, s1, s2, s3, s4, s5, s6, s7, s8⟩
     go_simp
     with_reducible rfl
    rotate_left
    ·simp only [Act.put, sTA, sZ, sS, i64_w, i32_w]
     rfl
    refine take_ (i := 3) (N := some 35) (v := ?_) (a' := ?_) #[bY,bY,bN,bY,bN,bY,bN,bN] rfl rfl (take_ofW HT_.out HW_.out (by kernel_rfl)) (fun _ _ _ h => h) (Or.inl ⟨by rfl, ?_⟩) hHeld ?_ ?_
    rotate_left
    ·rintro w' ⟨s0, s1, s2, s3, s4, s5, s6, s7, s8⟩
     go_simp
     with_reducible rfl
    rotate_left
    ·simp only [Act.put, sTA, sZ, sS, i64_w, i32_w]
     rfl
    refine one_ (i := 2) (N := some 34) #[bY,bY,bY,bY,bN,bY,bN,bN] rfl rfl (one_of HT_.out (by kernel_rfl)) (by decide) (fun K hK => ?_)
    refine goes_ Try.func37 (by kernel_rfl) rfl #[.agg #[.int .i64 a1_0, .int .i64 a1_1]] (by rfl) rfl rfl (by (try simp only [List.map_toArray, List.map_cons, List.map_nil]); first | done | rfl | (simp only [List.length_drop, List.length_take]; rfl)) ?_
    with_reducible refine (laws_toEntry.calls a1_0 a1_1 t1221 t1222 _ A19.out).mono ?_
    rintro e w52 ⟨rfl, hb⟩
    refine ⟨_, rfl, ?_⟩
    have n0_ := aK (Kd.R_below (by (with_reducible repeat (first | apply Kd.R_alloc | apply Kd.R_drewN | apply Kd.R_drew)); exact HO1205.out) hb)
    have n1_ := aK (Kd.R_below (by (with_reducible repeat (first | apply Kd.R_alloc | apply Kd.R_drewN | apply Kd.R_drew)); exact HO1212.out) hb)
    have n2_ := aK (Kd.R_below (by (with_reducible repeat (first | apply Kd.R_alloc | apply Kd.R_drewN | apply Kd.R_drew)); exact HO1219.out) hb)
    have n3_ := bkb BK1195 hb (by intro z_; (with_reducible repeat (first | refine kDN ?_ _ | refine kD ?_ | refine kA ?_ _)); exact z_)
    have n4_ := bkb BK1196 hb (by intro z_; (with_reducible repeat (first | refine kDN ?_ _ | refine kD ?_ | refine kA ?_ _)); exact z_)
    have n5_ := bkb BK1197 hb (by intro z_; (with_reducible repeat (first | refine kDN ?_ _ | refine kD ?_ | refine kA ?_ _)); exact z_)
    have n6_ := bkb BK1220 hb (by intro z_; (with_reducible repeat (first | refine kDN ?_ _ | refine kD ?_ | refine kA ?_ _)); exact z_)
    have n7_ := aK (bSp (by repeat (first | (with_reducible first | exact HB.out | apply bAl | apply bDN | apply bD1 | refine bSt ?_ GE1195.out | refine bSt ?_ GE1196.out | refine bSt ?_ GE1197.out | refine bSt ?_ GE1220.out) | exact HB.out)) hb)
    clear HO1205
    clear HO1212
    clear HO1219
    clear BK1195
    clear BK1196
    clear BK1197
    clear BK1220
    clear HB
    have HO1205 := n0_
    have HO1212 := n1_
    have HO1219 := n2_
    have BK1195 := n3_
    have BK1196 := n4_
    have BK1197 := n5_
    have BK1220 := n6_
    have HB := n7_
    clear n0_ n1_ n2_ n3_ n4_ n5_ n6_ n7_
    (try clear hb)
    (try clear hb2)
    (try clear hk)
    (try clear hi)
    refine hK.out _ _ ⟨(kC BK1220.out 0).trans rfl, (kC BK1220.out 1).trans rfl, (kC BK1220.out 2).trans rfl, (kC BK1220.out 3).trans rfl, (kC BK1220.out 4).trans rfl, (kC BK1196.out 0).trans rfl, (kC BK1196.out 1).trans rfl, (kC BK1197.out 0).trans rfl, (kC BK1197.out 1).trans rfl⟩ (fun hHeld => ?_)
    clear hK K
    refine norm_ (a' := ?_) ?_ ?_
    rotate_left
    ·show Act.put _ (some 34) _ = _
     simp only [Act.put, sTA, sZ, sS, i64_w, i32_w]
     rfl
    refine one_ (i := 4) (N := some 36) #[bY,bY,bY,bY,bY,bY,bN,bN] rfl rfl (one_of HT_.out (by kernel_rfl)) (by decide) (fun K hK => ?_)
    refine goes_ Try.func37 (by kernel_rfl) rfl #[.agg #[.int .i64 a2_0, .int .i64 a2_1]] (by rfl) rfl rfl (by (try simp only [List.map_toArray, List.map_cons, List.map_nil]); first | done | rfl | (simp only [List.length_drop, List.length_take]; rfl)) ?_
    with_reducible refine (laws_toEntry.calls a2_0 a2_1 t1223 t1224 _ A20.out).mono ?_
    rintro e w53 ⟨rfl, hb⟩
    refine ⟨_, rfl, ?_⟩
    have n0_ := aK (Kd.R_below (by (with_reducible repeat (first | apply Kd.R_alloc | apply Kd.R_drewN | apply Kd.R_drew)); exact HO1205.out) hb)
    have n1_ := aK (Kd.R_below (by (with_reducible repeat (first | apply Kd.R_alloc | apply Kd.R_drewN | apply Kd.R_drew)); exact HO1212.out) hb)
    have n2_ := aK (Kd.R_below (by (with_reducible repeat (first | apply Kd.R_alloc | apply Kd.R_drewN | apply Kd.R_drew)); exact HO1219.out) hb)
    have n3_ := bkb BK1195 hb (by intro z_; (with_reducible repeat (first | refine kDN ?_ _ | refine kD ?_ | refine kA ?_ _)); exact z_)
    have n4_ := bkb BK1196 hb (by intro z_; (with_reducible repeat (first | refine kDN ?_ _ | refine kD ?_ | refine kA ?_ _)); exact z_)
    have n5_ := bkb BK1197 hb (by intro z_; (with_reducible repeat (first | refine kDN ?_ _ | refine kD ?_ | refine kA ?_ _)); exact z_)
    have n6_ := bkb BK1220 hb (by intro z_; (with_reducible repeat (first | refine kDN ?_ _ | refine kD ?_ | refine kA ?_ _)); exact z_)
    have n7_ := aK (bSp (by repeat (first | (with_reducible first | exact HB.out | apply bAl | apply bDN | apply bD1 | refine bSt ?_ GE1195.out | refine bSt ?_ GE1196.out | refine bSt ?_ GE1197.out | refine bSt ?_ GE1220.out) | exact HB.out)) hb)
    clear HO1205
    clear HO1212
    clear HO1219
    clear BK1195
    clear BK1196
    clear BK1197
    clear BK1220
    clear HB
    have HO1205 := n0_
    have HO1212 := n1_
    have HO1219 := n2_
    have BK1195 := n3_
    have BK1196 := n4_
    have BK1197 := n5_
    have BK1220 := n6_
    have HB := n7_
    clear n0_ n1_ n2_ n3_ n4_ n5_ n6_ n7_
    (try clear hb)
    (try clear hb2)
    (try clear hk)
    (try clear hi)
    refine hK.out _ _ ⟨(kC BK1220.out 0).trans rfl, (kC BK1220.out 1).trans rfl, (kC BK1220.out 2).trans rfl, (kC BK1220.out 3).trans rfl, (kC BK1220.out 4).trans rfl, (kC BK1196.out 0).trans rfl, (kC BK1196.out 1).trans rfl, (kC BK1197.out 0).trans rfl, (kC BK1197.out 1).trans rfl⟩ (fun hHeld => ?_)
    clear hK K
    refine norm_ (a' := ?_) ?_ ?_
    rotate_left
    ·show Act.put _ (some 36) _ = _
     simp only [Act.put, sTA, sZ, sS, i64_w, i32_w]
     rfl
    refine one_ (i := 6) (N := some 38) #[bY,bY,bY,bY,bY,bY,bY,bN] rfl rfl (one_of HT_.out (by kernel_rfl)) (by decide) (fun K hK => ?_)
    refine goes_ Try.func58 (by kernel_rfl) rfl #[.agg #[.int .i64 t1213, .int .i64 t1214, .int .i64 t1215, .int .i64 t1216, .slice Ao49 t1217.length co49], .agg #[.int .i64 t1221, .int .i64 t1222], .agg #[.int .i64 t1223, .int .i64 t1224], .int .i64 a3] (by rfl) rfl rfl (by (try simp only [List.map_toArray, List.map_cons, List.map_nil]); first | done | rfl | (simp only [List.length_drop, List.length_take]; rfl)) ?_
    with_reducible refine (impl_BetweenCells.calls t1213 t1214 t1215 t1216 _ _ t1217 t1221 t1222 t1223 t1224 a3 t1225 _ ?side1 ?side2 A21.out).mono ?_
    (case side1 => repeat (first | exact (Kd.R_reads' HO1219.out).2.2 | (with_reducible refine Kd.C_alloc ?_ _) | (with_reducible refine Kd.C_drewN ?_ _) | (with_reducible refine Kd.C_drew ?_)))
    (case side2 => exact (Kd.R_reads' HO1219.out).2.1)
    rintro e w54 ⟨v1226, rfl, ho0, hb⟩
    refine ⟨_, rfl, ?_⟩
    have n0_ := aK (Kd.R_below (by (with_reducible repeat (first | apply Kd.R_alloc | apply Kd.R_drewN | apply Kd.R_drew)); exact HO1205.out) hb)
    have n1_ := aK (Kd.R_elder' (by (with_reducible repeat (first | apply Kd.R_alloc | apply Kd.R_drewN | apply Kd.R_drew)); exact HO1212.out) (Kd.R_base ho0) hb)
    have n2_ := aK (Kd.R_below (by (with_reducible repeat (first | apply Kd.R_alloc | apply Kd.R_drewN | apply Kd.R_drew)); exact HO1219.out) hb)
    have n3_ := aK (Kd.R_lower (Kd.R_new' ho0 (Kd.R_lt (by (with_reducible repeat (first | apply Kd.R_alloc | apply Kd.R_drewN | apply Kd.R_drew)); exact HO1212.out))) (bSz (by repeat (first | (with_reducible first | exact HB.out | apply bAl | apply bDN | apply bD1 | refine bSt ?_ GE1195.out | refine bSt ?_ GE1196.out | refine bSt ?_ GE1197.out | refine bSt ?_ GE1220.out) | exact HB.out))))
    have n4_ := bkb BK1195 hb (by intro z_; (with_reducible repeat (first | refine kDN ?_ _ | refine kD ?_ | refine kA ?_ _)); exact z_)
    have n5_ := bkb BK1196 hb (by intro z_; (with_reducible repeat (first | refine kDN ?_ _ | refine kD ?_ | refine kA ?_ _)); exact z_)
    have n6_ := bkb BK1197 hb (by intro z_; (with_reducible repeat (first | refine kDN ?_ _ | refine kD ?_ | refine kA ?_ _)); exact z_)
    have n7_ := bkb BK1220 hb (by intro z_; (with_reducible repeat (first | refine kDN ?_ _ | refine kD ?_ | refine kA ?_ _)); exact z_)
    have n8_ := aK (bSp (by repeat (first | (with_reducible first | exact HB.out | apply bAl | apply bDN | apply bD1 | refine bSt ?_ GE1195.out | refine bSt ?_ GE1196.out | refine bSt ?_ GE1197.out | refine bSt ?_ GE1220.out) | exact HB.out)) hb)
    clear HO1205
    clear HO1212
    clear HO1219
    clear BK1195
    clear BK1196
    clear BK1197
    clear BK1220
    clear HB
    have HO1205 := n0_
    have HO1212 := n1_
    have HO1219 := n2_
    have HO1227 := n3_
    have BK1195 := n4_
    have BK1196 := n5_
    have BK1197 := n6_
    have BK1220 := n7_
    have HB := n8_
    clear n0_ n1_ n2_ n3_ n4_ n5_ n6_ n7_ n8_
    (try clear hb)
    (try clear hb2)
    (try clear hk)
    (try clear hi)
    (try clear ho0)
    refine hK.out _ _ ⟨(kC BK1220.out 0).trans rfl, (kC BK1220.out 1).trans rfl, (kC BK1220.out 2).trans rfl, (kC BK1220.out 3).trans rfl, (kC BK1220.out 4).trans rfl, (kC BK1196.out 0).trans rfl, (kC BK1196.out 1).trans rfl, (kC BK1197.out 0).trans rfl, (kC BK1197.out 1).trans rfl⟩ (fun hHeld => ?_)
    clear hK K
    refine norm_ (a' := ?_) ?_ ?_
    rotate_left
    ·show Act.put _ (some 38) _ = _
     simp only [Act.put, sTA, sZ, sS, i64_w, i32_w]
     rfl
    refine pure_ (i := 7) (N := some 12) (v := ?_) (a' := ?_) #[bY,bY,bY,bY,bY,bY,bY,bY] rfl rfl (any_of HT_.out (by kernel_rfl)) (fun _ _ _ h => h) (Or.inl ⟨by rfl, ?_⟩) ?_ ?_
    rotate_left
    ·intro w'
     go_simp
     with_reducible rfl
    rotate_left
    ·simp only [Act.put, sTA, sZ, sS, i64_w, i32_w]
     rfl
    refine done_ (done_of HT_.out (by kernel_rfl)) ?_
    obtain ⟨Ao55, co55, eo55⟩ := Kd.R_slice HO1227.out
    subst eo55
    obtain ⟨Ao56, co56, eo56⟩ := Kd.R_slice HO1212.out
    subst eo56
    try go_wp2_with (first | ((with_reducible refine gate_callee (f := 20) rfl ?_); refine goesL_ (some 41) rfl rfl Try.func20 (by kernel_rfl) rfl #[.slice Ao55 t1225.length co55, .slice Ao56 t1210.length co56] rfl (by (try simp only [List.map_toArray, List.map_cons, List.map_nil]); first | done | rfl | (simp only [List.length_drop, List.length_take]; rfl)) ?_; (with_reducible refine (laws_eqIntS.calls k _ _ t1225 _ _ t1210 true _ ?side1 ?side2 ?side3 ?side4 A22.out).mono ?_); (case side1 => repeat (first | exact (Kd.R_reads' HO1227.out).2.2 | (with_reducible refine Kd.C_alloc ?_ _) | (with_reducible refine Kd.C_drewN ?_ _) | (with_reducible refine Kd.C_drew ?_))); (case side2 => exact (Kd.R_reads' HO1227.out).2.1); (case side3 => repeat (first | exact (Kd.R_reads' HO1212.out).2.2 | (with_reducible refine Kd.C_alloc ?_ _) | (with_reducible refine Kd.C_drewN ?_ _) | (with_reducible refine Kd.C_drew ?_))); (case side4 => exact (Kd.R_reads' HO1212.out).2.1); rintro e w' ⟨rfl, ⟨nd, rfl⟩⟩; refine ⟨_, rfl, ?_⟩))
    (try (rw [drewN_self w54]; generalize hq_ : World.drewN w54 _ = w54; have n0_ : Aside0 (Kd.R k137 137 w54 w.heap.size (fun k_ => some k_ ≠ (.slice Ao49 t1217.length co49 : Value).ownBlock) (.slice Ao40 t1203.length co40) t1203) := ⟨by rw [← hq_]; exact (by (with_reducible repeat (first | apply Kd.R_alloc | apply Kd.R_drewN | apply Kd.R_drew)); exact HO1205.out)⟩; have n1_ : Aside0 (Kd.R (Kd.int .i64) 3 w54 w.heap.size (fun k_ => some k_ ≠ (.slice Ao55 t1225.length co55 : Value).ownBlock) (.slice Ao56 t1210.length co56) t1210) := ⟨by rw [← hq_]; exact (by (with_reducible repeat (first | apply Kd.R_alloc | apply Kd.R_drewN | apply Kd.R_drew)); exact Kd.R_mono HO1212.out (fun _ hk => hk.2))⟩; have n2_ : Aside0 (Kd.R k137 137 w54 w.heap.size (fun k_ => some k_ ≠ (.slice Ao40 t1203.length co40 : Value).ownBlock) (.slice Ao49 t1217.length co49) t1217) := ⟨by rw [← hq_]; exact (by (with_reducible repeat (first | apply Kd.R_alloc | apply Kd.R_drewN | apply Kd.R_drew)); exact HO1219.out)⟩; have n3_ : Aside0 (Kd.R (Kd.int .i64) 3 w54 w.heap.size (fun k_ => some k_ ≠ (.slice Ao56 t1210.length co56 : Value).ownBlock) (.slice Ao55 t1225.length co55) t1225) := ⟨by rw [← hq_]; exact (by (with_reducible repeat (first | apply Kd.R_alloc | apply Kd.R_drewN | apply Kd.R_drew)); exact Kd.R_mono HO1227.out (fun _ hk => hk.2))⟩; have n4_ : Aside0 (w54.heap[gb1195]? = some (.cells #[.int .i64 a0_0, .int .i64 a0_1, .int .i64 a0_2, .int .i64 a0_3, .slice A0_4 l0_4.length c0_4] 51 (0, 0))) := ⟨by rw [← hq_]; exact (by (with_reducible repeat (first | refine kDN ?_ _ | refine kD ?_ | refine kA ?_ _)); exact BK1195.out)⟩; have n5_ : Aside0 (w54.heap[gb1196]? = some (.cells #[.int .i64 a1_0, .int .i64 a1_1] 53 (0, 0))) := ⟨by rw [← hq_]; exact (by (with_reducible repeat (first | refine kDN ?_ _ | refine kD ?_ | refine kA ?_ _)); exact BK1196.out)⟩; have n6_ : Aside0 (w54.heap[gb1197]? = some (.cells #[.int .i64 a2_0, .int .i64 a2_1] 53 (0, 0))) := ⟨by rw [← hq_]; exact (by (with_reducible repeat (first | refine kDN ?_ _ | refine kD ?_ | refine kA ?_ _)); exact BK1197.out)⟩; have n7_ : Aside0 (w54.heap[gb1220]? = some (.cells #[.int .i64 t1213, .int .i64 t1214, .int .i64 t1215, .int .i64 t1216, .slice Ao49 t1217.length co49] 58 (0, 0))) := ⟨by rw [← hq_]; exact (by (with_reducible repeat (first | refine kDN ?_ _ | refine kD ?_ | refine kA ?_ _)); exact BK1220.out)⟩; have n8_ : Aside0 (Below w.heap.size w w54) := ⟨by rw [← hq_]; exact (by repeat (first | (with_reducible first | exact HB.out | apply bAl | apply bDN | apply bD1 | refine bSt ?_ GE1195.out | refine bSt ?_ GE1196.out | refine bSt ?_ GE1197.out | refine bSt ?_ GE1220.out) | exact HB.out))⟩; clear HO1205 HO1212 HO1219 HO1227 BK1195 BK1196 BK1197 BK1220 HB hq_; have HO1205 := n0_; have HO1212 := n1_; have HO1219 := n2_; have HO1227 := n3_; have BK1195 := n4_; have BK1196 := n5_; have BK1197 := n6_; have BK1220 := n7_; have HB := n8_; clear n0_ n1_ n2_ n3_ n4_ n5_ n6_ n7_ n8_))
    have n0_ := aK (Kd.R_drew HO1205.out)
    have n1_ := aK (Kd.R_drew HO1212.out)
    have n2_ := aK (Kd.R_drew HO1219.out)
    have n3_ := aK (Kd.R_drew HO1227.out)
    have n4_ := aK (kD BK1195.out)
    have n5_ := aK (kD BK1196.out)
    have n6_ := aK (kD BK1197.out)
    have n7_ := aK (kD BK1220.out)
    have n8_ := aK (bD1 HB.out)
    clear HO1205
    clear HO1212
    clear HO1219
    clear HO1227
    clear BK1195
    clear BK1196
    clear BK1197
    clear BK1220
    clear HB
    have HO1205 := n0_
    have HO1212 := n1_
    have HO1219 := n2_
    have HO1227 := n3_
    have BK1195 := n4_
    have BK1196 := n5_
    have BK1197 := n6_
    have BK1220 := n7_
    have HB := n8_
    clear n0_ n1_ n2_ n3_ n4_ n5_ n6_ n7_ n8_
    refine start_ (n := 5) (S := fun w' => w'.cell? ⟨gb1220, 0, none⟩ = some (.int .i64 t1213) ∧ w'.cell? ⟨gb1220, 1, none⟩ = some (.int .i64 t1214) ∧ w'.cell? ⟨gb1220, 2, none⟩ = some (.int .i64 t1215) ∧ w'.cell? ⟨gb1220, 3, none⟩ = some (.int .i64 t1216) ∧ w'.cell? ⟨gb1220, 4, none⟩ = some (.slice Ao49 t1217.length co49) ∧ w'.cell? ⟨gb1195, 0, none⟩ = some (.int .i64 a0_0) ∧ w'.cell? ⟨gb1195, 1, none⟩ = some (.int .i64 a0_1) ∧ w'.cell? ⟨gb1195, 2, none⟩ = some (.int .i64 a0_2) ∧ w'.cell? ⟨gb1195, 3, none⟩ = some (.int .i64 a0_3) ∧ w'.cell? ⟨gb1195, 4, none⟩ = some (.slice A0_4 l0_4.length c0_4)) (ds := []) #[bN,bN,bN,bN,bN] (by kernel_rfl) rfl rfl ⟨(kC BK1220.out 0).trans rfl, (kC BK1220.out 1).trans rfl, (kC BK1220.out 2).trans rfl, (kC BK1220.out 3).trans rfl, (kC BK1220.out 4).trans rfl, (kC BK1195.out 0).trans rfl, (kC BK1195.out 1).trans rfl, (kC BK1195.out 2).trans rfl, (kC BK1195.out 3).trans rfl, (kC BK1195.out 4).trans rfl⟩ (fun hHeld => ?_)
    generalize w54.drew = w57 at HO1205 HO1212 HO1219 HO1227 BK1195 BK1196 BK1197 BK1220 HB hHeld ⊢
    refine take_ (i := 0) (N := some 43) (v := ?_) (a' := ?_) #[bY,bN,bN,bN,bN] rfl rfl (by kernel_rfl) (fun _ _ _ h => h) (Or.inl ⟨by rfl, ?_⟩) hHeld ?_ ?_
    rotate_left
    ·rintro w' ⟨s0, s1, s2, s3, s4, s5, s6, s7, s8, s9⟩
     go_simp
     with_reducible rfl
    rotate_left
    ·simp only [Act.put, sTA, sZ, sS, i64_w, i32_w]
     rfl
    refine take_ (i := 1) (N := some 44) (v := ?_) (a' := ?_) #[bY,bY,bN,bN,bN] rfl rfl (by kernel_rfl) (fun _ _ _ h => h) (Or.inl ⟨by rfl, ?_⟩) hHeld ?_ ?_
    rotate_left
    ·rintro w' ⟨s0, s1, s2, s3, s4, s5, s6, s7, s8, s9⟩
     go_simp
     with_reducible rfl
    rotate_left
    ·simp only [Act.put, sTA, sZ, sS, i64_w, i32_w]
     rfl
    refine one_ (i := 2) (N := some 45) #[bY,bY,bY,bN,bN] rfl rfl (by kernel_rfl) (by decide) (fun K hK => ?_)
    refine goes_ Try.func36 (by kernel_rfl) rfl #[.agg #[.int .i64 a0_0, .int .i64 a0_1, .int .i64 a0_2, .int .i64 a0_3, .slice A0_4 l0_4.length c0_4]] (by rfl) rfl rfl (by (try simp only [List.map_toArray, List.map_cons, List.map_nil]); first | done | rfl | (simp only [List.length_drop, List.length_take]; rfl)) ?_
    with_reducible refine (laws_toTimed.calls k a0_0 a0_1 a0_2 a0_3 _ _ l0_4 t1229 t1230 t1231 t1232 t1233 _ ?side1 ?side2 A24.out).mono ?_
    (case side1 => repeat (first | exact (Kd.C_below HR0_4.out HB.out) | (with_reducible refine Kd.C_alloc ?_ _) | (with_reducible refine Kd.C_drewN ?_ _) | (with_reducible refine Kd.C_drew ?_)))
    (case side2 => exact HC0_4.out)
    rintro e w58 ⟨v1234, rfl, ho0, hb⟩
    refine ⟨_, rfl, ?_⟩
    have n0_ := aK (Kd.R_elder' (by (with_reducible repeat (first | apply Kd.R_alloc | apply Kd.R_drewN | apply Kd.R_drew)); exact HO1205.out) (Kd.R_base ho0) hb)
    have n1_ := aK (Kd.R_below (by (with_reducible repeat (first | apply Kd.R_alloc | apply Kd.R_drewN | apply Kd.R_drew)); exact HO1212.out) hb)
    have n2_ := aK (Kd.R_elder' (by (with_reducible repeat (first | apply Kd.R_alloc | apply Kd.R_drewN | apply Kd.R_drew)); exact HO1219.out) (Kd.R_base ho0) hb)
    have n3_ := aK (Kd.R_below (by (with_reducible repeat (first | apply Kd.R_alloc | apply Kd.R_drewN | apply Kd.R_drew)); exact HO1227.out) hb)
    have n4_ := aK (Kd.R_lower (Kd.R_new' (Kd.R_new' ho0 (Kd.R_lt (by (with_reducible repeat (first | apply Kd.R_alloc | apply Kd.R_drewN | apply Kd.R_drew)); exact HO1205.out))) (Kd.R_lt (by (with_reducible repeat (first | apply Kd.R_alloc | apply Kd.R_drewN | apply Kd.R_drew)); exact HO1219.out))) (bSz (by repeat (first | (with_reducible first | exact HB.out | apply bAl | apply bDN | apply bD1 | refine bSt ?_ GE1195.out | refine bSt ?_ GE1196.out | refine bSt ?_ GE1197.out | refine bSt ?_ GE1220.out) | exact HB.out))))
    have n5_ := bkb BK1195 hb (by intro z_; (with_reducible repeat (first | refine kDN ?_ _ | refine kD ?_ | refine kA ?_ _)); exact z_)
    have n6_ := bkb BK1196 hb (by intro z_; (with_reducible repeat (first | refine kDN ?_ _ | refine kD ?_ | refine kA ?_ _)); exact z_)
    have n7_ := bkb BK1197 hb (by intro z_; (with_reducible repeat (first | refine kDN ?_ _ | refine kD ?_ | refine kA ?_ _)); exact z_)
    have n8_ := bkb BK1220 hb (by intro z_; (with_reducible repeat (first | refine kDN ?_ _ | refine kD ?_ | refine kA ?_ _)); exact z_)
    have n9_ := aK (bSp (by repeat (first | (with_reducible first | exact HB.out | apply bAl | apply bDN | apply bD1 | refine bSt ?_ GE1195.out | refine bSt ?_ GE1196.out | refine bSt ?_ GE1197.out | refine bSt ?_ GE1220.out) | exact HB.out)) hb)
    clear HO1205
    clear HO1212
    clear HO1219
    clear HO1227
    clear BK1195
    clear BK1196
    clear BK1197
    clear BK1220
    clear HB
    have HO1205 := n0_
    have HO1212 := n1_
    have HO1219 := n2_
    have HO1227 := n3_
    have HO1235 := n4_
    have BK1195 := n5_
    have BK1196 := n6_
    have BK1197 := n7_
    have BK1220 := n8_
    have HB := n9_
    clear n0_ n1_ n2_ n3_ n4_ n5_ n6_ n7_ n8_ n9_
    (try clear hb)
    (try clear hb2)
    (try clear hk)
    (try clear hi)
    (try clear ho0)
    obtain ⟨Ao59, co59, eo59⟩ := Kd.R_slice HO1235.out
    (first | subst eo59 | (injection eo59 with f1_ f2_ f3_; have f4_ := f1_.symm; have f5_ := f3_.symm; clear f1_ f2_ f3_; subst f4_; subst f5_))
    refine hK.out _ _ ⟨(kC BK1220.out 0).trans rfl, (kC BK1220.out 1).trans rfl, (kC BK1220.out 2).trans rfl, (kC BK1220.out 3).trans rfl, (kC BK1220.out 4).trans rfl, (kC BK1195.out 0).trans rfl, (kC BK1195.out 1).trans rfl, (kC BK1195.out 2).trans rfl, (kC BK1195.out 3).trans rfl, (kC BK1195.out 4).trans rfl⟩ (fun hHeld => ?_)
    clear hK K
    refine norm_ (a' := ?_) ?_ ?_
    rotate_left
    ·show Act.put _ (some 45) _ = _
     simp only [Act.put, sTA, sZ, sS, i64_w, i32_w]
     rfl
    refine one_ (i := 3) (N := some 46) #[bY,bY,bY,bY,bN] rfl rfl (by kernel_rfl) (by decide) (fun K hK => ?_)
    refine goes_ Try.func39 (by kernel_rfl) rfl #[.agg #[.int .i64 t1213, .int .i64 t1214, .int .i64 t1215, .int .i64 t1216, .slice Ao49 t1217.length co49], .agg #[.int .i64 t1229, .int .i64 t1230, .int .i64 t1231, .int .i64 t1232, .slice Ao59 t1233.length co59]] (by rfl) rfl rfl (by (try simp only [List.map_toArray, List.map_cons, List.map_nil]); first | done | rfl | (simp only [List.length_drop, List.length_take]; rfl)) ?_
    with_reducible refine (laws_eqTimed.calls k t1213 t1214 t1215 t1216 _ _ t1217 t1229 t1230 t1231 t1232 _ _ t1233 true _ ?side1 ?side2 ?side3 ?side4 A25.out).mono ?_
    (case side1 => repeat (first | exact (Kd.R_reads' HO1219.out).2.2 | (with_reducible refine Kd.C_alloc ?_ _) | (with_reducible refine Kd.C_drewN ?_ _) | (with_reducible refine Kd.C_drew ?_)))
    (case side2 => exact (Kd.R_reads' HO1219.out).2.1)
    (case side3 => repeat (first | exact (Kd.R_reads' HO1235.out).2.2 | (with_reducible refine Kd.C_alloc ?_ _) | (with_reducible refine Kd.C_drewN ?_ _) | (with_reducible refine Kd.C_drew ?_)))
    (case side4 => exact (Kd.R_reads' HO1235.out).2.1)
    rintro e w60 ⟨rfl, hb⟩
    refine ⟨_, rfl, ?_⟩
    have n0_ := aK (Kd.R_below (by (with_reducible repeat (first | apply Kd.R_alloc | apply Kd.R_drewN | apply Kd.R_drew)); exact HO1205.out) hb)
    have n1_ := aK (Kd.R_below (by (with_reducible repeat (first | apply Kd.R_alloc | apply Kd.R_drewN | apply Kd.R_drew)); exact HO1212.out) hb)
    have n2_ := aK (Kd.R_below (by (with_reducible repeat (first | apply Kd.R_alloc | apply Kd.R_drewN | apply Kd.R_drew)); exact HO1219.out) hb)
    have n3_ := aK (Kd.R_below (by (with_reducible repeat (first | apply Kd.R_alloc | apply Kd.R_drewN | apply Kd.R_drew)); exact HO1227.out) hb)
    have n4_ := aK (Kd.R_below (by (with_reducible repeat (first | apply Kd.R_alloc | apply Kd.R_drewN | apply Kd.R_drew)); exact HO1235.out) hb)
    have n5_ := bkb BK1195 hb (by intro z_; (with_reducible repeat (first | refine kDN ?_ _ | refine kD ?_ | refine kA ?_ _)); exact z_)
    have n6_ := bkb BK1196 hb (by intro z_; (with_reducible repeat (first | refine kDN ?_ _ | refine kD ?_ | refine kA ?_ _)); exact z_)
    have n7_ := bkb BK1197 hb (by intro z_; (with_reducible repeat (first | refine kDN ?_ _ | refine kD ?_ | refine kA ?_ _)); exact z_)
    have n8_ := bkb BK1220 hb (by intro z_; (with_reducible repeat (first | refine kDN ?_ _ | refine kD ?_ | refine kA ?_ _)); exact z_)
    have n9_ := aK (bSp (by repeat (first | (with_reducible first | exact HB.out | apply bAl | apply bDN | apply bD1 | refine bSt ?_ GE1195.out | refine bSt ?_ GE1196.out | refine bSt ?_ GE1197.out | refine bSt ?_ GE1220.out) | exact HB.out)) hb)
    clear HO1205
    clear HO1212
    clear HO1219
    clear HO1227
    clear HO1235
    clear BK1195
    clear BK1196
    clear BK1197
    clear BK1220
    clear HB
    have HO1205 := n0_
    have HO1212 := n1_
    have HO1219 := n2_
    have HO1227 := n3_
    have HO1235 := n4_
    have BK1195 := n5_
    have BK1196 := n6_
    have BK1197 := n7_
    have BK1220 := n8_
    have HB := n9_
    clear n0_ n1_ n2_ n3_ n4_ n5_ n6_ n7_ n8_ n9_
    (try clear hb)
    (try clear hb2)
    (try clear hk)
    (try clear hi)
    refine hK.out _ _ ⟨(kC BK1220.out 0).trans rfl, (kC BK1220.out 1).trans rfl, (kC BK1220.out 2).trans rfl, (kC BK1220.out 3).trans rfl, (kC BK1220.out 4).trans rfl, (kC BK1195.out 0).trans rfl, (kC BK1195.out 1).trans rfl, (kC BK1195.out 2).trans rfl, (kC BK1195.out 3).trans rfl, (kC BK1195.out 4).trans rfl⟩ (fun hHeld => ?_)
    clear hK K
    refine norm_ (a' := ?_) ?_ ?_
    rotate_left
    ·show Act.put _ (some 46) _ = _
     simp only [Act.put, sTA, sZ, sS, i64_w, i32_w]
     rfl
    refine pure_ (i := 4) (N := some 47) (v := ?_) (a' := ?_) #[bY,bY,bY,bY,bY] rfl rfl (by kernel_rfl) (fun _ _ _ h => h) (Or.inl ⟨by rfl, ?_⟩) ?_ ?_
    rotate_left
    ·intro w'
     go_simp
     with_reducible rfl
    rotate_left
    ·simp only [Act.put, sTA, sZ, sS, i64_w, i32_w]
     rfl
    refine done_ (by kernel_rfl) ?_
    obtain ⟨hcz61_0, hcz61_1, hcz61_2, hcz61_3, hcz61_4, hfz61_0, hfz61_1, hfz61_2, hfz61_3, hfz61_4⟩ := cl5 BK1220.out
    go_upto_region 14 with (first | ((with_reducible refine gate_callee (f := 59) rfl ?_); refine goesL_ (some 50) rfl rfl Try.func59 (by kernel_rfl) rfl #[.agg #[.int .i64 t1213, .int .i64 t1214, .int .i64 t1215, .int .i64 t1216, .slice Ao49 t1217.length co49], .int .i64 1] rfl (by (try simp only [List.map_toArray, List.map_cons, List.map_nil]); first | done | rfl | (simp only [List.length_drop, List.length_take]; rfl)) ?_; (with_reducible refine (laws_markTimed.calls k t1213 t1214 t1215 t1216 (fun k_ => some k_ = (.slice Ao49 t1217.length co49 : Value).ownBlock) (.slice Ao49 t1217.length co49) t1217 1 t1237 t1238 w _ ?side1 ?side2 A27.out).mono ?_); (case side1 => repeat (first | (with_reducible first | exact HB.out | apply bAl | apply bDN | apply bD1 | refine bSt ?_ GE1195.out | refine bSt ?_ GE1196.out | refine bSt ?_ GE1197.out | refine bSt ?_ GE1220.out) | exact HB.out)); (case side2 => exact Kd.R_tight rfl HO1219.out); rintro e w62 ⟨rfl, hy0, hb, hkp⟩; refine ⟨_, rfl, ?_⟩; have n0_ := aK (blk_kept (by (with_reducible repeat (first | refine kDN ?_ _ | refine kD ?_ | refine kA ?_ _)); exact BK1195.out) hkp (fun hs_ => (fun e_ => (Kd.R_ne HO1219.out BK1195.out (by decide)) e_) hs_)); have n1_ := aK (blk_kept (by (with_reducible repeat (first | refine kDN ?_ _ | refine kD ?_ | refine kA ?_ _)); exact BK1196.out) hkp (fun hs_ => (fun e_ => (Kd.R_ne HO1219.out BK1196.out (by decide)) e_) hs_)); have n2_ := aK (blk_kept (by (with_reducible repeat (first | refine kDN ?_ _ | refine kD ?_ | refine kA ?_ _)); exact BK1197.out) hkp (fun hs_ => (fun e_ => (Kd.R_ne HO1219.out BK1197.out (by decide)) e_) hs_)); have n3_ := aK (Kd.R_mono (ok' := fun k_ => some k_ ≠ (.slice Ao49 t1217.length co49 : Value).ownBlock ∧ some k_ ≠ (.slice Ao59 t1233.length co59 : Value).ownBlock) (Kd.R_keptB (HO1205.out) hkp (fun k_ hk_ hs_ => (hk_.1) hs_)) (fun k_ hk_ => ⟨hk_.1.1, hk_.1.2⟩)); have n4_ := aK (Kd.R_mono (ok' := fun k_ => some k_ ≠ (.slice Ao55 t1225.length co55 : Value).ownBlock) (Kd.R_keptB ((Kd.R_apart' HO1212.out (Kd.R_typed HO1219.out) (by decide))) hkp (fun k_ hk_ hs_ => (hk_.2) hs_)) (fun k_ hk_ => by first | exact hk_.1.1.2 | exact hk_.1.1)); have n5_ := aK (Kd.R_reok rfl hy0 (fun k_ e_ => HO1219.out.1 k_ e_)); have n6_ := aK (blk_kept (by (with_reducible repeat (first | refine kDN ?_ _ | refine kD ?_ | refine kA ?_ _)); exact BK1220.out) hkp (fun hs_ => (fun e_ => (Kd.R_ne HO1219.out BK1220.out (by decide)) e_) hs_)); have n7_ := aK (Kd.R_mono (ok' := fun k_ => some k_ ≠ (.slice Ao56 t1210.length co56 : Value).ownBlock) (Kd.R_keptB ((Kd.R_apart' HO1227.out (Kd.R_typed HO1219.out) (by decide))) hkp (fun k_ hk_ hs_ => (hk_.2) hs_)) (fun k_ hk_ => by first | exact hk_.1.1.2 | exact hk_.1.1)); have n8_ := aK (Kd.R_mono (ok' := fun k_ => some k_ ≠ (.slice Ao40 t1203.length co40 : Value).ownBlock ∧ some k_ ≠ (.slice Ao49 t1217.length co49 : Value).ownBlock) (Kd.R_keptB (HO1235.out) hkp (fun k_ hk_ hs_ => (hk_.2) hs_)) (fun k_ hk_ => ⟨hk_.1.1.2, hk_.1.2⟩)); have n9_ := aK (hb); clear BK1195; clear BK1196; clear BK1197; clear HO1205; clear HO1212; clear HO1219; clear BK1220; clear HO1227; clear HO1235; clear HB; have BK1195 := n0_; have BK1196 := n1_; have BK1197 := n2_; have HO1205 := n3_; have HO1212 := n4_; have HO1219 := n5_; have BK1220 := n6_; have HO1227 := n7_; have HO1235 := n8_; have HB := n9_; clear n0_ n1_ n2_ n3_ n4_ n5_ n6_ n7_ n8_ n9_; (try clear hb); (try clear hkp); (try clear hy0)))
    (try simp only [Act.put, sTA, sZ, sS])
    go_cut [58] (fun v58 wc => ∃ (kq : Nat) (x58_27 : Bool), v58 = .bool x58_27 ∧ Aside0 (laws_FnExactBetweenCells.j0 kq a3 t1210 t1225 x58_27 a0_0 a0_1 a0_2 a0_3 l0_4 a1_0 a1_1 a2_0 a2_1 = some true) ∧ Aside0 (kq ≤ k) ∧ Aside0 (Kd.R (Kd.int .i64) 3 wc w.heap.size (fun k_ => some k_ ≠ ((.slice Ao55 t1225.length co55) : Value).ownBlock) (.slice Ao56 t1210.length co56) t1210) ∧ Aside0 (Kd.R (Kd.int .i64) 3 wc w.heap.size (fun k_ => some k_ ≠ ((.slice Ao56 t1210.length co56) : Value).ownBlock) (.slice Ao55 t1225.length co55) t1225) ∧ Aside0 (Kd.R k137 137 wc w.heap.size (fun _ => True) (.slice Ao49 t1217.length co49) t1238) ∧ Aside0 (wc.heap[gb1195]? = some (.cells #[.int .i64 a0_0, .int .i64 a0_1, .int .i64 a0_2, .int .i64 a0_3, (.slice A0_4 l0_4.length c0_4)] 51 (0, 0))) ∧ Aside0 (wc.heap[gb1196]? = some (.cells #[.int .i64 a1_0, .int .i64 a1_1] 53 (0, 0))) ∧ Aside0 (wc.heap[gb1197]? = some (.cells #[.int .i64 a2_0, .int .i64 a2_1] 53 (0, 0))) ∧ Aside0 (wc.heap[gb1220]? = some (.cells #[.int .i64 t1213, .int .i64 t1214, .int .i64 t1215, .int .i64 t1216, (.slice Ao49 t1217.length co49)] 58 (0, 0))) ∧ Aside0 (Below w.heap.size w wc))
    case first =>
     have H := HC28.out
     clear HC28
     by_cases c63 : t1237 < 0
     ·rw [if_pos c63] at H
      have c63b0 : decide (t1237 < 0) = true := decide_eq_true c63
      clear c63
      (first | rw [c63b0] | (simp only [i64_w, i32_w]; rw [c63b0]) | skip)
      have H' := aK H
      clear H
      go_wp2
      go_meet
      case rel => exact ⟨_, (true), (by first | rfl | (simp; done) | (simp [*]; done)), H', ⟨by first | omega | exact Nat.le_refl _⟩, ⟨by (with_reducible repeat (first | apply Kd.R_alloc | apply Kd.R_drewN | apply Kd.R_drew)); exact HO1212.out⟩, ⟨by (with_reducible repeat (first | apply Kd.R_alloc | apply Kd.R_drewN | apply Kd.R_drew)); exact HO1227.out⟩, ⟨by (with_reducible repeat (first | apply Kd.R_alloc | apply Kd.R_drewN | apply Kd.R_drew)); exact Kd.R_mono HO1219.out (fun _ hk => trivial)⟩, ⟨by (with_reducible repeat (first | refine kDN ?_ _ | refine kD ?_ | refine kA ?_ _)); exact BK1195.out⟩, ⟨by (with_reducible repeat (first | refine kDN ?_ _ | refine kD ?_ | refine kA ?_ _)); exact BK1196.out⟩, ⟨by (with_reducible repeat (first | refine kDN ?_ _ | refine kD ?_ | refine kA ?_ _)); exact BK1197.out⟩, ⟨by (with_reducible repeat (first | refine kDN ?_ _ | refine kD ?_ | refine kA ?_ _)); exact BK1220.out⟩, ⟨by repeat (first | (with_reducible first | exact HB.out | apply bAl | apply bDN | apply bD1 | refine bSt ?_ GE1195.out | refine bSt ?_ GE1196.out | refine bSt ?_ GE1197.out | refine bSt ?_ GE1220.out) | exact HB.out)⟩⟩
     ·rw [if_neg c63] at H
      have c63b0 : decide (t1237 < 0) = false := decide_eq_false c63
      clear c63
      (first | rw [c63b0] | (simp only [i64_w, i32_w]; rw [c63b0]) | skip)
      replace H := Option.bind_eq_some_iff.mp H
      obtain ⟨t1239, A640, H⟩ := H
      replace H : (laws_FnExactBetweenCells.j0 k a3 t1210 t1225 (!t1239) a0_0 a0_1 a0_2 a0_3 l0_4 a1_0 a1_1 a2_0 a2_1) = some true := H
      have A64 := aK A640
      clear A640
      have H' := aK H
      clear H
      go_wp2_with (first | (go_at_call 20; (with_reducible refine (laws_eqIntS.calls k _ _ t1225 _ _ t1210 t1239 _ ?side1 ?side2 ?side3 ?side4 A64.out).mono ?_); (case side1 => repeat (first | exact (Kd.R_reads' HO1227.out).2.2 | (with_reducible refine Kd.C_alloc ?_ _) | (with_reducible refine Kd.C_drewN ?_ _) | (with_reducible refine Kd.C_drew ?_))); (case side2 => exact (Kd.R_reads' HO1227.out).2.1); (case side3 => repeat (first | exact (Kd.R_reads' HO1212.out).2.2 | (with_reducible refine Kd.C_alloc ?_ _) | (with_reducible refine Kd.C_drewN ?_ _) | (with_reducible refine Kd.C_drew ?_))); (case side4 => exact (Kd.R_reads' HO1212.out).2.1); rintro e w' ⟨rfl, ⟨nd, rfl⟩⟩))
      go_meet
      case rel => exact ⟨_, (!t1239), (by first | rfl | (simp; done) | (simp [*]; done)), H', ⟨by first | omega | exact Nat.le_refl _⟩, ⟨by (with_reducible repeat (first | apply Kd.R_alloc | apply Kd.R_drewN | apply Kd.R_drew)); exact HO1212.out⟩, ⟨by (with_reducible repeat (first | apply Kd.R_alloc | apply Kd.R_drewN | apply Kd.R_drew)); exact HO1227.out⟩, ⟨by (with_reducible repeat (first | apply Kd.R_alloc | apply Kd.R_drewN | apply Kd.R_drew)); exact Kd.R_mono HO1219.out (fun _ hk => trivial)⟩, ⟨by (with_reducible repeat (first | refine kDN ?_ _ | refine kD ?_ | refine kA ?_ _)); exact BK1195.out⟩, ⟨by (with_reducible repeat (first | refine kDN ?_ _ | refine kD ?_ | refine kA ?_ _)); exact BK1196.out⟩, ⟨by (with_reducible repeat (first | refine kDN ?_ _ | refine kD ?_ | refine kA ?_ _)); exact BK1197.out⟩, ⟨by (with_reducible repeat (first | refine kDN ?_ _ | refine kD ?_ | refine kA ?_ _)); exact BK1220.out⟩, ⟨by repeat (first | (with_reducible first | exact HB.out | apply bAl | apply bDN | apply bD1 | refine bSt ?_ GE1195.out | refine bSt ?_ GE1196.out | refine bSt ?_ GE1197.out | refine bSt ?_ GE1220.out) | exact HB.out)⟩⟩
    case rest =>
     clear HC28
     try clear c2
     try clear p2
     try clear c3
     try clear c4
     try clear c5
     try clear c6
     try clear c20
     try clear c36
     try clear c37
     try clear c39
     try clear c45
     try clear c46
     try clear c47
     try clear c57
     try clear c58
     try clear c59
     try clear c63
     try clear c63b0
     try clear hcz42_0
     try clear hcz42_1
     try clear hcz42_2
     try clear hcz42_3
     try clear hcz42_4
     try clear hcz48_0
     try clear hcz48_1
     try clear hcz48_2
     try clear hcz48_3
     try clear hcz48_4
     try clear hcz61_0
     try clear hcz61_1
     try clear hcz61_2
     try clear hcz61_3
     try clear hcz61_4
     try clear hfz42_0
     try clear hfz42_1
     try clear hfz42_2
     try clear hfz42_3
     try clear hfz42_4
     try clear hfz48_0
     try clear hfz48_1
     try clear hfz48_2
     try clear hfz48_3
     try clear hfz48_4
     try clear hfz61_0
     try clear hfz61_1
     try clear hfz61_2
     try clear hfz61_3
     try clear hfz61_4
     obtain ⟨kq, x58_27, rfl, HA, HJ27, HO_10, HO_12, HO_1221004, BK1195, BK1196, BK1197, BK1220, HB⟩ := hcut
     have hl1221004_27 := (Kd.R_reads' HO_1221004.out).1
     rw [hl1221004_27] at HO_1221004
     (try simp only [hl1221004_27])
     (try simp only [hl1221004_27] at BK1195)
     (try simp only [hl1221004_27] at BK1196)
     (try simp only [hl1221004_27] at BK1197)
     (try simp only [hl1221004_27] at BK1220)
     (try simp only [hl1221004_27] at HO_10)
     (try simp only [hl1221004_27] at HO_12)
     cases kq with
     | zero => exact absurd HA.out (by simp [laws_FnExactBetweenCells.j0])
     | succ kj27 =>
      have H := HA.out
      clear HA
      simp only [laws_FnExactBetweenCells.j0] at H
      by_cases c65 : x58_27 = true
      ·subst c65
       have H1 : (some false) = some true := by first | (rw [if_pos rfl] at H; exact H) | rfl
       clear H
       have H := H1
       clear H1
       exact absurd (Option.some.inj H) Bool.false_ne_true
      ·replace c65 := Bool.eq_false_iff.mpr c65
       subst c65
       have H1 : ((laws_markIntS.f kj27 t1225 1).bind fun bt1240 => ((laws_heldIntS.f kj27 bt1240.2 1).bind fun t1242 => (if t1242 < 0 then (some false) else (if t1242 = bt1240.1 then ((laws_toTimed.f kj27 a0_0 a0_1 a0_2 a0_3 l0_4).bind fun bt1243 => ((laws_toEntry.f a1_0 a1_1).bind fun bt1250 => ((laws_toEntry.f a2_0 a2_1).bind fun bt1252 => ((impl_BetweenCells.f bt1243.1 bt1243.2.1 bt1243.2.2.1 bt1243.2.2.2.1 bt1243.2.2.2.2 bt1250.1 bt1250.2 bt1252.1 bt1252.2 a3).bind fun t1254 => ((laws_eqIntS.f kj27 t1254 t1210).bind fun t1257 => (if t1257 = true then ((laws_heldIntS.f kj27 bt1240.2 1).bind fun t1258 => (if t1258 < 0 then (some false) else (if t1258 = bt1240.1 then (some true) else (some false)))) else (some false))))))) else (some false))))) = some true := by rw [if_neg (show ¬ (false = true) by decide)] at H; exact H
       clear H
       have H := H1
       clear H1
       replace H := Option.bind_eq_some_iff.mp H
       obtain ⟨⟨t1240, t1241⟩, A660, H⟩ := H
       replace H : ((laws_heldIntS.f kj27 t1241 1).bind fun t1242 => (if t1242 < 0 then (some false) else (if t1242 = t1240 then ((laws_toTimed.f kj27 a0_0 a0_1 a0_2 a0_3 l0_4).bind fun bt1243 => ((laws_toEntry.f a1_0 a1_1).bind fun bt1250 => ((laws_toEntry.f a2_0 a2_1).bind fun bt1252 => ((impl_BetweenCells.f bt1243.1 bt1243.2.1 bt1243.2.2.1 bt1243.2.2.2.1 bt1243.2.2.2.2 bt1250.1 bt1250.2 bt1252.1 bt1252.2 a3).bind fun t1254 => ((laws_eqIntS.f kj27 t1254 t1210).bind fun t1257 => (if t1257 = true then ((laws_heldIntS.f kj27 t1241 1).bind fun t1258 => (if t1258 < 0 then (some false) else (if t1258 = t1240 then (some true) else (some false)))) else (some false))))))) else (some false)))) = some true := H
       have A66 := aK A660
       clear A660
       replace H := Option.bind_eq_some_iff.mp H
       obtain ⟨t1242, A670, H⟩ := H
       replace H : (if t1242 < 0 then (some false) else (if t1242 = t1240 then ((laws_toTimed.f kj27 a0_0 a0_1 a0_2 a0_3 l0_4).bind fun bt1243 => ((laws_toEntry.f a1_0 a1_1).bind fun bt1250 => ((laws_toEntry.f a2_0 a2_1).bind fun bt1252 => ((impl_BetweenCells.f bt1243.1 bt1243.2.1 bt1243.2.2.1 bt1243.2.2.2.1 bt1243.2.2.2.2 bt1250.1 bt1250.2 bt1252.1 bt1252.2 a3).bind fun t1254 => ((laws_eqIntS.f kj27 t1254 t1210).bind fun t1257 => (if t1257 = true then ((laws_heldIntS.f kj27 t1241 1).bind fun t1258 => (if t1258 < 0 then (some false) else (if t1258 = t1240 then (some true) else (some false)))) else (some false))))))) else (some false))) = some true := H
       have A67 := aK A670
       clear A670
       by_cases c68 : t1242 < 0
       ·rw [if_pos c68] at H
        have c68b0 : decide (t1242 < 0) = true := decide_eq_true c68
        clear c68
        exact absurd (Option.some.inj H) Bool.false_ne_true
       ·rw [if_neg c68] at H
        have c68b0 : decide (t1242 < 0) = false := decide_eq_false c68
        clear c68
        by_cases c69 : t1242 = t1240
        ·rw [if_pos c69] at H
         have c69b0 : (t1242 == t1240) = true := beq_iff_eq.mpr c69
         have c69b1 : (t1242 != t1240) = false := bne_eq_false_iff_eq.mpr c69
         clear c69
         replace H := Option.bind_eq_some_iff.mp H
         obtain ⟨⟨t1243, t1244, t1245, t1246, t1247⟩, A700, H⟩ := H
         replace H : ((laws_toEntry.f a1_0 a1_1).bind fun bt1250 => ((laws_toEntry.f a2_0 a2_1).bind fun bt1252 => ((impl_BetweenCells.f t1243 t1244 t1245 t1246 t1247 bt1250.1 bt1250.2 bt1252.1 bt1252.2 a3).bind fun t1254 => ((laws_eqIntS.f kj27 t1254 t1210).bind fun t1257 => (if t1257 = true then ((laws_heldIntS.f kj27 t1241 1).bind fun t1258 => (if t1258 < 0 then (some false) else (if t1258 = t1240 then (some true) else (some false)))) else (some false)))))) = some true := H
         have A70 := aK A700
         clear A700
         replace H := Option.bind_eq_some_iff.mp H
         obtain ⟨⟨t1250, t1251⟩, A710, H⟩ := H
         replace H : ((laws_toEntry.f a2_0 a2_1).bind fun bt1252 => ((impl_BetweenCells.f t1243 t1244 t1245 t1246 t1247 t1250 t1251 bt1252.1 bt1252.2 a3).bind fun t1254 => ((laws_eqIntS.f kj27 t1254 t1210).bind fun t1257 => (if t1257 = true then ((laws_heldIntS.f kj27 t1241 1).bind fun t1258 => (if t1258 < 0 then (some false) else (if t1258 = t1240 then (some true) else (some false)))) else (some false))))) = some true := H
         have A71 := aK A710
         clear A710
         replace H := Option.bind_eq_some_iff.mp H
         obtain ⟨⟨t1252, t1253⟩, A720, H⟩ := H
         replace H : ((impl_BetweenCells.f t1243 t1244 t1245 t1246 t1247 t1250 t1251 t1252 t1253 a3).bind fun t1254 => ((laws_eqIntS.f kj27 t1254 t1210).bind fun t1257 => (if t1257 = true then ((laws_heldIntS.f kj27 t1241 1).bind fun t1258 => (if t1258 < 0 then (some false) else (if t1258 = t1240 then (some true) else (some false)))) else (some false)))) = some true := H
         have A72 := aK A720
         clear A720
         replace H := Option.bind_eq_some_iff.mp H
         obtain ⟨t1254, A730, H⟩ := H
         replace H : ((laws_eqIntS.f kj27 t1254 t1210).bind fun t1257 => (if t1257 = true then ((laws_heldIntS.f kj27 t1241 1).bind fun t1258 => (if t1258 < 0 then (some false) else (if t1258 = t1240 then (some true) else (some false)))) else (some false))) = some true := H
         have A73 := aK A730
         clear A730
         replace H := Option.bind_eq_some_iff.mp H
         obtain ⟨t1257, A740, H⟩ := H
         replace H : (if t1257 = true then ((laws_heldIntS.f kj27 t1241 1).bind fun t1258 => (if t1258 < 0 then (some false) else (if t1258 = t1240 then (some true) else (some false)))) else (some false)) = some true := H
         have A74 := aK A740
         clear A740
         by_cases c75 : t1257 = true
         ·subst c75
          have H1 : ((laws_heldIntS.f kj27 t1241 1).bind fun t1258 => (if t1258 < 0 then (some false) else (if t1258 = t1240 then (some true) else (some false)))) = some true := by first | (rw [if_pos rfl] at H; exact H) | rfl
          clear H
          have H := H1
          clear H1
          replace H := Option.bind_eq_some_iff.mp H
          obtain ⟨t1258, A760, H⟩ := H
          replace H : (if t1258 < 0 then (some false) else (if t1258 = t1240 then (some true) else (some false))) = some true := H
          have A76 := aK A760
          clear A760
          by_cases c77 : t1258 < 0
          ·rw [if_pos c77] at H
           have c77b0 : decide (t1258 < 0) = true := decide_eq_true c77
           clear c77
           exact absurd (Option.some.inj H) Bool.false_ne_true
          ·rw [if_neg c77] at H
           have c77b0 : decide (t1258 < 0) = false := decide_eq_false c77
           clear c77
           by_cases c78 : t1258 = t1240
           ·rw [if_pos c78] at H
            have c78b0 : (t1258 == t1240) = true := beq_iff_eq.mpr c78
            have c78b1 : (t1258 != t1240) = false := bne_eq_false_iff_eq.mpr c78
            clear c78
            try go_wp2_with (first | ((with_reducible refine gate_callee (f := 23) rfl ?_); refine goesL_ (some 61) rfl rfl Try.func23 (by kernel_rfl) rfl #[.slice Ao55 t1225.length co55, .int .i64 1] rfl (by (try simp only [List.map_toArray, List.map_cons, List.map_nil]); first | done | rfl | (simp only [List.length_drop, List.length_take]; rfl)) ?_; (with_reducible refine (laws_markIntS.calls kj27 (fun k_ => some k_ = (.slice Ao55 t1225.length co55 : Value).ownBlock) (.slice Ao55 t1225.length co55) t1225 1 t1240 t1241 w _ ?side1 ?side2 A66.out).mono ?_); (case side1 => repeat (first | (with_reducible first | exact HB.out | apply bAl | apply bDN | apply bD1 | refine bSt ?_ GE1195.out | refine bSt ?_ GE1196.out | refine bSt ?_ GE1197.out | refine bSt ?_ GE1220.out) | exact HB.out)); (case side2 => exact Kd.R_tight rfl HO_12.out); rintro e w79 ⟨rfl, hy0, hb, hkp⟩; refine ⟨_, rfl, ?_⟩; have n0_ := aK (Kd.R_mono (ok' := fun k_ => some k_ ≠ (.slice Ao55 t1225.length co55 : Value).ownBlock) (Kd.R_keptB (HO_10.out) hkp (fun k_ hk_ hs_ => (hk_) hs_)) (fun k_ hk_ => hk_.1)); have n1_ := aK (Kd.R_reok rfl hy0 (fun k_ e_ => HO_12.out.1 k_ e_)); have n2_ := aK (Kd.R_mono (ok' := fun k_ => True) (Kd.R_keptB ((Kd.R_apart' HO_1221004.out (Kd.R_typed HO_12.out) (by decide))) hkp (fun k_ hk_ hs_ => (hk_.2) hs_)) (fun k_ hk_ => trivial)); have n3_ := aK (blk_kept (by (with_reducible repeat (first | refine kDN ?_ _ | refine kD ?_ | refine kA ?_ _)); exact BK1195.out) hkp (fun hs_ => (fun e_ => (Kd.R_ne HO_12.out BK1195.out (by decide)) e_) hs_)); have n4_ := aK (blk_kept (by (with_reducible repeat (first | refine kDN ?_ _ | refine kD ?_ | refine kA ?_ _)); exact BK1196.out) hkp (fun hs_ => (fun e_ => (Kd.R_ne HO_12.out BK1196.out (by decide)) e_) hs_)); have n5_ := aK (blk_kept (by (with_reducible repeat (first | refine kDN ?_ _ | refine kD ?_ | refine kA ?_ _)); exact BK1197.out) hkp (fun hs_ => (fun e_ => (Kd.R_ne HO_12.out BK1197.out (by decide)) e_) hs_)); have n6_ := aK (blk_kept (by (with_reducible repeat (first | refine kDN ?_ _ | refine kD ?_ | refine kA ?_ _)); exact BK1220.out) hkp (fun hs_ => (fun e_ => (Kd.R_ne HO_12.out BK1220.out (by decide)) e_) hs_)); have n7_ := aK (hb); clear HO_10; clear HO_12; clear HO_1221004; clear BK1195; clear BK1196; clear BK1197; clear BK1220; clear HB; have HO_10 := n0_; have HO_12 := n1_; have HO_1221004 := n2_; have BK1195 := n3_; have BK1196 := n4_; have BK1197 := n5_; have BK1220 := n6_; have HB := n7_; clear n0_ n1_ n2_ n3_ n4_ n5_ n6_ n7_; (try clear hb); (try clear hkp); (try clear hy0)) | ((with_reducible refine gate_callee (f := 24) rfl ?_); refine goesL_ (some 64) rfl rfl Try.func24 (by kernel_rfl) rfl #[.slice Ao55 t1241.length co55, .int .i64 1] rfl (by (try simp only [List.map_toArray, List.map_cons, List.map_nil]); first | done | (rw [show t1241.length = t1225.length from (Kd.R_reads' HO_12.out).1.symm] <;> rfl) | rfl | (simp only [List.length_drop, List.length_take]; rfl)) ?_; (with_reducible refine (laws_heldIntS.calls kj27 _ _ t1241 1 t1242 _ ?side1 ?side2 A67.out).mono ?_); (case side1 => repeat (first | exact (Kd.R_reads' HO_12.out).2.2 | (with_reducible refine Kd.C_alloc ?_ _) | (with_reducible refine Kd.C_drewN ?_ _) | (with_reducible refine Kd.C_drew ?_))); (case side2 => rw [show t1241.length = t1225.length from (Kd.R_reads' HO_12.out).1.symm]; exact (Kd.R_reads' HO_12.out).2.1); rintro e w' ⟨rfl, ⟨nd, rfl⟩⟩; refine ⟨_, rfl, ?_⟩))
            (try (rw [drewN_self w79]; generalize hq_ : World.drewN w79 _ = w79; have n0_ : Aside0 (Kd.R (Kd.int .i64) 3 w79 w.heap.size (fun k_ => some k_ ≠ (.slice Ao55 t1225.length co55 : Value).ownBlock) (.slice Ao56 t1210.length co56) t1210) := ⟨by rw [← hq_]; exact (by (with_reducible repeat (first | apply Kd.R_alloc | apply Kd.R_drewN | apply Kd.R_drew)); exact HO_10.out)⟩; have n1_ : Aside0 (Kd.R (Kd.int .i64) 3 w79 w.heap.size (fun k_ => some k_ ≠ (.slice Ao56 t1210.length co56 : Value).ownBlock) (.slice Ao55 t1225.length co55) t1241) := ⟨by rw [← hq_]; exact (by (with_reducible repeat (first | apply Kd.R_alloc | apply Kd.R_drewN | apply Kd.R_drew)); exact HO_12.out)⟩; have n2_ : Aside0 (Kd.R k137 137 w79 w.heap.size (fun _ => True) (.slice Ao49 t1238.length co49) t1238) := ⟨by rw [← hq_]; exact (by (with_reducible repeat (first | apply Kd.R_alloc | apply Kd.R_drewN | apply Kd.R_drew)); exact HO_1221004.out)⟩; have n3_ : Aside0 (w79.heap[gb1195]? = some (.cells #[.int .i64 a0_0, .int .i64 a0_1, .int .i64 a0_2, .int .i64 a0_3, .slice A0_4 l0_4.length c0_4] 51 (0, 0))) := ⟨by rw [← hq_]; exact (by (with_reducible repeat (first | refine kDN ?_ _ | refine kD ?_ | refine kA ?_ _)); exact BK1195.out)⟩; have n4_ : Aside0 (w79.heap[gb1196]? = some (.cells #[.int .i64 a1_0, .int .i64 a1_1] 53 (0, 0))) := ⟨by rw [← hq_]; exact (by (with_reducible repeat (first | refine kDN ?_ _ | refine kD ?_ | refine kA ?_ _)); exact BK1196.out)⟩; have n5_ : Aside0 (w79.heap[gb1197]? = some (.cells #[.int .i64 a2_0, .int .i64 a2_1] 53 (0, 0))) := ⟨by rw [← hq_]; exact (by (with_reducible repeat (first | refine kDN ?_ _ | refine kD ?_ | refine kA ?_ _)); exact BK1197.out)⟩; have n6_ : Aside0 (w79.heap[gb1220]? = some (.cells #[.int .i64 t1213, .int .i64 t1214, .int .i64 t1215, .int .i64 t1216, .slice Ao49 t1238.length co49] 58 (0, 0))) := ⟨by rw [← hq_]; exact (by (with_reducible repeat (first | refine kDN ?_ _ | refine kD ?_ | refine kA ?_ _)); exact BK1220.out)⟩; have n7_ : Aside0 (Below w.heap.size w w79) := ⟨by rw [← hq_]; exact (by repeat (first | (with_reducible first | exact HB.out | apply bAl | apply bDN | apply bD1 | refine bSt ?_ GE1195.out | refine bSt ?_ GE1196.out | refine bSt ?_ GE1197.out | refine bSt ?_ GE1220.out) | exact HB.out))⟩; clear HO_10 HO_12 HO_1221004 BK1195 BK1196 BK1197 BK1220 HB hq_; have HO_10 := n0_; have HO_12 := n1_; have HO_1221004 := n2_; have BK1195 := n3_; have BK1196 := n4_; have BK1197 := n5_; have BK1220 := n6_; have HB := n7_; clear n0_ n1_ n2_ n3_ n4_ n5_ n6_ n7_))
            have n0_ := aK (Kd.R_drew HO_10.out)
            have n1_ := aK (Kd.R_drew HO_12.out)
            have n2_ := aK (Kd.R_drew HO_1221004.out)
            have n3_ := aK (kD BK1195.out)
            have n4_ := aK (kD BK1196.out)
            have n5_ := aK (kD BK1197.out)
            have n6_ := aK (kD BK1220.out)
            have n7_ := aK (bD1 HB.out)
            clear HO_10
            clear HO_12
            clear HO_1221004
            clear BK1195
            clear BK1196
            clear BK1197
            clear BK1220
            clear HB
            have HO_10 := n0_
            have HO_12 := n1_
            have HO_1221004 := n2_
            have BK1195 := n3_
            have BK1196 := n4_
            have BK1197 := n5_
            have BK1220 := n6_
            have HB := n7_
            clear n0_ n1_ n2_ n3_ n4_ n5_ n6_ n7_
            refine start_ (n := 9) (S := fun w' => w'.cell? ⟨gb1195, 0, none⟩ = some (.int .i64 a0_0) ∧ w'.cell? ⟨gb1195, 1, none⟩ = some (.int .i64 a0_1) ∧ w'.cell? ⟨gb1195, 2, none⟩ = some (.int .i64 a0_2) ∧ w'.cell? ⟨gb1195, 3, none⟩ = some (.int .i64 a0_3) ∧ w'.cell? ⟨gb1195, 4, none⟩ = some (.slice A0_4 l0_4.length c0_4) ∧ w'.cell? ⟨gb1196, 0, none⟩ = some (.int .i64 a1_0) ∧ w'.cell? ⟨gb1196, 1, none⟩ = some (.int .i64 a1_1) ∧ w'.cell? ⟨gb1197, 0, none⟩ = some (.int .i64 a2_0) ∧ w'.cell? ⟨gb1197, 1, none⟩ = some (.int .i64 a2_1)) (ds := []) #[bN,bN,bN,bN,bN,bN,bN,bN,bN] (by kernel_rfl) rfl rfl ⟨(kC BK1195.out 0).trans rfl, (kC BK1195.out 1).trans rfl, (kC BK1195.out 2).trans rfl, (kC BK1195.out 3).trans rfl, (kC BK1195.out 4).trans rfl, (kC BK1196.out 0).trans rfl, (kC BK1196.out 1).trans rfl, (kC BK1197.out 0).trans rfl, (kC BK1197.out 1).trans rfl⟩ (fun hHeld => ?_); refine with_tabW laws_FnExactBetweenCells.tab24 laws_FnExactBetweenCells.bits24 (fun HT_ HW_ => ?_)
            generalize w79.drew = w80 at HO_10 HO_12 HO_1221004 BK1195 BK1196 BK1197 BK1220 HB hHeld ⊢
            refine pure_ (i := 6) (N := some 76) (v := ?_) (a' := ?_) #[bN,bN,bN,bN,bN,bN,bY,bN,bN] rfl rfl (any_of HT_.out (by kernel_rfl)) (fun _ _ _ h => h) (Or.inl ⟨by rfl, ?_⟩) ?_ ?_
            rotate_left
            ·intro w'
             go_simp
             with_reducible rfl
            rotate_left
            ·simp only [Act.put, sTA, sZ, sS, i64_w, i32_w]
             rfl
            refine take_ (i := 0) (N := some 70) (v := ?_) (a' := ?_) #[bY,bN,bN,bN,bN,bN,bY,bN,bN] rfl rfl (take_ofW HT_.out HW_.out (by kernel_rfl)) (fun _ _ _ h => h) (Or.inl ⟨by rfl, ?_⟩) hHeld ?_ ?_
            rotate_left
            ·rintro w' ⟨s0, s1, s2, s3, s4, s5, s6, s7, s8⟩
             go_simp
             with_reducible rfl
            rotate_left
            ·simp only [Act.put, sTA, sZ, sS, i64_w, i32_w]
             rfl
            refine take_ (i := 2) (N := some 72) (v := ?_) (a' := ?_) #[bY,bN,bY,bN,bN,bN,bY,bN,bN] rfl rfl (take_ofW HT_.out HW_.out (by kernel_rfl)) (fun _ _ _ h => h) (Or.inl ⟨by rfl, ?_⟩) hHeld ?_ ?_
            rotate_left
            ·rintro w' ⟨s0, s1, s2, s3, s4, s5, s6, s7, s8⟩
             go_simp
             with_reducible rfl
            rotate_left
            ·simp only [Act.put, sTA, sZ, sS, i64_w, i32_w]
             rfl
            refine take_ (i := 4) (N := some 74) (v := ?_) (a' := ?_) #[bY,bN,bY,bN,bY,bN,bY,bN,bN] rfl rfl (take_ofW HT_.out HW_.out (by kernel_rfl)) (fun _ _ _ h => h) (Or.inl ⟨by rfl, ?_⟩) hHeld ?_ ?_
            rotate_left
            ·rintro w' ⟨s0, s1, s2, s3, s4, s5, s6, s7, s8⟩
             go_simp
             with_reducible rfl
            rotate_left
            ·simp only [Act.put, sTA, sZ, sS, i64_w, i32_w]
             rfl
            refine one_ (i := 1) (N := some 71) #[bY,bY,bY,bN,bY,bN,bY,bN,bN] rfl rfl (one_of HT_.out (by kernel_rfl)) (by decide) (fun K hK => ?_)
            refine goes_ Try.func36 (by kernel_rfl) rfl #[.agg #[.int .i64 a0_0, .int .i64 a0_1, .int .i64 a0_2, .int .i64 a0_3, .slice A0_4 l0_4.length c0_4]] (by rfl) rfl rfl (by (try simp only [List.map_toArray, List.map_cons, List.map_nil]); first | done | rfl | (simp only [List.length_drop, List.length_take]; rfl)) ?_
            with_reducible refine (laws_toTimed.calls kj27 a0_0 a0_1 a0_2 a0_3 _ _ l0_4 t1243 t1244 t1245 t1246 t1247 _ ?side1 ?side2 A70.out).mono ?_
            (case side1 => repeat (first | exact (Kd.C_below HR0_4.out HB.out) | (with_reducible refine Kd.C_alloc ?_ _) | (with_reducible refine Kd.C_drewN ?_ _) | (with_reducible refine Kd.C_drew ?_)))
            (case side2 => exact HC0_4.out)
            rintro e w81 ⟨v1248, rfl, ho0, hb⟩
            refine ⟨_, rfl, ?_⟩
            have n0_ := aK (Kd.R_below (by (with_reducible repeat (first | apply Kd.R_alloc | apply Kd.R_drewN | apply Kd.R_drew)); exact HO_10.out) hb)
            have n1_ := aK (Kd.R_below (by (with_reducible repeat (first | apply Kd.R_alloc | apply Kd.R_drewN | apply Kd.R_drew)); exact HO_12.out) hb)
            have n2_ := aK (Kd.R_elder' (by (with_reducible repeat (first | apply Kd.R_alloc | apply Kd.R_drewN | apply Kd.R_drew)); exact HO_1221004.out) (Kd.R_base ho0) hb)
            have n3_ := aK (Kd.R_lower (Kd.R_new' ho0 (Kd.R_lt (by (with_reducible repeat (first | apply Kd.R_alloc | apply Kd.R_drewN | apply Kd.R_drew)); exact HO_1221004.out))) (bSz (by repeat (first | (with_reducible first | exact HB.out | apply bAl | apply bDN | apply bD1 | refine bSt ?_ GE1195.out | refine bSt ?_ GE1196.out | refine bSt ?_ GE1197.out | refine bSt ?_ GE1220.out) | exact HB.out))))
            have n4_ := bkb BK1195 hb (by intro z_; (with_reducible repeat (first | refine kDN ?_ _ | refine kD ?_ | refine kA ?_ _)); exact z_)
            have n5_ := bkb BK1196 hb (by intro z_; (with_reducible repeat (first | refine kDN ?_ _ | refine kD ?_ | refine kA ?_ _)); exact z_)
            have n6_ := bkb BK1197 hb (by intro z_; (with_reducible repeat (first | refine kDN ?_ _ | refine kD ?_ | refine kA ?_ _)); exact z_)
            have n7_ := bkb BK1220 hb (by intro z_; (with_reducible repeat (first | refine kDN ?_ _ | refine kD ?_ | refine kA ?_ _)); exact z_)
            have n8_ := aK (bSp (by repeat (first | (with_reducible first | exact HB.out | apply bAl | apply bDN | apply bD1 | refine bSt ?_ GE1195.out | refine bSt ?_ GE1196.out | refine bSt ?_ GE1197.out | refine bSt ?_ GE1220.out) | exact HB.out)) hb)
            clear HO_10
            clear HO_12
            clear HO_1221004
            clear BK1195
            clear BK1196
            clear BK1197
            clear BK1220
            clear HB
            have HO_10 := n0_
            have HO_12 := n1_
            have HO_1221004 := n2_
            have HO1249 := n3_
            have BK1195 := n4_
            have BK1196 := n5_
            have BK1197 := n6_
            have BK1220 := n7_
            have HB := n8_
            clear n0_ n1_ n2_ n3_ n4_ n5_ n6_ n7_ n8_
            (try clear hb)
            (try clear hb2)
            (try clear hk)
            (try clear hi)
            (try clear ho0)
            refine hK.out _ _ ⟨(kC BK1195.out 0).trans rfl, (kC BK1195.out 1).trans rfl, (kC BK1195.out 2).trans rfl, (kC BK1195.out 3).trans rfl, (kC BK1195.out 4).trans rfl, (kC BK1196.out 0).trans rfl, (kC BK1196.out 1).trans rfl, (kC BK1197.out 0).trans rfl, (kC BK1197.out 1).trans rfl⟩ (fun hHeld => ?_)
            clear hK K
            refine norm_ (a' := ?_) ?_ ?_
            rotate_left
            ·show Act.put _ (some 71) _ = _
             simp only [Act.put, sTA, sZ, sS, i64_w, i32_w]
             rfl
            refine one_ (i := 3) (N := some 73) #[bY,bY,bY,bY,bY,bN,bY,bN,bN] rfl rfl (one_of HT_.out (by kernel_rfl)) (by decide) (fun K hK => ?_)
            refine goes_ Try.func37 (by kernel_rfl) rfl #[.agg #[.int .i64 a1_0, .int .i64 a1_1]] (by rfl) rfl rfl (by (try simp only [List.map_toArray, List.map_cons, List.map_nil]); first | done | rfl | (simp only [List.length_drop, List.length_take]; rfl)) ?_
            with_reducible refine (laws_toEntry.calls a1_0 a1_1 t1250 t1251 _ A71.out).mono ?_
            rintro e w82 ⟨rfl, hb⟩
            refine ⟨_, rfl, ?_⟩
            have n0_ := aK (Kd.R_below (by (with_reducible repeat (first | apply Kd.R_alloc | apply Kd.R_drewN | apply Kd.R_drew)); exact HO_10.out) hb)
            have n1_ := aK (Kd.R_below (by (with_reducible repeat (first | apply Kd.R_alloc | apply Kd.R_drewN | apply Kd.R_drew)); exact HO_12.out) hb)
            have n2_ := aK (Kd.R_below (by (with_reducible repeat (first | apply Kd.R_alloc | apply Kd.R_drewN | apply Kd.R_drew)); exact HO_1221004.out) hb)
            have n3_ := aK (Kd.R_below (by (with_reducible repeat (first | apply Kd.R_alloc | apply Kd.R_drewN | apply Kd.R_drew)); exact HO1249.out) hb)
            have n4_ := bkb BK1195 hb (by intro z_; (with_reducible repeat (first | refine kDN ?_ _ | refine kD ?_ | refine kA ?_ _)); exact z_)
            have n5_ := bkb BK1196 hb (by intro z_; (with_reducible repeat (first | refine kDN ?_ _ | refine kD ?_ | refine kA ?_ _)); exact z_)
            have n6_ := bkb BK1197 hb (by intro z_; (with_reducible repeat (first | refine kDN ?_ _ | refine kD ?_ | refine kA ?_ _)); exact z_)
            have n7_ := bkb BK1220 hb (by intro z_; (with_reducible repeat (first | refine kDN ?_ _ | refine kD ?_ | refine kA ?_ _)); exact z_)
            have n8_ := aK (bSp (by repeat (first | (with_reducible first | exact HB.out | apply bAl | apply bDN | apply bD1 | refine bSt ?_ GE1195.out | refine bSt ?_ GE1196.out | refine bSt ?_ GE1197.out | refine bSt ?_ GE1220.out) | exact HB.out)) hb)
            clear HO_10
            clear HO_12
            clear HO_1221004
            clear HO1249
            clear BK1195
            clear BK1196
            clear BK1197
            clear BK1220
            clear HB
            have HO_10 := n0_
            have HO_12 := n1_
            have HO_1221004 := n2_
            have HO1249 := n3_
            have BK1195 := n4_
            have BK1196 := n5_
            have BK1197 := n6_
            have BK1220 := n7_
            have HB := n8_
            clear n0_ n1_ n2_ n3_ n4_ n5_ n6_ n7_ n8_
            (try clear hb)
            (try clear hb2)
            (try clear hk)
            (try clear hi)
            refine hK.out _ _ ⟨(kC BK1195.out 0).trans rfl, (kC BK1195.out 1).trans rfl, (kC BK1195.out 2).trans rfl, (kC BK1195.out 3).trans rfl, (kC BK1195.out 4).trans rfl, (kC BK1196.out 0).trans rfl, (kC BK1196.out 1).trans rfl, (kC BK1197.out 0).trans rfl, (kC BK1197.out 1).trans rfl⟩ (fun hHeld => ?_)
            clear hK K
            refine norm_ (a' := ?_) ?_ ?_
            rotate_left
            ·show Act.put _ (some 73) _ = _
             simp only [Act.put, sTA, sZ, sS, i64_w, i32_w]
             rfl
            refine one_ (i := 5) (N := some 75) #[bY,bY,bY,bY,bY,bY,bY,bN,bN] rfl rfl (one_of HT_.out (by kernel_rfl)) (by decide) (fun K hK => ?_)
            refine goes_ Try.func37 (by kernel_rfl) rfl #[.agg #[.int .i64 a2_0, .int .i64 a2_1]] (by rfl) rfl rfl (by (try simp only [List.map_toArray, List.map_cons, List.map_nil]); first | done | rfl | (simp only [List.length_drop, List.length_take]; rfl)) ?_
            with_reducible refine (laws_toEntry.calls a2_0 a2_1 t1252 t1253 _ A72.out).mono ?_
            rintro e w83 ⟨rfl, hb⟩
            refine ⟨_, rfl, ?_⟩
            have n0_ := aK (Kd.R_below (by (with_reducible repeat (first | apply Kd.R_alloc | apply Kd.R_drewN | apply Kd.R_drew)); exact HO_10.out) hb)
            have n1_ := aK (Kd.R_below (by (with_reducible repeat (first | apply Kd.R_alloc | apply Kd.R_drewN | apply Kd.R_drew)); exact HO_12.out) hb)
            have n2_ := aK (Kd.R_below (by (with_reducible repeat (first | apply Kd.R_alloc | apply Kd.R_drewN | apply Kd.R_drew)); exact HO_1221004.out) hb)
            have n3_ := aK (Kd.R_below (by (with_reducible repeat (first | apply Kd.R_alloc | apply Kd.R_drewN | apply Kd.R_drew)); exact HO1249.out) hb)
            have n4_ := bkb BK1195 hb (by intro z_; (with_reducible repeat (first | refine kDN ?_ _ | refine kD ?_ | refine kA ?_ _)); exact z_)
            have n5_ := bkb BK1196 hb (by intro z_; (with_reducible repeat (first | refine kDN ?_ _ | refine kD ?_ | refine kA ?_ _)); exact z_)
            have n6_ := bkb BK1197 hb (by intro z_; (with_reducible repeat (first | refine kDN ?_ _ | refine kD ?_ | refine kA ?_ _)); exact z_)
            have n7_ := bkb BK1220 hb (by intro z_; (with_reducible repeat (first | refine kDN ?_ _ | refine kD ?_ | refine kA ?_ _)); exact z_)
            have n8_ := aK (bSp (by repeat (first | (with_reducible first | exact HB.out | apply bAl | apply bDN | apply bD1 | refine bSt ?_ GE1195.out | refine bSt ?_ GE1196.out | refine bSt ?_ GE1197.out | refine bSt ?_ GE1220.out) | exact HB.out)) hb)
            clear HO_10
            clear HO_12
            clear HO_1221004
            clear HO1249
            clear BK1195
            clear BK1196
            clear BK1197
            clear BK1220
            clear HB
            have HO_10 := n0_
            have HO_12 := n1_
            have HO_1221004 := n2_
            have HO1249 := n3_
            have BK1195 := n4_
            have BK1196 := n5_
            have BK1197 := n6_
            have BK1220 := n7_
            have HB := n8_
            clear n0_ n1_ n2_ n3_ n4_ n5_ n6_ n7_ n8_
            (try clear hb)
            (try clear hb2)
            (try clear hk)
            (try clear hi)
            obtain ⟨Ao84, co84, eo84⟩ := Kd.R_slice HO1249.out
            (first | subst eo84 | (injection eo84 with f1_ f2_ f3_; have f4_ := f1_.symm; have f5_ := f3_.symm; clear f1_ f2_ f3_; subst f4_; subst f5_))
            refine hK.out _ _ ⟨(kC BK1195.out 0).trans rfl, (kC BK1195.out 1).trans rfl, (kC BK1195.out 2).trans rfl, (kC BK1195.out 3).trans rfl, (kC BK1195.out 4).trans rfl, (kC BK1196.out 0).trans rfl, (kC BK1196.out 1).trans rfl, (kC BK1197.out 0).trans rfl, (kC BK1197.out 1).trans rfl⟩ (fun hHeld => ?_)
            clear hK K
            refine norm_ (a' := ?_) ?_ ?_
            rotate_left
            ·show Act.put _ (some 75) _ = _
             simp only [Act.put, sTA, sZ, sS, i64_w, i32_w]
             rfl
            refine one_ (i := 7) (N := some 77) #[bY,bY,bY,bY,bY,bY,bY,bY,bN] rfl rfl (one_of HT_.out (by kernel_rfl)) (by decide) (fun K hK => ?_)
            refine goes_ Try.func58 (by kernel_rfl) rfl #[.agg #[.int .i64 t1243, .int .i64 t1244, .int .i64 t1245, .int .i64 t1246, .slice Ao84 t1247.length co84], .agg #[.int .i64 t1250, .int .i64 t1251], .agg #[.int .i64 t1252, .int .i64 t1253], .int .i64 a3] (by rfl) rfl rfl (by (try simp only [List.map_toArray, List.map_cons, List.map_nil]); first | done | rfl | (simp only [List.length_drop, List.length_take]; rfl)) ?_
            with_reducible refine (impl_BetweenCells.calls t1243 t1244 t1245 t1246 _ _ t1247 t1250 t1251 t1252 t1253 a3 t1254 _ ?side1 ?side2 A73.out).mono ?_
            (case side1 => repeat (first | exact (Kd.R_reads' HO1249.out).2.2 | (with_reducible refine Kd.C_alloc ?_ _) | (with_reducible refine Kd.C_drewN ?_ _) | (with_reducible refine Kd.C_drew ?_)))
            (case side2 => exact (Kd.R_reads' HO1249.out).2.1)
            rintro e w85 ⟨v1255, rfl, ho0, hb⟩
            refine ⟨_, rfl, ?_⟩
            have n0_ := aK (Kd.R_elder' (by (with_reducible repeat (first | apply Kd.R_alloc | apply Kd.R_drewN | apply Kd.R_drew)); exact HO_10.out) (Kd.R_base ho0) hb)
            have n1_ := aK (Kd.R_elder' (by (with_reducible repeat (first | apply Kd.R_alloc | apply Kd.R_drewN | apply Kd.R_drew)); exact HO_12.out) (Kd.R_base ho0) hb)
            have n2_ := aK (Kd.R_below (by (with_reducible repeat (first | apply Kd.R_alloc | apply Kd.R_drewN | apply Kd.R_drew)); exact HO_1221004.out) hb)
            have n3_ := aK (Kd.R_below (by (with_reducible repeat (first | apply Kd.R_alloc | apply Kd.R_drewN | apply Kd.R_drew)); exact HO1249.out) hb)
            have n4_ := aK (Kd.R_lower (Kd.R_new' (Kd.R_new' ho0 (Kd.R_lt (by (with_reducible repeat (first | apply Kd.R_alloc | apply Kd.R_drewN | apply Kd.R_drew)); exact HO_10.out))) (Kd.R_lt (by (with_reducible repeat (first | apply Kd.R_alloc | apply Kd.R_drewN | apply Kd.R_drew)); exact HO_12.out))) (bSz (by repeat (first | (with_reducible first | exact HB.out | apply bAl | apply bDN | apply bD1 | refine bSt ?_ GE1195.out | refine bSt ?_ GE1196.out | refine bSt ?_ GE1197.out | refine bSt ?_ GE1220.out) | exact HB.out))))
            have n5_ := bkb BK1195 hb (by intro z_; (with_reducible repeat (first | refine kDN ?_ _ | refine kD ?_ | refine kA ?_ _)); exact z_)
            have n6_ := bkb BK1196 hb (by intro z_; (with_reducible repeat (first | refine kDN ?_ _ | refine kD ?_ | refine kA ?_ _)); exact z_)
            have n7_ := bkb BK1197 hb (by intro z_; (with_reducible repeat (first | refine kDN ?_ _ | refine kD ?_ | refine kA ?_ _)); exact z_)
            have n8_ := bkb BK1220 hb (by intro z_; (with_reducible repeat (first | refine kDN ?_ _ | refine kD ?_ | refine kA ?_ _)); exact z_)
            have n9_ := aK (bSp (by repeat (first | (with_reducible first | exact HB.out | apply bAl | apply bDN | apply bD1 | refine bSt ?_ GE1195.out | refine bSt ?_ GE1196.out | refine bSt ?_ GE1197.out | refine bSt ?_ GE1220.out) | exact HB.out)) hb)
            clear HO_10
            clear HO_12
            clear HO_1221004
            clear HO1249
            clear BK1195
            clear BK1196
            clear BK1197
            clear BK1220
            clear HB
            have HO_10 := n0_
            have HO_12 := n1_
            have HO_1221004 := n2_
            have HO1249 := n3_
            have HO1256 := n4_
            have BK1195 := n5_
            have BK1196 := n6_
            have BK1197 := n7_
            have BK1220 := n8_
            have HB := n9_
            clear n0_ n1_ n2_ n3_ n4_ n5_ n6_ n7_ n8_ n9_
            (try clear hb)
            (try clear hb2)
            (try clear hk)
            (try clear hi)
            (try clear ho0)
            refine hK.out _ _ ⟨(kC BK1195.out 0).trans rfl, (kC BK1195.out 1).trans rfl, (kC BK1195.out 2).trans rfl, (kC BK1195.out 3).trans rfl, (kC BK1195.out 4).trans rfl, (kC BK1196.out 0).trans rfl, (kC BK1196.out 1).trans rfl, (kC BK1197.out 0).trans rfl, (kC BK1197.out 1).trans rfl⟩ (fun hHeld => ?_)
            clear hK K
            refine norm_ (a' := ?_) ?_ ?_
            rotate_left
            ·show Act.put _ (some 77) _ = _
             simp only [Act.put, sTA, sZ, sS, i64_w, i32_w]
             rfl
            refine pure_ (i := 8) (N := some 16) (v := ?_) (a' := ?_) #[bY,bY,bY,bY,bY,bY,bY,bY,bY] rfl rfl (any_of HT_.out (by kernel_rfl)) (fun _ _ _ h => h) (Or.inl ⟨by rfl, ?_⟩) ?_ ?_
            rotate_left
            ·intro w'
             go_simp
             with_reducible rfl
            rotate_left
            ·simp only [Act.put, sTA, sZ, sS, i64_w, i32_w]
             rfl
            refine done_ (done_of HT_.out (by kernel_rfl)) ?_
            obtain ⟨Ao86, co86, eo86⟩ := Kd.R_slice HO1256.out
            subst eo86
            try go_wp2_with (first | ((with_reducible refine gate_callee (f := 20) rfl ?_); refine goesL_ (some 80) rfl rfl Try.func20 (by kernel_rfl) rfl #[.slice Ao86 t1254.length co86, .slice Ao56 t1210.length co56] rfl (by (try simp only [List.map_toArray, List.map_cons, List.map_nil]); first | done | rfl | (simp only [List.length_drop, List.length_take]; rfl)) ?_; (with_reducible refine (laws_eqIntS.calls kj27 _ _ t1254 _ _ t1210 true _ ?side1 ?side2 ?side3 ?side4 A74.out).mono ?_); (case side1 => repeat (first | exact (Kd.R_reads' HO1256.out).2.2 | (with_reducible refine Kd.C_alloc ?_ _) | (with_reducible refine Kd.C_drewN ?_ _) | (with_reducible refine Kd.C_drew ?_))); (case side2 => exact (Kd.R_reads' HO1256.out).2.1); (case side3 => repeat (first | exact (Kd.R_reads' HO_10.out).2.2 | (with_reducible refine Kd.C_alloc ?_ _) | (with_reducible refine Kd.C_drewN ?_ _) | (with_reducible refine Kd.C_drew ?_))); (case side4 => exact (Kd.R_reads' HO_10.out).2.1); rintro e w' ⟨rfl, ⟨nd, rfl⟩⟩; refine ⟨_, rfl, ?_⟩) | ((with_reducible refine gate_callee (f := 24) rfl ?_); refine goesL_ (some 84) rfl rfl Try.func24 (by kernel_rfl) rfl #[.slice Ao55 t1241.length co55, .int .i64 1] rfl (by (try simp only [List.map_toArray, List.map_cons, List.map_nil]); first | done | (rw [show t1241.length = t1225.length from (Kd.R_reads' HO_12.out).1.symm] <;> rfl) | rfl | (simp only [List.length_drop, List.length_take]; rfl)) ?_; (with_reducible refine (laws_heldIntS.calls kj27 _ _ t1241 1 t1258 _ ?side1 ?side2 A76.out).mono ?_); (case side1 => repeat (first | exact (Kd.R_reads' HO_12.out).2.2 | (with_reducible refine Kd.C_alloc ?_ _) | (with_reducible refine Kd.C_drewN ?_ _) | (with_reducible refine Kd.C_drew ?_))); (case side2 => rw [show t1241.length = t1225.length from (Kd.R_reads' HO_12.out).1.symm]; exact (Kd.R_reads' HO_12.out).2.1); rintro e w' ⟨rfl, ⟨nd, rfl⟩⟩; refine ⟨_, rfl, ?_⟩))
            go_ret
            exact ⟨by first | rfl | (simp [errW_none, errW_some] <;> rfl) | (simp [*, errW_none, errW_some] <;> rfl), by repeat (first | (with_reducible first | exact HB.out | apply bAl | apply bDN | apply bD1 | refine bSt ?_ GE1195.out | refine bSt ?_ GE1196.out | refine bSt ?_ GE1197.out | refine bSt ?_ GE1220.out) | exact HB.out)⟩
           ·rw [if_neg c78] at H
            have c78b0 : (t1258 == t1240) = false := beq_eq_false_iff_ne.mpr c78
            have c78b1 : (t1258 != t1240) = true := bne_iff_ne.mpr c78
            exact absurd (Option.some.inj H) Bool.false_ne_true
         ·replace c75 := Bool.eq_false_iff.mpr c75
          subst c75
          have H1 : (some false) = some true := by rw [if_neg (show ¬ (false = true) by decide)] at H; exact H
          clear H
          have H := H1
          clear H1
          exact absurd (Option.some.inj H) Bool.false_ne_true
        ·rw [if_neg c69] at H
         have c69b0 : (t1242 == t1240) = false := beq_eq_false_iff_ne.mpr c69
         have c69b1 : (t1242 != t1240) = true := bne_iff_ne.mpr c69
         exact absurd (Option.some.inj H) Bool.false_ne_true
   ·replace c26 := Bool.eq_false_iff.mpr c26
    subst c26
    have H1 : (some false) = some true := by rw [if_neg (show ¬ (false = true) by decide)] at H; exact H
    clear H
    have H := H1
    clear H1
    exact absurd (Option.some.inj H) Bool.false_ne_true
  ·replace c23 := Bool.eq_false_iff.mpr c23
   subst c23
   have H1 : (some false) = some true := by rw [if_neg (show ¬ (false = true) by decide)] at H; exact H
   clear H
   have H := H1
   clear H1
   exact absurd (Option.some.inj H) Bool.false_ne_true
end Go.Proofs.Ytimejdhglmajdaa.F
end

section
namespace Go.Proofs.Ytimejdhglmajdaa.F
open Go.RowKit Go.Proofs.YtimejdhglmajdaaW.PrintWords Go.Proofs.YtimejdhglmajdaaW.PrintLast Go.Proofs.YtimejdhglmajdaaW.PrintMore
set_option linter.unusedVariables false
set_option linter.unusedSimpArgs false
theorem w64 {x : Int} (h1 : -9223372036854775808 ≤ x) (h2 : x ≤ 9223372036854775807) : wrap64 x = x := by unfold wrap64; omega
theorem wrapi_nat {n : Nat} (h : n < 9223372036854775808) : IntKind.i64.wrap (n : Int) = (n : Int) := by rw [IntKind.wrap_i64]; omega
theorem bits_and_i {a b : Nat} (ha : a < 2 ^ 63) (hb : b < 2 ^ 63) : Go.bits .and .i64 (a : Int) (b : Int) = ((a &&& b : Nat) : Int) :=
  (bits_nat .i64 63 (by decide) (fun n h0 h1 => by rw [IntKind.wrap_i64]; omega) a b ha hb).1
theorem bits_or_i {a b : Nat} (ha : a < 2 ^ 63) (hb : b < 2 ^ 63) : Go.bits .or .i64 (a : Int) (b : Int) = ((a ||| b : Nat) : Int) :=
  (bits_nat .i64 63 (by decide) (fun n h0 h1 => by rw [IntKind.wrap_i64]; omega) a b ha hb).2
theorem bits_xor_i {a b : Nat} (ha : a < 2 ^ 63) (hb : b < 2 ^ 63) : Go.bits .xor .i64 (a : Int) (b : Int) = ((a ^^^ b : Nat) : Int) := by
  have ha' : a % 2 ^ 64 = a := Nat.mod_eq_of_lt (by omega)
  have hb' : b % 2 ^ 64 = b := Nat.mod_eq_of_lt (by omega)
  have hx := Nat.xor_lt_two_pow ha hb
  show IntKind.i64.wrap (((BitVec.ofInt 64 (a : Int) ^^^ BitVec.ofInt 64 (b : Int)).toNat : Nat) : Int) = _
  rw [BitVec.ofInt_natCast, BitVec.ofInt_natCast, BitVec.toNat_xor, BitVec.toNat_ofNat, BitVec.toNat_ofNat, ha', hb']
  exact wrapi_nat (by omega)
theorem bits_andNot_i {a b : Nat} (ha : a < 2 ^ 63) (hb : b < 2 ^ 63) : Go.bits .andNot .i64 (a : Int) (b : Int) = ((a ^^^ (a &&& b) : Nat) : Int) := by
  have ha' : a % 2 ^ 64 = a := Nat.mod_eq_of_lt (by omega)
  have hb' : b % 2 ^ 64 = b := Nat.mod_eq_of_lt (by omega)
  have hx : a ^^^ (a &&& b) < 2 ^ 63 := Nat.xor_lt_two_pow ha (Nat.lt_of_le_of_lt Nat.and_le_left ha)
  have key : (BitVec.ofNat 64 a &&& ~~~BitVec.ofNat 64 b).toNat = a ^^^ (a &&& b) := by
    apply Nat.eq_of_testBit_eq
    intro i
    have e1 : (BitVec.ofNat 64 a &&& ~~~BitVec.ofNat 64 b).toNat.testBit i = (BitVec.ofNat 64 a &&& ~~~BitVec.ofNat 64 b).getLsbD i := rfl
    rw [e1]
    simp only [BitVec.getLsbD_and, BitVec.getLsbD_not, BitVec.getLsbD_ofNat, Nat.testBit_xor, Nat.testBit_and]
    by_cases hi : i < 64
    · simp [hi]
      cases a.testBit i <;> cases b.testBit i <;> rfl
    · have : a.testBit i = false := Nat.testBit_lt_two_pow (Nat.lt_of_lt_of_le ha (Nat.pow_le_pow_right (by decide) (by omega)))
      simp [hi, this]
  show IntKind.i64.wrap (((BitVec.ofInt 64 (a : Int) &&& ~~~BitVec.ofInt 64 (b : Int)).toNat : Nat) : Int) = _
  rw [BitVec.ofInt_natCast, BitVec.ofInt_natCast, key]
  exact wrapi_nat (by omega)
theorem shl_one {g : Nat} (h : g < 63) : shl .i64 1 (g : Int) = ((2 ^ g : Nat) : Int) := by
  unfold shl
  have : min ((g : Int).toNat) IntKind.i64.bits = g := by simp [IntKind.bits]; omega
  rw [this, Int.one_mul]
  have hp : (2 : Nat) ^ g ≤ 2 ^ 62 := Nat.pow_le_pow_right (by decide) (by omega)
  have : ((2 : Int) ^ g) = ((2 ^ g : Nat) : Int) := by simp
  rw [this]
  exact wrapi_nat (by omega)
theorem shr_nat {a g : Nat} (ha : a < 2 ^ 63) : shr .i64 (a : Int) (g : Int) = ((a >>> g : Nat) : Int) := by
  unfold shr
  rw [Nat.shiftRight_eq_div_pow]
  by_cases hg : g ≤ 64
  · have : min ((g : Int).toNat) IntKind.i64.bits = g := by simp [IntKind.bits]; omega
    rw [this]
    have : ((2 : Int) ^ g) = ((2 ^ g : Nat) : Int) := by simp
    rw [this]
    omega
  · have : min ((g : Int).toNat) IntKind.i64.bits = 64 := by simp [IntKind.bits]; omega
    rw [this]
    have hp : (2 : Nat) ^ 64 ≤ 2 ^ g := Nat.pow_le_pow_right (by decide) (by omega)
    rw [Nat.div_eq_of_lt (by omega)]
    have : (a : Int) / 2 ^ 64 = 0 := by omega
    simpa using this
def opn (o g : Int) : Bool := o.toNat.testBit g.toNat
theorem bit_test {o g : Int} (ho : 0 ≤ o) (ho2 : o < 9223372036854775808) (hg : 0 ≤ g) : (Go.bits .and .i64 (shr .i64 o g) 1 == 1) = opn o g := by
  obtain ⟨a, rfl⟩ := Int.eq_ofNat_of_zero_le ho
  obtain ⟨n, rfl⟩ := Int.eq_ofNat_of_zero_le hg
  have ha : a < 2 ^ 63 := by omega
  rw [shr_nat ha]
  have h2 : a >>> n < 2 ^ 63 := Nat.lt_of_le_of_lt (by rw [Nat.shiftRight_eq_div_pow]; exact Nat.div_le_self _ _) ha
  unfold opn
  simp only [Int.toNat_natCast]
  rw [show ((1 : Int)) = ((1 : Nat) : Int) from rfl, bits_and_i h2 (by decide), Nat.testBit, Nat.and_one_is_mod, Nat.one_and_eq_mod_two]
  rcases Nat.mod_two_eq_zero_or_one (a >>> n) with h | h <;> simp [h]
theorem fold_loop {σ ρ : Type} {F : Nat → σ → Int → Option ρ} {n c : Nat} {step : σ → Nat → σ} {fin : σ → ρ} {I : σ → Nat → Prop}
    (hF : ∀ k s (i : Nat), c ≤ k → i < n → I s i → F (k + 1) s (i : Int) = F k (step s i) ((i : Int) + 1)) (hI : ∀ s i, i < n → I s i → I (step s i) (i + 1))
    (hE : ∀ k s, c ≤ k → I s n → F (k + 1) s (n : Int) = some (fin s)) :
    ∀ (d i : Nat) (k : Nat) (s : σ), i + d = n → d + c + 1 ≤ k → I s i → F k s (i : Int) = some (fin ((List.range' i d).foldl step s))
  | 0, i, k, s, hi, hk, h => by
    obtain ⟨m, rfl⟩ : ∃ m, k = m + 1 := ⟨k - 1, by omega⟩
    obtain rfl : i = n := by omega
    simpa using hE m s (by omega) h
  | d + 1, i, k, s, hi, hk, h => by
    obtain ⟨m, rfl⟩ : ∃ m, k = m + 1 := ⟨k - 1, by omega⟩
    rw [hF m s i (by omega) (by omega) h, List.range'_succ, List.foldl_cons]
    have := fold_loop (c := c) (step := step) (fin := fin) hF hI hE d (i + 1) m (step s i) (by omega) (by omega) (hI s i (by omega) h)
    rwa [Int.natCast_add] at this
theorem inv_loop {σ ρ : Type} {F : Nat → σ → Int → Option ρ} {n c : Nat} {fin : σ → ρ} {I : σ → Nat → Prop}
    (hF : ∀ k s (i : Nat), c ≤ k → i < n → I s i → ∃ s', I s' (i + 1) ∧ F (k + 1) s (i : Int) = F k s' ((i : Int) + 1))
    (hE : ∀ k s, c ≤ k → I s n → F (k + 1) s (n : Int) = some (fin s)) :
    ∀ (d i : Nat) (k : Nat) (s : σ), i + d = n → d + c + 1 ≤ k → I s i → ∃ s', I s' n ∧ F k s (i : Int) = some (fin s')
  | 0, i, k, s, hi, hk, h => by
    obtain ⟨m, rfl⟩ : ∃ m, k = m + 1 := ⟨k - 1, by omega⟩
    obtain rfl : i = n := by omega
    exact ⟨s, h, hE m s (by omega) h⟩
  | d + 1, i, k, s, hi, hk, h => by
    obtain ⟨m, rfl⟩ : ∃ m, k = m + 1 := ⟨k - 1, by omega⟩
    obtain ⟨s', h', e⟩ := hF m s i (by omega) (by omega) h
    obtain ⟨s2, h2, e2⟩ := inv_loop (c := c) (fin := fin) hF hE d (i + 1) m s' (by omega) (by omega) h'
    rw [Int.natCast_add] at e2
    exact ⟨s2, h2, e.trans e2⟩
theorem set_loop {α β : Type} (z : α) {F : Nat → List β → Int → Option (List β)} {l : List α} {g : α → β} {c : Nat}
    (hF : ∀ k acc (i : Nat), c ≤ k → i < l.length → acc.length = l.length → F (k + 1) acc (i : Int) = F k (acc.set i (g (l.getD i z))) ((i : Int) + 1)) (hE : ∀ k acc, c ≤ k → F (k + 1) acc (l.length : Int) = some acc) {k : Nat} (acc : List β) (ha : acc.length = l.length) (hk : l.length + c + 1 ≤ k) :
    F k acc 0 = some (l.map g) := by
  have key : ∀ (d i : Nat) (k : Nat) (acc : List β), i + d = l.length → d + c + 1 ≤ k → acc.length = l.length → F k acc (i : Int) = some (acc.take i ++ (l.drop i).map g) := by
    intro d
    induction d with
    | zero =>
      intro i k acc hi hk ha
      obtain ⟨m, rfl⟩ : ∃ m, k = m + 1 := ⟨k - 1, by omega⟩
      obtain rfl : i = l.length := by omega
      rw [hE m acc (by omega), List.take_of_length_le (by omega), List.drop_of_length_le (by omega)]
      simp
    | succ d ih =>
      intro i k acc hi hk ha
      obtain ⟨m, rfl⟩ : ∃ m, k = m + 1 := ⟨k - 1, by omega⟩
      have hil : i < l.length := by omega
      rw [hF m acc i (by omega) hil ha]
      have := ih (i + 1) m (acc.set i (g (l.getD i z))) (by omega) (by omega) (by simpa using ha)
      rw [Int.natCast_add] at this
      refine this.trans ?_
      congr 1
      rw [List.take_add_one, List.getElem?_set]
      simp [ha, hil, List.getD_eq_getElem?_getD, List.getElem?_eq_getElem hil]
      have e1 : List.drop i (List.map g l) = g l[i] :: List.drop (i + 1) (List.map g l) := by
        rw [List.drop_eq_getElem_cons (l := List.map g l) (i := i) (by simpa using hil)]
        simp
      rw [e1, List.take_set_of_le (Nat.le_refl _)]
  have := key l.length 0 k acc (by omega) (by omega) ha
  simpa using this
theorem all_loop {α : Type} (z : α) {F : Nat → Int → Option Bool} {l : List α} {p : α → Bool} {c : Nat} {b : Bool}
    (hF : ∀ k (i : Nat), c ≤ k → i < l.length → F (k + 1) (i : Int) = if p (l.getD i z) = true then F k ((i : Int) + 1) else some false) (hE : ∀ k, c ≤ k → F (k + 1) (l.length : Int) = some b) {k : Nat} (hk : l.length + c + 1 ≤ k) :
    F k 0 = some (l.all p && b) := by
  have key : ∀ (d i : Nat) (k : Nat), i + d = l.length → d + c + 1 ≤ k → F k (i : Int) = some ((l.drop i).all p && b) := by
    intro d
    induction d with
    | zero =>
      intro i k hi hk
      obtain ⟨m, rfl⟩ : ∃ m, k = m + 1 := ⟨k - 1, by omega⟩
      obtain rfl : i = l.length := by omega
      rw [hE m (by omega), List.drop_of_length_le (by omega)]
      simp
    | succ d ih =>
      intro i k hi hk
      obtain ⟨m, rfl⟩ : ∃ m, k = m + 1 := ⟨k - 1, by omega⟩
      have hil : i < l.length := by omega
      rw [hF m i (by omega) hil, List.drop_eq_getElem_cons hil, List.all_cons]
      have e : l.getD i z = l[i] := by rw [List.getD_eq_getElem?_getD, List.getElem?_eq_getElem hil]; rfl
      rw [e]
      have := ih (i + 1) m (by omega) (by omega)
      rw [Int.natCast_add] at this
      by_cases h : p l[i] = true
      · rw [if_pos h, h]
        simpa using this
      · rw [if_neg h]
        simp at h
        simp [h]
  have := key l.length 0 k (by omega) (by omega)
  simpa using this
theorem w64_succ {i n : Nat} (h : i < n) (hn : n ≤ 9223372036854775807) : wrap64 ((i : Int) + 1) = (i : Int) + 1 := w64 (by omega) (by omega)
end Go.Proofs.Ytimejdhglmajdaa.F
end

section
namespace Go.Proofs.Ytimejdhglmajdaa.F
open Go.RowKit Go.Proofs.YtimejdhglmajdaaW.PrintWords Go.Proofs.YtimejdhglmajdaaW.PrintLast Go.Proofs.YtimejdhglmajdaaW.PrintMore
set_option linter.unusedVariables false
set_option linter.unusedSimpArgs false
def gok (w h : Int) : Bool := decide (1 ≤ w ∧ w ≤ 4 ∧ 1 ≤ h ∧ h ≤ 4)
theorem gok_iff {w h : Int} : gok w h = true ↔ 1 ≤ w ∧ w ≤ 4 ∧ 1 ≤ h ∧ h ≤ 4 := by simp [gok]
theorem gok_wide {w h : Int} (H : gok w h = true) : w = 1 ∨ w = 2 ∨ w = 3 ∨ w = 4 := by rw [gok_iff] at H; omega
theorem gok_high {w h : Int} (H : gok w h = true) : h = 1 ∨ h = 2 ∨ h = 3 ∨ h = 4 := by rw [gok_iff] at H; omega
def cells (w h : Int) : Int := if gok w h then w * h else 0
def gaps (w h : Int) : Int := if gok w h then (w - 1) * h + w * (h - 1) else 0
theorem cells_bd (w h : Int) : 0 ≤ cells w h ∧ cells w h ≤ 16 := by
  unfold cells
  by_cases H : gok w h = true
  · rw [if_pos H]
    rcases gok_wide H with rfl | rfl | rfl | rfl <;> rcases gok_high H with rfl | rfl | rfl | rfl <;> omega
  · rw [if_neg H]; omega
theorem gaps_bd (w h : Int) : 0 ≤ gaps w h ∧ gaps w h ≤ 24 := by
  unfold gaps
  by_cases H : gok w h = true
  · rw [if_pos H]
    rcases gok_wide H with rfl | rfl | rfl | rfl <;> rcases gok_high H with rfl | rfl | rfl | rfl <;> omega
  · rw [if_neg H]; omega
theorem impl_GridOk_eq (w h : Int) : impl_GridOk.f w h = some (gok w h) := by
  unfold impl_GridOk.f gok
  by_cases h1 : w ≥ 1 <;> by_cases h2 : w ≤ 4 <;> by_cases h3 : h ≥ 1 <;> simp [*] <;> omega
theorem spec_l01In_eq (x a b : Int) : spec_l01In.f x a b = some (decide (a ≤ x ∧ x ≤ b)) := by
  unfold spec_l01In.f
  by_cases h1 : x ≥ a
  · simp [h1]
  · rw [if_neg h1]; simp; omega
theorem spec_GridOk_eq (w h : Int) : spec_GridOk.f w h = some (gok w h) := by
  unfold spec_GridOk.f
  simp only [spec_l01In_eq, Option.bind_some]
  unfold gok
  by_cases h1 : 1 ≤ w ∧ w ≤ 4
  · simp [h1]
  · rw [if_neg (by simpa using h1)]; simp; omega
theorem gok_mul {w h : Int} (H : gok w h = true) : 1 ≤ w * h ∧ w * h ≤ 16 ∧ 0 ≤ (w - 1) * h ∧ (w - 1) * h ≤ 12 ∧ 0 ≤ w * (h - 1) ∧ w * (h - 1) ≤ 12 := by
  rcases gok_wide H with rfl | rfl | rfl | rfl <;> rcases gok_high H with rfl | rfl | rfl | rfl <;> omega
theorem impl_CountCells_eq (w h : Int) : impl_CountCells.f w h = some (cells w h) := by
  unfold impl_CountCells.f cells
  rw [impl_GridOk_eq, Option.bind_some]
  by_cases H : gok w h = true
  · have := gok_mul H
    rw [if_pos H, if_pos H, w64 (by omega) (by omega)]
  · rw [if_neg H, if_neg H]
theorem spec_CountCells_eq (w h : Int) : spec_CountCells.f w h = some (cells w h) := by
  unfold spec_CountCells.f cells
  rw [spec_GridOk_eq, Option.bind_some]
  by_cases H : gok w h = true
  · have := gok_mul H
    rw [if_pos H, if_pos H, w64 (by omega) (by omega)]
  · rw [if_neg H, if_neg H]
theorem impl_CountGaps_eq (w h : Int) : impl_CountGaps.f w h = some (gaps w h) := by
  unfold impl_CountGaps.f gaps
  rw [impl_GridOk_eq, Option.bind_some]
  by_cases H : gok w h = true
  · have := gok_mul H
    have b := gok_iff.1 H
    rw [if_pos H, if_pos H, w64 (x := w - 1) (by omega) (by omega), w64 (x := h - 1) (by omega) (by omega), w64 (x := (w - 1) * h) (by omega) (by omega), w64 (x := w * (h - 1)) (by omega) (by omega), w64 (by omega) (by omega)]
  · rw [if_neg H, if_neg H]
theorem spec_CountGaps_eq (w h : Int) : spec_CountGaps.f w h = some (gaps w h) := by
  unfold spec_CountGaps.f spec_l02East.f gaps
  rw [spec_GridOk_eq, Option.bind_some]
  by_cases H : gok w h = true
  · have := gok_mul H
    have b := gok_iff.1 H
    rw [if_pos H, if_pos H, Option.bind_some, w64 (x := w - 1) (by omega) (by omega), w64 (x := h - 1) (by omega) (by omega), Int.mul_comm h (w - 1), w64 (x := (w - 1) * h) (by omega) (by omega), w64 (x := w * (h - 1)) (by omega) (by omega), w64 (by omega) (by omega)]
  · rw [if_neg H, if_neg H]
def icell (w h c : Int) : Bool := decide (0 ≤ c ∧ c < cells w h)
def igap (w h g : Int) : Bool := decide (0 ≤ g ∧ g < gaps w h)
theorem icell_iff {w h c : Int} : icell w h c = true ↔ 0 ≤ c ∧ c < cells w h := by simp [icell]
theorem igap_iff {w h c : Int} : igap w h c = true ↔ 0 ≤ c ∧ c < gaps w h := by simp [igap]
theorem impl_isCell_eq (w h c : Int) : impl_isCell.f w h c = some (icell w h c) := by
  unfold impl_isCell.f icell
  rw [impl_CountCells_eq]
  by_cases h1 : c ≥ 0
  · rw [if_pos h1]; simp [h1]
  · rw [if_neg h1]; simp; omega
theorem impl_isGap_eq (w h c : Int) : impl_isGap.f w h c = some (igap w h c) := by
  unfold impl_isGap.f igap
  rw [impl_CountGaps_eq]
  by_cases h1 : c ≥ 0
  · rw [if_pos h1]; simp [h1]
  · rw [if_neg h1]; simp; omega
theorem in_cells (w h c : Int) : decide (0 ≤ c ∧ c ≤ wrap64 (cells w h - 1)) = icell w h c := by
  have := cells_bd w h
  rw [w64 (by omega) (by omega)]
  unfold icell
  rw [Bool.eq_iff_iff]; simp; omega
theorem in_gaps (w h c : Int) : decide (0 ≤ c ∧ c ≤ wrap64 (gaps w h - 1)) = igap w h c := by
  have := gaps_bd w h
  rw [w64 (by omega) (by omega)]
  unfold igap
  rw [Bool.eq_iff_iff]; simp; omega
theorem icell_gok {w h c : Int} (H : icell w h c = true) : gok w h = true := by
  rw [icell_iff] at H
  unfold cells at H
  by_cases G : gok w h = true
  · exact G
  · rw [if_neg G] at H; omega
theorem icell_mul {w h c : Int} (H : icell w h c = true) : 0 ≤ c ∧ c < w * h := by
  have G := icell_gok H
  rw [icell_iff] at H
  unfold cells at H
  rwa [if_pos G] at H
def nb (w h c d : Int) : Int :=
  if icell w h c then
    (if d = 0 then (if c / w > 0 then c - w else -1) else if d = 1 then (if c % w < w - 1 then c + 1 else -1) else if d = 2 then (if c / w < h - 1 then c + w else -1) else if d = 3 then (if c % w > 0 then c - 1 else -1) else -1)
  else -1
theorem div_facts {w h c : Int} (G : gok w h = true) (H : 0 ≤ c ∧ c < w * h) : Int.tdiv c w = c / w ∧ Int.tmod c w = c % w ∧ wrap64 (c / w) = c / w ∧ 0 ≤ c / w ∧ c / w < h ∧ 0 ≤ c % w ∧ c % w < w ∧ w * (c / w) + c % w = c := by
  have b := gok_iff.1 G
  have e1 : Int.tdiv c w = c / w := Int.tdiv_eq_ediv_of_nonneg H.1
  have e2 : Int.tmod c w = c % w := Int.tmod_eq_emod_of_nonneg H.1
  have e3 : 0 ≤ c / w := Int.ediv_nonneg H.1 (by omega)
  have e4 : c / w < h := by
    apply Int.ediv_lt_of_lt_mul (by omega)
    rw [Int.mul_comm]; exact H.2
  exact ⟨e1, e2, w64 (by omega) (by omega), e3, e4, Int.emod_nonneg _ (by omega), Int.emod_lt_of_pos _ (by omega), Int.mul_ediv_add_emod c w⟩
theorem impl_Neighbor_eq {k : Nat} (hk : 3 ≤ k) (w h c d : Int) : impl_Neighbor.f k w h c d = some (nb w h c d) := by
  obtain ⟨m, rfl⟩ : ∃ m, k = m + 3 := ⟨k - 3, by omega⟩
  unfold impl_Neighbor.f nb
  rw [impl_isCell_eq, Option.bind_some]
  by_cases H : icell w h c = true
  · have G := icell_gok H
    have b := gok_iff.1 G
    have hc := icell_mul H
    have hm := gok_mul G
    obtain ⟨e1, e2, e3, y0, y1, x0, x1, hq⟩ := div_facts G hc
    rw [if_pos H, if_pos H, if_neg (by omega), e1, e2, e3]
    simp only [impl_Neighbor.j0, impl_Neighbor.j1, impl_Neighbor.j2]
    rw [w64 (x := w - 1) (by omega) (by omega), w64 (x := h - 1) (by omega) (by omega)]
    by_cases d0 : d = 0
    · subst d0
      by_cases t : c / w > 0 <;> simp [t, w64 (x := c - w) (by omega) (by omega)]
    by_cases d1 : d = 1
    · subst d1
      by_cases t : c % w < w - 1 <;> simp [t, w64 (x := c + 1) (by omega) (by omega)]
    by_cases d2 : d = 2
    · subst d2
      by_cases t : c / w < h - 1 <;> simp [t, w64 (x := c + w) (by omega) (by omega)]
    by_cases d3 : d = 3
    · subst d3
      by_cases t : c % w > 0 <;> simp [t, w64 (x := c - 1) (by omega) (by omega)]
    simp [d0, d1, d2, d3]
  · rw [if_neg H, if_neg H]
theorem spec_j0_eq {w h : Int} (G : gok w h = true) (m : Nat) {x y : Int} : spec_Neighbor.j0 (m + 1) x y w h = some (if 0 ≤ x ∧ x ≤ w - 1 ∧ 0 ≤ y ∧ y ≤ h - 1 then y * w + x else -1) := by
  have b := gok_iff.1 G
  simp only [spec_Neighbor.j0, spec_l01In_eq, Option.bind_some, decide_eq_true_eq]
  rw [w64 (x := w - 1) (by omega) (by omega), w64 (x := h - 1) (by omega) (by omega)]
  by_cases h1 : 0 ≤ x ∧ x ≤ w - 1
  · rw [if_pos h1]
    by_cases h2 : 0 ≤ y ∧ y ≤ h - 1
    · have l1 : y * w ≤ 3 * 4 := Int.mul_le_mul (by omega) (by omega) (by omega) (by omega)
      have l0 : 0 ≤ y * w := Int.mul_nonneg (by omega) (by omega)
      rw [if_pos h2, if_pos ⟨h1.1, h1.2, h2.1, h2.2⟩, w64 (x := y * w) (by omega) (by omega), w64 (by omega) (by omega)]
    · rw [if_neg h2, if_neg (fun h => h2 ⟨h.2.2.1, h.2.2.2⟩)]
  · rw [if_neg h1, if_neg (fun h => h1 ⟨h.1, h.2.1⟩)]
theorem spec_Neighbor_eq {k : Nat} (hk : 1 ≤ k) (w h c d : Int) : spec_Neighbor.f k w h c d = some (nb w h c d) := by
  obtain ⟨m, rfl⟩ : ∃ m, k = m + 1 := ⟨k - 1, by omega⟩
  unfold spec_Neighbor.f nb
  rw [spec_CountCells_eq, Option.bind_some, spec_l01In_eq, Option.bind_some, in_cells]
  by_cases H : icell w h c = true
  · have G := icell_gok H
    have b := gok_iff.1 G
    have hc := icell_mul H
    have hm := gok_mul G
    obtain ⟨e1, e2, e3, y0, y1, x0, x1, hq⟩ := div_facts G hc
    rw [if_pos H, if_pos H, if_neg (by omega), e1, e2, e3, w64 (x := c / w - 1) (by omega) (by omega), w64 (x := c / w + 1) (by omega) (by omega), w64 (x := c % w - 1) (by omega) (by omega), w64 (x := c % w + 1) (by omega) (by omega)]
    simp only [spec_j0_eq G]
    have p1 : (c / w - 1) * w = w * (c / w) - w := by rw [Int.sub_mul, Int.one_mul, Int.mul_comm]
    have p2 : (c / w + 1) * w = w * (c / w) + w := by rw [Int.add_mul, Int.one_mul, Int.mul_comm]
    have p3 : (c / w) * w = w * (c / w) := Int.mul_comm _ _
    rw [p1, p2, p3]
    by_cases d0 : d = 0
    · rw [if_pos d0, if_pos d0]
      by_cases t : c / w > 0
      · rw [if_pos (by omega), if_pos t]; congr 1; omega
      · rw [if_neg (by omega), if_neg t]
    rw [if_neg d0, if_neg d0]
    by_cases d1 : d = 1
    · rw [if_pos d1, if_pos d1]
      by_cases t : c % w < w - 1
      · rw [if_pos (by omega), if_pos t]; congr 1; omega
      · rw [if_neg (by omega), if_neg t]
    rw [if_neg d1, if_neg d1]
    by_cases d2 : d = 2
    · rw [if_pos d2, if_pos d2]
      by_cases t : c / w < h - 1
      · rw [if_pos (by omega), if_pos t]; congr 1; omega
      · rw [if_neg (by omega), if_neg t]
    rw [if_neg d2, if_neg d2]
    by_cases d3 : d = 3
    · rw [if_pos d3, if_pos d3]
      by_cases t : c % w > 0
      · rw [if_pos (by omega), if_pos t]; congr 1; omega
      · rw [if_neg (by omega), if_neg t]
    rw [if_neg d3, if_neg d3]
  · rw [if_neg H, if_neg H]
end Go.Proofs.Ytimejdhglmajdaa.F
end

section
namespace Go.Proofs.Ytimejdhglmajdaa.F
open Go.RowKit Go.Proofs.YtimejdhglmajdaaW.PrintWords Go.Proofs.YtimejdhglmajdaaW.PrintLast Go.Proofs.YtimejdhglmajdaaW.PrintMore
set_option linter.unusedVariables false
set_option linter.unusedSimpArgs false
theorem mn_min (a b : Int) : mn a b = min a b := by unfold mn; omega
theorem nb_facts {w h c d : Int} (H : 0 ≤ nb w h c d) : icell w h c = true ∧ icell w h (nb w h c d) = true ∧ 0 ≤ d ∧ d ≤ 3 := by
  unfold nb at H ⊢
  by_cases hc : icell w h c = true
  · have G := icell_gok hc
    have b := gok_iff.1 G
    have hm := icell_mul hc
    obtain ⟨_, _, _, y0, y1, x0, x1, hq⟩ := div_facts G hm
    rw [if_pos hc] at H ⊢
    have m1 : w * (c / w) ≤ w * (h - 1) := Int.mul_le_mul_of_nonneg_left (by omega) (by omega)
    have m2 : w * (h - 1) = w * h - w := by rw [Int.mul_sub, Int.mul_one]
    have ce : cells w h = w * h := by unfold cells; rw [if_pos G]
    refine ⟨hc, ?_, ?_⟩
    · rw [icell_iff, ce]
      by_cases d0 : d = 0
      · subst d0
        by_cases t : c / w > 0
        · have m3 : w * 1 ≤ w * (c / w) := Int.mul_le_mul_of_nonneg_left (by omega) (by omega)
          simp [t]; omega
        · simp [t] at H
      by_cases d1 : d = 1
      · subst d1
        by_cases t : c % w < w - 1
        · simp [t]; omega
        · simp [t] at H
      by_cases d2 : d = 2
      · subst d2
        by_cases t : c / w < h - 1
        · have m4 : w * (c / w + 1) ≤ w * (h - 1) := Int.mul_le_mul_of_nonneg_left (by omega) (by omega)
          rw [Int.mul_add, Int.mul_one] at m4
          simp [t]; omega
        · simp [t] at H
      by_cases d3 : d = 3
      · subst d3
        by_cases t : c % w > 0
        · simp [t]; omega
        · simp [t] at H
      simp [d0, d1, d2, d3] at H
    · by_cases d0 : d = 0
      · omega
      by_cases d1 : d = 1
      · omega
      by_cases d2 : d = 2
      · omega
      by_cases d3 : d = 3
      · omega
      simp [d0, d1, d2, d3] at H
  · rw [if_neg hc] at H; omega
def gp (w h c d : Int) : Int :=
  if nb w h c d < 0 then -1 else if d = 1 ∨ d = 3 then min c (nb w h c d) / w * (w - 1) + min c (nb w h c d) % w else (w - 1) * h + min c (nb w h c d)
theorem gp_neg {w h c d : Int} (H : nb w h c d < 0) : gp w h c d = -1 := by unfold gp; rw [if_pos H]
theorem min_facts {w h c d : Int} (H : 0 ≤ nb w h c d) : 0 ≤ min c (nb w h c d) ∧ min c (nb w h c d) < w * h ∧ gok w h = true := by
  obtain ⟨h1, h2, _, _⟩ := nb_facts H
  have a := icell_mul h1
  have b := icell_mul h2
  exact ⟨by omega, by omega, icell_gok h1⟩
theorem impl_GapAt_eq {k : Nat} (hk : 3 ≤ k) (w h c d : Int) : impl_GapAt.f k w h c d = some (gp w h c d) := by
  unfold impl_GapAt.f gp
  rw [impl_Neighbor_eq hk, Option.bind_some]
  by_cases H : nb w h c d < 0
  · rw [if_pos H, if_pos H]
  · have H' : 0 ≤ nb w h c d := by omega
    obtain ⟨m0, m1, G⟩ := min_facts H'
    have b := gok_iff.1 G
    have hm := gok_mul G
    rw [if_neg H, if_neg H, mn_min]
    obtain ⟨e1, e2, e3, y0, y1, x0, x1, hq⟩ := div_facts G ⟨m0, m1⟩
    have l1 : min c (nb w h c d) / w * (w - 1) ≤ 3 * 3 := Int.mul_le_mul (by omega) (by omega) (by omega) (by omega)
    have l0 : 0 ≤ min c (nb w h c d) / w * (w - 1) := Int.mul_nonneg y0 (by omega)
    have t1 : wrap64 (wrap64 (wrap64 (Int.tdiv (min c (nb w h c d)) w) * wrap64 (w - 1)) + Int.tmod (min c (nb w h c d)) w) = min c (nb w h c d) / w * (w - 1) + min c (nb w h c d) % w := by
      rw [e1, e2, e3, w64 (x := w - 1) (by omega) (by omega), w64 (x := _ * _) (by omega) (by omega), w64 (by omega) (by omega)]
    have t2 : wrap64 (wrap64 (wrap64 (w - 1) * h) + min c (nb w h c d)) = (w - 1) * h + min c (nb w h c d) := by
      rw [w64 (x := w - 1) (by omega) (by omega), w64 (x := (w - 1) * h) (by omega) (by omega), w64 (by omega) (by omega)]
    rw [t1, t2]
    by_cases d1 : d = 1
    · simp [d1]; omega
    · by_cases d3 : d = 3
      · simp [d3]; omega
      · simp [d1, d3]
theorem spec_GapAt_eq {k : Nat} (hk : 1 ≤ k) (w h c d : Int) : spec_GapAt.f k w h c d = some (gp w h c d) := by
  unfold spec_GapAt.f gp
  rw [spec_Neighbor_eq hk, Option.bind_some]
  by_cases H : nb w h c d < 0
  · rw [if_pos H, if_pos H]
  · have H' : 0 ≤ nb w h c d := by omega
    obtain ⟨m0, m1, G⟩ := min_facts H'
    have b := gok_iff.1 G
    have hm := gok_mul G
    rw [if_neg H, if_neg H, mn_min]
    obtain ⟨e1, e2, e3, y0, y1, x0, x1, hq⟩ := div_facts G ⟨m0, m1⟩
    have l1 : min c (nb w h c d) / w * (w - 1) ≤ 3 * 3 := Int.mul_le_mul (by omega) (by omega) (by omega) (by omega)
    have l0 : 0 ≤ min c (nb w h c d) / w * (w - 1) := Int.mul_nonneg y0 (by omega)
    have t1 : wrap64 (wrap64 (wrap64 (Int.tdiv (min c (nb w h c d)) w) * wrap64 (w - 1)) + Int.tmod (min c (nb w h c d)) w) = min c (nb w h c d) / w * (w - 1) + min c (nb w h c d) % w := by
      rw [e1, e2, e3, w64 (x := w - 1) (by omega) (by omega), w64 (x := _ * _) (by omega) (by omega), w64 (by omega) (by omega)]
    have t2 : wrap64 (wrap64 (h * wrap64 (w - 1)) + min c (nb w h c d)) = (w - 1) * h + min c (nb w h c d) := by
      rw [w64 (x := w - 1) (by omega) (by omega), Int.mul_comm h, w64 (x := (w - 1) * h) (by omega) (by omega), w64 (by omega) (by omega)]
    simp only [spec_l02East.f, Option.bind_some]
    rw [t1, t2]
    by_cases d1 : d = 1
    · simp [d1]; omega
    · by_cases d3 : d = 3
      · simp [d3]; omega
      · simp [d1, d3]
def mok (w h o : Int) : Bool := gok w h && decide (0 ≤ o ∧ o < 2 ^ (gaps w h).toNat)
theorem mok_iff {w h o : Int} : mok w h o = true ↔ gok w h = true ∧ 0 ≤ o ∧ o < 2 ^ (gaps w h).toNat := by simp [mok]
theorem gpow (w h : Int) : (2 : Int) ^ (gaps w h).toNat ≤ 16777216 ∧ (1 : Int) ≤ 2 ^ (gaps w h).toNat := by
  have b := gaps_bd w h
  have p : (2 : Nat) ^ (gaps w h).toNat ≤ 2 ^ 24 := Nat.pow_le_pow_right (by decide) (by omega)
  have q : 0 < (2 : Nat) ^ (gaps w h).toNat := Nat.two_pow_pos _
  have e : ((2 : Int) ^ (gaps w h).toNat) = ((2 ^ (gaps w h).toNat : Nat) : Int) := by simp
  omega
theorem mok_small {w h o : Int} (H : mok w h o = true) : 0 ≤ o ∧ o < 16777216 := by
  have := mok_iff.1 H
  have := gpow w h
  omega
theorem shl_gaps (w h : Int) : shl .i64 1 (gaps w h) = 2 ^ (gaps w h).toNat := by
  have b := gaps_bd w h
  have := shl_one (g := (gaps w h).toNat) (by omega)
  rw [show (((gaps w h).toNat : Nat) : Int) = gaps w h from Int.toNat_of_nonneg b.1] at this
  rw [this]
  simp
theorem impl_MazeOk_eq (w h o : Int) : impl_MazeOk.f w h o = some (mok w h o) := by
  unfold impl_MazeOk.f mok
  have b := gaps_bd w h
  rw [impl_GridOk_eq, impl_CountGaps_eq]
  simp only [Option.bind_some, shl_gaps]
  by_cases G : gok w h = true
  · simp only [G, if_true, Bool.true_and]
    by_cases h0 : o ≥ 0
    · rw [if_pos h0, if_pos b.1]
      simp; omega
    · rw [if_neg h0]; simp; omega
  · simp [G]
theorem spec_MazeOk_eq (w h o : Int) : spec_MazeOk.f w h o = some (mok w h o) := by
  unfold spec_MazeOk.f mok
  have b := gaps_bd w h
  have p := gpow w h
  rw [spec_GridOk_eq, spec_CountGaps_eq]
  simp only [Option.bind_some, shl_gaps, w64 (x := (2 : Int) ^ (gaps w h).toNat - 1) (by omega) (by omega)]
  by_cases G : gok w h = true
  · simp only [Option.bind_some, G, if_true, Bool.true_and, spec_l01In_eq, if_pos b.1]
    congr 2
    exact propext ⟨fun h => ⟨h.1, by omega⟩, fun h => ⟨h.1, by omega⟩⟩
  · simp [G]
theorem impl_isOpen_eq {w h o : Int} (h0 : 0 ≤ o) (h1 : o < 9223372036854775808) (g : Int) : impl_isOpen.f w h o g = some (decide (0 ≤ g) && opn o g) := by
  unfold impl_isOpen.f
  by_cases hg : g ≥ 0
  · rw [if_pos hg, if_pos (by omega), bit_test h0 h1 (by omega)]
    simp; omega
  · rw [if_neg hg]
    simp; omega
theorem spec_l03Bit_eq {o : Int} (h0 : 0 ≤ o) (h1 : o < 9223372036854775808) {g : Int} (hg : 0 ≤ g) : spec_l03Bit.f o g = some (opn o g) := by
  unfold spec_l03Bit.f
  rw [if_pos hg, bit_test h0 h1 hg]
def psg (w h o g : Int) : Bool := mok w h o && igap w h g && opn o g
theorem spec_IsPassage_eq (w h o g : Int) : spec_IsPassage.f w h o g = some (psg w h o g) := by
  unfold spec_IsPassage.f psg
  rw [spec_MazeOk_eq, spec_CountGaps_eq]
  by_cases M : mok w h o = true
  · have s := mok_small M
    simp only [Option.bind_some, M, if_true, Bool.true_and, spec_l01In_eq, in_gaps]
    by_cases g1 : igap w h g = true
    · rw [if_pos g1, spec_l03Bit_eq s.1 (by omega) (igap_iff.1 g1).1]
      simp [g1]
    · rw [if_neg g1]; simp [g1]
  · simp [M]
theorem gp_range {w h c d : Int} (H : 0 ≤ nb w h c d) : igap w h (gp w h c d) = true := by
  obtain ⟨h1, h2, d0, d3⟩ := nb_facts H
  have G := icell_gok h1
  have a := icell_mul h1
  rw [igap_iff]
  unfold gp gaps
  rw [if_neg (by omega), if_pos G]
  have hd : d = 0 ∨ d = 1 ∨ d = 2 ∨ d = 3 := by omega
  revert H
  unfold nb
  rw [if_pos h1]
  rcases gok_wide G with rfl | rfl | rfl | rfl <;> rcases gok_high G with rfl | rfl | rfl | rfl <;> rcases hd with rfl | rfl | rfl | rfl <;> simp <;> split <;> omega
def st (w h o c d : Int) : Int := if psg w h o (gp w h c d) then nb w h c d else -1
theorem st_nb {w h o c d : Int} (H : 0 ≤ st w h o c d) : st w h o c d = nb w h c d ∧ psg w h o (gp w h c d) = true := by
  unfold st at H ⊢
  by_cases p : psg w h o (gp w h c d) = true
  · rw [if_pos p]; exact ⟨rfl, p⟩
  · rw [if_neg p] at H; omega
theorem impl_Step_eq {k : Nat} (hk : 3 ≤ k) (w h o c d : Int) : impl_Step.f k w h o c d = some (st w h o c d) := by
  unfold impl_Step.f st psg
  rw [impl_MazeOk_eq]
  by_cases M : mok w h o = true
  · have s := mok_small M
    simp only [Option.bind_some, M, if_true, Bool.true_and, impl_GapAt_eq hk, impl_isOpen_eq s.1 (show o < 9223372036854775808 by omega), impl_Neighbor_eq hk]
    by_cases H : 0 ≤ nb w h c d
    · have r := gp_range H
      have := (igap_iff.1 r).1
      simp [r, this]
      split <;> rfl
    · rw [gp_neg (by omega)]
      simp [igap]
  · simp [M]
theorem spec_Step_eq {k : Nat} (hk : 1 ≤ k) (w h o c d : Int) : spec_Step.f k w h o c d = some (st w h o c d) := by
  unfold spec_Step.f st
  rw [spec_MazeOk_eq]
  by_cases M : mok w h o = true
  · simp only [Option.bind_some, M, if_true, spec_GapAt_eq hk, spec_IsPassage_eq, spec_Neighbor_eq hk]
    split <;> rfl
  · simp [M, psg]
theorem st_facts {w h o c d : Int} (H : 0 ≤ st w h o c d) : mok w h o = true ∧ icell w h c = true ∧ icell w h (st w h o c d) = true ∧ 0 ≤ d ∧ d ≤ 3 := by
  obtain ⟨e, p⟩ := st_nb H
  rw [e] at H ⊢
  obtain ⟨h1, h2, h3, h4⟩ := nb_facts H
  unfold psg at p
  simp at p
  exact ⟨p.1.1, h1, h2, h3, h4⟩
end Go.Proofs.Ytimejdhglmajdaa.F
end

section
namespace Go.Proofs.Ytimejdhglmajdaa.F
open Go.RowKit Go.Proofs.YtimejdhglmajdaaW.PrintWords Go.Proofs.YtimejdhglmajdaaW.PrintLast Go.Proofs.YtimejdhglmajdaaW.PrintMore
set_option linter.unusedVariables false
set_option linter.unusedSimpArgs false
def toGate (x : SlaGate) : SGate := ⟨x.f0, x.f1⟩
theorem laws_toGateS_eq {k : Nat} {l : List SlaGate} (hl : l.length ≤ 1048576) (hk : l.length + 1 ≤ k) : laws_toGateS.f k l = some (l.map toGate) := by
  unfold laws_toGateS.f
  rw [if_pos (by omega), if_pos (by omega)]
  refine set_loop (c := 0) zlaGate (F := fun k acc i => laws_toGateS.l0 k l acc i) ?_ ?_ _ (by simp) (by omega)
  · intro k acc i _ hi ha
    simp only [laws_toGateS.l0, laws_toGate.f, Option.bind_some]
    rw [if_pos (by omega), if_pos (by omega), if_pos (by omega), w64_succ hi (by omega)]
    rfl
  · intro k acc _
    simp only [laws_toGateS.l0]
    rw [if_neg (by omega)]
theorem laws_eqGateS_refl {k : Nat} {l : List SGate} (hl : l.length ≤ 9223372036854775806) (hk : l.length + 1 ≤ k) : laws_eqGateS.f k l l = some true := by
  unfold laws_eqGateS.f
  rw [if_pos rfl]
  have := all_loop (c := 0) zGate (F := fun k i => laws_eqGateS.l0 k l l i) (p := fun _ => true) (b := true)
    (fun k i _ hi => by
      simp only [laws_eqGateS.l0, laws_eqGate.f]
      rw [if_pos (by omega), if_pos (by omega), if_pos (by omega), w64_succ hi (by omega)]
      simp)
    (fun k _ => by simp only [laws_eqGateS.l0]; rw [if_neg (by omega)]) hk
  rw [this]
  congr 1
  simp only [Bool.and_true, List.all_eq_true, implies_true]
theorem sz_Gate {l : List SlaGate} {a : Int} (h0 : 0 ≤ a) (h1 : a ≤ 1048576) (hl : l.length ≤ 9223372036854775807) : laws_szGateS.f l a = some (if l.length ≤ a then a - (l.length : Int) else -1) := by
  unfold laws_szGateS.f
  rw [w64 (by omega) (by omega)]
  by_cases h : l.length ≤ a
  · rw [if_neg (by omega), if_pos h]
  · rw [if_pos (by omega), if_neg h]
theorem impl_IsPassage_eq (w h o g : Int) : impl_IsPassage.f w h o g = some (psg w h o g) := by
  unfold impl_IsPassage.f psg
  rw [impl_MazeOk_eq, Option.bind_some]
  cases hm : mok w h o with
  | false => simp
  | true =>
    have hb := mok_small hm
    rw [if_pos rfl, impl_isGap_eq, Option.bind_some]
    cases hg : igap w h g with
    | false => simp
    | true =>
      have g0 := (igap_iff.1 hg).1
      rw [if_pos rfl, impl_isOpen_eq hb.1 (by omega), decide_eq_true g0]
      simp
theorem shl_small {p : Int} (h1 : 1 ≤ p) (h6 : p ≤ 6) : 2 ≤ shl .i64 1 p ∧ shl .i64 1 p ≤ 64 := by
  have : p = 1 ∨ p = 2 ∨ p = 3 ∨ p = 4 ∨ p = 5 ∨ p = 6 := by omega
  rcases this with rfl | rfl | rfl | rfl | rfl | rfl <;> decide +kernel
def tgp (w h o p : Int) (gs : List SGate) (i : Nat) : Bool :=
  psg w h o (rd_Gate gs i).f0 && (decide (i = 0) || decide ((rd_Gate gs ((i : Int) - 1)).f0 < (rd_Gate gs i).f0)) && decide (0 ≤ (rd_Gate gs i).f1 ∧ (rd_Gate gs i).f1 < shl .i64 1 p)
def tmok (w h o p : Int) (gs : List SGate) : Bool := mok w h o && decide (1 ≤ p ∧ p ≤ 6) && decide (gs.length ≤ 8) && (List.range gs.length).all (tgp w h o p gs)
theorem range'_cut {i n : Nat} (h : i < n) : List.range' i (n - i) = i :: List.range' (i + 1) (n - (i + 1)) := by
  rw [show n - i = (n - (i + 1)) + 1 by omega, List.range'_succ]
theorem impl_timed_l0 {w h o p : Int} {gs : List SGate} (hp : 0 ≤ p) : ∀ (n i : Nat), gs.length < n + i → i ≤ gs.length → impl_TimedOk.l0 w h o p gs n i = some ((List.range' i (gs.length - i)).all (tgp w h o p gs))
  | 0, i, h1, h2 => by omega
  | n + 1, i, h1, h2 => by
    unfold impl_TimedOk.l0
    by_cases hi : i < gs.length
    · rw [if_pos hi, impl_IsPassage_eq, Option.bind_some, range'_cut hi, List.all_cons]
      have ih := impl_timed_l0 (w := w) (h := h) (o := o) (gs := gs) hp n (i + 1) (by omega) (by omega)
      unfold tgp
      by_cases c0 : psg w h o (rd_Gate gs i).f0 = true
      · rw [if_pos c0, c0, Bool.true_and]
        by_cases c1 : 0 < i ∧ (rd_Gate gs ((i : Int) - 1)).f0 ≥ (rd_Gate gs i).f0
        · rw [if_pos c1]
          have e1 : decide (i = 0) = false := decide_eq_false (by omega)
          have e2 : decide ((rd_Gate gs ((i : Int) - 1)).f0 < (rd_Gate gs i).f0) = false := decide_eq_false (by omega)
          rw [e1, e2]; rfl
        · rw [if_neg c1]
          have e1 : (decide (i = 0) || decide ((rd_Gate gs ((i : Int) - 1)).f0 < (rd_Gate gs i).f0)) = true := by
            by_cases z : i = 0
            · simp [z]
            · rw [decide_eq_true (show (rd_Gate gs ((i : Int) - 1)).f0 < (rd_Gate gs i).f0 by omega), Bool.or_true]
          rw [e1, Bool.true_and]
          by_cases c2 : (rd_Gate gs i).f1 < 0
          · rw [if_pos c2, decide_eq_false (by omega)]; rfl
          · rw [if_neg c2, if_pos hp]
            by_cases c3 : (rd_Gate gs i).f1 ≥ shl .i64 1 p
            · rw [if_pos c3, decide_eq_false (by omega)]; rfl
            · rw [if_neg c3, decide_eq_true (by omega), Bool.true_and, ih]
              rfl
      · rw [if_neg c0]; simp [c0]
    · rw [if_neg hi, show gs.length - i = 0 by omega]
      rfl
theorem impl_TimedOk_eq {k : Nat} (hk : 20 ≤ k) (w h o p : Int) (gs : List SGate) : impl_TimedOk.f k w h o p gs = some (tmok w h o p gs) := by
  unfold impl_TimedOk.f tmok
  rw [impl_MazeOk_eq, Option.bind_some]
  by_cases M : mok w h o = true
  · rw [if_pos M, M, Bool.true_and]
    by_cases c1 : p < 1
    · rw [if_pos c1, decide_eq_false (by omega)]; simp
    · rw [if_neg c1]
      by_cases c2 : p > 6
      · rw [if_pos c2, decide_eq_false (by omega)]; simp
      · rw [if_neg c2, decide_eq_true (show 1 ≤ p ∧ p ≤ 6 by omega), Bool.true_and]
        by_cases c3 : (gs.length : Int) > 8
        · rw [if_pos c3, decide_eq_false (by omega)]; simp
        · rw [if_neg c3, decide_eq_true (show gs.length ≤ 8 by omega), Bool.true_and, impl_timed_l0 (by omega) 9 0 (by omega) (by omega), List.range_eq_range']
          rfl
  · rw [if_neg M]; simp [M]
theorem spec_timed_l0 {w h o p : Int} {gs : List SGate} (hp : 1 ≤ p) (hp6 : p ≤ 6) : ∀ (n i : Nat), gs.length < n + i → i ≤ gs.length → spec_TimedOk.l0 w h o p gs n i = some ((List.range' i (gs.length - i)).all (tgp w h o p gs))
  | 0, i, h1, h2 => by omega
  | n + 1, i, h1, h2 => by
    unfold spec_TimedOk.l0
    have sh := shl_small hp hp6
    by_cases hi : i < gs.length
    · rw [if_pos hi, spec_IsPassage_eq, Option.bind_some, range'_cut hi, List.all_cons]
      have ih := spec_timed_l0 (w := w) (h := h) (o := o) (gs := gs) hp hp6 n (i + 1) (by omega) (by omega)
      unfold tgp
      by_cases c0 : psg w h o (rd_Gate gs i).f0 = true
      · rw [if_pos c0, c0, Bool.true_and]
        by_cases c1 : 0 < i ∧ (rd_Gate gs i).f0 ≤ (rd_Gate gs ((i : Int) - 1)).f0
        · rw [if_pos c1]
          have e1 : decide (i = 0) = false := decide_eq_false (by omega)
          have e2 : decide ((rd_Gate gs ((i : Int) - 1)).f0 < (rd_Gate gs i).f0) = false := decide_eq_false (by omega)
          rw [e1, e2]; rfl
        · rw [if_neg c1]
          have e1 : (decide (i = 0) || decide ((rd_Gate gs ((i : Int) - 1)).f0 < (rd_Gate gs i).f0)) = true := by
            by_cases z : i = 0
            · simp [z]
            · rw [decide_eq_true (show (rd_Gate gs ((i : Int) - 1)).f0 < (rd_Gate gs i).f0 by omega), Bool.or_true]
          rw [e1, Bool.true_and, if_pos (by omega), spec_l01In_eq, Option.bind_some, w64 (x := shl .i64 1 p - 1) (by omega) (by omega)]
          by_cases c2 : 0 ≤ (rd_Gate gs i).f1 ∧ (rd_Gate gs i).f1 ≤ shl .i64 1 p - 1
          · rw [decide_eq_true c2, decide_eq_true (show 0 ≤ (rd_Gate gs i).f1 ∧ (rd_Gate gs i).f1 < shl .i64 1 p by omega), if_pos rfl, Bool.true_and, ih]
            rfl
          · rw [decide_eq_false c2, decide_eq_false (show ¬ (0 ≤ (rd_Gate gs i).f1 ∧ (rd_Gate gs i).f1 < shl .i64 1 p) by omega), if_neg (by decide)]; rfl
      · rw [if_neg c0]; simp [c0]
    · rw [if_neg hi, show gs.length - i = 0 by omega]
      rfl
theorem spec_TimedOk_eq {k : Nat} (hk : 20 ≤ k) (w h o p : Int) (gs : List SGate) : spec_TimedOk.f k w h o p gs = some (tmok w h o p gs) := by
  unfold spec_TimedOk.f tmok
  rw [spec_MazeOk_eq, Option.bind_some]
  by_cases M : mok w h o = true
  · rw [if_pos M, M, Bool.true_and, spec_l01In_eq, Option.bind_some]
    by_cases c2 : 1 ≤ p ∧ p ≤ 6
    · rw [decide_eq_true c2, if_pos rfl, Bool.true_and]
      by_cases c3 : (gs.length : Int) > 8
      · rw [if_pos c3, decide_eq_false (by omega)]; simp
      · rw [if_neg c3, if_pos (by omega), decide_eq_true (show gs.length ≤ 8 by omega), Bool.true_and, spec_timed_l0 c2.1 c2.2 9 0 (by omega) (by omega), List.range_eq_range']
        rfl
    · rw [decide_eq_false c2, if_neg (by decide)]; simp
  · rw [if_neg M]; simp [M]
end Go.Proofs.Ytimejdhglmajdaa.F
end

section
namespace Go.Proofs.Ytimejdhglmajdaa.F
open Go.RowKit Go.Proofs.YtimejdhglmajdaaW.PrintWords Go.Proofs.YtimejdhglmajdaaW.PrintLast Go.Proofs.YtimejdhglmajdaaW.PrintMore
set_option linter.unusedVariables false
set_option linter.unusedSimpArgs false
def flip (o g : Int) : Int := ((o.toNat ^^^ 2 ^ g.toNat : Nat) : Int)
def setb (o g : Int) (b : Bool) : Int := if b then ((o.toNat ||| 2 ^ g.toNat : Nat) : Int) else ((o.toNat ^^^ (o.toNat &&& 2 ^ g.toNat) : Nat) : Int)
theorem testBit_two_pow' (g i : Nat) : (2 ^ g).testBit i = decide (g = i) := by rw [Nat.testBit_two_pow]
theorem opn_flip {o g i : Int} (hg : 0 ≤ g) (hi : 0 ≤ i) : opn (flip o g) i = if i = g then !opn o i else opn o i := by
  unfold opn flip
  rw [Int.toNat_natCast, Nat.testBit_xor, testBit_two_pow']
  by_cases h : i = g
  · subst h; simp
  · rw [if_neg h]
    have : ¬ g.toNat = i.toNat := by omega
    simp [this]
theorem opn_setb {o g i : Int} (b : Bool) (hg : 0 ≤ g) (hi : 0 ≤ i) : opn (setb o g b) i = if i = g then b else opn o i := by
  unfold opn setb
  cases b with
  | true =>
    rw [if_pos rfl, Int.toNat_natCast, Nat.testBit_or, testBit_two_pow']
    by_cases h : i = g
    · subst h; simp
    · rw [if_neg h]
      have : ¬ g.toNat = i.toNat := by omega
      simp [this]
  | false =>
    rw [if_neg Bool.false_ne_true, Int.toNat_natCast, Nat.testBit_xor, Nat.testBit_and, testBit_two_pow']
    by_cases h : i = g
    · subst h; simp
    · rw [if_neg h]
      have : ¬ g.toNat = i.toNat := by omega
      simp [this]
theorem setb_lt {o g : Int} {n : Nat} (b : Bool) (ho : 0 ≤ o) (h1 : o < 2 ^ n) (hg : 0 ≤ g) (h2 : g < n) : 0 ≤ setb o g b ∧ setb o g b < 2 ^ n := by
  unfold setb
  have e : ((2 : Int) ^ n) = ((2 ^ n : Nat) : Int) := by simp
  rw [e] at h1 ⊢
  have ha : o.toNat < 2 ^ n := by omega
  have hp : 2 ^ g.toNat < 2 ^ n := Nat.pow_lt_pow_right (by decide) (by omega)
  have := Nat.or_lt_two_pow ha hp
  have := Nat.xor_lt_two_pow (n := n) (x := o.toNat) (y := o.toNat &&& 2 ^ g.toNat) ha (Nat.lt_of_le_of_lt Nat.and_le_left ha)
  split <;> omega
theorem eq_of_opn {a b : Int} (ha : 0 ≤ a) (hb : 0 ≤ b) (h : ∀ i : Int, 0 ≤ i → opn a i = opn b i) : a = b := by
  have : a.toNat = b.toNat := Nat.eq_of_testBit_eq fun i => by
    have := h (i : Int) (by omega)
    simpa [opn] using this
  omega
theorem setb_flip {o g : Int} (ho : 0 ≤ o) (hg : 0 ≤ g) : setb o g (!opn o g) = flip o g := by
  refine eq_of_opn (by unfold setb; split <;> omega) (by unfold flip; omega) fun i hi => ?_
  rw [opn_setb _ hg hi, opn_flip hg hi]
  by_cases h : i = g
  · subst h; simp
  · simp [h]
theorem impl_with_eq {o g : Int} (w h : Int) (b : Bool) (ho : 0 ≤ o) (h1 : o < 2 ^ 62) (hg : 0 ≤ g) (h2 : g < 62) : impl_with.f w h o g b = some (w, h, setb o g b) := by
  unfold impl_with.f
  obtain ⟨a, rfl⟩ := Int.eq_ofNat_of_zero_le ho
  obtain ⟨n, rfl⟩ := Int.eq_ofNat_of_zero_le hg
  have ha : a < 2 ^ 62 := by omega
  have hp : (2 : Nat) ^ n < 2 ^ 62 := Nat.pow_lt_pow_right (by decide) (by omega)
  have ha' : a < 2 ^ 63 := by omega
  have hp' : (2 : Nat) ^ n < 2 ^ 63 := by omega
  rw [if_pos (by omega)]

  rw [shl_one (by omega), bits_andNot_i ha' hp', bits_or_i (Nat.xor_lt_two_pow ha' (Nat.lt_of_le_of_lt Nat.and_le_left ha')) hp']
  unfold setb
  simp only [Int.toNat_natCast]
  cases b with
  | true =>
    rw [if_pos rfl, if_pos rfl]
    congr 3
    have : (a ^^^ a &&& 2 ^ n) ||| 2 ^ n = a ||| 2 ^ n := by
      apply Nat.eq_of_testBit_eq
      intro i
      simp only [Nat.testBit_or, Nat.testBit_xor, Nat.testBit_and]
      cases a.testBit i <;> cases (2 ^ n).testBit i <;> rfl
    rw [this]
  | false =>
    rw [if_neg Bool.false_ne_true, if_neg Bool.false_ne_true]
theorem xor_shl_eq {o g : Int} (ho : 0 ≤ o) (h1 : o < 2 ^ 62) (hg : 0 ≤ g) (h2 : g < 62) : Go.bits .xor .i64 o (shl .i64 1 g) = flip o g := by
  obtain ⟨a, rfl⟩ := Int.eq_ofNat_of_zero_le ho
  obtain ⟨n, rfl⟩ := Int.eq_ofNat_of_zero_le hg
  have hp : (2 : Nat) ^ n < 2 ^ 62 := Nat.pow_lt_pow_right (by decide) (by omega)

  rw [shl_one (by omega), bits_xor_i (by omega) (by omega)]
  rfl
theorem mok_setb {w h o g : Int} (b : Bool) (M : mok w h o = true) (hg : igap w h g = true) : mok w h (setb o g b) = true := by
  rw [mok_iff] at M ⊢
  have a := igap_iff.1 hg
  have := setb_lt (n := (gaps w h).toNat) b M.2.1 M.2.2 a.1 (by omega)
  exact ⟨M.1, this.1, this.2⟩
end Go.Proofs.Ytimejdhglmajdaa.F
end

section
namespace Go.Proofs.Ytimejdhglmajdaa.F
open Go.RowKit Go.Proofs.YtimejdhglmajdaaW.PrintWords Go.Proofs.YtimejdhglmajdaaW.PrintLast Go.Proofs.YtimejdhglmajdaaW.PrintMore
set_option linter.unusedVariables false
set_option linter.unusedSimpArgs false
theorem impl_isIn_eq (w h o : Int) (l : List Int) : impl_isIn.f w h o l = some (mok w h o && l.all (icell w h)) := by
  unfold impl_isIn.f
  rw [impl_MazeOk_eq, Option.bind_some, allO_of (p := icell w h) (fun x _ => impl_isCell_eq w h x)]
  cases mok w h o <;> simp
theorem spec_l04Has_eq (w h o c : Int) : spec_l04Has.f w h o c = some (mok w h o && icell w h c) := by
  unfold spec_l04Has.f
  rw [spec_MazeOk_eq, spec_CountCells_eq]
  simp only [Option.bind_some, spec_l01In_eq, in_cells]
  cases mok w h o <;> simp
end Go.Proofs.Ytimejdhglmajdaa.F
end

section
namespace Go.Proofs.Ytimejdhglmajdaa.F
open Go.RowKit Go.Proofs.YtimejdhglmajdaaW.PrintWords Go.Proofs.YtimejdhglmajdaaW.PrintLast Go.Proofs.YtimejdhglmajdaaW.PrintMore
set_option linter.unusedVariables false
set_option linter.unusedSimpArgs false
def stN (w h : Int) : Nat := (cells w h).toNat
def ways (w h o c : Int) : List Int := ([0, 1, 2, 3] : List Int).filter fun d => decide (0 ≤ st w h o c d)
theorem ways_length (w h o c : Int) : (ways w h o c).length ≤ 4 := List.length_filter_le _ _
theorem impl_WaysFrom_eq {k : Nat} (hk : 8 ≤ k) (w h o c : Int) : impl_WaysFrom.f k w h o c = some (ways w h o c) := by
  unfold impl_WaysFrom.f
  have := fold_loop (n := 4) (c := 3) (F := fun k (acc : List Int) i => impl_WaysFrom.l0 k c acc i w h o) (step := fun acc i => if 0 ≤ st w h o c (i : Int) then acc ++ [(i : Int)] else acc) (fin := fun acc : List Int => acc) (I := fun acc i => acc.length ≤ i)
    (fun k acc i hk hi ha => by
      simp only [impl_WaysFrom.l0]
      rw [if_pos (by omega), impl_Step_eq (by omega), Option.bind_some, w64 (x := (i : Int) + 1) (by omega) (by omega)]
      by_cases hd : 0 ≤ st w h o c (i : Int)
      · rw [if_pos hd, if_pos hd, if_pos (by omega)]
      · rw [if_neg hd, if_neg hd])
    (fun acc i _ ha => by
      show (if _ then _ else _ : List Int).length ≤ i + 1
      split
      · simp only [List.length_append, List.length_singleton]; omega
      · omega)
    (fun k acc _ _ => by
      simp only [impl_WaysFrom.l0]
      rw [if_neg (by decide)]) 4 0 k [] (by decide) (by omega) (Nat.le_refl _)
  refine this.trans ?_
  congr 1
  unfold ways
  simp only [List.range'_succ, List.range'_zero, List.foldl_cons, List.foldl_nil, List.filter_cons, List.filter_nil, Nat.zero_add, Int.natCast_add, decide_eq_true_eq]
  show (if 0 ≤ st w h o c (3 : Int) then _ else _) = _
  by_cases h0 : 0 ≤ st w h o c 0 <;> by_cases h1 : 0 ≤ st w h o c 1 <;> by_cases h2 : 0 ≤ st w h o c 2 <;> by_cases h3 : 0 ≤ st w h o c 3 <;> simp [h0, h1, h2, h3]
theorem ways_mem {w h o c d : Int} (H : d ∈ ways w h o c) : 0 ≤ st w h o c d := by
  unfold ways at H
  exact of_decide_eq_true (List.mem_filter.1 H).2
end Go.Proofs.Ytimejdhglmajdaa.F
end

section
namespace Go.Proofs.Ytimejdhglmajdaa.F
open Go.RowKit Go.Proofs.YtimejdhglmajdaaW.PrintWords Go.Proofs.YtimejdhglmajdaaW.PrintLast Go.Proofs.YtimejdhglmajdaaW.PrintMore
set_option linter.unusedVariables false
set_option linter.unusedSimpArgs false
theorem laws_eqIntS_refl {k : Nat} {l : List Int} (hl : l.length ≤ 9223372036854775806) (hk : l.length + 1 ≤ k) : laws_eqIntS.f k l l = some true := by
  unfold laws_eqIntS.f
  rw [if_pos rfl]
  have := all_loop (c := 0) (0 : Int) (F := fun k i => laws_eqIntS.l0 k l l i) (p := fun _ => true) (b := true)
    (fun k i _ hi => by
      simp only [laws_eqIntS.l0]
      rw [if_pos (by omega), if_pos (by omega), if_pos (by omega), w64_succ hi (by omega)]
      all_goals simp)
    (fun k _ => by simp only [laws_eqIntS.l0]; rw [if_neg (by omega)]) hk
  rw [this]
  congr 1
  simp only [Bool.and_true, List.all_eq_true, implies_true]
theorem mark_held {k : Nat} {l : List Int} {a : Int} (h0 : 0 ≤ a) (h1 : a ≤ 1000000000) (hl : l.length ≤ 1000000000) (hk : l.length + 1 ≤ k) :
    ∃ l', laws_markIntS.f k l a = some (a + l.length, l') ∧ l'.length = l.length ∧ ∀ k', l.length + 1 ≤ k' → laws_heldIntS.f k' l' a = some (a + l.length) := by
  obtain ⟨s, ⟨e1, e2, e3⟩, e4⟩ := inv_loop (n := l.length) (c := 0) (F := fun k (s : List Int × Int) i => laws_markIntS.l0 k s.1 s.2 i) (fin := fun s => (s.2, s.1))
    (I := fun s i => s.1.length = l.length ∧ s.2 = a + i ∧ ∀ j : Nat, j < i → rd s.1 (j : Int) = a + j)
    (fun k s i _ hi ⟨i1, i2, i3⟩ => ⟨(s.1.set i s.2, s.2 + 1), ⟨by simpa using i1, by simp only; omega, fun j hj => by
        rw [rd_nat, List.getD_eq_getElem?_getD, List.getElem?_set]
        by_cases e : i = j
        · subst e
          rw [if_pos rfl, if_pos (by omega)]
          simpa using i2
        · rw [if_neg e]
          have := i3 j (by omega)
          rwa [rd_nat, List.getD_eq_getElem?_getD] at this⟩, by
        simp only [laws_markIntS.l0]
        rw [if_pos (by omega), if_pos (by omega), w64_succ hi (by omega), w64 (by omega) (by omega)]
        rfl⟩)
    (fun k s _ h => by
      simp only [laws_markIntS.l0]
      rw [if_neg (by omega)]) l.length 0 k (l, a) (by omega) (by omega) ⟨rfl, by simp, fun j hj => by omega⟩
  refine ⟨s.1, ?_, e1, fun k' hk' => ?_⟩
  · rw [← e2]
    exact e4
  · obtain ⟨s', e5, e6⟩ := inv_loop (n := l.length) (c := 0) (F := fun k (x : Int) i => laws_heldIntS.l0 k s.1 x i) (fin := fun x => x) (I := fun x i => x = a + i)
      (fun k x i _ hi hx => ⟨x + 1, by omega, by
        simp only [laws_heldIntS.l0]
        rw [if_pos (by omega), if_pos (by omega), if_pos (by rw [e3 i hi, hx]), w64_succ hi (by omega), w64 (by omega) (by omega)]⟩)
      (fun k x _ _ => by
        simp only [laws_heldIntS.l0]
        rw [if_neg (by omega)]) l.length 0 k' a (by omega) (by omega) (by simp)
    rw [e5] at e6
    exact e6
end Go.Proofs.Ytimejdhglmajdaa.F
end

section
namespace Go.Proofs.Ytimejdhglmajdaa.F
open Go.RowKit Go.Proofs.YtimejdhglmajdaaW.PrintWords Go.Proofs.YtimejdhglmajdaaW.PrintLast Go.Proofs.YtimejdhglmajdaaW.PrintMore
set_option linter.unusedVariables false
set_option linter.unusedSimpArgs false
theorem gaps_small {w h g : Int} (hg : igap w h g = true) : 0 ≤ g ∧ g < 24 := by
  have := igap_iff.1 hg
  have := gaps_bd w h
  omega
end Go.Proofs.Ytimejdhglmajdaa.F
end

section
namespace Go.Proofs.Ytimejdhglmajdaa.F
open Go.RowKit Go.Proofs.YtimejdhglmajdaaW.PrintWords Go.Proofs.YtimejdhglmajdaaW.PrintLast Go.Proofs.YtimejdhglmajdaaW.PrintMore
set_option linter.unusedVariables false
set_option linter.unusedSimpArgs false
theorem bit_zero {o g : Int} (ho : 0 ≤ o) (ho2 : o < 9223372036854775808) (hg : 0 ≤ g) : Go.bits .and .i64 (shr .i64 o g) 1 = 0 ↔ ¬ opn o g = true := by
  obtain ⟨a, rfl⟩ := Int.eq_ofNat_of_zero_le ho
  obtain ⟨n, rfl⟩ := Int.eq_ofNat_of_zero_le hg
  have ha : a < 2 ^ 63 := by omega
  rw [shr_nat ha]
  have h1 : a >>> n < 2 ^ 63 := by rw [Nat.shiftRight_eq_div_pow]; exact Nat.lt_of_le_of_lt (Nat.div_le_self _ _) ha
  have := bits_and_i (a := a >>> n) (b := 1) h1 (by decide)
  rw [show ((1 : Nat) : Int) = 1 from rfl] at this
  rw [this]
  unfold opn
  simp only [Int.toNat_natCast, Nat.testBit, bne_iff_ne, ne_eq, Decidable.not_not]
  rw [Nat.and_comm]
  omega
def otAt (q : Int) (gs : List SGate) (o : Int) : Int := gs.foldl (fun o g => if opn g.f1 q = true then o else setb o g.f0 false) o
def gsok (w h : Int) (gs : List SGate) : Prop := ∀ g ∈ gs, igap w h g.f0 = true ∧ 0 ≤ g.f1 ∧ g.f1 < 64
theorem tmok_iff {w h o p : Int} {gs : List SGate} (H : tmok w h o p gs = true) : mok w h o = true ∧ 1 ≤ p ∧ p ≤ 6 ∧ gs.length ≤ 8 ∧ gsok w h gs := by
  unfold tmok at H
  simp only [Bool.and_eq_true, decide_eq_true_eq, List.all_eq_true] at H
  obtain ⟨⟨⟨M, p1, p6⟩, l8⟩, hall⟩ := H
  refine ⟨M, p1, p6, l8, fun g hg => ?_⟩
  obtain ⟨i, hi, rfl⟩ := List.getElem_of_mem hg
  have := hall i (by rw [List.mem_range]; exact hi)
  have e : rd_Gate gs (i : Int) = gs[i] := by show gs.getD i zGate = _; rw [List.getD_eq_getElem?_getD, List.getElem?_eq_getElem hi]; rfl
  unfold tgp at this
  rw [e] at this
  simp only [Bool.and_eq_true, decide_eq_true_eq] at this
  obtain ⟨⟨a, _⟩, b, c⟩ := this
  have s := shl_small p1 p6
  unfold psg at a
  simp only [Bool.and_eq_true] at a
  exact ⟨a.1.2, b, by omega⟩
theorem setb_false {o g : Int} (ho : 0 ≤ o) (hg : 0 ≤ g) (H : opn o g = false) : setb o g false = o := by
  refine eq_of_opn (by unfold setb; rw [if_neg (by decide)]; omega) ho fun i hi => ?_
  rw [opn_setb _ hg hi]
  by_cases e : i = g
  · rw [if_pos e, e, H]
  · rw [if_neg e]
theorem spec_SetGap_false {w h o g : Int} (M : mok w h o = true) (hg : igap w h g = true) {k : Nat} (hk : 1 ≤ k) : ∃ b, spec_SetGap.f k w h o g false = some (w, h, setb o g false, b) := by
  obtain ⟨m, rfl⟩ : ∃ m, k = m + 1 := ⟨k - 1, by omega⟩
  have s := mok_small M
  have gb := gaps_small hg
  unfold spec_SetGap.f
  rw [spec_MazeOk_eq, Option.bind_some, if_pos M, spec_CountGaps_eq, Option.bind_some, spec_l01In_eq, Option.bind_some]
  have e : decide (0 ≤ g ∧ g ≤ wrap64 (gaps w h - 1)) = true := by
    have a := igap_iff.1 hg
    have b := gaps_bd w h
    rw [w64 (by omega) (by omega)]
    simp; omega
  rw [e]
  simp only [spec_SetGap.j0, Bool.not_true, Bool.false_eq_true, if_false]
  rw [spec_l03Bit_eq s.1 (by omega) gb.1, Option.bind_some]
  cases ob : opn o g with
  | true =>
    rw [if_pos (by decide), if_pos gb.1, xor_shl_eq s.1 (by omega) gb.1 (by omega)]
    refine ⟨true, ?_⟩
    rw [← setb_flip s.1 gb.1, ob]
    rfl
  | false =>
    rw [if_neg (by decide), setb_false s.1 gb.1 ob]
    exact ⟨true, rfl⟩
theorem tmod_nat {m p : Int} (h0 : 0 ≤ m) (h1 : 1 ≤ p) : Int.tmod m p = ((m.toNat % p.toNat : Nat) : Int) := by
  obtain ⟨a, rfl⟩ := Int.eq_ofNat_of_zero_le h0
  obtain ⟨b, rfl⟩ := Int.eq_ofNat_of_zero_le (show 0 ≤ p by omega)
  simp only [Int.toNat_natCast]
  rfl
theorem spec_l29Maze_eq {w h o p m : Int} {gs : List SGate} (T : tmok w h o p gs = true) (h0 : 0 ≤ m) {k : Nat} (hk : 20 ≤ k) : spec_l29Maze.f k w h o p gs m = some (w, h, otAt ((m.toNat % p.toNat : Nat) : Int) gs o) := by
  obtain ⟨M, p1, p6, l8, G⟩ := tmok_iff T
  unfold spec_l29Maze.f
  have key : ∀ (d i k : Nat) (q : Int), i + d = gs.length → d + 3 ≤ k → mok w h q = true → spec_l29Maze.l0 k m (i : Int) w h o p gs w h q = some (w, h, otAt ((m.toNat % p.toNat : Nat) : Int) (gs.drop i) q) := by
    intro d
    induction d with
    | zero =>
      intro i k q hi hk Mq
      obtain ⟨n, rfl⟩ : ∃ n, k = n + 1 := ⟨k - 1, by omega⟩
      simp only [spec_l29Maze.l0]
      rw [if_neg (by omega), List.drop_of_length_le (by omega)]
      rfl
    | succ d ih =>
      intro i k q hi hk Mq
      obtain ⟨n, rfl⟩ : ∃ n, k = n + 1 := ⟨k - 1, by omega⟩
      have hil : i < gs.length := by omega
      have e : rd_Gate gs (i : Int) = gs[i] := by show gs.getD i zGate = _; rw [List.getD_eq_getElem?_getD, List.getElem?_eq_getElem hil]; rfl
      obtain ⟨g1, g2, g3⟩ := G gs[i] (List.getElem_mem hil)
      simp only [spec_l29Maze.l0]
      rw [if_pos (by omega), if_pos (by omega), if_neg (by omega), e, tmod_nat h0 p1, spec_l03Bit_eq g2 (by omega) (by omega), Option.bind_some, w64_succ hil (by omega), List.drop_eq_getElem_cons hil]
      unfold otAt
      rw [List.foldl_cons]
      by_cases b : opn gs[i].f1 ((m.toNat % p.toNat : Nat) : Int) = true
      · rw [if_pos b, if_pos b]
        have := ih (i + 1) n q (by omega) (by omega) Mq
        rw [Int.natCast_add] at this
        exact this
      · obtain ⟨b', eb⟩ := spec_SetGap_false Mq g1 (k := n) (by omega)
        rw [if_neg b, if_neg b, eb, Option.bind_some]
        have := ih (i + 1) n (setb q gs[i].f0 false) (by omega) (by omega) (mok_setb _ Mq g1)
        rw [Int.natCast_add] at this
        exact this
  have := key gs.length 0 k o (by omega) (by omega) M
  simpa using this
theorem impl_MazeAtTime_eq {w h o p m : Int} {gs : List SGate} (T : tmok w h o p gs = true) (h0 : 0 ≤ m) (h1 : m ≤ 1000) {k : Nat} (hk : 30 ≤ k) : impl_MazeAtTime.f k w h o p gs m = some (w, h, otAt ((m.toNat % p.toNat : Nat) : Int) gs o, true) := by
  obtain ⟨M, p1, p6, l8, G⟩ := tmok_iff T
  obtain ⟨k', rfl⟩ : ∃ k', k = k' + 1 := ⟨k - 1, by omega⟩
  unfold impl_MazeAtTime.f
  rw [impl_TimedOk_eq (by omega), Option.bind_some, if_pos T, if_neg (by omega)]
  simp only [impl_MazeAtTime.j0]
  rw [if_neg (by simp; omega)]
  have key : ∀ (d i k : Nat) (q : Int), i + d = gs.length → d + 3 ≤ k → mok w h q = true → impl_MazeAtTime.l0 k m gs (gs.length : Int) (i : Int) w h o p gs w h q = some (w, h, otAt ((m.toNat % p.toNat : Nat) : Int) (gs.drop i) q, true) := by
    intro d
    induction d with
    | zero =>
      intro i k q hi hk Mq
      obtain ⟨n, rfl⟩ : ∃ n, k = n + 1 := ⟨k - 1, by omega⟩
      simp only [impl_MazeAtTime.l0]
      rw [if_neg (by omega), List.drop_of_length_le (by omega)]
      rfl
    | succ d ih =>
      intro i k q hi hk Mq
      obtain ⟨n, rfl⟩ : ∃ n, k = n + 1 := ⟨k - 1, by omega⟩
      have hil : i < gs.length := by omega
      have e : rd_Gate gs (i : Int) = gs[i] := by show gs.getD i zGate = _; rw [List.getD_eq_getElem?_getD, List.getElem?_eq_getElem hil]; rfl
      obtain ⟨g1, g2, g3⟩ := G gs[i] (List.getElem_mem hil)
      have gb := gaps_small g1
      have sq := mok_small Mq
      simp only [impl_MazeAtTime.l0]
      rw [if_pos (by omega), if_pos (by omega), if_pos (by omega), if_neg (by omega), e, tmod_nat h0 p1, if_pos (by omega), w64_succ hil (by omega), List.drop_eq_getElem_cons hil]
      unfold otAt
      rw [List.foldl_cons]
      by_cases b : opn gs[i].f1 ((m.toNat % p.toNat : Nat) : Int) = true
      · rw [if_neg (fun z => (bit_zero g2 (by omega) (by omega)).1 z b), if_pos b]
        have := ih (i + 1) n q (by omega) (by omega) Mq
        rw [Int.natCast_add] at this
        exact this
      · rw [if_pos ((bit_zero g2 (by omega) (by omega)).2 b), if_neg b, impl_with_eq w h false sq.1 (by omega) gb.1 (by omega), Option.bind_some]
        have := ih (i + 1) n (setb q gs[i].f0 false) (by omega) (by omega) (mok_setb _ Mq g1)
        rw [Int.natCast_add] at this
        exact this
  have := key gs.length 0 k' o (by omega) (by omega) M
  simpa using this
theorem or_shl_eq {o g : Int} (ho : 0 ≤ o) (h1 : o < 2 ^ 62) (hg : 0 ≤ g) (h2 : g < 62) : Go.bits .or .i64 o (shl .i64 1 g) = setb o g true := by
  obtain ⟨a, rfl⟩ := Int.eq_ofNat_of_zero_le ho
  obtain ⟨n, rfl⟩ := Int.eq_ofNat_of_zero_le hg
  have hp : (2 : Nat) ^ n < 2 ^ 62 := Nat.pow_lt_pow_right (by decide) (by omega)
  rw [shl_one (by omega), bits_or_i (by omega) (by omega)]
  unfold setb
  rw [if_pos rfl]
  simp only [Int.toNat_natCast]
def nx1 (w h o : Int) (i : Nat) (out : Int) (d : Nat) : Int := if 0 ≤ st w h o i d then setb out (st w h o i d) true else out
def nxc (w h o set : Int) (out : Int) (i : Nat) : Int := if opn set i = true then (List.range' 0 4).foldl (nx1 w h o i) out else out
def nxt (w h o set : Int) : Int := (List.range' 0 (stN w h)).foldl (nxc w h o set) set
def b16 (x : Int) : Prop := 0 ≤ x ∧ x < 2 ^ 16
theorem nx1_b16 {w h o : Int} {i d : Nat} {out : Int} (B : b16 out) : b16 (nx1 w h o i out d) := by
  unfold nx1
  split
  · rename_i H
    obtain ⟨_, _, f3, _, _⟩ := st_facts H
    have a := icell_iff.1 f3
    have b := cells_bd w h
    exact setb_lt (n := 16) true B.1 B.2 a.1 (by omega)
  · exact B
theorem foldl_keep {α σ : Type} {f : σ → α → σ} {I : σ → Prop} (H : ∀ s a, I s → I (f s a)) : ∀ (l : List α) (s : σ), I s → I (l.foldl f s)
  | [], s, h => h
  | a :: l, s, h => by rw [List.foldl_cons]; exact foldl_keep H l _ (H s a h)
theorem nxc_b16 {w h o set : Int} {i : Nat} {out : Int} (B : b16 out) : b16 (nxc w h o set out i) := by
  unfold nxc
  split
  · exact foldl_keep (fun s a hs => nx1_b16 hs) _ _ B
  · exact B
theorem nxt_b16 {w h o set : Int} (B : b16 set) : b16 (nxt w h o set) := foldl_keep (fun s a hs => nxc_b16 hs) _ _ B
theorem opn_foldl {α : Type} {f : Int → α → Int} {P : α → Bool} {y : Int} (H : ∀ s a, opn (f s a) y = (opn s y || P a)) : ∀ (l : List α) (s : Int), opn (l.foldl f s) y = (opn s y || l.any P)
  | [], s => by simp
  | a :: l, s => by rw [List.foldl_cons, opn_foldl H l, H, List.any_cons, Bool.or_assoc]
theorem opn_nx1 {w h o : Int} {i d : Nat} {out y : Int} (hy : 0 ≤ y) : opn (nx1 w h o i out d) y = (opn out y || decide (0 ≤ st w h o i d ∧ st w h o i d = y)) := by
  unfold nx1
  by_cases H : 0 ≤ st w h o i d
  · rw [if_pos H, opn_setb _ H hy]
    by_cases e : y = st w h o i d
    · rw [if_pos e]; simp [H, ← e, hy]
    · rw [if_neg e]
      have : ¬ st w h o i d = y := fun q => e q.symm
      simp [this]
  · rw [if_neg H]; simp [H]
theorem opn_nxt {w h o set y : Int} (hy : 0 ≤ y) : opn (nxt w h o set) y = (opn set y || (List.range' 0 (stN w h)).any fun i => opn set i && (List.range' 0 4).any fun d => decide (0 ≤ st w h o i d ∧ st w h o i d = y)) := by
  unfold nxt
  refine opn_foldl (P := fun i : Nat => opn set i && (List.range' 0 4).any fun d => decide (0 ≤ st w h o i d ∧ st w h o i d = y)) (fun s i => ?_) _ _
  unfold nxc
  by_cases b : opn set (i : Int) = true
  · rw [if_pos b, b, Bool.true_and]
    exact opn_foldl (P := fun d : Nat => decide (0 ≤ st w h o i d ∧ st w h o i d = y)) (fun s d => opn_nx1 hy) _ _
  · rw [if_neg b]; simp [b]
theorem spec_nx_inner {w h o set : Int} {i : Nat} (hs : b16 set) (hi : i < 16) (hb : opn set (i : Int) = true) : ∀ (r d K : Nat) (out : Int), d + r = 4 → 5 ≤ K → b16 out → spec_l29Next.l1 (K + 2 * r + 2) set out (i : Int) (d : Int) w h o = spec_l29Next.l0 K set ((List.range' d r).foldl (nx1 w h o i) out) ((i : Int) + 1) w h o
  | 0, d, K, out, hd, hK, B => by
    obtain rfl : d = 4 := by omega
    rw [show K + 2 * 0 + 2 = (K + 1) + 1 by omega]
    conv => lhs; unfold spec_l29Next.l1
    rw [if_neg (by omega)]
    conv => lhs; unfold spec_l29Next.j2
    rw [if_neg (by decide), w64 (x := (i : Int) + 1) (by omega) (by omega)]
    rfl
  | r + 1, d, K, out, hd, hK, B => by
    rw [show K + 2 * (r + 1) + 2 = (K + 2 * r + 2 + 1) + 1 by omega]
    conv => lhs; unfold spec_l29Next.l1
    have hs2 : set < 65536 := by have := hs.2; simpa using this
    rw [if_pos (by omega), spec_l03Bit_eq hs.1 (by omega) (by omega), Option.bind_some]
    conv => lhs; unfold spec_l29Next.j2
    rw [if_pos hb, spec_Step_eq (by omega), Option.bind_some, w64 (x := (d : Int) + 1) (by omega) (by omega), List.range'_succ, List.foldl_cons]
    have B' := nx1_b16 (w := w) (h := h) (o := o) (i := i) (d := d) B
    have e : nx1 w h o i out d = if 0 ≤ st w h o i d then setb out (st w h o i d) true else out := rfl
    have ih := spec_nx_inner (w := w) (h := h) (o := o) hs hi hb r (d + 1) K (nx1 w h o i out d) (by omega) hK B'
    rw [Int.natCast_add] at ih
    by_cases H : 0 ≤ st w h o i d
    · obtain ⟨_, _, f3, _, _⟩ := st_facts H
      have a := icell_iff.1 f3
      have b := cells_bd w h
      have B2 : out < 65536 := by have := B.2; simpa using this
      rw [if_pos (by omega), if_pos H, or_shl_eq B.1 (by omega) H (by omega)]
      rw [e, if_pos H] at ih ⊢
      exact ih
    · rw [if_neg (by omega)]
      rw [e, if_neg H] at ih ⊢
      exact ih
theorem spec_l29Next_eq {w h o set : Int} (hs : b16 set) {k : Nat} (hk : 220 ≤ k) : spec_l29Next.f k w h o set = some (nxt w h o set) := by
  unfold spec_l29Next.f
  have hN := (show ((stN w h : Nat) : Int) = cells w h by have := cells_bd w h; unfold stN; omega)
  have hL := (show stN w h ≤ 16 by have := cells_bd w h; unfold stN; omega)
  have hs2 : set < 65536 := by have := hs.2; simpa using this
  have key : ∀ (r i k : Nat) (out : Int), i + r = stN w h → 11 * r + 20 ≤ k → b16 out → spec_l29Next.l0 k set out (i : Int) w h o = some ((List.range' i r).foldl (nxc w h o set) out) := by
    intro r
    induction r with
    | zero =>
      intro i k out hi hk B
      obtain ⟨n, rfl⟩ : ∃ n, k = n + 1 := ⟨k - 1, by omega⟩
      conv => lhs; unfold spec_l29Next.l0
      rw [spec_CountCells_eq, Option.bind_some, if_neg (by omega)]
      rfl
    | succ r ih =>
      intro i k out hi hk B
      rw [List.range'_succ, List.foldl_cons]
      by_cases hb : opn set (i : Int) = true
      · obtain ⟨K, rfl⟩ : ∃ K, k = K + 11 := ⟨k - 11, by omega⟩
        rw [show K + 11 = (K + 2 * 4 + 2) + 1 by omega]
        conv => lhs; unfold spec_l29Next.l0
        rw [spec_CountCells_eq, Option.bind_some, if_pos (by omega)]
        have h1 := spec_nx_inner (w := w) (h := h) (o := o) (i := i) hs (by omega) hb 4 0 K out (by omega) (by omega) B
        have h2 := ih (i + 1) K (nxc w h o set out i) (by omega) (by omega) (nxc_b16 B)
        rw [Int.natCast_add] at h2
        have e : nxc w h o set out i = (List.range' 0 4).foldl (nx1 w h o i) out := by unfold nxc; rw [if_pos hb]
        rw [e] at h2 ⊢
        exact h1.trans h2
      · obtain ⟨K, rfl⟩ : ∃ K, k = K + 1 + 1 + 1 := ⟨k - 3, by omega⟩
        conv => lhs; unfold spec_l29Next.l0
        rw [spec_CountCells_eq, Option.bind_some, if_pos (by omega)]
        conv => lhs; unfold spec_l29Next.l1
        rw [if_pos (by decide), spec_l03Bit_eq hs.1 (by omega) (by omega), Option.bind_some]
        conv => lhs; unfold spec_l29Next.j2
        rw [if_neg hb, w64 (x := (i : Int) + 1) (by omega) (by omega)]
        have h2 := ih (i + 1) K (nxc w h o set out i) (by omega) (by omega) (nxc_b16 B)
        rw [Int.natCast_add] at h2
        have e : nxc w h o set out i = out := by unfold nxc; rw [if_neg hb]
        rw [e] at h2 ⊢
        exact h2
  exact key (stN w h) 0 k set (by omega) (by omega) hs
end Go.Proofs.Ytimejdhglmajdaa.F
end
