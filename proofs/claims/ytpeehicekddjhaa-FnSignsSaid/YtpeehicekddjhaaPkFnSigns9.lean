/- Packed by a program of the session (wip/tools/pack.py): what the claim's theorem reaches, of the texts that wip/ and the kit's printer lay. -/
import Derived.Test.YtpeehicekddjhaaPkFnSigns8
import Derived.Shelf.Sort.Plain
import Derived.Shelf.Slices.CompactI
import Derived.Shelf.Slices.In.SortNone
import Derived.Sort.OwnSortedInts
import Derived.Test.YtpeehicekddjhaaProg
import Derived.Laws.StructEq
section
namespace Go.Proofs.Ytpeehicekddjhaa.F
open Go.RowKit Go.Proofs.YtpeehicekddjhaaW.PrintWords Go.Proofs.YtpeehicekddjhaaW.PrintLast Go.Proofs.YtpeehicekddjhaaW.PrintMore
set_option linter.unusedVariables false
set_option linter.unusedSimpArgs false
attribute [local go_sem] max2_int min2_int max_two min_two
def laws_FnSigns.T18 : Bool × List (List Nat × List Nat) := (true, [([], []), ([0], [0]), ([], []), ([], []), ([], []), ([2, 3, 4], [2, 3, 4]), ([5], [5]), ([1, 6], [1, 6]), ([7, 5], [7]), ([8], [8]), ([8], [8]), ([10, 8], [8, 10]), ([11, 8], [8, 11]), ([9, 12, 8], [8, 9, 12]), ([13, 8], [8, 13]), ([8], [8]), ([14, 15, 8], [8, 14, 15]), ([8, 16], [8, 16]), ([17, 8], [17]), ([18], [18]), ([18], [18]), ([19, 20, 18, 18], [18, 19, 20]), ([18, 21], [18, 21]), ([22, 21], [22]), ([23], [23]), ([23], [23]), ([24, 25, 23, 23], [23, 24, 25]), ([26, 23], [23, 26]), ([23, 27], [23, 27]), ([28, 26], [28]), ([29], [29]), ([30, 29], [29, 30]), ([29], [29]), ([32, 29], [29, 32]), ([31, 33, 29], [29, 31, 33]), ([29, 34], [29, 34]), ([35, 29], [35]), ([36], [36]), ([36], [36]), ([36], [36]), ([39, 36], [36, 39]), ([37, 38, 40, 36, 36], [36, 37, 38, 40]), ([41, 36], [36, 41]), ([36], [36]), ([43, 36], [36, 43]), ([44, 41, 36], [36, 44]), ([42, 45, 36], [36, 42, 45]), ([36, 46], [36, 46]), ([47, 45, 0, 1, 2, 3, 4, 5, 6, 7, 8, 9, 10, 11, 12, 13, 14, 15, 16, 17, 18, 19, 20, 21, 22, 23, 24, 25, 26, 27, 28, 29, 30, 31, 32, 33, 34, 35, 36, 37, 38, 39, 40, 41, 42, 43, 44, 45, 46, 47], [47])])
def laws_FnSigns.B18 : List Nat := [0, 1, 0, 0, 0, 28, 60, 127, 255, 511, 511, 1535, 3583, 8191, 16383, 511, 65535, 131071, 262143, 524287, 524287, 2097151, 4194303, 8388607, 16777215, 16777215, 67108863, 134217727, 268435455, 536870911, 1073741823, 2147483647, 1073741823, 5368709119, 17179869183, 34359738367, 68719476735, 137438953471, 137438953471, 137438953471, 687194767359, 2199023255551, 4398046511103, 137438953471, 8933531975679, 30786325577727, 70368744177663, 140737488355327, 281474976710655]
theorem laws_FnSigns.tab18 : rtab .any (opsOf Try.f4 18) = laws_FnSigns.T18 := by kernel_rfl
theorem laws_FnSigns.bits18 : waitsOk laws_FnSigns.T18.2 laws_FnSigns.B18 = true := by kernel_rfl
set_option maxHeartbeats 8000000 in
set_option maxRecDepth 100000 in
theorem laws_FnSigns.calls (k : Nat) (A0 : Option Addr) (c0 : Nat) (l0 : List Int) (w : World) (hr0 : Kd.C (Kd.int .u8) w A0 l0.length l0) (hc0 : l0.length ≤ c0) (h : laws_FnSigns.f k l0 = some true) :
  Calls Try.prog 4 #[.slice A0 l0.length c0] w fun e w' => e = .returned (.bool true) ∧ Below w.heap.size w w' := by
 have hu27 := Try.underlying27
 have hu49 := Try.underlying49
 have hu25 := Try.underlying25
 have HR0 := aK hr0
 have HC0 := aK hc0
 clear hr0 hc0
 have HB := aK (Below.refl w.heap.size w)
 have H : ((laws_big.f l0).bind fun t635 => (if t635 = true then (some true) else ((spec_DrawSigns.f k l0).bind fun bt636 => ((impl_CountLies.f k bt636.1 bt636.2.1 bt636.2.2.1 bt636.2.2.2.1 bt636.2.2.2.2).bind fun t644 => ((impl_SignsTo.f k bt636.1 bt636.2.1 bt636.2.2.1 bt636.2.2.2.2).bind fun t645 => ((spec_Reached.f k bt636.1 bt636.2.1 bt636.2.2.1 bt636.2.2.2.2).bind fun t648 => (if (t645.length : Int) = (wrap64 ((t648.length : Int) - 1)) then ((impl_CountLies.f k bt636.1 bt636.2.1 bt636.2.2.1 t645 bt636.2.2.2.2).bind fun t651 => (laws_FnSigns.j0 k l0 bt636.2.2.2.1 bt636.2.2.2.2 t644 t645 t648 (t651 != 0) bt636.1 bt636.2.1 bt636.2.2.1)) else (laws_FnSigns.j0 k l0 bt636.2.2.2.1 bt636.2.2.2.2 t644 t645 t648 true bt636.1 bt636.2.1 bt636.2.2.1)))))))) = some true := h
 clear h
 replace H := Option.bind_eq_some_iff.mp H
 obtain ⟨t635, A20, H⟩ := H
 replace H : (if t635 = true then (some true) else ((spec_DrawSigns.f k l0).bind fun bt636 => ((impl_CountLies.f k bt636.1 bt636.2.1 bt636.2.2.1 bt636.2.2.2.1 bt636.2.2.2.2).bind fun t644 => ((impl_SignsTo.f k bt636.1 bt636.2.1 bt636.2.2.1 bt636.2.2.2.2).bind fun t645 => ((spec_Reached.f k bt636.1 bt636.2.1 bt636.2.2.1 bt636.2.2.2.2).bind fun t648 => (if (t645.length : Int) = (wrap64 ((t648.length : Int) - 1)) then ((impl_CountLies.f k bt636.1 bt636.2.1 bt636.2.2.1 t645 bt636.2.2.2.2).bind fun t651 => (laws_FnSigns.j0 k l0 bt636.2.2.2.1 bt636.2.2.2.2 t644 t645 t648 (t651 != 0) bt636.1 bt636.2.1 bt636.2.2.1)) else (laws_FnSigns.j0 k l0 bt636.2.2.2.1 bt636.2.2.2.2 t644 t645 t648 true bt636.1 bt636.2.1 bt636.2.2.1))))))) = some true := H
 have A2 := aK A20
 clear A20
 by_cases c3 : t635 = true
 ·subst c3
  have H1 : (some true) = some true := by first | (rw [if_pos rfl] at H; exact H) | rfl
  clear H
  have H := H1
  clear H1
  go_enter Try.func4, Try.ntmps4
  go_wp2_with (first | ((with_reducible refine gate_callee (f := 12) rfl ?_); refine goesL_ (some 15) rfl rfl Try.func12 (by kernel_rfl) rfl #[.slice A0 l0.length c0] rfl (by (try simp only [List.map_toArray, List.map_cons, List.map_nil]); first | done | rfl | (simp only [List.length_drop, List.length_take]; rfl)) ?_; (with_reducible refine (laws_big.calls _ _ l0 true _ ?side1 ?side2 A2.out).mono ?_); (case side1 => repeat (first | exact HR0.out | (with_reducible refine Kd.C_alloc ?_ _) | (with_reducible refine Kd.C_drewN ?_ _) | (with_reducible refine Kd.C_drew ?_))); (case side2 => exact HC0.out); rintro e w' ⟨rfl, ⟨nd, rfl⟩⟩; refine ⟨_, rfl, ?_⟩))
  go_ret
  exact ⟨by first | rfl | (simp [errW_none, errW_some] <;> rfl) | (simp [*, errW_none, errW_some] <;> rfl), by repeat (first | (with_reducible first | exact HB.out | apply bAl | apply bDN | apply bD1) | exact HB.out)⟩
 ·replace c3 := Bool.eq_false_iff.mpr c3
  subst c3
  have H1 : ((spec_DrawSigns.f k l0).bind fun bt636 => ((impl_CountLies.f k bt636.1 bt636.2.1 bt636.2.2.1 bt636.2.2.2.1 bt636.2.2.2.2).bind fun t644 => ((impl_SignsTo.f k bt636.1 bt636.2.1 bt636.2.2.1 bt636.2.2.2.2).bind fun t645 => ((spec_Reached.f k bt636.1 bt636.2.1 bt636.2.2.1 bt636.2.2.2.2).bind fun t648 => (if (t645.length : Int) = (wrap64 ((t648.length : Int) - 1)) then ((impl_CountLies.f k bt636.1 bt636.2.1 bt636.2.2.1 t645 bt636.2.2.2.2).bind fun t651 => (laws_FnSigns.j0 k l0 bt636.2.2.2.1 bt636.2.2.2.2 t644 t645 t648 (t651 != 0) bt636.1 bt636.2.1 bt636.2.2.1)) else (laws_FnSigns.j0 k l0 bt636.2.2.2.1 bt636.2.2.2.2 t644 t645 t648 true bt636.1 bt636.2.1 bt636.2.2.1)))))) = some true := by rw [if_neg (show ¬ (false = true) by decide)] at H; exact H
  clear H
  have H := H1
  clear H1
  replace H := Option.bind_eq_some_iff.mp H
  obtain ⟨⟨t636, t637, t638, t639, t642⟩, A40, H⟩ := H
  replace H : ((impl_CountLies.f k t636 t637 t638 t639 t642).bind fun t644 => ((impl_SignsTo.f k t636 t637 t638 t642).bind fun t645 => ((spec_Reached.f k t636 t637 t638 t642).bind fun t648 => (if (t645.length : Int) = (wrap64 ((t648.length : Int) - 1)) then ((impl_CountLies.f k t636 t637 t638 t645 t642).bind fun t651 => (laws_FnSigns.j0 k l0 t639 t642 t644 t645 t648 (t651 != 0) t636 t637 t638)) else (laws_FnSigns.j0 k l0 t639 t642 t644 t645 t648 true t636 t637 t638))))) = some true := H
  have A4 := aK A40
  clear A40
  replace H := Option.bind_eq_some_iff.mp H
  obtain ⟨t644, A50, H⟩ := H
  replace H : ((impl_SignsTo.f k t636 t637 t638 t642).bind fun t645 => ((spec_Reached.f k t636 t637 t638 t642).bind fun t648 => (if (t645.length : Int) = (wrap64 ((t648.length : Int) - 1)) then ((impl_CountLies.f k t636 t637 t638 t645 t642).bind fun t651 => (laws_FnSigns.j0 k l0 t639 t642 t644 t645 t648 (t651 != 0) t636 t637 t638)) else (laws_FnSigns.j0 k l0 t639 t642 t644 t645 t648 true t636 t637 t638)))) = some true := H
  have A5 := aK A50
  clear A50
  replace H := Option.bind_eq_some_iff.mp H
  obtain ⟨t645, A60, H⟩ := H
  replace H : ((spec_Reached.f k t636 t637 t638 t642).bind fun t648 => (if (t645.length : Int) = (wrap64 ((t648.length : Int) - 1)) then ((impl_CountLies.f k t636 t637 t638 t645 t642).bind fun t651 => (laws_FnSigns.j0 k l0 t639 t642 t644 t645 t648 (t651 != 0) t636 t637 t638)) else (laws_FnSigns.j0 k l0 t639 t642 t644 t645 t648 true t636 t637 t638))) = some true := H
  have A6 := aK A60
  clear A60
  replace H := Option.bind_eq_some_iff.mp H
  obtain ⟨t648, A70, H⟩ := H
  replace H : (if (t645.length : Int) = (wrap64 ((t648.length : Int) - 1)) then ((impl_CountLies.f k t636 t637 t638 t645 t642).bind fun t651 => (laws_FnSigns.j0 k l0 t639 t642 t644 t645 t648 (t651 != 0) t636 t637 t638)) else (laws_FnSigns.j0 k l0 t639 t642 t644 t645 t648 true t636 t637 t638)) = some true := H
  have A7 := aK A70
  clear A70
  have HC8 := aK H
  clear H
  go_enter Try.func4, Try.ntmps4
  go_upto_region 7 with (first | ((with_reducible refine gate_callee (f := 12) rfl ?_); refine goesL_ (some 15) rfl rfl Try.func12 (by kernel_rfl) rfl #[.slice A0 l0.length c0] rfl (by (try simp only [List.map_toArray, List.map_cons, List.map_nil]); first | done | rfl | (simp only [List.length_drop, List.length_take]; rfl)) ?_; (with_reducible refine (laws_big.calls _ _ l0 false _ ?side1 ?side2 A2.out).mono ?_); (case side1 => repeat (first | exact HR0.out | (with_reducible refine Kd.C_alloc ?_ _) | (with_reducible refine Kd.C_drewN ?_ _) | (with_reducible refine Kd.C_drew ?_))); (case side2 => exact HC0.out); rintro e w' ⟨rfl, ⟨nd, rfl⟩⟩; refine ⟨_, rfl, ?_⟩) | ((with_reducible refine gate_callee (f := 20) rfl ?_); refine goesL_ (some 18) rfl rfl Try.func20 (by kernel_rfl) rfl #[.slice A0 l0.length c0] rfl (by (try simp only [List.map_toArray, List.map_cons, List.map_nil]); first | done | rfl | (simp only [List.length_drop, List.length_take]; rfl)) ?_; (with_reducible refine (spec_DrawSigns.calls k _ _ l0 t636 t637 t638 t639 t642 _ ?side1 ?side2 A4.out).mono ?_); (case side1 => repeat (first | exact HR0.out | (with_reducible refine Kd.C_alloc ?_ _) | (with_reducible refine Kd.C_drewN ?_ _) | (with_reducible refine Kd.C_drew ?_))); (case side2 => exact HC0.out); rintro e w9 ⟨v640, rfl, ho0, hb⟩; refine ⟨_, rfl, ?_⟩; have n0_ := aK (Kd.R_lower ho0 (bSz (by repeat (first | (with_reducible first | exact HB.out | apply bAl | apply bDN | apply bD1) | exact HB.out)))); have n1_ := aK (bSp (by repeat (first | (with_reducible first | exact HB.out | apply bAl | apply bDN | apply bD1) | exact HB.out)) hb); clear HB; have HO641 := n0_; have HB := n1_; clear n0_ n1_; (try clear hb); (try clear hb2); (try clear hk); (try clear hi); (try clear ho0)) | ((with_reducible refine gate_dst (N := 3) rfl ?_); (try (refine gate_guard (by rfl) ?_; dsimp only)); refine box_event ?hg (N := 3) ?hd (cs := #[.int .i64 0, .int .i64 0, .int .i64 0]) (t := 27) ?hr ?_; (case hd => rfl); (case hg => rfl); (case hr => first | (go_simp; done) | (go_simp; rfl)); intro gb643 hg w10 hbox hb; have n0_ := aK (Kd.R_below (by (with_reducible repeat (first | apply Kd.R_alloc | apply Kd.R_drewN | apply Kd.R_drew)); exact HO641.out) hb); have n1_ := aK (bSp (by repeat (first | (with_reducible first | exact HB.out | apply bAl | apply bDN | apply bD1) | exact HB.out)) hb); have n2_ := aK (hbox); have n3_ := aK ((by rw [hg]; exact (bSz (by repeat (first | (with_reducible first | exact HB.out | apply bAl | apply bDN | apply bD1) | exact HB.out))) : w.heap.size ≤ gb643)); have n4_ := n3_; clear HO641; clear HB; have HO641 := n0_; have HB := n1_; have BK643 := n2_; have GW643 := n3_; have GE643 := n4_; clear n0_ n1_ n2_ n3_ n4_; clear hb hbox hg; obtain ⟨hcz11_0, hcz11_1, hcz11_2, hfz11_0, hfz11_1, hfz11_2⟩ := cl3 BK643.out; obtain ⟨Ao12, co12, eo12⟩ := Kd.R_slice HO641.out; subst eo12) | ((with_reducible refine gate_callee (f := 21) rfl ?_); refine goesL_ (some 25) rfl rfl Try.func21 (by kernel_rfl) rfl #[.agg #[.int .i64 t636, .int .i64 t637, .int .i64 t638], .slice Ao12 t639.length co12, .int .i64 t642] rfl (by (try simp only [List.map_toArray, List.map_cons, List.map_nil]); first | done | rfl | (simp only [List.length_drop, List.length_take]; rfl)) ?_; (with_reducible refine (impl_CountLies.calls k t636 t637 t638 _ _ t639 t642 t644 _ ?side1 ?side2 A5.out).mono ?_); (case side1 => refine (Kd.R_reads' (e := 49) (base := w.heap.size) (ok := fun k_ => True) (n := t639.length) (c := co12) ?_).2.2; exact (by (with_reducible repeat (first | apply Kd.R_alloc | apply Kd.R_drewN | apply Kd.R_drew)); exact (Kd.R_mono (Kd.R_far (p := ⟨gb643, 2, none⟩) (Kd.R_far (p := ⟨gb643, 1, none⟩) (Kd.R_far (p := ⟨gb643, 0, none⟩) (Kd.R_types HO641.out BK643.out (by decide)) (fun _ hk => hk.2) (.int .i64 t636)) (fun _ hk => hk.2) (.int .i64 t637)) (fun _ hk => hk.2) (.int .i64 t638)) (fun _ h_ => h_.1)))); (case side2 => exact (Kd.R_reads' HO641.out).2.1); rintro e w13 ⟨rfl, hb⟩; refine ⟨_, rfl, ?_⟩; have n0_ := aK (Kd.R_below (by (with_reducible repeat (first | apply Kd.R_alloc | apply Kd.R_drewN | apply Kd.R_drew)); exact (Kd.R_mono (Kd.R_far (p := ⟨gb643, 2, none⟩) (Kd.R_far (p := ⟨gb643, 1, none⟩) (Kd.R_far (p := ⟨gb643, 0, none⟩) (Kd.R_types HO641.out BK643.out (by decide)) (fun _ hk => hk.2) (.int .i64 t636)) (fun _ hk => hk.2) (.int .i64 t637)) (fun _ hk => hk.2) (.int .i64 t638)) (fun _ h_ => h_.1))) hb); have n1_ := aK (blk_below (g := gb643) (o := .cells #[.int .i64 t636, .int .i64 t637, .int .i64 t638] 27 (0, 0)) (by (with_reducible repeat (first | refine kDN ?_ _ | refine kD ?_ | refine kA ?_ _)); refine blk_put (cs := #[.int .i64 t636, .int .i64 t637, .int .i64 0]) ?_ 2 _ rfl; (with_reducible repeat (first | refine kDN ?_ _ | refine kD ?_ | refine kA ?_ _)); refine blk_put (cs := #[.int .i64 t636, .int .i64 0, .int .i64 0]) ?_ 1 _ rfl; (with_reducible repeat (first | refine kDN ?_ _ | refine kD ?_ | refine kA ?_ _)); refine blk_put (cs := #[.int .i64 0, .int .i64 0, .int .i64 0]) ?_ 0 _ rfl; (with_reducible repeat (first | refine kDN ?_ _ | refine kD ?_ | refine kA ?_ _)); exact BK643.out) hb); have n2_ := aK (bSp (by repeat (first | (with_reducible first | exact HB.out | apply bAl | apply bDN | apply bD1 | refine bSt ?_ GE643.out) | exact HB.out)) hb); clear HO641; clear BK643; clear HB; have HO641 := n0_; have BK643 := n1_; have HB := n2_; clear n0_ n1_ n2_; (try clear hb); (try clear hb2); (try clear hk); (try clear hi); obtain ⟨hcz14_0, hcz14_1, hcz14_2, hfz14_0, hfz14_1, hfz14_2⟩ := cl3 BK643.out) | ((with_reducible refine gate_callee (f := 22) rfl ?_); refine goesL_ (some 28) rfl rfl Try.func22 (by kernel_rfl) rfl #[.agg #[.int .i64 t636, .int .i64 t637, .int .i64 t638], .int .i64 t642] rfl (by (try simp only [List.map_toArray, List.map_cons, List.map_nil]); first | done | rfl | (simp only [List.length_drop, List.length_take]; rfl)) ?_; (with_reducible refine (impl_SignsTo.calls k t636 t637 t638 t642 t645 _ A6.out).mono ?_); rintro e w15 ⟨v646, rfl, ho0, hb⟩; refine ⟨_, rfl, ?_⟩; have n0_ := aK (Kd.R_elder' (by (with_reducible repeat (first | apply Kd.R_alloc | apply Kd.R_drewN | apply Kd.R_drew)); exact HO641.out) (Kd.R_base ho0) hb); have n1_ := aK (Kd.R_lower (Kd.R_new' ho0 (Kd.R_lt (by (with_reducible repeat (first | apply Kd.R_alloc | apply Kd.R_drewN | apply Kd.R_drew)); exact HO641.out))) (bSz (by repeat (first | (with_reducible first | exact HB.out | apply bAl | apply bDN | apply bD1 | refine bSt ?_ GE643.out) | exact HB.out)))); have n2_ := bkb BK643 hb (by intro z_; (with_reducible repeat (first | refine kDN ?_ _ | refine kD ?_ | refine kA ?_ _)); exact z_); have n3_ := aK (bSp (by repeat (first | (with_reducible first | exact HB.out | apply bAl | apply bDN | apply bD1 | refine bSt ?_ GE643.out) | exact HB.out)) hb); clear HO641; clear BK643; clear HB; have HO641 := n0_; have HO647 := n1_; have BK643 := n2_; have HB := n3_; clear n0_ n1_ n2_ n3_; (try clear hb); (try clear hb2); (try clear hk); (try clear hi); (try clear ho0); obtain ⟨hcz16_0, hcz16_1, hcz16_2, hfz16_0, hfz16_1, hfz16_2⟩ := cl3 BK643.out) | ((with_reducible refine gate_callee (f := 23) rfl ?_); refine goesL_ (some 31) rfl rfl Try.func23 (by kernel_rfl) rfl #[.agg #[.int .i64 t636, .int .i64 t637, .int .i64 t638], .int .i64 t642] rfl (by (try simp only [List.map_toArray, List.map_cons, List.map_nil]); first | done | rfl | (simp only [List.length_drop, List.length_take]; rfl)) ?_; (with_reducible refine (spec_Reached.calls k t636 t637 t638 t642 t648 _ A7.out).mono ?_); rintro e w17 ⟨v649, rfl, ho0, hb⟩; refine ⟨_, rfl, ?_⟩; have n0_ := aK (Kd.R_below (by (with_reducible repeat (first | apply Kd.R_alloc | apply Kd.R_drewN | apply Kd.R_drew)); exact HO641.out) hb); have n1_ := aK (Kd.R_below (by (with_reducible repeat (first | apply Kd.R_alloc | apply Kd.R_drewN | apply Kd.R_drew)); exact HO647.out) hb); have n2_ := aK (Kd.R_lower ho0 (bSz (by repeat (first | (with_reducible first | exact HB.out | apply bAl | apply bDN | apply bD1 | refine bSt ?_ GE643.out) | exact HB.out)))); have n3_ := bkb BK643 hb (by intro z_; (with_reducible repeat (first | refine kDN ?_ _ | refine kD ?_ | refine kA ?_ _)); exact z_); have n4_ := aK (bSp (by repeat (first | (with_reducible first | exact HB.out | apply bAl | apply bDN | apply bD1 | refine bSt ?_ GE643.out) | exact HB.out)) hb); clear HO641; clear HO647; clear BK643; clear HB; have HO641 := n0_; have HO647 := n1_; have HO650 := n2_; have BK643 := n3_; have HB := n4_; clear n0_ n1_ n2_ n3_ n4_; (try clear hb); (try clear hb2); (try clear hk); (try clear hi); (try clear ho0)))
  (try simp only [Act.put, sTA, sZ, sS])
  go_cut [44] (fun v44 wc => ∃ (kq : Nat) (x44_7 : Bool), v44 = .bool x44_7 ∧ Aside0 (laws_FnSigns.j0 kq l0 t639 t642 t644 t645 t648 x44_7 t636 t637 t638 = some true) ∧ Aside0 (kq ≤ k) ∧ Aside0 (Kd.R k49 49 wc w.heap.size (fun k_ => some k_ ≠ (v646 : Value).ownBlock) (.slice Ao12 t639.length co12) t639) ∧ Aside0 (Kd.R k49 49 wc w.heap.size (fun k_ => some k_ ≠ ((.slice Ao12 t639.length co12) : Value).ownBlock) v646 t645) ∧ Aside0 (Kd.R (Kd.int .i64) 3 wc w.heap.size (fun _ => True) v649 t648) ∧ Aside0 (wc.heap[gb643]? = some (.cells #[.int .i64 t636, .int .i64 t637, .int .i64 t638] 27 (0, 0))) ∧ Aside0 (Below w.heap.size w wc))
  case first =>
   have H := HC8.out
   clear HC8
   by_cases c18 : (t645.length : Int) = (wrap64 ((t648.length : Int) - 1))
   ·rw [if_pos c18] at H
    have c18b0 : ((t645.length : Int) == (wrap64 ((t648.length : Int) - 1))) = true := beq_iff_eq.mpr c18
    have c18b1 : ((t645.length : Int) != (wrap64 ((t648.length : Int) - 1))) = false := bne_eq_false_iff_eq.mpr c18
    clear c18
    (first | rw [c18b0] | (simp only [i64_w, i32_w]; rw [c18b0]) | skip)
    replace H := Option.bind_eq_some_iff.mp H
    obtain ⟨t651, A190, H⟩ := H
    replace H : (laws_FnSigns.j0 k l0 t639 t642 t644 t645 t648 (t651 != 0) t636 t637 t638) = some true := H
    have A19 := aK A190
    clear A190
    have H' := aK H
    clear H
    obtain ⟨Ao20, co20, eo20⟩ := Kd.R_slice HO647.out
    subst eo20
    obtain ⟨Ao21, co21, eo21⟩ := Kd.R_slice HO650.out
    subst eo21
    obtain ⟨hcz22_0, hcz22_1, hcz22_2, hfz22_0, hfz22_1, hfz22_2⟩ := cl3 BK643.out
    go_wp2_with (first | (go_at_call 21; (with_reducible refine (impl_CountLies.calls k t636 t637 t638 _ _ t645 t642 t651 _ ?side1 ?side2 A19.out).mono ?_); (case side1 => repeat (first | exact (Kd.R_reads' HO647.out).2.2 | (with_reducible refine Kd.C_alloc ?_ _) | (with_reducible refine Kd.C_drewN ?_ _) | (with_reducible refine Kd.C_drew ?_))); (case side2 => exact (Kd.R_reads' HO647.out).2.1); rintro e w23 ⟨rfl, hb⟩; have n0_ := aK (Kd.R_below (by (with_reducible repeat (first | apply Kd.R_alloc | apply Kd.R_drewN | apply Kd.R_drew)); exact HO641.out) hb); have n1_ := aK (Kd.R_below (by (with_reducible repeat (first | apply Kd.R_alloc | apply Kd.R_drewN | apply Kd.R_drew)); exact HO647.out) hb); have n2_ := aK (Kd.R_below (by (with_reducible repeat (first | apply Kd.R_alloc | apply Kd.R_drewN | apply Kd.R_drew)); exact HO650.out) hb); have n3_ := bkb BK643 hb (by intro z_; (with_reducible repeat (first | refine kDN ?_ _ | refine kD ?_ | refine kA ?_ _)); exact z_); have n4_ := aK (bSp (by repeat (first | (with_reducible first | exact HB.out | apply bAl | apply bDN | apply bD1 | refine bSt ?_ GE643.out) | exact HB.out)) hb); clear HO641; clear HO647; clear HO650; clear BK643; clear HB; have HO641 := n0_; have HO647 := n1_; have HO650 := n2_; have BK643 := n3_; have HB := n4_; clear n0_ n1_ n2_ n3_ n4_; (try clear hb); (try clear hb2); (try clear hk); (try clear hi)))
    go_meet
    case rel => exact ⟨_, ((t651 != 0)), (by first | rfl | (simp; done) | (simp [*]; done)), H', ⟨by first | omega | exact Nat.le_refl _⟩, ⟨by (with_reducible repeat (first | apply Kd.R_alloc | apply Kd.R_drewN | apply Kd.R_drew)); exact Kd.R_mono HO641.out (fun _ hk => hk.2)⟩, ⟨by (with_reducible repeat (first | apply Kd.R_alloc | apply Kd.R_drewN | apply Kd.R_drew)); exact Kd.R_mono HO647.out (fun _ hk => hk.2)⟩, ⟨by (with_reducible repeat (first | apply Kd.R_alloc | apply Kd.R_drewN | apply Kd.R_drew)); exact HO650.out⟩, ⟨by (with_reducible repeat (first | refine kDN ?_ _ | refine kD ?_ | refine kA ?_ _)); exact BK643.out⟩, ⟨by repeat (first | (with_reducible first | exact HB.out | apply bAl | apply bDN | apply bD1 | refine bSt ?_ GE643.out) | exact HB.out)⟩⟩
   ·rw [if_neg c18] at H
    have c18b0 : ((t645.length : Int) == (wrap64 ((t648.length : Int) - 1))) = false := beq_eq_false_iff_ne.mpr c18
    have c18b1 : ((t645.length : Int) != (wrap64 ((t648.length : Int) - 1))) = true := bne_iff_ne.mpr c18
    (first | rw [c18b0] | (simp only [i64_w, i32_w]; rw [c18b0]) | skip)
    have H' := aK H
    clear H
    obtain ⟨Ao24, co24, eo24⟩ := Kd.R_slice HO647.out
    subst eo24
    obtain ⟨Ao25, co25, eo25⟩ := Kd.R_slice HO650.out
    subst eo25
    go_wp2
    go_meet
    case rel => exact ⟨_, (true), (by first | rfl | (simp; done) | (simp [*]; done)), H', ⟨by first | omega | exact Nat.le_refl _⟩, ⟨by (with_reducible repeat (first | apply Kd.R_alloc | apply Kd.R_drewN | apply Kd.R_drew)); exact Kd.R_mono HO641.out (fun _ hk => hk.2)⟩, ⟨by (with_reducible repeat (first | apply Kd.R_alloc | apply Kd.R_drewN | apply Kd.R_drew)); exact Kd.R_mono HO647.out (fun _ hk => hk.2)⟩, ⟨by (with_reducible repeat (first | apply Kd.R_alloc | apply Kd.R_drewN | apply Kd.R_drew)); exact HO650.out⟩, ⟨by (with_reducible repeat (first | refine kDN ?_ _ | refine kD ?_ | refine kA ?_ _)); exact BK643.out⟩, ⟨by repeat (first | (with_reducible first | exact HB.out | apply bAl | apply bDN | apply bD1 | refine bSt ?_ GE643.out) | exact HB.out)⟩⟩
  case rest =>
   clear HC8
   try clear c1
   try clear c2
   try clear p2
   try clear c3
   try clear c4
   try clear p6
   try clear c12
   try clear c18
   try clear c18b0
   try clear c18b1
   try clear c20
   try clear c21
   try clear c22
   try clear c23
   try clear hcz11_0
   try clear hcz11_1
   try clear hcz11_2
   try clear hcz14_0
   try clear hcz14_1
   try clear hcz14_2
   try clear hcz16_0
   try clear hcz16_1
   try clear hcz16_2
   try clear hcz22_0
   try clear hcz22_1
   try clear hcz22_2
   try clear hfz11_0
   try clear hfz11_1
   try clear hfz11_2
   try clear hfz14_0
   try clear hfz14_1
   try clear hfz14_2
   try clear hfz16_0
   try clear hfz16_1
   try clear hfz16_2
   try clear hfz22_0
   try clear hfz22_1
   try clear hfz22_2
   obtain ⟨kq, x44_7, rfl, HA, HJ7, HO_4, HO_7, HO_8, BK643, HB⟩ := hcut
   cases kq with
   | zero => exact absurd HA.out (by simp [laws_FnSigns.j0])
   | succ kj7 =>
    have H := HA.out
    clear HA
    simp only [laws_FnSigns.j0] at H
    by_cases c26 : x44_7 = true
    ·subst c26
     have H1 : (some false) = some true := by first | (rw [if_pos rfl] at H; exact H) | rfl
     clear H
     have H := H1
     clear H1
     exact absurd (Option.some.inj H) Bool.false_ne_true
    ·replace c26 := Bool.eq_false_iff.mpr c26
     subst c26
     have H1 : (laws_FnSigns.l0 kj7 l0 t639 t642 t644 t645 t648 0 t636 t637 t638) = some true := by rw [if_neg (show ¬ (false = true) by decide)] at H; exact H
     clear H
     have H := H1
     clear H1
     have H' := aK H
     clear H
     go_wp2
     go_loopg [9] kj7 (fun kq v9 w' => ∃ (x9_2 : Int), v9 = .int .i64 x9_2 ∧ Aside0 (laws_FnSigns.l0 kq l0 t639 t642 t644 t645 t648 x9_2 t636 t637 t638 = some true) ∧ Aside0 (kq ≤ kj7) ∧ Aside0 (Kd.R k49 49 w' w.heap.size (fun k_ => some k_ ≠ (v646 : Value).ownBlock) (.slice Ao12 t639.length co12) t639) ∧ Aside0 (Kd.R k49 49 w' w.heap.size (fun k_ => some k_ ≠ ((.slice Ao12 t639.length co12) : Value).ownBlock) v646 t645) ∧ Aside0 (Kd.R (Kd.int .i64) 3 w' w.heap.size (fun _ => True) v649 t648) ∧ Aside0 (w'.heap[gb643]? = some (.cells #[.int .i64 t636, .int .i64 t637, .int .i64 t638] 27 (0, 0))) ∧ Aside0 (Below w.heap.size w w'))
     case atStart => exact ⟨(0), (by first | rfl | (simp; done) | (simp [*]; done)), H', ⟨Nat.le_refl _⟩, ⟨by (with_reducible repeat (first | apply Kd.R_alloc | apply Kd.R_drewN | apply Kd.R_drew)); exact HO_4.out⟩, ⟨by (with_reducible repeat (first | apply Kd.R_alloc | apply Kd.R_drewN | apply Kd.R_drew)); exact HO_7.out⟩, ⟨by (with_reducible repeat (first | apply Kd.R_alloc | apply Kd.R_drewN | apply Kd.R_drew)); exact HO_8.out⟩, ⟨by (with_reducible repeat (first | refine kDN ?_ _ | refine kD ?_ | refine kA ?_ _)); exact BK643.out⟩, ⟨by repeat (first | (with_reducible first | exact HB.out | apply bAl | apply bDN | apply bD1 | refine bSt ?_ GE643.out) | exact HB.out)⟩⟩
     case round =>
      clear H'
      try clear c1
      try clear c2
      try clear p2
      try clear c3
      try clear c4
      try clear p6
      try clear c12
      try clear c18
      try clear c18b0
      try clear c18b1
      try clear c20
      try clear c21
      try clear c22
      try clear c23
      try clear c26
      try clear hcz11_0
      try clear hcz11_1
      try clear hcz11_2
      try clear hcz14_0
      try clear hcz14_1
      try clear hcz14_2
      try clear hcz16_0
      try clear hcz16_1
      try clear hcz16_2
      try clear hcz22_0
      try clear hcz22_1
      try clear hcz22_2
      try clear hfz11_0
      try clear hfz11_1
      try clear hfz11_2
      try clear hfz14_0
      try clear hfz14_1
      try clear hfz14_2
      try clear hfz16_0
      try clear hfz16_1
      try clear hfz16_2
      try clear hfz22_0
      try clear hfz22_1
      try clear hfz22_2
      try clear p2
      try clear p6
      obtain ⟨x9_2, rfl, HA, HK2, HO_4, HO_7, HO_8, BK643, HB⟩ := hrel
      cases gk with
      | zero => exact absurd HA.out (by simp [laws_FnSigns.l0])
      | succ k2 =>
       have H := HA.out
       clear HA
       simp only [laws_FnSigns.l0] at H
       by_cases c27 : x9_2 < (t645.length : Int)
       ·rw [if_pos c27] at H
        have c27b0 : decide (x9_2 < (t645.length : Int)) = true := decide_eq_true c27
        clear c27
        by_cases c28 : 0 ≤ x9_2
        ·rw [if_pos c28] at H
         have c28b0 : decide (0 ≤ x9_2) = true := decide_eq_true c28
         clear c28
         replace H := Option.bind_eq_some_iff.mp H
         obtain ⟨t653, A290, H⟩ := H
         replace H : (if t653 = true then (laws_FnSigns.l0 k2 l0 t639 t642 t644 t645 t648 (wrap64 (x9_2 + 1)) t636 t637 t638) else (some false)) = some true := H
         have A29 := aK A290
         clear A290
         by_cases c30 : t653 = true
         ·subst c30
          have H1 : (laws_FnSigns.l0 k2 l0 t639 t642 t644 t645 t648 (wrap64 (x9_2 + 1)) t636 t637 t638) = some true := by first | (rw [if_pos rfl] at H; exact H) | rfl
          clear H
          have H := H1
          clear H1
          have H' := aK H
          clear H
          obtain ⟨Ao31, co31, eo31⟩ := Kd.R_slice HO_7.out
          subst eo31
          try go_wp2
          have n0_ := aK (Kd.R_drew HO_4.out)
          have n1_ := aK (Kd.R_drew HO_7.out)
          have n2_ := aK (Kd.R_drew HO_8.out)
          have n3_ := aK (kD BK643.out)
          have n4_ := aK (bD1 HB.out)
          clear HO_4
          clear HO_7
          clear HO_8
          clear BK643
          clear HB
          have HO_4 := n0_
          have HO_7 := n1_
          have HO_8 := n2_
          have BK643 := n3_
          have HB := n4_
          clear n0_ n1_ n2_ n3_ n4_
          have p652 : 0 ≤ (x9_2 : Int) := of_decide_eq_true (by first | (with_reducible assumption) | assumption)
          have q652 : x9_2 < (t645.length : Int) := of_decide_eq_true (by first | (with_reducible assumption) | assumption)
          obtain ⟨ad652, e652, hx652_0, hx652_1⟩ := at_T49 (Kd.R_reads' HO_7.out).2.2 x9_2 p652 q652
          cases e652
          replace p652 := eq_true p652
          replace q652 := eq_true q652
          refine start_ (n := 7) (S := fun w' => w'.cell? ⟨gb643, 0, none⟩ = some (.int .i64 t636) ∧ w'.cell? ⟨gb643, 1, none⟩ = some (.int .i64 t637) ∧ w'.cell? ⟨gb643, 2, none⟩ = some (.int .i64 t638) ∧ w'.cell? (ad652.add ((x9_2).toNat * 2)) = some (.int .i64 ((rd_Sign t645 x9_2).f0)) ∧ w'.cell? ⟨(ad652.add ((x9_2).toNat * 2)).block, (ad652.add ((x9_2).toNat * 2)).off + 1, none⟩ = some (.int .i64 ((rd_Sign t645 x9_2).f1))) (ds := []) #[bN,bN,bN,bN,bN,bN,bN] (by kernel_rfl) rfl rfl ⟨(kC BK643.out 0).trans rfl, (kC BK643.out 1).trans rfl, (kC BK643.out 2).trans rfl, hx652_0, hx652_1⟩ (fun hHeld => ?_)
          generalize wr.drew = w32 at HO_4 HO_7 HO_8 BK643 HB hx652_0 hx652_1 hHeld ⊢
          refine pure_ (i := 1) (N := some 52) (v := ?_) (a' := ?_) #[bN,bY,bN,bN,bN,bN,bN] rfl rfl (by kernel_rfl) (fun _ _ _ h => h) (Or.inl ⟨by rfl, ?_⟩) ?_ ?_
          rotate_left
          ·intro w'
           go_simp
           with_reducible rfl
          rotate_left
          ·simp only [Act.put, sTA, sZ, sS, i64_w, i32_w]
           rfl
          refine pure_ (i := 2) (N := some 53) (v := ?_) (a' := ?_) #[bN,bY,bY,bN,bN,bN,bN] rfl rfl (by kernel_rfl) (fun _ _ _ h => h) (Or.inl ⟨by rfl, ?_⟩) ?_ ?_
          rotate_left
          ·intro w'
           go_simp
           with_reducible rfl
          rotate_left
          ·simp only [Act.put, sTA, sZ, sS, i64_w, i32_w]
           rfl
          refine pure_ (i := 3) (N := some 54) (v := ?_) (a' := ?_) #[bN,bY,bY,bY,bN,bN,bN] rfl rfl (by kernel_rfl) (fun _ _ _ h => h) (Or.inl ⟨by rfl, ?_⟩) ?_ ?_
          rotate_left
          ·intro w'
           go_simp
           with_reducible rfl
          rotate_left
          ·simp only [Act.put, sTA, sZ, sS, i64_w, i32_w]
           rfl
          refine take_ (i := 0) (N := some 51) (v := ?_) (a' := ?_) #[bY,bY,bY,bY,bN,bN,bN] rfl rfl (by kernel_rfl) (fun _ _ _ h => h) (Or.inl ⟨by rfl, ?_⟩) hHeld ?_ ?_
          rotate_left
          ·rintro w' ⟨s0, s1, s2, s3, s4⟩
           go_simp
           with_reducible rfl
          rotate_left
          ·simp only [Act.put, sTA, sZ, sS, i64_w, i32_w]
           rfl
          refine take_ (i := 4) (N := some 55) (v := ?_) (a' := ?_) #[bY,bY,bY,bY,bY,bN,bN] rfl rfl (by kernel_rfl) (fun _ _ _ h => h) (Or.inl ⟨by rfl, ?_⟩) hHeld ?_ ?_
          rotate_left
          ·rintro w' ⟨s0, s1, s2, s3, s4⟩
           go_simp
           with_reducible rfl
          rotate_left
          ·simp only [Act.put, sTA, sZ, sS, i64_w, i32_w]
           rfl
          refine one_ (i := 5) (N := some 56) #[bY,bY,bY,bY,bY,bY,bN] rfl rfl (by kernel_rfl) (by decide) (fun K hK => ?_)
          refine goes_ Try.func24 (by kernel_rfl) rfl #[.agg #[.int .i64 t636, .int .i64 t637, .int .i64 t638], .agg #[.int .i64 ((rd_Sign t645 x9_2).f0), .int .i64 ((rd_Sign t645 x9_2).f1)]] (by rfl) rfl rfl (by (try simp only [List.map_toArray, List.map_cons, List.map_nil]); first | done | rfl | (simp only [List.length_drop, List.length_take]; rfl)) ?_
          with_reducible refine (impl_SignOk.calls k2 t636 t637 t638 ((rd_Sign t645 x9_2).f0) ((rd_Sign t645 x9_2).f1) true _ A29.out).mono ?_
          rintro e w33 ⟨rfl, hb⟩
          have HS3_ := (hb.cell (World.block_lt_of_cell? _ _ (hHeld.2.2.2.1))).trans (hHeld.2.2.2.1)
          have HS4_ := (hb.cell (World.block_lt_of_cell? _ _ (hHeld.2.2.2.2))).trans (hHeld.2.2.2.2)
          refine ⟨_, rfl, ?_⟩
          have n0_ := aK (Kd.R_below (by (with_reducible repeat (first | apply Kd.R_alloc | apply Kd.R_drewN | apply Kd.R_drew)); exact HO_4.out) hb)
          have n1_ := aK (Kd.R_below (by (with_reducible repeat (first | apply Kd.R_alloc | apply Kd.R_drewN | apply Kd.R_drew)); exact HO_7.out) hb)
          have n2_ := aK (Kd.R_below (by (with_reducible repeat (first | apply Kd.R_alloc | apply Kd.R_drewN | apply Kd.R_drew)); exact HO_8.out) hb)
          have n3_ := bkb BK643 hb (by intro z_; (with_reducible repeat (first | refine kDN ?_ _ | refine kD ?_ | refine kA ?_ _)); exact z_)
          have n4_ := aK (bSp (by repeat (first | (with_reducible first | exact HB.out | apply bAl | apply bDN | apply bD1 | refine bSt ?_ GE643.out) | exact HB.out)) hb)
          clear HO_4
          clear HO_7
          clear HO_8
          clear BK643
          clear HB
          have HO_4 := n0_
          have HO_7 := n1_
          have HO_8 := n2_
          have BK643 := n3_
          have HB := n4_
          clear n0_ n1_ n2_ n3_ n4_
          (try clear hb)
          (try clear hb2)
          (try clear hk)
          (try clear hi)
          refine hK.out _ _ ⟨(kC BK643.out 0).trans rfl, (kC BK643.out 1).trans rfl, (kC BK643.out 2).trans rfl, HS3_, HS4_⟩ (fun hHeld => ?_)
          clear hK K
          refine norm_ (a' := ?_) ?_ ?_
          rotate_left
          ·show Act.put _ (some 56) _ = _
           simp only [Act.put, sTA, sZ, sS, i64_w, i32_w]
           rfl
          refine pure_ (i := 6) (N := some 57) (v := ?_) (a' := ?_) #[bY,bY,bY,bY,bY,bY,bY] rfl rfl (by kernel_rfl) (fun _ _ _ h => h) (Or.inl ⟨by rfl, ?_⟩) ?_ ?_
          rotate_left
          ·intro w'
           go_simp
           with_reducible rfl
          rotate_left
          ·simp only [Act.put, sTA, sZ, sS, i64_w, i32_w]
           rfl
          refine done_ (by kernel_rfl) ?_
          try go_wp2
          go_roundg k2
          case measure => have := HJ7.out; have := HK2.out; omega
          case rel => exact ⟨(wrap64 (x9_2 + 1)), (by first | rfl | (simp; done) | (simp [*]; done)), H', ⟨by have := HJ7.out; have := HK2.out; omega⟩, ⟨by (with_reducible repeat (first | apply Kd.R_alloc | apply Kd.R_drewN | apply Kd.R_drew)); exact HO_4.out⟩, ⟨by (with_reducible repeat (first | apply Kd.R_alloc | apply Kd.R_drewN | apply Kd.R_drew)); exact HO_7.out⟩, ⟨by (with_reducible repeat (first | apply Kd.R_alloc | apply Kd.R_drewN | apply Kd.R_drew)); exact HO_8.out⟩, ⟨by (with_reducible repeat (first | refine kDN ?_ _ | refine kD ?_ | refine kA ?_ _)); exact BK643.out⟩, ⟨by repeat (first | (with_reducible first | exact HB.out | apply bAl | apply bDN | apply bD1 | refine bSt ?_ GE643.out) | exact HB.out)⟩⟩
         ·replace c30 := Bool.eq_false_iff.mpr c30
          subst c30
          have H1 : (some false) = some true := by rw [if_neg (show ¬ (false = true) by decide)] at H; exact H
          clear H
          have H := H1
          clear H1
          exact absurd (Option.some.inj H) Bool.false_ne_true
        ·rw [if_neg c28] at H
         exact absurd H (by simp)
       ·rw [if_neg c27] at H
        have c27b0 : decide (x9_2 < (t645.length : Int)) = false := decide_eq_false c27
        clear c27
        replace H := Option.bind_eq_some_iff.mp H
        obtain ⟨t654, A340, H⟩ := H
        replace H : (if (t648.length : Int) = 0 then (none) else (if 0 ≤ (Int.tmod t654 (t648.length : Int)) then (if (Int.tmod t654 (t648.length : Int)) < (t648.length : Int) then ((impl_FollowSigns.f t636 t637 t638 t645 (rd t648 (Int.tmod t654 (t648.length : Int)))).bind fun t656 => ((impl_GoalsFor.f t636 t637 t638 t639 t644).bind fun t659 => ((impl_GoalsFor.f t636 t637 t638 t639 (wrap64 (t644 - 1))).bind fun t662 => ((impl_DistanceOf.f k2 t636 t637 t638 (rd t648 (Int.tmod t654 (t648.length : Int))) t642).bind fun t665 => (if (t656.length : Int) = (wrap64 (t665 + 1)) then (if 0 ≤ (wrap64 ((t656.length : Int) - 1)) then (if (wrap64 ((t656.length : Int) - 1)) < (t656.length : Int) then (if (rd t656 (wrap64 ((t656.length : Int) - 1))) = t642 then ((laws_has.f k2 t659 t642).bind fun t667 => (if t667 = true then ((laws_has.f k2 t662 t642).bind fun t668 => (if t668 = true then (some false) else (if (t662.length : Int) ≤ (t659.length : Int) then ((impl_GoalsFor.f t636 t637 t638 t639 (t639.length : Int)).bind fun t669 => ((spec_CountCells.f t636 t637).bind fun t672 => (some ((t669.length : Int) == t672)))) else (some false)))) else (some false))) else (some false)) else (none)) else (none)) else (some false)))))) else (none)) else (none))) = some true := H
        have A34 := aK A340
        clear A340
        by_cases c35 : (t648.length : Int) = 0
        ·rw [if_pos c35] at H
         exact absurd H (by simp)
        ·rw [if_neg c35] at H
         have c35b0 : ((t648.length : Int) == 0) = false := beq_eq_false_iff_ne.mpr c35
         have c35b1 : ((t648.length : Int) != 0) = true := bne_iff_ne.mpr c35
         have c35b2 : ¬ (t648 = []) := fun h_ => c35 (by rw [h_]; rfl)
         obtain ⟨ji36, hji36⟩ : ∃ j_ : Int, (Int.tmod t654 (t648.length : Int)) = j_ := ⟨_, rfl⟩
         replace H : (if 0 ≤ (ji36) then (if (ji36) < (t648.length : Int) then ((impl_FollowSigns.f t636 t637 t638 t645 (rd t648 (ji36))).bind fun t656 => ((impl_GoalsFor.f t636 t637 t638 t639 t644).bind fun t659 => ((impl_GoalsFor.f t636 t637 t638 t639 (wrap64 (t644 - 1))).bind fun t662 => ((impl_DistanceOf.f k2 t636 t637 t638 (rd t648 (ji36)) t642).bind fun t665 => (if (t656.length : Int) = (wrap64 (t665 + 1)) then (if 0 ≤ (wrap64 ((t656.length : Int) - 1)) then (if (wrap64 ((t656.length : Int) - 1)) < (t656.length : Int) then (if (rd t656 (wrap64 ((t656.length : Int) - 1))) = t642 then ((laws_has.f k2 t659 t642).bind fun t667 => (if t667 = true then ((laws_has.f k2 t662 t642).bind fun t668 => (if t668 = true then (some false) else (if (t662.length : Int) ≤ (t659.length : Int) then ((impl_GoalsFor.f t636 t637 t638 t639 (t639.length : Int)).bind fun t669 => ((spec_CountCells.f t636 t637).bind fun t672 => (some ((t669.length : Int) == t672)))) else (some false)))) else (some false))) else (some false)) else (none)) else (none)) else (some false)))))) else (none)) else (none)) = some true := by first | (rw [hji36] at H; exact H) | (simp only [hji36] at H ⊢; exact H)
         (try rw [hji36] at A34)
         by_cases c37 : 0 ≤ (ji36)
         ·rw [if_pos c37] at H
          have c37b0 : decide (0 ≤ (ji36)) = true := decide_eq_true c37
          clear c37
          by_cases c38 : (ji36) < (t648.length : Int)
          ·rw [if_pos c38] at H
           have c38b0 : decide ((ji36) < (t648.length : Int)) = true := decide_eq_true c38
           clear c38
           replace H := Option.bind_eq_some_iff.mp H
           obtain ⟨t656, A390, H⟩ := H
           replace H : ((impl_GoalsFor.f t636 t637 t638 t639 t644).bind fun t659 => ((impl_GoalsFor.f t636 t637 t638 t639 (wrap64 (t644 - 1))).bind fun t662 => ((impl_DistanceOf.f k2 t636 t637 t638 (rd t648 (ji36)) t642).bind fun t665 => (if (t656.length : Int) = (wrap64 (t665 + 1)) then (if 0 ≤ (wrap64 ((t656.length : Int) - 1)) then (if (wrap64 ((t656.length : Int) - 1)) < (t656.length : Int) then (if (rd t656 (wrap64 ((t656.length : Int) - 1))) = t642 then ((laws_has.f k2 t659 t642).bind fun t667 => (if t667 = true then ((laws_has.f k2 t662 t642).bind fun t668 => (if t668 = true then (some false) else (if (t662.length : Int) ≤ (t659.length : Int) then ((impl_GoalsFor.f t636 t637 t638 t639 (t639.length : Int)).bind fun t669 => ((spec_CountCells.f t636 t637).bind fun t672 => (some ((t669.length : Int) == t672)))) else (some false)))) else (some false))) else (some false)) else (none)) else (none)) else (some false))))) = some true := H
           have A39 := aK A390
           clear A390
           replace H := Option.bind_eq_some_iff.mp H
           obtain ⟨t659, A400, H⟩ := H
           replace H : ((impl_GoalsFor.f t636 t637 t638 t639 (wrap64 (t644 - 1))).bind fun t662 => ((impl_DistanceOf.f k2 t636 t637 t638 (rd t648 (ji36)) t642).bind fun t665 => (if (t656.length : Int) = (wrap64 (t665 + 1)) then (if 0 ≤ (wrap64 ((t656.length : Int) - 1)) then (if (wrap64 ((t656.length : Int) - 1)) < (t656.length : Int) then (if (rd t656 (wrap64 ((t656.length : Int) - 1))) = t642 then ((laws_has.f k2 t659 t642).bind fun t667 => (if t667 = true then ((laws_has.f k2 t662 t642).bind fun t668 => (if t668 = true then (some false) else (if (t662.length : Int) ≤ (t659.length : Int) then ((impl_GoalsFor.f t636 t637 t638 t639 (t639.length : Int)).bind fun t669 => ((spec_CountCells.f t636 t637).bind fun t672 => (some ((t669.length : Int) == t672)))) else (some false)))) else (some false))) else (some false)) else (none)) else (none)) else (some false)))) = some true := H
           have A40 := aK A400
           clear A400
           replace H := Option.bind_eq_some_iff.mp H
           obtain ⟨t662, A410, H⟩ := H
           replace H : ((impl_DistanceOf.f k2 t636 t637 t638 (rd t648 (ji36)) t642).bind fun t665 => (if (t656.length : Int) = (wrap64 (t665 + 1)) then (if 0 ≤ (wrap64 ((t656.length : Int) - 1)) then (if (wrap64 ((t656.length : Int) - 1)) < (t656.length : Int) then (if (rd t656 (wrap64 ((t656.length : Int) - 1))) = t642 then ((laws_has.f k2 t659 t642).bind fun t667 => (if t667 = true then ((laws_has.f k2 t662 t642).bind fun t668 => (if t668 = true then (some false) else (if (t662.length : Int) ≤ (t659.length : Int) then ((impl_GoalsFor.f t636 t637 t638 t639 (t639.length : Int)).bind fun t669 => ((spec_CountCells.f t636 t637).bind fun t672 => (some ((t669.length : Int) == t672)))) else (some false)))) else (some false))) else (some false)) else (none)) else (none)) else (some false))) = some true := H
           have A41 := aK A410
           clear A410
           replace H := Option.bind_eq_some_iff.mp H
           obtain ⟨t665, A420, H⟩ := H
           replace H : (if (t656.length : Int) = (wrap64 (t665 + 1)) then (if 0 ≤ (wrap64 ((t656.length : Int) - 1)) then (if (wrap64 ((t656.length : Int) - 1)) < (t656.length : Int) then (if (rd t656 (wrap64 ((t656.length : Int) - 1))) = t642 then ((laws_has.f k2 t659 t642).bind fun t667 => (if t667 = true then ((laws_has.f k2 t662 t642).bind fun t668 => (if t668 = true then (some false) else (if (t662.length : Int) ≤ (t659.length : Int) then ((impl_GoalsFor.f t636 t637 t638 t639 (t639.length : Int)).bind fun t669 => ((spec_CountCells.f t636 t637).bind fun t672 => (some ((t669.length : Int) == t672)))) else (some false)))) else (some false))) else (some false)) else (none)) else (none)) else (some false)) = some true := H
           have A42 := aK A420
           clear A420
           by_cases c43 : (t656.length : Int) = (wrap64 (t665 + 1))
           ·rw [if_pos c43] at H
            have c43b0 : ((t656.length : Int) == (wrap64 (t665 + 1))) = true := beq_iff_eq.mpr c43
            have c43b1 : ((t656.length : Int) != (wrap64 (t665 + 1))) = false := bne_eq_false_iff_eq.mpr c43
            clear c43
            obtain ⟨ji44, hji44⟩ : ∃ j_ : Int, (wrap64 ((t656.length : Int) - 1)) = j_ := ⟨_, rfl⟩
            replace H : (if 0 ≤ (ji44) then (if (ji44) < (t656.length : Int) then (if (rd t656 (ji44)) = t642 then ((laws_has.f k2 t659 t642).bind fun t667 => (if t667 = true then ((laws_has.f k2 t662 t642).bind fun t668 => (if t668 = true then (some false) else (if (t662.length : Int) ≤ (t659.length : Int) then ((impl_GoalsFor.f t636 t637 t638 t639 (t639.length : Int)).bind fun t669 => ((spec_CountCells.f t636 t637).bind fun t672 => (some ((t669.length : Int) == t672)))) else (some false)))) else (some false))) else (some false)) else (none)) else (none)) = some true := by first | (rw [hji44] at H; exact H) | (simp only [hji44] at H ⊢; exact H)
            (try rw [hji44] at A34)
            (try rw [hji44] at A39)
            (try rw [hji44] at A40)
            (try rw [hji44] at A41)
            (try rw [hji44] at A42)
            have hji44w : (IntKind.i64.wrap ((t656.length : Int) - 1)) = ji44 := (i64_w _).trans hji44
            by_cases c45 : 0 ≤ (ji44)
            ·rw [if_pos c45] at H
             have c45b0 : decide (0 ≤ (ji44)) = true := decide_eq_true c45
             clear c45
             by_cases c46 : (ji44) < (t656.length : Int)
             ·rw [if_pos c46] at H
              have c46b0 : decide ((ji44) < (t656.length : Int)) = true := decide_eq_true c46
              clear c46
              by_cases c47 : (rd t656 (ji44)) = t642
              ·rw [if_pos c47] at H
               have c47b0 : ((rd t656 (ji44)) == t642) = true := beq_iff_eq.mpr c47
               have c47b1 : ((rd t656 (ji44)) != t642) = false := bne_eq_false_iff_eq.mpr c47
               clear c47
               replace H := Option.bind_eq_some_iff.mp H
               obtain ⟨t667, A480, H⟩ := H
               replace H : (if t667 = true then ((laws_has.f k2 t662 t642).bind fun t668 => (if t668 = true then (some false) else (if (t662.length : Int) ≤ (t659.length : Int) then ((impl_GoalsFor.f t636 t637 t638 t639 (t639.length : Int)).bind fun t669 => ((spec_CountCells.f t636 t637).bind fun t672 => (some ((t669.length : Int) == t672)))) else (some false)))) else (some false)) = some true := H
               have A48 := aK A480
               clear A480
               by_cases c49 : t667 = true
               ·subst c49
                have H1 : ((laws_has.f k2 t662 t642).bind fun t668 => (if t668 = true then (some false) else (if (t662.length : Int) ≤ (t659.length : Int) then ((impl_GoalsFor.f t636 t637 t638 t639 (t639.length : Int)).bind fun t669 => ((spec_CountCells.f t636 t637).bind fun t672 => (some ((t669.length : Int) == t672)))) else (some false)))) = some true := by first | (rw [if_pos rfl] at H; exact H) | rfl
                clear H
                have H := H1
                clear H1
                replace H := Option.bind_eq_some_iff.mp H
                obtain ⟨t668, A500, H⟩ := H
                replace H : (if t668 = true then (some false) else (if (t662.length : Int) ≤ (t659.length : Int) then ((impl_GoalsFor.f t636 t637 t638 t639 (t639.length : Int)).bind fun t669 => ((spec_CountCells.f t636 t637).bind fun t672 => (some ((t669.length : Int) == t672)))) else (some false))) = some true := H
                have A50 := aK A500
                clear A500
                by_cases c51 : t668 = true
                ·subst c51
                 have H1 : (some false) = some true := by first | (rw [if_pos rfl] at H; exact H) | rfl
                 clear H
                 have H := H1
                 clear H1
                 exact absurd (Option.some.inj H) Bool.false_ne_true
                ·replace c51 := Bool.eq_false_iff.mpr c51
                 subst c51
                 have H1 : (if (t662.length : Int) ≤ (t659.length : Int) then ((impl_GoalsFor.f t636 t637 t638 t639 (t639.length : Int)).bind fun t669 => ((spec_CountCells.f t636 t637).bind fun t672 => (some ((t669.length : Int) == t672)))) else (some false)) = some true := by rw [if_neg (show ¬ (false = true) by decide)] at H; exact H
                 clear H
                 have H := H1
                 clear H1
                 by_cases c52 : (t662.length : Int) ≤ (t659.length : Int)
                 ·rw [if_pos c52] at H
                  have c52b0 : decide ((t662.length : Int) ≤ (t659.length : Int)) = true := decide_eq_true c52
                  have c52b1 : decide (t662.length ≤ t659.length) = true := decide_eq_true (Int.ofNat_le.mp c52)
                  clear c52
                  replace H := Option.bind_eq_some_iff.mp H
                  obtain ⟨t669, A530, H⟩ := H
                  replace H : ((spec_CountCells.f t636 t637).bind fun t672 => (some ((t669.length : Int) == t672))) = some true := H
                  have A53 := aK A530
                  clear A530
                  replace H := Option.bind_eq_some_iff.mp H
                  obtain ⟨t672, A540, H⟩ := H
                  replace H : (some ((t669.length : Int) == t672)) = some true := H
                  have A54 := aK A540
                  clear A540
                  have HT := Option.some.inj H
                  obtain ⟨Ao55, co55, eo55⟩ := Kd.R_slice HO_7.out
                  subst eo55
                  try go_wp2_with (first | ((with_reducible refine gate_callee (f := 25) rfl ?_); refine goesL_ (some 60) rfl rfl Try.func25 (by kernel_rfl) rfl #[.slice A0 l0.length c0, .int .i64 0] rfl (by (try simp only [List.map_toArray, List.map_cons, List.map_nil]); first | done | rfl | (simp only [List.length_drop, List.length_take]; rfl)) ?_; (with_reducible refine (laws_at.calls _ _ l0 0 t654 _ ?side1 ?side2 A34.out).mono ?_); (case side1 => repeat (first | exact (Kd.C_below HR0.out HB.out) | (with_reducible refine Kd.C_alloc ?_ _) | (with_reducible refine Kd.C_drewN ?_ _) | (with_reducible refine Kd.C_drew ?_))); (case side2 => exact HC0.out); rintro e w' ⟨rfl, ⟨nd, rfl⟩⟩; refine ⟨_, rfl, ?_⟩; obtain ⟨Ao56, co56, eo56⟩ := Kd.R_slice HO_8.out; subst eo56; have p655 : 0 ≤ ((ji36) : Int) := of_decide_eq_true (by first | (with_reducible assumption) | assumption); have q655 : (ji36) < (t648.length : Int) := of_decide_eq_true (by first | (with_reducible assumption) | assumption); obtain ⟨ad655, e655, hx655_0⟩ := Kd.at_int (Kd.R_reads' HO_8.out).2.2 (ji36) p655 q655; cases e655; replace p655 := eq_true p655; replace q655 := eq_true q655; obtain ⟨hcz57_0, hcz57_1, hcz57_2, hfz57_0, hfz57_1, hfz57_2⟩ := cl3 BK643.out) | ((with_reducible refine gate_callee (f := 26) rfl ?_); refine goesL_ (some 69) rfl rfl Try.func26 (by kernel_rfl) rfl #[.agg #[.int .i64 t636, .int .i64 t637, .int .i64 t638], .slice Ao55 t645.length co55, .int .i64 (rd t648 (ji36))] rfl (by (try simp only [List.map_toArray, List.map_cons, List.map_nil]); first | done | (simp only [hji36]; rfl) | rfl | (simp only [List.length_drop, List.length_take]; rfl)) ?_; (with_reducible refine (impl_FollowSigns.calls t636 t637 t638 _ _ t645 (rd t648 (ji36)) t656 _ ?side1 ?side2 A39.out).mono ?_); (case side1 => repeat (first | exact (Kd.R_reads' HO_7.out).2.2 | (with_reducible refine Kd.C_alloc ?_ _) | (with_reducible refine Kd.C_drewN ?_ _) | (with_reducible refine Kd.C_drew ?_))); (case side2 => exact (Kd.R_reads' HO_7.out).2.1); rintro e w58 ⟨v657, rfl, ho0, hb⟩; refine ⟨_, rfl, ?_⟩; have n0_ := aK (Kd.R_below (by (with_reducible repeat (first | apply Kd.R_alloc | apply Kd.R_drewN | apply Kd.R_drew)); exact HO_4.out) hb); have n1_ := aK (Kd.R_below (by (with_reducible repeat (first | apply Kd.R_alloc | apply Kd.R_drewN | apply Kd.R_drew)); exact HO_7.out) hb); have n2_ := aK (Kd.R_elder' (by (with_reducible repeat (first | apply Kd.R_alloc | apply Kd.R_drewN | apply Kd.R_drew)); exact HO_8.out) (Kd.R_base ho0) hb); have n3_ := aK (Kd.R_lower (Kd.R_new' ho0 (Kd.R_lt (by (with_reducible repeat (first | apply Kd.R_alloc | apply Kd.R_drewN | apply Kd.R_drew)); exact HO_8.out))) (bSz (by repeat (first | (with_reducible first | exact HB.out | apply bAl | apply bDN | apply bD1 | refine bSt ?_ GE643.out) | exact HB.out)))); have n4_ := bkb BK643 hb (by intro z_; (with_reducible repeat (first | refine kDN ?_ _ | refine kD ?_ | refine kA ?_ _)); exact z_); have n5_ := aK (bSp (by repeat (first | (with_reducible first | exact HB.out | apply bAl | apply bDN | apply bD1 | refine bSt ?_ GE643.out) | exact HB.out)) hb); clear HO_4; clear HO_7; clear HO_8; clear BK643; clear HB; have HO_4 := n0_; have HO_7 := n1_; have HO_8 := n2_; have HO658 := n3_; have BK643 := n4_; have HB := n5_; clear n0_ n1_ n2_ n3_ n4_ n5_; (try clear hb); (try clear hb2); (try clear hk); (try clear hi); (try clear ho0); obtain ⟨hcz59_0, hcz59_1, hcz59_2, hfz59_0, hfz59_1, hfz59_2⟩ := cl3 BK643.out) | ((with_reducible refine gate_callee (f := 27) rfl ?_); refine goesL_ (some 73) rfl rfl Try.func27 (by kernel_rfl) rfl #[.agg #[.int .i64 t636, .int .i64 t637, .int .i64 t638], .slice Ao12 t639.length co12, .int .i64 t644] rfl (by (try simp only [List.map_toArray, List.map_cons, List.map_nil]); first | done | rfl | (simp only [List.length_drop, List.length_take]; rfl)) ?_; (with_reducible refine (impl_GoalsFor.calls t636 t637 t638 _ _ t639 t644 t659 _ ?side1 ?side2 A40.out).mono ?_); (case side1 => repeat (first | exact (Kd.R_reads' HO_4.out).2.2 | (with_reducible refine Kd.C_alloc ?_ _) | (with_reducible refine Kd.C_drewN ?_ _) | (with_reducible refine Kd.C_drew ?_))); (case side2 => exact (Kd.R_reads' HO_4.out).2.1); rintro e w60 ⟨v660, rfl, ho0, hb⟩; refine ⟨_, rfl, ?_⟩; have n0_ := aK (Kd.R_below (by (with_reducible repeat (first | apply Kd.R_alloc | apply Kd.R_drewN | apply Kd.R_drew)); exact HO_4.out) hb); have n1_ := aK (Kd.R_below (by (with_reducible repeat (first | apply Kd.R_alloc | apply Kd.R_drewN | apply Kd.R_drew)); exact HO_7.out) hb); have n2_ := aK (Kd.R_elder' (by (with_reducible repeat (first | apply Kd.R_alloc | apply Kd.R_drewN | apply Kd.R_drew)); exact HO_8.out) (Kd.R_base ho0) hb); have n3_ := aK (Kd.R_elder' (by (with_reducible repeat (first | apply Kd.R_alloc | apply Kd.R_drewN | apply Kd.R_drew)); exact HO658.out) (Kd.R_base ho0) hb); have n4_ := aK (Kd.R_lower (Kd.R_new' (Kd.R_new' ho0 (Kd.R_lt (by (with_reducible repeat (first | apply Kd.R_alloc | apply Kd.R_drewN | apply Kd.R_drew)); exact HO_8.out))) (Kd.R_lt (by (with_reducible repeat (first | apply Kd.R_alloc | apply Kd.R_drewN | apply Kd.R_drew)); exact HO658.out))) (bSz (by repeat (first | (with_reducible first | exact HB.out | apply bAl | apply bDN | apply bD1 | refine bSt ?_ GE643.out) | exact HB.out)))); have n5_ := bkb BK643 hb (by intro z_; (with_reducible repeat (first | refine kDN ?_ _ | refine kD ?_ | refine kA ?_ _)); exact z_); have n6_ := aK (bSp (by repeat (first | (with_reducible first | exact HB.out | apply bAl | apply bDN | apply bD1 | refine bSt ?_ GE643.out) | exact HB.out)) hb); clear HO_4; clear HO_7; clear HO_8; clear HO658; clear BK643; clear HB; have HO_4 := n0_; have HO_7 := n1_; have HO_8 := n2_; have HO658 := n3_; have HO661 := n4_; have BK643 := n5_; have HB := n6_; clear n0_ n1_ n2_ n3_ n4_ n5_ n6_; (try clear hb); (try clear hb2); (try clear hk); (try clear hi); (try clear ho0); obtain ⟨hcz61_0, hcz61_1, hcz61_2, hfz61_0, hfz61_1, hfz61_2⟩ := cl3 BK643.out) | ((with_reducible refine gate_callee (f := 27) rfl ?_); refine goesL_ (some 78) rfl rfl Try.func27 (by kernel_rfl) rfl #[.agg #[.int .i64 t636, .int .i64 t637, .int .i64 t638], .slice Ao12 t639.length co12, .int .i64 (wrap64 (t644 - 1))] rfl (by (try simp only [List.map_toArray, List.map_cons, List.map_nil]); first | done | rfl | (simp only [List.length_drop, List.length_take]; rfl)) ?_; (with_reducible refine (impl_GoalsFor.calls t636 t637 t638 _ _ t639 (wrap64 (t644 - 1)) t662 _ ?side1 ?side2 A41.out).mono ?_); (case side1 => repeat (first | exact (Kd.R_reads' HO_4.out).2.2 | (with_reducible refine Kd.C_alloc ?_ _) | (with_reducible refine Kd.C_drewN ?_ _) | (with_reducible refine Kd.C_drew ?_))); (case side2 => exact (Kd.R_reads' HO_4.out).2.1); rintro e w62 ⟨v663, rfl, ho0, hb⟩; refine ⟨_, rfl, ?_⟩; have n0_ := aK (Kd.R_below (by (with_reducible repeat (first | apply Kd.R_alloc | apply Kd.R_drewN | apply Kd.R_drew)); exact HO_4.out) hb); have n1_ := aK (Kd.R_below (by (with_reducible repeat (first | apply Kd.R_alloc | apply Kd.R_drewN | apply Kd.R_drew)); exact HO_7.out) hb); have n2_ := aK (Kd.R_elder' (by (with_reducible repeat (first | apply Kd.R_alloc | apply Kd.R_drewN | apply Kd.R_drew)); exact HO_8.out) (Kd.R_base ho0) hb); have n3_ := aK (Kd.R_elder' (by (with_reducible repeat (first | apply Kd.R_alloc | apply Kd.R_drewN | apply Kd.R_drew)); exact HO658.out) (Kd.R_base ho0) hb); have n4_ := aK (Kd.R_elder' (by (with_reducible repeat (first | apply Kd.R_alloc | apply Kd.R_drewN | apply Kd.R_drew)); exact HO661.out) (Kd.R_base ho0) hb); have n5_ := aK (Kd.R_lower (Kd.R_new' (Kd.R_new' (Kd.R_new' ho0 (Kd.R_lt (by (with_reducible repeat (first | apply Kd.R_alloc | apply Kd.R_drewN | apply Kd.R_drew)); exact HO_8.out))) (Kd.R_lt (by (with_reducible repeat (first | apply Kd.R_alloc | apply Kd.R_drewN | apply Kd.R_drew)); exact HO658.out))) (Kd.R_lt (by (with_reducible repeat (first | apply Kd.R_alloc | apply Kd.R_drewN | apply Kd.R_drew)); exact HO661.out))) (bSz (by repeat (first | (with_reducible first | exact HB.out | apply bAl | apply bDN | apply bD1 | refine bSt ?_ GE643.out) | exact HB.out)))); have n6_ := bkb BK643 hb (by intro z_; (with_reducible repeat (first | refine kDN ?_ _ | refine kD ?_ | refine kA ?_ _)); exact z_); have n7_ := aK (bSp (by repeat (first | (with_reducible first | exact HB.out | apply bAl | apply bDN | apply bD1 | refine bSt ?_ GE643.out) | exact HB.out)) hb); clear HO_4; clear HO_7; clear HO_8; clear HO658; clear HO661; clear BK643; clear HB; have HO_4 := n0_; have HO_7 := n1_; have HO_8 := n2_; have HO658 := n3_; have HO661 := n4_; have HO664 := n5_; have BK643 := n6_; have HB := n7_; clear n0_ n1_ n2_ n3_ n4_ n5_ n6_ n7_; (try clear hb); (try clear hb2); (try clear hk); (try clear hi); (try clear ho0)))
                  have n0_ := aK (Kd.R_drew HO_4.out)
                  have n1_ := aK (Kd.R_drew HO_7.out)
                  have n2_ := aK (Kd.R_drew HO_8.out)
                  have n3_ := aK (Kd.R_drew HO658.out)
                  have n4_ := aK (Kd.R_drew HO661.out)
                  have n5_ := aK (Kd.R_drew HO664.out)
                  have n6_ := aK (kD BK643.out)
                  have n7_ := aK (bD1 HB.out)
                  clear HO_4
                  clear HO_7
                  clear HO_8
                  clear HO658
                  clear HO661
                  clear HO664
                  clear BK643
                  clear HB
                  have HO_4 := n0_
                  have HO_7 := n1_
                  have HO_8 := n2_
                  have HO658 := n3_
                  have HO661 := n4_
                  have HO664 := n5_
                  have BK643 := n6_
                  have HB := n7_
                  clear n0_ n1_ n2_ n3_ n4_ n5_ n6_ n7_
                  obtain ⟨Ao64, co64, eo64⟩ := Kd.R_slice HO658.out
                  (first | subst eo64 | (injection eo64 with f1_ f2_ f3_; have f4_ := f1_.symm; have f5_ := f3_.symm; clear f1_ f2_ f3_; subst f4_; subst f5_))
                  have p666 : 0 ≤ ((ji44) : Int) := of_decide_eq_true (by first | (with_reducible assumption) | assumption)
                  have q666 : (ji44) < (t656.length : Int) := of_decide_eq_true (by first | (with_reducible assumption) | assumption)
                  obtain ⟨ad666, e666, hx666_0⟩ := Kd.at_int (Kd.R_reads' HO658.out).2.2 (ji44) p666 q666
                  cases e666
                  replace p666 := eq_true p666
                  replace q666 := eq_true q666
                  refine start_ (n := 49) (S := fun w' => w'.cell? ⟨gb643, 0, none⟩ = some (.int .i64 t636) ∧ w'.cell? ⟨gb643, 1, none⟩ = some (.int .i64 t637) ∧ w'.cell? ⟨gb643, 2, none⟩ = some (.int .i64 t638) ∧ w'.cell? (ad666.add ((ji44)).toNat) = some (.int .i64 (rd t656 (ji44)))) (ds := []) #[bN,bN,bN,bN,bN,bN,bN,bN,bN,bN,bN,bN,bN,bN,bN,bN,bN,bN,bN,bN,bN,bN,bN,bN,bN,bN,bN,bN,bN,bN,bN,bN,bN,bN,bN,bN,bN,bN,bN,bN,bN,bN,bN,bN,bN,bN,bN,bN,bN] (by kernel_rfl) rfl rfl ⟨(kC BK643.out 0).trans rfl, (kC BK643.out 1).trans rfl, (kC BK643.out 2).trans rfl, hx666_0⟩ (fun hHeld => ?_); refine with_tabW laws_FnSigns.tab18 laws_FnSigns.bits18 (fun HT_ HW_ => ?_)
                  generalize w62.drew = w63 at HO_4 HO_7 HO_8 HO658 HO661 HO664 BK643 HB hx666_0 hHeld ⊢
                  refine pure_ (i := 0) (N := some 79) (v := ?_) (a' := ?_) #[bY,bN,bN,bN,bN,bN,bN,bN,bN,bN,bN,bN,bN,bN,bN,bN,bN,bN,bN,bN,bN,bN,bN,bN,bN,bN,bN,bN,bN,bN,bN,bN,bN,bN,bN,bN,bN,bN,bN,bN,bN,bN,bN,bN,bN,bN,bN,bN,bN] rfl rfl (any_of HT_.out (by kernel_rfl)) (fun _ _ _ h => h) (Or.inl ⟨by rfl, ?_⟩) ?_ ?_
                  rotate_left
                  ·intro w'
                   go_simp
                   with_reducible rfl
                  rotate_left
                  ·simp only [Act.put, sTA, sZ, sS, i64_w, i32_w]
                   rfl
                  refine pure_ (i := 1) (N := some 80) (v := ?_) (a' := ?_) #[bY,bY,bN,bN,bN,bN,bN,bN,bN,bN,bN,bN,bN,bN,bN,bN,bN,bN,bN,bN,bN,bN,bN,bN,bN,bN,bN,bN,bN,bN,bN,bN,bN,bN,bN,bN,bN,bN,bN,bN,bN,bN,bN,bN,bN,bN,bN,bN,bN] rfl rfl (any_of HT_.out (by kernel_rfl)) (fun _ _ _ h => h) (Or.inl ⟨by rfl, ?_⟩) ?_ ?_
                  rotate_left
                  ·intro w'
                   go_simp
                   with_reducible rfl
                  rotate_left
                  ·simp only [Act.put, sTA, sZ, sS, i64_w, i32_w]
                   rfl
                  refine pure_ (i := 3) (N := some 82) (v := ?_) (a' := ?_) #[bY,bY,bN,bY,bN,bN,bN,bN,bN,bN,bN,bN,bN,bN,bN,bN,bN,bN,bN,bN,bN,bN,bN,bN,bN,bN,bN,bN,bN,bN,bN,bN,bN,bN,bN,bN,bN,bN,bN,bN,bN,bN,bN,bN,bN,bN,bN,bN,bN] rfl rfl (any_of HT_.out (by kernel_rfl)) (fun _ _ _ h => h) (Or.inl ⟨by rfl, ?_⟩) ?_ ?_
                  rotate_left
                  ·intro w'
                   go_simp
                   with_reducible rfl
                  rotate_left
                  ·simp only [Act.put, sTA, sZ, sS, i64_w, i32_w]
                   rfl
                  refine pure_ (i := 4) (N := some 83) (v := ?_) (a' := ?_) #[bY,bY,bN,bY,bY,bN,bN,bN,bN,bN,bN,bN,bN,bN,bN,bN,bN,bN,bN,bN,bN,bN,bN,bN,bN,bN,bN,bN,bN,bN,bN,bN,bN,bN,bN,bN,bN,bN,bN,bN,bN,bN,bN,bN,bN,bN,bN,bN,bN] rfl rfl (any_of HT_.out (by kernel_rfl)) (fun _ _ _ h => h) (Or.inl ⟨by rfl, ?_⟩) ?_ ?_
                  rotate_left
                  ·intro w'
                   go_simp
                   with_reducible rfl
                  rotate_left
                  ·simp only [Act.put, sTA, sZ, sS, i64_w, i32_w]
                   rfl
                  refine take_ (i := 2) (N := some 81) (v := ?_) (a' := ?_) #[bY,bY,bY,bY,bY,bN,bN,bN,bN,bN,bN,bN,bN,bN,bN,bN,bN,bN,bN,bN,bN,bN,bN,bN,bN,bN,bN,bN,bN,bN,bN,bN,bN,bN,bN,bN,bN,bN,bN,bN,bN,bN,bN,bN,bN,bN,bN,bN,bN] rfl rfl (take_ofW HT_.out HW_.out (by kernel_rfl)) (fun _ _ _ h => h) (Or.inl ⟨by rfl, ?_⟩) hHeld ?_ ?_
                  rotate_left
                  ·rintro w' ⟨s0, s1, s2, s3⟩
                   go_simp
                   with_reducible rfl
                  rotate_left
                  ·simp only [Act.put, sTA, sZ, sS, i64_w, i32_w]
                   rfl
                  refine one_ (i := 5) (N := some 84) #[bY,bY,bY,bY,bY,bY,bN,bN,bN,bN,bN,bN,bN,bN,bN,bN,bN,bN,bN,bN,bN,bN,bN,bN,bN,bN,bN,bN,bN,bN,bN,bN,bN,bN,bN,bN,bN,bN,bN,bN,bN,bN,bN,bN,bN,bN,bN,bN,bN] rfl rfl (one_of HT_.out (by kernel_rfl)) (by decide) (fun K hK => ?_)
                  refine goes_ Try.func28 (by kernel_rfl) rfl #[.agg #[.int .i64 t636, .int .i64 t637, .int .i64 t638], .int .i64 (rd t648 (ji36)), .int .i64 t642] (by rfl) rfl rfl (by (try simp only [List.map_toArray, List.map_cons, List.map_nil]); first | done | (simp only [hji36]; rfl) | rfl | (simp only [List.length_drop, List.length_take]; rfl)) ?_
                  with_reducible refine (impl_DistanceOf.calls k2 t636 t637 t638 (rd t648 (ji36)) t642 t665 _ A42.out).mono ?_
                  rintro e w65 ⟨rfl, hb⟩
                  have HS3_ := (hb.cell (World.block_lt_of_cell? _ _ (hHeld.2.2.2))).trans (hHeld.2.2.2)
                  refine ⟨_, rfl, ?_⟩
                  have n0_ := aK (Kd.R_below (by (with_reducible repeat (first | apply Kd.R_alloc | apply Kd.R_drewN | apply Kd.R_drew)); exact HO_4.out) hb)
                  have n1_ := aK (Kd.R_below (by (with_reducible repeat (first | apply Kd.R_alloc | apply Kd.R_drewN | apply Kd.R_drew)); exact HO_7.out) hb)
                  have n2_ := aK (Kd.R_below (by (with_reducible repeat (first | apply Kd.R_alloc | apply Kd.R_drewN | apply Kd.R_drew)); exact HO_8.out) hb)
                  have n3_ := aK (Kd.R_below (by (with_reducible repeat (first | apply Kd.R_alloc | apply Kd.R_drewN | apply Kd.R_drew)); exact HO658.out) hb)
                  have n4_ := aK (Kd.R_below (by (with_reducible repeat (first | apply Kd.R_alloc | apply Kd.R_drewN | apply Kd.R_drew)); exact HO661.out) hb)
                  have n5_ := aK (Kd.R_below (by (with_reducible repeat (first | apply Kd.R_alloc | apply Kd.R_drewN | apply Kd.R_drew)); exact HO664.out) hb)
                  have n6_ := bkb BK643 hb (by intro z_; (with_reducible repeat (first | refine kDN ?_ _ | refine kD ?_ | refine kA ?_ _)); exact z_)
                  have n7_ := aK (bSp (by repeat (first | (with_reducible first | exact HB.out | apply bAl | apply bDN | apply bD1 | refine bSt ?_ GE643.out) | exact HB.out)) hb)
                  clear HO_4
                  clear HO_7
                  clear HO_8
                  clear HO658
                  clear HO661
                  clear HO664
                  clear BK643
                  clear HB
                  have HO_4 := n0_
                  have HO_7 := n1_
                  have HO_8 := n2_
                  have HO658 := n3_
                  have HO661 := n4_
                  have HO664 := n5_
                  have BK643 := n6_
                  have HB := n7_
                  clear n0_ n1_ n2_ n3_ n4_ n5_ n6_ n7_
                  (try clear hb)
                  (try clear hb2)
                  (try clear hk)
                  (try clear hi)
                  obtain ⟨Ao66, co66, eo66⟩ := Kd.R_slice HO661.out
                  (first | subst eo66 | (injection eo66 with f1_ f2_ f3_; have f4_ := f1_.symm; have f5_ := f3_.symm; clear f1_ f2_ f3_; subst f4_; subst f5_))
                  refine hK.out _ _ ⟨(kC BK643.out 0).trans rfl, (kC BK643.out 1).trans rfl, (kC BK643.out 2).trans rfl, HS3_⟩ (fun hHeld => ?_)
                  clear hK K
                  refine norm_ (a' := ?_) ?_ ?_
                  rotate_left
                  ·show Act.put _ (some 84) _ = _
                   simp only [Act.put, sTA, sZ, sS, i64_w, i32_w]
                   rfl
                  refine pure_ (i := 6) (N := some 85) (v := ?_) (a' := ?_) #[bY,bY,bY,bY,bY,bY,bY,bN,bN,bN,bN,bN,bN,bN,bN,bN,bN,bN,bN,bN,bN,bN,bN,bN,bN,bN,bN,bN,bN,bN,bN,bN,bN,bN,bN,bN,bN,bN,bN,bN,bN,bN,bN,bN,bN,bN,bN,bN,bN] rfl rfl (any_of HT_.out (by kernel_rfl)) (fun _ _ _ h => h) (Or.inl ⟨by rfl, ?_⟩) ?_ ?_
                  rotate_left
                  ·intro w'
                   go_simp
                   with_reducible rfl
                  rotate_left
                  ·simp only [Act.put, sTA, sZ, sS, i64_w, i32_w]
                   rfl
                  refine pure_ (i := 7) (N := some 86) (v := ?_) (a' := ?_) #[bY,bY,bY,bY,bY,bY,bY,bY,bN,bN,bN,bN,bN,bN,bN,bN,bN,bN,bN,bN,bN,bN,bN,bN,bN,bN,bN,bN,bN,bN,bN,bN,bN,bN,bN,bN,bN,bN,bN,bN,bN,bN,bN,bN,bN,bN,bN,bN,bN] rfl rfl (any_of HT_.out (by kernel_rfl)) (fun _ _ _ h => h) (Or.inl ⟨by rfl, ?_⟩) ?_ ?_
                  rotate_left
                  ·intro w'
                   go_simp
                   with_reducible rfl
                  rotate_left
                  ·simp only [Act.put, sTA, sZ, sS, i64_w, i32_w]
                   rfl
                  refine pure_ (i := 8) (N := some 87) (v := ?_) (a' := ?_) #[bY,bY,bY,bY,bY,bY,bY,bY,bY,bN,bN,bN,bN,bN,bN,bN,bN,bN,bN,bN,bN,bN,bN,bN,bN,bN,bN,bN,bN,bN,bN,bN,bN,bN,bN,bN,bN,bN,bN,bN,bN,bN,bN,bN,bN,bN,bN,bN,bN] rfl rfl (any_of HT_.out (by kernel_rfl)) (fun _ _ _ h => h) (Or.inl ⟨by rfl, ?_⟩) ?_ ?_
                  rotate_left
                  ·intro w'
                   go_simp
                   with_reducible rfl
                  rotate_left
                  ·simp only [Act.put, sTA, sZ, sS, i64_w, i32_w]
                   rfl
                  refine pure_ (i := 9) (N := some 88) (v := ?_) (a' := ?_) #[bY,bY,bY,bY,bY,bY,bY,bY,bY,bY,bN,bN,bN,bN,bN,bN,bN,bN,bN,bN,bN,bN,bN,bN,bN,bN,bN,bN,bN,bN,bN,bN,bN,bN,bN,bN,bN,bN,bN,bN,bN,bN,bN,bN,bN,bN,bN,bN,bN] rfl rfl (any_of HT_.out (by kernel_rfl)) (fun _ _ _ h => h) (Or.inl ⟨by rfl, ?_⟩) ?_ ?_
                  rotate_left
                  ·intro w'
                   go_simp
                   with_reducible rfl
                  rotate_left
                  ·simp only [Act.put, sTA, sZ, sS, i64_w, i32_w]
                   rfl
                  refine pure_ (i := 10) (N := some 89) (v := ?_) (a' := ?_) #[bY,bY,bY,bY,bY,bY,bY,bY,bY,bY,bY,bN,bN,bN,bN,bN,bN,bN,bN,bN,bN,bN,bN,bN,bN,bN,bN,bN,bN,bN,bN,bN,bN,bN,bN,bN,bN,bN,bN,bN,bN,bN,bN,bN,bN,bN,bN,bN,bN] rfl rfl (any_of HT_.out (by kernel_rfl)) (fun _ _ _ h => h) (Or.inl ⟨by rfl, ?_⟩) ?_ ?_
                  rotate_left
                  ·intro w'
                   go_simp
                   with_reducible rfl
                  rotate_left
                  ·simp only [Act.put, sTA, sZ, sS, i64_w, i32_w]
                   rfl
                  refine pure_ (i := 11) (N := some 90) (v := ?_) (a' := ?_) #[bY,bY,bY,bY,bY,bY,bY,bY,bY,bY,bY,bY,bN,bN,bN,bN,bN,bN,bN,bN,bN,bN,bN,bN,bN,bN,bN,bN,bN,bN,bN,bN,bN,bN,bN,bN,bN,bN,bN,bN,bN,bN,bN,bN,bN,bN,bN,bN,bN] rfl rfl (any_of HT_.out (by kernel_rfl)) (fun _ _ _ h => h) (Or.inl ⟨by rfl, ?_⟩) ?_ ?_
                  rotate_left
                  ·intro w'
                   go_simp
                   with_reducible rfl
                  rotate_left
                  ·simp only [Act.put, sTA, sZ, sS, i64_w, i32_w]
                   rfl
                  refine pure_ (i := 12) (N := some 91) (v := ?_) (a' := ?_) #[bY,bY,bY,bY,bY,bY,bY,bY,bY,bY,bY,bY,bY,bN,bN,bN,bN,bN,bN,bN,bN,bN,bN,bN,bN,bN,bN,bN,bN,bN,bN,bN,bN,bN,bN,bN,bN,bN,bN,bN,bN,bN,bN,bN,bN,bN,bN,bN,bN] rfl rfl (any_of HT_.out (by kernel_rfl)) (fun _ _ _ h => h) (Or.inl ⟨by rfl, ?_⟩) ?_ ?_
                  rotate_left
                  ·intro w'
                   go_simp
                   with_reducible rfl
                  rotate_left
                  ·simp only [Act.put, sTA, sZ, sS, i64_w, i32_w]
                   rfl
                  refine pure_ (i := 13) (N := some 92) (v := ?_) (a' := ?_) #[bY,bY,bY,bY,bY,bY,bY,bY,bY,bY,bY,bY,bY,bY,bN,bN,bN,bN,bN,bN,bN,bN,bN,bN,bN,bN,bN,bN,bN,bN,bN,bN,bN,bN,bN,bN,bN,bN,bN,bN,bN,bN,bN,bN,bN,bN,bN,bN,bN] rfl rfl (any_of HT_.out (by kernel_rfl)) (fun _ _ _ h => h) (Or.inl ⟨by rfl, ?_⟩) ?_ ?_
                  rotate_left
                  ·intro w'
                   go_simp
                   with_reducible rfl
                  rotate_left
                  ·simp only [Act.put, sTA, sZ, sS, i64_w, i32_w]
                   rfl
                  refine pure_ (i := 15) (N := some 94) (v := ?_) (a' := ?_) #[bY,bY,bY,bY,bY,bY,bY,bY,bY,bY,bY,bY,bY,bY,bN,bY,bN,bN,bN,bN,bN,bN,bN,bN,bN,bN,bN,bN,bN,bN,bN,bN,bN,bN,bN,bN,bN,bN,bN,bN,bN,bN,bN,bN,bN,bN,bN,bN,bN] rfl rfl (any_of HT_.out (by kernel_rfl)) (fun _ _ _ h => h) (Or.inl ⟨by rfl, ?_⟩) ?_ ?_
                  rotate_left
                  ·intro w'
                   go_simp
                   with_reducible rfl
                  rotate_left
                  ·simp only [Act.put, sTA, sZ, sS, i64_w, i32_w]
                   rfl
                  refine take_ (i := 14) (N := some 93) (v := ?_) (a' := ?_) #[bY,bY,bY,bY,bY,bY,bY,bY,bY,bY,bY,bY,bY,bY,bY,bY,bN,bN,bN,bN,bN,bN,bN,bN,bN,bN,bN,bN,bN,bN,bN,bN,bN,bN,bN,bN,bN,bN,bN,bN,bN,bN,bN,bN,bN,bN,bN,bN,bN] rfl rfl (take_ofW HT_.out HW_.out (by kernel_rfl)) (fun _ _ _ h => h) (Or.inl ⟨by rfl, ?_⟩) hHeld ?_ ?_
                  rotate_left
                  ·rintro w' ⟨s0, s1, s2, s3⟩
                   go_simp
                   with_reducible rfl
                  rotate_left
                  ·simp only [Act.put, sTA, sZ, sS, i64_w, i32_w]
                   rfl
                  refine pure_ (i := 16) (N := some 95) (v := ?_) (a' := ?_) #[bY,bY,bY,bY,bY,bY,bY,bY,bY,bY,bY,bY,bY,bY,bY,bY,bY,bN,bN,bN,bN,bN,bN,bN,bN,bN,bN,bN,bN,bN,bN,bN,bN,bN,bN,bN,bN,bN,bN,bN,bN,bN,bN,bN,bN,bN,bN,bN,bN] rfl rfl (any_of HT_.out (by kernel_rfl)) (fun _ _ _ h => h) (Or.inl ⟨by rfl, ?_⟩) ?_ ?_
                  rotate_left
                  ·intro w'
                   go_simp
                   with_reducible rfl
                  rotate_left
                  ·simp only [Act.put, sTA, sZ, sS, i64_w, i32_w]
                   rfl
                  refine pure_ (i := 17) (N := some 96) (v := ?_) (a' := ?_) #[bY,bY,bY,bY,bY,bY,bY,bY,bY,bY,bY,bY,bY,bY,bY,bY,bY,bY,bN,bN,bN,bN,bN,bN,bN,bN,bN,bN,bN,bN,bN,bN,bN,bN,bN,bN,bN,bN,bN,bN,bN,bN,bN,bN,bN,bN,bN,bN,bN] rfl rfl (any_of HT_.out (by kernel_rfl)) (fun _ _ _ h => h) (Or.inl ⟨by rfl, ?_⟩) ?_ ?_
                  rotate_left
                  ·intro w'
                   go_simp
                   with_reducible rfl
                  rotate_left
                  ·simp only [Act.put, sTA, sZ, sS, i64_w, i32_w]
                   rfl
                  refine pure_ (i := 18) (N := some 97) (v := ?_) (a' := ?_) #[bY,bY,bY,bY,bY,bY,bY,bY,bY,bY,bY,bY,bY,bY,bY,bY,bY,bY,bY,bN,bN,bN,bN,bN,bN,bN,bN,bN,bN,bN,bN,bN,bN,bN,bN,bN,bN,bN,bN,bN,bN,bN,bN,bN,bN,bN,bN,bN,bN] rfl rfl (any_of HT_.out (by kernel_rfl)) (fun _ _ _ h => h) (Or.inl ⟨by rfl, ?_⟩) ?_ ?_
                  rotate_left
                  ·intro w'
                   go_simp
                   with_reducible rfl
                  rotate_left
                  ·simp only [Act.put, sTA, sZ, sS, i64_w, i32_w]
                   rfl
                  refine pure_ (i := 19) (N := some 98) (v := ?_) (a' := ?_) #[bY,bY,bY,bY,bY,bY,bY,bY,bY,bY,bY,bY,bY,bY,bY,bY,bY,bY,bY,bY,bN,bN,bN,bN,bN,bN,bN,bN,bN,bN,bN,bN,bN,bN,bN,bN,bN,bN,bN,bN,bN,bN,bN,bN,bN,bN,bN,bN,bN] rfl rfl (any_of HT_.out (by kernel_rfl)) (fun _ _ _ h => h) (Or.inl ⟨by rfl, ?_⟩) ?_ ?_
                  rotate_left
                  ·intro w'
                   go_simp
                   with_reducible rfl
                  rotate_left
                  ·simp only [Act.put, sTA, sZ, sS, i64_w, i32_w]
                   rfl
                  refine pure_ (i := 20) (N := some 99) (v := ?_) (a' := ?_) #[bY,bY,bY,bY,bY,bY,bY,bY,bY,bY,bY,bY,bY,bY,bY,bY,bY,bY,bY,bY,bY,bN,bN,bN,bN,bN,bN,bN,bN,bN,bN,bN,bN,bN,bN,bN,bN,bN,bN,bN,bN,bN,bN,bN,bN,bN,bN,bN,bN] rfl rfl (any_of HT_.out (by kernel_rfl)) (fun _ _ _ h => h) (Or.inl ⟨by rfl, ?_⟩) ?_ ?_
                  rotate_left
                  ·intro w'
                   go_simp
                   with_reducible rfl
                  rotate_left
                  ·simp only [Act.put, sTA, sZ, sS, i64_w, i32_w]
                   rfl
                  refine one_ (i := 21) (N := some 100) #[bY,bY,bY,bY,bY,bY,bY,bY,bY,bY,bY,bY,bY,bY,bY,bY,bY,bY,bY,bY,bY,bY,bN,bN,bN,bN,bN,bN,bN,bN,bN,bN,bN,bN,bN,bN,bN,bN,bN,bN,bN,bN,bN,bN,bN,bN,bN,bN,bN] rfl rfl (one_of HT_.out (by kernel_rfl)) (by decide) (fun K hK => ?_)
                  refine goes_ Try.func29 (by kernel_rfl) rfl #[.slice Ao66 t659.length co66, .int .i64 t642] (by rfl) rfl rfl (by (try simp only [List.map_toArray, List.map_cons, List.map_nil]); first | done | rfl | (simp only [List.length_drop, List.length_take]; rfl)) ?_
                  with_reducible refine (laws_has.calls k2 _ _ t659 t642 true _ ?side1 ?side2 A48.out).mono ?_
                  (case side1 => repeat (first | exact (Kd.R_reads' HO661.out).2.2 | (with_reducible refine Kd.C_alloc ?_ _) | (with_reducible refine Kd.C_drewN ?_ _) | (with_reducible refine Kd.C_drew ?_)))
                  (case side2 => exact (Kd.R_reads' HO661.out).2.1)
                  rintro e w' ⟨rfl, ⟨nd, rfl⟩⟩
                  refine ⟨_, rfl, ?_⟩
                  obtain ⟨Ao67, co67, eo67⟩ := Kd.R_slice HO664.out
                  (first | subst eo67 | (injection eo67 with f1_ f2_ f3_; have f4_ := f1_.symm; have f5_ := f3_.symm; clear f1_ f2_ f3_; subst f4_; subst f5_))
                  refine hK.out _ _ ⟨(kC BK643.out 0).trans rfl, (kC BK643.out 1).trans rfl, (kC BK643.out 2).trans rfl, hHeld.2.2.2⟩ (fun hHeld => ?_)
                  clear hK K
                  refine norm_ (a' := ?_) ?_ ?_
                  rotate_left
                  ·show Act.put _ (some 100) _ = _
                   simp only [Act.put, sTA, sZ, sS, i64_w, i32_w]
                   rfl
                  refine pure_ (i := 22) (N := some 101) (v := ?_) (a' := ?_) #[bY,bY,bY,bY,bY,bY,bY,bY,bY,bY,bY,bY,bY,bY,bY,bY,bY,bY,bY,bY,bY,bY,bY,bN,bN,bN,bN,bN,bN,bN,bN,bN,bN,bN,bN,bN,bN,bN,bN,bN,bN,bN,bN,bN,bN,bN,bN,bN,bN] rfl rfl (any_of HT_.out (by kernel_rfl)) (fun _ _ _ h => h) (Or.inl ⟨by rfl, ?_⟩) ?_ ?_
                  rotate_left
                  ·intro w'
                   go_simp
                   with_reducible rfl
                  rotate_left
                  ·simp only [Act.put, sTA, sZ, sS, i64_w, i32_w]
                   rfl
                  refine pure_ (i := 23) (N := some 102) (v := ?_) (a' := ?_) #[bY,bY,bY,bY,bY,bY,bY,bY,bY,bY,bY,bY,bY,bY,bY,bY,bY,bY,bY,bY,bY,bY,bY,bY,bN,bN,bN,bN,bN,bN,bN,bN,bN,bN,bN,bN,bN,bN,bN,bN,bN,bN,bN,bN,bN,bN,bN,bN,bN] rfl rfl (any_of HT_.out (by kernel_rfl)) (fun _ _ _ h => h) (Or.inl ⟨by rfl, ?_⟩) ?_ ?_
                  rotate_left
                  ·intro w'
                   go_simp
                   with_reducible rfl
                  rotate_left
                  ·simp only [Act.put, sTA, sZ, sS, i64_w, i32_w]
                   rfl
                  refine pure_ (i := 24) (N := some 103) (v := ?_) (a' := ?_) #[bY,bY,bY,bY,bY,bY,bY,bY,bY,bY,bY,bY,bY,bY,bY,bY,bY,bY,bY,bY,bY,bY,bY,bY,bY,bN,bN,bN,bN,bN,bN,bN,bN,bN,bN,bN,bN,bN,bN,bN,bN,bN,bN,bN,bN,bN,bN,bN,bN] rfl rfl (any_of HT_.out (by kernel_rfl)) (fun _ _ _ h => h) (Or.inl ⟨by rfl, ?_⟩) ?_ ?_
                  rotate_left
                  ·intro w'
                   go_simp
                   with_reducible rfl
                  rotate_left
                  ·simp only [Act.put, sTA, sZ, sS, i64_w, i32_w]
                   rfl
                  refine pure_ (i := 25) (N := some 104) (v := ?_) (a' := ?_) #[bY,bY,bY,bY,bY,bY,bY,bY,bY,bY,bY,bY,bY,bY,bY,bY,bY,bY,bY,bY,bY,bY,bY,bY,bY,bY,bN,bN,bN,bN,bN,bN,bN,bN,bN,bN,bN,bN,bN,bN,bN,bN,bN,bN,bN,bN,bN,bN,bN] rfl rfl (any_of HT_.out (by kernel_rfl)) (fun _ _ _ h => h) (Or.inl ⟨by rfl, ?_⟩) ?_ ?_
                  rotate_left
                  ·intro w'
                   go_simp
                   with_reducible rfl
                  rotate_left
                  ·simp only [Act.put, sTA, sZ, sS, i64_w, i32_w]
                   rfl
                  refine one_ (i := 26) (N := some 105) #[bY,bY,bY,bY,bY,bY,bY,bY,bY,bY,bY,bY,bY,bY,bY,bY,bY,bY,bY,bY,bY,bY,bY,bY,bY,bY,bY,bN,bN,bN,bN,bN,bN,bN,bN,bN,bN,bN,bN,bN,bN,bN,bN,bN,bN,bN,bN,bN,bN] rfl rfl (one_of HT_.out (by kernel_rfl)) (by decide) (fun K hK => ?_)
                  refine goes_ Try.func29 (by kernel_rfl) rfl #[.slice Ao67 t662.length co67, .int .i64 t642] (by rfl) rfl rfl (by (try simp only [List.map_toArray, List.map_cons, List.map_nil]); first | done | rfl | (simp only [List.length_drop, List.length_take]; rfl)) ?_
                  with_reducible refine (laws_has.calls k2 _ _ t662 t642 false _ ?side1 ?side2 A50.out).mono ?_
                  (case side1 => repeat (first | exact (Kd.R_reads' HO664.out).2.2 | (with_reducible refine Kd.C_alloc ?_ _) | (with_reducible refine Kd.C_drewN ?_ _) | (with_reducible refine Kd.C_drew ?_)))
                  (case side2 => exact (Kd.R_reads' HO664.out).2.1)
                  rintro e w' ⟨rfl, ⟨nd, rfl⟩⟩
                  refine ⟨_, rfl, ?_⟩
                  refine hK.out _ _ ⟨(kC BK643.out 0).trans rfl, (kC BK643.out 1).trans rfl, (kC BK643.out 2).trans rfl, hHeld.2.2.2⟩ (fun hHeld => ?_)
                  clear hK K
                  refine norm_ (a' := ?_) ?_ ?_
                  rotate_left
                  ·show Act.put _ (some 105) _ = _
                   simp only [Act.put, sTA, sZ, sS, i64_w, i32_w]
                   rfl
                  refine pure_ (i := 27) (N := some 106) (v := ?_) (a' := ?_) #[bY,bY,bY,bY,bY,bY,bY,bY,bY,bY,bY,bY,bY,bY,bY,bY,bY,bY,bY,bY,bY,bY,bY,bY,bY,bY,bY,bY,bN,bN,bN,bN,bN,bN,bN,bN,bN,bN,bN,bN,bN,bN,bN,bN,bN,bN,bN,bN,bN] rfl rfl (any_of HT_.out (by kernel_rfl)) (fun _ _ _ h => h) (Or.inl ⟨by rfl, ?_⟩) ?_ ?_
                  rotate_left
                  ·intro w'
                   go_simp
                   with_reducible rfl
                  rotate_left
                  ·simp only [Act.put, sTA, sZ, sS, i64_w, i32_w]
                   rfl
                  refine pure_ (i := 28) (N := some 107) (v := ?_) (a' := ?_) #[bY,bY,bY,bY,bY,bY,bY,bY,bY,bY,bY,bY,bY,bY,bY,bY,bY,bY,bY,bY,bY,bY,bY,bY,bY,bY,bY,bY,bY,bN,bN,bN,bN,bN,bN,bN,bN,bN,bN,bN,bN,bN,bN,bN,bN,bN,bN,bN,bN] rfl rfl (any_of HT_.out (by kernel_rfl)) (fun _ _ _ h => h) (Or.inl ⟨by rfl, ?_⟩) ?_ ?_
                  rotate_left
                  ·intro w'
                   go_simp
                   with_reducible rfl
                  rotate_left
                  ·simp only [Act.put, sTA, sZ, sS, i64_w, i32_w]
                   rfl
                  refine pure_ (i := 29) (N := some 108) (v := ?_) (a' := ?_) #[bY,bY,bY,bY,bY,bY,bY,bY,bY,bY,bY,bY,bY,bY,bY,bY,bY,bY,bY,bY,bY,bY,bY,bY,bY,bY,bY,bY,bY,bY,bN,bN,bN,bN,bN,bN,bN,bN,bN,bN,bN,bN,bN,bN,bN,bN,bN,bN,bN] rfl rfl (any_of HT_.out (by kernel_rfl)) (fun _ _ _ h => h) (Or.inl ⟨by rfl, ?_⟩) ?_ ?_
                  rotate_left
                  ·intro w'
                   go_simp
                   with_reducible rfl
                  rotate_left
                  ·simp only [Act.put, sTA, sZ, sS, i64_w, i32_w]
                   rfl
                  refine pure_ (i := 30) (N := some 109) (v := ?_) (a' := ?_) #[bY,bY,bY,bY,bY,bY,bY,bY,bY,bY,bY,bY,bY,bY,bY,bY,bY,bY,bY,bY,bY,bY,bY,bY,bY,bY,bY,bY,bY,bY,bY,bN,bN,bN,bN,bN,bN,bN,bN,bN,bN,bN,bN,bN,bN,bN,bN,bN,bN] rfl rfl (any_of HT_.out (by kernel_rfl)) (fun _ _ _ h => h) (Or.inl ⟨by rfl, ?_⟩) ?_ ?_
                  rotate_left
                  ·intro w'
                   go_simp
                   with_reducible rfl
                  rotate_left
                  ·simp only [Act.put, sTA, sZ, sS, i64_w, i32_w]
                   rfl
                  refine pure_ (i := 31) (N := some 110) (v := ?_) (a' := ?_) #[bY,bY,bY,bY,bY,bY,bY,bY,bY,bY,bY,bY,bY,bY,bY,bY,bY,bY,bY,bY,bY,bY,bY,bY,bY,bY,bY,bY,bY,bY,bY,bY,bN,bN,bN,bN,bN,bN,bN,bN,bN,bN,bN,bN,bN,bN,bN,bN,bN] rfl rfl (any_of HT_.out (by kernel_rfl)) (fun _ _ _ h => h) (Or.inl ⟨by rfl, ?_⟩) ?_ ?_
                  rotate_left
                  ·intro w'
                   go_simp
                   with_reducible rfl
                  rotate_left
                  ·simp only [Act.put, sTA, sZ, sS, i64_w, i32_w]
                   rfl
                  refine pure_ (i := 32) (N := some 111) (v := ?_) (a' := ?_) #[bY,bY,bY,bY,bY,bY,bY,bY,bY,bY,bY,bY,bY,bY,bY,bY,bY,bY,bY,bY,bY,bY,bY,bY,bY,bY,bY,bY,bY,bY,bY,bY,bY,bN,bN,bN,bN,bN,bN,bN,bN,bN,bN,bN,bN,bN,bN,bN,bN] rfl rfl (any_of HT_.out (by kernel_rfl)) (fun _ _ _ h => h) (Or.inl ⟨by rfl, ?_⟩) ?_ ?_
                  rotate_left
                  ·intro w'
                   go_simp
                   with_reducible rfl
                  rotate_left
                  ·simp only [Act.put, sTA, sZ, sS, i64_w, i32_w]
                   rfl
                  refine pure_ (i := 33) (N := some 112) (v := ?_) (a' := ?_) #[bY,bY,bY,bY,bY,bY,bY,bY,bY,bY,bY,bY,bY,bY,bY,bY,bY,bY,bY,bY,bY,bY,bY,bY,bY,bY,bY,bY,bY,bY,bY,bY,bY,bY,bN,bN,bN,bN,bN,bN,bN,bN,bN,bN,bN,bN,bN,bN,bN] rfl rfl (any_of HT_.out (by kernel_rfl)) (fun _ _ _ h => h) (Or.inl ⟨by rfl, ?_⟩) ?_ ?_
                  rotate_left
                  ·intro w'
                   go_simp
                   with_reducible rfl
                  rotate_left
                  ·simp only [Act.put, sTA, sZ, sS, i64_w, i32_w]
                   rfl
                  refine pure_ (i := 34) (N := some 113) (v := ?_) (a' := ?_) #[bY,bY,bY,bY,bY,bY,bY,bY,bY,bY,bY,bY,bY,bY,bY,bY,bY,bY,bY,bY,bY,bY,bY,bY,bY,bY,bY,bY,bY,bY,bY,bY,bY,bY,bY,bN,bN,bN,bN,bN,bN,bN,bN,bN,bN,bN,bN,bN,bN] rfl rfl (any_of HT_.out (by kernel_rfl)) (fun _ _ _ h => h) (Or.inl ⟨by rfl, ?_⟩) ?_ ?_
                  rotate_left
                  ·intro w'
                   go_simp
                   with_reducible rfl
                  rotate_left
                  ·simp only [Act.put, sTA, sZ, sS, i64_w, i32_w]
                   rfl
                  refine pure_ (i := 35) (N := some 114) (v := ?_) (a' := ?_) #[bY,bY,bY,bY,bY,bY,bY,bY,bY,bY,bY,bY,bY,bY,bY,bY,bY,bY,bY,bY,bY,bY,bY,bY,bY,bY,bY,bY,bY,bY,bY,bY,bY,bY,bY,bY,bN,bN,bN,bN,bN,bN,bN,bN,bN,bN,bN,bN,bN] rfl rfl (any_of HT_.out (by kernel_rfl)) (fun _ _ _ h => h) (Or.inl ⟨by rfl, ?_⟩) ?_ ?_
                  rotate_left
                  ·intro w'
                   go_simp
                   with_reducible rfl
                  rotate_left
                  ·simp only [Act.put, sTA, sZ, sS, i64_w, i32_w]
                   rfl
                  refine pure_ (i := 36) (N := some 115) (v := ?_) (a' := ?_) #[bY,bY,bY,bY,bY,bY,bY,bY,bY,bY,bY,bY,bY,bY,bY,bY,bY,bY,bY,bY,bY,bY,bY,bY,bY,bY,bY,bY,bY,bY,bY,bY,bY,bY,bY,bY,bY,bN,bN,bN,bN,bN,bN,bN,bN,bN,bN,bN,bN] rfl rfl (any_of HT_.out (by kernel_rfl)) (fun _ _ _ h => h) (Or.inl ⟨by rfl, ?_⟩) ?_ ?_
                  rotate_left
                  ·intro w'
                   go_simp
                   with_reducible rfl
                  rotate_left
                  ·simp only [Act.put, sTA, sZ, sS, i64_w, i32_w]
                   rfl
                  refine pure_ (i := 38) (N := some 117) (v := ?_) (a' := ?_) #[bY,bY,bY,bY,bY,bY,bY,bY,bY,bY,bY,bY,bY,bY,bY,bY,bY,bY,bY,bY,bY,bY,bY,bY,bY,bY,bY,bY,bY,bY,bY,bY,bY,bY,bY,bY,bY,bN,bY,bN,bN,bN,bN,bN,bN,bN,bN,bN,bN] rfl rfl (any_of HT_.out (by kernel_rfl)) (fun _ _ _ h => h) (Or.inl ⟨by rfl, ?_⟩) ?_ ?_
                  rotate_left
                  ·intro w'
                   go_simp
                   with_reducible rfl
                  rotate_left
                  ·simp only [Act.put, sTA, sZ, sS, i64_w, i32_w]
                   rfl
                  refine pure_ (i := 39) (N := some 118) (v := ?_) (a' := ?_) #[bY,bY,bY,bY,bY,bY,bY,bY,bY,bY,bY,bY,bY,bY,bY,bY,bY,bY,bY,bY,bY,bY,bY,bY,bY,bY,bY,bY,bY,bY,bY,bY,bY,bY,bY,bY,bY,bN,bY,bY,bN,bN,bN,bN,bN,bN,bN,bN,bN] rfl rfl (any_of HT_.out (by kernel_rfl)) (fun _ _ _ h => h) (Or.inl ⟨by rfl, ?_⟩) ?_ ?_
                  rotate_left
                  ·intro w'
                   go_simp
                   with_reducible rfl
                  rotate_left
                  ·simp only [Act.put, sTA, sZ, sS, i64_w, i32_w]
                   rfl
                  refine pure_ (i := 40) (N := some 119) (v := ?_) (a' := ?_) #[bY,bY,bY,bY,bY,bY,bY,bY,bY,bY,bY,bY,bY,bY,bY,bY,bY,bY,bY,bY,bY,bY,bY,bY,bY,bY,bY,bY,bY,bY,bY,bY,bY,bY,bY,bY,bY,bN,bY,bY,bY,bN,bN,bN,bN,bN,bN,bN,bN] rfl rfl (any_of HT_.out (by kernel_rfl)) (fun _ _ _ h => h) (Or.inl ⟨by rfl, ?_⟩) ?_ ?_
                  rotate_left
                  ·intro w'
                   go_simp
                   with_reducible rfl
                  rotate_left
                  ·simp only [Act.put, sTA, sZ, sS, i64_w, i32_w]
                   rfl
                  refine pure_ (i := 43) (N := some 122) (v := ?_) (a' := ?_) #[bY,bY,bY,bY,bY,bY,bY,bY,bY,bY,bY,bY,bY,bY,bY,bY,bY,bY,bY,bY,bY,bY,bY,bY,bY,bY,bY,bY,bY,bY,bY,bY,bY,bY,bY,bY,bY,bN,bY,bY,bY,bN,bN,bY,bN,bN,bN,bN,bN] rfl rfl (any_of HT_.out (by kernel_rfl)) (fun _ _ _ h => h) (Or.inl ⟨by rfl, ?_⟩) ?_ ?_
                  rotate_left
                  ·intro w'
                   go_simp
                   with_reducible rfl
                  rotate_left
                  ·simp only [Act.put, sTA, sZ, sS, i64_w, i32_w]
                   rfl
                  refine take_ (i := 37) (N := some 116) (v := ?_) (a' := ?_) #[bY,bY,bY,bY,bY,bY,bY,bY,bY,bY,bY,bY,bY,bY,bY,bY,bY,bY,bY,bY,bY,bY,bY,bY,bY,bY,bY,bY,bY,bY,bY,bY,bY,bY,bY,bY,bY,bY,bY,bY,bY,bN,bN,bY,bN,bN,bN,bN,bN] rfl rfl (take_ofW HT_.out HW_.out (by kernel_rfl)) (fun _ _ _ h => h) (Or.inl ⟨by rfl, ?_⟩) hHeld ?_ ?_
                  rotate_left
                  ·rintro w' ⟨s0, s1, s2, s3⟩
                   go_simp
                   with_reducible rfl
                  rotate_left
                  ·simp only [Act.put, sTA, sZ, sS, i64_w, i32_w]
                   rfl
                  refine take_ (i := 44) (N := some 123) (v := ?_) (a' := ?_) #[bY,bY,bY,bY,bY,bY,bY,bY,bY,bY,bY,bY,bY,bY,bY,bY,bY,bY,bY,bY,bY,bY,bY,bY,bY,bY,bY,bY,bY,bY,bY,bY,bY,bY,bY,bY,bY,bY,bY,bY,bY,bN,bN,bY,bY,bN,bN,bN,bN] rfl rfl (take_ofW HT_.out HW_.out (by kernel_rfl)) (fun _ _ _ h => h) (Or.inl ⟨by rfl, ?_⟩) hHeld ?_ ?_
                  rotate_left
                  ·rintro w' ⟨s0, s1, s2, s3⟩
                   go_simp
                   with_reducible rfl
                  rotate_left
                  ·simp only [Act.put, sTA, sZ, sS, i64_w, i32_w]
                   rfl
                  refine one_ (i := 41) (N := some 120) #[bY,bY,bY,bY,bY,bY,bY,bY,bY,bY,bY,bY,bY,bY,bY,bY,bY,bY,bY,bY,bY,bY,bY,bY,bY,bY,bY,bY,bY,bY,bY,bY,bY,bY,bY,bY,bY,bY,bY,bY,bY,bY,bN,bY,bY,bN,bN,bN,bN] rfl rfl (one_of HT_.out (by kernel_rfl)) (by decide) (fun K hK => ?_)
                  refine goes_ Try.func27 (by kernel_rfl) rfl #[.agg #[.int .i64 t636, .int .i64 t637, .int .i64 t638], .slice Ao12 t639.length co12, .int .i64 (t639.length : Int)] (by rfl) rfl rfl (by (try simp only [List.map_toArray, List.map_cons, List.map_nil]); first | done | rfl | (simp only [List.length_drop, List.length_take]; rfl)) ?_
                  with_reducible refine (impl_GoalsFor.calls t636 t637 t638 _ _ t639 (t639.length : Int) t669 _ ?side1 ?side2 A53.out).mono ?_
                  (case side1 => repeat (first | exact (Kd.R_reads' HO_4.out).2.2 | (with_reducible refine Kd.C_alloc ?_ _) | (with_reducible refine Kd.C_drewN ?_ _) | (with_reducible refine Kd.C_drew ?_)))
                  (case side2 => exact (Kd.R_reads' HO_4.out).2.1)
                  rintro e w68 ⟨v670, rfl, ho0, hb⟩
                  have HS3_ := (hb.cell (World.block_lt_of_cell? _ _ (hHeld.2.2.2))).trans (hHeld.2.2.2)
                  refine ⟨_, rfl, ?_⟩
                  have n0_ := aK (Kd.R_below (by (with_reducible repeat (first | apply Kd.R_alloc | apply Kd.R_drewN | apply Kd.R_drew)); exact HO_4.out) hb)
                  have n1_ := aK (Kd.R_below (by (with_reducible repeat (first | apply Kd.R_alloc | apply Kd.R_drewN | apply Kd.R_drew)); exact HO_7.out) hb)
                  have n2_ := aK (Kd.R_elder' (by (with_reducible repeat (first | apply Kd.R_alloc | apply Kd.R_drewN | apply Kd.R_drew)); exact HO_8.out) (Kd.R_base ho0) hb)
                  have n3_ := aK (Kd.R_elder' (by (with_reducible repeat (first | apply Kd.R_alloc | apply Kd.R_drewN | apply Kd.R_drew)); exact HO658.out) (Kd.R_base ho0) hb)
                  have n4_ := aK (Kd.R_elder' (by (with_reducible repeat (first | apply Kd.R_alloc | apply Kd.R_drewN | apply Kd.R_drew)); exact HO661.out) (Kd.R_base ho0) hb)
                  have n5_ := aK (Kd.R_elder' (by (with_reducible repeat (first | apply Kd.R_alloc | apply Kd.R_drewN | apply Kd.R_drew)); exact HO664.out) (Kd.R_base ho0) hb)
                  have n6_ := aK (Kd.R_lower (Kd.R_new' (Kd.R_new' (Kd.R_new' (Kd.R_new' ho0 (Kd.R_lt (by (with_reducible repeat (first | apply Kd.R_alloc | apply Kd.R_drewN | apply Kd.R_drew)); exact HO_8.out))) (Kd.R_lt (by (with_reducible repeat (first | apply Kd.R_alloc | apply Kd.R_drewN | apply Kd.R_drew)); exact HO658.out))) (Kd.R_lt (by (with_reducible repeat (first | apply Kd.R_alloc | apply Kd.R_drewN | apply Kd.R_drew)); exact HO661.out))) (Kd.R_lt (by (with_reducible repeat (first | apply Kd.R_alloc | apply Kd.R_drewN | apply Kd.R_drew)); exact HO664.out))) (bSz (by repeat (first | (with_reducible first | exact HB.out | apply bAl | apply bDN | apply bD1 | refine bSt ?_ GE643.out) | exact HB.out))))
                  have n7_ := bkb BK643 hb (by intro z_; (with_reducible repeat (first | refine kDN ?_ _ | refine kD ?_ | refine kA ?_ _)); exact z_)
                  have n8_ := aK (bSp (by repeat (first | (with_reducible first | exact HB.out | apply bAl | apply bDN | apply bD1 | refine bSt ?_ GE643.out) | exact HB.out)) hb)
                  clear HO_4
                  clear HO_7
                  clear HO_8
                  clear HO658
                  clear HO661
                  clear HO664
                  clear BK643
                  clear HB
                  have HO_4 := n0_
                  have HO_7 := n1_
                  have HO_8 := n2_
                  have HO658 := n3_
                  have HO661 := n4_
                  have HO664 := n5_
                  have HO671 := n6_
                  have BK643 := n7_
                  have HB := n8_
                  clear n0_ n1_ n2_ n3_ n4_ n5_ n6_ n7_ n8_
                  (try clear hb)
                  (try clear hb2)
                  (try clear hk)
                  (try clear hi)
                  (try clear ho0)
                  obtain ⟨Ao69, co69, eo69⟩ := Kd.R_slice HO671.out
                  (first | subst eo69 | (injection eo69 with f1_ f2_ f3_; have f4_ := f1_.symm; have f5_ := f3_.symm; clear f1_ f2_ f3_; subst f4_; subst f5_))
                  refine hK.out _ _ ⟨(kC BK643.out 0).trans rfl, (kC BK643.out 1).trans rfl, (kC BK643.out 2).trans rfl, HS3_⟩ (fun hHeld => ?_)
                  clear hK K
                  refine norm_ (a' := ?_) ?_ ?_
                  rotate_left
                  ·show Act.put _ (some 120) _ = _
                   simp only [Act.put, sTA, sZ, sS, i64_w, i32_w]
                   rfl
                  refine pure_ (i := 42) (N := some 121) (v := ?_) (a' := ?_) #[bY,bY,bY,bY,bY,bY,bY,bY,bY,bY,bY,bY,bY,bY,bY,bY,bY,bY,bY,bY,bY,bY,bY,bY,bY,bY,bY,bY,bY,bY,bY,bY,bY,bY,bY,bY,bY,bY,bY,bY,bY,bY,bY,bY,bY,bN,bN,bN,bN] rfl rfl (any_of HT_.out (by kernel_rfl)) (fun _ _ _ h => h) (Or.inl ⟨by rfl, ?_⟩) ?_ ?_
                  rotate_left
                  ·intro w'
                   go_simp
                   with_reducible rfl
                  rotate_left
                  ·simp only [Act.put, sTA, sZ, sS, i64_w, i32_w]
                   rfl
                  refine one_ (i := 45) (N := some 124) #[bY,bY,bY,bY,bY,bY,bY,bY,bY,bY,bY,bY,bY,bY,bY,bY,bY,bY,bY,bY,bY,bY,bY,bY,bY,bY,bY,bY,bY,bY,bY,bY,bY,bY,bY,bY,bY,bY,bY,bY,bY,bY,bY,bY,bY,bY,bN,bN,bN] rfl rfl (one_of HT_.out (by kernel_rfl)) (by decide) (fun K hK => ?_)
                  refine goes_ Try.func30 (by kernel_rfl) rfl #[.agg #[.int .i64 t636, .int .i64 t637]] (by rfl) rfl rfl (by (try simp only [List.map_toArray, List.map_cons, List.map_nil]); first | done | rfl | (simp only [List.length_drop, List.length_take]; rfl)) ?_
                  with_reducible refine (spec_CountCells.calls t636 t637 t672 _ A54.out).mono ?_
                  rintro e w70 ⟨rfl, hb⟩
                  have HS3_ := (hb.cell (World.block_lt_of_cell? _ _ (hHeld.2.2.2))).trans (hHeld.2.2.2)
                  refine ⟨_, rfl, ?_⟩
                  have n0_ := aK (Kd.R_below (by (with_reducible repeat (first | apply Kd.R_alloc | apply Kd.R_drewN | apply Kd.R_drew)); exact HO_4.out) hb)
                  have n1_ := aK (Kd.R_below (by (with_reducible repeat (first | apply Kd.R_alloc | apply Kd.R_drewN | apply Kd.R_drew)); exact HO_7.out) hb)
                  have n2_ := aK (Kd.R_below (by (with_reducible repeat (first | apply Kd.R_alloc | apply Kd.R_drewN | apply Kd.R_drew)); exact HO_8.out) hb)
                  have n3_ := aK (Kd.R_below (by (with_reducible repeat (first | apply Kd.R_alloc | apply Kd.R_drewN | apply Kd.R_drew)); exact HO658.out) hb)
                  have n4_ := aK (Kd.R_below (by (with_reducible repeat (first | apply Kd.R_alloc | apply Kd.R_drewN | apply Kd.R_drew)); exact HO661.out) hb)
                  have n5_ := aK (Kd.R_below (by (with_reducible repeat (first | apply Kd.R_alloc | apply Kd.R_drewN | apply Kd.R_drew)); exact HO664.out) hb)
                  have n6_ := aK (Kd.R_below (by (with_reducible repeat (first | apply Kd.R_alloc | apply Kd.R_drewN | apply Kd.R_drew)); exact HO671.out) hb)
                  have n7_ := bkb BK643 hb (by intro z_; (with_reducible repeat (first | refine kDN ?_ _ | refine kD ?_ | refine kA ?_ _)); exact z_)
                  have n8_ := aK (bSp (by repeat (first | (with_reducible first | exact HB.out | apply bAl | apply bDN | apply bD1 | refine bSt ?_ GE643.out) | exact HB.out)) hb)
                  clear HO_4
                  clear HO_7
                  clear HO_8
                  clear HO658
                  clear HO661
                  clear HO664
                  clear HO671
                  clear BK643
                  clear HB
                  have HO_4 := n0_
                  have HO_7 := n1_
                  have HO_8 := n2_
                  have HO658 := n3_
                  have HO661 := n4_
                  have HO664 := n5_
                  have HO671 := n6_
                  have BK643 := n7_
                  have HB := n8_
                  clear n0_ n1_ n2_ n3_ n4_ n5_ n6_ n7_ n8_
                  (try clear hb)
                  (try clear hb2)
                  (try clear hk)
                  (try clear hi)
                  refine hK.out _ _ ⟨(kC BK643.out 0).trans rfl, (kC BK643.out 1).trans rfl, (kC BK643.out 2).trans rfl, HS3_⟩ (fun hHeld => ?_)
                  clear hK K
                  refine norm_ (a' := ?_) ?_ ?_
                  rotate_left
                  ·show Act.put _ (some 124) _ = _
                   simp only [Act.put, sTA, sZ, sS, i64_w, i32_w]
                   rfl
                  refine pure_ (i := 46) (N := some 125) (v := ?_) (a' := ?_) #[bY,bY,bY,bY,bY,bY,bY,bY,bY,bY,bY,bY,bY,bY,bY,bY,bY,bY,bY,bY,bY,bY,bY,bY,bY,bY,bY,bY,bY,bY,bY,bY,bY,bY,bY,bY,bY,bY,bY,bY,bY,bY,bY,bY,bY,bY,bY,bN,bN] rfl rfl (any_of HT_.out (by kernel_rfl)) (fun _ _ _ h => h) (Or.inl ⟨by rfl, ?_⟩) ?_ ?_
                  rotate_left
                  ·intro w'
                   go_simp
                   with_reducible rfl
                  rotate_left
                  ·simp only [Act.put, sTA, sZ, sS, i64_w, i32_w]
                   rfl
                  refine pure_ (i := 47) (N := some 126) (v := ?_) (a' := ?_) #[bY,bY,bY,bY,bY,bY,bY,bY,bY,bY,bY,bY,bY,bY,bY,bY,bY,bY,bY,bY,bY,bY,bY,bY,bY,bY,bY,bY,bY,bY,bY,bY,bY,bY,bY,bY,bY,bY,bY,bY,bY,bY,bY,bY,bY,bY,bY,bY,bN] rfl rfl (any_of HT_.out (by kernel_rfl)) (fun _ _ _ h => h) (Or.inl ⟨by rfl, ?_⟩) ?_ ?_
                  rotate_left
                  ·intro w'
                   go_simp
                   with_reducible rfl
                  rotate_left
                  ·simp only [Act.put, sTA, sZ, sS, i64_w, i32_w]
                   rfl
                  refine pure_ (i := 48) (N := some 2) (v := ?_) (a' := ?_) #[bY,bY,bY,bY,bY,bY,bY,bY,bY,bY,bY,bY,bY,bY,bY,bY,bY,bY,bY,bY,bY,bY,bY,bY,bY,bY,bY,bY,bY,bY,bY,bY,bY,bY,bY,bY,bY,bY,bY,bY,bY,bY,bY,bY,bY,bY,bY,bY,bY] rfl rfl (any_of HT_.out (by kernel_rfl)) (fun _ _ _ h => h) (Or.inl ⟨by rfl, ?_⟩) ?_ ?_
                  rotate_left
                  ·intro w'
                   go_simp
                   with_reducible rfl
                  rotate_left
                  ·simp only [Act.put, sTA, sZ, sS, i64_w, i32_w]
                   rfl
                  refine done_ (done_of HT_.out (by kernel_rfl)) ?_
                  try go_wp2
                  go_ret
                  exact ⟨by first | rfl | (simp [errW_none, errW_some] <;> rfl) | (simp only [← hji36, ← hji44]; first | rfl | (simp [errW_none, errW_some] <;> rfl)) | (simp [*, errW_none, errW_some] <;> rfl), by repeat (first | (with_reducible first | exact HB.out | apply bAl | apply bDN | apply bD1 | refine bSt ?_ GE643.out) | exact HB.out)⟩
                 ·rw [if_neg c52] at H
                  have c52b0 : decide ((t662.length : Int) ≤ (t659.length : Int)) = false := decide_eq_false c52
                  have c52b1 : decide (t662.length ≤ t659.length) = false := decide_eq_false (fun h => c52 (Int.ofNat_le.mpr h))
                  clear c52
                  exact absurd (Option.some.inj H) Bool.false_ne_true
               ·replace c49 := Bool.eq_false_iff.mpr c49
                subst c49
                have H1 : (some false) = some true := by rw [if_neg (show ¬ (false = true) by decide)] at H; exact H
                clear H
                have H := H1
                clear H1
                exact absurd (Option.some.inj H) Bool.false_ne_true
              ·rw [if_neg c47] at H
               have c47b0 : ((rd t656 (ji44)) == t642) = false := beq_eq_false_iff_ne.mpr c47
               have c47b1 : ((rd t656 (ji44)) != t642) = true := bne_iff_ne.mpr c47
               exact absurd (Option.some.inj H) Bool.false_ne_true
             ·rw [if_neg c46] at H
              exact absurd H (by simp)
            ·rw [if_neg c45] at H
             exact absurd H (by simp)
           ·rw [if_neg c43] at H
            have c43b0 : ((t656.length : Int) == (wrap64 (t665 + 1))) = false := beq_eq_false_iff_ne.mpr c43
            have c43b1 : ((t656.length : Int) != (wrap64 (t665 + 1))) = true := bne_iff_ne.mpr c43
            exact absurd (Option.some.inj H) Bool.false_ne_true
          ·rw [if_neg c38] at H
           exact absurd H (by simp)
         ·rw [if_neg c37] at H
          exact absurd H (by simp)
end Go.Proofs.Ytpeehicekddjhaa.F
end

section
namespace Go.Proofs.Ytpeehicekddjhaa.F
open Go.RowKit Go.Proofs.YtpeehicekddjhaaW.PrintWords Go.Proofs.YtpeehicekddjhaaW.PrintLast Go.Proofs.YtpeehicekddjhaaW.PrintMore
set_option linter.unusedVariables false
set_option linter.unusedSimpArgs false
theorem rd_set {D : List Int} {i x v : Int} (hi : 0 ≤ i) (hx : 0 ≤ x) (hl : i < D.length) : rd (D.set i.toNat v) x = if x = i then v else rd D x := by
  unfold rd
  rw [List.getD_eq_getElem?_getD, List.getElem?_set]
  by_cases h : x = i
  · subst h
    rw [if_pos rfl, if_pos (by omega), if_pos rfl]; rfl
  · rw [if_neg (by omega), if_neg h, List.getD_eq_getElem?_getD]
theorem rd_lt {D : List Int} {x : Int} (hx : 0 ≤ x) (hl : x < D.length) : ∃ h : x.toNat < D.length, rd D x = D[x.toNat] := by
  have h : x.toNat < D.length := by omega
  exact ⟨h, by unfold rd; rw [List.getD_eq_getElem?_getD, List.getElem?_eq_getElem h]; rfl⟩
theorem rd_memI {D : List Int} {x : Int} (hx : 0 ≤ x) (hl : x < D.length) : rd D x ∈ D := by
  obtain ⟨h, e⟩ := rd_lt hx hl
  rw [e]; exact List.getElem_mem h
theorem mem_rd {D : List Int} {v : Int} (h : v ∈ D) : ∃ j : Nat, j < D.length ∧ rd D (j : Int) = v := by
  obtain ⟨j, hj, rfl⟩ := List.getElem_of_mem h
  exact ⟨j, hj, by rw [rd_nat, List.getD_eq_getElem?_getD, List.getElem?_eq_getElem hj]; rfl⟩
theorem rd_app_left {D E : List Int} {j : Nat} (h : j < D.length) : rd (D ++ E) (j : Int) = rd D (j : Int) := by
  simp only [rd_nat, List.getD_eq_getElem?_getD]
  rw [List.getElem?_append_left h]
theorem rd_app_last {D : List Int} {v : Int} : rd (D ++ [v]) (D.length : Int) = v := by
  simp only [rd_nat, List.getD_eq_getElem?_getD]
  rw [List.getElem?_append_right (Nat.le_refl _)]
  simp
def bfsD (nx : Int → Int → Int) (c : Int) : List Int → List Int × List Int → List Int × List Int
  | [], s => s
  | d :: ds, s => if 0 ≤ nx c d ∧ rd s.1 (nx c d) < 0 then bfsD nx c ds (s.1.set (nx c d).toNat (rd s.1 c + 1), s.2 ++ [nx c d]) else bfsD nx c ds s
def bfs (nx : Int → Int → Int) : Nat → Nat → List Int × List Int → List Int
  | 0, _, s => s.1
  | f + 1, i, s => if i < s.2.length then bfs nx f (i + 1) (bfsD nx (rd s.2 i) [0, 1, 2, 3] s) else s.1
def dists (nx : Int → Int → Int) (N : Nat) (a : Int) : List Int := bfs nx (N + 1) 0 ((List.replicate N (-1)).set a.toNat 0, [a])
inductive Walk (nx : Int → Int → Int) (a : Int) : Nat → Int → Prop
  | nil : Walk nx a 0 a
  | snoc {n : Nat} {b d : Int} : Walk nx a n b → 0 ≤ nx b d → Walk nx a (n + 1) (nx b d)
structure Steps (nx : Int → Int → Int) (N : Nat) : Prop where
  rng : ∀ c d, 0 ≤ nx c d → 0 ≤ c ∧ c < N ∧ nx c d < N ∧ 0 ≤ d ∧ d ≤ 3
structure Bfs (nx : Int → Int → Int) (N : Nat) (a : Int) (D Q : List Int) : Prop where
  len : D.length = N
  cnt : D.countP (· < 0) + Q.length = N
  inq : ∀ x ∈ Q, 0 ≤ x ∧ x < N ∧ 0 ≤ rd D x ∧ Walk nx a (rd D x).toNat x
  out : ∀ x : Int, 0 ≤ x → x < N → x ∉ Q → rd D x = -1
  src : rd D a = 0 ∧ a ∈ Q
  mono : ∀ j k : Nat, j ≤ k → k < Q.length → rd D (rd Q j) ≤ rd D (rd Q k)
structure BfsAt (nx : Int → Int → Int) (N : Nat) (a : Int) (i : Nat) (D Q : List Int) : Prop extends Bfs nx N a D Q where
  near : i < Q.length → ∀ x ∈ Q, rd D x ≤ rd D (rd Q i) + 1
  done : ∀ j, j < i → j < Q.length → ∀ d, 0 ≤ nx (rd Q j) d → nx (rd Q j) d ∈ Q ∧ rd D (nx (rd Q j) d) ≤ rd D (rd Q j) + 1
theorem countP_lt_set {D : List Int} {i v : Int} (hi : 0 ≤ i) (hl : i < D.length) (hneg : rd D i < 0) (hv : 0 ≤ v) : (D.set i.toNat v).countP (· < 0) + 1 = D.countP (· < 0) := by
  obtain ⟨h, e⟩ := rd_lt hi hl
  rw [e] at hneg
  have hpos : 0 < D.countP (· < 0) := List.countP_pos_iff.2 ⟨D[i.toNat], List.getElem_mem h, by simpa using hneg⟩
  rw [List.countP_set h]
  simp [hneg, show ¬ v < 0 by omega]
  omega
theorem bfs_push {nx : Int → Int → Int} {N : Nat} {a : Int} {i : Nat} {D Q : List Int} (S : Steps nx N) (B : BfsAt nx N a i D Q) (hi : i < Q.length) {d : Int} (h0 : 0 ≤ nx (rd Q i) d) (hneg : rd D (nx (rd Q i) d) < 0) :
    BfsAt nx N a i (D.set (nx (rd Q i) d).toNat (rd D (rd Q i) + 1)) (Q ++ [nx (rd Q i) d]) := by
  have hci : rd Q i ∈ Q := rd_memI (by omega) (by omega)
  generalize hc : rd Q i = c at *
  generalize hn : nx c d = n at *
  have hr := S.rng c d (by omega)
  rw [hn] at hr
  obtain ⟨c0, c1, cd, cw⟩ := B.inq c hci
  have hnl : n < D.length := by rw [B.len]; omega
  have hnQ : n ∉ Q := fun h => by have := (B.inq n h).2.2.1; omega
  have same : ∀ x ∈ Q, rd (D.set n.toNat (rd D c + 1)) x = rd D x := fun x hx => by
    have := (B.inq x hx).1
    rw [rd_set h0 this hnl, if_neg (by rintro rfl; exact hnQ hx)]
  have newv : rd (D.set n.toNat (rd D c + 1)) n = rd D c + 1 := by rw [rd_set h0 h0 hnl, if_pos rfl]
  have rq : ∀ j : Nat, j < Q.length → rd (Q ++ [n]) (j : Int) = rd Q (j : Int) := fun j hj => rd_app_left hj
  have wn : Walk nx a (rd D c + 1).toNat n := by
    have := Walk.snoc (d := d) cw (by omega)
    rw [hn] at this
    rwa [show (rd D c).toNat + 1 = (rd D c + 1).toNat by omega] at this
  refine ⟨⟨by rw [List.length_set, B.len], ?_, ?_, ?_, ?_, ?_⟩, ?_, ?_⟩
  · have := countP_lt_set (v := rd D c + 1) h0 hnl hneg (by omega)
    have := B.cnt
    rw [List.length_append, List.length_singleton]
    omega
  · intro x hx
    rcases List.mem_append.1 hx with hx | hx
    · rw [same x hx]; exact B.inq x hx
    · rw [List.mem_singleton.1 hx, newv]
      exact ⟨h0, hr.2.2.1, by omega, wn⟩
  · intro x x0 x1 hx
    rw [List.mem_append, not_or] at hx
    rw [rd_set h0 x0 hnl, if_neg (by rintro rfl; exact hx.2 (by simp))]
    exact B.out x x0 x1 hx.1
  · exact ⟨by rw [same a B.src.2]; exact B.src.1, List.mem_append_left _ B.src.2⟩
  · intro j k hjk hk
    rw [List.length_append, List.length_singleton] at hk
    by_cases hk' : k < Q.length
    · rw [rq j (by omega), rq k hk', same _ (rd_memI (by omega) (by omega)), same _ (rd_memI (by omega) (by omega))]
      exact B.mono j k hjk hk'
    · have ek : k = Q.length := by omega
      subst ek
      rw [rd_app_last, newv]
      by_cases hj' : j < Q.length
      · rw [rq j hj', same _ (rd_memI (by omega) (by omega))]
        have := B.near hi _ (rd_memI (D := Q) (x := (j : Int)) (by omega) (by omega))
        rw [hc] at this
        exact this
      · have ej : j = Q.length := by omega
        subst ej
        rw [rd_app_last, newv]
        exact Int.le_refl _
  · intro _ x hx
    rw [rq i hi, hc]
    rcases List.mem_append.1 hx with hx | hx
    · rw [same x hx, same c hci]
      have := B.near hi x hx
      rwa [hc] at this
    · rw [List.mem_singleton.1 hx, newv, same c hci]
      exact Int.le_refl _
  · intro j hj hjl e he
    rw [rq j (by omega)] at he ⊢
    obtain ⟨m1, m2⟩ := B.done j hj (by omega) e he
    exact ⟨List.mem_append_left _ m1, by rw [same _ m1, same _ (rd_memI (by omega) (by omega))]; exact m2⟩
theorem bfs_dirs {nx : Int → Int → Int} {N : Nat} {a : Int} {i : Nat} (S : Steps nx N) : ∀ (ds : List Int) (D Q : List Int), BfsAt nx N a i D Q → i < Q.length → ∀ D' Q', bfsD nx (rd Q i) ds (D, Q) = (D', Q') →
    BfsAt nx N a i D' Q' ∧ i < Q'.length ∧ rd Q' i = rd Q i ∧ (∀ x ∈ Q, x ∈ Q') ∧ (∀ d ∈ ds, 0 ≤ nx (rd Q i) d → nx (rd Q i) d ∈ Q' ∧ rd D' (nx (rd Q i) d) ≤ rd D' (rd Q i) + 1)
  | [], D, Q, B, hi, D', Q', e => by
    simp only [bfsD, Prod.mk.injEq] at e
    obtain ⟨rfl, rfl⟩ := e
    exact ⟨B, hi, rfl, fun _ h => h, fun d hd => by simp at hd⟩
  | d :: ds, D, Q, B, hi, D', Q', e => by
    simp only [bfsD] at e
    by_cases h : 0 ≤ nx (rd Q i) d ∧ rd D (nx (rd Q i) d) < 0
    · rw [if_pos h] at e
      have B' := bfs_push S B hi h.1 h.2
      have hq : rd (Q ++ [nx (rd Q i) d]) (i : Int) = rd Q i := rd_app_left hi
      have hi' : i < (Q ++ [nx (rd Q i) d]).length := by rw [List.length_append]; omega
      rw [← hq] at e
      obtain ⟨r1, r2, r3, r4, r5⟩ := bfs_dirs S ds _ _ B' hi' D' Q' (by rw [hq] at e ⊢; exact e)
      rw [hq] at r3 r5
      refine ⟨r1, r2, r3, fun x hx => r4 x (List.mem_append_left _ hx), fun e' he h0 => ?_⟩
      rcases List.mem_cons.1 he with rfl | he
      · have hm := r4 (nx (rd Q i) e') (by simp)
        have := r1.near r2 _ hm
        rw [r3] at this
        exact ⟨hm, this⟩
      · exact r5 e' he h0
    · rw [if_neg h] at e
      obtain ⟨r1, r2, r3, r4, r5⟩ := bfs_dirs S ds D Q B hi D' Q' e
      refine ⟨r1, r2, r3, r4, fun e' he h0 => ?_⟩
      rcases List.mem_cons.1 he with rfl | he
      · have hr := S.rng _ _ h0
        have hge : ¬ rd D (nx (rd Q i) e') < 0 := fun hh => h ⟨h0, hh⟩
        have hm : nx (rd Q i) e' ∈ Q := by
          by_cases hx : nx (rd Q i) e' ∈ Q
          · exact hx
          · have := B.out _ h0 hr.2.2.1 hx
            omega
        have := r1.near r2 _ (r4 _ hm)
        rw [r3] at this
        exact ⟨r4 _ hm, this⟩
      · exact r5 e' he h0
theorem bfs_run {nx : Int → Int → Int} {N : Nat} {a : Int} (S : Steps nx N) : ∀ (f i : Nat) (D Q : List Int), BfsAt nx N a i D Q → N < f + i → ∃ Q', BfsAt nx N a Q'.length (bfs nx f i (D, Q)) Q' ∨ (∃ j, Q'.length ≤ j ∧ BfsAt nx N a j (bfs nx f i (D, Q)) Q')
  | 0, i, D, Q, B, hf => ⟨Q, .inr ⟨i, by have := B.cnt; omega, B⟩⟩
  | f + 1, i, D, Q, B, hf => by
    simp only [bfs]
    by_cases hi : i < Q.length
    · rw [if_pos hi]
      generalize hs : bfsD nx (rd Q i) [0, 1, 2, 3] (D, Q) = s
      obtain ⟨D', Q'⟩ := s
      obtain ⟨r1, r2, r3, r4, r5⟩ := bfs_dirs S _ D Q B hi D' Q' hs
      refine bfs_run S f (i + 1) D' Q' ⟨r1.toBfs, fun h x hx => ?_, fun j hj hjl d hd => ?_⟩ (by omega)
      · have h1 := r1.near r2 x hx
        have h2 := r1.mono i (i + 1) (by omega) h
        omega
      · by_cases hj' : j = i
        · subst hj'
          rw [r3] at hd ⊢
          have hr := S.rng _ _ hd
          exact r5 d (by have : d = 0 ∨ d = 1 ∨ d = 2 ∨ d = 3 := by omega
                         rcases this with rfl | rfl | rfl | rfl <;> simp) hd
        · exact r1.done j (by omega) hjl d hd
    · rw [if_neg hi]
      exact ⟨Q, .inr ⟨i, by omega, B⟩⟩
theorem dists_spec {nx : Int → Int → Int} {N : Nat} {a : Int} (S : Steps nx N) (h0 : 0 ≤ a) (h1 : a < N) : (dists nx N a).length = N ∧ rd (dists nx N a) a = 0 ∧
    ∀ x : Int, 0 ≤ x → x < N → (rd (dists nx N a) x = -1 ∧ ∀ n, ¬ Walk nx a n x) ∨ (0 ≤ rd (dists nx N a) x ∧ Walk nx a (rd (dists nx N a) x).toNat x ∧ ∀ n, Walk nx a n x → rd (dists nx N a) x ≤ n) := by
  have hrep : ∀ x : Int, 0 ≤ x → x < N → rd (List.replicate N (-1)) x = -1 := fun x x0 x1 => by
    obtain ⟨h, e⟩ := rd_lt (D := List.replicate N (-1 : Int)) x0 (by simpa using x1)
    rw [e, List.getElem_replicate]
  have hset : ∀ x : Int, 0 ≤ x → x < N → rd ((List.replicate N (-1)).set a.toNat 0) x = if x = a then 0 else -1 := fun x x0 x1 => by
    rw [rd_set h0 x0 (by simpa using h1)]
    split
    · rfl
    · exact hrep x x0 x1
  have B0 : BfsAt nx N a 0 ((List.replicate N (-1)).set a.toNat 0) [a] := by
    refine ⟨⟨by simp, ?_, ?_, ?_, ?_, ?_⟩, ?_, ?_⟩
    · have := countP_lt_set (D := List.replicate N (-1 : Int)) (i := a) (v := 0) h0 (by simpa using h1) (by rw [hrep a h0 h1]; decide) (by decide)
      rw [List.countP_replicate] at this
      simpa using this
    · intro x hx
      rw [List.mem_singleton.1 hx, hset a h0 h1, if_pos rfl]
      exact ⟨h0, h1, by decide, Walk.nil⟩
    · intro x x0 x1 hx
      rw [hset x x0 x1, if_neg (by simpa using hx)]
    · exact ⟨by rw [hset a h0 h1, if_pos rfl], by simp⟩
    · intro j k hjk hk
      have : j = 0 := by simp at hk; omega
      have : k = 0 := by simp at hk; omega
      subst_vars
      exact Int.le_refl _
    · intro _ x hx
      rw [List.mem_singleton.1 hx]
      simp [rd]
      omega
    · intro j hj; omega
  have fin : ∃ j Q', Q'.length ≤ j ∧ BfsAt nx N a j (dists nx N a) Q' := by
    obtain ⟨Q', h | ⟨j, hj, h⟩⟩ := bfs_run S (N + 1) 0 _ _ B0 (by omega)
    · exact ⟨_, Q', Nat.le_refl _, h⟩
    · exact ⟨j, Q', hj, h⟩
  obtain ⟨j, Q', hj, B⟩ := fin
  have close : ∀ n x, Walk nx a n x → x ∈ Q' ∧ rd (dists nx N a) x ≤ n := by
    intro n x h
    induction h with
    | nil => exact ⟨B.src.2, by rw [B.src.1]; simp⟩
    | @snoc n b d hw hd ih =>
      obtain ⟨m1, m2⟩ := ih
      obtain ⟨i, hi, rfl⟩ := mem_rd m1
      obtain ⟨q1, q2⟩ := B.done i (by omega) hi d hd
      exact ⟨q1, by omega⟩
  refine ⟨B.len, B.src.1, fun x x0 x1 => ?_⟩
  by_cases hx : x ∈ Q'
  · right
    obtain ⟨_, _, q1, q2⟩ := B.inq x hx
    exact ⟨q1, q2, fun n hn => (close n x hn).2⟩
  · left
    exact ⟨B.out x x0 x1 hx, fun n hn => hx (close n x hn).1⟩
structure Sym (nx : Int → Int → Int) : Prop where
  back : ∀ c d, 0 ≤ nx c d → ∃ e, nx (nx c d) e = c
theorem Walk.cons {nx : Int → Int → Int} {a d : Int} (h0 : 0 ≤ nx a d) {n : Nat} {b : Int} (h : Walk nx (nx a d) n b) : Walk nx a (n + 1) b := by
  induction h with
  | nil => exact Walk.snoc Walk.nil h0
  | snoc _ hd ih => exact Walk.snoc ih hd
theorem Walk.rev {nx : Int → Int → Int} {N : Nat} (S : Steps nx N) (Y : Sym nx) {a : Int} {n : Nat} {b : Int} (h : Walk nx a n b) : Walk nx b n a := by
  induction h with
  | nil => exact Walk.nil
  | @snoc n b d hw hd ih =>
    obtain ⟨e, he⟩ := Y.back b d hd
    have := S.rng b d hd
    have h2 : Walk nx (nx (nx b d) e) n a := by rw [he]; exact ih
    exact Walk.cons (by rw [he]; omega) h2
end Go.Proofs.Ytpeehicekddjhaa.F
end

section
namespace Go.Proofs.Ytpeehicekddjhaa.F
open Go.RowKit Go.Proofs.YtpeehicekddjhaaW.PrintWords Go.Proofs.YtpeehicekddjhaaW.PrintLast Go.Proofs.YtpeehicekddjhaaW.PrintMore
set_option linter.unusedVariables false
set_option linter.unusedSimpArgs false
theorem w64 {x : Int} (h1 : -9223372036854775808 ≤ x) (h2 : x ≤ 9223372036854775807) : wrap64 x = x := by unfold wrap64; omega
theorem wrapi_nat {n : Nat} (h : n < 9223372036854775808) : IntKind.i64.wrap (n : Int) = (n : Int) := by rw [IntKind.wrap_i64]; omega
theorem bits_and_i {a b : Nat} (ha : a < 2 ^ 63) (hb : b < 2 ^ 63) : Go.bits .and .i64 (a : Int) (b : Int) = ((a &&& b : Nat) : Int) :=
  (bits_nat .i64 63 (by decide) (fun n h0 h1 => by rw [IntKind.wrap_i64]; omega) a b ha hb).1
theorem bits_xor_i {a b : Nat} (ha : a < 2 ^ 63) (hb : b < 2 ^ 63) : Go.bits .xor .i64 (a : Int) (b : Int) = ((a ^^^ b : Nat) : Int) := by
  have ha' : a % 2 ^ 64 = a := Nat.mod_eq_of_lt (by omega)
  have hb' : b % 2 ^ 64 = b := Nat.mod_eq_of_lt (by omega)
  have hx := Nat.xor_lt_two_pow ha hb
  show IntKind.i64.wrap (((BitVec.ofInt 64 (a : Int) ^^^ BitVec.ofInt 64 (b : Int)).toNat : Nat) : Int) = _
  rw [BitVec.ofInt_natCast, BitVec.ofInt_natCast, BitVec.toNat_xor, BitVec.toNat_ofNat, BitVec.toNat_ofNat, ha', hb']
  exact wrapi_nat (by omega)
theorem shl_one {g : Nat} (h : g < 63) : shl .i64 1 (g : Int) = ((2 ^ g : Nat) : Int) := by
  unfold shl
  have : min ((g : Int).toNat) IntKind.i64.bits = g := by simp [IntKind.bits]; omega
  rw [this, Int.one_mul]
  have hp : (2 : Nat) ^ g ≤ 2 ^ 62 := Nat.pow_le_pow_right (by decide) (by omega)
  have : ((2 : Int) ^ g) = ((2 ^ g : Nat) : Int) := by simp
  rw [this]
  exact wrapi_nat (by omega)
theorem shr_nat {a g : Nat} (ha : a < 2 ^ 63) : shr .i64 (a : Int) (g : Int) = ((a >>> g : Nat) : Int) := by
  unfold shr
  rw [Nat.shiftRight_eq_div_pow]
  by_cases hg : g ≤ 64
  · have : min ((g : Int).toNat) IntKind.i64.bits = g := by simp [IntKind.bits]; omega
    rw [this]
    have : ((2 : Int) ^ g) = ((2 ^ g : Nat) : Int) := by simp
    rw [this]
    omega
  · have : min ((g : Int).toNat) IntKind.i64.bits = 64 := by simp [IntKind.bits]; omega
    rw [this]
    have hp : (2 : Nat) ^ 64 ≤ 2 ^ g := Nat.pow_le_pow_right (by decide) (by omega)
    rw [Nat.div_eq_of_lt (by omega)]
    have : (a : Int) / 2 ^ 64 = 0 := by omega
    simpa using this
def opn (o g : Int) : Bool := o.toNat.testBit g.toNat
theorem bit_test {o g : Int} (ho : 0 ≤ o) (ho2 : o < 9223372036854775808) (hg : 0 ≤ g) : (Go.bits .and .i64 (shr .i64 o g) 1 == 1) = opn o g := by
  obtain ⟨a, rfl⟩ := Int.eq_ofNat_of_zero_le ho
  obtain ⟨n, rfl⟩ := Int.eq_ofNat_of_zero_le hg
  have ha : a < 2 ^ 63 := by omega
  rw [shr_nat ha]
  have h2 : a >>> n < 2 ^ 63 := Nat.lt_of_le_of_lt (by rw [Nat.shiftRight_eq_div_pow]; exact Nat.div_le_self _ _) ha
  unfold opn
  simp only [Int.toNat_natCast]
  rw [show ((1 : Int)) = ((1 : Nat) : Int) from rfl, bits_and_i h2 (by decide), Nat.testBit, Nat.and_one_is_mod, Nat.one_and_eq_mod_two]
  rcases Nat.mod_two_eq_zero_or_one (a >>> n) with h | h <;> simp [h]
theorem fold_loop {σ ρ : Type} {F : Nat → σ → Int → Option ρ} {n c : Nat} {step : σ → Nat → σ} {fin : σ → ρ} {I : σ → Nat → Prop}
    (hF : ∀ k s (i : Nat), c ≤ k → i < n → I s i → F (k + 1) s (i : Int) = F k (step s i) ((i : Int) + 1)) (hI : ∀ s i, i < n → I s i → I (step s i) (i + 1))
    (hE : ∀ k s, c ≤ k → I s n → F (k + 1) s (n : Int) = some (fin s)) :
    ∀ (d i : Nat) (k : Nat) (s : σ), i + d = n → d + c + 1 ≤ k → I s i → F k s (i : Int) = some (fin ((List.range' i d).foldl step s))
  | 0, i, k, s, hi, hk, h => by
    obtain ⟨m, rfl⟩ : ∃ m, k = m + 1 := ⟨k - 1, by omega⟩
    obtain rfl : i = n := by omega
    simpa using hE m s (by omega) h
  | d + 1, i, k, s, hi, hk, h => by
    obtain ⟨m, rfl⟩ : ∃ m, k = m + 1 := ⟨k - 1, by omega⟩
    rw [hF m s i (by omega) (by omega) h, List.range'_succ, List.foldl_cons]
    have := fold_loop (c := c) (step := step) (fin := fin) hF hI hE d (i + 1) m (step s i) (by omega) (by omega) (hI s i (by omega) h)
    rwa [Int.natCast_add] at this
theorem inv_loop {σ ρ : Type} {F : Nat → σ → Int → Option ρ} {n c : Nat} {fin : σ → ρ} {I : σ → Nat → Prop}
    (hF : ∀ k s (i : Nat), c ≤ k → i < n → I s i → ∃ s', I s' (i + 1) ∧ F (k + 1) s (i : Int) = F k s' ((i : Int) + 1))
    (hE : ∀ k s, c ≤ k → I s n → F (k + 1) s (n : Int) = some (fin s)) :
    ∀ (d i : Nat) (k : Nat) (s : σ), i + d = n → d + c + 1 ≤ k → I s i → ∃ s', I s' n ∧ F k s (i : Int) = some (fin s')
  | 0, i, k, s, hi, hk, h => by
    obtain ⟨m, rfl⟩ : ∃ m, k = m + 1 := ⟨k - 1, by omega⟩
    obtain rfl : i = n := by omega
    exact ⟨s, h, hE m s (by omega) h⟩
  | d + 1, i, k, s, hi, hk, h => by
    obtain ⟨m, rfl⟩ : ∃ m, k = m + 1 := ⟨k - 1, by omega⟩
    obtain ⟨s', h', e⟩ := hF m s i (by omega) (by omega) h
    obtain ⟨s2, h2, e2⟩ := inv_loop (c := c) (fin := fin) hF hE d (i + 1) m s' (by omega) (by omega) h'
    rw [Int.natCast_add] at e2
    exact ⟨s2, h2, e.trans e2⟩
theorem range'_zero_foldl {α σ : Type} (z : α) (f : σ → α → σ) : ∀ (l : List α) (s : σ), (List.range' 0 l.length).foldl (fun s i => f s (l.getD i z)) s = l.foldl f s := by
  intro l s
  rw [← List.range_eq_range']
  have key : ∀ (l : List α), l = (List.range l.length).map fun i => l.getD i z := by
    intro l
    apply List.ext_getElem
    · simp
    · intro i h1 h2
      simp [List.getD_eq_getElem?_getD, List.getElem?_eq_getElem h1]
  conv => rhs; rw [key l, List.foldl_map]
theorem w64_succ {i n : Nat} (h : i < n) (hn : n ≤ 9223372036854775807) : wrap64 ((i : Int) + 1) = (i : Int) + 1 := w64 (by omega) (by omega)
end Go.Proofs.Ytpeehicekddjhaa.F
end

section
namespace Go.Proofs.Ytpeehicekddjhaa.F
open Go.RowKit Go.Proofs.YtpeehicekddjhaaW.PrintWords Go.Proofs.YtpeehicekddjhaaW.PrintLast Go.Proofs.YtpeehicekddjhaaW.PrintMore
set_option linter.unusedVariables false
set_option linter.unusedSimpArgs false
def gok (w h : Int) : Bool := decide (1 ≤ w ∧ w ≤ 4 ∧ 1 ≤ h ∧ h ≤ 4)
theorem gok_iff {w h : Int} : gok w h = true ↔ 1 ≤ w ∧ w ≤ 4 ∧ 1 ≤ h ∧ h ≤ 4 := by simp [gok]
theorem gok_wide {w h : Int} (H : gok w h = true) : w = 1 ∨ w = 2 ∨ w = 3 ∨ w = 4 := by rw [gok_iff] at H; omega
theorem gok_high {w h : Int} (H : gok w h = true) : h = 1 ∨ h = 2 ∨ h = 3 ∨ h = 4 := by rw [gok_iff] at H; omega
def cells (w h : Int) : Int := if gok w h then w * h else 0
def gaps (w h : Int) : Int := if gok w h then (w - 1) * h + w * (h - 1) else 0
theorem cells_bd (w h : Int) : 0 ≤ cells w h ∧ cells w h ≤ 16 := by
  unfold cells
  by_cases H : gok w h = true
  · rw [if_pos H]
    rcases gok_wide H with rfl | rfl | rfl | rfl <;> rcases gok_high H with rfl | rfl | rfl | rfl <;> omega
  · rw [if_neg H]; omega
theorem gaps_bd (w h : Int) : 0 ≤ gaps w h ∧ gaps w h ≤ 24 := by
  unfold gaps
  by_cases H : gok w h = true
  · rw [if_pos H]
    rcases gok_wide H with rfl | rfl | rfl | rfl <;> rcases gok_high H with rfl | rfl | rfl | rfl <;> omega
  · rw [if_neg H]; omega
theorem impl_GridOk_eq (w h : Int) : impl_GridOk.f w h = some (gok w h) := by
  unfold impl_GridOk.f gok
  by_cases h1 : w ≥ 1 <;> by_cases h2 : w ≤ 4 <;> by_cases h3 : h ≥ 1 <;> simp [*] <;> omega
theorem spec_l01In_eq (x a b : Int) : spec_l01In.f x a b = some (decide (a ≤ x ∧ x ≤ b)) := by
  unfold spec_l01In.f
  by_cases h1 : x ≥ a
  · simp [h1]
  · rw [if_neg h1]; simp; omega
theorem spec_GridOk_eq (w h : Int) : spec_GridOk.f w h = some (gok w h) := by
  unfold spec_GridOk.f
  simp only [spec_l01In_eq, Option.bind_some]
  unfold gok
  by_cases h1 : 1 ≤ w ∧ w ≤ 4
  · simp [h1]
  · rw [if_neg (by simpa using h1)]; simp; omega
theorem gok_mul {w h : Int} (H : gok w h = true) : 1 ≤ w * h ∧ w * h ≤ 16 ∧ 0 ≤ (w - 1) * h ∧ (w - 1) * h ≤ 12 ∧ 0 ≤ w * (h - 1) ∧ w * (h - 1) ≤ 12 := by
  rcases gok_wide H with rfl | rfl | rfl | rfl <;> rcases gok_high H with rfl | rfl | rfl | rfl <;> omega
theorem impl_CountCells_eq (w h : Int) : impl_CountCells.f w h = some (cells w h) := by
  unfold impl_CountCells.f cells
  rw [impl_GridOk_eq, Option.bind_some]
  by_cases H : gok w h = true
  · have := gok_mul H
    rw [if_pos H, if_pos H, w64 (by omega) (by omega)]
  · rw [if_neg H, if_neg H]
theorem spec_CountCells_eq (w h : Int) : spec_CountCells.f w h = some (cells w h) := by
  unfold spec_CountCells.f cells
  rw [spec_GridOk_eq, Option.bind_some]
  by_cases H : gok w h = true
  · have := gok_mul H
    rw [if_pos H, if_pos H, w64 (by omega) (by omega)]
  · rw [if_neg H, if_neg H]
theorem impl_CountGaps_eq (w h : Int) : impl_CountGaps.f w h = some (gaps w h) := by
  unfold impl_CountGaps.f gaps
  rw [impl_GridOk_eq, Option.bind_some]
  by_cases H : gok w h = true
  · have := gok_mul H
    have b := gok_iff.1 H
    rw [if_pos H, if_pos H, w64 (x := w - 1) (by omega) (by omega), w64 (x := h - 1) (by omega) (by omega), w64 (x := (w - 1) * h) (by omega) (by omega), w64 (x := w * (h - 1)) (by omega) (by omega), w64 (by omega) (by omega)]
  · rw [if_neg H, if_neg H]
theorem spec_CountGaps_eq (w h : Int) : spec_CountGaps.f w h = some (gaps w h) := by
  unfold spec_CountGaps.f spec_l02East.f gaps
  rw [spec_GridOk_eq, Option.bind_some]
  by_cases H : gok w h = true
  · have := gok_mul H
    have b := gok_iff.1 H
    rw [if_pos H, if_pos H, Option.bind_some, w64 (x := w - 1) (by omega) (by omega), w64 (x := h - 1) (by omega) (by omega), Int.mul_comm h (w - 1), w64 (x := (w - 1) * h) (by omega) (by omega), w64 (x := w * (h - 1)) (by omega) (by omega), w64 (by omega) (by omega)]
  · rw [if_neg H, if_neg H]
def icell (w h c : Int) : Bool := decide (0 ≤ c ∧ c < cells w h)
def igap (w h g : Int) : Bool := decide (0 ≤ g ∧ g < gaps w h)
theorem icell_iff {w h c : Int} : icell w h c = true ↔ 0 ≤ c ∧ c < cells w h := by simp [icell]
theorem igap_iff {w h c : Int} : igap w h c = true ↔ 0 ≤ c ∧ c < gaps w h := by simp [igap]
theorem impl_isCell_eq (w h c : Int) : impl_isCell.f w h c = some (icell w h c) := by
  unfold impl_isCell.f icell
  rw [impl_CountCells_eq]
  by_cases h1 : c ≥ 0
  · rw [if_pos h1]; simp [h1]
  · rw [if_neg h1]; simp; omega
theorem in_cells (w h c : Int) : decide (0 ≤ c ∧ c ≤ wrap64 (cells w h - 1)) = icell w h c := by
  have := cells_bd w h
  rw [w64 (by omega) (by omega)]
  unfold icell
  rw [Bool.eq_iff_iff]; simp; omega
theorem in_gaps (w h c : Int) : decide (0 ≤ c ∧ c ≤ wrap64 (gaps w h - 1)) = igap w h c := by
  have := gaps_bd w h
  rw [w64 (by omega) (by omega)]
  unfold igap
  rw [Bool.eq_iff_iff]; simp; omega
theorem icell_gok {w h c : Int} (H : icell w h c = true) : gok w h = true := by
  rw [icell_iff] at H
  unfold cells at H
  by_cases G : gok w h = true
  · exact G
  · rw [if_neg G] at H; omega
theorem icell_mul {w h c : Int} (H : icell w h c = true) : 0 ≤ c ∧ c < w * h := by
  have G := icell_gok H
  rw [icell_iff] at H
  unfold cells at H
  rwa [if_pos G] at H
def nb (w h c d : Int) : Int :=
  if icell w h c then
    (if d = 0 then (if c / w > 0 then c - w else -1) else if d = 1 then (if c % w < w - 1 then c + 1 else -1) else if d = 2 then (if c / w < h - 1 then c + w else -1) else if d = 3 then (if c % w > 0 then c - 1 else -1) else -1)
  else -1
theorem div_facts {w h c : Int} (G : gok w h = true) (H : 0 ≤ c ∧ c < w * h) : Int.tdiv c w = c / w ∧ Int.tmod c w = c % w ∧ wrap64 (c / w) = c / w ∧ 0 ≤ c / w ∧ c / w < h ∧ 0 ≤ c % w ∧ c % w < w ∧ w * (c / w) + c % w = c := by
  have b := gok_iff.1 G
  have e1 : Int.tdiv c w = c / w := Int.tdiv_eq_ediv_of_nonneg H.1
  have e2 : Int.tmod c w = c % w := Int.tmod_eq_emod_of_nonneg H.1
  have e3 : 0 ≤ c / w := Int.ediv_nonneg H.1 (by omega)
  have e4 : c / w < h := by
    apply Int.ediv_lt_of_lt_mul (by omega)
    rw [Int.mul_comm]; exact H.2
  exact ⟨e1, e2, w64 (by omega) (by omega), e3, e4, Int.emod_nonneg _ (by omega), Int.emod_lt_of_pos _ (by omega), Int.mul_ediv_add_emod c w⟩
theorem impl_Neighbor_eq {k : Nat} (hk : 3 ≤ k) (w h c d : Int) : impl_Neighbor.f k w h c d = some (nb w h c d) := by
  obtain ⟨m, rfl⟩ : ∃ m, k = m + 3 := ⟨k - 3, by omega⟩
  unfold impl_Neighbor.f nb
  rw [impl_isCell_eq, Option.bind_some]
  by_cases H : icell w h c = true
  · have G := icell_gok H
    have b := gok_iff.1 G
    have hc := icell_mul H
    have hm := gok_mul G
    obtain ⟨e1, e2, e3, y0, y1, x0, x1, hq⟩ := div_facts G hc
    rw [if_pos H, if_pos H, if_neg (by omega), e1, e2, e3]
    simp only [impl_Neighbor.j0, impl_Neighbor.j1, impl_Neighbor.j2]
    rw [w64 (x := w - 1) (by omega) (by omega), w64 (x := h - 1) (by omega) (by omega)]
    by_cases d0 : d = 0
    · subst d0
      by_cases t : c / w > 0 <;> simp [t, w64 (x := c - w) (by omega) (by omega)]
    by_cases d1 : d = 1
    · subst d1
      by_cases t : c % w < w - 1 <;> simp [t, w64 (x := c + 1) (by omega) (by omega)]
    by_cases d2 : d = 2
    · subst d2
      by_cases t : c / w < h - 1 <;> simp [t, w64 (x := c + w) (by omega) (by omega)]
    by_cases d3 : d = 3
    · subst d3
      by_cases t : c % w > 0 <;> simp [t, w64 (x := c - 1) (by omega) (by omega)]
    simp [d0, d1, d2, d3]
  · rw [if_neg H, if_neg H]
theorem spec_j0_eq {w h : Int} (G : gok w h = true) (m : Nat) {x y : Int} : spec_Neighbor.j0 (m + 1) x y w h = some (if 0 ≤ x ∧ x ≤ w - 1 ∧ 0 ≤ y ∧ y ≤ h - 1 then y * w + x else -1) := by
  have b := gok_iff.1 G
  simp only [spec_Neighbor.j0, spec_l01In_eq, Option.bind_some, decide_eq_true_eq]
  rw [w64 (x := w - 1) (by omega) (by omega), w64 (x := h - 1) (by omega) (by omega)]
  by_cases h1 : 0 ≤ x ∧ x ≤ w - 1
  · rw [if_pos h1]
    by_cases h2 : 0 ≤ y ∧ y ≤ h - 1
    · have l1 : y * w ≤ 3 * 4 := Int.mul_le_mul (by omega) (by omega) (by omega) (by omega)
      have l0 : 0 ≤ y * w := Int.mul_nonneg (by omega) (by omega)
      rw [if_pos h2, if_pos ⟨h1.1, h1.2, h2.1, h2.2⟩, w64 (x := y * w) (by omega) (by omega), w64 (by omega) (by omega)]
    · rw [if_neg h2, if_neg (fun h => h2 ⟨h.2.2.1, h.2.2.2⟩)]
  · rw [if_neg h1, if_neg (fun h => h1 ⟨h.1, h.2.1⟩)]
theorem spec_Neighbor_eq {k : Nat} (hk : 1 ≤ k) (w h c d : Int) : spec_Neighbor.f k w h c d = some (nb w h c d) := by
  obtain ⟨m, rfl⟩ : ∃ m, k = m + 1 := ⟨k - 1, by omega⟩
  unfold spec_Neighbor.f nb
  rw [spec_CountCells_eq, Option.bind_some, spec_l01In_eq, Option.bind_some, in_cells]
  by_cases H : icell w h c = true
  · have G := icell_gok H
    have b := gok_iff.1 G
    have hc := icell_mul H
    have hm := gok_mul G
    obtain ⟨e1, e2, e3, y0, y1, x0, x1, hq⟩ := div_facts G hc
    rw [if_pos H, if_pos H, if_neg (by omega), e1, e2, e3, w64 (x := c / w - 1) (by omega) (by omega), w64 (x := c / w + 1) (by omega) (by omega), w64 (x := c % w - 1) (by omega) (by omega), w64 (x := c % w + 1) (by omega) (by omega)]
    simp only [spec_j0_eq G]
    have p1 : (c / w - 1) * w = w * (c / w) - w := by rw [Int.sub_mul, Int.one_mul, Int.mul_comm]
    have p2 : (c / w + 1) * w = w * (c / w) + w := by rw [Int.add_mul, Int.one_mul, Int.mul_comm]
    have p3 : (c / w) * w = w * (c / w) := Int.mul_comm _ _
    rw [p1, p2, p3]
    by_cases d0 : d = 0
    · rw [if_pos d0, if_pos d0]
      by_cases t : c / w > 0
      · rw [if_pos (by omega), if_pos t]; congr 1; omega
      · rw [if_neg (by omega), if_neg t]
    rw [if_neg d0, if_neg d0]
    by_cases d1 : d = 1
    · rw [if_pos d1, if_pos d1]
      by_cases t : c % w < w - 1
      · rw [if_pos (by omega), if_pos t]; congr 1; omega
      · rw [if_neg (by omega), if_neg t]
    rw [if_neg d1, if_neg d1]
    by_cases d2 : d = 2
    · rw [if_pos d2, if_pos d2]
      by_cases t : c / w < h - 1
      · rw [if_pos (by omega), if_pos t]; congr 1; omega
      · rw [if_neg (by omega), if_neg t]
    rw [if_neg d2, if_neg d2]
    by_cases d3 : d = 3
    · rw [if_pos d3, if_pos d3]
      by_cases t : c % w > 0
      · rw [if_pos (by omega), if_pos t]; congr 1; omega
      · rw [if_neg (by omega), if_neg t]
    rw [if_neg d3, if_neg d3]
  · rw [if_neg H, if_neg H]
end Go.Proofs.Ytpeehicekddjhaa.F
end

section
namespace Go.Proofs.Ytpeehicekddjhaa.F
open Go.RowKit Go.Proofs.YtpeehicekddjhaaW.PrintWords Go.Proofs.YtpeehicekddjhaaW.PrintLast Go.Proofs.YtpeehicekddjhaaW.PrintMore
set_option linter.unusedVariables false
set_option linter.unusedSimpArgs false
theorem mn_min (a b : Int) : mn a b = min a b := by unfold mn; omega
theorem nb_facts {w h c d : Int} (H : 0 ≤ nb w h c d) : icell w h c = true ∧ icell w h (nb w h c d) = true ∧ 0 ≤ d ∧ d ≤ 3 := by
  unfold nb at H ⊢
  by_cases hc : icell w h c = true
  · have G := icell_gok hc
    have b := gok_iff.1 G
    have hm := icell_mul hc
    obtain ⟨_, _, _, y0, y1, x0, x1, hq⟩ := div_facts G hm
    rw [if_pos hc] at H ⊢
    have m1 : w * (c / w) ≤ w * (h - 1) := Int.mul_le_mul_of_nonneg_left (by omega) (by omega)
    have m2 : w * (h - 1) = w * h - w := by rw [Int.mul_sub, Int.mul_one]
    have ce : cells w h = w * h := by unfold cells; rw [if_pos G]
    refine ⟨hc, ?_, ?_⟩
    · rw [icell_iff, ce]
      by_cases d0 : d = 0
      · subst d0
        by_cases t : c / w > 0
        · have m3 : w * 1 ≤ w * (c / w) := Int.mul_le_mul_of_nonneg_left (by omega) (by omega)
          simp [t]; omega
        · simp [t] at H
      by_cases d1 : d = 1
      · subst d1
        by_cases t : c % w < w - 1
        · simp [t]; omega
        · simp [t] at H
      by_cases d2 : d = 2
      · subst d2
        by_cases t : c / w < h - 1
        · have m4 : w * (c / w + 1) ≤ w * (h - 1) := Int.mul_le_mul_of_nonneg_left (by omega) (by omega)
          rw [Int.mul_add, Int.mul_one] at m4
          simp [t]; omega
        · simp [t] at H
      by_cases d3 : d = 3
      · subst d3
        by_cases t : c % w > 0
        · simp [t]; omega
        · simp [t] at H
      simp [d0, d1, d2, d3] at H
    · by_cases d0 : d = 0
      · omega
      by_cases d1 : d = 1
      · omega
      by_cases d2 : d = 2
      · omega
      by_cases d3 : d = 3
      · omega
      simp [d0, d1, d2, d3] at H
  · rw [if_neg hc] at H; omega
def gp (w h c d : Int) : Int :=
  if nb w h c d < 0 then -1 else if d = 1 ∨ d = 3 then min c (nb w h c d) / w * (w - 1) + min c (nb w h c d) % w else (w - 1) * h + min c (nb w h c d)
theorem gp_neg {w h c d : Int} (H : nb w h c d < 0) : gp w h c d = -1 := by unfold gp; rw [if_pos H]
theorem min_facts {w h c d : Int} (H : 0 ≤ nb w h c d) : 0 ≤ min c (nb w h c d) ∧ min c (nb w h c d) < w * h ∧ gok w h = true := by
  obtain ⟨h1, h2, _, _⟩ := nb_facts H
  have a := icell_mul h1
  have b := icell_mul h2
  exact ⟨by omega, by omega, icell_gok h1⟩
theorem impl_GapAt_eq {k : Nat} (hk : 3 ≤ k) (w h c d : Int) : impl_GapAt.f k w h c d = some (gp w h c d) := by
  unfold impl_GapAt.f gp
  rw [impl_Neighbor_eq hk, Option.bind_some]
  by_cases H : nb w h c d < 0
  · rw [if_pos H, if_pos H]
  · have H' : 0 ≤ nb w h c d := by omega
    obtain ⟨m0, m1, G⟩ := min_facts H'
    have b := gok_iff.1 G
    have hm := gok_mul G
    rw [if_neg H, if_neg H, mn_min]
    obtain ⟨e1, e2, e3, y0, y1, x0, x1, hq⟩ := div_facts G ⟨m0, m1⟩
    have l1 : min c (nb w h c d) / w * (w - 1) ≤ 3 * 3 := Int.mul_le_mul (by omega) (by omega) (by omega) (by omega)
    have l0 : 0 ≤ min c (nb w h c d) / w * (w - 1) := Int.mul_nonneg y0 (by omega)
    have t1 : wrap64 (wrap64 (wrap64 (Int.tdiv (min c (nb w h c d)) w) * wrap64 (w - 1)) + Int.tmod (min c (nb w h c d)) w) = min c (nb w h c d) / w * (w - 1) + min c (nb w h c d) % w := by
      rw [e1, e2, e3, w64 (x := w - 1) (by omega) (by omega), w64 (x := _ * _) (by omega) (by omega), w64 (by omega) (by omega)]
    have t2 : wrap64 (wrap64 (wrap64 (w - 1) * h) + min c (nb w h c d)) = (w - 1) * h + min c (nb w h c d) := by
      rw [w64 (x := w - 1) (by omega) (by omega), w64 (x := (w - 1) * h) (by omega) (by omega), w64 (by omega) (by omega)]
    rw [t1, t2]
    by_cases d1 : d = 1
    · simp [d1]; omega
    · by_cases d3 : d = 3
      · simp [d3]; omega
      · simp [d1, d3]
theorem spec_GapAt_eq {k : Nat} (hk : 1 ≤ k) (w h c d : Int) : spec_GapAt.f k w h c d = some (gp w h c d) := by
  unfold spec_GapAt.f gp
  rw [spec_Neighbor_eq hk, Option.bind_some]
  by_cases H : nb w h c d < 0
  · rw [if_pos H, if_pos H]
  · have H' : 0 ≤ nb w h c d := by omega
    obtain ⟨m0, m1, G⟩ := min_facts H'
    have b := gok_iff.1 G
    have hm := gok_mul G
    rw [if_neg H, if_neg H, mn_min]
    obtain ⟨e1, e2, e3, y0, y1, x0, x1, hq⟩ := div_facts G ⟨m0, m1⟩
    have l1 : min c (nb w h c d) / w * (w - 1) ≤ 3 * 3 := Int.mul_le_mul (by omega) (by omega) (by omega) (by omega)
    have l0 : 0 ≤ min c (nb w h c d) / w * (w - 1) := Int.mul_nonneg y0 (by omega)
    have t1 : wrap64 (wrap64 (wrap64 (Int.tdiv (min c (nb w h c d)) w) * wrap64 (w - 1)) + Int.tmod (min c (nb w h c d)) w) = min c (nb w h c d) / w * (w - 1) + min c (nb w h c d) % w := by
      rw [e1, e2, e3, w64 (x := w - 1) (by omega) (by omega), w64 (x := _ * _) (by omega) (by omega), w64 (by omega) (by omega)]
    have t2 : wrap64 (wrap64 (h * wrap64 (w - 1)) + min c (nb w h c d)) = (w - 1) * h + min c (nb w h c d) := by
      rw [w64 (x := w - 1) (by omega) (by omega), Int.mul_comm h, w64 (x := (w - 1) * h) (by omega) (by omega), w64 (by omega) (by omega)]
    simp only [spec_l02East.f, Option.bind_some]
    rw [t1, t2]
    by_cases d1 : d = 1
    · simp [d1]; omega
    · by_cases d3 : d = 3
      · simp [d3]; omega
      · simp [d1, d3]
def mok (w h o : Int) : Bool := gok w h && decide (0 ≤ o ∧ o < 2 ^ (gaps w h).toNat)
theorem mok_iff {w h o : Int} : mok w h o = true ↔ gok w h = true ∧ 0 ≤ o ∧ o < 2 ^ (gaps w h).toNat := by simp [mok]
theorem gpow (w h : Int) : (2 : Int) ^ (gaps w h).toNat ≤ 16777216 ∧ (1 : Int) ≤ 2 ^ (gaps w h).toNat := by
  have b := gaps_bd w h
  have p : (2 : Nat) ^ (gaps w h).toNat ≤ 2 ^ 24 := Nat.pow_le_pow_right (by decide) (by omega)
  have q : 0 < (2 : Nat) ^ (gaps w h).toNat := Nat.two_pow_pos _
  have e : ((2 : Int) ^ (gaps w h).toNat) = ((2 ^ (gaps w h).toNat : Nat) : Int) := by simp
  omega
theorem mok_small {w h o : Int} (H : mok w h o = true) : 0 ≤ o ∧ o < 16777216 := by
  have := mok_iff.1 H
  have := gpow w h
  omega
theorem shl_gaps (w h : Int) : shl .i64 1 (gaps w h) = 2 ^ (gaps w h).toNat := by
  have b := gaps_bd w h
  have := shl_one (g := (gaps w h).toNat) (by omega)
  rw [show (((gaps w h).toNat : Nat) : Int) = gaps w h from Int.toNat_of_nonneg b.1] at this
  rw [this]
  simp
theorem impl_MazeOk_eq (w h o : Int) : impl_MazeOk.f w h o = some (mok w h o) := by
  unfold impl_MazeOk.f mok
  have b := gaps_bd w h
  rw [impl_GridOk_eq, impl_CountGaps_eq]
  simp only [Option.bind_some, shl_gaps]
  by_cases G : gok w h = true
  · simp only [G, if_true, Bool.true_and]
    by_cases h0 : o ≥ 0
    · rw [if_pos h0, if_pos b.1]
      simp; omega
    · rw [if_neg h0]; simp; omega
  · simp [G]
theorem spec_MazeOk_eq (w h o : Int) : spec_MazeOk.f w h o = some (mok w h o) := by
  unfold spec_MazeOk.f mok
  have b := gaps_bd w h
  have p := gpow w h
  rw [spec_GridOk_eq, spec_CountGaps_eq]
  simp only [Option.bind_some, shl_gaps, w64 (x := (2 : Int) ^ (gaps w h).toNat - 1) (by omega) (by omega)]
  by_cases G : gok w h = true
  · simp only [Option.bind_some, G, if_true, Bool.true_and, spec_l01In_eq, if_pos b.1]
    congr 2
    exact propext ⟨fun h => ⟨h.1, by omega⟩, fun h => ⟨h.1, by omega⟩⟩
  · simp [G]
theorem impl_isOpen_eq {w h o : Int} (h0 : 0 ≤ o) (h1 : o < 9223372036854775808) (g : Int) : impl_isOpen.f w h o g = some (decide (0 ≤ g) && opn o g) := by
  unfold impl_isOpen.f
  by_cases hg : g ≥ 0
  · rw [if_pos hg, if_pos (by omega), bit_test h0 h1 (by omega)]
    simp; omega
  · rw [if_neg hg]
    simp; omega
theorem spec_l03Bit_eq {o : Int} (h0 : 0 ≤ o) (h1 : o < 9223372036854775808) {g : Int} (hg : 0 ≤ g) : spec_l03Bit.f o g = some (opn o g) := by
  unfold spec_l03Bit.f
  rw [if_pos hg, bit_test h0 h1 hg]
def psg (w h o g : Int) : Bool := mok w h o && igap w h g && opn o g
theorem spec_IsPassage_eq (w h o g : Int) : spec_IsPassage.f w h o g = some (psg w h o g) := by
  unfold spec_IsPassage.f psg
  rw [spec_MazeOk_eq, spec_CountGaps_eq]
  by_cases M : mok w h o = true
  · have s := mok_small M
    simp only [Option.bind_some, M, if_true, Bool.true_and, spec_l01In_eq, in_gaps]
    by_cases g1 : igap w h g = true
    · rw [if_pos g1, spec_l03Bit_eq s.1 (by omega) (igap_iff.1 g1).1]
      simp [g1]
    · rw [if_neg g1]; simp [g1]
  · simp [M]
theorem gp_range {w h c d : Int} (H : 0 ≤ nb w h c d) : igap w h (gp w h c d) = true := by
  obtain ⟨h1, h2, d0, d3⟩ := nb_facts H
  have G := icell_gok h1
  have a := icell_mul h1
  rw [igap_iff]
  unfold gp gaps
  rw [if_neg (by omega), if_pos G]
  have hd : d = 0 ∨ d = 1 ∨ d = 2 ∨ d = 3 := by omega
  revert H
  unfold nb
  rw [if_pos h1]
  rcases gok_wide G with rfl | rfl | rfl | rfl <;> rcases gok_high G with rfl | rfl | rfl | rfl <;> rcases hd with rfl | rfl | rfl | rfl <;> simp <;> split <;> omega
def st (w h o c d : Int) : Int := if psg w h o (gp w h c d) then nb w h c d else -1
theorem st_nb {w h o c d : Int} (H : 0 ≤ st w h o c d) : st w h o c d = nb w h c d ∧ psg w h o (gp w h c d) = true := by
  unfold st at H ⊢
  by_cases p : psg w h o (gp w h c d) = true
  · rw [if_pos p]; exact ⟨rfl, p⟩
  · rw [if_neg p] at H; omega
theorem impl_Step_eq {k : Nat} (hk : 3 ≤ k) (w h o c d : Int) : impl_Step.f k w h o c d = some (st w h o c d) := by
  unfold impl_Step.f st psg
  rw [impl_MazeOk_eq]
  by_cases M : mok w h o = true
  · have s := mok_small M
    simp only [Option.bind_some, M, if_true, Bool.true_and, impl_GapAt_eq hk, impl_isOpen_eq s.1 (show o < 9223372036854775808 by omega), impl_Neighbor_eq hk]
    by_cases H : 0 ≤ nb w h c d
    · have r := gp_range H
      have := (igap_iff.1 r).1
      simp [r, this]
      split <;> rfl
    · rw [gp_neg (by omega)]
      simp [igap]
  · simp [M]
theorem spec_Step_eq {k : Nat} (hk : 1 ≤ k) (w h o c d : Int) : spec_Step.f k w h o c d = some (st w h o c d) := by
  unfold spec_Step.f st
  rw [spec_MazeOk_eq]
  by_cases M : mok w h o = true
  · simp only [Option.bind_some, M, if_true, spec_GapAt_eq hk, spec_IsPassage_eq, spec_Neighbor_eq hk]
    split <;> rfl
  · simp [M, psg]
theorem st_facts {w h o c d : Int} (H : 0 ≤ st w h o c d) : mok w h o = true ∧ icell w h c = true ∧ icell w h (st w h o c d) = true ∧ 0 ≤ d ∧ d ≤ 3 := by
  obtain ⟨e, p⟩ := st_nb H
  rw [e] at H ⊢
  obtain ⟨h1, h2, h3, h4⟩ := nb_facts H
  unfold psg at p
  simp at p
  exact ⟨p.1.1, h1, h2, h3, h4⟩
end Go.Proofs.Ytpeehicekddjhaa.F
end

section
namespace Go.Proofs.Ytpeehicekddjhaa.F
open Go.RowKit Go.Proofs.YtpeehicekddjhaaW.PrintWords Go.Proofs.YtpeehicekddjhaaW.PrintLast Go.Proofs.YtpeehicekddjhaaW.PrintMore
set_option linter.unusedVariables false
set_option linter.unusedSimpArgs false
def flip (o g : Int) : Int := ((o.toNat ^^^ 2 ^ g.toNat : Nat) : Int)
def setb (o g : Int) (b : Bool) : Int := if b then ((o.toNat ||| 2 ^ g.toNat : Nat) : Int) else ((o.toNat ^^^ (o.toNat &&& 2 ^ g.toNat) : Nat) : Int)
theorem testBit_two_pow' (g i : Nat) : (2 ^ g).testBit i = decide (g = i) := by rw [Nat.testBit_two_pow]
theorem opn_flip {o g i : Int} (hg : 0 ≤ g) (hi : 0 ≤ i) : opn (flip o g) i = if i = g then !opn o i else opn o i := by
  unfold opn flip
  rw [Int.toNat_natCast, Nat.testBit_xor, testBit_two_pow']
  by_cases h : i = g
  · subst h; simp
  · rw [if_neg h]
    have : ¬ g.toNat = i.toNat := by omega
    simp [this]
theorem opn_setb {o g i : Int} (b : Bool) (hg : 0 ≤ g) (hi : 0 ≤ i) : opn (setb o g b) i = if i = g then b else opn o i := by
  unfold opn setb
  cases b with
  | true =>
    rw [if_pos rfl, Int.toNat_natCast, Nat.testBit_or, testBit_two_pow']
    by_cases h : i = g
    · subst h; simp
    · rw [if_neg h]
      have : ¬ g.toNat = i.toNat := by omega
      simp [this]
  | false =>
    rw [if_neg Bool.false_ne_true, Int.toNat_natCast, Nat.testBit_xor, Nat.testBit_and, testBit_two_pow']
    by_cases h : i = g
    · subst h; simp
    · rw [if_neg h]
      have : ¬ g.toNat = i.toNat := by omega
      simp [this]
theorem setb_lt {o g : Int} {n : Nat} (b : Bool) (ho : 0 ≤ o) (h1 : o < 2 ^ n) (hg : 0 ≤ g) (h2 : g < n) : 0 ≤ setb o g b ∧ setb o g b < 2 ^ n := by
  unfold setb
  have e : ((2 : Int) ^ n) = ((2 ^ n : Nat) : Int) := by simp
  rw [e] at h1 ⊢
  have ha : o.toNat < 2 ^ n := by omega
  have hp : 2 ^ g.toNat < 2 ^ n := Nat.pow_lt_pow_right (by decide) (by omega)
  have := Nat.or_lt_two_pow ha hp
  have := Nat.xor_lt_two_pow (n := n) (x := o.toNat) (y := o.toNat &&& 2 ^ g.toNat) ha (Nat.lt_of_le_of_lt Nat.and_le_left ha)
  split <;> omega
theorem eq_of_opn {a b : Int} (ha : 0 ≤ a) (hb : 0 ≤ b) (h : ∀ i : Int, 0 ≤ i → opn a i = opn b i) : a = b := by
  have : a.toNat = b.toNat := Nat.eq_of_testBit_eq fun i => by
    have := h (i : Int) (by omega)
    simpa [opn] using this
  omega
theorem setb_flip {o g : Int} (ho : 0 ≤ o) (hg : 0 ≤ g) : setb o g (!opn o g) = flip o g := by
  refine eq_of_opn (by unfold setb; split <;> omega) (by unfold flip; omega) fun i hi => ?_
  rw [opn_setb _ hg hi, opn_flip hg hi]
  by_cases h : i = g
  · subst h; simp
  · simp [h]
theorem xor_shl_eq {o g : Int} (ho : 0 ≤ o) (h1 : o < 2 ^ 62) (hg : 0 ≤ g) (h2 : g < 62) : Go.bits .xor .i64 o (shl .i64 1 g) = flip o g := by
  obtain ⟨a, rfl⟩ := Int.eq_ofNat_of_zero_le ho
  obtain ⟨n, rfl⟩ := Int.eq_ofNat_of_zero_le hg
  have hp : (2 : Nat) ^ n < 2 ^ 62 := Nat.pow_lt_pow_right (by decide) (by omega)

  rw [shl_one (by omega), bits_xor_i (by omega) (by omega)]
  rfl
theorem mok_setb {w h o g : Int} (b : Bool) (M : mok w h o = true) (hg : igap w h g = true) : mok w h (setb o g b) = true := by
  rw [mok_iff] at M ⊢
  have a := igap_iff.1 hg
  have := setb_lt (n := (gaps w h).toNat) b M.2.1 M.2.2 a.1 (by omega)
  exact ⟨M.1, this.1, this.2⟩
end Go.Proofs.Ytpeehicekddjhaa.F
end

section
namespace Go.Proofs.Ytpeehicekddjhaa.F
open Go.RowKit Go.Proofs.YtpeehicekddjhaaW.PrintWords Go.Proofs.YtpeehicekddjhaaW.PrintLast Go.Proofs.YtpeehicekddjhaaW.PrintMore
set_option linter.unusedVariables false
set_option linter.unusedSimpArgs false
theorem impl_isIn_eq (w h o : Int) (l : List Int) : impl_isIn.f w h o l = some (mok w h o && l.all (icell w h)) := by
  unfold impl_isIn.f
  rw [impl_MazeOk_eq, Option.bind_some, allO_of (p := icell w h) (fun x _ => impl_isCell_eq w h x)]
  cases mok w h o <;> simp
theorem spec_l04Has_eq (w h o c : Int) : spec_l04Has.f w h o c = some (mok w h o && icell w h c) := by
  unfold spec_l04Has.f
  rw [spec_MazeOk_eq, spec_CountCells_eq]
  simp only [Option.bind_some, spec_l01In_eq, in_cells]
  cases mok w h o <;> simp
theorem impl_SignOk_eq {k : Nat} (hk : 3 ≤ k) (w h o c d : Int) : impl_SignOk.f k w h o c d = some (decide (0 ≤ st w h o c d)) := by
  unfold impl_SignOk.f
  rw [impl_isIn_eq]
  simp only [Option.bind_some, impl_Step_eq hk, List.all_cons, List.all_nil, Bool.and_true]
  by_cases H : 0 ≤ st w h o c d
  · have := st_facts H
    simp [H, this.1, this.2.1]
  · by_cases q : (mok w h o && icell w h c) = true
    · rw [if_pos q]
    · rw [if_neg q]; simp; omega
end Go.Proofs.Ytpeehicekddjhaa.F
end

section
namespace Go.Proofs.Ytpeehicekddjhaa.F
open Go.RowKit Go.Proofs.YtpeehicekddjhaaW.PrintWords Go.Proofs.YtpeehicekddjhaaW.PrintLast Go.Proofs.YtpeehicekddjhaaW.PrintMore
set_option linter.unusedVariables false
set_option linter.unusedSimpArgs false
theorem bfs_next {nx : Int → Int → Int} {N : Nat} {a : Int} (S : Steps nx N) {i : Nat} {D Q D' Q' : List Int} (B : BfsAt nx N a i D Q) (hi : i < Q.length) (e : bfsD nx (rd Q i) [0, 1, 2, 3] (D, Q) = (D', Q')) : BfsAt nx N a (i + 1) D' Q' := by
  obtain ⟨r1, r2, r3, r4, r5⟩ := bfs_dirs S _ D Q B hi D' Q' e
  refine ⟨r1.toBfs, fun h x hx => ?_, fun j hj hjl d hd => ?_⟩
  · have h1 := r1.near r2 x hx
    have h2 := r1.mono i (i + 1) (by omega) h
    omega
  · by_cases hj' : j = i
    · subst hj'
      rw [r3] at hd ⊢
      have hr := S.rng _ _ hd
      exact r5 d (by have : d = 0 ∨ d = 1 ∨ d = 2 ∨ d = 3 := by omega
                     rcases this with rfl | rfl | rfl | rfl <;> simp) hd
    · exact r1.done j (by omega) hjl d hd
theorem bfs_init {nx : Int → Int → Int} {N : Nat} {a : Int} (h0 : 0 ≤ a) (h1 : a < N) : BfsAt nx N a 0 ((List.replicate N (-1)).set a.toNat 0) [a] := by
  have hrep : ∀ x : Int, 0 ≤ x → x < N → rd (List.replicate N (-1)) x = -1 := fun x x0 x1 => by
    obtain ⟨h, e⟩ := rd_lt (D := List.replicate N (-1 : Int)) x0 (by simpa using x1)
    rw [e, List.getElem_replicate]
  have hset : ∀ x : Int, 0 ≤ x → x < N → rd ((List.replicate N (-1)).set a.toNat 0) x = if x = a then 0 else -1 := fun x x0 x1 => by
    rw [rd_set h0 x0 (by simpa using h1)]
    split
    · rfl
    · exact hrep x x0 x1
  refine ⟨⟨by simp, ?_, ?_, ?_, ?_, ?_⟩, ?_, ?_⟩
  · have := countP_lt_set (D := List.replicate N (-1 : Int)) (i := a) (v := 0) h0 (by simpa using h1) (by rw [hrep a h0 h1]; decide) (by decide)
    rw [List.countP_replicate] at this
    simpa using this
  · intro x hx
    rw [List.mem_singleton.1 hx, hset a h0 h1, if_pos rfl]
    exact ⟨h0, h1, by decide, Walk.nil⟩
  · intro x x0 x1 hx
    rw [hset x x0 x1, if_neg (by simpa using hx)]
  · exact ⟨by rw [hset a h0 h1, if_pos rfl], by simp⟩
  · intro j k hjk hk
    have : j = 0 := by simp at hk; omega
    have : k = 0 := by simp at hk; omega
    subst_vars
    exact Int.le_refl _
  · intro _ x hx
    rw [List.mem_singleton.1 hx]
    simp [rd]
    omega
  · intro j hj; omega
def bfs1 (nx : Int → Int → Int) (c d : Int) (s : List Int × List Int) : List Int × List Int :=
  if 0 ≤ nx c d ∧ rd s.1 (nx c d) < 0 then (s.1.set (nx c d).toNat (rd s.1 c + 1), s.2 ++ [nx c d]) else s
theorem bfsD_cons (nx : Int → Int → Int) (c d : Int) (ds : List Int) (s : List Int × List Int) : bfsD nx c (d :: ds) s = bfsD nx c ds (bfs1 nx c d s) := by
  unfold bfs1; rw [bfsD]; split <;> rfl
theorem bfsD_filter (nx : Int → Int → Int) (c : Int) : ∀ (ds : List Int) (s : List Int × List Int), bfsD nx c (ds.filter fun d => decide (0 ≤ nx c d)) s = bfsD nx c ds s
  | [], s => rfl
  | d :: ds, s => by
    by_cases h : 0 ≤ nx c d
    · rw [List.filter_cons_of_pos (by simpa using h), bfsD_cons, bfsD_cons, bfsD_filter nx c ds]
    · rw [List.filter_cons_of_neg (by simpa using h), bfsD_cons, bfsD_filter nx c ds]
      unfold bfs1
      rw [if_neg (fun q => h q.1)]
def Small (s : List Int × List Int) : Prop := ∀ x : Int, rd s.1 x < s.2.length
structure Mid (nx : Int → Int → Int) (N : Nat) (a : Int) (i : Nat) (c : Int) (s : List Int × List Int) : Prop where
  at_ : BfsAt nx N a i s.1 s.2
  small : Small s
  lt : i < s.2.length
  cur : rd s.2 i = c
theorem mid1 {nx : Int → Int → Int} {N : Nat} {a : Int} (S : Steps nx N) {i : Nat} {c : Int} {s : List Int × List Int} (M : Mid nx N a i c s) (d : Int) : Mid nx N a i c (bfs1 nx c d s) := by
  have hc := M.cur
  unfold bfs1
  by_cases h : 0 ≤ nx c d ∧ rd s.1 (nx c d) < 0
  · rw [if_pos h]
    have B := M.at_
    have r := S.rng c d h.1
    subst hc
    refine ⟨bfs_push S B M.lt h.1 h.2, fun x => ?_, by simp only [List.length_append]; have := M.lt; omega, by simp only; exact rd_app_left M.lt⟩
    have hs := M.small
    simp only [List.length_append, List.length_singleton]
    by_cases hx : 0 ≤ x
    · rw [rd_set (by omega) hx (by rw [B.len]; omega)]
      have h1 := hs x
      have h2 := hs (rd s.2 i)
      split <;> omega
    · have h1 := hs x
      have : rd (s.1.set (nx (rd s.2 i) d).toNat (rd s.1 (rd s.2 i) + 1)) x = rd (s.1.set (nx (rd s.2 i) d).toNat (rd s.1 (rd s.2 i) + 1)) 0 := by unfold rd; rw [show x.toNat = 0 by omega]; rfl
      rw [this, rd_set (by omega) (by omega) (by rw [B.len]; omega)]
      have h2 := hs (rd s.2 i)
      have h3 := hs 0
      split <;> omega
  · rw [if_neg h]; exact M
theorem bfs_room {nx : Int → Int → Int} {N : Nat} {a : Int} {i : Nat} {c : Int} {s : List Int × List Int} (M : Mid nx N a i c s) : s.1.length = N ∧ s.2.length ≤ N ∧ 0 ≤ c ∧ c < N := by
  have h1 := M.at_.len
  have h2 := M.at_.cnt
  have hm : c ∈ s.2 := by rw [← M.cur]; exact rd_memI (by omega) (by have := M.lt; omega)
  obtain ⟨h3, h4, _⟩ := M.at_.inq c hm
  exact ⟨h1, by omega, h3, h4⟩
def stN (w h : Int) : Nat := (cells w h).toNat
theorem steps_st (w h o : Int) : Steps (st w h o) (stN w h) := ⟨fun c d H => by
  obtain ⟨_, h2, h3, h4, h5⟩ := st_facts H
  have a := icell_iff.1 h2
  have b := icell_iff.1 h3
  unfold stN
  exact ⟨a.1, by omega, by omega, h4, h5⟩⟩
theorem nb_all : ∀ w ∈ ([1, 2, 3, 4] : List Int), ∀ h ∈ ([1, 2, 3, 4] : List Int), ∀ c ∈ ([0, 1, 2, 3, 4, 5, 6, 7, 8, 9, 10, 11, 12, 13, 14, 15] : List Int), ∀ d ∈ ([0, 1, 2, 3] : List Int), 0 ≤ nb w h c d → nb w h (nb w h c d) ((d + 2) % 4) = c ∧ gp w h (nb w h c d) ((d + 2) % 4) = gp w h c d := by
  decide +kernel
theorem nb_back {w h c d : Int} (H : 0 ≤ nb w h c d) : ∃ e, nb w h (nb w h c d) e = c ∧ gp w h (nb w h c d) e = gp w h c d := by
  obtain ⟨h1, _, h3, h4⟩ := nb_facts H
  have g := gok_iff.1 (icell_gok h1)
  have hc := icell_iff.1 h1
  have hb := cells_bd w h
  exact ⟨(d + 2) % 4, nb_all w (by simp; omega) h (by simp; omega) c (by simp; omega) d (by simp; omega) H⟩
theorem sym_st (w h o : Int) : Sym (st w h o) := ⟨fun c d H => by
  obtain ⟨e, p⟩ := st_nb H
  rw [e] at H ⊢
  obtain ⟨q, q1, q2⟩ := nb_back H
  refine ⟨q, ?_⟩
  unfold st
  rw [q2, if_pos p, q1]⟩
def ways (w h o c : Int) : List Int := ([0, 1, 2, 3] : List Int).filter fun d => decide (0 ≤ st w h o c d)
theorem ways_length (w h o c : Int) : (ways w h o c).length ≤ 4 := List.length_filter_le _ _
theorem impl_WaysFrom_eq {k : Nat} (hk : 8 ≤ k) (w h o c : Int) : impl_WaysFrom.f k w h o c = some (ways w h o c) := by
  unfold impl_WaysFrom.f
  have := fold_loop (n := 4) (c := 3) (F := fun k (acc : List Int) i => impl_WaysFrom.l0 k c acc i w h o) (step := fun acc i => if 0 ≤ st w h o c (i : Int) then acc ++ [(i : Int)] else acc) (fin := fun acc : List Int => acc) (I := fun acc i => acc.length ≤ i)
    (fun k acc i hk hi ha => by
      simp only [impl_WaysFrom.l0]
      rw [if_pos (by omega), impl_Step_eq (by omega), Option.bind_some, w64 (x := (i : Int) + 1) (by omega) (by omega)]
      by_cases hd : 0 ≤ st w h o c (i : Int)
      · rw [if_pos hd, if_pos hd, if_pos (by omega)]
      · rw [if_neg hd, if_neg hd])
    (fun acc i _ ha => by
      show (if _ then _ else _ : List Int).length ≤ i + 1
      split
      · simp only [List.length_append, List.length_singleton]; omega
      · omega)
    (fun k acc _ _ => by
      simp only [impl_WaysFrom.l0]
      rw [if_neg (by decide)]) 4 0 k [] (by decide) (by omega) (Nat.le_refl _)
  refine this.trans ?_
  congr 1
  unfold ways
  simp only [List.range'_succ, List.range'_zero, List.foldl_cons, List.foldl_nil, List.filter_cons, List.filter_nil, Nat.zero_add, Int.natCast_add, decide_eq_true_eq]
  show (if 0 ≤ st w h o c (3 : Int) then _ else _) = _
  by_cases h0 : 0 ≤ st w h o c 0 <;> by_cases h1 : 0 ≤ st w h o c 1 <;> by_cases h2 : 0 ≤ st w h o c 2 <;> by_cases h3 : 0 ≤ st w h o c 3 <;> simp [h0, h1, h2, h3]
theorem ways_mem {w h o c d : Int} (H : d ∈ ways w h o c) : 0 ≤ st w h o c d := by
  unfold ways at H
  exact of_decide_eq_true (List.mem_filter.1 H).2
theorem impl_dist1 {w h o a c d : Int} {i : Nat} {s : List Int × List Int} (M : Mid (st w h o) (stN w h) a i c s) (hd : 0 ≤ st w h o c d) {k : Nat} (hk : 3 ≤ k) {W : List Int} {j : Nat} (hj : j < W.length) (hW : W.length ≤ 4) (hr : rd W (j : Int) = d) :
    impl_distances.l1 (k + 1) s.1 s.2 (i : Int) W (W.length : Int) (j : Int) w h o = impl_distances.l1 k (bfs1 (st w h o) c d s).1 (bfs1 (st w h o) c d s).2 (i : Int) W (W.length : Int) ((j : Int) + 1) w h o := by
  obtain ⟨r1, r2, r3, r4⟩ := bfs_room M
  have hN : stN w h ≤ 16 := by have := cells_bd w h; unfold stN; omega
  have rr := (steps_st w h o).rng c d hd
  have hsm := M.small c
  have hlt := M.lt
  have hc := M.cur
  simp only [impl_distances.l1]
  rw [if_pos (by omega), if_pos (by omega), if_pos (by omega), if_pos (by omega), if_pos (by omega), hc, hr, impl_Step_eq hk, Option.bind_some, if_pos hd, if_pos (by omega), w64 (x := (j : Int) + 1) (by omega) (by omega)]
  unfold bfs1
  by_cases hn : rd s.1 (st w h o c d) < 0
  · rw [if_pos hn, if_pos r3, if_pos (by omega), if_pos (by omega), if_pos ⟨hd, hn⟩]
    have hge : 0 ≤ rd s.1 c := by
      have hm : c ∈ s.2 := by rw [← hc]; exact rd_memI (by omega) (by omega)
      exact (M.at_.inq c hm).2.2.1
    rw [w64 (x := rd s.1 c + 1) (by omega) (by omega)]
  · rw [if_neg hn, if_neg (fun q => hn q.2)]
theorem impl_dirs {w h o a c : Int} {i : Nat} {W : List Int} (hW : W.length ≤ 4) (hd : ∀ d ∈ W, 0 ≤ st w h o c d) : ∀ (m j k : Nat) (s : List Int × List Int), j + m = W.length → 3 ≤ k → Mid (st w h o) (stN w h) a i c s →
    impl_distances.l1 (k + m + 1) s.1 s.2 (i : Int) W (W.length : Int) (j : Int) w h o = impl_distances.l0 k (bfsD (st w h o) c (W.drop j) s).1 (bfsD (st w h o) c (W.drop j) s).2 ((i : Int) + 1) w h o ∧ Mid (st w h o) (stN w h) a i c (bfsD (st w h o) c (W.drop j) s)
  | 0, j, k, s, hj, hk, M => by
    rw [List.drop_of_length_le (by omega)]
    have hl := bfs_room M
    have hN : stN w h ≤ 16 := by have := cells_bd w h; unfold stN; omega
    have hlt := M.lt
    refine ⟨?_, M⟩
    simp only [bfsD, Nat.add_zero, impl_distances.l1]
    rw [if_neg (by omega), w64 (x := (i : Int) + 1) (by omega) (by omega)]
  | m + 1, j, k, s, hj, hk, M => by
    have hjl : j < W.length := by omega
    have hmem : rd W (j : Int) ∈ W := rd_memI (by omega) (by omega)
    have hdr : W.drop j = rd W (j : Int) :: W.drop (j + 1) := by
      rw [List.drop_eq_getElem_cons hjl]
      congr 1
      rw [rd_nat, List.getD_eq_getElem?_getD, List.getElem?_eq_getElem hjl]
      rfl
    have M' := mid1 (steps_st w h o) M (rd W (j : Int))
    rw [show k + (m + 1) + 1 = (k + m + 1) + 1 by omega, impl_dist1 M (hd _ hmem) (by omega) hjl hW rfl, hdr, bfsD_cons]
    have := impl_dirs hW hd m (j + 1) k _ (by omega) hk M'
    rwa [Int.natCast_add] at this
theorem impl_bfs {w h o a : Int} : ∀ (f i k : Nat) (D Q : List Int), BfsAt (st w h o) (stN w h) a i D Q → Small (D, Q) → stN w h < f + i → 6 * f + 20 ≤ k → impl_distances.l0 k D Q (i : Int) w h o = some (bfs (st w h o) f i (D, Q))
  | 0, i, k, D, Q, B, V, hf, hk => by
    obtain ⟨m, rfl⟩ : ∃ m, k = m + 1 := ⟨k - 1, by omega⟩
    have := B.cnt
    simp only [impl_distances.l0, bfs]
    rw [if_neg (by omega)]
  | f + 1, i, k, D, Q, B, V, hf, hk => by
    obtain ⟨m, rfl⟩ : ∃ m, k = m + 1 := ⟨k - 1, by omega⟩
    simp only [bfs]
    by_cases hi : i < Q.length
    · rw [if_pos hi]
      have hw := ways_length w h o (rd Q (i : Int))
      simp only [impl_distances.l0]
      rw [if_pos (by omega), if_pos (by omega), impl_WaysFrom_eq (by omega), Option.bind_some]
      obtain ⟨k', hk'⟩ : ∃ k', m = k' + (ways w h o (rd Q (i : Int))).length + 1 := ⟨m - (ways w h o (rd Q (i : Int))).length - 1, by omega⟩
      have M : Mid (st w h o) (stN w h) a i (rd Q (i : Int)) (D, Q) := ⟨B, V, hi, rfl⟩
      obtain ⟨e, M'⟩ := impl_dirs (a := a) (i := i) hw (fun d hd => ways_mem hd) (ways w h o (rd Q (i : Int))).length 0 k' (D, Q) (by omega) (by omega) M
      rw [← hk', List.drop_zero] at e
      rw [List.drop_zero] at M'
      have eb : bfsD (st w h o) (rd Q (i : Int)) (ways w h o (rd Q (i : Int))) (D, Q) = bfsD (st w h o) (rd Q (i : Int)) [0, 1, 2, 3] (D, Q) := bfsD_filter _ _ _ _
      rw [eb] at e M'
      refine e.trans ?_
      have := impl_bfs f (i + 1) k' _ _ (bfs_next (steps_st w h o) B hi rfl) M'.small (by omega) (by omega)
      rwa [Int.natCast_add] at this
    · rw [if_neg hi]
      simp only [impl_distances.l0]
      rw [if_neg (by omega)]
theorem small_init {N : Nat} {a : Int} (h0 : 0 ≤ a) (h1 : a < N) : Small ((List.replicate N (-1)).set a.toNat 0, [a]) := by
  intro x
  simp only [List.length_singleton]
  have hrep : ∀ x : Int, rd (List.replicate N (-1)) x ≤ 0 := fun x => by
    unfold rd
    rw [List.getD_eq_getElem?_getD, List.getElem?_replicate]
    split <;> simp
  unfold rd
  rw [List.getD_eq_getElem?_getD, List.getElem?_set]
  split
  · split <;> simp
  · have := hrep x
    unfold rd at this
    rw [List.getD_eq_getElem?_getD] at this
    omega
theorem impl_distances_eq {w h o a : Int} {k : Nat} (hk : 200 ≤ k) (ha : icell w h a = true) : impl_distances.f k w h o a = some (dists (st w h o) (stN w h) a) := by
  have hc := icell_iff.1 ha
  have hb := cells_bd w h
  have hN : ((stN w h : Nat) : Int) = cells w h := by unfold stN; omega
  unfold impl_distances.f
  rw [impl_CountCells_eq, Option.bind_some, slices_Repeat_int.f, if_pos ⟨rfl, by omega, by omega⟩, Option.bind_some]
  show (if 0 ≤ a then (if a < ((List.replicate (stN w h) (-1 : Int)).length : Int) then _ else _) else _) = _
  rw [if_pos hc.1, if_pos (by rw [List.length_replicate]; omega)]
  exact impl_bfs (stN w h + 1) 0 k _ _ (bfs_init hc.1 (by omega)) (small_init hc.1 (by omega)) (by omega) (by omega)
theorem spec_dist1 {w h o a c : Int} {i : Nat} {s : List Int × List Int} (M : Mid (st w h o) (stN w h) a i c s) {k : Nat} (hk : 1 ≤ k) {j : Nat} (hj : j < 4) :
    spec_l04Distances.l2 (k + 1) s.1 s.2 (i : Int) (j : Int) w h o = spec_l04Distances.l2 k (bfs1 (st w h o) c (j : Int) s).1 (bfs1 (st w h o) c (j : Int) s).2 (i : Int) ((j : Int) + 1) w h o := by
  obtain ⟨r1, r2, r3, r4⟩ := bfs_room M
  have hN : stN w h ≤ 16 := by have := cells_bd w h; unfold stN; omega
  have hsm := M.small c
  have hlt := M.lt
  have hc := M.cur
  simp only [spec_l04Distances.l2]
  rw [if_pos (by omega), if_pos (by omega), if_pos (by omega), hc, spec_Step_eq hk, Option.bind_some, w64 (x := (j : Int) + 1) (by omega) (by omega)]
  unfold bfs1
  by_cases hd : 0 ≤ st w h o c (j : Int)
  · have rr := (steps_st w h o).rng c _ hd
    rw [if_pos hd, if_pos hd, if_pos (by omega)]
    by_cases hn : rd s.1 (st w h o c (j : Int)) < 0
    · rw [if_pos hn, if_pos r3, if_pos (by omega), if_pos (by omega), if_pos ⟨hd, hn⟩]
      have hge : 0 ≤ rd s.1 c := by
        have hm : c ∈ s.2 := by rw [← hc]; exact rd_memI (by omega) (by omega)
        exact (M.at_.inq c hm).2.2.1
      rw [w64 (x := rd s.1 c + 1) (by omega) (by omega)]
    · rw [if_neg hn, if_neg (fun q => hn q.2)]
  · rw [if_neg hd, if_neg (fun q => hd q.1)]
theorem spec_dirs {w h o a c : Int} {i : Nat} {s : List Int × List Int} (M : Mid (st w h o) (stN w h) a i c s) {k : Nat} (hk : 1 ≤ k) :
    spec_l04Distances.l2 (k + 5) s.1 s.2 (i : Int) 0 w h o = spec_l04Distances.l1 k (bfsD (st w h o) c [0, 1, 2, 3] s).1 (bfsD (st w h o) c [0, 1, 2, 3] s).2 ((i : Int) + 1) w h o ∧ Mid (st w h o) (stN w h) a i c (bfsD (st w h o) c [0, 1, 2, 3] s) := by
  have M1 := mid1 (steps_st w h o) M 0
  have M2 := mid1 (steps_st w h o) M1 1
  have M3 := mid1 (steps_st w h o) M2 2
  have M4 := mid1 (steps_st w h o) M3 3
  have e0 := spec_dist1 M (k := k + 4) (by omega) (j := 0) (by decide)
  have e1 := spec_dist1 M1 (k := k + 3) (by omega) (j := 1) (by decide)
  have e2 := spec_dist1 M2 (k := k + 2) (by omega) (j := 2) (by decide)
  have e3 := spec_dist1 M3 (k := k + 1) (by omega) (j := 3) (by decide)
  rw [bfsD_cons, bfsD_cons, bfsD_cons, bfsD_cons]
  show _ = spec_l04Distances.l1 k _ _ _ _ _ _ ∧ _
  refine ⟨(e0.trans (e1.trans (e2.trans e3))).trans ?_, M4⟩
  have hl := bfs_room M4
  have hN : stN w h ≤ 16 := by have := cells_bd w h; unfold stN; omega
  have hlt := M4.lt
  simp only [spec_l04Distances.l2, bfsD]
  rw [if_neg (by decide), w64 (x := (i : Int) + 1) (by omega) (by omega)]
  rfl
theorem spec_bfs {w h o a : Int} : ∀ (f i k : Nat) (D Q : List Int), BfsAt (st w h o) (stN w h) a i D Q → Small (D, Q) → stN w h < f + i → 6 * f + 20 ≤ k → spec_l04Distances.l1 k D Q (i : Int) w h o = some (bfs (st w h o) f i (D, Q))
  | 0, i, k, D, Q, B, V, hf, hk => by
    obtain ⟨m, rfl⟩ : ∃ m, k = m + 1 := ⟨k - 1, by omega⟩
    have := B.cnt
    simp only [spec_l04Distances.l1, bfs]
    rw [if_neg (by omega)]
  | f + 1, i, k, D, Q, B, V, hf, hk => by
    obtain ⟨m, rfl⟩ : ∃ m, k = m + 5 + 1 := ⟨k - 6, by omega⟩
    simp only [bfs]
    by_cases hi : i < Q.length
    · rw [if_pos hi]
      simp only [spec_l04Distances.l1]
      rw [if_pos (by omega)]
      have M : Mid (st w h o) (stN w h) a i (rd Q (i : Int)) (D, Q) := ⟨B, V, hi, rfl⟩
      obtain ⟨e, M'⟩ := spec_dirs M (k := m) (by omega)
      refine e.trans ?_
      have := spec_bfs f (i + 1) m _ _ (bfs_next (steps_st w h o) B hi rfl) M'.small (by omega) (by omega)
      rwa [Int.natCast_add] at this
    · rw [if_neg hi]
      simp only [spec_l04Distances.l1]
      rw [if_neg (by omega)]
theorem spec_l04Distances_eq {w h o a : Int} {k : Nat} (hk : 200 ≤ k) (ha : icell w h a = true) : spec_l04Distances.f k w h o a = some (dists (st w h o) (stN w h) a) := by
  have hc := icell_iff.1 ha
  have hb := cells_bd w h
  have hN : ((stN w h : Nat) : Int) = cells w h := by unfold stN; omega
  have hN16 : stN w h ≤ 16 := by omega
  unfold spec_l04Distances.f
  rw [spec_CountCells_eq, Option.bind_some, if_pos hb.1, if_pos (by omega)]
  show spec_l04Distances.l0 k a (List.replicate (stN w h) 0) 0 w h o = _
  obtain ⟨s, _, e⟩ := inv_loop (n := stN w h) (c := 130) (F := fun k (s : List Int) i => spec_l04Distances.l0 k a s i w h o) (fin := fun _ => dists (st w h o) (stN w h) a)
    (I := fun s i => s = List.replicate i (-1) ++ List.replicate (stN w h - i) 0)
    (fun k s i _ hi hs => by
      refine ⟨List.replicate (i + 1) (-1) ++ List.replicate (stN w h - (i + 1)) 0, rfl, ?_⟩
      have hl : s.length = stN w h := by rw [hs]; simp; omega
      simp only [spec_l04Distances.l0]
      rw [if_pos (by omega), if_pos (by omega), w64_succ hi (by omega), Int.toNat_natCast]
      congr 1
      rw [hs, show stN w h - i = (stN w h - (i + 1)) + 1 by omega, List.replicate_succ, List.replicate_succ']
      rw [List.set_append_right _ _ (by simp)]
      simp)
    (fun k s hk hs => by
      have hs' : s = List.replicate (stN w h) (-1) := by rw [hs, Nat.sub_self]; simp
      simp only [spec_l04Distances.l0]
      rw [hs', List.length_replicate, if_neg (by omega), if_pos hc.1, if_pos (by omega)]
      exact spec_bfs (stN w h + 1) 0 k _ _ (bfs_init hc.1 (by omega)) (small_init hc.1 (by omega)) (by omega) (by omega)) (stN w h) 0 k (List.replicate (stN w h) 0) (by omega) (by omega) (by simp)
  exact e
def dst (w h o a b : Int) : Int := rd (dists (st w h o) (stN w h) a) b
theorem dst_sym {w h o a b : Int} (ha : icell w h a = true) (hb : icell w h b = true) : dst w h o a b = dst w h o b a := by
  have ca := icell_iff.1 ha
  have cb := icell_iff.1 hb
  have hN : ((stN w h : Nat) : Int) = cells w h := by have := cells_bd w h; unfold stN; omega
  obtain ⟨_, _, p⟩ := dists_spec (steps_st w h o) (a := a) ca.1 (by omega)
  obtain ⟨_, _, q⟩ := dists_spec (steps_st w h o) (a := b) cb.1 (by omega)
  have rev : ∀ {x y : Int} {n : Nat}, Walk (st w h o) x n y → Walk (st w h o) y n x := fun H => Walk.rev (steps_st w h o) (sym_st w h o) H
  unfold dst
  rcases p b cb.1 (by omega) with ⟨e, n1⟩ | ⟨g1, w1, m1⟩ <;> rcases q a ca.1 (by omega) with ⟨e', n2⟩ | ⟨g2, w2, m2⟩
  · rw [e, e']
  · exact absurd (rev w2) (n1 _)
  · exact absurd (rev w1) (n2 _)
  · have := m1 _ (rev w2)
    have := m2 _ (rev w1)
    omega
theorem dists_length {w h o a : Int} (ha : icell w h a = true) : ((dists (st w h o) (stN w h) a).length : Int) = cells w h := by
  have ca := icell_iff.1 ha
  have hN : ((stN w h : Nat) : Int) = cells w h := by have := cells_bd w h; unfold stN; omega
  rw [(dists_spec (steps_st w h o) (a := a) ca.1 (by omega)).1, hN]
theorem impl_DistanceOf_eq {w h o : Int} {k : Nat} (hk : 200 ≤ k) (a b : Int) : impl_DistanceOf.f k w h o a b = some (if mok w h o = true ∧ icell w h a = true ∧ icell w h b = true then dst w h o a b else -1) := by
  unfold impl_DistanceOf.f
  rw [impl_isIn_eq]
  simp only [Option.bind_some, List.all_cons, List.all_nil, Bool.and_true]
  by_cases H : mok w h o = true ∧ icell w h a = true ∧ icell w h b = true
  · rw [if_pos H, if_pos (by simp [H.1, H.2.1, H.2.2]), impl_distances_eq hk H.2.1, Option.bind_some]
    have cb := icell_iff.1 H.2.2
    rw [if_pos cb.1, if_pos (by rw [dists_length H.2.1]; exact cb.2)]
    rfl
  · rw [if_neg H, if_neg (by simpa using fun h1 h2 h3 => H ⟨h1, h2, h3⟩)]
def isT (w h o c d g : Int) : Bool := decide (0 ≤ st w h o c d ∧ icell w h g = true ∧ g ≠ c ∧ dst w h o g (st w h o c d) < dst w h o g c)
theorem impl_IsTrue_eq {w h o : Int} {k : Nat} (hk : 210 ≤ k) (c d g : Int) : impl_IsTrue.f k w h o c d g = some (isT w h o c d g) := by
  obtain ⟨m, rfl⟩ : ∃ m, k = m + 1 := ⟨k - 1, by omega⟩
  unfold impl_IsTrue.f isT
  rw [impl_SignOk_eq (by omega), Option.bind_some, impl_isCell_eq, Option.bind_some]
  simp only [impl_IsTrue.j0]
  by_cases h1 : 0 ≤ st w h o c d
  · obtain ⟨f1, f2, f3, _, _⟩ := st_facts h1
    rw [if_pos (decide_eq_true h1)]
    by_cases h2 : icell w h g = true
    · rw [if_pos h2]
      by_cases h3 : g = c
      · rw [if_pos (by simpa using h3)]; simp [h3]
      · rw [if_neg (by simpa using h3), impl_Step_eq (by omega), Option.bind_some, impl_DistanceOf_eq (by omega), Option.bind_some, impl_DistanceOf_eq (by omega), Option.bind_some, if_pos ⟨f1, f3, h2⟩, if_pos ⟨f1, f2, h2⟩, dst_sym f3 h2, dst_sym f2 h2]
        simp [h1, h2, h3]
    · rw [if_neg h2]; simp [h2]
  · rw [if_neg (by simpa using h1)]; simp [h1]
end Go.Proofs.Ytpeehicekddjhaa.F
end

section
namespace Go.Proofs.Ytpeehicekddjhaa.F
open Go.RowKit Go.Proofs.YtpeehicekddjhaaW.PrintWords Go.Proofs.YtpeehicekddjhaaW.PrintLast Go.Proofs.YtpeehicekddjhaaW.PrintMore
set_option linter.unusedVariables false
set_option linter.unusedSimpArgs false
def lieStep (w h o g : Int) (s : Int) (x : SSign) : Int := if isT w h o x.f0 x.f1 g then s else s + 1
def lies (w h o g : Int) (l : List SSign) : Int := l.foldl (lieStep w h o g) 0
theorem impl_CountLies_eq {k : Nat} {l : List SSign} (hl : l.length ≤ 1048576) (hk : l.length + 220 ≤ k) (w h o g : Int) : impl_CountLies.f k w h o l g = some (lies w h o g l) := by
  have key := fold_loop (n := l.length) (c := 210) (F := fun k s i => impl_CountLies.l0 k g s l (l.length : Int) i w h o) (step := fun s i => lieStep w h o g s (l.getD i zSign)) (fin := id) (I := fun s i => 0 ≤ s ∧ s ≤ i)
    (fun k s i hk hi hs => by
      simp only [impl_CountLies.l0]
      rw [if_pos (by omega), if_pos (by omega), if_pos (by omega), impl_IsTrue_eq hk, Option.bind_some, w64_succ hi (by omega), w64 (x := s + 1) (by omega) (by omega)]
      show _ = impl_CountLies.l0 k g (lieStep w h o g s (rd_Sign l i)) l _ _ w h o
      unfold lieStep
      split <;> rfl)
    (fun s i _ hs => by unfold lieStep; split <;> omega)
    (fun k s _ _ => by simp only [impl_CountLies.l0]; rw [if_neg (by omega)]; rfl) l.length 0 k 0 (by omega) (by omega) (by omega)
  rw [range'_zero_foldl zSign (lieStep w h o g)] at key
  exact key
end Go.Proofs.Ytpeehicekddjhaa.F
end

section
namespace Go.Proofs.Ytpeehicekddjhaa.F
open Go.RowKit Go.Proofs.YtpeehicekddjhaaW.PrintWords Go.Proofs.YtpeehicekddjhaaW.PrintLast Go.Proofs.YtpeehicekddjhaaW.PrintMore
set_option linter.unusedVariables false
set_option linter.unusedSimpArgs false
def sgs (w h o : Int) (l : List SSign) : Bool := l.all fun x => decide (0 ≤ st w h o x.f0 x.f1)
theorem impl_areSigns_eq {k : Nat} (hk : 3 ≤ k) (w h o : Int) (l : List SSign) : impl_areSigns.f k w h o l = some (sgs w h o l) := by
  unfold impl_areSigns.f sgs
  exact allO_of fun x _ => impl_SignOk_eq hk w h o x.f0 x.f1
theorem slices_Contains_eq {l : List Int} {k : Nat} (hl : l.length ≤ 1000000000) (hk : l.length + 1 ≤ k) (c : Int) : slices_Contains_int.f k l c = some (l.contains c) := by
  unfold slices_Contains_int.f slices_Index_int.f
  have key : ∀ (d i k : Nat), i + d = l.length → d + 1 ≤ k → ∃ t : Int, slices_Index_int.l0 k l c (l.length : Int) (i : Int) = some t ∧ decide (t ≥ 0) = (l.drop i).contains c := by
    intro d
    induction d with
    | zero =>
      intro i k hi hk
      obtain ⟨m, rfl⟩ : ∃ m, k = m + 1 := ⟨k - 1, by omega⟩
      simp only [slices_Index_int.l0]
      rw [if_neg (by omega), List.drop_of_length_le (by omega)]
      exact ⟨-1, rfl, rfl⟩
    | succ d ih =>
      intro i k hi hk
      obtain ⟨m, rfl⟩ : ∃ m, k = m + 1 := ⟨k - 1, by omega⟩
      have hil : i < l.length := by omega
      have e : rd l (i : Int) = l[i] := by rw [rd_nat, List.getD_eq_getElem?_getD, List.getElem?_eq_getElem hil]; rfl
      simp only [slices_Index_int.l0]
      rw [if_pos (by omega), if_pos (by omega), if_pos (by omega), e, w64_succ hil (by omega), List.drop_eq_getElem_cons hil, List.contains_cons]
      by_cases q : c = l[i]
      · rw [if_pos q]
        exact ⟨_, rfl, by simp [q]⟩
      · rw [if_neg q]
        obtain ⟨t, e1, e2⟩ := ih (i + 1) m (by omega) (by omega)
        rw [Int.natCast_add] at e1
        refine ⟨t, e1, e2.trans ?_⟩
        rw [beq_eq_false_iff_ne.2 q, Bool.false_or]
  obtain ⟨t, e1, e2⟩ := key l.length 0 k (by omega) (by omega)
  rw [show slices_Index_int.l0 k l c (l.length : Int) 0 = some t from e1, Option.bind_some, e2]
  simp
def sdir (l : List SSign) (c : Int) : Int := match l.find? (fun s => decide (s.f0 = c)) with
  | some s => s.f1
  | none => -1
theorem sdir_ok {w h o : Int} {l : List SSign} (V : sgs w h o l = true) {c : Int} (H : ¬ sdir l c < 0) : 0 ≤ st w h o c (sdir l c) := by
  unfold sdir at H ⊢
  cases e : l.find? (fun s => decide (s.f0 = c)) with
  | none => rw [e] at H; exact absurd (by decide) H
  | some s =>
    simp only
    have h1 := List.find?_some e
    have h2 := List.all_eq_true.1 V s (List.mem_of_find?_eq_some e)
    simp only [decide_eq_true_eq] at h1 h2
    rw [← h1]; exact h2
theorem idx_sdir {w h o : Int} {l : List SSign} (V : sgs w h o l = true) (c : Int) : (idxF (fun s : SSign => decide (s.f0 = c)) l < 0 ↔ sdir l c < 0) ∧ (¬ idxF (fun s : SSign => decide (s.f0 = c)) l < 0 → (rd_Sign l (idxF (fun s : SSign => decide (s.f0 = c)) l)).f1 = sdir l c) := by
  unfold idxF
  cases e : l.findIdx? (fun s : SSign => decide (s.f0 = c)) with
  | none =>
    have : l.find? (fun s => decide (s.f0 = c)) = none := by
      rw [List.find?_eq_none]
      intro x hx
      have := (List.findIdx?_eq_none_iff.1 e) x hx
      simp at this ⊢
      exact this
    unfold sdir
    rw [this]
    simp
  | some i =>
    obtain ⟨hi, hp, hl⟩ := List.findIdx?_eq_some_iff_getElem.1 e
    have hf : l.find? (fun s => decide (s.f0 = c)) = some l[i] := by
      rw [List.find?_eq_some_iff_getElem]
      exact ⟨hp, i, hi, rfl, fun j hj => by have := hl j hj; simpa using this⟩
    have hd : sdir l c = l[i].f1 := by unfold sdir; rw [hf]
    have hv := List.all_eq_true.1 V l[i] (List.getElem_mem hi)
    simp only [decide_eq_true_eq] at hv hp
    have hb := st_facts hv
    refine ⟨⟨fun q => absurd q (show ¬ (i : Int) < 0 by omega), fun q => by rw [hd] at q; omega⟩, fun _ => ?_⟩
    rw [hd]
    show (l.getD i zSign).f1 = _
    rw [List.getD_eq_getElem?_getD, List.getElem?_eq_getElem hi]
    rfl
def fol (w h o : Int) (l : List SSign) : Nat → List Int → Int → Option (List Int)
  | 0, _, _ => none
  | k + 1, out, c => if sdir l c < 0 then some (out ++ [c]) else if out.contains c = true then some (out ++ [c]) else fol w h o l k (out ++ [c]) (st w h o c (sdir l c))
theorem nodup_le' : ∀ {l L : List Int}, l.Nodup → (∀ x ∈ l, x ∈ L) → l.length ≤ L.length
  | [], _, _, _ => Nat.zero_le _
  | x :: l, L, hn, hs => by
    obtain ⟨h1, h2⟩ := List.nodup_cons.1 hn
    have hx : x ∈ L := hs x (by simp)
    have := nodup_le' (l := l) (L := L.erase x) h2 (fun y hy => (List.mem_erase_of_ne (fun e => h1 (by rw [← e]; exact hy))).2 (hs y (by simp [hy])))
    rw [List.length_erase_of_mem hx] at this
    have := List.length_pos_of_mem hx
    simp only [List.length_cons]
    omega
theorem mem_cells16 {x : Int} : x ∈ cells16 ↔ 0 ≤ x ∧ x < 16 := by
  unfold cells16
  simp only [List.mem_cons, List.not_mem_nil, or_false]
  omega
theorem icell_16 {w h c : Int} (H : icell w h c = true) : 0 ≤ c ∧ c < 16 := by
  have a := icell_iff.1 H
  have b := cells_bd w h
  omega
theorem fol_some {w h o : Int} {l : List SSign} (V : sgs w h o l = true) : ∀ (k : Nat) (out : List Int) (c : Int), out.Nodup → (∀ x ∈ out, x ∈ cells16) → c ∈ cells16 → 18 ≤ k + out.length → ∃ r, fol w h o l k out c = some r ∧ r.length ≤ 18
  | 0, out, c, hn, hm, hc, hk => by
    have := nodup_le' hn hm
    simp [cells16] at this
    omega
  | k + 1, out, c, hn, hm, hc, hk => by
    have hl := nodup_le' hn hm
    simp only [cells16, List.length_cons, List.length_nil] at hl
    unfold fol
    by_cases d : sdir l c < 0
    · rw [if_pos d]
      exact ⟨_, rfl, by simp; omega⟩
    · rw [if_neg d]
      by_cases q : out.contains c = true
      · rw [if_pos q]
        exact ⟨_, rfl, by simp; omega⟩
      · rw [if_neg q]
        have hq : c ∉ out := fun hm => q (by simpa using hm)
        obtain ⟨_, _, f3, _, _⟩ := st_facts (sdir_ok V d)
        refine fol_some V k (out ++ [c]) _ ?_ ?_ (mem_cells16.2 (icell_16 f3)) (by simp; omega)
        · rw [List.nodup_append]
          exact ⟨hn, by simp, fun a ha b hb => by rw [List.mem_singleton] at hb; subst hb; exact fun e => hq (e ▸ ha)⟩
        · intro x hx
          rcases List.mem_append.1 hx with h1 | h1
          · exact hm x h1
          · rw [List.mem_singleton.1 h1]; exact hc
theorem impl_fol {w h o : Int} {l : List SSign} (V : sgs w h o l = true) : ∀ (k : Nat) (out : List Int) (c : Int) (r : List Int), out.length + k ≤ 990 → fol w h o l k out c = some r → impl_FollowSigns.l0 w h o l k (out ++ [c]) c = some r
  | 0, out, c, r, hk, H => by simp [fol] at H
  | k + 1, out, c, r, hk, H => by
    unfold fol at H
    obtain ⟨i1, i2⟩ := idx_sdir V c
    simp only [impl_FollowSigns.l0]
    by_cases d : sdir l c < 0
    · rw [if_pos d] at H
      rw [if_pos (i1.2 d)]
      exact H
    · rw [if_neg d] at H
      have d' : ¬ idxF (fun s : SSign => decide (s.f0 = c)) l < 0 := fun q => d (i1.1 q)
      have e : (out ++ [c]).take ((out ++ [c]).length - 1) = out := by simp
      rw [if_neg d', e, slices_Contains_eq (by omega) (by omega), Option.bind_some]
      by_cases q : out.contains c = true
      · rw [if_pos q] at H ⊢
        exact H
      · rw [if_neg q] at H ⊢
        rw [if_pos (by simp; omega), i2 d', impl_Step_eq (by decide), Option.bind_some]
        exact impl_fol V k (out ++ [c]) _ r (by simp; omega) H
def folOf (w h o : Int) (l : List SSign) (c : Int) : List Int := if (mok w h o && icell w h c && sgs w h o l) = true then (fol w h o l 18 [] c).getD [] else []
theorem fol_mono {w h o : Int} {l : List SSign} : ∀ (k : Nat) (out : List Int) (c : Int) (r : List Int), fol w h o l k out c = some r → fol w h o l (k + 1) out c = some r
  | 0, _, _, _, H => by simp [fol] at H
  | k + 1, out, c, r, H => by
    rw [fol] at H ⊢
    split at H
    · rw [if_pos (by assumption)]; exact H
    · rw [if_neg (by assumption)]
      split at H
      · rw [if_pos (by assumption)]; exact H
      · rw [if_neg (by assumption)]; exact fol_mono k _ _ r H
theorem impl_FollowSigns_eq (w h o : Int) (l : List SSign) (c : Int) : impl_FollowSigns.f w h o l c = some (folOf w h o l c) := by
  unfold impl_FollowSigns.f folOf
  rw [impl_isIn_eq, Option.bind_some]
  by_cases H1 : (mok w h o && icell w h c) = true
  · rw [if_pos (by simpa using H1), impl_areSigns_eq (by decide), Option.bind_some]
    by_cases H2 : sgs w h o l = true
    · rw [if_pos H2, if_pos (by rw [H1, H2]; rfl)]
      obtain ⟨M, C⟩ := Bool.and_eq_true_iff.1 H1
      obtain ⟨r, e, hr⟩ := fol_some H2 18 [] c (by simp) (by simp) (mem_cells16.2 (icell_16 C)) (by simp)
      have e2 : fol w h o l 900 [] c = some r := by
        have : ∀ n, fol w h o l (18 + n) [] c = some r := fun n => by
          induction n with
          | zero => exact e
          | succ n ih => exact fol_mono _ _ _ _ ih
        exact this 882
      rw [e]
      exact impl_fol H2 900 [] c r (by simp) e2
    · rw [if_neg H2, if_neg (by simp [H2])]
  · rw [if_neg (by simpa using H1), if_neg (by simp only [Bool.not_eq_true] at H1; rw [H1]; simp)]
end Go.Proofs.Ytpeehicekddjhaa.F
end

section
namespace Go.Proofs.Ytpeehicekddjhaa.F
open Go.RowKit Go.Proofs.YtpeehicekddjhaaW.PrintWords Go.Proofs.YtpeehicekddjhaaW.PrintLast Go.Proofs.YtpeehicekddjhaaW.PrintMore
set_option linter.unusedVariables false
set_option linter.unusedSimpArgs false
theorem gaps_small {w h g : Int} (hg : igap w h g = true) : 0 ≤ g ∧ g < 24 := by
  have := igap_iff.1 hg
  have := gaps_bd w h
  omega
end Go.Proofs.Ytpeehicekddjhaa.F
end

section
namespace Go.Proofs.Ytpeehicekddjhaa.F
open Go.RowKit Go.Proofs.YtpeehicekddjhaaW.PrintWords Go.Proofs.YtpeehicekddjhaaW.PrintLast Go.Proofs.YtpeehicekddjhaaW.PrintMore
set_option linter.unusedVariables false
set_option linter.unusedSimpArgs false
def ints (n : Nat) : List Int := (List.range n).map fun (j : Nat) => (j : Int)
theorem ints_succ (n : Nat) : ints (n + 1) = ints n ++ [(n : Int)] := by
  unfold ints
  rw [List.range_succ, List.map_append]
  rfl
theorem ints_length (n : Nat) : (ints n).length = n := by simp [ints]
theorem mem_ints {n : Nat} {x : Int} : x ∈ ints n ↔ 0 ≤ x ∧ x < n := by
  unfold ints
  rw [List.mem_map]
  constructor
  · rintro ⟨j, hj, rfl⟩
    rw [List.mem_range] at hj
    omega
  · intro h
    exact ⟨x.toNat, by rw [List.mem_range]; omega, by omega⟩
theorem impl_upTo_eq {n k : Nat} (hn : n ≤ 1000) (hk : n + 1 ≤ k) : impl_upTo.f k (n : Int) = some (ints n) := by
  unfold impl_upTo.f
  obtain ⟨s, hs, e⟩ := inv_loop (F := fun k (s : List Int) i => impl_upTo.l0 k (n : Int) s i) (n := n) (c := 0) (fin := fun s => s) (I := fun s i => s = ints i)
    (fun k s i _ hi hs => ⟨ints (i + 1), rfl, by
      subst hs
      simp only [impl_upTo.l0]
      rw [if_pos (by omega), if_pos (by rw [ints_length]; omega), ints_succ, w64 (by omega) (by omega)]⟩)
    (fun k s _ hs => by
      simp only [impl_upTo.l0]
      rw [if_neg (by omega)]) n 0 k [] (by omega) (by omega) rfl
  subst hs
  exact e
def reach (w h o a : Int) : List Int := (ints (stN w h)).filter fun c => !decide (dst w h o a c < 0)
theorem stN_int (w h : Int) : ((stN w h : Nat) : Int) = cells w h := by have := cells_bd w h; unfold stN; omega
theorem stN_le (w h : Int) : stN w h ≤ 16 := by have := cells_bd w h; unfold stN; omega
theorem dst_self {w h o a : Int} (ha : icell w h a = true) : dst w h o a a = 0 := by
  have ca := icell_iff.1 ha
  exact (dists_spec (steps_st w h o) (a := a) ca.1 (by rw [stN_int]; exact ca.2)).2.1
theorem reach_self {w h o a : Int} (ha : icell w h a = true) : a ∈ reach w h o a := by
  have ca := icell_iff.1 ha
  unfold reach
  rw [List.mem_filter, mem_ints, dst_self ha, stN_int]
  exact ⟨ca, rfl⟩
theorem reach_pos {w h o a : Int} (ha : icell w h a = true) : 0 < (reach w h o a).length := List.length_pos_of_mem (reach_self ha)
theorem spec_Reached_eq {k : Nat} (hk : 200 ≤ k) (w h o a : Int) : spec_Reached.f k w h o a = some (if (mok w h o && icell w h a) = true then reach w h o a else []) := by
  unfold spec_Reached.f
  rw [Option.bind_some, spec_l04Has_eq, Option.bind_some]
  by_cases H : (mok w h o && icell w h a) = true
  · rw [if_pos H, if_pos H]
    obtain ⟨M, C⟩ := Bool.and_eq_true_iff.1 H
    have hl := dists_length (o := o) C
    have hN := stN_int w h
    have hL := stN_le w h
    have hlen : (dists (st w h o) (stN w h) a).length = stN w h := by omega
    rw [spec_l04Distances_eq hk C, Option.bind_some]
    obtain ⟨s, hs, e⟩ := inv_loop (F := fun k (s : List Int) i => spec_Reached.l0 k s (dists (st w h o) (stN w h) a) i) (n := stN w h) (c := 0) (fin := fun s => s) (I := fun s i => s = (ints i).filter fun c => !decide (dst w h o a c < 0))
      (fun k s i _ hi hs => ⟨(ints (i + 1)).filter fun c => !decide (dst w h o a c < 0), rfl, by
        subst hs
        have hle : ((ints i).filter fun c => !decide (dst w h o a c < 0)).length ≤ 16 := Nat.le_trans (List.length_filter_le _ _) (by rw [ints_length]; omega)
        simp only [spec_Reached.l0]
        rw [if_pos (by omega), if_pos (by omega), ints_succ, List.filter_append, w64 (by omega) (by omega)]
        by_cases hd : dst w h o a (i : Int) < 0
        · rw [if_neg (by show ¬ dst w h o a (i : Int) ≥ 0; omega), List.filter_cons_of_neg (by simpa using hd), List.filter_nil, List.append_nil]
        · rw [if_pos (by show dst w h o a (i : Int) ≥ 0; omega), if_pos (by omega), List.filter_cons_of_pos (by simpa using hd), List.filter_nil]⟩)
      (fun k s _ hs => by
        simp only [spec_Reached.l0]
        rw [if_neg (by omega)]) (stN w h) 0 k [] (by omega) (by omega) rfl
    subst hs
    exact e
  · rw [if_neg H, if_neg H]
theorem spec_Reached_in {k : Nat} (hk : 200 ≤ k) {w h o a : Int} (M : mok w h o = true) (C : icell w h a = true) : spec_Reached.f k w h o a = some (reach w h o a) := by
  rw [spec_Reached_eq hk, if_pos (by simp [M, C])]
end Go.Proofs.Ytpeehicekddjhaa.F
end

section
namespace Go.Proofs.Ytpeehicekddjhaa.F
open Go.RowKit Go.Proofs.YtpeehicekddjhaaW.PrintWords Go.Proofs.YtpeehicekddjhaaW.PrintLast Go.Proofs.YtpeehicekddjhaaW.PrintMore
set_option linter.unusedVariables false
set_option linter.unusedSimpArgs false
def gfor (w h o : Int) (l : List SSign) (n : Int) : List Int := if (mok w h o && sgs w h o l && decide (l.length ≤ 20)) = true then (ints (stN w h)).filter fun x => !decide (lies w h o x l > n) else []
theorem gfor_len (w h o : Int) (l : List SSign) (n : Int) : (gfor w h o l n).length ≤ 16 := by
  unfold gfor
  split
  · exact Nat.le_trans (List.length_filter_le _ _) (by rw [ints_length]; exact stN_le w h)
  · simp
theorem impl_GoalsFor_eq (w h o : Int) (l : List SSign) (n : Int) : impl_GoalsFor.f w h o l n = some (gfor w h o l n) := by
  unfold impl_GoalsFor.f gfor
  rw [impl_MazeOk_eq, Option.bind_some]
  by_cases M : mok w h o = true
  · rw [if_pos M]
    by_cases hl : l.length ≤ 20
    · rw [if_pos hl, impl_areSigns_eq (by decide), Option.bind_some]
      by_cases S : sgs w h o l = true
      · have hN := stN_int w h
        have hL := stN_le w h
        have hc : ∀ x, impl_CountLies.f 1000 w h o l x = some (lies w h o x l) := fun x => impl_CountLies_eq (by omega) (by omega) w h o x
        have g := mok_iff.1 M
        have hpos : 0 < stN w h := by
          have := gok_iff.1 g.1
          have h1 : 0 < w * h := Int.mul_pos (by omega) (by omega)
          have h2 : cells w h = w * h := by unfold cells; rw [if_pos g.1]
          omega
        rw [if_pos S, if_pos (by simp [M, S, hl]), impl_CountCells_eq, Option.bind_some, ← hN, impl_upTo_eq (by omega) (by omega), Option.bind_some, if_pos]
        · congr 1
          refine List.filter_congr fun x _ => ?_
          rw [hc]
          rfl
        · refine ⟨List.all_eq_true.2 fun x hx => by rw [hc]; rfl, by rw [ints_length]; exact hpos⟩
      · rw [if_neg S, if_neg (by simp [S])]
    · rw [if_neg hl, if_neg (by simp [hl])]
  · rw [if_neg M, if_neg (by simp [M])]
end Go.Proofs.Ytpeehicekddjhaa.F
end

section
namespace Go.Proofs.Ytpeehicekddjhaa.F
open Go.RowKit Go.Proofs.YtpeehicekddjhaaW.PrintWords Go.Proofs.YtpeehicekddjhaaW.PrintLast Go.Proofs.YtpeehicekddjhaaW.PrintMore
set_option linter.unusedVariables false
set_option linter.unusedSimpArgs false
def lnk (w h o a b : Int) : Prop := ∃ n, Walk (st w h o) a n b
theorem dst_lnk {w h o a b : Int} (ha : icell w h a = true) (hb : icell w h b = true) : 0 ≤ dst w h o a b ↔ lnk w h o a b := by
  have ca := icell_iff.1 ha
  have cb := icell_iff.1 hb
  have hN := stN_int w h
  obtain ⟨_, _, p⟩ := dists_spec (steps_st w h o) (a := a) ca.1 (by omega)
  unfold dst lnk
  rcases p b cb.1 (by omega) with ⟨e, n1⟩ | ⟨g1, w1, m1⟩
  · rw [e]
    exact ⟨fun z => absurd z (by decide), fun ⟨n, z⟩ => absurd z (n1 n)⟩
  · exact ⟨fun _ => ⟨_, w1⟩, fun _ => g1⟩
theorem mem_reach {w h o i x : Int} (hi : icell w h i = true) : x ∈ reach w h o i ↔ icell w h x = true ∧ lnk w h o i x := by
  unfold reach
  rw [List.mem_filter, mem_ints, stN_int]
  constructor
  · intro ⟨h1, h2⟩
    have hx : icell w h x = true := icell_iff.2 h1
    refine ⟨hx, (dst_lnk hi hx).1 ?_⟩
    simpa using h2
  · intro ⟨h1, h2⟩
    refine ⟨icell_iff.1 h1, ?_⟩
    have := (dst_lnk hi h1).2 h2
    simpa using this
theorem cells_pos {w h : Int} (G : gok w h = true) : 1 ≤ cells w h := by
  unfold cells
  rw [if_pos G]
  exact (gok_mul G).1
end Go.Proofs.Ytpeehicekddjhaa.F
end

section
namespace Go.Proofs.Ytpeehicekddjhaa.F
open Go.RowKit Go.Proofs.YtpeehicekddjhaaW.PrintWords Go.Proofs.YtpeehicekddjhaaW.PrintLast Go.Proofs.YtpeehicekddjhaaW.PrintMore
set_option linter.unusedVariables false
set_option linter.unusedSimpArgs false
theorem and_mask (x : Int) (m : Nat) (hm : m < 2 ^ 63) : 0 ≤ Go.bits .and .i64 x (m : Int) ∧ Go.bits .and .i64 x (m : Int) ≤ m := by
  have hm' : m % 2 ^ 64 = m := Nat.mod_eq_of_lt (by omega)
  have e : Go.bits .and .i64 x (m : Int) = IntKind.i64.wrap (((BitVec.ofInt 64 x &&& BitVec.ofInt 64 (m : Int)).toNat : Nat) : Int) := rfl
  have h : (BitVec.ofInt 64 x &&& BitVec.ofInt 64 (m : Int)).toNat ≤ m := by
    rw [BitVec.ofInt_natCast, BitVec.toNat_and, BitVec.toNat_ofNat, hm']
    exact Nat.and_le_right
  rw [e, wrapi_nat (by omega)]
  omega
theorem byte_draw {l : List Int} {i h : Int} (hi : 0 ≤ i) (hl : l.length ≤ 1048576) : ∃ b i' h', spec_l01Byte.f l i h = some (b, i', h') ∧ 0 ≤ b ∧ b ≤ 255 ∧ 0 ≤ i' := by
  unfold spec_l01Byte.f
  by_cases c : i < (l.length : Int)
  · rw [if_pos c, if_pos hi]
    exact ⟨_, _, _, rfl, (and_mask _ 255 (by decide)).1, (and_mask _ 255 (by decide)).2, by rw [w64 (by omega) (by omega)]; omega⟩
  · rw [if_neg c]
    exact ⟨_, _, _, rfl, (and_mask _ 255 (by decide)).1, (and_mask _ 255 (by decide)).2, hi⟩
theorem below_draw {l : List Int} {i h n : Int} (hi : 0 ≤ i) (hl : l.length ≤ 1048576) (hn : 1 ≤ n) (hn2 : n ≤ 256) : ∃ b i' h', spec_l01Below.f l i h n = some (b, i', h') ∧ 0 ≤ b ∧ b < n ∧ 0 ≤ i' := by
  obtain ⟨b, i', h', e, h0, h1, h2⟩ := byte_draw (h := h) hi hl
  unfold spec_l01Below.f
  rw [if_neg (by omega), if_pos hn2, e, Option.bind_some, if_neg (by omega)]
  exact ⟨_, _, _, rfl, Int.tmod_nonneg _ h0, Int.tmod_lt_of_pos _ (by omega), h2⟩
theorem new_draw {k : Nat} {l : List Int} (hl : l.length ≤ 1048576) (hk : l.length + 1 ≤ k) : ∃ h, spec_l01New.f k l = some (l, 0, h) := by
  unfold spec_l01New.f
  obtain ⟨s, _, e⟩ := inv_loop (n := min l.length 4000) (c := 0) (F := fun k (s : Int) i => spec_l01New.l0 k l s i) (fin := fun s => (l, (0 : Int), s)) (I := fun _ _ => True)
    (fun k s i _ hi _ => ⟨_, trivial, by
      simp only [spec_l01New.l0]
      rw [if_pos (by omega), if_pos (by omega), if_pos (by omega), w64_succ hi (by omega)]⟩)
    (fun k s _ _ => by
      simp only [spec_l01New.l0]
      by_cases c : ((min l.length 4000 : Nat) : Int) < (l.length : Int)
      · rw [if_pos c, if_neg (by omega)]
      · rw [if_neg c]) (min l.length 4000) 0 k _ (by omega) (by omega) trivial
  exact ⟨s, e⟩
theorem at_draw {l : List Int} {a : Int} (h0 : 0 ≤ a) (h1 : a ≤ 1000) (hl : l.length ≤ 1048576) (hb : ∀ y ∈ l, 0 ≤ y ∧ y ≤ 255) : ∃ b, laws_at.f l a = some b ∧ 0 ≤ b ∧ b ≤ 255 := by
  unfold laws_at.f
  by_cases c : (l.length : Int) = 0
  · rw [if_pos c]; exact ⟨0, rfl, by decide, by decide⟩
  · rw [if_neg c, w64 (x := a * 5) (by omega) (by omega), w64 (x := a * 5 + 1) (by omega) (by omega)]
    have p0 := Int.tmod_nonneg (a := a * 5 + 1) (l.length : Int) (by omega)
    have p1 := Int.tmod_lt_of_pos (a * 5 + 1) (b := (l.length : Int)) (by omega)
    rw [if_pos p0, if_pos p1]
    obtain ⟨j, hj⟩ : ∃ j : Nat, (j : Int) = Int.tmod (a * 5 + 1) (l.length : Int) := ⟨_, Int.toNat_of_nonneg p0⟩
    rw [← hj]
    have hm : rd l (j : Int) ∈ l := by
      rw [rd_nat, List.getD_eq_getElem?_getD, List.getElem?_eq_getElem (by omega)]
      exact List.getElem_mem _
    obtain ⟨q0, q1⟩ := hb _ hm
    exact ⟨_, rfl, by rw [w64 (by omega) (by omega)]; exact q0, by rw [w64 (by omega) (by omega)]; exact q1⟩
end Go.Proofs.Ytpeehicekddjhaa.F
end

section
namespace Go.Proofs.Ytpeehicekddjhaa.F
open Go.RowKit Go.Proofs.YtpeehicekddjhaaW.PrintWords Go.Proofs.YtpeehicekddjhaaW.PrintLast Go.Proofs.YtpeehicekddjhaaW.PrintMore
set_option linter.unusedVariables false
set_option linter.unusedSimpArgs false
theorem countP_one {α : Type} [DecidableEq α] {p q : α → Bool} {x : α} (hp : p x = false) (hq : q x = true) (he : ∀ y, y ≠ x → p y = q y) : ∀ {l : List α}, l.Nodup → x ∈ l → l.countP q = l.countP p + 1
  | [], _, h => absurd h (by simp)
  | y :: l, hn, h => by
    rw [List.nodup_cons] at hn
    rw [List.countP_cons, List.countP_cons]
    by_cases e : y = x
    · subst e
      have : l.countP q = l.countP p := by
        rw [List.countP_eq_length_filter, List.countP_eq_length_filter]
        congr 1
        refine List.filter_congr fun z hz => (he z ?_).symm
        rintro rfl
        exact hn.1 hz
      rw [hp, hq, this]
      simp
    · have hx : x ∈ l := by
        rcases List.mem_cons.1 h with h | h
        · exact absurd h.symm e
        · exact h
      rw [countP_one hp hq he hn.2 hx, he y e]
      omega
end Go.Proofs.Ytpeehicekddjhaa.F
end
