/- Packed by a program of the session (wip/tools/pack.py): what the claim's theorem reaches, of the texts that wip/ and the kit's printer lay. -/
import Derived.Test.YtpeehicekddjhaaPkFnExactNewGarden7
import Derived.Laws.StructEq
section
namespace Go.Proofs.Ytpeehicekddjhaa.F
open Go.RowKit Go.Proofs.YtpeehicekddjhaaW.PrintWords Go.Proofs.YtpeehicekddjhaaW.PrintLast Go.Proofs.YtpeehicekddjhaaW.PrintMore
set_option linter.unusedVariables false
set_option linter.unusedSimpArgs false
attribute [local go_sem] max2_int min2_int max_two min_two
set_option maxHeartbeats 8000000 in
set_option maxRecDepth 100000 in
theorem laws_FnExactNewGarden.calls (k : Nat) (a0_0 : Int) (a0_1 : Int) (a0_2 : Int) (a1 : Int) (a2 : Int) (w : World) (h : laws_FnExactNewGarden.f k a0_0 a0_1 a0_2 a1 a2 = some true) :
  Calls Try.prog 9 #[.agg #[.int .i64 a0_0, .int .i64 a0_1, .int .i64 a0_2], .int .i64 a1, .int .i64 a2] w fun e w' => e = .returned (.bool true) ∧ Below w.heap.size w w' := by
 have hu57 := Try.underlying57
 have hu84 := Try.underlying84
 have HB := aK (Below.refl w.heap.size w)
 have H : ((laws_toMaze.f a0_0 a0_1 a0_2).bind fun bt1310 => ((spec_NewGarden.f k bt1310.1 bt1310.2.1 bt1310.2.2 a1 a2).bind fun bt1313 => ((laws_toMaze.f a0_0 a0_1 a0_2).bind fun bt1327 => ((impl_NewGarden.f k bt1327.1 bt1327.2.1 bt1327.2.2 a1 a2).bind fun bt1330 => ((laws_eqGarden.f k bt1330.1 bt1330.2.1 bt1330.2.2.1 bt1330.2.2.2.1 bt1330.2.2.2.2.1 bt1330.2.2.2.2.2.1 bt1330.2.2.2.2.2.2.1 bt1330.2.2.2.2.2.2.2.1 bt1313.1 bt1313.2.1 bt1313.2.2.1 bt1313.2.2.2.1 bt1313.2.2.2.2.1 bt1313.2.2.2.2.2.1 bt1313.2.2.2.2.2.2.1 bt1313.2.2.2.2.2.2.2.1).bind fun t1344 => (if t1344 = true then (laws_FnExactNewGarden.j0 k a1 a2 bt1313.2.2.2.2.2.2.2.2 (bt1330.2.2.2.2.2.2.2.2 != bt1313.2.2.2.2.2.2.2.2) a0_0 a0_1 a0_2 bt1313.1 bt1313.2.1 bt1313.2.2.1 bt1313.2.2.2.1 bt1313.2.2.2.2.1 bt1313.2.2.2.2.2.1 bt1313.2.2.2.2.2.2.1 bt1313.2.2.2.2.2.2.2.1 bt1330.1 bt1330.2.1 bt1330.2.2.1 bt1330.2.2.2.1 bt1330.2.2.2.2.1 bt1330.2.2.2.2.2.1 bt1330.2.2.2.2.2.2.1 bt1330.2.2.2.2.2.2.2.1) else (laws_FnExactNewGarden.j0 k a1 a2 bt1313.2.2.2.2.2.2.2.2 true a0_0 a0_1 a0_2 bt1313.1 bt1313.2.1 bt1313.2.2.1 bt1313.2.2.2.1 bt1313.2.2.2.2.1 bt1313.2.2.2.2.2.1 bt1313.2.2.2.2.2.2.1 bt1313.2.2.2.2.2.2.2.1 bt1330.1 bt1330.2.1 bt1330.2.2.1 bt1330.2.2.2.1 bt1330.2.2.2.2.1 bt1330.2.2.2.2.2.1 bt1330.2.2.2.2.2.2.1 bt1330.2.2.2.2.2.2.2.1))))))) = some true := h
 clear h
 replace H := Option.bind_eq_some_iff.mp H
 obtain ⟨⟨t1310, t1311, t1312⟩, A40, H⟩ := H
 replace H : ((spec_NewGarden.f k t1310 t1311 t1312 a1 a2).bind fun bt1313 => ((laws_toMaze.f a0_0 a0_1 a0_2).bind fun bt1327 => ((impl_NewGarden.f k bt1327.1 bt1327.2.1 bt1327.2.2 a1 a2).bind fun bt1330 => ((laws_eqGarden.f k bt1330.1 bt1330.2.1 bt1330.2.2.1 bt1330.2.2.2.1 bt1330.2.2.2.2.1 bt1330.2.2.2.2.2.1 bt1330.2.2.2.2.2.2.1 bt1330.2.2.2.2.2.2.2.1 bt1313.1 bt1313.2.1 bt1313.2.2.1 bt1313.2.2.2.1 bt1313.2.2.2.2.1 bt1313.2.2.2.2.2.1 bt1313.2.2.2.2.2.2.1 bt1313.2.2.2.2.2.2.2.1).bind fun t1344 => (if t1344 = true then (laws_FnExactNewGarden.j0 k a1 a2 bt1313.2.2.2.2.2.2.2.2 (bt1330.2.2.2.2.2.2.2.2 != bt1313.2.2.2.2.2.2.2.2) a0_0 a0_1 a0_2 bt1313.1 bt1313.2.1 bt1313.2.2.1 bt1313.2.2.2.1 bt1313.2.2.2.2.1 bt1313.2.2.2.2.2.1 bt1313.2.2.2.2.2.2.1 bt1313.2.2.2.2.2.2.2.1 bt1330.1 bt1330.2.1 bt1330.2.2.1 bt1330.2.2.2.1 bt1330.2.2.2.2.1 bt1330.2.2.2.2.2.1 bt1330.2.2.2.2.2.2.1 bt1330.2.2.2.2.2.2.2.1) else (laws_FnExactNewGarden.j0 k a1 a2 bt1313.2.2.2.2.2.2.2.2 true a0_0 a0_1 a0_2 bt1313.1 bt1313.2.1 bt1313.2.2.1 bt1313.2.2.2.1 bt1313.2.2.2.2.1 bt1313.2.2.2.2.2.1 bt1313.2.2.2.2.2.2.1 bt1313.2.2.2.2.2.2.2.1 bt1330.1 bt1330.2.1 bt1330.2.2.1 bt1330.2.2.2.1 bt1330.2.2.2.2.1 bt1330.2.2.2.2.2.1 bt1330.2.2.2.2.2.2.1 bt1330.2.2.2.2.2.2.2.1)))))) = some true := H
 have A4 := aK A40
 clear A40
 replace H := Option.bind_eq_some_iff.mp H
 obtain ⟨⟨t1313, t1314, t1315, t1316, t1319, t1320, t1321, t1324, t1325⟩, A50, H⟩ := H
 replace H : ((laws_toMaze.f a0_0 a0_1 a0_2).bind fun bt1327 => ((impl_NewGarden.f k bt1327.1 bt1327.2.1 bt1327.2.2 a1 a2).bind fun bt1330 => ((laws_eqGarden.f k bt1330.1 bt1330.2.1 bt1330.2.2.1 bt1330.2.2.2.1 bt1330.2.2.2.2.1 bt1330.2.2.2.2.2.1 bt1330.2.2.2.2.2.2.1 bt1330.2.2.2.2.2.2.2.1 t1313 t1314 t1315 t1316 t1319 t1320 t1321 t1324).bind fun t1344 => (if t1344 = true then (laws_FnExactNewGarden.j0 k a1 a2 t1325 (bt1330.2.2.2.2.2.2.2.2 != t1325) a0_0 a0_1 a0_2 t1313 t1314 t1315 t1316 t1319 t1320 t1321 t1324 bt1330.1 bt1330.2.1 bt1330.2.2.1 bt1330.2.2.2.1 bt1330.2.2.2.2.1 bt1330.2.2.2.2.2.1 bt1330.2.2.2.2.2.2.1 bt1330.2.2.2.2.2.2.2.1) else (laws_FnExactNewGarden.j0 k a1 a2 t1325 true a0_0 a0_1 a0_2 t1313 t1314 t1315 t1316 t1319 t1320 t1321 t1324 bt1330.1 bt1330.2.1 bt1330.2.2.1 bt1330.2.2.2.1 bt1330.2.2.2.2.1 bt1330.2.2.2.2.2.1 bt1330.2.2.2.2.2.2.1 bt1330.2.2.2.2.2.2.2.1))))) = some true := H
 have A5 := aK A50
 clear A50
 replace H := Option.bind_eq_some_iff.mp H
 obtain ⟨⟨t1327, t1328, t1329⟩, A60, H⟩ := H
 replace H : ((impl_NewGarden.f k t1327 t1328 t1329 a1 a2).bind fun bt1330 => ((laws_eqGarden.f k bt1330.1 bt1330.2.1 bt1330.2.2.1 bt1330.2.2.2.1 bt1330.2.2.2.2.1 bt1330.2.2.2.2.2.1 bt1330.2.2.2.2.2.2.1 bt1330.2.2.2.2.2.2.2.1 t1313 t1314 t1315 t1316 t1319 t1320 t1321 t1324).bind fun t1344 => (if t1344 = true then (laws_FnExactNewGarden.j0 k a1 a2 t1325 (bt1330.2.2.2.2.2.2.2.2 != t1325) a0_0 a0_1 a0_2 t1313 t1314 t1315 t1316 t1319 t1320 t1321 t1324 bt1330.1 bt1330.2.1 bt1330.2.2.1 bt1330.2.2.2.1 bt1330.2.2.2.2.1 bt1330.2.2.2.2.2.1 bt1330.2.2.2.2.2.2.1 bt1330.2.2.2.2.2.2.2.1) else (laws_FnExactNewGarden.j0 k a1 a2 t1325 true a0_0 a0_1 a0_2 t1313 t1314 t1315 t1316 t1319 t1320 t1321 t1324 bt1330.1 bt1330.2.1 bt1330.2.2.1 bt1330.2.2.2.1 bt1330.2.2.2.2.1 bt1330.2.2.2.2.2.1 bt1330.2.2.2.2.2.2.1 bt1330.2.2.2.2.2.2.2.1)))) = some true := H
 have A6 := aK A60
 clear A60
 replace H := Option.bind_eq_some_iff.mp H
 obtain ⟨⟨t1330, t1331, t1332, t1333, t1336, t1337, t1338, t1341, t1342⟩, A70, H⟩ := H
 replace H : ((laws_eqGarden.f k t1330 t1331 t1332 t1333 t1336 t1337 t1338 t1341 t1313 t1314 t1315 t1316 t1319 t1320 t1321 t1324).bind fun t1344 => (if t1344 = true then (laws_FnExactNewGarden.j0 k a1 a2 t1325 (t1342 != t1325) a0_0 a0_1 a0_2 t1313 t1314 t1315 t1316 t1319 t1320 t1321 t1324 t1330 t1331 t1332 t1333 t1336 t1337 t1338 t1341) else (laws_FnExactNewGarden.j0 k a1 a2 t1325 true a0_0 a0_1 a0_2 t1313 t1314 t1315 t1316 t1319 t1320 t1321 t1324 t1330 t1331 t1332 t1333 t1336 t1337 t1338 t1341))) = some true := H
 have A7 := aK A70
 clear A70
 have HC8 := aK H
 clear H
 go_enter Try.func9, Try.ntmps9
 go_upto_region 3 with (first | ((with_reducible refine gate_dst (N := 3) rfl ?_); refine box_event ?hg (N := 3) ?hd (cs := #[.int .i64 a0_0, .int .i64 a0_1, .int .i64 a0_2]) (t := 57) ?hr ?_; (case hd => rfl); (case hg => rfl); (case hr => first | (go_simp; done) | (go_simp; rfl)); intro gb1309 hg w9 hbox hb; have n0_ := aK (bSp (by repeat (first | (with_reducible first | exact HB.out | apply bAl | apply bDN | apply bD1) | exact HB.out)) hb); have n1_ := aK (hbox); have n2_ := aK ((by rw [hg]; exact (bSz (by repeat (first | (with_reducible first | exact HB.out | apply bAl | apply bDN | apply bD1) | exact HB.out))) : w.heap.size ≤ gb1309)); have n3_ := n2_; clear HB; have HB := n0_; have BK1309 := n1_; have GW1309 := n2_; have GE1309 := n3_; clear n0_ n1_ n2_ n3_; clear hb hbox hg; obtain ⟨hcz10_0, hcz10_1, hcz10_2, hfz10_0, hfz10_1, hfz10_2⟩ := cl3 BK1309.out) | ((with_reducible refine gate_callee (f := 32) rfl ?_); refine goesL_ (some 17) rfl rfl Try.func32 (by kernel_rfl) rfl #[.agg #[.int .i64 a0_0, .int .i64 a0_1, .int .i64 a0_2]] rfl (by (try simp only [List.map_toArray, List.map_cons, List.map_nil]); first | done | rfl | (simp only [List.length_drop, List.length_take]; rfl)) ?_; (with_reducible refine (laws_toMaze.calls a0_0 a0_1 a0_2 t1310 t1311 t1312 _ A4.out).mono ?_); rintro e w11 ⟨rfl, hb⟩; refine ⟨_, rfl, ?_⟩; have n0_ := bkb BK1309 hb (by intro z_; (with_reducible repeat (first | refine blk_drewN ?_ _ | refine kD ?_ | refine kA ?_ _)); exact z_); have n1_ := aK (bSp (by repeat (first | (with_reducible first | exact HB.out | apply bAl | apply bDN | apply bD1 | refine bSt ?_ GE1309.out) | exact HB.out)) hb); clear BK1309; clear HB; have BK1309 := n0_; have HB := n1_; clear n0_ n1_; (try clear hb); (try clear hb2); (try clear hk); (try clear hi)) | ((with_reducible refine gate_callee (f := 49) rfl ?_); refine goesL_ (some 20) rfl rfl Try.func49 (by kernel_rfl) rfl #[.agg #[.int .i64 t1310, .int .i64 t1311, .int .i64 t1312], .int .i64 a1, .int .i64 a2] rfl (by (try simp only [List.map_toArray, List.map_cons, List.map_nil]); first | done | rfl | (simp only [List.length_drop, List.length_take]; rfl)) ?_; (with_reducible refine (spec_NewGarden.calls k t1310 t1311 t1312 a1 a2 t1313 t1314 t1315 t1316 t1319 t1320 t1321 t1324 t1325 _ A5.out).mono ?_); rintro e w12 ⟨v1317, v1322, rfl, ho0, ho1, hb⟩; refine ⟨_, rfl, ?_⟩; have n0_ := aK (Kd.R_lower ho0 (bSz (by repeat (first | (with_reducible first | exact HB.out | apply bAl | apply bDN | apply bD1 | refine bSt ?_ GE1309.out) | exact HB.out)))); have n1_ := aK (Kd.R_lower ho1 (bSz (by repeat (first | (with_reducible first | exact HB.out | apply bAl | apply bDN | apply bD1 | refine bSt ?_ GE1309.out) | exact HB.out)))); have n2_ := bkb BK1309 hb (by intro z_; (with_reducible repeat (first | refine blk_drewN ?_ _ | refine kD ?_ | refine kA ?_ _)); exact z_); have n3_ := aK (bSp (by repeat (first | (with_reducible first | exact HB.out | apply bAl | apply bDN | apply bD1 | refine bSt ?_ GE1309.out) | exact HB.out)) hb); clear BK1309; clear HB; have HO1318 := n0_; have HO1323 := n1_; have BK1309 := n2_; have HB := n3_; clear n0_ n1_ n2_ n3_; (try clear hb); (try clear hb2); (try clear hk); (try clear hi); (try clear ho0); (try clear ho1)) | ((with_reducible refine gate_dst (N := 7) rfl ?_); refine box_event ?hg (N := 7) ?hd (cs := #[.int .i64 0, .int .i64 0, .int .i64 0, .slice none 0 0, .int .i64 0, .int .i64 0, .slice none 0 0, .int .i64 0]) (t := 84) ?hr ?_; (case hd => rfl); (case hg => rfl); (case hr => first | (go_simp; done) | (go_simp; rfl)); intro gb1326 hg w13 hbox hb; have n0_ := aK (Kd.R_below (by (with_reducible repeat (first | apply Kd.R_alloc | apply Kd.R_drewN | apply Kd.R_drew)); exact HO1318.out) hb); have n1_ := aK (Kd.R_below (by (with_reducible repeat (first | apply Kd.R_alloc | apply Kd.R_drewN | apply Kd.R_drew)); exact HO1323.out) hb); have n2_ := bkb BK1309 hb (by intro z_; (with_reducible repeat (first | refine blk_drewN ?_ _ | refine kD ?_ | refine kA ?_ _)); exact z_); have n3_ := aK (bSp (by repeat (first | (with_reducible first | exact HB.out | apply bAl | apply bDN | apply bD1 | refine bSt ?_ GE1309.out) | exact HB.out)) hb); have n4_ := aK (hbox); have n5_ := aK ((by rw [hg]; exact (bSz (by repeat (first | (with_reducible first | exact HB.out | apply bAl | apply bDN | apply bD1 | refine bSt ?_ GE1309.out) | exact HB.out))) : w.heap.size ≤ gb1326)); have n6_ := n5_; have n7_ := nbl BK1309 hg (by intro z_; (with_reducible repeat (first | refine blk_drewN ?_ _ | refine kD ?_ | refine kA ?_ _)); exact z_); have n8_ := nbs n7_; clear HO1318; clear HO1323; clear BK1309; clear HB; have HO1318 := n0_; have HO1323 := n1_; have BK1309 := n2_; have HB := n3_; have BK1326 := n4_; have GW1326 := n5_; have GE1326 := n6_; have NB1309_1326 := n7_; have NB1326_1309 := n8_; clear n0_ n1_ n2_ n3_ n4_ n5_ n6_ n7_ n8_; clear hb hbox hg; have hnb14 := NB1326_1309.out; have hnc14 := NB1309_1326.out; have hcz15_0 : w13.cell? ⟨gb1326, 0, none⟩ = some (.int .i64 0) := (kC BK1326.out 0).trans rfl; have hcz15_1 : w13.cell? ⟨gb1326, 1, none⟩ = some (.int .i64 0) := (kC BK1326.out 1).trans rfl; have hcz15_2 : w13.cell? ⟨gb1326, 2, none⟩ = some (.int .i64 0) := (kC BK1326.out 2).trans rfl; have hcz15_3 : w13.cell? ⟨gb1326, 3, none⟩ = some (.slice none 0 0) := (kC BK1326.out 3).trans rfl; have hcz15_4 : w13.cell? ⟨gb1326, 4, none⟩ = some (.int .i64 0) := (kC BK1326.out 4).trans rfl; have hcz15_5 : w13.cell? ⟨gb1326, 5, none⟩ = some (.int .i64 0) := (kC BK1326.out 5).trans rfl; have hcz15_6 : w13.cell? ⟨gb1326, 6, none⟩ = some (.slice none 0 0) := (kC BK1326.out 6).trans rfl; have hcz15_7 : w13.cell? ⟨gb1326, 7, none⟩ = some (.int .i64 0) := (kC BK1326.out 7).trans rfl; have hfz15_0 := kF BK1326.out 0; have hfz15_1 := kF BK1326.out 1; have hfz15_2 := kF BK1326.out 2; have hfz15_3 := kF BK1326.out 3; have hfz15_4 := kF BK1326.out 4; have hfz15_5 := kF BK1326.out 5; have hfz15_6 := kF BK1326.out 6; have hfz15_7 := kF BK1326.out 7; obtain ⟨Ao16, co16, eo16⟩ := Kd.R_slice HO1318.out; subst eo16; obtain ⟨Ao17, co17, eo17⟩ := Kd.R_slice HO1323.out; subst eo17; obtain ⟨hcz18_0, hcz18_1, hcz18_2, hfz18_0, hfz18_1, hfz18_2⟩ := cl3 BK1309.out) | ((with_reducible refine gate_callee (f := 32) rfl ?_); refine goesL_ (some 25) rfl rfl Try.func32 (by kernel_rfl) rfl #[.agg #[.int .i64 a0_0, .int .i64 a0_1, .int .i64 a0_2]] rfl (by (try simp only [List.map_toArray, List.map_cons, List.map_nil]); first | done | rfl | (simp only [List.length_drop, List.length_take]; rfl)) ?_; (with_reducible refine (laws_toMaze.calls a0_0 a0_1 a0_2 t1327 t1328 t1329 _ A6.out).mono ?_); rintro e w19 ⟨rfl, hb⟩; refine ⟨_, rfl, ?_⟩; have n0_ := aK (Kd.R_below (by (with_reducible repeat (first | apply Kd.R_alloc | apply Kd.R_drewN | apply Kd.R_drew)); exact (Kd.R_mono (Kd.R_far (p := ⟨gb1326, 7, none⟩) (Kd.R_far (p := ⟨gb1326, 6, none⟩) (Kd.R_far (p := ⟨gb1326, 5, none⟩) (Kd.R_far (p := ⟨gb1326, 4, none⟩) (Kd.R_far (p := ⟨gb1326, 3, none⟩) (Kd.R_far (p := ⟨gb1326, 2, none⟩) (Kd.R_far (p := ⟨gb1326, 1, none⟩) (Kd.R_far (p := ⟨gb1326, 0, none⟩) (Kd.R_types HO1318.out BK1326.out (by decide)) (fun _ hk => hk.2) (.int .i64 t1313)) (fun _ hk => hk.2) (.int .i64 t1314)) (fun _ hk => hk.2) (.int .i64 t1315)) (fun _ hk => hk.2) (.slice Ao16 t1316.length co16)) (fun _ hk => hk.2) (.int .i64 t1319)) (fun _ hk => hk.2) (.int .i64 t1320)) (fun _ hk => hk.2) (.slice Ao17 t1321.length co17)) (fun _ hk => hk.2) (.int .i64 t1324)) (fun _ h_ => h_.1))) hb); have n1_ := aK (Kd.R_below (by (with_reducible repeat (first | apply Kd.R_alloc | apply Kd.R_drewN | apply Kd.R_drew)); exact (Kd.R_mono (Kd.R_far (p := ⟨gb1326, 7, none⟩) (Kd.R_far (p := ⟨gb1326, 6, none⟩) (Kd.R_far (p := ⟨gb1326, 5, none⟩) (Kd.R_far (p := ⟨gb1326, 4, none⟩) (Kd.R_far (p := ⟨gb1326, 3, none⟩) (Kd.R_far (p := ⟨gb1326, 2, none⟩) (Kd.R_far (p := ⟨gb1326, 1, none⟩) (Kd.R_far (p := ⟨gb1326, 0, none⟩) (Kd.R_types HO1323.out BK1326.out (by decide)) (fun _ hk => hk.2) (.int .i64 t1313)) (fun _ hk => hk.2) (.int .i64 t1314)) (fun _ hk => hk.2) (.int .i64 t1315)) (fun _ hk => hk.2) (.slice Ao16 t1316.length co16)) (fun _ hk => hk.2) (.int .i64 t1319)) (fun _ hk => hk.2) (.int .i64 t1320)) (fun _ hk => hk.2) (.slice Ao17 t1321.length co17)) (fun _ hk => hk.2) (.int .i64 t1324)) (fun _ h_ => h_.1))) hb); have n2_ := bkb BK1309 hb (by intro z_; (with_reducible repeat (first | refine blk_drewN ?_ _ | refine kD ?_ | refine kA ?_ _)); refine blk_far ?_ NB1309_1326.out _; (with_reducible repeat (first | refine blk_drewN ?_ _ | refine kD ?_ | refine kA ?_ _)); refine blk_far ?_ NB1309_1326.out _; (with_reducible repeat (first | refine blk_drewN ?_ _ | refine kD ?_ | refine kA ?_ _)); refine blk_far ?_ NB1309_1326.out _; (with_reducible repeat (first | refine blk_drewN ?_ _ | refine kD ?_ | refine kA ?_ _)); refine blk_far ?_ NB1309_1326.out _; (with_reducible repeat (first | refine blk_drewN ?_ _ | refine kD ?_ | refine kA ?_ _)); refine blk_far ?_ NB1309_1326.out _; (with_reducible repeat (first | refine blk_drewN ?_ _ | refine kD ?_ | refine kA ?_ _)); refine blk_far ?_ NB1309_1326.out _; (with_reducible repeat (first | refine blk_drewN ?_ _ | refine kD ?_ | refine kA ?_ _)); refine blk_far ?_ NB1309_1326.out _; (with_reducible repeat (first | refine blk_drewN ?_ _ | refine kD ?_ | refine kA ?_ _)); refine blk_far ?_ NB1309_1326.out _; (with_reducible repeat (first | refine blk_drewN ?_ _ | refine kD ?_ | refine kA ?_ _)); exact z_); have n3_ := aK (blk_below (g := gb1326) (o := .cells #[.int .i64 t1313, .int .i64 t1314, .int .i64 t1315, .slice Ao16 t1316.length co16, .int .i64 t1319, .int .i64 t1320, .slice Ao17 t1321.length co17, .int .i64 t1324] 84 (0, 0)) (by (with_reducible repeat (first | refine blk_drewN ?_ _ | refine kD ?_ | refine kA ?_ _)); refine blk_put (cs := #[.int .i64 t1313, .int .i64 t1314, .int .i64 t1315, .slice Ao16 t1316.length co16, .int .i64 t1319, .int .i64 t1320, .slice Ao17 t1321.length co17, .int .i64 0]) ?_ 7 _ rfl; (with_reducible repeat (first | refine blk_drewN ?_ _ | refine kD ?_ | refine kA ?_ _)); refine blk_put (cs := #[.int .i64 t1313, .int .i64 t1314, .int .i64 t1315, .slice Ao16 t1316.length co16, .int .i64 t1319, .int .i64 t1320, .slice none 0 0, .int .i64 0]) ?_ 6 _ rfl; (with_reducible repeat (first | refine blk_drewN ?_ _ | refine kD ?_ | refine kA ?_ _)); refine blk_put (cs := #[.int .i64 t1313, .int .i64 t1314, .int .i64 t1315, .slice Ao16 t1316.length co16, .int .i64 t1319, .int .i64 0, .slice none 0 0, .int .i64 0]) ?_ 5 _ rfl; (with_reducible repeat (first | refine blk_drewN ?_ _ | refine kD ?_ | refine kA ?_ _)); refine blk_put (cs := #[.int .i64 t1313, .int .i64 t1314, .int .i64 t1315, .slice Ao16 t1316.length co16, .int .i64 0, .int .i64 0, .slice none 0 0, .int .i64 0]) ?_ 4 _ rfl; (with_reducible repeat (first | refine blk_drewN ?_ _ | refine kD ?_ | refine kA ?_ _)); refine blk_put (cs := #[.int .i64 t1313, .int .i64 t1314, .int .i64 t1315, .slice none 0 0, .int .i64 0, .int .i64 0, .slice none 0 0, .int .i64 0]) ?_ 3 _ rfl; (with_reducible repeat (first | refine blk_drewN ?_ _ | refine kD ?_ | refine kA ?_ _)); refine blk_put (cs := #[.int .i64 t1313, .int .i64 t1314, .int .i64 0, .slice none 0 0, .int .i64 0, .int .i64 0, .slice none 0 0, .int .i64 0]) ?_ 2 _ rfl; (with_reducible repeat (first | refine blk_drewN ?_ _ | refine kD ?_ | refine kA ?_ _)); refine blk_put (cs := #[.int .i64 t1313, .int .i64 0, .int .i64 0, .slice none 0 0, .int .i64 0, .int .i64 0, .slice none 0 0, .int .i64 0]) ?_ 1 _ rfl; (with_reducible repeat (first | refine blk_drewN ?_ _ | refine kD ?_ | refine kA ?_ _)); refine blk_put (cs := #[.int .i64 0, .int .i64 0, .int .i64 0, .slice none 0 0, .int .i64 0, .int .i64 0, .slice none 0 0, .int .i64 0]) ?_ 0 _ rfl; (with_reducible repeat (first | refine blk_drewN ?_ _ | refine kD ?_ | refine kA ?_ _)); exact BK1326.out) hb); have n4_ := aK (bSp (by repeat (first | (with_reducible first | exact HB.out | apply bAl | apply bDN | apply bD1 | refine bSt ?_ GE1309.out | refine bSt ?_ GE1326.out) | exact HB.out)) hb); clear HO1318; clear HO1323; clear BK1309; clear BK1326; clear HB; have HO1318 := n0_; have HO1323 := n1_; have BK1309 := n2_; have BK1326 := n3_; have HB := n4_; clear n0_ n1_ n2_ n3_ n4_; (try clear hb); (try clear hb2); (try clear hk); (try clear hi)) | ((with_reducible refine gate_callee (f := 50) rfl ?_); refine goesL_ (some 28) rfl rfl Try.func50 (by kernel_rfl) rfl #[.agg #[.int .i64 t1327, .int .i64 t1328, .int .i64 t1329], .int .i64 a1, .int .i64 a2] rfl (by (try simp only [List.map_toArray, List.map_cons, List.map_nil]); first | done | rfl | (simp only [List.length_drop, List.length_take]; rfl)) ?_; (with_reducible refine (impl_NewGarden.calls k t1327 t1328 t1329 a1 a2 t1330 t1331 t1332 t1333 t1336 t1337 t1338 t1341 t1342 _ A7.out).mono ?_); rintro e w20 ⟨v1334, v1339, rfl, ho0, ho1, hb⟩; refine ⟨_, rfl, ?_⟩; have n0_ := aK (Kd.R_mono (Kd.R_told (Kd.R_told (Kd.R_old (by (with_reducible repeat (first | apply Kd.R_alloc | apply Kd.R_drewN | apply Kd.R_drew)); exact HO1318.out) hb) (Kd.R_base ho0)) (Kd.R_base ho1)) (fun _ h_ => h_.1)); have n1_ := aK (Kd.R_mono (Kd.R_told (Kd.R_told (Kd.R_old (by (with_reducible repeat (first | apply Kd.R_alloc | apply Kd.R_drewN | apply Kd.R_drew)); exact HO1323.out) hb) (Kd.R_base ho0)) (Kd.R_base ho1)) (fun _ h_ => h_.1)); have n2_ := aK (Kd.R_lower (Kd.R_new' (Kd.R_new' ho0 (Kd.R_lt (by (with_reducible repeat (first | apply Kd.R_alloc | apply Kd.R_drewN | apply Kd.R_drew)); exact HO1318.out))) (Kd.R_lt (by (with_reducible repeat (first | apply Kd.R_alloc | apply Kd.R_drewN | apply Kd.R_drew)); exact HO1323.out))) (bSz (by repeat (first | (with_reducible first | exact HB.out | apply bAl | apply bDN | apply bD1 | refine bSt ?_ GE1309.out | refine bSt ?_ GE1326.out) | exact HB.out)))); have n3_ := aK (Kd.R_lower (Kd.R_new' (Kd.R_new' ho1 (Kd.R_lt (by (with_reducible repeat (first | apply Kd.R_alloc | apply Kd.R_drewN | apply Kd.R_drew)); exact HO1318.out))) (Kd.R_lt (by (with_reducible repeat (first | apply Kd.R_alloc | apply Kd.R_drewN | apply Kd.R_drew)); exact HO1323.out))) (bSz (by repeat (first | (with_reducible first | exact HB.out | apply bAl | apply bDN | apply bD1 | refine bSt ?_ GE1309.out | refine bSt ?_ GE1326.out) | exact HB.out)))); have n4_ := bkb BK1309 hb (by intro z_; (with_reducible repeat (first | refine blk_drewN ?_ _ | refine kD ?_ | refine kA ?_ _)); exact z_); have n5_ := bkb BK1326 hb (by intro z_; (with_reducible repeat (first | refine blk_drewN ?_ _ | refine kD ?_ | refine kA ?_ _)); exact z_); have n6_ := aK (bSp (by repeat (first | (with_reducible first | exact HB.out | apply bAl | apply bDN | apply bD1 | refine bSt ?_ GE1309.out | refine bSt ?_ GE1326.out) | exact HB.out)) hb); clear HO1318; clear HO1323; clear BK1309; clear BK1326; clear HB; have HO1318 := n0_; have HO1323 := n1_; have HO1335 := n2_; have HO1340 := n3_; have BK1309 := n4_; have BK1326 := n5_; have HB := n6_; clear n0_ n1_ n2_ n3_ n4_ n5_ n6_; (try clear hb); (try clear hb2); (try clear hk); (try clear hi); (try clear ho0); (try clear ho1)) | ((with_reducible refine gate_dst (N := 9) rfl ?_); refine box_event ?hg (N := 9) ?hd (cs := #[.int .i64 0, .int .i64 0, .int .i64 0, .slice none 0 0, .int .i64 0, .int .i64 0, .slice none 0 0, .int .i64 0]) (t := 84) ?hr ?_; (case hd => rfl); (case hg => rfl); (case hr => first | (go_simp; done) | (go_simp; rfl)); intro gb1343 hg w21 hbox hb; have n0_ := aK (Kd.R_below (by (with_reducible repeat (first | apply Kd.R_alloc | apply Kd.R_drewN | apply Kd.R_drew)); exact HO1318.out) hb); have n1_ := aK (Kd.R_below (by (with_reducible repeat (first | apply Kd.R_alloc | apply Kd.R_drewN | apply Kd.R_drew)); exact HO1323.out) hb); have n2_ := aK (Kd.R_below (by (with_reducible repeat (first | apply Kd.R_alloc | apply Kd.R_drewN | apply Kd.R_drew)); exact HO1335.out) hb); have n3_ := aK (Kd.R_below (by (with_reducible repeat (first | apply Kd.R_alloc | apply Kd.R_drewN | apply Kd.R_drew)); exact HO1340.out) hb); have n4_ := bkb BK1309 hb (by intro z_; (with_reducible repeat (first | refine blk_drewN ?_ _ | refine kD ?_ | refine kA ?_ _)); exact z_); have n5_ := bkb BK1326 hb (by intro z_; (with_reducible repeat (first | refine blk_drewN ?_ _ | refine kD ?_ | refine kA ?_ _)); exact z_); have n6_ := aK (bSp (by repeat (first | (with_reducible first | exact HB.out | apply bAl | apply bDN | apply bD1 | refine bSt ?_ GE1309.out | refine bSt ?_ GE1326.out) | exact HB.out)) hb); have n7_ := aK (hbox); have n8_ := aK ((by rw [hg]; exact (bSz (by repeat (first | (with_reducible first | exact HB.out | apply bAl | apply bDN | apply bD1 | refine bSt ?_ GE1309.out | refine bSt ?_ GE1326.out) | exact HB.out))) : w.heap.size ≤ gb1343)); have n9_ := n8_; have n10_ := nbl BK1309 hg (by intro z_; (with_reducible repeat (first | refine blk_drewN ?_ _ | refine kD ?_ | refine kA ?_ _)); exact z_); have n11_ := nbs n10_; have n12_ := nbl BK1326 hg (by intro z_; (with_reducible repeat (first | refine blk_drewN ?_ _ | refine kD ?_ | refine kA ?_ _)); exact z_); have n13_ := nbs n12_; clear HO1318; clear HO1323; clear HO1335; clear HO1340; clear BK1309; clear BK1326; clear HB; have HO1318 := n0_; have HO1323 := n1_; have HO1335 := n2_; have HO1340 := n3_; have BK1309 := n4_; have BK1326 := n5_; have HB := n6_; have BK1343 := n7_; have GW1343 := n8_; have GE1343 := n9_; have NB1309_1343 := n10_; have NB1343_1309 := n11_; have NB1326_1343 := n12_; have NB1343_1326 := n13_; clear n0_ n1_ n2_ n3_ n4_ n5_ n6_ n7_ n8_ n9_ n10_ n11_ n12_ n13_; clear hb hbox hg; have hnb22 := NB1343_1309.out; have hnc22 := NB1309_1343.out; have hnb23 := NB1343_1326.out; have hnc23 := NB1326_1343.out; have hcz24_0 : w21.cell? ⟨gb1343, 0, none⟩ = some (.int .i64 0) := (kC BK1343.out 0).trans rfl; have hcz24_1 : w21.cell? ⟨gb1343, 1, none⟩ = some (.int .i64 0) := (kC BK1343.out 1).trans rfl; have hcz24_2 : w21.cell? ⟨gb1343, 2, none⟩ = some (.int .i64 0) := (kC BK1343.out 2).trans rfl; have hcz24_3 : w21.cell? ⟨gb1343, 3, none⟩ = some (.slice none 0 0) := (kC BK1343.out 3).trans rfl; have hcz24_4 : w21.cell? ⟨gb1343, 4, none⟩ = some (.int .i64 0) := (kC BK1343.out 4).trans rfl; have hcz24_5 : w21.cell? ⟨gb1343, 5, none⟩ = some (.int .i64 0) := (kC BK1343.out 5).trans rfl; have hcz24_6 : w21.cell? ⟨gb1343, 6, none⟩ = some (.slice none 0 0) := (kC BK1343.out 6).trans rfl; have hcz24_7 : w21.cell? ⟨gb1343, 7, none⟩ = some (.int .i64 0) := (kC BK1343.out 7).trans rfl; have hfz24_0 := kF BK1343.out 0; have hfz24_1 := kF BK1343.out 1; have hfz24_2 := kF BK1343.out 2; have hfz24_3 := kF BK1343.out 3; have hfz24_4 := kF BK1343.out 4; have hfz24_5 := kF BK1343.out 5; have hfz24_6 := kF BK1343.out 6; have hfz24_7 := kF BK1343.out 7; obtain ⟨Ao25, co25, eo25⟩ := Kd.R_slice HO1335.out; subst eo25; obtain ⟨Ao26, co26, eo26⟩ := Kd.R_slice HO1340.out; subst eo26))
 (try simp only [Act.put, sTA, sZ, sS])
 go_cut [39] (fun v39 wc => ∃ (kq : Nat) (x39_7 : Bool), v39 = .bool x39_7 ∧ Aside0 (laws_FnExactNewGarden.j0 kq a1 a2 t1325 x39_7 a0_0 a0_1 a0_2 t1313 t1314 t1315 t1316 t1319 t1320 t1321 t1324 t1330 t1331 t1332 t1333 t1336 t1337 t1338 t1341 = some true) ∧ Aside0 (kq ≤ k) ∧ Aside0 (Kd.R (Kd.int .i64) 3 wc w.heap.size (fun k_ => some k_ ≠ ((.slice Ao17 t1321.length co17) : Value).ownBlock ∧ some k_ ≠ ((.slice Ao25 t1333.length co25) : Value).ownBlock ∧ some k_ ≠ ((.slice Ao26 t1338.length co26) : Value).ownBlock) (.slice Ao16 t1316.length co16) t1316) ∧ Aside0 (Kd.R (Kd.int .i64) 3 wc w.heap.size (fun k_ => some k_ ≠ ((.slice Ao16 t1316.length co16) : Value).ownBlock ∧ some k_ ≠ ((.slice Ao25 t1333.length co25) : Value).ownBlock ∧ some k_ ≠ ((.slice Ao26 t1338.length co26) : Value).ownBlock) (.slice Ao17 t1321.length co17) t1321) ∧ Aside0 (Kd.R (Kd.int .i64) 3 wc w.heap.size (fun k_ => some k_ ≠ ((.slice Ao16 t1316.length co16) : Value).ownBlock ∧ some k_ ≠ ((.slice Ao17 t1321.length co17) : Value).ownBlock ∧ some k_ ≠ ((.slice Ao26 t1338.length co26) : Value).ownBlock) (.slice Ao25 t1333.length co25) t1333) ∧ Aside0 (Kd.R (Kd.int .i64) 3 wc w.heap.size (fun k_ => some k_ ≠ ((.slice Ao16 t1316.length co16) : Value).ownBlock ∧ some k_ ≠ ((.slice Ao17 t1321.length co17) : Value).ownBlock ∧ some k_ ≠ ((.slice Ao25 t1333.length co25) : Value).ownBlock) (.slice Ao26 t1338.length co26) t1338) ∧ Aside0 (wc.heap[gb1309]? = some (.cells #[.int .i64 a0_0, .int .i64 a0_1, .int .i64 a0_2] 57 (0, 0))) ∧ Aside0 (wc.heap[gb1326]? = some (.cells #[.int .i64 t1313, .int .i64 t1314, .int .i64 t1315, (.slice Ao16 t1316.length co16), .int .i64 t1319, .int .i64 t1320, (.slice Ao17 t1321.length co17), .int .i64 t1324] 84 (0, 0))) ∧ Aside0 (wc.heap[gb1343]? = some (.cells #[.int .i64 t1330, .int .i64 t1331, .int .i64 t1332, (.slice Ao25 t1333.length co25), .int .i64 t1336, .int .i64 t1337, (.slice Ao26 t1338.length co26), .int .i64 t1341] 84 (0, 0))) ∧ Aside0 (Below w.heap.size w wc))
 case first =>
  have H := HC8.out
  clear HC8
  replace H := Option.bind_eq_some_iff.mp H
  obtain ⟨t1344, A270, H⟩ := H
  replace H : (if t1344 = true then (laws_FnExactNewGarden.j0 k a1 a2 t1325 (t1342 != t1325) a0_0 a0_1 a0_2 t1313 t1314 t1315 t1316 t1319 t1320 t1321 t1324 t1330 t1331 t1332 t1333 t1336 t1337 t1338 t1341) else (laws_FnExactNewGarden.j0 k a1 a2 t1325 true a0_0 a0_1 a0_2 t1313 t1314 t1315 t1316 t1319 t1320 t1321 t1324 t1330 t1331 t1332 t1333 t1336 t1337 t1338 t1341)) = some true := H
  have A27 := aK A270
  clear A270
  by_cases c28 : t1344 = true
  ·subst c28
   have H1 : (laws_FnExactNewGarden.j0 k a1 a2 t1325 (t1342 != t1325) a0_0 a0_1 a0_2 t1313 t1314 t1315 t1316 t1319 t1320 t1321 t1324 t1330 t1331 t1332 t1333 t1336 t1337 t1338 t1341) = some true := by first | (rw [if_pos rfl] at H; exact H) | rfl
   clear H
   have H := H1
   clear H1
   have H' := aK H
   clear H
   have hnb29 := NB1343_1309.out
   have hnc29 := NB1309_1343.out
   have hnb30 := NB1343_1326.out
   have hnc30 := NB1326_1343.out
   have hcz31_0 : w21.cell? ⟨gb1343, 0, none⟩ = some (.int .i64 0) := (kC BK1343.out 0).trans rfl
   have hcz31_1 : w21.cell? ⟨gb1343, 1, none⟩ = some (.int .i64 0) := (kC BK1343.out 1).trans rfl
   have hcz31_2 : w21.cell? ⟨gb1343, 2, none⟩ = some (.int .i64 0) := (kC BK1343.out 2).trans rfl
   have hcz31_3 : w21.cell? ⟨gb1343, 3, none⟩ = some (.slice none 0 0) := (kC BK1343.out 3).trans rfl
   have hcz31_4 : w21.cell? ⟨gb1343, 4, none⟩ = some (.int .i64 0) := (kC BK1343.out 4).trans rfl
   have hcz31_5 : w21.cell? ⟨gb1343, 5, none⟩ = some (.int .i64 0) := (kC BK1343.out 5).trans rfl
   have hcz31_6 : w21.cell? ⟨gb1343, 6, none⟩ = some (.slice none 0 0) := (kC BK1343.out 6).trans rfl
   have hcz31_7 : w21.cell? ⟨gb1343, 7, none⟩ = some (.int .i64 0) := (kC BK1343.out 7).trans rfl
   have hfz31_0 := kF BK1343.out 0
   have hfz31_1 := kF BK1343.out 1
   have hfz31_2 := kF BK1343.out 2
   have hfz31_3 := kF BK1343.out 3
   have hfz31_4 := kF BK1343.out 4
   have hfz31_5 := kF BK1343.out 5
   have hfz31_6 := kF BK1343.out 6
   have hfz31_7 := kF BK1343.out 7
   have hnb32 := NB1326_1309.out
   have hnc32 := NB1309_1326.out
   have hcz33_0 : w21.cell? ⟨gb1326, 0, none⟩ = some (.int .i64 t1313) := (kC BK1326.out 0).trans rfl
   have hcz33_1 : w21.cell? ⟨gb1326, 1, none⟩ = some (.int .i64 t1314) := (kC BK1326.out 1).trans rfl
   have hcz33_2 : w21.cell? ⟨gb1326, 2, none⟩ = some (.int .i64 t1315) := (kC BK1326.out 2).trans rfl
   have hcz33_3 : w21.cell? ⟨gb1326, 3, none⟩ = some (.slice Ao16 t1316.length co16) := (kC BK1326.out 3).trans rfl
   have hcz33_4 : w21.cell? ⟨gb1326, 4, none⟩ = some (.int .i64 t1319) := (kC BK1326.out 4).trans rfl
   have hcz33_5 : w21.cell? ⟨gb1326, 5, none⟩ = some (.int .i64 t1320) := (kC BK1326.out 5).trans rfl
   have hcz33_6 : w21.cell? ⟨gb1326, 6, none⟩ = some (.slice Ao17 t1321.length co17) := (kC BK1326.out 6).trans rfl
   have hcz33_7 : w21.cell? ⟨gb1326, 7, none⟩ = some (.int .i64 t1324) := (kC BK1326.out 7).trans rfl
   have hfz33_0 := kF BK1326.out 0
   have hfz33_1 := kF BK1326.out 1
   have hfz33_2 := kF BK1326.out 2
   have hfz33_3 := kF BK1326.out 3
   have hfz33_4 := kF BK1326.out 4
   have hfz33_5 := kF BK1326.out 5
   have hfz33_6 := kF BK1326.out 6
   have hfz33_7 := kF BK1326.out 7
   go_wp2_with (first | ((with_reducible refine gate_callee (f := 48) rfl ?_); refine goesL_ (some 33) rfl rfl Try.func48 (by kernel_rfl) rfl #[.agg #[.int .i64 t1330, .int .i64 t1331, .int .i64 t1332, .slice Ao25 t1333.length co25, .int .i64 t1336, .int .i64 t1337, .slice Ao26 t1338.length co26, .int .i64 t1341], .agg #[.int .i64 t1313, .int .i64 t1314, .int .i64 t1315, .slice Ao16 t1316.length co16, .int .i64 t1319, .int .i64 t1320, .slice Ao17 t1321.length co17, .int .i64 t1324]] rfl (by (try simp only [List.map_toArray, List.map_cons, List.map_nil]); first | done | rfl | (simp only [List.length_drop, List.length_take]; rfl)) ?_; (with_reducible refine (laws_eqGarden.calls k t1330 t1331 t1332 _ _ t1333 t1336 t1337 _ _ t1338 t1341 t1313 t1314 t1315 _ _ t1316 t1319 t1320 _ _ t1321 t1324 true _ ?side1 ?side2 ?side3 ?side4 ?side5 ?side6 ?side7 ?side8 A27.out).mono ?_); (case side1 => refine (Kd.R_reads' (e := 3) (base := w.heap.size) (ok := fun k_ => ((some k_ ≠ (.slice Ao26 t1338.length co26 : Value).ownBlock ∧ some k_ ≠ (.slice Ao16 t1316.length co16 : Value).ownBlock) ∧ some k_ ≠ (.slice Ao17 t1321.length co17 : Value).ownBlock)) (n := t1333.length) (c := co25) ?_).2.2; exact (by (with_reducible repeat (first | apply Kd.R_alloc | apply Kd.R_drewN | apply Kd.R_drew)); exact (Kd.R_mono (Kd.R_far (p := ⟨gb1343, 7, none⟩) (Kd.R_far (p := ⟨gb1343, 6, none⟩) (Kd.R_far (p := ⟨gb1343, 5, none⟩) (Kd.R_far (p := ⟨gb1343, 4, none⟩) (Kd.R_far (p := ⟨gb1343, 3, none⟩) (Kd.R_far (p := ⟨gb1343, 2, none⟩) (Kd.R_far (p := ⟨gb1343, 1, none⟩) (Kd.R_far (p := ⟨gb1343, 0, none⟩) (Kd.R_types HO1335.out BK1343.out (by decide)) (fun _ hk => hk.2) (.int .i64 t1330)) (fun _ hk => hk.2) (.int .i64 t1331)) (fun _ hk => hk.2) (.int .i64 t1332)) (fun _ hk => hk.2) (.slice Ao25 t1333.length co25)) (fun _ hk => hk.2) (.int .i64 t1336)) (fun _ hk => hk.2) (.int .i64 t1337)) (fun _ hk => hk.2) (.slice Ao26 t1338.length co26)) (fun _ hk => hk.2) (.int .i64 t1341)) (fun _ h_ => h_.1)))); (case side2 => exact (Kd.R_reads' HO1335.out).2.1); (case side3 => refine (Kd.R_reads' (e := 3) (base := w.heap.size) (ok := fun k_ => ((some k_ ≠ (.slice Ao25 t1333.length co25 : Value).ownBlock ∧ some k_ ≠ (.slice Ao16 t1316.length co16 : Value).ownBlock) ∧ some k_ ≠ (.slice Ao17 t1321.length co17 : Value).ownBlock)) (n := t1338.length) (c := co26) ?_).2.2; exact (by (with_reducible repeat (first | apply Kd.R_alloc | apply Kd.R_drewN | apply Kd.R_drew)); exact (Kd.R_mono (Kd.R_far (p := ⟨gb1343, 7, none⟩) (Kd.R_far (p := ⟨gb1343, 6, none⟩) (Kd.R_far (p := ⟨gb1343, 5, none⟩) (Kd.R_far (p := ⟨gb1343, 4, none⟩) (Kd.R_far (p := ⟨gb1343, 3, none⟩) (Kd.R_far (p := ⟨gb1343, 2, none⟩) (Kd.R_far (p := ⟨gb1343, 1, none⟩) (Kd.R_far (p := ⟨gb1343, 0, none⟩) (Kd.R_types HO1340.out BK1343.out (by decide)) (fun _ hk => hk.2) (.int .i64 t1330)) (fun _ hk => hk.2) (.int .i64 t1331)) (fun _ hk => hk.2) (.int .i64 t1332)) (fun _ hk => hk.2) (.slice Ao25 t1333.length co25)) (fun _ hk => hk.2) (.int .i64 t1336)) (fun _ hk => hk.2) (.int .i64 t1337)) (fun _ hk => hk.2) (.slice Ao26 t1338.length co26)) (fun _ hk => hk.2) (.int .i64 t1341)) (fun _ h_ => h_.1)))); (case side4 => exact (Kd.R_reads' HO1340.out).2.1); (case side5 => refine (Kd.R_reads' (e := 3) (base := w.heap.size) (ok := fun k_ => ((some k_ ≠ (.slice Ao17 t1321.length co17 : Value).ownBlock ∧ some k_ ≠ (.slice Ao25 t1333.length co25 : Value).ownBlock) ∧ some k_ ≠ (.slice Ao26 t1338.length co26 : Value).ownBlock)) (n := t1316.length) (c := co16) ?_).2.2; exact (by (with_reducible repeat (first | apply Kd.R_alloc | apply Kd.R_drewN | apply Kd.R_drew)); exact (Kd.R_mono (Kd.R_far (p := ⟨gb1343, 7, none⟩) (Kd.R_far (p := ⟨gb1343, 6, none⟩) (Kd.R_far (p := ⟨gb1343, 5, none⟩) (Kd.R_far (p := ⟨gb1343, 4, none⟩) (Kd.R_far (p := ⟨gb1343, 3, none⟩) (Kd.R_far (p := ⟨gb1343, 2, none⟩) (Kd.R_far (p := ⟨gb1343, 1, none⟩) (Kd.R_far (p := ⟨gb1343, 0, none⟩) (Kd.R_types HO1318.out BK1343.out (by decide)) (fun _ hk => hk.2) (.int .i64 t1330)) (fun _ hk => hk.2) (.int .i64 t1331)) (fun _ hk => hk.2) (.int .i64 t1332)) (fun _ hk => hk.2) (.slice Ao25 t1333.length co25)) (fun _ hk => hk.2) (.int .i64 t1336)) (fun _ hk => hk.2) (.int .i64 t1337)) (fun _ hk => hk.2) (.slice Ao26 t1338.length co26)) (fun _ hk => hk.2) (.int .i64 t1341)) (fun _ h_ => h_.1)))); (case side6 => exact (Kd.R_reads' HO1318.out).2.1); (case side7 => refine (Kd.R_reads' (e := 3) (base := w.heap.size) (ok := fun k_ => ((some k_ ≠ (.slice Ao16 t1316.length co16 : Value).ownBlock ∧ some k_ ≠ (.slice Ao25 t1333.length co25 : Value).ownBlock) ∧ some k_ ≠ (.slice Ao26 t1338.length co26 : Value).ownBlock)) (n := t1321.length) (c := co17) ?_).2.2; exact (by (with_reducible repeat (first | apply Kd.R_alloc | apply Kd.R_drewN | apply Kd.R_drew)); exact (Kd.R_mono (Kd.R_far (p := ⟨gb1343, 7, none⟩) (Kd.R_far (p := ⟨gb1343, 6, none⟩) (Kd.R_far (p := ⟨gb1343, 5, none⟩) (Kd.R_far (p := ⟨gb1343, 4, none⟩) (Kd.R_far (p := ⟨gb1343, 3, none⟩) (Kd.R_far (p := ⟨gb1343, 2, none⟩) (Kd.R_far (p := ⟨gb1343, 1, none⟩) (Kd.R_far (p := ⟨gb1343, 0, none⟩) (Kd.R_types HO1323.out BK1343.out (by decide)) (fun _ hk => hk.2) (.int .i64 t1330)) (fun _ hk => hk.2) (.int .i64 t1331)) (fun _ hk => hk.2) (.int .i64 t1332)) (fun _ hk => hk.2) (.slice Ao25 t1333.length co25)) (fun _ hk => hk.2) (.int .i64 t1336)) (fun _ hk => hk.2) (.int .i64 t1337)) (fun _ hk => hk.2) (.slice Ao26 t1338.length co26)) (fun _ hk => hk.2) (.int .i64 t1341)) (fun _ h_ => h_.1)))); (case side8 => exact (Kd.R_reads' HO1323.out).2.1); rintro e w34 ⟨rfl, hb⟩; refine ⟨_, rfl, ?_⟩; have n0_ := aK (Kd.R_below (by (with_reducible repeat (first | apply Kd.R_alloc | apply Kd.R_drewN | apply Kd.R_drew)); exact (Kd.R_mono (Kd.R_far (p := ⟨gb1343, 7, none⟩) (Kd.R_far (p := ⟨gb1343, 6, none⟩) (Kd.R_far (p := ⟨gb1343, 5, none⟩) (Kd.R_far (p := ⟨gb1343, 4, none⟩) (Kd.R_far (p := ⟨gb1343, 3, none⟩) (Kd.R_far (p := ⟨gb1343, 2, none⟩) (Kd.R_far (p := ⟨gb1343, 1, none⟩) (Kd.R_far (p := ⟨gb1343, 0, none⟩) (Kd.R_types HO1318.out BK1343.out (by decide)) (fun _ hk => hk.2) (.int .i64 t1330)) (fun _ hk => hk.2) (.int .i64 t1331)) (fun _ hk => hk.2) (.int .i64 t1332)) (fun _ hk => hk.2) (.slice Ao25 t1333.length co25)) (fun _ hk => hk.2) (.int .i64 t1336)) (fun _ hk => hk.2) (.int .i64 t1337)) (fun _ hk => hk.2) (.slice Ao26 t1338.length co26)) (fun _ hk => hk.2) (.int .i64 t1341)) (fun _ h_ => h_.1))) hb); have n1_ := aK (Kd.R_below (by (with_reducible repeat (first | apply Kd.R_alloc | apply Kd.R_drewN | apply Kd.R_drew)); exact (Kd.R_mono (Kd.R_far (p := ⟨gb1343, 7, none⟩) (Kd.R_far (p := ⟨gb1343, 6, none⟩) (Kd.R_far (p := ⟨gb1343, 5, none⟩) (Kd.R_far (p := ⟨gb1343, 4, none⟩) (Kd.R_far (p := ⟨gb1343, 3, none⟩) (Kd.R_far (p := ⟨gb1343, 2, none⟩) (Kd.R_far (p := ⟨gb1343, 1, none⟩) (Kd.R_far (p := ⟨gb1343, 0, none⟩) (Kd.R_types HO1323.out BK1343.out (by decide)) (fun _ hk => hk.2) (.int .i64 t1330)) (fun _ hk => hk.2) (.int .i64 t1331)) (fun _ hk => hk.2) (.int .i64 t1332)) (fun _ hk => hk.2) (.slice Ao25 t1333.length co25)) (fun _ hk => hk.2) (.int .i64 t1336)) (fun _ hk => hk.2) (.int .i64 t1337)) (fun _ hk => hk.2) (.slice Ao26 t1338.length co26)) (fun _ hk => hk.2) (.int .i64 t1341)) (fun _ h_ => h_.1))) hb); have n2_ := aK (Kd.R_below (by (with_reducible repeat (first | apply Kd.R_alloc | apply Kd.R_drewN | apply Kd.R_drew)); exact (Kd.R_mono (Kd.R_far (p := ⟨gb1343, 7, none⟩) (Kd.R_far (p := ⟨gb1343, 6, none⟩) (Kd.R_far (p := ⟨gb1343, 5, none⟩) (Kd.R_far (p := ⟨gb1343, 4, none⟩) (Kd.R_far (p := ⟨gb1343, 3, none⟩) (Kd.R_far (p := ⟨gb1343, 2, none⟩) (Kd.R_far (p := ⟨gb1343, 1, none⟩) (Kd.R_far (p := ⟨gb1343, 0, none⟩) (Kd.R_types HO1335.out BK1343.out (by decide)) (fun _ hk => hk.2) (.int .i64 t1330)) (fun _ hk => hk.2) (.int .i64 t1331)) (fun _ hk => hk.2) (.int .i64 t1332)) (fun _ hk => hk.2) (.slice Ao25 t1333.length co25)) (fun _ hk => hk.2) (.int .i64 t1336)) (fun _ hk => hk.2) (.int .i64 t1337)) (fun _ hk => hk.2) (.slice Ao26 t1338.length co26)) (fun _ hk => hk.2) (.int .i64 t1341)) (fun _ h_ => h_.1))) hb); have n3_ := aK (Kd.R_below (by (with_reducible repeat (first | apply Kd.R_alloc | apply Kd.R_drewN | apply Kd.R_drew)); exact (Kd.R_mono (Kd.R_far (p := ⟨gb1343, 7, none⟩) (Kd.R_far (p := ⟨gb1343, 6, none⟩) (Kd.R_far (p := ⟨gb1343, 5, none⟩) (Kd.R_far (p := ⟨gb1343, 4, none⟩) (Kd.R_far (p := ⟨gb1343, 3, none⟩) (Kd.R_far (p := ⟨gb1343, 2, none⟩) (Kd.R_far (p := ⟨gb1343, 1, none⟩) (Kd.R_far (p := ⟨gb1343, 0, none⟩) (Kd.R_types HO1340.out BK1343.out (by decide)) (fun _ hk => hk.2) (.int .i64 t1330)) (fun _ hk => hk.2) (.int .i64 t1331)) (fun _ hk => hk.2) (.int .i64 t1332)) (fun _ hk => hk.2) (.slice Ao25 t1333.length co25)) (fun _ hk => hk.2) (.int .i64 t1336)) (fun _ hk => hk.2) (.int .i64 t1337)) (fun _ hk => hk.2) (.slice Ao26 t1338.length co26)) (fun _ hk => hk.2) (.int .i64 t1341)) (fun _ h_ => h_.1))) hb); have n4_ := bkb BK1309 hb (by intro z_; (with_reducible repeat (first | refine blk_drewN ?_ _ | refine kD ?_ | refine kA ?_ _)); refine blk_far ?_ NB1309_1343.out _; (with_reducible repeat (first | refine blk_drewN ?_ _ | refine kD ?_ | refine kA ?_ _)); refine blk_far ?_ NB1309_1343.out _; (with_reducible repeat (first | refine blk_drewN ?_ _ | refine kD ?_ | refine kA ?_ _)); refine blk_far ?_ NB1309_1343.out _; (with_reducible repeat (first | refine blk_drewN ?_ _ | refine kD ?_ | refine kA ?_ _)); refine blk_far ?_ NB1309_1343.out _; (with_reducible repeat (first | refine blk_drewN ?_ _ | refine kD ?_ | refine kA ?_ _)); refine blk_far ?_ NB1309_1343.out _; (with_reducible repeat (first | refine blk_drewN ?_ _ | refine kD ?_ | refine kA ?_ _)); refine blk_far ?_ NB1309_1343.out _; (with_reducible repeat (first | refine blk_drewN ?_ _ | refine kD ?_ | refine kA ?_ _)); refine blk_far ?_ NB1309_1343.out _; (with_reducible repeat (first | refine blk_drewN ?_ _ | refine kD ?_ | refine kA ?_ _)); refine blk_far ?_ NB1309_1343.out _; (with_reducible repeat (first | refine blk_drewN ?_ _ | refine kD ?_ | refine kA ?_ _)); exact z_); have n5_ := bkb BK1326 hb (by intro z_; (with_reducible repeat (first | refine blk_drewN ?_ _ | refine kD ?_ | refine kA ?_ _)); refine blk_far ?_ NB1326_1343.out _; (with_reducible repeat (first | refine blk_drewN ?_ _ | refine kD ?_ | refine kA ?_ _)); refine blk_far ?_ NB1326_1343.out _; (with_reducible repeat (first | refine blk_drewN ?_ _ | refine kD ?_ | refine kA ?_ _)); refine blk_far ?_ NB1326_1343.out _; (with_reducible repeat (first | refine blk_drewN ?_ _ | refine kD ?_ | refine kA ?_ _)); refine blk_far ?_ NB1326_1343.out _; (with_reducible repeat (first | refine blk_drewN ?_ _ | refine kD ?_ | refine kA ?_ _)); refine blk_far ?_ NB1326_1343.out _; (with_reducible repeat (first | refine blk_drewN ?_ _ | refine kD ?_ | refine kA ?_ _)); refine blk_far ?_ NB1326_1343.out _; (with_reducible repeat (first | refine blk_drewN ?_ _ | refine kD ?_ | refine kA ?_ _)); refine blk_far ?_ NB1326_1343.out _; (with_reducible repeat (first | refine blk_drewN ?_ _ | refine kD ?_ | refine kA ?_ _)); refine blk_far ?_ NB1326_1343.out _; (with_reducible repeat (first | refine blk_drewN ?_ _ | refine kD ?_ | refine kA ?_ _)); exact z_); have n6_ := aK (blk_below (g := gb1343) (o := .cells #[.int .i64 t1330, .int .i64 t1331, .int .i64 t1332, .slice Ao25 t1333.length co25, .int .i64 t1336, .int .i64 t1337, .slice Ao26 t1338.length co26, .int .i64 t1341] 84 (0, 0)) (by (with_reducible repeat (first | refine blk_drewN ?_ _ | refine kD ?_ | refine kA ?_ _)); refine blk_put (cs := #[.int .i64 t1330, .int .i64 t1331, .int .i64 t1332, .slice Ao25 t1333.length co25, .int .i64 t1336, .int .i64 t1337, .slice Ao26 t1338.length co26, .int .i64 0]) ?_ 7 _ rfl; (with_reducible repeat (first | refine blk_drewN ?_ _ | refine kD ?_ | refine kA ?_ _)); refine blk_put (cs := #[.int .i64 t1330, .int .i64 t1331, .int .i64 t1332, .slice Ao25 t1333.length co25, .int .i64 t1336, .int .i64 t1337, .slice none 0 0, .int .i64 0]) ?_ 6 _ rfl; (with_reducible repeat (first | refine blk_drewN ?_ _ | refine kD ?_ | refine kA ?_ _)); refine blk_put (cs := #[.int .i64 t1330, .int .i64 t1331, .int .i64 t1332, .slice Ao25 t1333.length co25, .int .i64 t1336, .int .i64 0, .slice none 0 0, .int .i64 0]) ?_ 5 _ rfl; (with_reducible repeat (first | refine blk_drewN ?_ _ | refine kD ?_ | refine kA ?_ _)); refine blk_put (cs := #[.int .i64 t1330, .int .i64 t1331, .int .i64 t1332, .slice Ao25 t1333.length co25, .int .i64 0, .int .i64 0, .slice none 0 0, .int .i64 0]) ?_ 4 _ rfl; (with_reducible repeat (first | refine blk_drewN ?_ _ | refine kD ?_ | refine kA ?_ _)); refine blk_put (cs := #[.int .i64 t1330, .int .i64 t1331, .int .i64 t1332, .slice none 0 0, .int .i64 0, .int .i64 0, .slice none 0 0, .int .i64 0]) ?_ 3 _ rfl; (with_reducible repeat (first | refine blk_drewN ?_ _ | refine kD ?_ | refine kA ?_ _)); refine blk_put (cs := #[.int .i64 t1330, .int .i64 t1331, .int .i64 0, .slice none 0 0, .int .i64 0, .int .i64 0, .slice none 0 0, .int .i64 0]) ?_ 2 _ rfl; (with_reducible repeat (first | refine blk_drewN ?_ _ | refine kD ?_ | refine kA ?_ _)); refine blk_put (cs := #[.int .i64 t1330, .int .i64 0, .int .i64 0, .slice none 0 0, .int .i64 0, .int .i64 0, .slice none 0 0, .int .i64 0]) ?_ 1 _ rfl; (with_reducible repeat (first | refine blk_drewN ?_ _ | refine kD ?_ | refine kA ?_ _)); refine blk_put (cs := #[.int .i64 0, .int .i64 0, .int .i64 0, .slice none 0 0, .int .i64 0, .int .i64 0, .slice none 0 0, .int .i64 0]) ?_ 0 _ rfl; (with_reducible repeat (first | refine blk_drewN ?_ _ | refine kD ?_ | refine kA ?_ _)); exact BK1343.out) hb); have n7_ := aK (bSp (by repeat (first | (with_reducible first | exact HB.out | apply bAl | apply bDN | apply bD1 | refine bSt ?_ GE1309.out | refine bSt ?_ GE1326.out | refine bSt ?_ GE1343.out) | exact HB.out)) hb); clear HO1318; clear HO1323; clear HO1335; clear HO1340; clear BK1309; clear BK1326; clear BK1343; clear HB; have HO1318 := n0_; have HO1323 := n1_; have HO1335 := n2_; have HO1340 := n3_; have BK1309 := n4_; have BK1326 := n5_; have BK1343 := n6_; have HB := n7_; clear n0_ n1_ n2_ n3_ n4_ n5_ n6_ n7_; (try clear hb); (try clear hb2); (try clear hk); (try clear hi)))
   go_meet
   case rel => exact ⟨_, ((t1342 != t1325)), (by first | rfl | (simp; done) | (simp [*]; done)), H', ⟨by first | omega | exact Nat.le_refl _⟩, ⟨by (with_reducible repeat (first | apply Kd.R_alloc | apply Kd.R_drewN | apply Kd.R_drew)); exact Kd.R_mono HO1318.out (fun _ hk => ⟨hk.1.1, ⟨hk.1.2, hk.2⟩⟩)⟩, ⟨by (with_reducible repeat (first | apply Kd.R_alloc | apply Kd.R_drewN | apply Kd.R_drew)); exact Kd.R_mono HO1323.out (fun _ hk => ⟨hk.1.1, ⟨hk.1.2, hk.2⟩⟩)⟩, ⟨by (with_reducible repeat (first | apply Kd.R_alloc | apply Kd.R_drewN | apply Kd.R_drew)); exact Kd.R_mono HO1335.out (fun _ hk => ⟨hk.1.2, ⟨hk.2, hk.1.1⟩⟩)⟩, ⟨by (with_reducible repeat (first | apply Kd.R_alloc | apply Kd.R_drewN | apply Kd.R_drew)); exact Kd.R_mono HO1340.out (fun _ hk => ⟨hk.1.2, ⟨hk.2, hk.1.1⟩⟩)⟩, ⟨by (with_reducible repeat (first | refine blk_drewN ?_ _ | refine kD ?_ | refine kA ?_ _)); exact BK1309.out⟩, ⟨by (with_reducible repeat (first | refine blk_drewN ?_ _ | refine kD ?_ | refine kA ?_ _)); exact BK1326.out⟩, ⟨by (with_reducible repeat (first | refine blk_drewN ?_ _ | refine kD ?_ | refine kA ?_ _)); exact BK1343.out⟩, ⟨by repeat (first | (with_reducible first | exact HB.out | apply bAl | apply bDN | apply bD1 | refine bSt ?_ GE1309.out | refine bSt ?_ GE1326.out | refine bSt ?_ GE1343.out) | exact HB.out)⟩⟩
  ·replace c28 := Bool.eq_false_iff.mpr c28
   subst c28
   have H1 : (laws_FnExactNewGarden.j0 k a1 a2 t1325 true a0_0 a0_1 a0_2 t1313 t1314 t1315 t1316 t1319 t1320 t1321 t1324 t1330 t1331 t1332 t1333 t1336 t1337 t1338 t1341) = some true := by rw [if_neg (show ¬ (false = true) by decide)] at H; exact H
   clear H
   have H := H1
   clear H1
   have H' := aK H
   clear H
   have hnb35 := NB1343_1309.out
   have hnc35 := NB1309_1343.out
   have hnb36 := NB1343_1326.out
   have hnc36 := NB1326_1343.out
   have hcz37_0 : w21.cell? ⟨gb1343, 0, none⟩ = some (.int .i64 0) := (kC BK1343.out 0).trans rfl
   have hcz37_1 : w21.cell? ⟨gb1343, 1, none⟩ = some (.int .i64 0) := (kC BK1343.out 1).trans rfl
   have hcz37_2 : w21.cell? ⟨gb1343, 2, none⟩ = some (.int .i64 0) := (kC BK1343.out 2).trans rfl
   have hcz37_3 : w21.cell? ⟨gb1343, 3, none⟩ = some (.slice none 0 0) := (kC BK1343.out 3).trans rfl
   have hcz37_4 : w21.cell? ⟨gb1343, 4, none⟩ = some (.int .i64 0) := (kC BK1343.out 4).trans rfl
   have hcz37_5 : w21.cell? ⟨gb1343, 5, none⟩ = some (.int .i64 0) := (kC BK1343.out 5).trans rfl
   have hcz37_6 : w21.cell? ⟨gb1343, 6, none⟩ = some (.slice none 0 0) := (kC BK1343.out 6).trans rfl
   have hcz37_7 : w21.cell? ⟨gb1343, 7, none⟩ = some (.int .i64 0) := (kC BK1343.out 7).trans rfl
   have hfz37_0 := kF BK1343.out 0
   have hfz37_1 := kF BK1343.out 1
   have hfz37_2 := kF BK1343.out 2
   have hfz37_3 := kF BK1343.out 3
   have hfz37_4 := kF BK1343.out 4
   have hfz37_5 := kF BK1343.out 5
   have hfz37_6 := kF BK1343.out 6
   have hfz37_7 := kF BK1343.out 7
   have hnb38 := NB1326_1309.out
   have hnc38 := NB1309_1326.out
   have hcz39_0 : w21.cell? ⟨gb1326, 0, none⟩ = some (.int .i64 t1313) := (kC BK1326.out 0).trans rfl
   have hcz39_1 : w21.cell? ⟨gb1326, 1, none⟩ = some (.int .i64 t1314) := (kC BK1326.out 1).trans rfl
   have hcz39_2 : w21.cell? ⟨gb1326, 2, none⟩ = some (.int .i64 t1315) := (kC BK1326.out 2).trans rfl
   have hcz39_3 : w21.cell? ⟨gb1326, 3, none⟩ = some (.slice Ao16 t1316.length co16) := (kC BK1326.out 3).trans rfl
   have hcz39_4 : w21.cell? ⟨gb1326, 4, none⟩ = some (.int .i64 t1319) := (kC BK1326.out 4).trans rfl
   have hcz39_5 : w21.cell? ⟨gb1326, 5, none⟩ = some (.int .i64 t1320) := (kC BK1326.out 5).trans rfl
   have hcz39_6 : w21.cell? ⟨gb1326, 6, none⟩ = some (.slice Ao17 t1321.length co17) := (kC BK1326.out 6).trans rfl
   have hcz39_7 : w21.cell? ⟨gb1326, 7, none⟩ = some (.int .i64 t1324) := (kC BK1326.out 7).trans rfl
   have hfz39_0 := kF BK1326.out 0
   have hfz39_1 := kF BK1326.out 1
   have hfz39_2 := kF BK1326.out 2
   have hfz39_3 := kF BK1326.out 3
   have hfz39_4 := kF BK1326.out 4
   have hfz39_5 := kF BK1326.out 5
   have hfz39_6 := kF BK1326.out 6
   have hfz39_7 := kF BK1326.out 7
   go_wp2_with (first | ((with_reducible refine gate_callee (f := 48) rfl ?_); refine goesL_ (some 33) rfl rfl Try.func48 (by kernel_rfl) rfl #[.agg #[.int .i64 t1330, .int .i64 t1331, .int .i64 t1332, .slice Ao25 t1333.length co25, .int .i64 t1336, .int .i64 t1337, .slice Ao26 t1338.length co26, .int .i64 t1341], .agg #[.int .i64 t1313, .int .i64 t1314, .int .i64 t1315, .slice Ao16 t1316.length co16, .int .i64 t1319, .int .i64 t1320, .slice Ao17 t1321.length co17, .int .i64 t1324]] rfl (by (try simp only [List.map_toArray, List.map_cons, List.map_nil]); first | done | rfl | (simp only [List.length_drop, List.length_take]; rfl)) ?_; (with_reducible refine (laws_eqGarden.calls k t1330 t1331 t1332 _ _ t1333 t1336 t1337 _ _ t1338 t1341 t1313 t1314 t1315 _ _ t1316 t1319 t1320 _ _ t1321 t1324 false _ ?side1 ?side2 ?side3 ?side4 ?side5 ?side6 ?side7 ?side8 A27.out).mono ?_); (case side1 => refine (Kd.R_reads' (e := 3) (base := w.heap.size) (ok := fun k_ => ((some k_ ≠ (.slice Ao26 t1338.length co26 : Value).ownBlock ∧ some k_ ≠ (.slice Ao16 t1316.length co16 : Value).ownBlock) ∧ some k_ ≠ (.slice Ao17 t1321.length co17 : Value).ownBlock)) (n := t1333.length) (c := co25) ?_).2.2; exact (by (with_reducible repeat (first | apply Kd.R_alloc | apply Kd.R_drewN | apply Kd.R_drew)); exact (Kd.R_mono (Kd.R_far (p := ⟨gb1343, 7, none⟩) (Kd.R_far (p := ⟨gb1343, 6, none⟩) (Kd.R_far (p := ⟨gb1343, 5, none⟩) (Kd.R_far (p := ⟨gb1343, 4, none⟩) (Kd.R_far (p := ⟨gb1343, 3, none⟩) (Kd.R_far (p := ⟨gb1343, 2, none⟩) (Kd.R_far (p := ⟨gb1343, 1, none⟩) (Kd.R_far (p := ⟨gb1343, 0, none⟩) (Kd.R_types HO1335.out BK1343.out (by decide)) (fun _ hk => hk.2) (.int .i64 t1330)) (fun _ hk => hk.2) (.int .i64 t1331)) (fun _ hk => hk.2) (.int .i64 t1332)) (fun _ hk => hk.2) (.slice Ao25 t1333.length co25)) (fun _ hk => hk.2) (.int .i64 t1336)) (fun _ hk => hk.2) (.int .i64 t1337)) (fun _ hk => hk.2) (.slice Ao26 t1338.length co26)) (fun _ hk => hk.2) (.int .i64 t1341)) (fun _ h_ => h_.1)))); (case side2 => exact (Kd.R_reads' HO1335.out).2.1); (case side3 => refine (Kd.R_reads' (e := 3) (base := w.heap.size) (ok := fun k_ => ((some k_ ≠ (.slice Ao25 t1333.length co25 : Value).ownBlock ∧ some k_ ≠ (.slice Ao16 t1316.length co16 : Value).ownBlock) ∧ some k_ ≠ (.slice Ao17 t1321.length co17 : Value).ownBlock)) (n := t1338.length) (c := co26) ?_).2.2; exact (by (with_reducible repeat (first | apply Kd.R_alloc | apply Kd.R_drewN | apply Kd.R_drew)); exact (Kd.R_mono (Kd.R_far (p := ⟨gb1343, 7, none⟩) (Kd.R_far (p := ⟨gb1343, 6, none⟩) (Kd.R_far (p := ⟨gb1343, 5, none⟩) (Kd.R_far (p := ⟨gb1343, 4, none⟩) (Kd.R_far (p := ⟨gb1343, 3, none⟩) (Kd.R_far (p := ⟨gb1343, 2, none⟩) (Kd.R_far (p := ⟨gb1343, 1, none⟩) (Kd.R_far (p := ⟨gb1343, 0, none⟩) (Kd.R_types HO1340.out BK1343.out (by decide)) (fun _ hk => hk.2) (.int .i64 t1330)) (fun _ hk => hk.2) (.int .i64 t1331)) (fun _ hk => hk.2) (.int .i64 t1332)) (fun _ hk => hk.2) (.slice Ao25 t1333.length co25)) (fun _ hk => hk.2) (.int .i64 t1336)) (fun _ hk => hk.2) (.int .i64 t1337)) (fun _ hk => hk.2) (.slice Ao26 t1338.length co26)) (fun _ hk => hk.2) (.int .i64 t1341)) (fun _ h_ => h_.1)))); (case side4 => exact (Kd.R_reads' HO1340.out).2.1); (case side5 => refine (Kd.R_reads' (e := 3) (base := w.heap.size) (ok := fun k_ => ((some k_ ≠ (.slice Ao17 t1321.length co17 : Value).ownBlock ∧ some k_ ≠ (.slice Ao25 t1333.length co25 : Value).ownBlock) ∧ some k_ ≠ (.slice Ao26 t1338.length co26 : Value).ownBlock)) (n := t1316.length) (c := co16) ?_).2.2; exact (by (with_reducible repeat (first | apply Kd.R_alloc | apply Kd.R_drewN | apply Kd.R_drew)); exact (Kd.R_mono (Kd.R_far (p := ⟨gb1343, 7, none⟩) (Kd.R_far (p := ⟨gb1343, 6, none⟩) (Kd.R_far (p := ⟨gb1343, 5, none⟩) (Kd.R_far (p := ⟨gb1343, 4, none⟩) (Kd.R_far (p := ⟨gb1343, 3, none⟩) (Kd.R_far (p := ⟨gb1343, 2, none⟩) (Kd.R_far (p := ⟨gb1343, 1, none⟩) (Kd.R_far (p := ⟨gb1343, 0, none⟩) (Kd.R_types HO1318.out BK1343.out (by decide)) (fun _ hk => hk.2) (.int .i64 t1330)) (fun _ hk => hk.2) (.int .i64 t1331)) (fun _ hk => hk.2) (.int .i64 t1332)) (fun _ hk => hk.2) (.slice Ao25 t1333.length co25)) (fun _ hk => hk.2) (.int .i64 t1336)) (fun _ hk => hk.2) (.int .i64 t1337)) (fun _ hk => hk.2) (.slice Ao26 t1338.length co26)) (fun _ hk => hk.2) (.int .i64 t1341)) (fun _ h_ => h_.1)))); (case side6 => exact (Kd.R_reads' HO1318.out).2.1); (case side7 => refine (Kd.R_reads' (e := 3) (base := w.heap.size) (ok := fun k_ => ((some k_ ≠ (.slice Ao16 t1316.length co16 : Value).ownBlock ∧ some k_ ≠ (.slice Ao25 t1333.length co25 : Value).ownBlock) ∧ some k_ ≠ (.slice Ao26 t1338.length co26 : Value).ownBlock)) (n := t1321.length) (c := co17) ?_).2.2; exact (by (with_reducible repeat (first | apply Kd.R_alloc | apply Kd.R_drewN | apply Kd.R_drew)); exact (Kd.R_mono (Kd.R_far (p := ⟨gb1343, 7, none⟩) (Kd.R_far (p := ⟨gb1343, 6, none⟩) (Kd.R_far (p := ⟨gb1343, 5, none⟩) (Kd.R_far (p := ⟨gb1343, 4, none⟩) (Kd.R_far (p := ⟨gb1343, 3, none⟩) (Kd.R_far (p := ⟨gb1343, 2, none⟩) (Kd.R_far (p := ⟨gb1343, 1, none⟩) (Kd.R_far (p := ⟨gb1343, 0, none⟩) (Kd.R_types HO1323.out BK1343.out (by decide)) (fun _ hk => hk.2) (.int .i64 t1330)) (fun _ hk => hk.2) (.int .i64 t1331)) (fun _ hk => hk.2) (.int .i64 t1332)) (fun _ hk => hk.2) (.slice Ao25 t1333.length co25)) (fun _ hk => hk.2) (.int .i64 t1336)) (fun _ hk => hk.2) (.int .i64 t1337)) (fun _ hk => hk.2) (.slice Ao26 t1338.length co26)) (fun _ hk => hk.2) (.int .i64 t1341)) (fun _ h_ => h_.1)))); (case side8 => exact (Kd.R_reads' HO1323.out).2.1); rintro e w40 ⟨rfl, hb⟩; refine ⟨_, rfl, ?_⟩; have n0_ := aK (Kd.R_below (by (with_reducible repeat (first | apply Kd.R_alloc | apply Kd.R_drewN | apply Kd.R_drew)); exact (Kd.R_mono (Kd.R_far (p := ⟨gb1343, 7, none⟩) (Kd.R_far (p := ⟨gb1343, 6, none⟩) (Kd.R_far (p := ⟨gb1343, 5, none⟩) (Kd.R_far (p := ⟨gb1343, 4, none⟩) (Kd.R_far (p := ⟨gb1343, 3, none⟩) (Kd.R_far (p := ⟨gb1343, 2, none⟩) (Kd.R_far (p := ⟨gb1343, 1, none⟩) (Kd.R_far (p := ⟨gb1343, 0, none⟩) (Kd.R_types HO1318.out BK1343.out (by decide)) (fun _ hk => hk.2) (.int .i64 t1330)) (fun _ hk => hk.2) (.int .i64 t1331)) (fun _ hk => hk.2) (.int .i64 t1332)) (fun _ hk => hk.2) (.slice Ao25 t1333.length co25)) (fun _ hk => hk.2) (.int .i64 t1336)) (fun _ hk => hk.2) (.int .i64 t1337)) (fun _ hk => hk.2) (.slice Ao26 t1338.length co26)) (fun _ hk => hk.2) (.int .i64 t1341)) (fun _ h_ => h_.1))) hb); have n1_ := aK (Kd.R_below (by (with_reducible repeat (first | apply Kd.R_alloc | apply Kd.R_drewN | apply Kd.R_drew)); exact (Kd.R_mono (Kd.R_far (p := ⟨gb1343, 7, none⟩) (Kd.R_far (p := ⟨gb1343, 6, none⟩) (Kd.R_far (p := ⟨gb1343, 5, none⟩) (Kd.R_far (p := ⟨gb1343, 4, none⟩) (Kd.R_far (p := ⟨gb1343, 3, none⟩) (Kd.R_far (p := ⟨gb1343, 2, none⟩) (Kd.R_far (p := ⟨gb1343, 1, none⟩) (Kd.R_far (p := ⟨gb1343, 0, none⟩) (Kd.R_types HO1323.out BK1343.out (by decide)) (fun _ hk => hk.2) (.int .i64 t1330)) (fun _ hk => hk.2) (.int .i64 t1331)) (fun _ hk => hk.2) (.int .i64 t1332)) (fun _ hk => hk.2) (.slice Ao25 t1333.length co25)) (fun _ hk => hk.2) (.int .i64 t1336)) (fun _ hk => hk.2) (.int .i64 t1337)) (fun _ hk => hk.2) (.slice Ao26 t1338.length co26)) (fun _ hk => hk.2) (.int .i64 t1341)) (fun _ h_ => h_.1))) hb); have n2_ := aK (Kd.R_below (by (with_reducible repeat (first | apply Kd.R_alloc | apply Kd.R_drewN | apply Kd.R_drew)); exact (Kd.R_mono (Kd.R_far (p := ⟨gb1343, 7, none⟩) (Kd.R_far (p := ⟨gb1343, 6, none⟩) (Kd.R_far (p := ⟨gb1343, 5, none⟩) (Kd.R_far (p := ⟨gb1343, 4, none⟩) (Kd.R_far (p := ⟨gb1343, 3, none⟩) (Kd.R_far (p := ⟨gb1343, 2, none⟩) (Kd.R_far (p := ⟨gb1343, 1, none⟩) (Kd.R_far (p := ⟨gb1343, 0, none⟩) (Kd.R_types HO1335.out BK1343.out (by decide)) (fun _ hk => hk.2) (.int .i64 t1330)) (fun _ hk => hk.2) (.int .i64 t1331)) (fun _ hk => hk.2) (.int .i64 t1332)) (fun _ hk => hk.2) (.slice Ao25 t1333.length co25)) (fun _ hk => hk.2) (.int .i64 t1336)) (fun _ hk => hk.2) (.int .i64 t1337)) (fun _ hk => hk.2) (.slice Ao26 t1338.length co26)) (fun _ hk => hk.2) (.int .i64 t1341)) (fun _ h_ => h_.1))) hb); have n3_ := aK (Kd.R_below (by (with_reducible repeat (first | apply Kd.R_alloc | apply Kd.R_drewN | apply Kd.R_drew)); exact (Kd.R_mono (Kd.R_far (p := ⟨gb1343, 7, none⟩) (Kd.R_far (p := ⟨gb1343, 6, none⟩) (Kd.R_far (p := ⟨gb1343, 5, none⟩) (Kd.R_far (p := ⟨gb1343, 4, none⟩) (Kd.R_far (p := ⟨gb1343, 3, none⟩) (Kd.R_far (p := ⟨gb1343, 2, none⟩) (Kd.R_far (p := ⟨gb1343, 1, none⟩) (Kd.R_far (p := ⟨gb1343, 0, none⟩) (Kd.R_types HO1340.out BK1343.out (by decide)) (fun _ hk => hk.2) (.int .i64 t1330)) (fun _ hk => hk.2) (.int .i64 t1331)) (fun _ hk => hk.2) (.int .i64 t1332)) (fun _ hk => hk.2) (.slice Ao25 t1333.length co25)) (fun _ hk => hk.2) (.int .i64 t1336)) (fun _ hk => hk.2) (.int .i64 t1337)) (fun _ hk => hk.2) (.slice Ao26 t1338.length co26)) (fun _ hk => hk.2) (.int .i64 t1341)) (fun _ h_ => h_.1))) hb); have n4_ := bkb BK1309 hb (by intro z_; (with_reducible repeat (first | refine blk_drewN ?_ _ | refine kD ?_ | refine kA ?_ _)); refine blk_far ?_ NB1309_1343.out _; (with_reducible repeat (first | refine blk_drewN ?_ _ | refine kD ?_ | refine kA ?_ _)); refine blk_far ?_ NB1309_1343.out _; (with_reducible repeat (first | refine blk_drewN ?_ _ | refine kD ?_ | refine kA ?_ _)); refine blk_far ?_ NB1309_1343.out _; (with_reducible repeat (first | refine blk_drewN ?_ _ | refine kD ?_ | refine kA ?_ _)); refine blk_far ?_ NB1309_1343.out _; (with_reducible repeat (first | refine blk_drewN ?_ _ | refine kD ?_ | refine kA ?_ _)); refine blk_far ?_ NB1309_1343.out _; (with_reducible repeat (first | refine blk_drewN ?_ _ | refine kD ?_ | refine kA ?_ _)); refine blk_far ?_ NB1309_1343.out _; (with_reducible repeat (first | refine blk_drewN ?_ _ | refine kD ?_ | refine kA ?_ _)); refine blk_far ?_ NB1309_1343.out _; (with_reducible repeat (first | refine blk_drewN ?_ _ | refine kD ?_ | refine kA ?_ _)); refine blk_far ?_ NB1309_1343.out _; (with_reducible repeat (first | refine blk_drewN ?_ _ | refine kD ?_ | refine kA ?_ _)); exact z_); have n5_ := bkb BK1326 hb (by intro z_; (with_reducible repeat (first | refine blk_drewN ?_ _ | refine kD ?_ | refine kA ?_ _)); refine blk_far ?_ NB1326_1343.out _; (with_reducible repeat (first | refine blk_drewN ?_ _ | refine kD ?_ | refine kA ?_ _)); refine blk_far ?_ NB1326_1343.out _; (with_reducible repeat (first | refine blk_drewN ?_ _ | refine kD ?_ | refine kA ?_ _)); refine blk_far ?_ NB1326_1343.out _; (with_reducible repeat (first | refine blk_drewN ?_ _ | refine kD ?_ | refine kA ?_ _)); refine blk_far ?_ NB1326_1343.out _; (with_reducible repeat (first | refine blk_drewN ?_ _ | refine kD ?_ | refine kA ?_ _)); refine blk_far ?_ NB1326_1343.out _; (with_reducible repeat (first | refine blk_drewN ?_ _ | refine kD ?_ | refine kA ?_ _)); refine blk_far ?_ NB1326_1343.out _; (with_reducible repeat (first | refine blk_drewN ?_ _ | refine kD ?_ | refine kA ?_ _)); refine blk_far ?_ NB1326_1343.out _; (with_reducible repeat (first | refine blk_drewN ?_ _ | refine kD ?_ | refine kA ?_ _)); refine blk_far ?_ NB1326_1343.out _; (with_reducible repeat (first | refine blk_drewN ?_ _ | refine kD ?_ | refine kA ?_ _)); exact z_); have n6_ := aK (blk_below (g := gb1343) (o := .cells #[.int .i64 t1330, .int .i64 t1331, .int .i64 t1332, .slice Ao25 t1333.length co25, .int .i64 t1336, .int .i64 t1337, .slice Ao26 t1338.length co26, .int .i64 t1341] 84 (0, 0)) (by (with_reducible repeat (first | refine blk_drewN ?_ _ | refine kD ?_ | refine kA ?_ _)); refine blk_put (cs := #[.int .i64 t1330, .int .i64 t1331, .int .i64 t1332, .slice Ao25 t1333.length co25, .int .i64 t1336, .int .i64 t1337, .slice Ao26 t1338.length co26, .int .i64 0]) ?_ 7 _ rfl; (with_reducible repeat (first | refine blk_drewN ?_ _ | refine kD ?_ | refine kA ?_ _)); refine blk_put (cs := #[.int .i64 t1330, .int .i64 t1331, .int .i64 t1332, .slice Ao25 t1333.length co25, .int .i64 t1336, .int .i64 t1337, .slice none 0 0, .int .i64 0]) ?_ 6 _ rfl; (with_reducible repeat (first | refine blk_drewN ?_ _ | refine kD ?_ | refine kA ?_ _)); refine blk_put (cs := #[.int .i64 t1330, .int .i64 t1331, .int .i64 t1332, .slice Ao25 t1333.length co25, .int .i64 t1336, .int .i64 0, .slice none 0 0, .int .i64 0]) ?_ 5 _ rfl; (with_reducible repeat (first | refine blk_drewN ?_ _ | refine kD ?_ | refine kA ?_ _)); refine blk_put (cs := #[.int .i64 t1330, .int .i64 t1331, .int .i64 t1332, .slice Ao25 t1333.length co25, .int .i64 0, .int .i64 0, .slice none 0 0, .int .i64 0]) ?_ 4 _ rfl; (with_reducible repeat (first | refine blk_drewN ?_ _ | refine kD ?_ | refine kA ?_ _)); refine blk_put (cs := #[.int .i64 t1330, .int .i64 t1331, .int .i64 t1332, .slice none 0 0, .int .i64 0, .int .i64 0, .slice none 0 0, .int .i64 0]) ?_ 3 _ rfl; (with_reducible repeat (first | refine blk_drewN ?_ _ | refine kD ?_ | refine kA ?_ _)); refine blk_put (cs := #[.int .i64 t1330, .int .i64 t1331, .int .i64 0, .slice none 0 0, .int .i64 0, .int .i64 0, .slice none 0 0, .int .i64 0]) ?_ 2 _ rfl; (with_reducible repeat (first | refine blk_drewN ?_ _ | refine kD ?_ | refine kA ?_ _)); refine blk_put (cs := #[.int .i64 t1330, .int .i64 0, .int .i64 0, .slice none 0 0, .int .i64 0, .int .i64 0, .slice none 0 0, .int .i64 0]) ?_ 1 _ rfl; (with_reducible repeat (first | refine blk_drewN ?_ _ | refine kD ?_ | refine kA ?_ _)); refine blk_put (cs := #[.int .i64 0, .int .i64 0, .int .i64 0, .slice none 0 0, .int .i64 0, .int .i64 0, .slice none 0 0, .int .i64 0]) ?_ 0 _ rfl; (with_reducible repeat (first | refine blk_drewN ?_ _ | refine kD ?_ | refine kA ?_ _)); exact BK1343.out) hb); have n7_ := aK (bSp (by repeat (first | (with_reducible first | exact HB.out | apply bAl | apply bDN | apply bD1 | refine bSt ?_ GE1309.out | refine bSt ?_ GE1326.out | refine bSt ?_ GE1343.out) | exact HB.out)) hb); clear HO1318; clear HO1323; clear HO1335; clear HO1340; clear BK1309; clear BK1326; clear BK1343; clear HB; have HO1318 := n0_; have HO1323 := n1_; have HO1335 := n2_; have HO1340 := n3_; have BK1309 := n4_; have BK1326 := n5_; have BK1343 := n6_; have HB := n7_; clear n0_ n1_ n2_ n3_ n4_ n5_ n6_ n7_; (try clear hb); (try clear hb2); (try clear hk); (try clear hi)))
   go_meet
   case rel => exact ⟨_, (true), (by first | rfl | (simp; done) | (simp [*]; done)), H', ⟨by first | omega | exact Nat.le_refl _⟩, ⟨by (with_reducible repeat (first | apply Kd.R_alloc | apply Kd.R_drewN | apply Kd.R_drew)); exact Kd.R_mono HO1318.out (fun _ hk => ⟨hk.1.1, ⟨hk.1.2, hk.2⟩⟩)⟩, ⟨by (with_reducible repeat (first | apply Kd.R_alloc | apply Kd.R_drewN | apply Kd.R_drew)); exact Kd.R_mono HO1323.out (fun _ hk => ⟨hk.1.1, ⟨hk.1.2, hk.2⟩⟩)⟩, ⟨by (with_reducible repeat (first | apply Kd.R_alloc | apply Kd.R_drewN | apply Kd.R_drew)); exact Kd.R_mono HO1335.out (fun _ hk => ⟨hk.1.2, ⟨hk.2, hk.1.1⟩⟩)⟩, ⟨by (with_reducible repeat (first | apply Kd.R_alloc | apply Kd.R_drewN | apply Kd.R_drew)); exact Kd.R_mono HO1340.out (fun _ hk => ⟨hk.1.2, ⟨hk.2, hk.1.1⟩⟩)⟩, ⟨by (with_reducible repeat (first | refine blk_drewN ?_ _ | refine kD ?_ | refine kA ?_ _)); exact BK1309.out⟩, ⟨by (with_reducible repeat (first | refine blk_drewN ?_ _ | refine kD ?_ | refine kA ?_ _)); exact BK1326.out⟩, ⟨by (with_reducible repeat (first | refine blk_drewN ?_ _ | refine kD ?_ | refine kA ?_ _)); exact BK1343.out⟩, ⟨by repeat (first | (with_reducible first | exact HB.out | apply bAl | apply bDN | apply bD1 | refine bSt ?_ GE1309.out | refine bSt ?_ GE1326.out | refine bSt ?_ GE1343.out) | exact HB.out)⟩⟩
 case rest =>
  clear HC8
  try clear c1
  try clear c2
  try clear p2
  try clear c3
  try clear c4
  try clear c5
  try clear c9
  try clear c14
  try clear c22
  try clear c23
  try clear c28
  try clear c29
  try clear c30
  try clear c32
  try clear c35
  try clear c36
  try clear c38
  try clear hcz10_0
  try clear hcz10_1
  try clear hcz10_2
  try clear hcz15_0
  try clear hcz15_1
  try clear hcz15_2
  try clear hcz15_3
  try clear hcz15_4
  try clear hcz15_5
  try clear hcz15_6
  try clear hcz15_7
  try clear hcz18_0
  try clear hcz18_1
  try clear hcz18_2
  try clear hcz24_0
  try clear hcz24_1
  try clear hcz24_2
  try clear hcz24_3
  try clear hcz24_4
  try clear hcz24_5
  try clear hcz24_6
  try clear hcz24_7
  try clear hcz31_0
  try clear hcz31_1
  try clear hcz31_2
  try clear hcz31_3
  try clear hcz31_4
  try clear hcz31_5
  try clear hcz31_6
  try clear hcz31_7
  try clear hcz33_0
  try clear hcz33_1
  try clear hcz33_2
  try clear hcz33_3
  try clear hcz33_4
  try clear hcz33_5
  try clear hcz33_6
  try clear hcz33_7
  try clear hcz37_0
  try clear hcz37_1
  try clear hcz37_2
  try clear hcz37_3
  try clear hcz37_4
  try clear hcz37_5
  try clear hcz37_6
  try clear hcz37_7
  try clear hcz39_0
  try clear hcz39_1
  try clear hcz39_2
  try clear hcz39_3
  try clear hcz39_4
  try clear hcz39_5
  try clear hcz39_6
  try clear hcz39_7
  try clear hfz10_0
  try clear hfz10_1
  try clear hfz10_2
  try clear hfz15_0
  try clear hfz15_1
  try clear hfz15_2
  try clear hfz15_3
  try clear hfz15_4
  try clear hfz15_5
  try clear hfz15_6
  try clear hfz15_7
  try clear hfz18_0
  try clear hfz18_1
  try clear hfz18_2
  try clear hfz24_0
  try clear hfz24_1
  try clear hfz24_2
  try clear hfz24_3
  try clear hfz24_4
  try clear hfz24_5
  try clear hfz24_6
  try clear hfz24_7
  try clear hfz31_0
  try clear hfz31_1
  try clear hfz31_2
  try clear hfz31_3
  try clear hfz31_4
  try clear hfz31_5
  try clear hfz31_6
  try clear hfz31_7
  try clear hfz33_0
  try clear hfz33_1
  try clear hfz33_2
  try clear hfz33_3
  try clear hfz33_4
  try clear hfz33_5
  try clear hfz33_6
  try clear hfz33_7
  try clear hfz37_0
  try clear hfz37_1
  try clear hfz37_2
  try clear hfz37_3
  try clear hfz37_4
  try clear hfz37_5
  try clear hfz37_6
  try clear hfz37_7
  try clear hfz39_0
  try clear hfz39_1
  try clear hfz39_2
  try clear hfz39_3
  try clear hfz39_4
  try clear hfz39_5
  try clear hfz39_6
  try clear hfz39_7
  obtain ⟨kq, x39_7, rfl, HA, HJ7, HO_1327003, HO_1327006, HO_1344003, HO_1344006, BK1309, BK1326, BK1343, HB⟩ := hcut
  cases kq with
  | zero => exact absurd HA.out (by simp [laws_FnExactNewGarden.j0])
  | succ kj7 =>
   have H := HA.out
   clear HA
   simp only [laws_FnExactNewGarden.j0] at H
   by_cases c41 : x39_7 = true
   ·subst c41
    have H1 : (some false) = some true := by first | (rw [if_pos rfl] at H; exact H) | rfl
    clear H
    have H := H1
    clear H1
    exact absurd (Option.some.inj H) Bool.false_ne_true
   ·replace c41 := Bool.eq_false_iff.mpr c41
    subst c41
    have H1 : ((laws_markGarden.f kj7 t1330 t1331 t1332 t1333 t1336 t1337 t1338 t1341 1).bind fun bt1345 => ((laws_heldGarden.f kj7 t1330 t1331 t1332 bt1345.2.1 t1336 t1337 bt1345.2.2 t1341 1).bind fun t1348 => (if t1348 < 0 then (some false) else (if t1348 = bt1345.1 then ((laws_toMaze.f a0_0 a0_1 a0_2).bind fun bt1349 => ((impl_NewGarden.f kj7 bt1349.1 bt1349.2.1 bt1349.2.2 a1 a2).bind fun bt1352 => ((laws_eqGarden.f kj7 bt1352.1 bt1352.2.1 bt1352.2.2.1 bt1352.2.2.2.1 bt1352.2.2.2.2.1 bt1352.2.2.2.2.2.1 bt1352.2.2.2.2.2.2.1 bt1352.2.2.2.2.2.2.2.1 t1313 t1314 t1315 t1316 t1319 t1320 t1321 t1324).bind fun t1366 => (if t1366 = true then (laws_FnExactNewGarden.j1 kj7 bt1345.1 (bt1352.2.2.2.2.2.2.2.2 != t1325) t1330 t1331 t1332 bt1345.2.1 t1336 t1337 bt1345.2.2 t1341) else (laws_FnExactNewGarden.j1 kj7 bt1345.1 true t1330 t1331 t1332 bt1345.2.1 t1336 t1337 bt1345.2.2 t1341))))) else (some false))))) = some true := by rw [if_neg (show ¬ (false = true) by decide)] at H; exact H
    clear H
    have H := H1
    clear H1
    replace H := Option.bind_eq_some_iff.mp H
    obtain ⟨⟨t1345, t1346, t1347⟩, A420, H⟩ := H
    replace H : ((laws_heldGarden.f kj7 t1330 t1331 t1332 t1346 t1336 t1337 t1347 t1341 1).bind fun t1348 => (if t1348 < 0 then (some false) else (if t1348 = t1345 then ((laws_toMaze.f a0_0 a0_1 a0_2).bind fun bt1349 => ((impl_NewGarden.f kj7 bt1349.1 bt1349.2.1 bt1349.2.2 a1 a2).bind fun bt1352 => ((laws_eqGarden.f kj7 bt1352.1 bt1352.2.1 bt1352.2.2.1 bt1352.2.2.2.1 bt1352.2.2.2.2.1 bt1352.2.2.2.2.2.1 bt1352.2.2.2.2.2.2.1 bt1352.2.2.2.2.2.2.2.1 t1313 t1314 t1315 t1316 t1319 t1320 t1321 t1324).bind fun t1366 => (if t1366 = true then (laws_FnExactNewGarden.j1 kj7 t1345 (bt1352.2.2.2.2.2.2.2.2 != t1325) t1330 t1331 t1332 t1346 t1336 t1337 t1347 t1341) else (laws_FnExactNewGarden.j1 kj7 t1345 true t1330 t1331 t1332 t1346 t1336 t1337 t1347 t1341))))) else (some false)))) = some true := H
    have A42 := aK A420
    clear A420
    replace H := Option.bind_eq_some_iff.mp H
    obtain ⟨t1348, A430, H⟩ := H
    replace H : (if t1348 < 0 then (some false) else (if t1348 = t1345 then ((laws_toMaze.f a0_0 a0_1 a0_2).bind fun bt1349 => ((impl_NewGarden.f kj7 bt1349.1 bt1349.2.1 bt1349.2.2 a1 a2).bind fun bt1352 => ((laws_eqGarden.f kj7 bt1352.1 bt1352.2.1 bt1352.2.2.1 bt1352.2.2.2.1 bt1352.2.2.2.2.1 bt1352.2.2.2.2.2.1 bt1352.2.2.2.2.2.2.1 bt1352.2.2.2.2.2.2.2.1 t1313 t1314 t1315 t1316 t1319 t1320 t1321 t1324).bind fun t1366 => (if t1366 = true then (laws_FnExactNewGarden.j1 kj7 t1345 (bt1352.2.2.2.2.2.2.2.2 != t1325) t1330 t1331 t1332 t1346 t1336 t1337 t1347 t1341) else (laws_FnExactNewGarden.j1 kj7 t1345 true t1330 t1331 t1332 t1346 t1336 t1337 t1347 t1341))))) else (some false))) = some true := H
    have A43 := aK A430
    clear A430
    by_cases c44 : t1348 < 0
    ·rw [if_pos c44] at H
     have c44b0 : decide (t1348 < 0) = true := decide_eq_true c44
     clear c44
     exact absurd (Option.some.inj H) Bool.false_ne_true
    ·rw [if_neg c44] at H
     have c44b0 : decide (t1348 < 0) = false := decide_eq_false c44
     clear c44
     by_cases c45 : t1348 = t1345
     ·rw [if_pos c45] at H
      have c45b0 : (t1348 == t1345) = true := beq_iff_eq.mpr c45
      have c45b1 : (t1348 != t1345) = false := bne_eq_false_iff_eq.mpr c45
      clear c45
      replace H := Option.bind_eq_some_iff.mp H
      obtain ⟨⟨t1349, t1350, t1351⟩, A460, H⟩ := H
      replace H : ((impl_NewGarden.f kj7 t1349 t1350 t1351 a1 a2).bind fun bt1352 => ((laws_eqGarden.f kj7 bt1352.1 bt1352.2.1 bt1352.2.2.1 bt1352.2.2.2.1 bt1352.2.2.2.2.1 bt1352.2.2.2.2.2.1 bt1352.2.2.2.2.2.2.1 bt1352.2.2.2.2.2.2.2.1 t1313 t1314 t1315 t1316 t1319 t1320 t1321 t1324).bind fun t1366 => (if t1366 = true then (laws_FnExactNewGarden.j1 kj7 t1345 (bt1352.2.2.2.2.2.2.2.2 != t1325) t1330 t1331 t1332 t1346 t1336 t1337 t1347 t1341) else (laws_FnExactNewGarden.j1 kj7 t1345 true t1330 t1331 t1332 t1346 t1336 t1337 t1347 t1341)))) = some true := H
      have A46 := aK A460
      clear A460
      replace H := Option.bind_eq_some_iff.mp H
      obtain ⟨⟨t1352, t1353, t1354, t1355, t1358, t1359, t1360, t1363, t1364⟩, A470, H⟩ := H
      replace H : ((laws_eqGarden.f kj7 t1352 t1353 t1354 t1355 t1358 t1359 t1360 t1363 t1313 t1314 t1315 t1316 t1319 t1320 t1321 t1324).bind fun t1366 => (if t1366 = true then (laws_FnExactNewGarden.j1 kj7 t1345 (t1364 != t1325) t1330 t1331 t1332 t1346 t1336 t1337 t1347 t1341) else (laws_FnExactNewGarden.j1 kj7 t1345 true t1330 t1331 t1332 t1346 t1336 t1337 t1347 t1341))) = some true := H
      have A47 := aK A470
      clear A470
      have HC48 := aK H
      clear H
      have hnb49 := NB1343_1309.out
      have hnc49 := NB1309_1343.out
      have hnb50 := NB1343_1326.out
      have hnc50 := NB1326_1343.out
      have hcz51_0 : wc.cell? ⟨gb1343, 0, none⟩ = some (.int .i64 t1330) := (kC BK1343.out 0).trans rfl
      have hcz51_1 : wc.cell? ⟨gb1343, 1, none⟩ = some (.int .i64 t1331) := (kC BK1343.out 1).trans rfl
      have hcz51_2 : wc.cell? ⟨gb1343, 2, none⟩ = some (.int .i64 t1332) := (kC BK1343.out 2).trans rfl
      have hcz51_3 : wc.cell? ⟨gb1343, 3, none⟩ = some (.slice Ao25 t1333.length co25) := (kC BK1343.out 3).trans rfl
      have hcz51_4 : wc.cell? ⟨gb1343, 4, none⟩ = some (.int .i64 t1336) := (kC BK1343.out 4).trans rfl
      have hcz51_5 : wc.cell? ⟨gb1343, 5, none⟩ = some (.int .i64 t1337) := (kC BK1343.out 5).trans rfl
      have hcz51_6 : wc.cell? ⟨gb1343, 6, none⟩ = some (.slice Ao26 t1338.length co26) := (kC BK1343.out 6).trans rfl
      have hcz51_7 : wc.cell? ⟨gb1343, 7, none⟩ = some (.int .i64 t1341) := (kC BK1343.out 7).trans rfl
      have hfz51_0 := kF BK1343.out 0
      have hfz51_1 := kF BK1343.out 1
      have hfz51_2 := kF BK1343.out 2
      have hfz51_3 := kF BK1343.out 3
      have hfz51_4 := kF BK1343.out 4
      have hfz51_5 := kF BK1343.out 5
      have hfz51_6 := kF BK1343.out 6
      have hfz51_7 := kF BK1343.out 7
      go_upto_region 14 with (first | ((with_reducible refine gate_callee (f := 51) rfl ?_); refine goesL_ (some 42) rfl rfl Try.func51 (by kernel_rfl) rfl #[.agg #[.int .i64 t1330, .int .i64 t1331, .int .i64 t1332, .slice Ao25 t1333.length co25, .int .i64 t1336, .int .i64 t1337, .slice Ao26 t1338.length co26, .int .i64 t1341], .int .i64 1] rfl (by (try simp only [List.map_toArray, List.map_cons, List.map_nil]); first | done | rfl | (simp only [List.length_drop, List.length_take]; rfl)) ?_; (with_reducible refine (laws_markGarden.calls kj7 t1330 t1331 t1332 (fun k_ => some k_ = (.slice Ao25 t1333.length co25 : Value).ownBlock) (.slice Ao25 t1333.length co25) t1333 t1336 t1337 (fun k_ => some k_ = (.slice Ao26 t1338.length co26 : Value).ownBlock) (.slice Ao26 t1338.length co26) t1338 t1341 1 t1345 t1346 t1347 w _ ?side1 ?side2 ?side3 ?side4 ?side5 A42.out).mono ?_); (case side1 => repeat (first | (with_reducible first | exact HB.out | apply bAl | apply bDN | apply bD1 | refine bSt ?_ GE1309.out | refine bSt ?_ GE1326.out | refine bSt ?_ GE1343.out) | exact HB.out)); (case side2 => exact Kd.R_tight rfl HO_1344003.out); (case side3 => exact fun k_ e_ => (HO_1344003.out.1 k_ e_.symm).2.2); (case side4 => exact Kd.R_tight rfl HO_1344006.out); (case side5 => exact fun k_ e_ => (HO_1344006.out.1 k_ e_.symm).2.2); rintro e w52 ⟨rfl, hy0, hy1, hb, hkp⟩; refine ⟨_, rfl, ?_⟩; have n0_ := aK (Kd.R_mono (ok' := fun k_ => some k_ ≠ (.slice Ao17 t1321.length co17 : Value).ownBlock ∧ some k_ ≠ (.slice Ao25 t1333.length co25 : Value).ownBlock ∧ some k_ ≠ (.slice Ao26 t1338.length co26 : Value).ownBlock) (Kd.R_keptB (HO_1327003.out) hkp (fun k_ hk_ hs_ => Or.elim hs_ (fun e_ => (hk_.2.1) e_) (fun e_ => (hk_.2.2) e_))) (fun k_ hk_ => ⟨hk_.1.1, hk_.1.2.1, hk_.1.2.2⟩)); have n1_ := aK (Kd.R_mono (ok' := fun k_ => some k_ ≠ (.slice Ao16 t1316.length co16 : Value).ownBlock ∧ some k_ ≠ (.slice Ao25 t1333.length co25 : Value).ownBlock ∧ some k_ ≠ (.slice Ao26 t1338.length co26 : Value).ownBlock) (Kd.R_keptB (HO_1327006.out) hkp (fun k_ hk_ hs_ => Or.elim hs_ (fun e_ => (hk_.2.1) e_) (fun e_ => (hk_.2.2) e_))) (fun k_ hk_ => ⟨hk_.1.1, hk_.1.2.1, hk_.1.2.2⟩)); have n2_ := aK (Kd.R_reok rfl hy0 (fun k_ e_ => HO_1344003.out.1 k_ e_)); have n3_ := aK (Kd.R_reok rfl hy1 (fun k_ e_ => HO_1344006.out.1 k_ e_)); have n4_ := aK (blk_kept (by (with_reducible repeat (first | refine blk_drewN ?_ _ | refine kD ?_ | refine kA ?_ _)); exact BK1309.out) hkp (fun hs_ => Or.elim hs_ (fun e_ => (fun e_ => (Kd.R_ne HO_1344003.out BK1309.out (by decide)) e_) e_) (fun e_ => (fun e_ => (Kd.R_ne HO_1344006.out BK1309.out (by decide)) e_) e_))); have n5_ := aK (blk_kept (by (with_reducible repeat (first | refine blk_drewN ?_ _ | refine kD ?_ | refine kA ?_ _)); exact BK1326.out) hkp (fun hs_ => Or.elim hs_ (fun e_ => (fun e_ => (Kd.R_ne HO_1344003.out BK1326.out (by decide)) e_) e_) (fun e_ => (fun e_ => (Kd.R_ne HO_1344006.out BK1326.out (by decide)) e_) e_))); have n6_ := aK (blk_kept (by (with_reducible repeat (first | refine blk_drewN ?_ _ | refine kD ?_ | refine kA ?_ _)); exact BK1343.out) hkp (fun hs_ => Or.elim hs_ (fun e_ => (fun e_ => (Kd.R_ne HO_1344003.out BK1343.out (by decide)) e_) e_) (fun e_ => (fun e_ => (Kd.R_ne HO_1344006.out BK1343.out (by decide)) e_) e_))); have n7_ := aK (hb); clear HO_1327003; clear HO_1327006; clear HO_1344003; clear HO_1344006; clear BK1309; clear BK1326; clear BK1343; clear HB; have HO_1327003 := n0_; have HO_1327006 := n1_; have HO_1344003 := n2_; have HO_1344006 := n3_; have BK1309 := n4_; have BK1326 := n5_; have BK1343 := n6_; have HB := n7_; clear n0_ n1_ n2_ n3_ n4_ n5_ n6_ n7_; (try clear hb); (try clear hkp); (try clear hy0); (try clear hy1); have hcz53_0 : w52.cell? ⟨gb1343, 0, none⟩ = some (.int .i64 t1330) := (kC BK1343.out 0).trans rfl; have hcz53_1 : w52.cell? ⟨gb1343, 1, none⟩ = some (.int .i64 t1331) := (kC BK1343.out 1).trans rfl; have hcz53_2 : w52.cell? ⟨gb1343, 2, none⟩ = some (.int .i64 t1332) := (kC BK1343.out 2).trans rfl; have hcz53_3 : w52.cell? ⟨gb1343, 3, none⟩ = some (.slice Ao25 t1333.length co25) := (kC BK1343.out 3).trans rfl; have hcz53_4 : w52.cell? ⟨gb1343, 4, none⟩ = some (.int .i64 t1336) := (kC BK1343.out 4).trans rfl; have hcz53_5 : w52.cell? ⟨gb1343, 5, none⟩ = some (.int .i64 t1337) := (kC BK1343.out 5).trans rfl; have hcz53_6 : w52.cell? ⟨gb1343, 6, none⟩ = some (.slice Ao26 t1338.length co26) := (kC BK1343.out 6).trans rfl; have hcz53_7 : w52.cell? ⟨gb1343, 7, none⟩ = some (.int .i64 t1341) := (kC BK1343.out 7).trans rfl; have hfz53_0 := kF BK1343.out 0; have hfz53_1 := kF BK1343.out 1; have hfz53_2 := kF BK1343.out 2; have hfz53_3 := kF BK1343.out 3; have hfz53_4 := kF BK1343.out 4; have hfz53_5 := kF BK1343.out 5; have hfz53_6 := kF BK1343.out 6; have hfz53_7 := kF BK1343.out 7) | ((with_reducible refine gate_callee (f := 52) rfl ?_); refine goesL_ (some 45) rfl rfl Try.func52 (by kernel_rfl) rfl #[.agg #[.int .i64 t1330, .int .i64 t1331, .int .i64 t1332, .slice Ao25 t1346.length co25, .int .i64 t1336, .int .i64 t1337, .slice Ao26 t1347.length co26, .int .i64 t1341], .int .i64 1] rfl (by (try simp only [List.map_toArray, List.map_cons, List.map_nil]); first | done | (rw [show t1346.length = t1333.length from (Kd.R_reads' HO_1344003.out).1.symm, show t1347.length = t1338.length from (Kd.R_reads' HO_1344006.out).1.symm] <;> rfl) | rfl | (simp only [List.length_drop, List.length_take]; rfl)) ?_; (with_reducible refine (laws_heldGarden.calls kj7 t1330 t1331 t1332 _ _ t1346 t1336 t1337 _ _ t1347 t1341 1 t1348 _ ?side1 ?side2 ?side3 ?side4 A43.out).mono ?_); (case side1 => repeat (first | exact (Kd.R_reads' HO_1344003.out).2.2 | (with_reducible refine Kd.C_alloc ?_ _) | (with_reducible refine Kd.C_drewN ?_ _) | (with_reducible refine Kd.C_drew ?_))); (case side2 => rw [show t1346.length = t1333.length from (Kd.R_reads' HO_1344003.out).1.symm]; exact (Kd.R_reads' HO_1344003.out).2.1); (case side3 => repeat (first | exact (Kd.R_reads' HO_1344006.out).2.2 | (with_reducible refine Kd.C_alloc ?_ _) | (with_reducible refine Kd.C_drewN ?_ _) | (with_reducible refine Kd.C_drew ?_))); (case side4 => rw [show t1347.length = t1338.length from (Kd.R_reads' HO_1344006.out).1.symm]; exact (Kd.R_reads' HO_1344006.out).2.1); rintro e w54 ⟨rfl, hb⟩; refine ⟨_, rfl, ?_⟩; have n0_ := aK (Kd.R_below (by (with_reducible repeat (first | apply Kd.R_alloc | apply Kd.R_drewN | apply Kd.R_drew)); exact HO_1327003.out) hb); have n1_ := aK (Kd.R_below (by (with_reducible repeat (first | apply Kd.R_alloc | apply Kd.R_drewN | apply Kd.R_drew)); exact HO_1327006.out) hb); have n2_ := aK (Kd.R_below (by (with_reducible repeat (first | apply Kd.R_alloc | apply Kd.R_drewN | apply Kd.R_drew)); exact HO_1344003.out) hb); have n3_ := aK (Kd.R_below (by (with_reducible repeat (first | apply Kd.R_alloc | apply Kd.R_drewN | apply Kd.R_drew)); exact HO_1344006.out) hb); have n4_ := bkb BK1309 hb (by intro z_; (with_reducible repeat (first | refine blk_drewN ?_ _ | refine kD ?_ | refine kA ?_ _)); exact z_); have n5_ := bkb BK1326 hb (by intro z_; (with_reducible repeat (first | refine blk_drewN ?_ _ | refine kD ?_ | refine kA ?_ _)); exact z_); have n6_ := bkb BK1343 hb (by intro z_; (with_reducible repeat (first | refine blk_drewN ?_ _ | refine kD ?_ | refine kA ?_ _)); exact z_); have n7_ := aK (bSp (by repeat (first | (with_reducible first | exact HB.out | apply bAl | apply bDN | apply bD1 | refine bSt ?_ GE1309.out | refine bSt ?_ GE1326.out | refine bSt ?_ GE1343.out) | exact HB.out)) hb); clear HO_1327003; clear HO_1327006; clear HO_1344003; clear HO_1344006; clear BK1309; clear BK1326; clear BK1343; clear HB; have HO_1327003 := n0_; have HO_1327006 := n1_; have HO_1344003 := n2_; have HO_1344006 := n3_; have BK1309 := n4_; have BK1326 := n5_; have BK1343 := n6_; have HB := n7_; clear n0_ n1_ n2_ n3_ n4_ n5_ n6_ n7_; (try clear hb); (try clear hb2); (try clear hk); (try clear hi); have hnb55 := NB1309_1326.out; have hnc55 := NB1326_1309.out; obtain ⟨hcz56_0, hcz56_1, hcz56_2, hfz56_0, hfz56_1, hfz56_2⟩ := cl3 BK1309.out) | ((with_reducible refine gate_callee (f := 32) rfl ?_); refine goesL_ (some 53) rfl rfl Try.func32 (by kernel_rfl) rfl #[.agg #[.int .i64 a0_0, .int .i64 a0_1, .int .i64 a0_2]] rfl (by (try simp only [List.map_toArray, List.map_cons, List.map_nil]); first | done | rfl | (simp only [List.length_drop, List.length_take]; rfl)) ?_; (with_reducible refine (laws_toMaze.calls a0_0 a0_1 a0_2 t1349 t1350 t1351 _ A46.out).mono ?_); rintro e w57 ⟨rfl, hb⟩; refine ⟨_, rfl, ?_⟩; have n0_ := aK (Kd.R_below (by (with_reducible repeat (first | apply Kd.R_alloc | apply Kd.R_drewN | apply Kd.R_drew)); exact HO_1327003.out) hb); have n1_ := aK (Kd.R_below (by (with_reducible repeat (first | apply Kd.R_alloc | apply Kd.R_drewN | apply Kd.R_drew)); exact HO_1327006.out) hb); have n2_ := aK (Kd.R_below (by (with_reducible repeat (first | apply Kd.R_alloc | apply Kd.R_drewN | apply Kd.R_drew)); exact HO_1344003.out) hb); have n3_ := aK (Kd.R_below (by (with_reducible repeat (first | apply Kd.R_alloc | apply Kd.R_drewN | apply Kd.R_drew)); exact HO_1344006.out) hb); have n4_ := bkb BK1309 hb (by intro z_; (with_reducible repeat (first | refine blk_drewN ?_ _ | refine kD ?_ | refine kA ?_ _)); exact z_); have n5_ := bkb BK1326 hb (by intro z_; (with_reducible repeat (first | refine blk_drewN ?_ _ | refine kD ?_ | refine kA ?_ _)); exact z_); have n6_ := bkb BK1343 hb (by intro z_; (with_reducible repeat (first | refine blk_drewN ?_ _ | refine kD ?_ | refine kA ?_ _)); exact z_); have n7_ := aK (bSp (by repeat (first | (with_reducible first | exact HB.out | apply bAl | apply bDN | apply bD1 | refine bSt ?_ GE1309.out | refine bSt ?_ GE1326.out | refine bSt ?_ GE1343.out) | exact HB.out)) hb); clear HO_1327003; clear HO_1327006; clear HO_1344003; clear HO_1344006; clear BK1309; clear BK1326; clear BK1343; clear HB; have HO_1327003 := n0_; have HO_1327006 := n1_; have HO_1344003 := n2_; have HO_1344006 := n3_; have BK1309 := n4_; have BK1326 := n5_; have BK1343 := n6_; have HB := n7_; clear n0_ n1_ n2_ n3_ n4_ n5_ n6_ n7_; (try clear hb); (try clear hb2); (try clear hk); (try clear hi)) | ((with_reducible refine gate_callee (f := 50) rfl ?_); refine goesL_ (some 56) rfl rfl Try.func50 (by kernel_rfl) rfl #[.agg #[.int .i64 t1349, .int .i64 t1350, .int .i64 t1351], .int .i64 a1, .int .i64 a2] rfl (by (try simp only [List.map_toArray, List.map_cons, List.map_nil]); first | done | rfl | (simp only [List.length_drop, List.length_take]; rfl)) ?_; (with_reducible refine (impl_NewGarden.calls kj7 t1349 t1350 t1351 a1 a2 t1352 t1353 t1354 t1355 t1358 t1359 t1360 t1363 t1364 _ A47.out).mono ?_); rintro e w58 ⟨v1356, v1361, rfl, ho0, ho1, hb⟩; refine ⟨_, rfl, ?_⟩; have n0_ := aK (Kd.R_mono (Kd.R_told (Kd.R_told (Kd.R_old (by (with_reducible repeat (first | apply Kd.R_alloc | apply Kd.R_drewN | apply Kd.R_drew)); exact HO_1327003.out) hb) (Kd.R_base ho0)) (Kd.R_base ho1)) (fun _ h_ => h_.1)); have n1_ := aK (Kd.R_mono (Kd.R_told (Kd.R_told (Kd.R_old (by (with_reducible repeat (first | apply Kd.R_alloc | apply Kd.R_drewN | apply Kd.R_drew)); exact HO_1327006.out) hb) (Kd.R_base ho0)) (Kd.R_base ho1)) (fun _ h_ => h_.1)); have n2_ := aK (Kd.R_mono (Kd.R_told (Kd.R_told (Kd.R_old (by (with_reducible repeat (first | apply Kd.R_alloc | apply Kd.R_drewN | apply Kd.R_drew)); exact HO_1344003.out) hb) (Kd.R_base ho0)) (Kd.R_base ho1)) (fun _ h_ => h_.1)); have n3_ := aK (Kd.R_mono (Kd.R_told (Kd.R_told (Kd.R_old (by (with_reducible repeat (first | apply Kd.R_alloc | apply Kd.R_drewN | apply Kd.R_drew)); exact HO_1344006.out) hb) (Kd.R_base ho0)) (Kd.R_base ho1)) (fun _ h_ => h_.1)); have n4_ := aK (Kd.R_lower (Kd.R_new' (Kd.R_new' (Kd.R_new' (Kd.R_new' ho0 (Kd.R_lt (by (with_reducible repeat (first | apply Kd.R_alloc | apply Kd.R_drewN | apply Kd.R_drew)); exact HO_1327003.out))) (Kd.R_lt (by (with_reducible repeat (first | apply Kd.R_alloc | apply Kd.R_drewN | apply Kd.R_drew)); exact HO_1327006.out))) (Kd.R_lt (by (with_reducible repeat (first | apply Kd.R_alloc | apply Kd.R_drewN | apply Kd.R_drew)); exact HO_1344003.out))) (Kd.R_lt (by (with_reducible repeat (first | apply Kd.R_alloc | apply Kd.R_drewN | apply Kd.R_drew)); exact HO_1344006.out))) (bSz (by repeat (first | (with_reducible first | exact HB.out | apply bAl | apply bDN | apply bD1 | refine bSt ?_ GE1309.out | refine bSt ?_ GE1326.out | refine bSt ?_ GE1343.out) | exact HB.out)))); have n5_ := aK (Kd.R_lower (Kd.R_new' (Kd.R_new' (Kd.R_new' (Kd.R_new' ho1 (Kd.R_lt (by (with_reducible repeat (first | apply Kd.R_alloc | apply Kd.R_drewN | apply Kd.R_drew)); exact HO_1327003.out))) (Kd.R_lt (by (with_reducible repeat (first | apply Kd.R_alloc | apply Kd.R_drewN | apply Kd.R_drew)); exact HO_1327006.out))) (Kd.R_lt (by (with_reducible repeat (first | apply Kd.R_alloc | apply Kd.R_drewN | apply Kd.R_drew)); exact HO_1344003.out))) (Kd.R_lt (by (with_reducible repeat (first | apply Kd.R_alloc | apply Kd.R_drewN | apply Kd.R_drew)); exact HO_1344006.out))) (bSz (by repeat (first | (with_reducible first | exact HB.out | apply bAl | apply bDN | apply bD1 | refine bSt ?_ GE1309.out | refine bSt ?_ GE1326.out | refine bSt ?_ GE1343.out) | exact HB.out)))); have n6_ := bkb BK1309 hb (by intro z_; (with_reducible repeat (first | refine blk_drewN ?_ _ | refine kD ?_ | refine kA ?_ _)); exact z_); have n7_ := bkb BK1326 hb (by intro z_; (with_reducible repeat (first | refine blk_drewN ?_ _ | refine kD ?_ | refine kA ?_ _)); exact z_); have n8_ := bkb BK1343 hb (by intro z_; (with_reducible repeat (first | refine blk_drewN ?_ _ | refine kD ?_ | refine kA ?_ _)); exact z_); have n9_ := aK (bSp (by repeat (first | (with_reducible first | exact HB.out | apply bAl | apply bDN | apply bD1 | refine bSt ?_ GE1309.out | refine bSt ?_ GE1326.out | refine bSt ?_ GE1343.out) | exact HB.out)) hb); clear HO_1327003; clear HO_1327006; clear HO_1344003; clear HO_1344006; clear BK1309; clear BK1326; clear BK1343; clear HB; have HO_1327003 := n0_; have HO_1327006 := n1_; have HO_1344003 := n2_; have HO_1344006 := n3_; have HO1357 := n4_; have HO1362 := n5_; have BK1309 := n6_; have BK1326 := n7_; have BK1343 := n8_; have HB := n9_; clear n0_ n1_ n2_ n3_ n4_ n5_ n6_ n7_ n8_ n9_; (try clear hb); (try clear hb2); (try clear hk); (try clear hi); (try clear ho0); (try clear ho1)) | ((with_reducible refine gate_dst (N := 13) rfl ?_); refine box_event ?hg (N := 13) ?hd (cs := #[.int .i64 0, .int .i64 0, .int .i64 0, .slice none 0 0, .int .i64 0, .int .i64 0, .slice none 0 0, .int .i64 0]) (t := 84) ?hr ?_; (case hd => rfl); (case hg => rfl); (case hr => first | (go_simp; done) | (go_simp; rfl)); intro gb1365 hg w59 hbox hb; have n0_ := aK (Kd.R_below (by (with_reducible repeat (first | apply Kd.R_alloc | apply Kd.R_drewN | apply Kd.R_drew)); exact HO_1327003.out) hb); have n1_ := aK (Kd.R_below (by (with_reducible repeat (first | apply Kd.R_alloc | apply Kd.R_drewN | apply Kd.R_drew)); exact HO_1327006.out) hb); have n2_ := aK (Kd.R_below (by (with_reducible repeat (first | apply Kd.R_alloc | apply Kd.R_drewN | apply Kd.R_drew)); exact HO_1344003.out) hb); have n3_ := aK (Kd.R_below (by (with_reducible repeat (first | apply Kd.R_alloc | apply Kd.R_drewN | apply Kd.R_drew)); exact HO_1344006.out) hb); have n4_ := aK (Kd.R_below (by (with_reducible repeat (first | apply Kd.R_alloc | apply Kd.R_drewN | apply Kd.R_drew)); exact HO1357.out) hb); have n5_ := aK (Kd.R_below (by (with_reducible repeat (first | apply Kd.R_alloc | apply Kd.R_drewN | apply Kd.R_drew)); exact HO1362.out) hb); have n6_ := bkb BK1309 hb (by intro z_; (with_reducible repeat (first | refine blk_drewN ?_ _ | refine kD ?_ | refine kA ?_ _)); exact z_); have n7_ := bkb BK1326 hb (by intro z_; (with_reducible repeat (first | refine blk_drewN ?_ _ | refine kD ?_ | refine kA ?_ _)); exact z_); have n8_ := bkb BK1343 hb (by intro z_; (with_reducible repeat (first | refine blk_drewN ?_ _ | refine kD ?_ | refine kA ?_ _)); exact z_); have n9_ := aK (bSp (by repeat (first | (with_reducible first | exact HB.out | apply bAl | apply bDN | apply bD1 | refine bSt ?_ GE1309.out | refine bSt ?_ GE1326.out | refine bSt ?_ GE1343.out) | exact HB.out)) hb); have n10_ := aK (hbox); have n11_ := aK ((by rw [hg]; exact (bSz (by repeat (first | (with_reducible first | exact HB.out | apply bAl | apply bDN | apply bD1 | refine bSt ?_ GE1309.out | refine bSt ?_ GE1326.out | refine bSt ?_ GE1343.out) | exact HB.out))) : w.heap.size ≤ gb1365)); have n12_ := n11_; have n13_ := nbl BK1309 hg (by intro z_; (with_reducible repeat (first | refine blk_drewN ?_ _ | refine kD ?_ | refine kA ?_ _)); exact z_); have n14_ := nbs n13_; have n15_ := nbl BK1326 hg (by intro z_; (with_reducible repeat (first | refine blk_drewN ?_ _ | refine kD ?_ | refine kA ?_ _)); exact z_); have n16_ := nbs n15_; have n17_ := nbl BK1343 hg (by intro z_; (with_reducible repeat (first | refine blk_drewN ?_ _ | refine kD ?_ | refine kA ?_ _)); exact z_); have n18_ := nbs n17_; clear HO_1327003; clear HO_1327006; clear HO_1344003; clear HO_1344006; clear HO1357; clear HO1362; clear BK1309; clear BK1326; clear BK1343; clear HB; have HO_1327003 := n0_; have HO_1327006 := n1_; have HO_1344003 := n2_; have HO_1344006 := n3_; have HO1357 := n4_; have HO1362 := n5_; have BK1309 := n6_; have BK1326 := n7_; have BK1343 := n8_; have HB := n9_; have BK1365 := n10_; have GW1365 := n11_; have GE1365 := n12_; have NB1309_1365 := n13_; have NB1365_1309 := n14_; have NB1326_1365 := n15_; have NB1365_1326 := n16_; have NB1343_1365 := n17_; have NB1365_1343 := n18_; clear n0_ n1_ n2_ n3_ n4_ n5_ n6_ n7_ n8_ n9_ n10_ n11_ n12_ n13_ n14_ n15_ n16_ n17_ n18_; clear hb hbox hg; have hnb60 := NB1365_1309.out; have hnc60 := NB1309_1365.out; have hnb61 := NB1365_1326.out; have hnc61 := NB1326_1365.out; have hnb62 := NB1365_1343.out; have hnc62 := NB1343_1365.out; have hcz63_0 : w59.cell? ⟨gb1365, 0, none⟩ = some (.int .i64 0) := (kC BK1365.out 0).trans rfl; have hcz63_1 : w59.cell? ⟨gb1365, 1, none⟩ = some (.int .i64 0) := (kC BK1365.out 1).trans rfl; have hcz63_2 : w59.cell? ⟨gb1365, 2, none⟩ = some (.int .i64 0) := (kC BK1365.out 2).trans rfl; have hcz63_3 : w59.cell? ⟨gb1365, 3, none⟩ = some (.slice none 0 0) := (kC BK1365.out 3).trans rfl; have hcz63_4 : w59.cell? ⟨gb1365, 4, none⟩ = some (.int .i64 0) := (kC BK1365.out 4).trans rfl; have hcz63_5 : w59.cell? ⟨gb1365, 5, none⟩ = some (.int .i64 0) := (kC BK1365.out 5).trans rfl; have hcz63_6 : w59.cell? ⟨gb1365, 6, none⟩ = some (.slice none 0 0) := (kC BK1365.out 6).trans rfl; have hcz63_7 : w59.cell? ⟨gb1365, 7, none⟩ = some (.int .i64 0) := (kC BK1365.out 7).trans rfl; have hfz63_0 := kF BK1365.out 0; have hfz63_1 := kF BK1365.out 1; have hfz63_2 := kF BK1365.out 2; have hfz63_3 := kF BK1365.out 3; have hfz63_4 := kF BK1365.out 4; have hfz63_5 := kF BK1365.out 5; have hfz63_6 := kF BK1365.out 6; have hfz63_7 := kF BK1365.out 7; obtain ⟨Ao64, co64, eo64⟩ := Kd.R_slice HO1357.out; subst eo64; obtain ⟨Ao65, co65, eo65⟩ := Kd.R_slice HO1362.out; subst eo65))
      (try simp only [Act.put, sTA, sZ, sS])
      go_cut [67] (fun v67 wc => ∃ (kq : Nat) (x67_47 : Bool), v67 = .bool x67_47 ∧ Aside0 (laws_FnExactNewGarden.j1 kq t1345 x67_47 t1330 t1331 t1332 t1346 t1336 t1337 t1347 t1341 = some true) ∧ Aside0 (kq ≤ kj7) ∧ Aside0 (Kd.R (Kd.int .i64) 3 wc w.heap.size (fun k_ => some k_ ≠ ((.slice Ao17 t1321.length co17) : Value).ownBlock ∧ some k_ ≠ ((.slice Ao25 t1333.length co25) : Value).ownBlock ∧ some k_ ≠ ((.slice Ao26 t1338.length co26) : Value).ownBlock ∧ some k_ ≠ ((.slice Ao64 t1355.length co64) : Value).ownBlock ∧ some k_ ≠ ((.slice Ao65 t1360.length co65) : Value).ownBlock) (.slice Ao16 t1316.length co16) t1316) ∧ Aside0 (Kd.R (Kd.int .i64) 3 wc w.heap.size (fun k_ => some k_ ≠ ((.slice Ao16 t1316.length co16) : Value).ownBlock ∧ some k_ ≠ ((.slice Ao25 t1333.length co25) : Value).ownBlock ∧ some k_ ≠ ((.slice Ao26 t1338.length co26) : Value).ownBlock ∧ some k_ ≠ ((.slice Ao64 t1355.length co64) : Value).ownBlock ∧ some k_ ≠ ((.slice Ao65 t1360.length co65) : Value).ownBlock) (.slice Ao17 t1321.length co17) t1321) ∧ Aside0 (Kd.R (Kd.int .i64) 3 wc w.heap.size (fun k_ => some k_ ≠ ((.slice Ao16 t1316.length co16) : Value).ownBlock ∧ some k_ ≠ ((.slice Ao17 t1321.length co17) : Value).ownBlock ∧ some k_ ≠ ((.slice Ao26 t1338.length co26) : Value).ownBlock ∧ some k_ ≠ ((.slice Ao64 t1355.length co64) : Value).ownBlock ∧ some k_ ≠ ((.slice Ao65 t1360.length co65) : Value).ownBlock) (.slice Ao25 t1333.length co25) t1346) ∧ Aside0 (Kd.R (Kd.int .i64) 3 wc w.heap.size (fun k_ => some k_ ≠ ((.slice Ao16 t1316.length co16) : Value).ownBlock ∧ some k_ ≠ ((.slice Ao17 t1321.length co17) : Value).ownBlock ∧ some k_ ≠ ((.slice Ao25 t1333.length co25) : Value).ownBlock ∧ some k_ ≠ ((.slice Ao64 t1355.length co64) : Value).ownBlock ∧ some k_ ≠ ((.slice Ao65 t1360.length co65) : Value).ownBlock) (.slice Ao26 t1338.length co26) t1347) ∧ Aside0 (Kd.R (Kd.int .i64) 3 wc w.heap.size (fun k_ => some k_ ≠ ((.slice Ao16 t1316.length co16) : Value).ownBlock ∧ some k_ ≠ ((.slice Ao17 t1321.length co17) : Value).ownBlock ∧ some k_ ≠ ((.slice Ao25 t1333.length co25) : Value).ownBlock ∧ some k_ ≠ ((.slice Ao26 t1338.length co26) : Value).ownBlock ∧ some k_ ≠ ((.slice Ao65 t1360.length co65) : Value).ownBlock) (.slice Ao64 t1355.length co64) t1355) ∧ Aside0 (Kd.R (Kd.int .i64) 3 wc w.heap.size (fun k_ => some k_ ≠ ((.slice Ao16 t1316.length co16) : Value).ownBlock ∧ some k_ ≠ ((.slice Ao17 t1321.length co17) : Value).ownBlock ∧ some k_ ≠ ((.slice Ao25 t1333.length co25) : Value).ownBlock ∧ some k_ ≠ ((.slice Ao26 t1338.length co26) : Value).ownBlock ∧ some k_ ≠ ((.slice Ao64 t1355.length co64) : Value).ownBlock) (.slice Ao65 t1360.length co65) t1360) ∧ Aside0 (wc.heap[gb1309]? = some (.cells #[.int .i64 a0_0, .int .i64 a0_1, .int .i64 a0_2] 57 (0, 0))) ∧ Aside0 (wc.heap[gb1326]? = some (.cells #[.int .i64 t1313, .int .i64 t1314, .int .i64 t1315, (.slice Ao16 t1316.length co16), .int .i64 t1319, .int .i64 t1320, (.slice Ao17 t1321.length co17), .int .i64 t1324] 84 (0, 0))) ∧ Aside0 (wc.heap[gb1343]? = some (.cells #[.int .i64 t1330, .int .i64 t1331, .int .i64 t1332, (.slice Ao25 t1333.length co25), .int .i64 t1336, .int .i64 t1337, (.slice Ao26 t1338.length co26), .int .i64 t1341] 84 (0, 0))) ∧ Aside0 (wc.heap[gb1365]? = some (.cells #[.int .i64 t1352, .int .i64 t1353, .int .i64 t1354, (.slice Ao64 t1355.length co64), .int .i64 t1358, .int .i64 t1359, (.slice Ao65 t1360.length co65), .int .i64 t1363] 84 (0, 0))) ∧ Aside0 (Below w.heap.size w wc))
      case first =>
       have H := HC48.out
       clear HC48
       replace H := Option.bind_eq_some_iff.mp H
       obtain ⟨t1366, A660, H⟩ := H
       replace H : (if t1366 = true then (laws_FnExactNewGarden.j1 kj7 t1345 (t1364 != t1325) t1330 t1331 t1332 t1346 t1336 t1337 t1347 t1341) else (laws_FnExactNewGarden.j1 kj7 t1345 true t1330 t1331 t1332 t1346 t1336 t1337 t1347 t1341)) = some true := H
       have A66 := aK A660
       clear A660
       by_cases c67 : t1366 = true
       ·subst c67
        have H1 : (laws_FnExactNewGarden.j1 kj7 t1345 (t1364 != t1325) t1330 t1331 t1332 t1346 t1336 t1337 t1347 t1341) = some true := by first | (rw [if_pos rfl] at H; exact H) | rfl
        clear H
        have H := H1
        clear H1
        have H' := aK H
        clear H
        have hnb68 := NB1365_1309.out
        have hnc68 := NB1309_1365.out
        have hnb69 := NB1365_1326.out
        have hnc69 := NB1326_1365.out
        have hnb70 := NB1365_1343.out
        have hnc70 := NB1343_1365.out
        have hcz71_0 : w59.cell? ⟨gb1365, 0, none⟩ = some (.int .i64 0) := (kC BK1365.out 0).trans rfl
        have hcz71_1 : w59.cell? ⟨gb1365, 1, none⟩ = some (.int .i64 0) := (kC BK1365.out 1).trans rfl
        have hcz71_2 : w59.cell? ⟨gb1365, 2, none⟩ = some (.int .i64 0) := (kC BK1365.out 2).trans rfl
        have hcz71_3 : w59.cell? ⟨gb1365, 3, none⟩ = some (.slice none 0 0) := (kC BK1365.out 3).trans rfl
        have hcz71_4 : w59.cell? ⟨gb1365, 4, none⟩ = some (.int .i64 0) := (kC BK1365.out 4).trans rfl
        have hcz71_5 : w59.cell? ⟨gb1365, 5, none⟩ = some (.int .i64 0) := (kC BK1365.out 5).trans rfl
        have hcz71_6 : w59.cell? ⟨gb1365, 6, none⟩ = some (.slice none 0 0) := (kC BK1365.out 6).trans rfl
        have hcz71_7 : w59.cell? ⟨gb1365, 7, none⟩ = some (.int .i64 0) := (kC BK1365.out 7).trans rfl
        have hfz71_0 := kF BK1365.out 0
        have hfz71_1 := kF BK1365.out 1
        have hfz71_2 := kF BK1365.out 2
        have hfz71_3 := kF BK1365.out 3
        have hfz71_4 := kF BK1365.out 4
        have hfz71_5 := kF BK1365.out 5
        have hfz71_6 := kF BK1365.out 6
        have hfz71_7 := kF BK1365.out 7
        have hnb72 := NB1326_1309.out
        have hnc72 := NB1309_1326.out
        have hnb73 := NB1326_1343.out
        have hnc73 := NB1343_1326.out
        have hcz74_0 : w59.cell? ⟨gb1326, 0, none⟩ = some (.int .i64 t1313) := (kC BK1326.out 0).trans rfl
        have hcz74_1 : w59.cell? ⟨gb1326, 1, none⟩ = some (.int .i64 t1314) := (kC BK1326.out 1).trans rfl
        have hcz74_2 : w59.cell? ⟨gb1326, 2, none⟩ = some (.int .i64 t1315) := (kC BK1326.out 2).trans rfl
        have hcz74_3 : w59.cell? ⟨gb1326, 3, none⟩ = some (.slice Ao16 t1316.length co16) := (kC BK1326.out 3).trans rfl
        have hcz74_4 : w59.cell? ⟨gb1326, 4, none⟩ = some (.int .i64 t1319) := (kC BK1326.out 4).trans rfl
        have hcz74_5 : w59.cell? ⟨gb1326, 5, none⟩ = some (.int .i64 t1320) := (kC BK1326.out 5).trans rfl
        have hcz74_6 : w59.cell? ⟨gb1326, 6, none⟩ = some (.slice Ao17 t1321.length co17) := (kC BK1326.out 6).trans rfl
        have hcz74_7 : w59.cell? ⟨gb1326, 7, none⟩ = some (.int .i64 t1324) := (kC BK1326.out 7).trans rfl
        have hfz74_0 := kF BK1326.out 0
        have hfz74_1 := kF BK1326.out 1
        have hfz74_2 := kF BK1326.out 2
        have hfz74_3 := kF BK1326.out 3
        have hfz74_4 := kF BK1326.out 4
        have hfz74_5 := kF BK1326.out 5
        have hfz74_6 := kF BK1326.out 6
        have hfz74_7 := kF BK1326.out 7
        go_wp2_with (first | ((with_reducible refine gate_callee (f := 48) rfl ?_); refine goesL_ (some 61) rfl rfl Try.func48 (by kernel_rfl) rfl #[.agg #[.int .i64 t1352, .int .i64 t1353, .int .i64 t1354, .slice Ao64 t1355.length co64, .int .i64 t1358, .int .i64 t1359, .slice Ao65 t1360.length co65, .int .i64 t1363], .agg #[.int .i64 t1313, .int .i64 t1314, .int .i64 t1315, .slice Ao16 t1316.length co16, .int .i64 t1319, .int .i64 t1320, .slice Ao17 t1321.length co17, .int .i64 t1324]] rfl (by (try simp only [List.map_toArray, List.map_cons, List.map_nil]); first | done | rfl | (simp only [List.length_drop, List.length_take]; rfl)) ?_; (with_reducible refine (laws_eqGarden.calls kj7 t1352 t1353 t1354 _ _ t1355 t1358 t1359 _ _ t1360 t1363 t1313 t1314 t1315 _ _ t1316 t1319 t1320 _ _ t1321 t1324 true _ ?side1 ?side2 ?side3 ?side4 ?side5 ?side6 ?side7 ?side8 A66.out).mono ?_); (case side1 => refine (Kd.R_reads' (e := 3) (base := w.heap.size) (ok := fun k_ => ((((some k_ ≠ (.slice Ao65 t1360.length co65 : Value).ownBlock ∧ some k_ ≠ (.slice Ao16 t1316.length co16 : Value).ownBlock) ∧ some k_ ≠ (.slice Ao17 t1321.length co17 : Value).ownBlock) ∧ some k_ ≠ (.slice Ao25 t1333.length co25 : Value).ownBlock) ∧ some k_ ≠ (.slice Ao26 t1338.length co26 : Value).ownBlock)) (n := t1355.length) (c := co64) ?_).2.2; exact (by (with_reducible repeat (first | apply Kd.R_alloc | apply Kd.R_drewN | apply Kd.R_drew)); exact (Kd.R_mono (Kd.R_far (p := ⟨gb1365, 7, none⟩) (Kd.R_far (p := ⟨gb1365, 6, none⟩) (Kd.R_far (p := ⟨gb1365, 5, none⟩) (Kd.R_far (p := ⟨gb1365, 4, none⟩) (Kd.R_far (p := ⟨gb1365, 3, none⟩) (Kd.R_far (p := ⟨gb1365, 2, none⟩) (Kd.R_far (p := ⟨gb1365, 1, none⟩) (Kd.R_far (p := ⟨gb1365, 0, none⟩) (Kd.R_types HO1357.out BK1365.out (by decide)) (fun _ hk => hk.2) (.int .i64 t1352)) (fun _ hk => hk.2) (.int .i64 t1353)) (fun _ hk => hk.2) (.int .i64 t1354)) (fun _ hk => hk.2) (.slice Ao64 t1355.length co64)) (fun _ hk => hk.2) (.int .i64 t1358)) (fun _ hk => hk.2) (.int .i64 t1359)) (fun _ hk => hk.2) (.slice Ao65 t1360.length co65)) (fun _ hk => hk.2) (.int .i64 t1363)) (fun _ h_ => h_.1)))); (case side2 => exact (Kd.R_reads' HO1357.out).2.1); (case side3 => refine (Kd.R_reads' (e := 3) (base := w.heap.size) (ok := fun k_ => ((((some k_ ≠ (.slice Ao64 t1355.length co64 : Value).ownBlock ∧ some k_ ≠ (.slice Ao16 t1316.length co16 : Value).ownBlock) ∧ some k_ ≠ (.slice Ao17 t1321.length co17 : Value).ownBlock) ∧ some k_ ≠ (.slice Ao25 t1333.length co25 : Value).ownBlock) ∧ some k_ ≠ (.slice Ao26 t1338.length co26 : Value).ownBlock)) (n := t1360.length) (c := co65) ?_).2.2; exact (by (with_reducible repeat (first | apply Kd.R_alloc | apply Kd.R_drewN | apply Kd.R_drew)); exact (Kd.R_mono (Kd.R_far (p := ⟨gb1365, 7, none⟩) (Kd.R_far (p := ⟨gb1365, 6, none⟩) (Kd.R_far (p := ⟨gb1365, 5, none⟩) (Kd.R_far (p := ⟨gb1365, 4, none⟩) (Kd.R_far (p := ⟨gb1365, 3, none⟩) (Kd.R_far (p := ⟨gb1365, 2, none⟩) (Kd.R_far (p := ⟨gb1365, 1, none⟩) (Kd.R_far (p := ⟨gb1365, 0, none⟩) (Kd.R_types HO1362.out BK1365.out (by decide)) (fun _ hk => hk.2) (.int .i64 t1352)) (fun _ hk => hk.2) (.int .i64 t1353)) (fun _ hk => hk.2) (.int .i64 t1354)) (fun _ hk => hk.2) (.slice Ao64 t1355.length co64)) (fun _ hk => hk.2) (.int .i64 t1358)) (fun _ hk => hk.2) (.int .i64 t1359)) (fun _ hk => hk.2) (.slice Ao65 t1360.length co65)) (fun _ hk => hk.2) (.int .i64 t1363)) (fun _ h_ => h_.1)))); (case side4 => exact (Kd.R_reads' HO1362.out).2.1); (case side5 => refine (Kd.R_reads' (e := 3) (base := w.heap.size) (ok := fun k_ => (((some k_ ≠ (.slice Ao17 t1321.length co17 : Value).ownBlock ∧ (some k_ ≠ (.slice Ao25 t1333.length co25 : Value).ownBlock ∧ some k_ ≠ (.slice Ao26 t1338.length co26 : Value).ownBlock)) ∧ some k_ ≠ (.slice Ao64 t1355.length co64 : Value).ownBlock) ∧ some k_ ≠ (.slice Ao65 t1360.length co65 : Value).ownBlock)) (n := t1316.length) (c := co16) ?_).2.2; exact (by (with_reducible repeat (first | apply Kd.R_alloc | apply Kd.R_drewN | apply Kd.R_drew)); exact (Kd.R_mono (Kd.R_far (p := ⟨gb1365, 7, none⟩) (Kd.R_far (p := ⟨gb1365, 6, none⟩) (Kd.R_far (p := ⟨gb1365, 5, none⟩) (Kd.R_far (p := ⟨gb1365, 4, none⟩) (Kd.R_far (p := ⟨gb1365, 3, none⟩) (Kd.R_far (p := ⟨gb1365, 2, none⟩) (Kd.R_far (p := ⟨gb1365, 1, none⟩) (Kd.R_far (p := ⟨gb1365, 0, none⟩) (Kd.R_types HO_1327003.out BK1365.out (by decide)) (fun _ hk => hk.2) (.int .i64 t1352)) (fun _ hk => hk.2) (.int .i64 t1353)) (fun _ hk => hk.2) (.int .i64 t1354)) (fun _ hk => hk.2) (.slice Ao64 t1355.length co64)) (fun _ hk => hk.2) (.int .i64 t1358)) (fun _ hk => hk.2) (.int .i64 t1359)) (fun _ hk => hk.2) (.slice Ao65 t1360.length co65)) (fun _ hk => hk.2) (.int .i64 t1363)) (fun _ h_ => h_.1)))); (case side6 => exact (Kd.R_reads' HO_1327003.out).2.1); (case side7 => refine (Kd.R_reads' (e := 3) (base := w.heap.size) (ok := fun k_ => (((some k_ ≠ (.slice Ao16 t1316.length co16 : Value).ownBlock ∧ (some k_ ≠ (.slice Ao25 t1333.length co25 : Value).ownBlock ∧ some k_ ≠ (.slice Ao26 t1338.length co26 : Value).ownBlock)) ∧ some k_ ≠ (.slice Ao64 t1355.length co64 : Value).ownBlock) ∧ some k_ ≠ (.slice Ao65 t1360.length co65 : Value).ownBlock)) (n := t1321.length) (c := co17) ?_).2.2; exact (by (with_reducible repeat (first | apply Kd.R_alloc | apply Kd.R_drewN | apply Kd.R_drew)); exact (Kd.R_mono (Kd.R_far (p := ⟨gb1365, 7, none⟩) (Kd.R_far (p := ⟨gb1365, 6, none⟩) (Kd.R_far (p := ⟨gb1365, 5, none⟩) (Kd.R_far (p := ⟨gb1365, 4, none⟩) (Kd.R_far (p := ⟨gb1365, 3, none⟩) (Kd.R_far (p := ⟨gb1365, 2, none⟩) (Kd.R_far (p := ⟨gb1365, 1, none⟩) (Kd.R_far (p := ⟨gb1365, 0, none⟩) (Kd.R_types HO_1327006.out BK1365.out (by decide)) (fun _ hk => hk.2) (.int .i64 t1352)) (fun _ hk => hk.2) (.int .i64 t1353)) (fun _ hk => hk.2) (.int .i64 t1354)) (fun _ hk => hk.2) (.slice Ao64 t1355.length co64)) (fun _ hk => hk.2) (.int .i64 t1358)) (fun _ hk => hk.2) (.int .i64 t1359)) (fun _ hk => hk.2) (.slice Ao65 t1360.length co65)) (fun _ hk => hk.2) (.int .i64 t1363)) (fun _ h_ => h_.1)))); (case side8 => exact (Kd.R_reads' HO_1327006.out).2.1); rintro e w75 ⟨rfl, hb⟩; refine ⟨_, rfl, ?_⟩; have n0_ := aK (Kd.R_below (by (with_reducible repeat (first | apply Kd.R_alloc | apply Kd.R_drewN | apply Kd.R_drew)); exact (Kd.R_mono (Kd.R_far (p := ⟨gb1365, 7, none⟩) (Kd.R_far (p := ⟨gb1365, 6, none⟩) (Kd.R_far (p := ⟨gb1365, 5, none⟩) (Kd.R_far (p := ⟨gb1365, 4, none⟩) (Kd.R_far (p := ⟨gb1365, 3, none⟩) (Kd.R_far (p := ⟨gb1365, 2, none⟩) (Kd.R_far (p := ⟨gb1365, 1, none⟩) (Kd.R_far (p := ⟨gb1365, 0, none⟩) (Kd.R_types HO_1327003.out BK1365.out (by decide)) (fun _ hk => hk.2) (.int .i64 t1352)) (fun _ hk => hk.2) (.int .i64 t1353)) (fun _ hk => hk.2) (.int .i64 t1354)) (fun _ hk => hk.2) (.slice Ao64 t1355.length co64)) (fun _ hk => hk.2) (.int .i64 t1358)) (fun _ hk => hk.2) (.int .i64 t1359)) (fun _ hk => hk.2) (.slice Ao65 t1360.length co65)) (fun _ hk => hk.2) (.int .i64 t1363)) (fun _ h_ => h_.1))) hb); have n1_ := aK (Kd.R_below (by (with_reducible repeat (first | apply Kd.R_alloc | apply Kd.R_drewN | apply Kd.R_drew)); exact (Kd.R_mono (Kd.R_far (p := ⟨gb1365, 7, none⟩) (Kd.R_far (p := ⟨gb1365, 6, none⟩) (Kd.R_far (p := ⟨gb1365, 5, none⟩) (Kd.R_far (p := ⟨gb1365, 4, none⟩) (Kd.R_far (p := ⟨gb1365, 3, none⟩) (Kd.R_far (p := ⟨gb1365, 2, none⟩) (Kd.R_far (p := ⟨gb1365, 1, none⟩) (Kd.R_far (p := ⟨gb1365, 0, none⟩) (Kd.R_types HO_1327006.out BK1365.out (by decide)) (fun _ hk => hk.2) (.int .i64 t1352)) (fun _ hk => hk.2) (.int .i64 t1353)) (fun _ hk => hk.2) (.int .i64 t1354)) (fun _ hk => hk.2) (.slice Ao64 t1355.length co64)) (fun _ hk => hk.2) (.int .i64 t1358)) (fun _ hk => hk.2) (.int .i64 t1359)) (fun _ hk => hk.2) (.slice Ao65 t1360.length co65)) (fun _ hk => hk.2) (.int .i64 t1363)) (fun _ h_ => h_.1))) hb); have n2_ := aK (Kd.R_below (by (with_reducible repeat (first | apply Kd.R_alloc | apply Kd.R_drewN | apply Kd.R_drew)); exact (Kd.R_mono (Kd.R_far (p := ⟨gb1365, 7, none⟩) (Kd.R_far (p := ⟨gb1365, 6, none⟩) (Kd.R_far (p := ⟨gb1365, 5, none⟩) (Kd.R_far (p := ⟨gb1365, 4, none⟩) (Kd.R_far (p := ⟨gb1365, 3, none⟩) (Kd.R_far (p := ⟨gb1365, 2, none⟩) (Kd.R_far (p := ⟨gb1365, 1, none⟩) (Kd.R_far (p := ⟨gb1365, 0, none⟩) (Kd.R_types HO_1344003.out BK1365.out (by decide)) (fun _ hk => hk.2) (.int .i64 t1352)) (fun _ hk => hk.2) (.int .i64 t1353)) (fun _ hk => hk.2) (.int .i64 t1354)) (fun _ hk => hk.2) (.slice Ao64 t1355.length co64)) (fun _ hk => hk.2) (.int .i64 t1358)) (fun _ hk => hk.2) (.int .i64 t1359)) (fun _ hk => hk.2) (.slice Ao65 t1360.length co65)) (fun _ hk => hk.2) (.int .i64 t1363)) (fun _ h_ => h_.1))) hb); have n3_ := aK (Kd.R_below (by (with_reducible repeat (first | apply Kd.R_alloc | apply Kd.R_drewN | apply Kd.R_drew)); exact (Kd.R_mono (Kd.R_far (p := ⟨gb1365, 7, none⟩) (Kd.R_far (p := ⟨gb1365, 6, none⟩) (Kd.R_far (p := ⟨gb1365, 5, none⟩) (Kd.R_far (p := ⟨gb1365, 4, none⟩) (Kd.R_far (p := ⟨gb1365, 3, none⟩) (Kd.R_far (p := ⟨gb1365, 2, none⟩) (Kd.R_far (p := ⟨gb1365, 1, none⟩) (Kd.R_far (p := ⟨gb1365, 0, none⟩) (Kd.R_types HO_1344006.out BK1365.out (by decide)) (fun _ hk => hk.2) (.int .i64 t1352)) (fun _ hk => hk.2) (.int .i64 t1353)) (fun _ hk => hk.2) (.int .i64 t1354)) (fun _ hk => hk.2) (.slice Ao64 t1355.length co64)) (fun _ hk => hk.2) (.int .i64 t1358)) (fun _ hk => hk.2) (.int .i64 t1359)) (fun _ hk => hk.2) (.slice Ao65 t1360.length co65)) (fun _ hk => hk.2) (.int .i64 t1363)) (fun _ h_ => h_.1))) hb); have n4_ := aK (Kd.R_below (by (with_reducible repeat (first | apply Kd.R_alloc | apply Kd.R_drewN | apply Kd.R_drew)); exact (Kd.R_mono (Kd.R_far (p := ⟨gb1365, 7, none⟩) (Kd.R_far (p := ⟨gb1365, 6, none⟩) (Kd.R_far (p := ⟨gb1365, 5, none⟩) (Kd.R_far (p := ⟨gb1365, 4, none⟩) (Kd.R_far (p := ⟨gb1365, 3, none⟩) (Kd.R_far (p := ⟨gb1365, 2, none⟩) (Kd.R_far (p := ⟨gb1365, 1, none⟩) (Kd.R_far (p := ⟨gb1365, 0, none⟩) (Kd.R_types HO1357.out BK1365.out (by decide)) (fun _ hk => hk.2) (.int .i64 t1352)) (fun _ hk => hk.2) (.int .i64 t1353)) (fun _ hk => hk.2) (.int .i64 t1354)) (fun _ hk => hk.2) (.slice Ao64 t1355.length co64)) (fun _ hk => hk.2) (.int .i64 t1358)) (fun _ hk => hk.2) (.int .i64 t1359)) (fun _ hk => hk.2) (.slice Ao65 t1360.length co65)) (fun _ hk => hk.2) (.int .i64 t1363)) (fun _ h_ => h_.1))) hb); have n5_ := aK (Kd.R_below (by (with_reducible repeat (first | apply Kd.R_alloc | apply Kd.R_drewN | apply Kd.R_drew)); exact (Kd.R_mono (Kd.R_far (p := ⟨gb1365, 7, none⟩) (Kd.R_far (p := ⟨gb1365, 6, none⟩) (Kd.R_far (p := ⟨gb1365, 5, none⟩) (Kd.R_far (p := ⟨gb1365, 4, none⟩) (Kd.R_far (p := ⟨gb1365, 3, none⟩) (Kd.R_far (p := ⟨gb1365, 2, none⟩) (Kd.R_far (p := ⟨gb1365, 1, none⟩) (Kd.R_far (p := ⟨gb1365, 0, none⟩) (Kd.R_types HO1362.out BK1365.out (by decide)) (fun _ hk => hk.2) (.int .i64 t1352)) (fun _ hk => hk.2) (.int .i64 t1353)) (fun _ hk => hk.2) (.int .i64 t1354)) (fun _ hk => hk.2) (.slice Ao64 t1355.length co64)) (fun _ hk => hk.2) (.int .i64 t1358)) (fun _ hk => hk.2) (.int .i64 t1359)) (fun _ hk => hk.2) (.slice Ao65 t1360.length co65)) (fun _ hk => hk.2) (.int .i64 t1363)) (fun _ h_ => h_.1))) hb); have n6_ := bkb BK1309 hb (by intro z_; (with_reducible repeat (first | refine blk_drewN ?_ _ | refine kD ?_ | refine kA ?_ _)); refine blk_far ?_ NB1309_1365.out _; (with_reducible repeat (first | refine blk_drewN ?_ _ | refine kD ?_ | refine kA ?_ _)); refine blk_far ?_ NB1309_1365.out _; (with_reducible repeat (first | refine blk_drewN ?_ _ | refine kD ?_ | refine kA ?_ _)); refine blk_far ?_ NB1309_1365.out _; (with_reducible repeat (first | refine blk_drewN ?_ _ | refine kD ?_ | refine kA ?_ _)); refine blk_far ?_ NB1309_1365.out _; (with_reducible repeat (first | refine blk_drewN ?_ _ | refine kD ?_ | refine kA ?_ _)); refine blk_far ?_ NB1309_1365.out _; (with_reducible repeat (first | refine blk_drewN ?_ _ | refine kD ?_ | refine kA ?_ _)); refine blk_far ?_ NB1309_1365.out _; (with_reducible repeat (first | refine blk_drewN ?_ _ | refine kD ?_ | refine kA ?_ _)); refine blk_far ?_ NB1309_1365.out _; (with_reducible repeat (first | refine blk_drewN ?_ _ | refine kD ?_ | refine kA ?_ _)); refine blk_far ?_ NB1309_1365.out _; (with_reducible repeat (first | refine blk_drewN ?_ _ | refine kD ?_ | refine kA ?_ _)); exact z_); have n7_ := bkb BK1326 hb (by intro z_; (with_reducible repeat (first | refine blk_drewN ?_ _ | refine kD ?_ | refine kA ?_ _)); refine blk_far ?_ NB1326_1365.out _; (with_reducible repeat (first | refine blk_drewN ?_ _ | refine kD ?_ | refine kA ?_ _)); refine blk_far ?_ NB1326_1365.out _; (with_reducible repeat (first | refine blk_drewN ?_ _ | refine kD ?_ | refine kA ?_ _)); refine blk_far ?_ NB1326_1365.out _; (with_reducible repeat (first | refine blk_drewN ?_ _ | refine kD ?_ | refine kA ?_ _)); refine blk_far ?_ NB1326_1365.out _; (with_reducible repeat (first | refine blk_drewN ?_ _ | refine kD ?_ | refine kA ?_ _)); refine blk_far ?_ NB1326_1365.out _; (with_reducible repeat (first | refine blk_drewN ?_ _ | refine kD ?_ | refine kA ?_ _)); refine blk_far ?_ NB1326_1365.out _; (with_reducible repeat (first | refine blk_drewN ?_ _ | refine kD ?_ | refine kA ?_ _)); refine blk_far ?_ NB1326_1365.out _; (with_reducible repeat (first | refine blk_drewN ?_ _ | refine kD ?_ | refine kA ?_ _)); refine blk_far ?_ NB1326_1365.out _; (with_reducible repeat (first | refine blk_drewN ?_ _ | refine kD ?_ | refine kA ?_ _)); exact z_); have n8_ := bkb BK1343 hb (by intro z_; (with_reducible repeat (first | refine blk_drewN ?_ _ | refine kD ?_ | refine kA ?_ _)); refine blk_far ?_ NB1343_1365.out _; (with_reducible repeat (first | refine blk_drewN ?_ _ | refine kD ?_ | refine kA ?_ _)); refine blk_far ?_ NB1343_1365.out _; (with_reducible repeat (first | refine blk_drewN ?_ _ | refine kD ?_ | refine kA ?_ _)); refine blk_far ?_ NB1343_1365.out _; (with_reducible repeat (first | refine blk_drewN ?_ _ | refine kD ?_ | refine kA ?_ _)); refine blk_far ?_ NB1343_1365.out _; (with_reducible repeat (first | refine blk_drewN ?_ _ | refine kD ?_ | refine kA ?_ _)); refine blk_far ?_ NB1343_1365.out _; (with_reducible repeat (first | refine blk_drewN ?_ _ | refine kD ?_ | refine kA ?_ _)); refine blk_far ?_ NB1343_1365.out _; (with_reducible repeat (first | refine blk_drewN ?_ _ | refine kD ?_ | refine kA ?_ _)); refine blk_far ?_ NB1343_1365.out _; (with_reducible repeat (first | refine blk_drewN ?_ _ | refine kD ?_ | refine kA ?_ _)); refine blk_far ?_ NB1343_1365.out _; (with_reducible repeat (first | refine blk_drewN ?_ _ | refine kD ?_ | refine kA ?_ _)); exact z_); have n9_ := aK (blk_below (g := gb1365) (o := .cells #[.int .i64 t1352, .int .i64 t1353, .int .i64 t1354, .slice Ao64 t1355.length co64, .int .i64 t1358, .int .i64 t1359, .slice Ao65 t1360.length co65, .int .i64 t1363] 84 (0, 0)) (by (with_reducible repeat (first | refine blk_drewN ?_ _ | refine kD ?_ | refine kA ?_ _)); refine blk_put (cs := #[.int .i64 t1352, .int .i64 t1353, .int .i64 t1354, .slice Ao64 t1355.length co64, .int .i64 t1358, .int .i64 t1359, .slice Ao65 t1360.length co65, .int .i64 0]) ?_ 7 _ rfl; (with_reducible repeat (first | refine blk_drewN ?_ _ | refine kD ?_ | refine kA ?_ _)); refine blk_put (cs := #[.int .i64 t1352, .int .i64 t1353, .int .i64 t1354, .slice Ao64 t1355.length co64, .int .i64 t1358, .int .i64 t1359, .slice none 0 0, .int .i64 0]) ?_ 6 _ rfl; (with_reducible repeat (first | refine blk_drewN ?_ _ | refine kD ?_ | refine kA ?_ _)); refine blk_put (cs := #[.int .i64 t1352, .int .i64 t1353, .int .i64 t1354, .slice Ao64 t1355.length co64, .int .i64 t1358, .int .i64 0, .slice none 0 0, .int .i64 0]) ?_ 5 _ rfl; (with_reducible repeat (first | refine blk_drewN ?_ _ | refine kD ?_ | refine kA ?_ _)); refine blk_put (cs := #[.int .i64 t1352, .int .i64 t1353, .int .i64 t1354, .slice Ao64 t1355.length co64, .int .i64 0, .int .i64 0, .slice none 0 0, .int .i64 0]) ?_ 4 _ rfl; (with_reducible repeat (first | refine blk_drewN ?_ _ | refine kD ?_ | refine kA ?_ _)); refine blk_put (cs := #[.int .i64 t1352, .int .i64 t1353, .int .i64 t1354, .slice none 0 0, .int .i64 0, .int .i64 0, .slice none 0 0, .int .i64 0]) ?_ 3 _ rfl; (with_reducible repeat (first | refine blk_drewN ?_ _ | refine kD ?_ | refine kA ?_ _)); refine blk_put (cs := #[.int .i64 t1352, .int .i64 t1353, .int .i64 0, .slice none 0 0, .int .i64 0, .int .i64 0, .slice none 0 0, .int .i64 0]) ?_ 2 _ rfl; (with_reducible repeat (first | refine blk_drewN ?_ _ | refine kD ?_ | refine kA ?_ _)); refine blk_put (cs := #[.int .i64 t1352, .int .i64 0, .int .i64 0, .slice none 0 0, .int .i64 0, .int .i64 0, .slice none 0 0, .int .i64 0]) ?_ 1 _ rfl; (with_reducible repeat (first | refine blk_drewN ?_ _ | refine kD ?_ | refine kA ?_ _)); refine blk_put (cs := #[.int .i64 0, .int .i64 0, .int .i64 0, .slice none 0 0, .int .i64 0, .int .i64 0, .slice none 0 0, .int .i64 0]) ?_ 0 _ rfl; (with_reducible repeat (first | refine blk_drewN ?_ _ | refine kD ?_ | refine kA ?_ _)); exact BK1365.out) hb); have n10_ := aK (bSp (by repeat (first | (with_reducible first | exact HB.out | apply bAl | apply bDN | apply bD1 | refine bSt ?_ GE1309.out | refine bSt ?_ GE1326.out | refine bSt ?_ GE1343.out | refine bSt ?_ GE1365.out) | exact HB.out)) hb); clear HO_1327003; clear HO_1327006; clear HO_1344003; clear HO_1344006; clear HO1357; clear HO1362; clear BK1309; clear BK1326; clear BK1343; clear BK1365; clear HB; have HO_1327003 := n0_; have HO_1327006 := n1_; have HO_1344003 := n2_; have HO_1344006 := n3_; have HO1357 := n4_; have HO1362 := n5_; have BK1309 := n6_; have BK1326 := n7_; have BK1343 := n8_; have BK1365 := n9_; have HB := n10_; clear n0_ n1_ n2_ n3_ n4_ n5_ n6_ n7_ n8_ n9_ n10_; (try clear hb); (try clear hb2); (try clear hk); (try clear hi)))
        go_meet
        case rel => exact ⟨_, ((t1364 != t1325)), (by first | rfl | (simp; done) | (simp [*]; done)), H', ⟨by have := HJ7.out; first | omega | exact Nat.le_refl _⟩, ⟨by (with_reducible repeat (first | apply Kd.R_alloc | apply Kd.R_drewN | apply Kd.R_drew)); exact Kd.R_mono HO_1327003.out (fun _ hk => ⟨hk.1.1.1, ⟨hk.1.1.2.1, ⟨hk.1.1.2.2, ⟨hk.1.2, hk.2⟩⟩⟩⟩)⟩, ⟨by (with_reducible repeat (first | apply Kd.R_alloc | apply Kd.R_drewN | apply Kd.R_drew)); exact Kd.R_mono HO_1327006.out (fun _ hk => ⟨hk.1.1.1, ⟨hk.1.1.2.1, ⟨hk.1.1.2.2, ⟨hk.1.2, hk.2⟩⟩⟩⟩)⟩, ⟨by (with_reducible repeat (first | apply Kd.R_alloc | apply Kd.R_drewN | apply Kd.R_drew)); exact Kd.R_mono HO_1344003.out (fun _ hk => ⟨hk.1.1.1, ⟨hk.1.1.2.1, ⟨hk.1.1.2.2, ⟨hk.1.2, hk.2⟩⟩⟩⟩)⟩, ⟨by (with_reducible repeat (first | apply Kd.R_alloc | apply Kd.R_drewN | apply Kd.R_drew)); exact Kd.R_mono HO_1344006.out (fun _ hk => ⟨hk.1.1.1, ⟨hk.1.1.2.1, ⟨hk.1.1.2.2, ⟨hk.1.2, hk.2⟩⟩⟩⟩)⟩, ⟨by (with_reducible repeat (first | apply Kd.R_alloc | apply Kd.R_drewN | apply Kd.R_drew)); exact Kd.R_mono HO1357.out (fun _ hk => ⟨hk.1.1.1.2, ⟨hk.1.1.2, ⟨hk.1.2, ⟨hk.2, hk.1.1.1.1⟩⟩⟩⟩)⟩, ⟨by (with_reducible repeat (first | apply Kd.R_alloc | apply Kd.R_drewN | apply Kd.R_drew)); exact Kd.R_mono HO1362.out (fun _ hk => ⟨hk.1.1.1.2, ⟨hk.1.1.2, ⟨hk.1.2, ⟨hk.2, hk.1.1.1.1⟩⟩⟩⟩)⟩, ⟨by (with_reducible repeat (first | refine blk_drewN ?_ _ | refine kD ?_ | refine kA ?_ _)); exact BK1309.out⟩, ⟨by (with_reducible repeat (first | refine blk_drewN ?_ _ | refine kD ?_ | refine kA ?_ _)); exact BK1326.out⟩, ⟨by (with_reducible repeat (first | refine blk_drewN ?_ _ | refine kD ?_ | refine kA ?_ _)); exact BK1343.out⟩, ⟨by (with_reducible repeat (first | refine blk_drewN ?_ _ | refine kD ?_ | refine kA ?_ _)); exact BK1365.out⟩, ⟨by repeat (first | (with_reducible first | exact HB.out | apply bAl | apply bDN | apply bD1 | refine bSt ?_ GE1309.out | refine bSt ?_ GE1326.out | refine bSt ?_ GE1343.out | refine bSt ?_ GE1365.out) | exact HB.out)⟩⟩
       ·replace c67 := Bool.eq_false_iff.mpr c67
        subst c67
        have H1 : (laws_FnExactNewGarden.j1 kj7 t1345 true t1330 t1331 t1332 t1346 t1336 t1337 t1347 t1341) = some true := by rw [if_neg (show ¬ (false = true) by decide)] at H; exact H
        clear H
        have H := H1
        clear H1
        have H' := aK H
        clear H
        have hnb76 := NB1365_1309.out
        have hnc76 := NB1309_1365.out
        have hnb77 := NB1365_1326.out
        have hnc77 := NB1326_1365.out
        have hnb78 := NB1365_1343.out
        have hnc78 := NB1343_1365.out
        have hcz79_0 : w59.cell? ⟨gb1365, 0, none⟩ = some (.int .i64 0) := (kC BK1365.out 0).trans rfl
        have hcz79_1 : w59.cell? ⟨gb1365, 1, none⟩ = some (.int .i64 0) := (kC BK1365.out 1).trans rfl
        have hcz79_2 : w59.cell? ⟨gb1365, 2, none⟩ = some (.int .i64 0) := (kC BK1365.out 2).trans rfl
        have hcz79_3 : w59.cell? ⟨gb1365, 3, none⟩ = some (.slice none 0 0) := (kC BK1365.out 3).trans rfl
        have hcz79_4 : w59.cell? ⟨gb1365, 4, none⟩ = some (.int .i64 0) := (kC BK1365.out 4).trans rfl
        have hcz79_5 : w59.cell? ⟨gb1365, 5, none⟩ = some (.int .i64 0) := (kC BK1365.out 5).trans rfl
        have hcz79_6 : w59.cell? ⟨gb1365, 6, none⟩ = some (.slice none 0 0) := (kC BK1365.out 6).trans rfl
        have hcz79_7 : w59.cell? ⟨gb1365, 7, none⟩ = some (.int .i64 0) := (kC BK1365.out 7).trans rfl
        have hfz79_0 := kF BK1365.out 0
        have hfz79_1 := kF BK1365.out 1
        have hfz79_2 := kF BK1365.out 2
        have hfz79_3 := kF BK1365.out 3
        have hfz79_4 := kF BK1365.out 4
        have hfz79_5 := kF BK1365.out 5
        have hfz79_6 := kF BK1365.out 6
        have hfz79_7 := kF BK1365.out 7
        have hnb80 := NB1326_1309.out
        have hnc80 := NB1309_1326.out
        have hnb81 := NB1326_1343.out
        have hnc81 := NB1343_1326.out
        have hcz82_0 : w59.cell? ⟨gb1326, 0, none⟩ = some (.int .i64 t1313) := (kC BK1326.out 0).trans rfl
        have hcz82_1 : w59.cell? ⟨gb1326, 1, none⟩ = some (.int .i64 t1314) := (kC BK1326.out 1).trans rfl
        have hcz82_2 : w59.cell? ⟨gb1326, 2, none⟩ = some (.int .i64 t1315) := (kC BK1326.out 2).trans rfl
        have hcz82_3 : w59.cell? ⟨gb1326, 3, none⟩ = some (.slice Ao16 t1316.length co16) := (kC BK1326.out 3).trans rfl
        have hcz82_4 : w59.cell? ⟨gb1326, 4, none⟩ = some (.int .i64 t1319) := (kC BK1326.out 4).trans rfl
        have hcz82_5 : w59.cell? ⟨gb1326, 5, none⟩ = some (.int .i64 t1320) := (kC BK1326.out 5).trans rfl
        have hcz82_6 : w59.cell? ⟨gb1326, 6, none⟩ = some (.slice Ao17 t1321.length co17) := (kC BK1326.out 6).trans rfl
        have hcz82_7 : w59.cell? ⟨gb1326, 7, none⟩ = some (.int .i64 t1324) := (kC BK1326.out 7).trans rfl
        have hfz82_0 := kF BK1326.out 0
        have hfz82_1 := kF BK1326.out 1
        have hfz82_2 := kF BK1326.out 2
        have hfz82_3 := kF BK1326.out 3
        have hfz82_4 := kF BK1326.out 4
        have hfz82_5 := kF BK1326.out 5
        have hfz82_6 := kF BK1326.out 6
        have hfz82_7 := kF BK1326.out 7
        go_wp2_with (first | ((with_reducible refine gate_callee (f := 48) rfl ?_); refine goesL_ (some 61) rfl rfl Try.func48 (by kernel_rfl) rfl #[.agg #[.int .i64 t1352, .int .i64 t1353, .int .i64 t1354, .slice Ao64 t1355.length co64, .int .i64 t1358, .int .i64 t1359, .slice Ao65 t1360.length co65, .int .i64 t1363], .agg #[.int .i64 t1313, .int .i64 t1314, .int .i64 t1315, .slice Ao16 t1316.length co16, .int .i64 t1319, .int .i64 t1320, .slice Ao17 t1321.length co17, .int .i64 t1324]] rfl (by (try simp only [List.map_toArray, List.map_cons, List.map_nil]); first | done | rfl | (simp only [List.length_drop, List.length_take]; rfl)) ?_; (with_reducible refine (laws_eqGarden.calls kj7 t1352 t1353 t1354 _ _ t1355 t1358 t1359 _ _ t1360 t1363 t1313 t1314 t1315 _ _ t1316 t1319 t1320 _ _ t1321 t1324 false _ ?side1 ?side2 ?side3 ?side4 ?side5 ?side6 ?side7 ?side8 A66.out).mono ?_); (case side1 => refine (Kd.R_reads' (e := 3) (base := w.heap.size) (ok := fun k_ => ((((some k_ ≠ (.slice Ao65 t1360.length co65 : Value).ownBlock ∧ some k_ ≠ (.slice Ao16 t1316.length co16 : Value).ownBlock) ∧ some k_ ≠ (.slice Ao17 t1321.length co17 : Value).ownBlock) ∧ some k_ ≠ (.slice Ao25 t1333.length co25 : Value).ownBlock) ∧ some k_ ≠ (.slice Ao26 t1338.length co26 : Value).ownBlock)) (n := t1355.length) (c := co64) ?_).2.2; exact (by (with_reducible repeat (first | apply Kd.R_alloc | apply Kd.R_drewN | apply Kd.R_drew)); exact (Kd.R_mono (Kd.R_far (p := ⟨gb1365, 7, none⟩) (Kd.R_far (p := ⟨gb1365, 6, none⟩) (Kd.R_far (p := ⟨gb1365, 5, none⟩) (Kd.R_far (p := ⟨gb1365, 4, none⟩) (Kd.R_far (p := ⟨gb1365, 3, none⟩) (Kd.R_far (p := ⟨gb1365, 2, none⟩) (Kd.R_far (p := ⟨gb1365, 1, none⟩) (Kd.R_far (p := ⟨gb1365, 0, none⟩) (Kd.R_types HO1357.out BK1365.out (by decide)) (fun _ hk => hk.2) (.int .i64 t1352)) (fun _ hk => hk.2) (.int .i64 t1353)) (fun _ hk => hk.2) (.int .i64 t1354)) (fun _ hk => hk.2) (.slice Ao64 t1355.length co64)) (fun _ hk => hk.2) (.int .i64 t1358)) (fun _ hk => hk.2) (.int .i64 t1359)) (fun _ hk => hk.2) (.slice Ao65 t1360.length co65)) (fun _ hk => hk.2) (.int .i64 t1363)) (fun _ h_ => h_.1)))); (case side2 => exact (Kd.R_reads' HO1357.out).2.1); (case side3 => refine (Kd.R_reads' (e := 3) (base := w.heap.size) (ok := fun k_ => ((((some k_ ≠ (.slice Ao64 t1355.length co64 : Value).ownBlock ∧ some k_ ≠ (.slice Ao16 t1316.length co16 : Value).ownBlock) ∧ some k_ ≠ (.slice Ao17 t1321.length co17 : Value).ownBlock) ∧ some k_ ≠ (.slice Ao25 t1333.length co25 : Value).ownBlock) ∧ some k_ ≠ (.slice Ao26 t1338.length co26 : Value).ownBlock)) (n := t1360.length) (c := co65) ?_).2.2; exact (by (with_reducible repeat (first | apply Kd.R_alloc | apply Kd.R_drewN | apply Kd.R_drew)); exact (Kd.R_mono (Kd.R_far (p := ⟨gb1365, 7, none⟩) (Kd.R_far (p := ⟨gb1365, 6, none⟩) (Kd.R_far (p := ⟨gb1365, 5, none⟩) (Kd.R_far (p := ⟨gb1365, 4, none⟩) (Kd.R_far (p := ⟨gb1365, 3, none⟩) (Kd.R_far (p := ⟨gb1365, 2, none⟩) (Kd.R_far (p := ⟨gb1365, 1, none⟩) (Kd.R_far (p := ⟨gb1365, 0, none⟩) (Kd.R_types HO1362.out BK1365.out (by decide)) (fun _ hk => hk.2) (.int .i64 t1352)) (fun _ hk => hk.2) (.int .i64 t1353)) (fun _ hk => hk.2) (.int .i64 t1354)) (fun _ hk => hk.2) (.slice Ao64 t1355.length co64)) (fun _ hk => hk.2) (.int .i64 t1358)) (fun _ hk => hk.2) (.int .i64 t1359)) (fun _ hk => hk.2) (.slice Ao65 t1360.length co65)) (fun _ hk => hk.2) (.int .i64 t1363)) (fun _ h_ => h_.1)))); (case side4 => exact (Kd.R_reads' HO1362.out).2.1); (case side5 => refine (Kd.R_reads' (e := 3) (base := w.heap.size) (ok := fun k_ => (((some k_ ≠ (.slice Ao17 t1321.length co17 : Value).ownBlock ∧ (some k_ ≠ (.slice Ao25 t1333.length co25 : Value).ownBlock ∧ some k_ ≠ (.slice Ao26 t1338.length co26 : Value).ownBlock)) ∧ some k_ ≠ (.slice Ao64 t1355.length co64 : Value).ownBlock) ∧ some k_ ≠ (.slice Ao65 t1360.length co65 : Value).ownBlock)) (n := t1316.length) (c := co16) ?_).2.2; exact (by (with_reducible repeat (first | apply Kd.R_alloc | apply Kd.R_drewN | apply Kd.R_drew)); exact (Kd.R_mono (Kd.R_far (p := ⟨gb1365, 7, none⟩) (Kd.R_far (p := ⟨gb1365, 6, none⟩) (Kd.R_far (p := ⟨gb1365, 5, none⟩) (Kd.R_far (p := ⟨gb1365, 4, none⟩) (Kd.R_far (p := ⟨gb1365, 3, none⟩) (Kd.R_far (p := ⟨gb1365, 2, none⟩) (Kd.R_far (p := ⟨gb1365, 1, none⟩) (Kd.R_far (p := ⟨gb1365, 0, none⟩) (Kd.R_types HO_1327003.out BK1365.out (by decide)) (fun _ hk => hk.2) (.int .i64 t1352)) (fun _ hk => hk.2) (.int .i64 t1353)) (fun _ hk => hk.2) (.int .i64 t1354)) (fun _ hk => hk.2) (.slice Ao64 t1355.length co64)) (fun _ hk => hk.2) (.int .i64 t1358)) (fun _ hk => hk.2) (.int .i64 t1359)) (fun _ hk => hk.2) (.slice Ao65 t1360.length co65)) (fun _ hk => hk.2) (.int .i64 t1363)) (fun _ h_ => h_.1)))); (case side6 => exact (Kd.R_reads' HO_1327003.out).2.1); (case side7 => refine (Kd.R_reads' (e := 3) (base := w.heap.size) (ok := fun k_ => (((some k_ ≠ (.slice Ao16 t1316.length co16 : Value).ownBlock ∧ (some k_ ≠ (.slice Ao25 t1333.length co25 : Value).ownBlock ∧ some k_ ≠ (.slice Ao26 t1338.length co26 : Value).ownBlock)) ∧ some k_ ≠ (.slice Ao64 t1355.length co64 : Value).ownBlock) ∧ some k_ ≠ (.slice Ao65 t1360.length co65 : Value).ownBlock)) (n := t1321.length) (c := co17) ?_).2.2; exact (by (with_reducible repeat (first | apply Kd.R_alloc | apply Kd.R_drewN | apply Kd.R_drew)); exact (Kd.R_mono (Kd.R_far (p := ⟨gb1365, 7, none⟩) (Kd.R_far (p := ⟨gb1365, 6, none⟩) (Kd.R_far (p := ⟨gb1365, 5, none⟩) (Kd.R_far (p := ⟨gb1365, 4, none⟩) (Kd.R_far (p := ⟨gb1365, 3, none⟩) (Kd.R_far (p := ⟨gb1365, 2, none⟩) (Kd.R_far (p := ⟨gb1365, 1, none⟩) (Kd.R_far (p := ⟨gb1365, 0, none⟩) (Kd.R_types HO_1327006.out BK1365.out (by decide)) (fun _ hk => hk.2) (.int .i64 t1352)) (fun _ hk => hk.2) (.int .i64 t1353)) (fun _ hk => hk.2) (.int .i64 t1354)) (fun _ hk => hk.2) (.slice Ao64 t1355.length co64)) (fun _ hk => hk.2) (.int .i64 t1358)) (fun _ hk => hk.2) (.int .i64 t1359)) (fun _ hk => hk.2) (.slice Ao65 t1360.length co65)) (fun _ hk => hk.2) (.int .i64 t1363)) (fun _ h_ => h_.1)))); (case side8 => exact (Kd.R_reads' HO_1327006.out).2.1); rintro e w83 ⟨rfl, hb⟩; refine ⟨_, rfl, ?_⟩; have n0_ := aK (Kd.R_below (by (with_reducible repeat (first | apply Kd.R_alloc | apply Kd.R_drewN | apply Kd.R_drew)); exact (Kd.R_mono (Kd.R_far (p := ⟨gb1365, 7, none⟩) (Kd.R_far (p := ⟨gb1365, 6, none⟩) (Kd.R_far (p := ⟨gb1365, 5, none⟩) (Kd.R_far (p := ⟨gb1365, 4, none⟩) (Kd.R_far (p := ⟨gb1365, 3, none⟩) (Kd.R_far (p := ⟨gb1365, 2, none⟩) (Kd.R_far (p := ⟨gb1365, 1, none⟩) (Kd.R_far (p := ⟨gb1365, 0, none⟩) (Kd.R_types HO_1327003.out BK1365.out (by decide)) (fun _ hk => hk.2) (.int .i64 t1352)) (fun _ hk => hk.2) (.int .i64 t1353)) (fun _ hk => hk.2) (.int .i64 t1354)) (fun _ hk => hk.2) (.slice Ao64 t1355.length co64)) (fun _ hk => hk.2) (.int .i64 t1358)) (fun _ hk => hk.2) (.int .i64 t1359)) (fun _ hk => hk.2) (.slice Ao65 t1360.length co65)) (fun _ hk => hk.2) (.int .i64 t1363)) (fun _ h_ => h_.1))) hb); have n1_ := aK (Kd.R_below (by (with_reducible repeat (first | apply Kd.R_alloc | apply Kd.R_drewN | apply Kd.R_drew)); exact (Kd.R_mono (Kd.R_far (p := ⟨gb1365, 7, none⟩) (Kd.R_far (p := ⟨gb1365, 6, none⟩) (Kd.R_far (p := ⟨gb1365, 5, none⟩) (Kd.R_far (p := ⟨gb1365, 4, none⟩) (Kd.R_far (p := ⟨gb1365, 3, none⟩) (Kd.R_far (p := ⟨gb1365, 2, none⟩) (Kd.R_far (p := ⟨gb1365, 1, none⟩) (Kd.R_far (p := ⟨gb1365, 0, none⟩) (Kd.R_types HO_1327006.out BK1365.out (by decide)) (fun _ hk => hk.2) (.int .i64 t1352)) (fun _ hk => hk.2) (.int .i64 t1353)) (fun _ hk => hk.2) (.int .i64 t1354)) (fun _ hk => hk.2) (.slice Ao64 t1355.length co64)) (fun _ hk => hk.2) (.int .i64 t1358)) (fun _ hk => hk.2) (.int .i64 t1359)) (fun _ hk => hk.2) (.slice Ao65 t1360.length co65)) (fun _ hk => hk.2) (.int .i64 t1363)) (fun _ h_ => h_.1))) hb); have n2_ := aK (Kd.R_below (by (with_reducible repeat (first | apply Kd.R_alloc | apply Kd.R_drewN | apply Kd.R_drew)); exact (Kd.R_mono (Kd.R_far (p := ⟨gb1365, 7, none⟩) (Kd.R_far (p := ⟨gb1365, 6, none⟩) (Kd.R_far (p := ⟨gb1365, 5, none⟩) (Kd.R_far (p := ⟨gb1365, 4, none⟩) (Kd.R_far (p := ⟨gb1365, 3, none⟩) (Kd.R_far (p := ⟨gb1365, 2, none⟩) (Kd.R_far (p := ⟨gb1365, 1, none⟩) (Kd.R_far (p := ⟨gb1365, 0, none⟩) (Kd.R_types HO_1344003.out BK1365.out (by decide)) (fun _ hk => hk.2) (.int .i64 t1352)) (fun _ hk => hk.2) (.int .i64 t1353)) (fun _ hk => hk.2) (.int .i64 t1354)) (fun _ hk => hk.2) (.slice Ao64 t1355.length co64)) (fun _ hk => hk.2) (.int .i64 t1358)) (fun _ hk => hk.2) (.int .i64 t1359)) (fun _ hk => hk.2) (.slice Ao65 t1360.length co65)) (fun _ hk => hk.2) (.int .i64 t1363)) (fun _ h_ => h_.1))) hb); have n3_ := aK (Kd.R_below (by (with_reducible repeat (first | apply Kd.R_alloc | apply Kd.R_drewN | apply Kd.R_drew)); exact (Kd.R_mono (Kd.R_far (p := ⟨gb1365, 7, none⟩) (Kd.R_far (p := ⟨gb1365, 6, none⟩) (Kd.R_far (p := ⟨gb1365, 5, none⟩) (Kd.R_far (p := ⟨gb1365, 4, none⟩) (Kd.R_far (p := ⟨gb1365, 3, none⟩) (Kd.R_far (p := ⟨gb1365, 2, none⟩) (Kd.R_far (p := ⟨gb1365, 1, none⟩) (Kd.R_far (p := ⟨gb1365, 0, none⟩) (Kd.R_types HO_1344006.out BK1365.out (by decide)) (fun _ hk => hk.2) (.int .i64 t1352)) (fun _ hk => hk.2) (.int .i64 t1353)) (fun _ hk => hk.2) (.int .i64 t1354)) (fun _ hk => hk.2) (.slice Ao64 t1355.length co64)) (fun _ hk => hk.2) (.int .i64 t1358)) (fun _ hk => hk.2) (.int .i64 t1359)) (fun _ hk => hk.2) (.slice Ao65 t1360.length co65)) (fun _ hk => hk.2) (.int .i64 t1363)) (fun _ h_ => h_.1))) hb); have n4_ := aK (Kd.R_below (by (with_reducible repeat (first | apply Kd.R_alloc | apply Kd.R_drewN | apply Kd.R_drew)); exact (Kd.R_mono (Kd.R_far (p := ⟨gb1365, 7, none⟩) (Kd.R_far (p := ⟨gb1365, 6, none⟩) (Kd.R_far (p := ⟨gb1365, 5, none⟩) (Kd.R_far (p := ⟨gb1365, 4, none⟩) (Kd.R_far (p := ⟨gb1365, 3, none⟩) (Kd.R_far (p := ⟨gb1365, 2, none⟩) (Kd.R_far (p := ⟨gb1365, 1, none⟩) (Kd.R_far (p := ⟨gb1365, 0, none⟩) (Kd.R_types HO1357.out BK1365.out (by decide)) (fun _ hk => hk.2) (.int .i64 t1352)) (fun _ hk => hk.2) (.int .i64 t1353)) (fun _ hk => hk.2) (.int .i64 t1354)) (fun _ hk => hk.2) (.slice Ao64 t1355.length co64)) (fun _ hk => hk.2) (.int .i64 t1358)) (fun _ hk => hk.2) (.int .i64 t1359)) (fun _ hk => hk.2) (.slice Ao65 t1360.length co65)) (fun _ hk => hk.2) (.int .i64 t1363)) (fun _ h_ => h_.1))) hb); have n5_ := aK (Kd.R_below (by (with_reducible repeat (first | apply Kd.R_alloc | apply Kd.R_drewN | apply Kd.R_drew)); exact (Kd.R_mono (Kd.R_far (p := ⟨gb1365, 7, none⟩) (Kd.R_far (p := ⟨gb1365, 6, none⟩) (Kd.R_far (p := ⟨gb1365, 5, none⟩) (Kd.R_far (p := ⟨gb1365, 4, none⟩) (Kd.R_far (p := ⟨gb1365, 3, none⟩) (Kd.R_far (p := ⟨gb1365, 2, none⟩) (Kd.R_far (p := ⟨gb1365, 1, none⟩) (Kd.R_far (p := ⟨gb1365, 0, none⟩) (Kd.R_types HO1362.out BK1365.out (by decide)) (fun _ hk => hk.2) (.int .i64 t1352)) (fun _ hk => hk.2) (.int .i64 t1353)) (fun _ hk => hk.2) (.int .i64 t1354)) (fun _ hk => hk.2) (.slice Ao64 t1355.length co64)) (fun _ hk => hk.2) (.int .i64 t1358)) (fun _ hk => hk.2) (.int .i64 t1359)) (fun _ hk => hk.2) (.slice Ao65 t1360.length co65)) (fun _ hk => hk.2) (.int .i64 t1363)) (fun _ h_ => h_.1))) hb); have n6_ := bkb BK1309 hb (by intro z_; (with_reducible repeat (first | refine blk_drewN ?_ _ | refine kD ?_ | refine kA ?_ _)); refine blk_far ?_ NB1309_1365.out _; (with_reducible repeat (first | refine blk_drewN ?_ _ | refine kD ?_ | refine kA ?_ _)); refine blk_far ?_ NB1309_1365.out _; (with_reducible repeat (first | refine blk_drewN ?_ _ | refine kD ?_ | refine kA ?_ _)); refine blk_far ?_ NB1309_1365.out _; (with_reducible repeat (first | refine blk_drewN ?_ _ | refine kD ?_ | refine kA ?_ _)); refine blk_far ?_ NB1309_1365.out _; (with_reducible repeat (first | refine blk_drewN ?_ _ | refine kD ?_ | refine kA ?_ _)); refine blk_far ?_ NB1309_1365.out _; (with_reducible repeat (first | refine blk_drewN ?_ _ | refine kD ?_ | refine kA ?_ _)); refine blk_far ?_ NB1309_1365.out _; (with_reducible repeat (first | refine blk_drewN ?_ _ | refine kD ?_ | refine kA ?_ _)); refine blk_far ?_ NB1309_1365.out _; (with_reducible repeat (first | refine blk_drewN ?_ _ | refine kD ?_ | refine kA ?_ _)); refine blk_far ?_ NB1309_1365.out _; (with_reducible repeat (first | refine blk_drewN ?_ _ | refine kD ?_ | refine kA ?_ _)); exact z_); have n7_ := bkb BK1326 hb (by intro z_; (with_reducible repeat (first | refine blk_drewN ?_ _ | refine kD ?_ | refine kA ?_ _)); refine blk_far ?_ NB1326_1365.out _; (with_reducible repeat (first | refine blk_drewN ?_ _ | refine kD ?_ | refine kA ?_ _)); refine blk_far ?_ NB1326_1365.out _; (with_reducible repeat (first | refine blk_drewN ?_ _ | refine kD ?_ | refine kA ?_ _)); refine blk_far ?_ NB1326_1365.out _; (with_reducible repeat (first | refine blk_drewN ?_ _ | refine kD ?_ | refine kA ?_ _)); refine blk_far ?_ NB1326_1365.out _; (with_reducible repeat (first | refine blk_drewN ?_ _ | refine kD ?_ | refine kA ?_ _)); refine blk_far ?_ NB1326_1365.out _; (with_reducible repeat (first | refine blk_drewN ?_ _ | refine kD ?_ | refine kA ?_ _)); refine blk_far ?_ NB1326_1365.out _; (with_reducible repeat (first | refine blk_drewN ?_ _ | refine kD ?_ | refine kA ?_ _)); refine blk_far ?_ NB1326_1365.out _; (with_reducible repeat (first | refine blk_drewN ?_ _ | refine kD ?_ | refine kA ?_ _)); refine blk_far ?_ NB1326_1365.out _; (with_reducible repeat (first | refine blk_drewN ?_ _ | refine kD ?_ | refine kA ?_ _)); exact z_); have n8_ := bkb BK1343 hb (by intro z_; (with_reducible repeat (first | refine blk_drewN ?_ _ | refine kD ?_ | refine kA ?_ _)); refine blk_far ?_ NB1343_1365.out _; (with_reducible repeat (first | refine blk_drewN ?_ _ | refine kD ?_ | refine kA ?_ _)); refine blk_far ?_ NB1343_1365.out _; (with_reducible repeat (first | refine blk_drewN ?_ _ | refine kD ?_ | refine kA ?_ _)); refine blk_far ?_ NB1343_1365.out _; (with_reducible repeat (first | refine blk_drewN ?_ _ | refine kD ?_ | refine kA ?_ _)); refine blk_far ?_ NB1343_1365.out _; (with_reducible repeat (first | refine blk_drewN ?_ _ | refine kD ?_ | refine kA ?_ _)); refine blk_far ?_ NB1343_1365.out _; (with_reducible repeat (first | refine blk_drewN ?_ _ | refine kD ?_ | refine kA ?_ _)); refine blk_far ?_ NB1343_1365.out _; (with_reducible repeat (first | refine blk_drewN ?_ _ | refine kD ?_ | refine kA ?_ _)); refine blk_far ?_ NB1343_1365.out _; (with_reducible repeat (first | refine blk_drewN ?_ _ | refine kD ?_ | refine kA ?_ _)); refine blk_far ?_ NB1343_1365.out _; (with_reducible repeat (first | refine blk_drewN ?_ _ | refine kD ?_ | refine kA ?_ _)); exact z_); have n9_ := aK (blk_below (g := gb1365) (o := .cells #[.int .i64 t1352, .int .i64 t1353, .int .i64 t1354, .slice Ao64 t1355.length co64, .int .i64 t1358, .int .i64 t1359, .slice Ao65 t1360.length co65, .int .i64 t1363] 84 (0, 0)) (by (with_reducible repeat (first | refine blk_drewN ?_ _ | refine kD ?_ | refine kA ?_ _)); refine blk_put (cs := #[.int .i64 t1352, .int .i64 t1353, .int .i64 t1354, .slice Ao64 t1355.length co64, .int .i64 t1358, .int .i64 t1359, .slice Ao65 t1360.length co65, .int .i64 0]) ?_ 7 _ rfl; (with_reducible repeat (first | refine blk_drewN ?_ _ | refine kD ?_ | refine kA ?_ _)); refine blk_put (cs := #[.int .i64 t1352, .int .i64 t1353, .int .i64 t1354, .slice Ao64 t1355.length co64, .int .i64 t1358, .int .i64 t1359, .slice none 0 0, .int .i64 0]) ?_ 6 _ rfl; (with_reducible repeat (first | refine blk_drewN ?_ _ | refine kD ?_ | refine kA ?_ _)); refine blk_put (cs := #[.int .i64 t1352, .int .i64 t1353, .int .i64 t1354, .slice Ao64 t1355.length co64, .int .i64 t1358, .int .i64 0, .slice none 0 0, .int .i64 0]) ?_ 5 _ rfl; (with_reducible repeat (first | refine blk_drewN ?_ _ | refine kD ?_ | refine kA ?_ _)); refine blk_put (cs := #[.int .i64 t1352, .int .i64 t1353, .int .i64 t1354, .slice Ao64 t1355.length co64, .int .i64 0, .int .i64 0, .slice none 0 0, .int .i64 0]) ?_ 4 _ rfl; (with_reducible repeat (first | refine blk_drewN ?_ _ | refine kD ?_ | refine kA ?_ _)); refine blk_put (cs := #[.int .i64 t1352, .int .i64 t1353, .int .i64 t1354, .slice none 0 0, .int .i64 0, .int .i64 0, .slice none 0 0, .int .i64 0]) ?_ 3 _ rfl; (with_reducible repeat (first | refine blk_drewN ?_ _ | refine kD ?_ | refine kA ?_ _)); refine blk_put (cs := #[.int .i64 t1352, .int .i64 t1353, .int .i64 0, .slice none 0 0, .int .i64 0, .int .i64 0, .slice none 0 0, .int .i64 0]) ?_ 2 _ rfl; (with_reducible repeat (first | refine blk_drewN ?_ _ | refine kD ?_ | refine kA ?_ _)); refine blk_put (cs := #[.int .i64 t1352, .int .i64 0, .int .i64 0, .slice none 0 0, .int .i64 0, .int .i64 0, .slice none 0 0, .int .i64 0]) ?_ 1 _ rfl; (with_reducible repeat (first | refine blk_drewN ?_ _ | refine kD ?_ | refine kA ?_ _)); refine blk_put (cs := #[.int .i64 0, .int .i64 0, .int .i64 0, .slice none 0 0, .int .i64 0, .int .i64 0, .slice none 0 0, .int .i64 0]) ?_ 0 _ rfl; (with_reducible repeat (first | refine blk_drewN ?_ _ | refine kD ?_ | refine kA ?_ _)); exact BK1365.out) hb); have n10_ := aK (bSp (by repeat (first | (with_reducible first | exact HB.out | apply bAl | apply bDN | apply bD1 | refine bSt ?_ GE1309.out | refine bSt ?_ GE1326.out | refine bSt ?_ GE1343.out | refine bSt ?_ GE1365.out) | exact HB.out)) hb); clear HO_1327003; clear HO_1327006; clear HO_1344003; clear HO_1344006; clear HO1357; clear HO1362; clear BK1309; clear BK1326; clear BK1343; clear BK1365; clear HB; have HO_1327003 := n0_; have HO_1327006 := n1_; have HO_1344003 := n2_; have HO_1344006 := n3_; have HO1357 := n4_; have HO1362 := n5_; have BK1309 := n6_; have BK1326 := n7_; have BK1343 := n8_; have BK1365 := n9_; have HB := n10_; clear n0_ n1_ n2_ n3_ n4_ n5_ n6_ n7_ n8_ n9_ n10_; (try clear hb); (try clear hb2); (try clear hk); (try clear hi)))
        go_meet
        case rel => exact ⟨_, (true), (by first | rfl | (simp; done) | (simp [*]; done)), H', ⟨by have := HJ7.out; first | omega | exact Nat.le_refl _⟩, ⟨by (with_reducible repeat (first | apply Kd.R_alloc | apply Kd.R_drewN | apply Kd.R_drew)); exact Kd.R_mono HO_1327003.out (fun _ hk => ⟨hk.1.1.1, ⟨hk.1.1.2.1, ⟨hk.1.1.2.2, ⟨hk.1.2, hk.2⟩⟩⟩⟩)⟩, ⟨by (with_reducible repeat (first | apply Kd.R_alloc | apply Kd.R_drewN | apply Kd.R_drew)); exact Kd.R_mono HO_1327006.out (fun _ hk => ⟨hk.1.1.1, ⟨hk.1.1.2.1, ⟨hk.1.1.2.2, ⟨hk.1.2, hk.2⟩⟩⟩⟩)⟩, ⟨by (with_reducible repeat (first | apply Kd.R_alloc | apply Kd.R_drewN | apply Kd.R_drew)); exact Kd.R_mono HO_1344003.out (fun _ hk => ⟨hk.1.1.1, ⟨hk.1.1.2.1, ⟨hk.1.1.2.2, ⟨hk.1.2, hk.2⟩⟩⟩⟩)⟩, ⟨by (with_reducible repeat (first | apply Kd.R_alloc | apply Kd.R_drewN | apply Kd.R_drew)); exact Kd.R_mono HO_1344006.out (fun _ hk => ⟨hk.1.1.1, ⟨hk.1.1.2.1, ⟨hk.1.1.2.2, ⟨hk.1.2, hk.2⟩⟩⟩⟩)⟩, ⟨by (with_reducible repeat (first | apply Kd.R_alloc | apply Kd.R_drewN | apply Kd.R_drew)); exact Kd.R_mono HO1357.out (fun _ hk => ⟨hk.1.1.1.2, ⟨hk.1.1.2, ⟨hk.1.2, ⟨hk.2, hk.1.1.1.1⟩⟩⟩⟩)⟩, ⟨by (with_reducible repeat (first | apply Kd.R_alloc | apply Kd.R_drewN | apply Kd.R_drew)); exact Kd.R_mono HO1362.out (fun _ hk => ⟨hk.1.1.1.2, ⟨hk.1.1.2, ⟨hk.1.2, ⟨hk.2, hk.1.1.1.1⟩⟩⟩⟩)⟩, ⟨by (with_reducible repeat (first | refine blk_drewN ?_ _ | refine kD ?_ | refine kA ?_ _)); exact BK1309.out⟩, ⟨by (with_reducible repeat (first | refine blk_drewN ?_ _ | refine kD ?_ | refine kA ?_ _)); exact BK1326.out⟩, ⟨by (with_reducible repeat (first | refine blk_drewN ?_ _ | refine kD ?_ | refine kA ?_ _)); exact BK1343.out⟩, ⟨by (with_reducible repeat (first | refine blk_drewN ?_ _ | refine kD ?_ | refine kA ?_ _)); exact BK1365.out⟩, ⟨by repeat (first | (with_reducible first | exact HB.out | apply bAl | apply bDN | apply bD1 | refine bSt ?_ GE1309.out | refine bSt ?_ GE1326.out | refine bSt ?_ GE1343.out | refine bSt ?_ GE1365.out) | exact HB.out)⟩⟩
      case rest =>
       clear HC48
       try clear c1
       try clear c2
       try clear p2
       try clear c3
       try clear c4
       try clear c5
       try clear c6
       try clear c7
       try clear c8
       try clear c9
       try clear c14
       try clear c22
       try clear c23
       try clear c28
       try clear c29
       try clear c30
       try clear c32
       try clear c35
       try clear c36
       try clear c38
       try clear c41
       try clear c44
       try clear c44b0
       try clear c45
       try clear c45b0
       try clear c45b1
       try clear c48
       try clear c49
       try clear c50
       try clear c51
       try clear c52
       try clear c55
       try clear c60
       try clear c61
       try clear c62
       try clear c67
       try clear c68
       try clear c69
       try clear c70
       try clear c72
       try clear c73
       try clear c76
       try clear c77
       try clear c78
       try clear c80
       try clear c81
       try clear hcz10_0
       try clear hcz10_1
       try clear hcz10_2
       try clear hcz15_0
       try clear hcz15_1
       try clear hcz15_2
       try clear hcz15_3
       try clear hcz15_4
       try clear hcz15_5
       try clear hcz15_6
       try clear hcz15_7
       try clear hcz18_0
       try clear hcz18_1
       try clear hcz18_2
       try clear hcz24_0
       try clear hcz24_1
       try clear hcz24_2
       try clear hcz24_3
       try clear hcz24_4
       try clear hcz24_5
       try clear hcz24_6
       try clear hcz24_7
       try clear hcz31_0
       try clear hcz31_1
       try clear hcz31_2
       try clear hcz31_3
       try clear hcz31_4
       try clear hcz31_5
       try clear hcz31_6
       try clear hcz31_7
       try clear hcz33_0
       try clear hcz33_1
       try clear hcz33_2
       try clear hcz33_3
       try clear hcz33_4
       try clear hcz33_5
       try clear hcz33_6
       try clear hcz33_7
       try clear hcz37_0
       try clear hcz37_1
       try clear hcz37_2
       try clear hcz37_3
       try clear hcz37_4
       try clear hcz37_5
       try clear hcz37_6
       try clear hcz37_7
       try clear hcz39_0
       try clear hcz39_1
       try clear hcz39_2
       try clear hcz39_3
       try clear hcz39_4
       try clear hcz39_5
       try clear hcz39_6
       try clear hcz39_7
       try clear hcz51_0
       try clear hcz51_1
       try clear hcz51_2
       try clear hcz51_3
       try clear hcz51_4
       try clear hcz51_5
       try clear hcz51_6
       try clear hcz51_7
       try clear hcz53_0
       try clear hcz53_1
       try clear hcz53_2
       try clear hcz53_3
       try clear hcz53_4
       try clear hcz53_5
       try clear hcz53_6
       try clear hcz53_7
       try clear hcz56_0
       try clear hcz56_1
       try clear hcz56_2
       try clear hcz63_0
       try clear hcz63_1
       try clear hcz63_2
       try clear hcz63_3
       try clear hcz63_4
       try clear hcz63_5
       try clear hcz63_6
       try clear hcz63_7
       try clear hcz71_0
       try clear hcz71_1
       try clear hcz71_2
       try clear hcz71_3
       try clear hcz71_4
       try clear hcz71_5
       try clear hcz71_6
       try clear hcz71_7
       try clear hcz74_0
       try clear hcz74_1
       try clear hcz74_2
       try clear hcz74_3
       try clear hcz74_4
       try clear hcz74_5
       try clear hcz74_6
       try clear hcz74_7
       try clear hcz79_0
       try clear hcz79_1
       try clear hcz79_2
       try clear hcz79_3
       try clear hcz79_4
       try clear hcz79_5
       try clear hcz79_6
       try clear hcz79_7
       try clear hcz82_0
       try clear hcz82_1
       try clear hcz82_2
       try clear hcz82_3
       try clear hcz82_4
       try clear hcz82_5
       try clear hcz82_6
       try clear hcz82_7
       try clear hfz10_0
       try clear hfz10_1
       try clear hfz10_2
       try clear hfz15_0
       try clear hfz15_1
       try clear hfz15_2
       try clear hfz15_3
       try clear hfz15_4
       try clear hfz15_5
       try clear hfz15_6
       try clear hfz15_7
       try clear hfz18_0
       try clear hfz18_1
       try clear hfz18_2
       try clear hfz24_0
       try clear hfz24_1
       try clear hfz24_2
       try clear hfz24_3
       try clear hfz24_4
       try clear hfz24_5
       try clear hfz24_6
       try clear hfz24_7
       try clear hfz31_0
       try clear hfz31_1
       try clear hfz31_2
       try clear hfz31_3
       try clear hfz31_4
       try clear hfz31_5
       try clear hfz31_6
       try clear hfz31_7
       try clear hfz33_0
       try clear hfz33_1
       try clear hfz33_2
       try clear hfz33_3
       try clear hfz33_4
       try clear hfz33_5
       try clear hfz33_6
       try clear hfz33_7
       try clear hfz37_0
       try clear hfz37_1
       try clear hfz37_2
       try clear hfz37_3
       try clear hfz37_4
       try clear hfz37_5
       try clear hfz37_6
       try clear hfz37_7
       try clear hfz39_0
       try clear hfz39_1
       try clear hfz39_2
       try clear hfz39_3
       try clear hfz39_4
       try clear hfz39_5
       try clear hfz39_6
       try clear hfz39_7
       try clear hfz51_0
       try clear hfz51_1
       try clear hfz51_2
       try clear hfz51_3
       try clear hfz51_4
       try clear hfz51_5
       try clear hfz51_6
       try clear hfz51_7
       try clear hfz53_0
       try clear hfz53_1
       try clear hfz53_2
       try clear hfz53_3
       try clear hfz53_4
       try clear hfz53_5
       try clear hfz53_6
       try clear hfz53_7
       try clear hfz56_0
       try clear hfz56_1
       try clear hfz56_2
       try clear hfz63_0
       try clear hfz63_1
       try clear hfz63_2
       try clear hfz63_3
       try clear hfz63_4
       try clear hfz63_5
       try clear hfz63_6
       try clear hfz63_7
       try clear hfz71_0
       try clear hfz71_1
       try clear hfz71_2
       try clear hfz71_3
       try clear hfz71_4
       try clear hfz71_5
       try clear hfz71_6
       try clear hfz71_7
       try clear hfz74_0
       try clear hfz74_1
       try clear hfz74_2
       try clear hfz74_3
       try clear hfz74_4
       try clear hfz74_5
       try clear hfz74_6
       try clear hfz74_7
       try clear hfz79_0
       try clear hfz79_1
       try clear hfz79_2
       try clear hfz79_3
       try clear hfz79_4
       try clear hfz79_5
       try clear hfz79_6
       try clear hfz79_7
       try clear hfz82_0
       try clear hfz82_1
       try clear hfz82_2
       try clear hfz82_3
       try clear hfz82_4
       try clear hfz82_5
       try clear hfz82_6
       try clear hfz82_7
       try clear p2
       obtain ⟨kq, x67_47, rfl, HA, HJ47, HO_1327003, HO_1327006, HO_1344003, HO_1344006, HO_1366003, HO_1366006, BK1309, BK1326, BK1343, BK1365, HB⟩ := hcut
       have hl1344003_47 := (Kd.R_reads' HO_1344003.out).1
       rw [hl1344003_47] at HO_1344003
       (try simp only [hl1344003_47])
       (try simp only [hl1344003_47] at BK1309)
       (try simp only [hl1344003_47] at BK1326)
       (try simp only [hl1344003_47] at BK1343)
       (try simp only [hl1344003_47] at BK1365)
       (try simp only [hl1344003_47] at HO_1327003)
       (try simp only [hl1344003_47] at HO_1327006)
       (try simp only [hl1344003_47] at HO_1344006)
       (try simp only [hl1344003_47] at HO_1366003)
       (try simp only [hl1344003_47] at HO_1366006)
       have hl1344006_47 := (Kd.R_reads' HO_1344006.out).1
       rw [hl1344006_47] at HO_1344006
       (try simp only [hl1344006_47])
       (try simp only [hl1344006_47] at BK1309)
       (try simp only [hl1344006_47] at BK1326)
       (try simp only [hl1344006_47] at BK1343)
       (try simp only [hl1344006_47] at BK1365)
       (try simp only [hl1344006_47] at HO_1327003)
       (try simp only [hl1344006_47] at HO_1327006)
       (try simp only [hl1344006_47] at HO_1344003)
       (try simp only [hl1344006_47] at HO_1366003)
       (try simp only [hl1344006_47] at HO_1366006)
       cases kq with
       | zero => exact absurd HA.out (by simp [laws_FnExactNewGarden.j1])
       | succ kj47 =>
        have H := HA.out
        clear HA
        simp only [laws_FnExactNewGarden.j1] at H
        by_cases c84 : x67_47 = true
        ·subst c84
         have H1 : (some false) = some true := by first | (rw [if_pos rfl] at H; exact H) | rfl
         clear H
         have H := H1
         clear H1
         exact absurd (Option.some.inj H) Bool.false_ne_true
        ·replace c84 := Bool.eq_false_iff.mpr c84
         subst c84
         have H1 : ((laws_heldGarden.f kj47 t1330 t1331 t1332 t1346 t1336 t1337 t1347 t1341 1).bind fun t1367 => (if t1367 < 0 then (some false) else (if t1367 = t1345 then (some true) else (some false)))) = some true := by rw [if_neg (show ¬ (false = true) by decide)] at H; exact H
         clear H
         have H := H1
         clear H1
         replace H := Option.bind_eq_some_iff.mp H
         obtain ⟨t1367, A850, H⟩ := H
         replace H : (if t1367 < 0 then (some false) else (if t1367 = t1345 then (some true) else (some false))) = some true := H
         have A85 := aK A850
         clear A850
         by_cases c86 : t1367 < 0
         ·rw [if_pos c86] at H
          have c86b0 : decide (t1367 < 0) = true := decide_eq_true c86
          clear c86
          exact absurd (Option.some.inj H) Bool.false_ne_true
         ·rw [if_neg c86] at H
          have c86b0 : decide (t1367 < 0) = false := decide_eq_false c86
          clear c86
          by_cases c87 : t1367 = t1345
          ·rw [if_pos c87] at H
           have c87b0 : (t1367 == t1345) = true := beq_iff_eq.mpr c87
           have c87b1 : (t1367 != t1345) = false := bne_eq_false_iff_eq.mpr c87
           clear c87
           have hnb88 := NB1343_1309.out
           have hnc88 := NB1309_1343.out
           have hnb89 := NB1343_1326.out
           have hnc89 := NB1326_1343.out
           have hnb90 := NB1343_1365.out
           have hnc90 := NB1365_1343.out
           have hcz91_0 : wc.cell? ⟨gb1343, 0, none⟩ = some (.int .i64 t1330) := (kC BK1343.out 0).trans rfl
           have hcz91_1 : wc.cell? ⟨gb1343, 1, none⟩ = some (.int .i64 t1331) := (kC BK1343.out 1).trans rfl
           have hcz91_2 : wc.cell? ⟨gb1343, 2, none⟩ = some (.int .i64 t1332) := (kC BK1343.out 2).trans rfl
           have hcz91_3 : wc.cell? ⟨gb1343, 3, none⟩ = some (.slice Ao25 t1346.length co25) := (kC BK1343.out 3).trans rfl
           have hcz91_4 : wc.cell? ⟨gb1343, 4, none⟩ = some (.int .i64 t1336) := (kC BK1343.out 4).trans rfl
           have hcz91_5 : wc.cell? ⟨gb1343, 5, none⟩ = some (.int .i64 t1337) := (kC BK1343.out 5).trans rfl
           have hcz91_6 : wc.cell? ⟨gb1343, 6, none⟩ = some (.slice Ao26 t1347.length co26) := (kC BK1343.out 6).trans rfl
           have hcz91_7 : wc.cell? ⟨gb1343, 7, none⟩ = some (.int .i64 t1341) := (kC BK1343.out 7).trans rfl
           have hfz91_0 := kF BK1343.out 0
           have hfz91_1 := kF BK1343.out 1
           have hfz91_2 := kF BK1343.out 2
           have hfz91_3 := kF BK1343.out 3
           have hfz91_4 := kF BK1343.out 4
           have hfz91_5 := kF BK1343.out 5
           have hfz91_6 := kF BK1343.out 6
           have hfz91_7 := kF BK1343.out 7
           go_wp2_with (first | ((with_reducible refine gate_callee (f := 52) rfl ?_); refine goesL_ (some 70) rfl rfl Try.func52 (by kernel_rfl) rfl #[.agg #[.int .i64 t1330, .int .i64 t1331, .int .i64 t1332, .slice Ao25 t1346.length co25, .int .i64 t1336, .int .i64 t1337, .slice Ao26 t1347.length co26, .int .i64 t1341], .int .i64 1] rfl (by (try simp only [List.map_toArray, List.map_cons, List.map_nil]); first | done | rfl | (simp only [List.length_drop, List.length_take]; rfl)) ?_; (with_reducible refine (laws_heldGarden.calls kj47 t1330 t1331 t1332 _ _ t1346 t1336 t1337 _ _ t1347 t1341 1 t1367 _ ?side1 ?side2 ?side3 ?side4 A85.out).mono ?_); (case side1 => repeat (first | exact (Kd.R_reads' HO_1344003.out).2.2 | (with_reducible refine Kd.C_alloc ?_ _) | (with_reducible refine Kd.C_drewN ?_ _) | (with_reducible refine Kd.C_drew ?_))); (case side2 => exact (Kd.R_reads' HO_1344003.out).2.1); (case side3 => repeat (first | exact (Kd.R_reads' HO_1344006.out).2.2 | (with_reducible refine Kd.C_alloc ?_ _) | (with_reducible refine Kd.C_drewN ?_ _) | (with_reducible refine Kd.C_drew ?_))); (case side4 => exact (Kd.R_reads' HO_1344006.out).2.1); rintro e w92 ⟨rfl, hb⟩; refine ⟨_, rfl, ?_⟩; have n0_ := aK (Kd.R_below (by (with_reducible repeat (first | apply Kd.R_alloc | apply Kd.R_drewN | apply Kd.R_drew)); exact HO_1327003.out) hb); have n1_ := aK (Kd.R_below (by (with_reducible repeat (first | apply Kd.R_alloc | apply Kd.R_drewN | apply Kd.R_drew)); exact HO_1327006.out) hb); have n2_ := aK (Kd.R_below (by (with_reducible repeat (first | apply Kd.R_alloc | apply Kd.R_drewN | apply Kd.R_drew)); exact HO_1344003.out) hb); have n3_ := aK (Kd.R_below (by (with_reducible repeat (first | apply Kd.R_alloc | apply Kd.R_drewN | apply Kd.R_drew)); exact HO_1344006.out) hb); have n4_ := aK (Kd.R_below (by (with_reducible repeat (first | apply Kd.R_alloc | apply Kd.R_drewN | apply Kd.R_drew)); exact HO_1366003.out) hb); have n5_ := aK (Kd.R_below (by (with_reducible repeat (first | apply Kd.R_alloc | apply Kd.R_drewN | apply Kd.R_drew)); exact HO_1366006.out) hb); have n6_ := bkb BK1309 hb (by intro z_; (with_reducible repeat (first | refine blk_drewN ?_ _ | refine kD ?_ | refine kA ?_ _)); exact z_); have n7_ := bkb BK1326 hb (by intro z_; (with_reducible repeat (first | refine blk_drewN ?_ _ | refine kD ?_ | refine kA ?_ _)); exact z_); have n8_ := bkb BK1343 hb (by intro z_; (with_reducible repeat (first | refine blk_drewN ?_ _ | refine kD ?_ | refine kA ?_ _)); exact z_); have n9_ := bkb BK1365 hb (by intro z_; (with_reducible repeat (first | refine blk_drewN ?_ _ | refine kD ?_ | refine kA ?_ _)); exact z_); have n10_ := aK (bSp (by repeat (first | (with_reducible first | exact HB.out | apply bAl | apply bDN | apply bD1 | refine bSt ?_ GE1309.out | refine bSt ?_ GE1326.out | refine bSt ?_ GE1343.out | refine bSt ?_ GE1365.out) | exact HB.out)) hb); clear HO_1327003; clear HO_1327006; clear HO_1344003; clear HO_1344006; clear HO_1366003; clear HO_1366006; clear BK1309; clear BK1326; clear BK1343; clear BK1365; clear HB; have HO_1327003 := n0_; have HO_1327006 := n1_; have HO_1344003 := n2_; have HO_1344006 := n3_; have HO_1366003 := n4_; have HO_1366006 := n5_; have BK1309 := n6_; have BK1326 := n7_; have BK1343 := n8_; have BK1365 := n9_; have HB := n10_; clear n0_ n1_ n2_ n3_ n4_ n5_ n6_ n7_ n8_ n9_ n10_; (try clear hb); (try clear hb2); (try clear hk); (try clear hi)))
           go_ret
           exact ⟨by first | rfl | (simp [errW_none, errW_some] <;> rfl) | (simp [*, errW_none, errW_some] <;> rfl), by repeat (first | (with_reducible first | exact HB.out | apply bAl | apply bDN | apply bD1 | refine bSt ?_ GE1309.out | refine bSt ?_ GE1326.out | refine bSt ?_ GE1343.out | refine bSt ?_ GE1365.out) | exact HB.out)⟩
          ·rw [if_neg c87] at H
           have c87b0 : (t1367 == t1345) = false := beq_eq_false_iff_ne.mpr c87
           have c87b1 : (t1367 != t1345) = true := bne_iff_ne.mpr c87
           exact absurd (Option.some.inj H) Bool.false_ne_true
     ·rw [if_neg c45] at H
      have c45b0 : (t1348 == t1345) = false := beq_eq_false_iff_ne.mpr c45
      have c45b1 : (t1348 != t1345) = true := bne_iff_ne.mpr c45
      exact absurd (Option.some.inj H) Bool.false_ne_true
end Go.Proofs.Ytpeehicekddjhaa.F
end

section
namespace Go.Proofs.Ytpeehicekddjhaa.F
open Go.RowKit Go.Proofs.YtpeehicekddjhaaW.PrintWords Go.Proofs.YtpeehicekddjhaaW.PrintLast Go.Proofs.YtpeehicekddjhaaW.PrintMore
set_option linter.unusedVariables false
set_option linter.unusedSimpArgs false
theorem rd_set {D : List Int} {i x v : Int} (hi : 0 ≤ i) (hx : 0 ≤ x) (hl : i < D.length) : rd (D.set i.toNat v) x = if x = i then v else rd D x := by
  unfold rd
  rw [List.getD_eq_getElem?_getD, List.getElem?_set]
  by_cases h : x = i
  · subst h
    rw [if_pos rfl, if_pos (by omega), if_pos rfl]; rfl
  · rw [if_neg (by omega), if_neg h, List.getD_eq_getElem?_getD]
theorem rd_lt {D : List Int} {x : Int} (hx : 0 ≤ x) (hl : x < D.length) : ∃ h : x.toNat < D.length, rd D x = D[x.toNat] := by
  have h : x.toNat < D.length := by omega
  exact ⟨h, by unfold rd; rw [List.getD_eq_getElem?_getD, List.getElem?_eq_getElem h]; rfl⟩
theorem rd_memI {D : List Int} {x : Int} (hx : 0 ≤ x) (hl : x < D.length) : rd D x ∈ D := by
  obtain ⟨h, e⟩ := rd_lt hx hl
  rw [e]; exact List.getElem_mem h
theorem mem_rd {D : List Int} {v : Int} (h : v ∈ D) : ∃ j : Nat, j < D.length ∧ rd D (j : Int) = v := by
  obtain ⟨j, hj, rfl⟩ := List.getElem_of_mem h
  exact ⟨j, hj, by rw [rd_nat, List.getD_eq_getElem?_getD, List.getElem?_eq_getElem hj]; rfl⟩
theorem rd_app_left {D E : List Int} {j : Nat} (h : j < D.length) : rd (D ++ E) (j : Int) = rd D (j : Int) := by
  simp only [rd_nat, List.getD_eq_getElem?_getD]
  rw [List.getElem?_append_left h]
theorem rd_app_last {D : List Int} {v : Int} : rd (D ++ [v]) (D.length : Int) = v := by
  simp only [rd_nat, List.getD_eq_getElem?_getD]
  rw [List.getElem?_append_right (Nat.le_refl _)]
  simp
def bfsD (nx : Int → Int → Int) (c : Int) : List Int → List Int × List Int → List Int × List Int
  | [], s => s
  | d :: ds, s => if 0 ≤ nx c d ∧ rd s.1 (nx c d) < 0 then bfsD nx c ds (s.1.set (nx c d).toNat (rd s.1 c + 1), s.2 ++ [nx c d]) else bfsD nx c ds s
def bfs (nx : Int → Int → Int) : Nat → Nat → List Int × List Int → List Int
  | 0, _, s => s.1
  | f + 1, i, s => if i < s.2.length then bfs nx f (i + 1) (bfsD nx (rd s.2 i) [0, 1, 2, 3] s) else s.1
def dists (nx : Int → Int → Int) (N : Nat) (a : Int) : List Int := bfs nx (N + 1) 0 ((List.replicate N (-1)).set a.toNat 0, [a])
inductive Walk (nx : Int → Int → Int) (a : Int) : Nat → Int → Prop
  | nil : Walk nx a 0 a
  | snoc {n : Nat} {b d : Int} : Walk nx a n b → 0 ≤ nx b d → Walk nx a (n + 1) (nx b d)
structure Steps (nx : Int → Int → Int) (N : Nat) : Prop where
  rng : ∀ c d, 0 ≤ nx c d → 0 ≤ c ∧ c < N ∧ nx c d < N ∧ 0 ≤ d ∧ d ≤ 3
structure Bfs (nx : Int → Int → Int) (N : Nat) (a : Int) (D Q : List Int) : Prop where
  len : D.length = N
  cnt : D.countP (· < 0) + Q.length = N
  inq : ∀ x ∈ Q, 0 ≤ x ∧ x < N ∧ 0 ≤ rd D x ∧ Walk nx a (rd D x).toNat x
  out : ∀ x : Int, 0 ≤ x → x < N → x ∉ Q → rd D x = -1
  src : rd D a = 0 ∧ a ∈ Q
  mono : ∀ j k : Nat, j ≤ k → k < Q.length → rd D (rd Q j) ≤ rd D (rd Q k)
structure BfsAt (nx : Int → Int → Int) (N : Nat) (a : Int) (i : Nat) (D Q : List Int) : Prop extends Bfs nx N a D Q where
  near : i < Q.length → ∀ x ∈ Q, rd D x ≤ rd D (rd Q i) + 1
  done : ∀ j, j < i → j < Q.length → ∀ d, 0 ≤ nx (rd Q j) d → nx (rd Q j) d ∈ Q ∧ rd D (nx (rd Q j) d) ≤ rd D (rd Q j) + 1
theorem countP_lt_set {D : List Int} {i v : Int} (hi : 0 ≤ i) (hl : i < D.length) (hneg : rd D i < 0) (hv : 0 ≤ v) : (D.set i.toNat v).countP (· < 0) + 1 = D.countP (· < 0) := by
  obtain ⟨h, e⟩ := rd_lt hi hl
  rw [e] at hneg
  have hpos : 0 < D.countP (· < 0) := List.countP_pos_iff.2 ⟨D[i.toNat], List.getElem_mem h, by simpa using hneg⟩
  rw [List.countP_set h]
  simp [hneg, show ¬ v < 0 by omega]
  omega
theorem bfs_push {nx : Int → Int → Int} {N : Nat} {a : Int} {i : Nat} {D Q : List Int} (S : Steps nx N) (B : BfsAt nx N a i D Q) (hi : i < Q.length) {d : Int} (h0 : 0 ≤ nx (rd Q i) d) (hneg : rd D (nx (rd Q i) d) < 0) :
    BfsAt nx N a i (D.set (nx (rd Q i) d).toNat (rd D (rd Q i) + 1)) (Q ++ [nx (rd Q i) d]) := by
  have hci : rd Q i ∈ Q := rd_memI (by omega) (by omega)
  generalize hc : rd Q i = c at *
  generalize hn : nx c d = n at *
  have hr := S.rng c d (by omega)
  rw [hn] at hr
  obtain ⟨c0, c1, cd, cw⟩ := B.inq c hci
  have hnl : n < D.length := by rw [B.len]; omega
  have hnQ : n ∉ Q := fun h => by have := (B.inq n h).2.2.1; omega
  have same : ∀ x ∈ Q, rd (D.set n.toNat (rd D c + 1)) x = rd D x := fun x hx => by
    have := (B.inq x hx).1
    rw [rd_set h0 this hnl, if_neg (by rintro rfl; exact hnQ hx)]
  have newv : rd (D.set n.toNat (rd D c + 1)) n = rd D c + 1 := by rw [rd_set h0 h0 hnl, if_pos rfl]
  have rq : ∀ j : Nat, j < Q.length → rd (Q ++ [n]) (j : Int) = rd Q (j : Int) := fun j hj => rd_app_left hj
  have wn : Walk nx a (rd D c + 1).toNat n := by
    have := Walk.snoc (d := d) cw (by omega)
    rw [hn] at this
    rwa [show (rd D c).toNat + 1 = (rd D c + 1).toNat by omega] at this
  refine ⟨⟨by rw [List.length_set, B.len], ?_, ?_, ?_, ?_, ?_⟩, ?_, ?_⟩
  · have := countP_lt_set (v := rd D c + 1) h0 hnl hneg (by omega)
    have := B.cnt
    rw [List.length_append, List.length_singleton]
    omega
  · intro x hx
    rcases List.mem_append.1 hx with hx | hx
    · rw [same x hx]; exact B.inq x hx
    · rw [List.mem_singleton.1 hx, newv]
      exact ⟨h0, hr.2.2.1, by omega, wn⟩
  · intro x x0 x1 hx
    rw [List.mem_append, not_or] at hx
    rw [rd_set h0 x0 hnl, if_neg (by rintro rfl; exact hx.2 (by simp))]
    exact B.out x x0 x1 hx.1
  · exact ⟨by rw [same a B.src.2]; exact B.src.1, List.mem_append_left _ B.src.2⟩
  · intro j k hjk hk
    rw [List.length_append, List.length_singleton] at hk
    by_cases hk' : k < Q.length
    · rw [rq j (by omega), rq k hk', same _ (rd_memI (by omega) (by omega)), same _ (rd_memI (by omega) (by omega))]
      exact B.mono j k hjk hk'
    · have ek : k = Q.length := by omega
      subst ek
      rw [rd_app_last, newv]
      by_cases hj' : j < Q.length
      · rw [rq j hj', same _ (rd_memI (by omega) (by omega))]
        have := B.near hi _ (rd_memI (D := Q) (x := (j : Int)) (by omega) (by omega))
        rw [hc] at this
        exact this
      · have ej : j = Q.length := by omega
        subst ej
        rw [rd_app_last, newv]
        exact Int.le_refl _
  · intro _ x hx
    rw [rq i hi, hc]
    rcases List.mem_append.1 hx with hx | hx
    · rw [same x hx, same c hci]
      have := B.near hi x hx
      rwa [hc] at this
    · rw [List.mem_singleton.1 hx, newv, same c hci]
      exact Int.le_refl _
  · intro j hj hjl e he
    rw [rq j (by omega)] at he ⊢
    obtain ⟨m1, m2⟩ := B.done j hj (by omega) e he
    exact ⟨List.mem_append_left _ m1, by rw [same _ m1, same _ (rd_memI (by omega) (by omega))]; exact m2⟩
theorem bfs_dirs {nx : Int → Int → Int} {N : Nat} {a : Int} {i : Nat} (S : Steps nx N) : ∀ (ds : List Int) (D Q : List Int), BfsAt nx N a i D Q → i < Q.length → ∀ D' Q', bfsD nx (rd Q i) ds (D, Q) = (D', Q') →
    BfsAt nx N a i D' Q' ∧ i < Q'.length ∧ rd Q' i = rd Q i ∧ (∀ x ∈ Q, x ∈ Q') ∧ (∀ d ∈ ds, 0 ≤ nx (rd Q i) d → nx (rd Q i) d ∈ Q' ∧ rd D' (nx (rd Q i) d) ≤ rd D' (rd Q i) + 1)
  | [], D, Q, B, hi, D', Q', e => by
    simp only [bfsD, Prod.mk.injEq] at e
    obtain ⟨rfl, rfl⟩ := e
    exact ⟨B, hi, rfl, fun _ h => h, fun d hd => by simp at hd⟩
  | d :: ds, D, Q, B, hi, D', Q', e => by
    simp only [bfsD] at e
    by_cases h : 0 ≤ nx (rd Q i) d ∧ rd D (nx (rd Q i) d) < 0
    · rw [if_pos h] at e
      have B' := bfs_push S B hi h.1 h.2
      have hq : rd (Q ++ [nx (rd Q i) d]) (i : Int) = rd Q i := rd_app_left hi
      have hi' : i < (Q ++ [nx (rd Q i) d]).length := by rw [List.length_append]; omega
      rw [← hq] at e
      obtain ⟨r1, r2, r3, r4, r5⟩ := bfs_dirs S ds _ _ B' hi' D' Q' (by rw [hq] at e ⊢; exact e)
      rw [hq] at r3 r5
      refine ⟨r1, r2, r3, fun x hx => r4 x (List.mem_append_left _ hx), fun e' he h0 => ?_⟩
      rcases List.mem_cons.1 he with rfl | he
      · have hm := r4 (nx (rd Q i) e') (by simp)
        have := r1.near r2 _ hm
        rw [r3] at this
        exact ⟨hm, this⟩
      · exact r5 e' he h0
    · rw [if_neg h] at e
      obtain ⟨r1, r2, r3, r4, r5⟩ := bfs_dirs S ds D Q B hi D' Q' e
      refine ⟨r1, r2, r3, r4, fun e' he h0 => ?_⟩
      rcases List.mem_cons.1 he with rfl | he
      · have hr := S.rng _ _ h0
        have hge : ¬ rd D (nx (rd Q i) e') < 0 := fun hh => h ⟨h0, hh⟩
        have hm : nx (rd Q i) e' ∈ Q := by
          by_cases hx : nx (rd Q i) e' ∈ Q
          · exact hx
          · have := B.out _ h0 hr.2.2.1 hx
            omega
        have := r1.near r2 _ (r4 _ hm)
        rw [r3] at this
        exact ⟨r4 _ hm, this⟩
      · exact r5 e' he h0
theorem bfs_run {nx : Int → Int → Int} {N : Nat} {a : Int} (S : Steps nx N) : ∀ (f i : Nat) (D Q : List Int), BfsAt nx N a i D Q → N < f + i → ∃ Q', BfsAt nx N a Q'.length (bfs nx f i (D, Q)) Q' ∨ (∃ j, Q'.length ≤ j ∧ BfsAt nx N a j (bfs nx f i (D, Q)) Q')
  | 0, i, D, Q, B, hf => ⟨Q, .inr ⟨i, by have := B.cnt; omega, B⟩⟩
  | f + 1, i, D, Q, B, hf => by
    simp only [bfs]
    by_cases hi : i < Q.length
    · rw [if_pos hi]
      generalize hs : bfsD nx (rd Q i) [0, 1, 2, 3] (D, Q) = s
      obtain ⟨D', Q'⟩ := s
      obtain ⟨r1, r2, r3, r4, r5⟩ := bfs_dirs S _ D Q B hi D' Q' hs
      refine bfs_run S f (i + 1) D' Q' ⟨r1.toBfs, fun h x hx => ?_, fun j hj hjl d hd => ?_⟩ (by omega)
      · have h1 := r1.near r2 x hx
        have h2 := r1.mono i (i + 1) (by omega) h
        omega
      · by_cases hj' : j = i
        · subst hj'
          rw [r3] at hd ⊢
          have hr := S.rng _ _ hd
          exact r5 d (by have : d = 0 ∨ d = 1 ∨ d = 2 ∨ d = 3 := by omega
                         rcases this with rfl | rfl | rfl | rfl <;> simp) hd
        · exact r1.done j (by omega) hjl d hd
    · rw [if_neg hi]
      exact ⟨Q, .inr ⟨i, by omega, B⟩⟩
theorem dists_spec {nx : Int → Int → Int} {N : Nat} {a : Int} (S : Steps nx N) (h0 : 0 ≤ a) (h1 : a < N) : (dists nx N a).length = N ∧ rd (dists nx N a) a = 0 ∧
    ∀ x : Int, 0 ≤ x → x < N → (rd (dists nx N a) x = -1 ∧ ∀ n, ¬ Walk nx a n x) ∨ (0 ≤ rd (dists nx N a) x ∧ Walk nx a (rd (dists nx N a) x).toNat x ∧ ∀ n, Walk nx a n x → rd (dists nx N a) x ≤ n) := by
  have hrep : ∀ x : Int, 0 ≤ x → x < N → rd (List.replicate N (-1)) x = -1 := fun x x0 x1 => by
    obtain ⟨h, e⟩ := rd_lt (D := List.replicate N (-1 : Int)) x0 (by simpa using x1)
    rw [e, List.getElem_replicate]
  have hset : ∀ x : Int, 0 ≤ x → x < N → rd ((List.replicate N (-1)).set a.toNat 0) x = if x = a then 0 else -1 := fun x x0 x1 => by
    rw [rd_set h0 x0 (by simpa using h1)]
    split
    · rfl
    · exact hrep x x0 x1
  have B0 : BfsAt nx N a 0 ((List.replicate N (-1)).set a.toNat 0) [a] := by
    refine ⟨⟨by simp, ?_, ?_, ?_, ?_, ?_⟩, ?_, ?_⟩
    · have := countP_lt_set (D := List.replicate N (-1 : Int)) (i := a) (v := 0) h0 (by simpa using h1) (by rw [hrep a h0 h1]; decide) (by decide)
      rw [List.countP_replicate] at this
      simpa using this
    · intro x hx
      rw [List.mem_singleton.1 hx, hset a h0 h1, if_pos rfl]
      exact ⟨h0, h1, by decide, Walk.nil⟩
    · intro x x0 x1 hx
      rw [hset x x0 x1, if_neg (by simpa using hx)]
    · exact ⟨by rw [hset a h0 h1, if_pos rfl], by simp⟩
    · intro j k hjk hk
      have : j = 0 := by simp at hk; omega
      have : k = 0 := by simp at hk; omega
      subst_vars
      exact Int.le_refl _
    · intro _ x hx
      rw [List.mem_singleton.1 hx]
      simp [rd]
      omega
    · intro j hj; omega
  have fin : ∃ j Q', Q'.length ≤ j ∧ BfsAt nx N a j (dists nx N a) Q' := by
    obtain ⟨Q', h | ⟨j, hj, h⟩⟩ := bfs_run S (N + 1) 0 _ _ B0 (by omega)
    · exact ⟨_, Q', Nat.le_refl _, h⟩
    · exact ⟨j, Q', hj, h⟩
  obtain ⟨j, Q', hj, B⟩ := fin
  have close : ∀ n x, Walk nx a n x → x ∈ Q' ∧ rd (dists nx N a) x ≤ n := by
    intro n x h
    induction h with
    | nil => exact ⟨B.src.2, by rw [B.src.1]; simp⟩
    | @snoc n b d hw hd ih =>
      obtain ⟨m1, m2⟩ := ih
      obtain ⟨i, hi, rfl⟩ := mem_rd m1
      obtain ⟨q1, q2⟩ := B.done i (by omega) hi d hd
      exact ⟨q1, by omega⟩
  refine ⟨B.len, B.src.1, fun x x0 x1 => ?_⟩
  by_cases hx : x ∈ Q'
  · right
    obtain ⟨_, _, q1, q2⟩ := B.inq x hx
    exact ⟨q1, q2, fun n hn => (close n x hn).2⟩
  · left
    exact ⟨B.out x x0 x1 hx, fun n hn => hx (close n x hn).1⟩
end Go.Proofs.Ytpeehicekddjhaa.F
end

section
namespace Go.Proofs.Ytpeehicekddjhaa.F
open Go.RowKit Go.Proofs.YtpeehicekddjhaaW.PrintWords Go.Proofs.YtpeehicekddjhaaW.PrintLast Go.Proofs.YtpeehicekddjhaaW.PrintMore
set_option linter.unusedVariables false
set_option linter.unusedSimpArgs false
theorem w64 {x : Int} (h1 : -9223372036854775808 ≤ x) (h2 : x ≤ 9223372036854775807) : wrap64 x = x := by unfold wrap64; omega
theorem wrapi_nat {n : Nat} (h : n < 9223372036854775808) : IntKind.i64.wrap (n : Int) = (n : Int) := by rw [IntKind.wrap_i64]; omega
theorem bits_and_i {a b : Nat} (ha : a < 2 ^ 63) (hb : b < 2 ^ 63) : Go.bits .and .i64 (a : Int) (b : Int) = ((a &&& b : Nat) : Int) :=
  (bits_nat .i64 63 (by decide) (fun n h0 h1 => by rw [IntKind.wrap_i64]; omega) a b ha hb).1
theorem bits_or_i {a b : Nat} (ha : a < 2 ^ 63) (hb : b < 2 ^ 63) : Go.bits .or .i64 (a : Int) (b : Int) = ((a ||| b : Nat) : Int) :=
  (bits_nat .i64 63 (by decide) (fun n h0 h1 => by rw [IntKind.wrap_i64]; omega) a b ha hb).2
theorem bits_xor_i {a b : Nat} (ha : a < 2 ^ 63) (hb : b < 2 ^ 63) : Go.bits .xor .i64 (a : Int) (b : Int) = ((a ^^^ b : Nat) : Int) := by
  have ha' : a % 2 ^ 64 = a := Nat.mod_eq_of_lt (by omega)
  have hb' : b % 2 ^ 64 = b := Nat.mod_eq_of_lt (by omega)
  have hx := Nat.xor_lt_two_pow ha hb
  show IntKind.i64.wrap (((BitVec.ofInt 64 (a : Int) ^^^ BitVec.ofInt 64 (b : Int)).toNat : Nat) : Int) = _
  rw [BitVec.ofInt_natCast, BitVec.ofInt_natCast, BitVec.toNat_xor, BitVec.toNat_ofNat, BitVec.toNat_ofNat, ha', hb']
  exact wrapi_nat (by omega)
theorem bits_andNot_i {a b : Nat} (ha : a < 2 ^ 63) (hb : b < 2 ^ 63) : Go.bits .andNot .i64 (a : Int) (b : Int) = ((a ^^^ (a &&& b) : Nat) : Int) := by
  have ha' : a % 2 ^ 64 = a := Nat.mod_eq_of_lt (by omega)
  have hb' : b % 2 ^ 64 = b := Nat.mod_eq_of_lt (by omega)
  have hx : a ^^^ (a &&& b) < 2 ^ 63 := Nat.xor_lt_two_pow ha (Nat.lt_of_le_of_lt Nat.and_le_left ha)
  have key : (BitVec.ofNat 64 a &&& ~~~BitVec.ofNat 64 b).toNat = a ^^^ (a &&& b) := by
    apply Nat.eq_of_testBit_eq
    intro i
    have e1 : (BitVec.ofNat 64 a &&& ~~~BitVec.ofNat 64 b).toNat.testBit i = (BitVec.ofNat 64 a &&& ~~~BitVec.ofNat 64 b).getLsbD i := rfl
    rw [e1]
    simp only [BitVec.getLsbD_and, BitVec.getLsbD_not, BitVec.getLsbD_ofNat, Nat.testBit_xor, Nat.testBit_and]
    by_cases hi : i < 64
    · simp [hi]
      cases a.testBit i <;> cases b.testBit i <;> rfl
    · have : a.testBit i = false := Nat.testBit_lt_two_pow (Nat.lt_of_lt_of_le ha (Nat.pow_le_pow_right (by decide) (by omega)))
      simp [hi, this]
  show IntKind.i64.wrap (((BitVec.ofInt 64 (a : Int) &&& ~~~BitVec.ofInt 64 (b : Int)).toNat : Nat) : Int) = _
  rw [BitVec.ofInt_natCast, BitVec.ofInt_natCast, key]
  exact wrapi_nat (by omega)
theorem shl_one {g : Nat} (h : g < 63) : shl .i64 1 (g : Int) = ((2 ^ g : Nat) : Int) := by
  unfold shl
  have : min ((g : Int).toNat) IntKind.i64.bits = g := by simp [IntKind.bits]; omega
  rw [this, Int.one_mul]
  have hp : (2 : Nat) ^ g ≤ 2 ^ 62 := Nat.pow_le_pow_right (by decide) (by omega)
  have : ((2 : Int) ^ g) = ((2 ^ g : Nat) : Int) := by simp
  rw [this]
  exact wrapi_nat (by omega)
theorem shr_nat {a g : Nat} (ha : a < 2 ^ 63) : shr .i64 (a : Int) (g : Int) = ((a >>> g : Nat) : Int) := by
  unfold shr
  rw [Nat.shiftRight_eq_div_pow]
  by_cases hg : g ≤ 64
  · have : min ((g : Int).toNat) IntKind.i64.bits = g := by simp [IntKind.bits]; omega
    rw [this]
    have : ((2 : Int) ^ g) = ((2 ^ g : Nat) : Int) := by simp
    rw [this]
    omega
  · have : min ((g : Int).toNat) IntKind.i64.bits = 64 := by simp [IntKind.bits]; omega
    rw [this]
    have hp : (2 : Nat) ^ 64 ≤ 2 ^ g := Nat.pow_le_pow_right (by decide) (by omega)
    rw [Nat.div_eq_of_lt (by omega)]
    have : (a : Int) / 2 ^ 64 = 0 := by omega
    simpa using this
def opn (o g : Int) : Bool := o.toNat.testBit g.toNat
theorem bit_test {o g : Int} (ho : 0 ≤ o) (ho2 : o < 9223372036854775808) (hg : 0 ≤ g) : (Go.bits .and .i64 (shr .i64 o g) 1 == 1) = opn o g := by
  obtain ⟨a, rfl⟩ := Int.eq_ofNat_of_zero_le ho
  obtain ⟨n, rfl⟩ := Int.eq_ofNat_of_zero_le hg
  have ha : a < 2 ^ 63 := by omega
  rw [shr_nat ha]
  have h2 : a >>> n < 2 ^ 63 := Nat.lt_of_le_of_lt (by rw [Nat.shiftRight_eq_div_pow]; exact Nat.div_le_self _ _) ha
  unfold opn
  simp only [Int.toNat_natCast]
  rw [show ((1 : Int)) = ((1 : Nat) : Int) from rfl, bits_and_i h2 (by decide), Nat.testBit, Nat.and_one_is_mod, Nat.one_and_eq_mod_two]
  rcases Nat.mod_two_eq_zero_or_one (a >>> n) with h | h <;> simp [h]
theorem fold_loop {σ ρ : Type} {F : Nat → σ → Int → Option ρ} {n c : Nat} {step : σ → Nat → σ} {fin : σ → ρ} {I : σ → Nat → Prop}
    (hF : ∀ k s (i : Nat), c ≤ k → i < n → I s i → F (k + 1) s (i : Int) = F k (step s i) ((i : Int) + 1)) (hI : ∀ s i, i < n → I s i → I (step s i) (i + 1))
    (hE : ∀ k s, c ≤ k → I s n → F (k + 1) s (n : Int) = some (fin s)) :
    ∀ (d i : Nat) (k : Nat) (s : σ), i + d = n → d + c + 1 ≤ k → I s i → F k s (i : Int) = some (fin ((List.range' i d).foldl step s))
  | 0, i, k, s, hi, hk, h => by
    obtain ⟨m, rfl⟩ : ∃ m, k = m + 1 := ⟨k - 1, by omega⟩
    obtain rfl : i = n := by omega
    simpa using hE m s (by omega) h
  | d + 1, i, k, s, hi, hk, h => by
    obtain ⟨m, rfl⟩ : ∃ m, k = m + 1 := ⟨k - 1, by omega⟩
    rw [hF m s i (by omega) (by omega) h, List.range'_succ, List.foldl_cons]
    have := fold_loop (c := c) (step := step) (fin := fin) hF hI hE d (i + 1) m (step s i) (by omega) (by omega) (hI s i (by omega) h)
    rwa [Int.natCast_add] at this
theorem inv_loop {σ ρ : Type} {F : Nat → σ → Int → Option ρ} {n c : Nat} {fin : σ → ρ} {I : σ → Nat → Prop}
    (hF : ∀ k s (i : Nat), c ≤ k → i < n → I s i → ∃ s', I s' (i + 1) ∧ F (k + 1) s (i : Int) = F k s' ((i : Int) + 1))
    (hE : ∀ k s, c ≤ k → I s n → F (k + 1) s (n : Int) = some (fin s)) :
    ∀ (d i : Nat) (k : Nat) (s : σ), i + d = n → d + c + 1 ≤ k → I s i → ∃ s', I s' n ∧ F k s (i : Int) = some (fin s')
  | 0, i, k, s, hi, hk, h => by
    obtain ⟨m, rfl⟩ : ∃ m, k = m + 1 := ⟨k - 1, by omega⟩
    obtain rfl : i = n := by omega
    exact ⟨s, h, hE m s (by omega) h⟩
  | d + 1, i, k, s, hi, hk, h => by
    obtain ⟨m, rfl⟩ : ∃ m, k = m + 1 := ⟨k - 1, by omega⟩
    obtain ⟨s', h', e⟩ := hF m s i (by omega) (by omega) h
    obtain ⟨s2, h2, e2⟩ := inv_loop (c := c) (fin := fin) hF hE d (i + 1) m s' (by omega) (by omega) h'
    rw [Int.natCast_add] at e2
    exact ⟨s2, h2, e.trans e2⟩
theorem all_loop {α : Type} (z : α) {F : Nat → Int → Option Bool} {l : List α} {p : α → Bool} {c : Nat} {b : Bool}
    (hF : ∀ k (i : Nat), c ≤ k → i < l.length → F (k + 1) (i : Int) = if p (l.getD i z) = true then F k ((i : Int) + 1) else some false) (hE : ∀ k, c ≤ k → F (k + 1) (l.length : Int) = some b) {k : Nat} (hk : l.length + c + 1 ≤ k) :
    F k 0 = some (l.all p && b) := by
  have key : ∀ (d i : Nat) (k : Nat), i + d = l.length → d + c + 1 ≤ k → F k (i : Int) = some ((l.drop i).all p && b) := by
    intro d
    induction d with
    | zero =>
      intro i k hi hk
      obtain ⟨m, rfl⟩ : ∃ m, k = m + 1 := ⟨k - 1, by omega⟩
      obtain rfl : i = l.length := by omega
      rw [hE m (by omega), List.drop_of_length_le (by omega)]
      simp
    | succ d ih =>
      intro i k hi hk
      obtain ⟨m, rfl⟩ : ∃ m, k = m + 1 := ⟨k - 1, by omega⟩
      have hil : i < l.length := by omega
      rw [hF m i (by omega) hil, List.drop_eq_getElem_cons hil, List.all_cons]
      have e : l.getD i z = l[i] := by rw [List.getD_eq_getElem?_getD, List.getElem?_eq_getElem hil]; rfl
      rw [e]
      have := ih (i + 1) m (by omega) (by omega)
      rw [Int.natCast_add] at this
      by_cases h : p l[i] = true
      · rw [if_pos h, h]
        simpa using this
      · rw [if_neg h]
        simp at h
        simp [h]
  have := key l.length 0 k (by omega) (by omega)
  simpa using this
theorem w64_succ {i n : Nat} (h : i < n) (hn : n ≤ 9223372036854775807) : wrap64 ((i : Int) + 1) = (i : Int) + 1 := w64 (by omega) (by omega)
end Go.Proofs.Ytpeehicekddjhaa.F
end

section
namespace Go.Proofs.Ytpeehicekddjhaa.F
open Go.RowKit Go.Proofs.YtpeehicekddjhaaW.PrintWords Go.Proofs.YtpeehicekddjhaaW.PrintLast Go.Proofs.YtpeehicekddjhaaW.PrintMore
set_option linter.unusedVariables false
set_option linter.unusedSimpArgs false
def gok (w h : Int) : Bool := decide (1 ≤ w ∧ w ≤ 4 ∧ 1 ≤ h ∧ h ≤ 4)
theorem gok_iff {w h : Int} : gok w h = true ↔ 1 ≤ w ∧ w ≤ 4 ∧ 1 ≤ h ∧ h ≤ 4 := by simp [gok]
theorem gok_wide {w h : Int} (H : gok w h = true) : w = 1 ∨ w = 2 ∨ w = 3 ∨ w = 4 := by rw [gok_iff] at H; omega
theorem gok_high {w h : Int} (H : gok w h = true) : h = 1 ∨ h = 2 ∨ h = 3 ∨ h = 4 := by rw [gok_iff] at H; omega
def cells (w h : Int) : Int := if gok w h then w * h else 0
def gaps (w h : Int) : Int := if gok w h then (w - 1) * h + w * (h - 1) else 0
theorem cells_bd (w h : Int) : 0 ≤ cells w h ∧ cells w h ≤ 16 := by
  unfold cells
  by_cases H : gok w h = true
  · rw [if_pos H]
    rcases gok_wide H with rfl | rfl | rfl | rfl <;> rcases gok_high H with rfl | rfl | rfl | rfl <;> omega
  · rw [if_neg H]; omega
theorem gaps_bd (w h : Int) : 0 ≤ gaps w h ∧ gaps w h ≤ 24 := by
  unfold gaps
  by_cases H : gok w h = true
  · rw [if_pos H]
    rcases gok_wide H with rfl | rfl | rfl | rfl <;> rcases gok_high H with rfl | rfl | rfl | rfl <;> omega
  · rw [if_neg H]; omega
theorem impl_GridOk_eq (w h : Int) : impl_GridOk.f w h = some (gok w h) := by
  unfold impl_GridOk.f gok
  by_cases h1 : w ≥ 1 <;> by_cases h2 : w ≤ 4 <;> by_cases h3 : h ≥ 1 <;> simp [*] <;> omega
theorem spec_l01In_eq (x a b : Int) : spec_l01In.f x a b = some (decide (a ≤ x ∧ x ≤ b)) := by
  unfold spec_l01In.f
  by_cases h1 : x ≥ a
  · simp [h1]
  · rw [if_neg h1]; simp; omega
theorem spec_GridOk_eq (w h : Int) : spec_GridOk.f w h = some (gok w h) := by
  unfold spec_GridOk.f
  simp only [spec_l01In_eq, Option.bind_some]
  unfold gok
  by_cases h1 : 1 ≤ w ∧ w ≤ 4
  · simp [h1]
  · rw [if_neg (by simpa using h1)]; simp; omega
theorem gok_mul {w h : Int} (H : gok w h = true) : 1 ≤ w * h ∧ w * h ≤ 16 ∧ 0 ≤ (w - 1) * h ∧ (w - 1) * h ≤ 12 ∧ 0 ≤ w * (h - 1) ∧ w * (h - 1) ≤ 12 := by
  rcases gok_wide H with rfl | rfl | rfl | rfl <;> rcases gok_high H with rfl | rfl | rfl | rfl <;> omega
theorem impl_CountCells_eq (w h : Int) : impl_CountCells.f w h = some (cells w h) := by
  unfold impl_CountCells.f cells
  rw [impl_GridOk_eq, Option.bind_some]
  by_cases H : gok w h = true
  · have := gok_mul H
    rw [if_pos H, if_pos H, w64 (by omega) (by omega)]
  · rw [if_neg H, if_neg H]
theorem spec_CountCells_eq (w h : Int) : spec_CountCells.f w h = some (cells w h) := by
  unfold spec_CountCells.f cells
  rw [spec_GridOk_eq, Option.bind_some]
  by_cases H : gok w h = true
  · have := gok_mul H
    rw [if_pos H, if_pos H, w64 (by omega) (by omega)]
  · rw [if_neg H, if_neg H]
theorem impl_CountGaps_eq (w h : Int) : impl_CountGaps.f w h = some (gaps w h) := by
  unfold impl_CountGaps.f gaps
  rw [impl_GridOk_eq, Option.bind_some]
  by_cases H : gok w h = true
  · have := gok_mul H
    have b := gok_iff.1 H
    rw [if_pos H, if_pos H, w64 (x := w - 1) (by omega) (by omega), w64 (x := h - 1) (by omega) (by omega), w64 (x := (w - 1) * h) (by omega) (by omega), w64 (x := w * (h - 1)) (by omega) (by omega), w64 (by omega) (by omega)]
  · rw [if_neg H, if_neg H]
theorem spec_CountGaps_eq (w h : Int) : spec_CountGaps.f w h = some (gaps w h) := by
  unfold spec_CountGaps.f spec_l02East.f gaps
  rw [spec_GridOk_eq, Option.bind_some]
  by_cases H : gok w h = true
  · have := gok_mul H
    have b := gok_iff.1 H
    rw [if_pos H, if_pos H, Option.bind_some, w64 (x := w - 1) (by omega) (by omega), w64 (x := h - 1) (by omega) (by omega), Int.mul_comm h (w - 1), w64 (x := (w - 1) * h) (by omega) (by omega), w64 (x := w * (h - 1)) (by omega) (by omega), w64 (by omega) (by omega)]
  · rw [if_neg H, if_neg H]
def icell (w h c : Int) : Bool := decide (0 ≤ c ∧ c < cells w h)
def igap (w h g : Int) : Bool := decide (0 ≤ g ∧ g < gaps w h)
theorem icell_iff {w h c : Int} : icell w h c = true ↔ 0 ≤ c ∧ c < cells w h := by simp [icell]
theorem igap_iff {w h c : Int} : igap w h c = true ↔ 0 ≤ c ∧ c < gaps w h := by simp [igap]
theorem impl_isCell_eq (w h c : Int) : impl_isCell.f w h c = some (icell w h c) := by
  unfold impl_isCell.f icell
  rw [impl_CountCells_eq]
  by_cases h1 : c ≥ 0
  · rw [if_pos h1]; simp [h1]
  · rw [if_neg h1]; simp; omega
theorem in_cells (w h c : Int) : decide (0 ≤ c ∧ c ≤ wrap64 (cells w h - 1)) = icell w h c := by
  have := cells_bd w h
  rw [w64 (by omega) (by omega)]
  unfold icell
  rw [Bool.eq_iff_iff]; simp; omega
theorem in_gaps (w h c : Int) : decide (0 ≤ c ∧ c ≤ wrap64 (gaps w h - 1)) = igap w h c := by
  have := gaps_bd w h
  rw [w64 (by omega) (by omega)]
  unfold igap
  rw [Bool.eq_iff_iff]; simp; omega
theorem icell_gok {w h c : Int} (H : icell w h c = true) : gok w h = true := by
  rw [icell_iff] at H
  unfold cells at H
  by_cases G : gok w h = true
  · exact G
  · rw [if_neg G] at H; omega
theorem icell_mul {w h c : Int} (H : icell w h c = true) : 0 ≤ c ∧ c < w * h := by
  have G := icell_gok H
  rw [icell_iff] at H
  unfold cells at H
  rwa [if_pos G] at H
def nb (w h c d : Int) : Int :=
  if icell w h c then
    (if d = 0 then (if c / w > 0 then c - w else -1) else if d = 1 then (if c % w < w - 1 then c + 1 else -1) else if d = 2 then (if c / w < h - 1 then c + w else -1) else if d = 3 then (if c % w > 0 then c - 1 else -1) else -1)
  else -1
theorem div_facts {w h c : Int} (G : gok w h = true) (H : 0 ≤ c ∧ c < w * h) : Int.tdiv c w = c / w ∧ Int.tmod c w = c % w ∧ wrap64 (c / w) = c / w ∧ 0 ≤ c / w ∧ c / w < h ∧ 0 ≤ c % w ∧ c % w < w ∧ w * (c / w) + c % w = c := by
  have b := gok_iff.1 G
  have e1 : Int.tdiv c w = c / w := Int.tdiv_eq_ediv_of_nonneg H.1
  have e2 : Int.tmod c w = c % w := Int.tmod_eq_emod_of_nonneg H.1
  have e3 : 0 ≤ c / w := Int.ediv_nonneg H.1 (by omega)
  have e4 : c / w < h := by
    apply Int.ediv_lt_of_lt_mul (by omega)
    rw [Int.mul_comm]; exact H.2
  exact ⟨e1, e2, w64 (by omega) (by omega), e3, e4, Int.emod_nonneg _ (by omega), Int.emod_lt_of_pos _ (by omega), Int.mul_ediv_add_emod c w⟩
theorem impl_Neighbor_eq {k : Nat} (hk : 3 ≤ k) (w h c d : Int) : impl_Neighbor.f k w h c d = some (nb w h c d) := by
  obtain ⟨m, rfl⟩ : ∃ m, k = m + 3 := ⟨k - 3, by omega⟩
  unfold impl_Neighbor.f nb
  rw [impl_isCell_eq, Option.bind_some]
  by_cases H : icell w h c = true
  · have G := icell_gok H
    have b := gok_iff.1 G
    have hc := icell_mul H
    have hm := gok_mul G
    obtain ⟨e1, e2, e3, y0, y1, x0, x1, hq⟩ := div_facts G hc
    rw [if_pos H, if_pos H, if_neg (by omega), e1, e2, e3]
    simp only [impl_Neighbor.j0, impl_Neighbor.j1, impl_Neighbor.j2]
    rw [w64 (x := w - 1) (by omega) (by omega), w64 (x := h - 1) (by omega) (by omega)]
    by_cases d0 : d = 0
    · subst d0
      by_cases t : c / w > 0 <;> simp [t, w64 (x := c - w) (by omega) (by omega)]
    by_cases d1 : d = 1
    · subst d1
      by_cases t : c % w < w - 1 <;> simp [t, w64 (x := c + 1) (by omega) (by omega)]
    by_cases d2 : d = 2
    · subst d2
      by_cases t : c / w < h - 1 <;> simp [t, w64 (x := c + w) (by omega) (by omega)]
    by_cases d3 : d = 3
    · subst d3
      by_cases t : c % w > 0 <;> simp [t, w64 (x := c - 1) (by omega) (by omega)]
    simp [d0, d1, d2, d3]
  · rw [if_neg H, if_neg H]
theorem spec_j0_eq {w h : Int} (G : gok w h = true) (m : Nat) {x y : Int} : spec_Neighbor.j0 (m + 1) x y w h = some (if 0 ≤ x ∧ x ≤ w - 1 ∧ 0 ≤ y ∧ y ≤ h - 1 then y * w + x else -1) := by
  have b := gok_iff.1 G
  simp only [spec_Neighbor.j0, spec_l01In_eq, Option.bind_some, decide_eq_true_eq]
  rw [w64 (x := w - 1) (by omega) (by omega), w64 (x := h - 1) (by omega) (by omega)]
  by_cases h1 : 0 ≤ x ∧ x ≤ w - 1
  · rw [if_pos h1]
    by_cases h2 : 0 ≤ y ∧ y ≤ h - 1
    · have l1 : y * w ≤ 3 * 4 := Int.mul_le_mul (by omega) (by omega) (by omega) (by omega)
      have l0 : 0 ≤ y * w := Int.mul_nonneg (by omega) (by omega)
      rw [if_pos h2, if_pos ⟨h1.1, h1.2, h2.1, h2.2⟩, w64 (x := y * w) (by omega) (by omega), w64 (by omega) (by omega)]
    · rw [if_neg h2, if_neg (fun h => h2 ⟨h.2.2.1, h.2.2.2⟩)]
  · rw [if_neg h1, if_neg (fun h => h1 ⟨h.1, h.2.1⟩)]
theorem spec_Neighbor_eq {k : Nat} (hk : 1 ≤ k) (w h c d : Int) : spec_Neighbor.f k w h c d = some (nb w h c d) := by
  obtain ⟨m, rfl⟩ : ∃ m, k = m + 1 := ⟨k - 1, by omega⟩
  unfold spec_Neighbor.f nb
  rw [spec_CountCells_eq, Option.bind_some, spec_l01In_eq, Option.bind_some, in_cells]
  by_cases H : icell w h c = true
  · have G := icell_gok H
    have b := gok_iff.1 G
    have hc := icell_mul H
    have hm := gok_mul G
    obtain ⟨e1, e2, e3, y0, y1, x0, x1, hq⟩ := div_facts G hc
    rw [if_pos H, if_pos H, if_neg (by omega), e1, e2, e3, w64 (x := c / w - 1) (by omega) (by omega), w64 (x := c / w + 1) (by omega) (by omega), w64 (x := c % w - 1) (by omega) (by omega), w64 (x := c % w + 1) (by omega) (by omega)]
    simp only [spec_j0_eq G]
    have p1 : (c / w - 1) * w = w * (c / w) - w := by rw [Int.sub_mul, Int.one_mul, Int.mul_comm]
    have p2 : (c / w + 1) * w = w * (c / w) + w := by rw [Int.add_mul, Int.one_mul, Int.mul_comm]
    have p3 : (c / w) * w = w * (c / w) := Int.mul_comm _ _
    rw [p1, p2, p3]
    by_cases d0 : d = 0
    · rw [if_pos d0, if_pos d0]
      by_cases t : c / w > 0
      · rw [if_pos (by omega), if_pos t]; congr 1; omega
      · rw [if_neg (by omega), if_neg t]
    rw [if_neg d0, if_neg d0]
    by_cases d1 : d = 1
    · rw [if_pos d1, if_pos d1]
      by_cases t : c % w < w - 1
      · rw [if_pos (by omega), if_pos t]; congr 1; omega
      · rw [if_neg (by omega), if_neg t]
    rw [if_neg d1, if_neg d1]
    by_cases d2 : d = 2
    · rw [if_pos d2, if_pos d2]
      by_cases t : c / w < h - 1
      · rw [if_pos (by omega), if_pos t]; congr 1; omega
      · rw [if_neg (by omega), if_neg t]
    rw [if_neg d2, if_neg d2]
    by_cases d3 : d = 3
    · rw [if_pos d3, if_pos d3]
      by_cases t : c % w > 0
      · rw [if_pos (by omega), if_pos t]; congr 1; omega
      · rw [if_neg (by omega), if_neg t]
    rw [if_neg d3, if_neg d3]
  · rw [if_neg H, if_neg H]
end Go.Proofs.Ytpeehicekddjhaa.F
end
