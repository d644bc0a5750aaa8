/- Packed by a program of the session (wip/tools/pack.py): what the claim's theorem reaches, of the texts that wip/ and the kit's printer lay. -/
import Derived.Test.YtkindoepnganmaaGreatPkFnExactIsReplay9
section
namespace Go.Proofs.YtkindoepnganmaaGreat.F
open Go.RowKit Go.Proofs.YtkindoepnganmaaGreatW.PrintWords Go.Proofs.YtkindoepnganmaaGreatW.PrintLast Go.Proofs.YtkindoepnganmaaGreatW.PrintMore
set_option linter.unusedVariables false
set_option linter.unusedSimpArgs false
attribute [local go_sem] max2_int min2_int max_two min_two
set_option maxHeartbeats 8000000 in
set_option maxRecDepth 100000 in
theorem impl_RunActs.calls (k : Nat) (a0_0 : Int) (a0_1 : Int) (a0_2 : Int) (A0_3 : Option Addr) (c0_3 : Nat) (l0_3 : List Int) (a0_4 : Int) (a0_5 : Int) (A0_6 : Option Addr) (c0_6 : Nat) (l0_6 : List Int) (a0_7 : Int) (A1 : Option Addr) (c1 : Nat) (l1 : List (SAct)) (r1 : Int) (r2 : Int) (r3 : Int) (r4 : List Int) (r5 : Int) (r6 : Int) (r7 : List Int) (r8 : Int) (r9 : List Int) (w : World) (hr0_3 : Kd.C (Kd.int .i64) w A0_3 l0_3.length l0_3) (hc0_3 : l0_3.length ≤ c0_3) (hr0_6 : Kd.C (Kd.int .i64) w A0_6 l0_6.length l0_6) (hc0_6 : l0_6.length ≤ c0_6) (hr1 : Kd.C k53 w A1 l1.length l1) (hc1 : l1.length ≤ c1) (h : impl_RunActs.f k a0_0 a0_1 a0_2 l0_3 a0_4 a0_5 l0_6 a0_7 l1 = some (r1, r2, r3, r4, r5, r6, r7, r8, r9)) :
  Calls Tryz.prog 36 #[.agg #[.int .i64 a0_0, .int .i64 a0_1, .int .i64 a0_2, .slice A0_3 l0_3.length c0_3, .int .i64 a0_4, .int .i64 a0_5, .slice A0_6 l0_6.length c0_6, .int .i64 a0_7], .slice A1 l1.length c1] w fun e w' => ∃ v3_ v6_ v8_ : Value, e = .returned (.tuple #[.agg #[.int .i64 r1, .int .i64 r2, .int .i64 r3, v3_, .int .i64 r5, .int .i64 r6, v6_, .int .i64 r8], v8_]) ∧ Kd.R (Kd.int .i64) 3 w' w.heap.size (fun k_ => some k_ ≠ (v6_ : Value).ownBlock ∧ some k_ ≠ (v8_ : Value).ownBlock) v3_ r4 ∧ Kd.R (Kd.int .i64) 3 w' w.heap.size (fun k_ => some k_ ≠ (v3_ : Value).ownBlock ∧ some k_ ≠ (v8_ : Value).ownBlock) v6_ r7 ∧ Kd.R (Kd.int .i64) 3 w' w.heap.size (fun k_ => some k_ ≠ (v3_ : Value).ownBlock ∧ some k_ ≠ (v6_ : Value).ownBlock) v8_ r9 ∧ Below w.heap.size w w' := by
 have hu38 := Tryz.underlying38
 have hu53 := Tryz.underlying53
 have HR0_3 := aK hr0_3
 have HC0_3 := aK hc0_3
 clear hr0_3 hc0_3
 have HR0_6 := aK hr0_6
 have HC0_6 := aK hc0_6
 clear hr0_6 hc0_6
 have HR1 := aK hr1
 have HC1 := aK hc1
 clear hr1 hc1
 have HB := aK (Below.refl w.heap.size w)
 have H : ((impl_copyGarden.f a0_0 a0_1 a0_2 l0_3 a0_4 a0_5 l0_6 a0_7).bind fun bt1963 => ((impl_GardenOk.f k a0_0 a0_1 a0_2 l0_3 a0_4 a0_5 l0_6 a0_7).bind fun t1976 => (if t1976 = true then (impl_RunActs.j0 k l1 (decide ((l1.length : Int) > 40)) bt1963.1 bt1963.2.1 bt1963.2.2.1 bt1963.2.2.2.1 bt1963.2.2.2.2.1 bt1963.2.2.2.2.2.1 bt1963.2.2.2.2.2.2.1 bt1963.2.2.2.2.2.2.2) else (impl_RunActs.j0 k l1 true bt1963.1 bt1963.2.1 bt1963.2.2.1 bt1963.2.2.2.1 bt1963.2.2.2.2.1 bt1963.2.2.2.2.2.1 bt1963.2.2.2.2.2.2.1 bt1963.2.2.2.2.2.2.2)))) = some (r1, r2, r3, r4, r5, r6, r7, r8, r9) := h
 clear h
 replace H := Option.bind_eq_some_iff.mp H
 obtain ⟨⟨t1963, t1964, t1965, t1966, t1969, t1970, t1971, t1974⟩, A30, H⟩ := H
 replace H : ((impl_GardenOk.f k a0_0 a0_1 a0_2 l0_3 a0_4 a0_5 l0_6 a0_7).bind fun t1976 => (if t1976 = true then (impl_RunActs.j0 k l1 (decide ((l1.length : Int) > 40)) t1963 t1964 t1965 t1966 t1969 t1970 t1971 t1974) else (impl_RunActs.j0 k l1 true t1963 t1964 t1965 t1966 t1969 t1970 t1971 t1974))) = some (r1, r2, r3, r4, r5, r6, r7, r8, r9) := H
 have A3 := aK A30
 clear A30
 have HC4 := aK H
 clear H
 go_enter Tryz.func36, Tryz.ntmps36
 go_upto_region 2 with (first | ((with_reducible refine gate_dst (N := 2) rfl ?_); (try (refine gate_guard (by rfl) ?_; dsimp only)); refine box_event ?hg (N := 2) ?hd (cs := #[.int .i64 a0_0, .int .i64 a0_1, .int .i64 a0_2, .slice A0_3 l0_3.length c0_3, .int .i64 a0_4, .int .i64 a0_5, .slice A0_6 l0_6.length c0_6, .int .i64 a0_7]) (t := 38) ?hr ?_; (case hd => rfl); (case hg => rfl); (case hr => first | (go_simp; done) | (go_simp; rfl)); intro gb1961 hg w5 hbox hb; have BK1961 := aK (hbox); have GW1961 := aK ((by rw [hg]; exact (bSz (zH0 HB)) : w.heap.size ≤ gb1961)); replace HB := aK (bSp (zH0 HB) hb); have GE1961 := GW1961; clear hb hbox hg) | ((with_reducible refine gate_dst (N := 4) rfl ?_); (try (refine gate_guard (by rfl) ?_; dsimp only)); refine box_event ?hg (N := 4) ?hd (cs := #[.int .i64 0, .int .i64 0, .int .i64 0, .slice none 0 0, .int .i64 0, .int .i64 0, .slice none 0 0, .int .i64 0]) (t := 38) ?hr ?_; (case hd => rfl); (case hg => rfl); (case hr => first | (go_simp; done) | (go_simp; rfl)); intro gb1962 hg w6 hbox hb; have BK1962 := aK (hbox); have GW1962 := aK ((by rw [hg]; exact (bSz (zH1 HB GE1961)) : w.heap.size ≤ gb1962)); replace HB := aK (bSp (zH1 HB GE1961) hb); have GE1962 := GW1962; have NB1961_1962 := nbl BK1961 hg (by intro z_; (with_reducible repeat (first | refine blk_drewN ?_ _ | refine kD ?_ | refine kA ?_ _)); exact z_); replace BK1961 := zB BK1961 hb; have NB1962_1961 := nbs NB1961_1962; clear hb hbox hg; have hnb7 := NB1961_1962.out; have hnc7 := NB1962_1961.out; obtain ⟨hcz8_0, hcz8_1, hcz8_2, hcz8_3, hcz8_4, hcz8_5, hcz8_6, hcz8_7, hfz8_0, hfz8_1, hfz8_2, hfz8_3, hfz8_4, hfz8_5, hfz8_6, hfz8_7⟩ := cl8 BK1961.out) | ((with_reducible refine gate_callee (f := 64) rfl ?_); refine goesL_ (some 13) rfl rfl Tryz.func64 (by kernel_rfl) rfl #[.agg #[.int .i64 a0_0, .int .i64 a0_1, .int .i64 a0_2, .slice A0_3 l0_3.length c0_3, .int .i64 a0_4, .int .i64 a0_5, .slice A0_6 l0_6.length c0_6, .int .i64 a0_7]] rfl zD ?_; (with_reducible refine (impl_copyGarden.calls a0_0 a0_1 a0_2 _ _ l0_3 a0_4 a0_5 _ _ l0_6 a0_7 t1963 t1964 t1965 t1966 t1969 t1970 t1971 t1974 _ ?side1 ?side2 ?side3 ?side4 A3.out).mono ?_); (case side1 => exact zC (Kd.C_below HR0_3.out HB.out)); (case side2 => exact HC0_3.out); (case side3 => exact zC (Kd.C_below HR0_6.out HB.out)); (case side4 => exact HC0_6.out); rintro e w9 ⟨v1967, v1972, rfl, ho0, ho1, hb⟩; refine ⟨_, rfl, ?_⟩; have HO1968 := aK (Kd.R_lower ho0 (bSz (zH2 HB GE1961 GE1962))); have HO1973 := aK (Kd.R_lower ho1 (bSz (zH2 HB GE1961 GE1962))); replace BK1961 := zB BK1961 hb; replace BK1962 := zB BK1962 hb; replace HB := aK (bSp (zH2 HB GE1961 GE1962) hb); (try clear hb); (try clear hb2); (try clear hk); (try clear hi); (try clear ho0); (try clear ho1)) | ((with_reducible refine gate_dst (N := 6) rfl ?_); (try (refine gate_guard (by rfl) ?_; dsimp only)); refine box_event ?hg (N := 6) ?hd (cs := #[.int .i64 0, .int .i64 0, .int .i64 0, .slice none 0 0, .int .i64 0, .int .i64 0, .slice none 0 0, .int .i64 0]) (t := 38) ?hr ?_; (case hd => rfl); (case hg => rfl); (case hr => first | (go_simp; done) | (go_simp; rfl)); intro gb1975 hg w10 hbox hb; replace HO1968 := aK (Kd.R_below (zA HO1968) hb); replace HO1973 := aK (Kd.R_below (zA HO1973) hb); have BK1975 := aK (hbox); have GW1975 := aK ((by rw [hg]; exact (bSz (zH2 HB GE1961 GE1962)) : w.heap.size ≤ gb1975)); replace HB := aK (bSp (zH2 HB GE1961 GE1962) hb); have GE1975 := GW1975; have NB1961_1975 := nbl BK1961 hg (by intro z_; (with_reducible repeat (first | refine blk_drewN ?_ _ | refine kD ?_ | refine kA ?_ _)); exact z_); replace BK1961 := zB BK1961 hb; have NB1975_1961 := nbs NB1961_1975; have NB1962_1975 := nbl BK1962 hg (by intro z_; (with_reducible repeat (first | refine blk_drewN ?_ _ | refine kD ?_ | refine kA ?_ _)); exact z_); replace BK1962 := zB BK1962 hb; have NB1975_1962 := nbs NB1962_1975; clear hb hbox hg; have hnb11 := NB1975_1961.out; have hnc11 := NB1961_1975.out; have hnb12 := NB1975_1962.out; have hnc12 := NB1962_1975.out; obtain ⟨hcz13_0, hcz13_1, hcz13_2, hcz13_3, hcz13_4, hcz13_5, hcz13_6, hcz13_7, hfz13_0, hfz13_1, hfz13_2, hfz13_3, hfz13_4, hfz13_5, hfz13_6, hfz13_7⟩ := cl8 BK1975.out; obtain ⟨Ao14, co14, eo14⟩ := Kd.R_slice HO1968.out; subst eo14; obtain ⟨Ao15, co15, eo15⟩ := Kd.R_slice HO1973.out; subst eo15))
 (try simp only [Act.put, sTA, sZ, sS])
 go_cut [21] (fun v21 wc => ∃ (kq : Nat) (x21_3 : Bool), v21 = .bool x21_3 ∧ Aside0 (impl_RunActs.j0 kq l1 x21_3 t1963 t1964 t1965 t1966 t1969 t1970 t1971 t1974 = some (r1, r2, r3, r4, r5, r6, r7, r8, r9)) ∧ Aside0 (kq ≤ k) ∧ Aside0 (Kd.R (Kd.int .i64) 3 wc w.heap.size (fun k_ => some k_ ≠ ((.slice Ao15 t1971.length co15) : Value).ownBlock) (.slice Ao14 t1966.length co14) t1966) ∧ Aside0 (Kd.R (Kd.int .i64) 3 wc w.heap.size (fun k_ => some k_ ≠ ((.slice Ao14 t1966.length co14) : Value).ownBlock) (.slice Ao15 t1971.length co15) t1971) ∧ Aside0 (wc.heap[gb1961]? = some (.cells #[.int .i64 a0_0, .int .i64 a0_1, .int .i64 a0_2, (.slice A0_3 l0_3.length c0_3), .int .i64 a0_4, .int .i64 a0_5, (.slice A0_6 l0_6.length c0_6), .int .i64 a0_7] 38 (0, 0))) ∧ Aside0 (wc.heap[gb1962]? = some (.cells #[.int .i64 0, .int .i64 0, .int .i64 0, (.slice none 0 0), .int .i64 0, .int .i64 0, (.slice none 0 0), .int .i64 0] 38 (0, 0))) ∧ Aside0 (wc.heap[gb1975]? = some (.cells #[.int .i64 t1963, .int .i64 t1964, .int .i64 t1965, (.slice Ao14 t1966.length co14), .int .i64 t1969, .int .i64 t1970, (.slice Ao15 t1971.length co15), .int .i64 t1974] 38 (0, 0))) ∧ Aside0 (Below w.heap.size w wc))
 case first =>
  have H := HC4.out
  clear HC4
  replace H := Option.bind_eq_some_iff.mp H
  obtain ⟨t1976, A160, H⟩ := H
  replace H : (if t1976 = true then (impl_RunActs.j0 k l1 (decide ((l1.length : Int) > 40)) t1963 t1964 t1965 t1966 t1969 t1970 t1971 t1974) else (impl_RunActs.j0 k l1 true t1963 t1964 t1965 t1966 t1969 t1970 t1971 t1974)) = some (r1, r2, r3, r4, r5, r6, r7, r8, r9) := H
  have A16 := aK A160
  clear A160
  by_cases c17 : t1976 = true
  ·subst c17
   have H1 : (impl_RunActs.j0 k l1 (decide ((l1.length : Int) > 40)) t1963 t1964 t1965 t1966 t1969 t1970 t1971 t1974) = some (r1, r2, r3, r4, r5, r6, r7, r8, r9) := by rw [if_pos rfl] at H; exact H
   clear H
   have H := H1
   clear H1
   have H' := aK H
   clear H
   have hnb18 := NB1961_1962.out
   have hnc18 := NB1962_1961.out
   have hnb19 := NB1961_1975.out
   have hnc19 := NB1975_1961.out
   obtain ⟨hcz20_0, hcz20_1, hcz20_2, hcz20_3, hcz20_4, hcz20_5, hcz20_6, hcz20_7, hfz20_0, hfz20_1, hfz20_2, hfz20_3, hfz20_4, hfz20_5, hfz20_6, hfz20_7⟩ := cl8 BK1961.out
   go_wp2_with (first | ((with_reducible refine gate_callee (f := 48) rfl ?_); refine goesL_ (some 15) rfl rfl Tryz.func48 (by kernel_rfl) rfl #[.agg #[.int .i64 a0_0, .int .i64 a0_1, .int .i64 a0_2, .slice A0_3 l0_3.length c0_3, .int .i64 a0_4, .int .i64 a0_5, .slice A0_6 l0_6.length c0_6, .int .i64 a0_7]] rfl zD ?_; (with_reducible refine (impl_GardenOk.calls k a0_0 a0_1 a0_2 _ _ l0_3 a0_4 a0_5 _ _ l0_6 a0_7 true _ ?side1 ?side2 ?side3 ?side4 A16.out).mono ?_); (case side1 => exact Kd.C_below HR0_3.out (zH3 HB GE1961 GE1962 GE1975)); (case side2 => exact HC0_3.out); (case side3 => exact Kd.C_below HR0_6.out (zH3 HB GE1961 GE1962 GE1975)); (case side4 => exact HC0_6.out); rintro e w21 ⟨rfl, hb⟩; refine ⟨_, rfl, ?_⟩; replace HO1968 := aK (Kd.R_below (zF8 HO1968 BK1975) hb); replace HO1973 := aK (Kd.R_below (zF8 HO1973 BK1975) hb); replace BK1961 := zG8 BK1961 NB1961_1975 hb; replace BK1962 := zG8 BK1962 NB1962_1975 hb; replace BK1975 := aK (blk_below (g := gb1975) (o := .cells #[.int .i64 t1963, .int .i64 t1964, .int .i64 t1965, .slice Ao14 t1966.length co14, .int .i64 t1969, .int .i64 t1970, .slice Ao15 t1971.length co15, .int .i64 t1974] 38 (0, 0)) (by (with_reducible repeat (first | refine blk_drewN ?_ _ | refine kD ?_ | refine kA ?_ _)); refine blk_put (cs := #[.int .i64 t1963, .int .i64 t1964, .int .i64 t1965, .slice Ao14 t1966.length co14, .int .i64 t1969, .int .i64 t1970, .slice Ao15 t1971.length co15, .int .i64 0]) ?_ 7 _ rfl; (with_reducible repeat (first | refine blk_drewN ?_ _ | refine kD ?_ | refine kA ?_ _)); refine blk_put (cs := #[.int .i64 t1963, .int .i64 t1964, .int .i64 t1965, .slice Ao14 t1966.length co14, .int .i64 t1969, .int .i64 t1970, .slice none 0 0, .int .i64 0]) ?_ 6 _ rfl; (with_reducible repeat (first | refine blk_drewN ?_ _ | refine kD ?_ | refine kA ?_ _)); refine blk_put (cs := #[.int .i64 t1963, .int .i64 t1964, .int .i64 t1965, .slice Ao14 t1966.length co14, .int .i64 t1969, .int .i64 0, .slice none 0 0, .int .i64 0]) ?_ 5 _ rfl; (with_reducible repeat (first | refine blk_drewN ?_ _ | refine kD ?_ | refine kA ?_ _)); refine blk_put (cs := #[.int .i64 t1963, .int .i64 t1964, .int .i64 t1965, .slice Ao14 t1966.length co14, .int .i64 0, .int .i64 0, .slice none 0 0, .int .i64 0]) ?_ 4 _ rfl; (with_reducible repeat (first | refine blk_drewN ?_ _ | refine kD ?_ | refine kA ?_ _)); refine blk_put (cs := #[.int .i64 t1963, .int .i64 t1964, .int .i64 t1965, .slice none 0 0, .int .i64 0, .int .i64 0, .slice none 0 0, .int .i64 0]) ?_ 3 _ rfl; (with_reducible repeat (first | refine blk_drewN ?_ _ | refine kD ?_ | refine kA ?_ _)); refine blk_put (cs := #[.int .i64 t1963, .int .i64 t1964, .int .i64 0, .slice none 0 0, .int .i64 0, .int .i64 0, .slice none 0 0, .int .i64 0]) ?_ 2 _ rfl; (with_reducible repeat (first | refine blk_drewN ?_ _ | refine kD ?_ | refine kA ?_ _)); refine blk_put (cs := #[.int .i64 t1963, .int .i64 0, .int .i64 0, .slice none 0 0, .int .i64 0, .int .i64 0, .slice none 0 0, .int .i64 0]) ?_ 1 _ rfl; (with_reducible repeat (first | refine blk_drewN ?_ _ | refine kD ?_ | refine kA ?_ _)); refine blk_put (cs := #[.int .i64 0, .int .i64 0, .int .i64 0, .slice none 0 0, .int .i64 0, .int .i64 0, .slice none 0 0, .int .i64 0]) ?_ 0 _ rfl; (with_reducible repeat (first | refine blk_drewN ?_ _ | refine kD ?_ | refine kA ?_ _)); exact BK1975.out) hb); replace HB := aK (bSp (zH3 HB GE1961 GE1962 GE1975) hb); (try clear hb); (try clear hb2); (try clear hk); (try clear hi)))
   go_meet
   case rel => exact ⟨_, (decide ((l1.length : Int) > 40)), (by first | rfl | (simp; done) | (simp [*]; done)), H', ⟨by first | omega | exact Nat.le_refl _⟩, ⟨zA HO1968⟩, ⟨zA HO1973⟩, ⟨zK BK1961⟩, ⟨zK BK1962⟩, ⟨zK BK1975⟩, ⟨zH3 HB GE1961 GE1962 GE1975⟩⟩
  ·replace c17 := Bool.eq_false_iff.mpr c17
   subst c17
   have H1 : (impl_RunActs.j0 k l1 true t1963 t1964 t1965 t1966 t1969 t1970 t1971 t1974) = some (r1, r2, r3, r4, r5, r6, r7, r8, r9) := by rw [if_neg (show ¬ (false = true) by decide)] at H; exact H
   clear H
   have H := H1
   clear H1
   have H' := aK H
   clear H
   have hnb22 := NB1961_1962.out
   have hnc22 := NB1962_1961.out
   have hnb23 := NB1961_1975.out
   have hnc23 := NB1975_1961.out
   obtain ⟨hcz24_0, hcz24_1, hcz24_2, hcz24_3, hcz24_4, hcz24_5, hcz24_6, hcz24_7, hfz24_0, hfz24_1, hfz24_2, hfz24_3, hfz24_4, hfz24_5, hfz24_6, hfz24_7⟩ := cl8 BK1961.out
   go_wp2_with (first | ((with_reducible refine gate_callee (f := 48) rfl ?_); refine goesL_ (some 15) rfl rfl Tryz.func48 (by kernel_rfl) rfl #[.agg #[.int .i64 a0_0, .int .i64 a0_1, .int .i64 a0_2, .slice A0_3 l0_3.length c0_3, .int .i64 a0_4, .int .i64 a0_5, .slice A0_6 l0_6.length c0_6, .int .i64 a0_7]] rfl zD ?_; (with_reducible refine (impl_GardenOk.calls k a0_0 a0_1 a0_2 _ _ l0_3 a0_4 a0_5 _ _ l0_6 a0_7 false _ ?side1 ?side2 ?side3 ?side4 A16.out).mono ?_); (case side1 => exact Kd.C_below HR0_3.out (zH3 HB GE1961 GE1962 GE1975)); (case side2 => exact HC0_3.out); (case side3 => exact Kd.C_below HR0_6.out (zH3 HB GE1961 GE1962 GE1975)); (case side4 => exact HC0_6.out); rintro e w25 ⟨rfl, hb⟩; refine ⟨_, rfl, ?_⟩; replace HO1968 := aK (Kd.R_below (zF8 HO1968 BK1975) hb); replace HO1973 := aK (Kd.R_below (zF8 HO1973 BK1975) hb); replace BK1961 := zG8 BK1961 NB1961_1975 hb; replace BK1962 := zG8 BK1962 NB1962_1975 hb; replace BK1975 := aK (blk_below (g := gb1975) (o := .cells #[.int .i64 t1963, .int .i64 t1964, .int .i64 t1965, .slice Ao14 t1966.length co14, .int .i64 t1969, .int .i64 t1970, .slice Ao15 t1971.length co15, .int .i64 t1974] 38 (0, 0)) (by (with_reducible repeat (first | refine blk_drewN ?_ _ | refine kD ?_ | refine kA ?_ _)); refine blk_put (cs := #[.int .i64 t1963, .int .i64 t1964, .int .i64 t1965, .slice Ao14 t1966.length co14, .int .i64 t1969, .int .i64 t1970, .slice Ao15 t1971.length co15, .int .i64 0]) ?_ 7 _ rfl; (with_reducible repeat (first | refine blk_drewN ?_ _ | refine kD ?_ | refine kA ?_ _)); refine blk_put (cs := #[.int .i64 t1963, .int .i64 t1964, .int .i64 t1965, .slice Ao14 t1966.length co14, .int .i64 t1969, .int .i64 t1970, .slice none 0 0, .int .i64 0]) ?_ 6 _ rfl; (with_reducible repeat (first | refine blk_drewN ?_ _ | refine kD ?_ | refine kA ?_ _)); refine blk_put (cs := #[.int .i64 t1963, .int .i64 t1964, .int .i64 t1965, .slice Ao14 t1966.length co14, .int .i64 t1969, .int .i64 0, .slice none 0 0, .int .i64 0]) ?_ 5 _ rfl; (with_reducible repeat (first | refine blk_drewN ?_ _ | refine kD ?_ | refine kA ?_ _)); refine blk_put (cs := #[.int .i64 t1963, .int .i64 t1964, .int .i64 t1965, .slice Ao14 t1966.length co14, .int .i64 0, .int .i64 0, .slice none 0 0, .int .i64 0]) ?_ 4 _ rfl; (with_reducible repeat (first | refine blk_drewN ?_ _ | refine kD ?_ | refine kA ?_ _)); refine blk_put (cs := #[.int .i64 t1963, .int .i64 t1964, .int .i64 t1965, .slice none 0 0, .int .i64 0, .int .i64 0, .slice none 0 0, .int .i64 0]) ?_ 3 _ rfl; (with_reducible repeat (first | refine blk_drewN ?_ _ | refine kD ?_ | refine kA ?_ _)); refine blk_put (cs := #[.int .i64 t1963, .int .i64 t1964, .int .i64 0, .slice none 0 0, .int .i64 0, .int .i64 0, .slice none 0 0, .int .i64 0]) ?_ 2 _ rfl; (with_reducible repeat (first | refine blk_drewN ?_ _ | refine kD ?_ | refine kA ?_ _)); refine blk_put (cs := #[.int .i64 t1963, .int .i64 0, .int .i64 0, .slice none 0 0, .int .i64 0, .int .i64 0, .slice none 0 0, .int .i64 0]) ?_ 1 _ rfl; (with_reducible repeat (first | refine blk_drewN ?_ _ | refine kD ?_ | refine kA ?_ _)); refine blk_put (cs := #[.int .i64 0, .int .i64 0, .int .i64 0, .slice none 0 0, .int .i64 0, .int .i64 0, .slice none 0 0, .int .i64 0]) ?_ 0 _ rfl; (with_reducible repeat (first | refine blk_drewN ?_ _ | refine kD ?_ | refine kA ?_ _)); exact BK1975.out) hb); replace HB := aK (bSp (zH3 HB GE1961 GE1962 GE1975) hb); (try clear hb); (try clear hb2); (try clear hk); (try clear hi)))
   go_meet
   case rel => exact ⟨_, (true), (by first | rfl | (simp; done) | (simp [*]; done)), H', ⟨by first | omega | exact Nat.le_refl _⟩, ⟨zA HO1968⟩, ⟨zA HO1973⟩, ⟨zK BK1961⟩, ⟨zK BK1962⟩, ⟨zK BK1975⟩, ⟨zH3 HB GE1961 GE1962 GE1975⟩⟩
 case rest =>
  clear HC4
  try clear c1
  try clear c2
  try clear p2
  try clear c3
  try clear c4
  try clear c6
  try clear c7
  try clear c11
  try clear c12
  try clear c17
  try clear c18
  try clear c19
  try clear c22
  try clear c23
  try clear hcz13_0
  try clear hcz13_1
  try clear hcz13_2
  try clear hcz13_3
  try clear hcz13_4
  try clear hcz13_5
  try clear hcz13_6
  try clear hcz13_7
  try clear hcz20_0
  try clear hcz20_1
  try clear hcz20_2
  try clear hcz20_3
  try clear hcz20_4
  try clear hcz20_5
  try clear hcz20_6
  try clear hcz20_7
  try clear hcz24_0
  try clear hcz24_1
  try clear hcz24_2
  try clear hcz24_3
  try clear hcz24_4
  try clear hcz24_5
  try clear hcz24_6
  try clear hcz24_7
  try clear hcz8_0
  try clear hcz8_1
  try clear hcz8_2
  try clear hcz8_3
  try clear hcz8_4
  try clear hcz8_5
  try clear hcz8_6
  try clear hcz8_7
  try clear hfz13_0
  try clear hfz13_1
  try clear hfz13_2
  try clear hfz13_3
  try clear hfz13_4
  try clear hfz13_5
  try clear hfz13_6
  try clear hfz13_7
  try clear hfz20_0
  try clear hfz20_1
  try clear hfz20_2
  try clear hfz20_3
  try clear hfz20_4
  try clear hfz20_5
  try clear hfz20_6
  try clear hfz20_7
  try clear hfz24_0
  try clear hfz24_1
  try clear hfz24_2
  try clear hfz24_3
  try clear hfz24_4
  try clear hfz24_5
  try clear hfz24_6
  try clear hfz24_7
  try clear hfz8_0
  try clear hfz8_1
  try clear hfz8_2
  try clear hfz8_3
  try clear hfz8_4
  try clear hfz8_5
  try clear hfz8_6
  try clear hfz8_7
  obtain ⟨kq, x21_3, rfl, HA, HJ3, HO_1976003, HO_1976006, BK1961, BK1962, BK1975, HB⟩ := hcut
  cases kq with
  | zero => exact absurd HA.out (by simp [impl_RunActs.j0])
  | succ kj3 =>
   have H := HA.out
   clear HA
   simp only [impl_RunActs.j0] at H
   by_cases c26 : x21_3 = true
   ·subst c26
    have H1 : (some (t1963, t1964, t1965, t1966, t1969, t1970, t1971, t1974, ([] : List Int))) = some (r1, r2, r3, r4, r5, r6, r7, r8, r9) := by rw [if_pos rfl] at H; exact H
    clear H
    have H := H1
    clear H1
    simp only [Option.some.injEq, Prod.mk.injEq] at H
    obtain ⟨rfl, rfl, rfl, rfl, rfl, rfl, rfl, rfl, rfl⟩ := H
    have hnb27 := NB1975_1961.out
    have hnc27 := NB1961_1975.out
    have hnb28 := NB1975_1962.out
    have hnc28 := NB1962_1975.out
    obtain ⟨hcz29_0, hcz29_1, hcz29_2, hcz29_3, hcz29_4, hcz29_5, hcz29_6, hcz29_7, hfz29_0, hfz29_1, hfz29_2, hfz29_3, hfz29_4, hfz29_5, hfz29_6, hfz29_7⟩ := cl8 BK1975.out
    have hnb30 := NB1962_1961.out
    have hnc30 := NB1961_1962.out
    obtain ⟨hcz31_0, hcz31_1, hcz31_2, hcz31_3, hcz31_4, hcz31_5, hcz31_6, hcz31_7, hfz31_0, hfz31_1, hfz31_2, hfz31_3, hfz31_4, hfz31_5, hfz31_6, hfz31_7⟩ := cl8 BK1962.out
    go_wp2
    refine bodyPost_ret (results_ct rfl _ _ gb1962 38 #[.int .i64 t1963, .int .i64 t1964, .int .i64 t1965, .slice Ao14 t1966.length co14, .int .i64 t1969, .int .i64 t1970, .slice Ao15 t1971.length co15, .int .i64 t1974] (0, 0) _ rfl (by (with_reducible repeat (first | refine blk_drewN ?_ _ | refine kD ?_ | refine kA ?_ _)); refine blk_put (cs := #[.int .i64 t1963, .int .i64 t1964, .int .i64 t1965, .slice Ao14 t1966.length co14, .int .i64 t1969, .int .i64 t1970, .slice Ao15 t1971.length co15, .int .i64 0]) ?_ 7 _ rfl; (with_reducible repeat (first | refine blk_drewN ?_ _ | refine kD ?_ | refine kA ?_ _)); refine blk_put (cs := #[.int .i64 t1963, .int .i64 t1964, .int .i64 t1965, .slice Ao14 t1966.length co14, .int .i64 t1969, .int .i64 t1970, .slice none 0 0, .int .i64 0]) ?_ 6 _ rfl; (with_reducible repeat (first | refine blk_drewN ?_ _ | refine kD ?_ | refine kA ?_ _)); refine blk_put (cs := #[.int .i64 t1963, .int .i64 t1964, .int .i64 t1965, .slice Ao14 t1966.length co14, .int .i64 t1969, .int .i64 0, .slice none 0 0, .int .i64 0]) ?_ 5 _ rfl; (with_reducible repeat (first | refine blk_drewN ?_ _ | refine kD ?_ | refine kA ?_ _)); refine blk_put (cs := #[.int .i64 t1963, .int .i64 t1964, .int .i64 t1965, .slice Ao14 t1966.length co14, .int .i64 0, .int .i64 0, .slice none 0 0, .int .i64 0]) ?_ 4 _ rfl; (with_reducible repeat (first | refine blk_drewN ?_ _ | refine kD ?_ | refine kA ?_ _)); refine blk_put (cs := #[.int .i64 t1963, .int .i64 t1964, .int .i64 t1965, .slice none 0 0, .int .i64 0, .int .i64 0, .slice none 0 0, .int .i64 0]) ?_ 3 _ rfl; (with_reducible repeat (first | refine blk_drewN ?_ _ | refine kD ?_ | refine kA ?_ _)); refine blk_put (cs := #[.int .i64 t1963, .int .i64 t1964, .int .i64 0, .slice none 0 0, .int .i64 0, .int .i64 0, .slice none 0 0, .int .i64 0]) ?_ 2 _ rfl; (with_reducible repeat (first | refine blk_drewN ?_ _ | refine kD ?_ | refine kA ?_ _)); refine blk_put (cs := #[.int .i64 t1963, .int .i64 0, .int .i64 0, .slice none 0 0, .int .i64 0, .int .i64 0, .slice none 0 0, .int .i64 0]) ?_ 1 _ rfl; (with_reducible repeat (first | refine blk_drewN ?_ _ | refine kD ?_ | refine kA ?_ _)); refine blk_put (cs := #[.int .i64 0, .int .i64 0, .int .i64 0, .slice none 0 0, .int .i64 0, .int .i64 0, .slice none 0 0, .int .i64 0]) ?_ 0 _ rfl; (with_reducible repeat (first | refine blk_drewN ?_ _ | refine kD ?_ | refine kA ?_ _)); exact BK1962.out) Tryz.underlying38 rfl (by kernel_rfl)) rfl ?_
    exact ⟨_, _, _, by first | rfl | (simp [errW_none, errW_some] <;> rfl) | (simp [*, errW_none, errW_some] <;> rfl), by (with_reducible repeat (first | apply Kd.R_alloc | apply Kd.R_drewN | apply Kd.R_drew)); exact Kd.R_mono (zT8 HO_1976003 BK1962 (.int .i64 t1963) (.int .i64 t1964) (.int .i64 t1965) (.slice Ao14 t1966.length co14) (.int .i64 t1969) (.int .i64 t1970) (.slice Ao15 t1971.length co15) (.int .i64 t1974)) (fun _ hk => ⟨hk.1, (by simp [Value.ownBlock])⟩), by (with_reducible repeat (first | apply Kd.R_alloc | apply Kd.R_drewN | apply Kd.R_drew)); exact Kd.R_mono (zT8 HO_1976006 BK1962 (.int .i64 t1963) (.int .i64 t1964) (.int .i64 t1965) (.slice Ao14 t1966.length co14) (.int .i64 t1969) (.int .i64 t1970) (.slice Ao15 t1971.length co15) (.int .i64 t1974)) (fun _ hk => ⟨hk.1, (by simp [Value.ownBlock])⟩), by first | exact Kd.R_nil _ _ _ _ _ | exact Kd.N_nil _ _ _ _ _ | exact Kd.V_nil _ _ _ _ _ | exact Kd.Q_nil _ _ _ _ _ | exact Kd.S_nil _ _ _ _ _, by repeat (first | (with_reducible first | exact HB.out | apply bAl | apply bDN | apply bD1 | refine bSt ?_ GE1961.out | refine bSt ?_ GE1962.out | refine bSt ?_ GE1975.out) | exact HB.out)⟩
   ·replace c26 := Bool.eq_false_iff.mpr c26
    subst c26
    have H1 : (impl_RunActs.l0 kj3 ([] : List Int) l1 (l1.length : Int) 0 t1963 t1964 t1965 t1966 t1969 t1970 t1971 t1974) = some (r1, r2, r3, r4, r5, r6, r7, r8, r9) := by rw [if_neg (show ¬ (false = true) by decide)] at H; exact H
    clear H
    have H := H1
    clear H1
    have H' := aK H
    clear H
    go_wp2
    go_loopg [7, 25] kj3 (fun kq v7 v25 w' => ∃ (x7_2 : List Int) (x25_2 : Int) (x1976000_2 : Int) (x1976001_2 : Int) (x1976002_2 : Int) (x1976003_2 : List Int) (x1976004_2 : Int) (x1976005_2 : Int) (x1976006_2 : List Int) (x1976007_2 : Int) (u1976003 : Value) (u1976006 : Value), v25 = .int .i64 x25_2 ∧ Aside0 (impl_RunActs.l0 kq x7_2 l1 (l1.length : Int) x25_2 x1976000_2 x1976001_2 x1976002_2 x1976003_2 x1976004_2 x1976005_2 x1976006_2 x1976007_2 = some (r1, r2, r3, r4, r5, r6, r7, r8, r9)) ∧ Aside0 (kq ≤ kj3) ∧ Aside0 (Kd.R (Kd.int .i64) 3 w' w.heap.size (fun k_ => some k_ ≠ (u1976003 : Value).ownBlock ∧ some k_ ≠ (u1976006 : Value).ownBlock) v7 x7_2) ∧ Aside0 (Kd.R (Kd.int .i64) 3 w' w.heap.size (fun k_ => some k_ ≠ (v7 : Value).ownBlock ∧ some k_ ≠ (u1976006 : Value).ownBlock) u1976003 x1976003_2) ∧ Aside0 (Kd.R (Kd.int .i64) 3 w' w.heap.size (fun k_ => some k_ ≠ (v7 : Value).ownBlock ∧ some k_ ≠ (u1976003 : Value).ownBlock) u1976006 x1976006_2) ∧ Aside0 (w'.heap[gb1961]? = some (.cells #[.int .i64 a0_0, .int .i64 a0_1, .int .i64 a0_2, (.slice A0_3 l0_3.length c0_3), .int .i64 a0_4, .int .i64 a0_5, (.slice A0_6 l0_6.length c0_6), .int .i64 a0_7] 38 (0, 0))) ∧ Aside0 (w'.heap[gb1962]? = some (.cells #[.int .i64 0, .int .i64 0, .int .i64 0, (.slice none 0 0), .int .i64 0, .int .i64 0, (.slice none 0 0), .int .i64 0] 38 (0, 0))) ∧ Aside0 (w'.heap[gb1975]? = some (.cells #[.int .i64 x1976000_2, .int .i64 x1976001_2, .int .i64 x1976002_2, u1976003, .int .i64 x1976004_2, .int .i64 x1976005_2, u1976006, .int .i64 x1976007_2] 38 (0, 0))) ∧ Aside0 (Below w.heap.size w w'))
    case atStart => exact ⟨(([] : List Int)), (0), (t1963), (t1964), (t1965), (t1966), (t1969), (t1970), (t1971), (t1974), (.slice Ao14 t1966.length co14), (.slice Ao15 t1971.length co15), (by first | rfl | (simp; done) | (simp [*]; done)), H', ⟨Nat.le_refl _⟩, ⟨by first | exact Kd.R_nil _ _ _ _ _ | exact Kd.N_nil _ _ _ _ _ | exact Kd.V_nil _ _ _ _ _ | exact Kd.Q_nil _ _ _ _ _ | exact Kd.S_nil _ _ _ _ _⟩, ⟨by (with_reducible repeat (first | apply Kd.R_alloc | apply Kd.R_drewN | apply Kd.R_drew)); exact Kd.R_mono HO_1976003.out (fun _ hk => ⟨(by simp [Value.ownBlock]), hk⟩)⟩, ⟨by (with_reducible repeat (first | apply Kd.R_alloc | apply Kd.R_drewN | apply Kd.R_drew)); exact Kd.R_mono HO_1976006.out (fun _ hk => ⟨(by simp [Value.ownBlock]), hk⟩)⟩, ⟨zK BK1961⟩, ⟨zK BK1962⟩, ⟨zK BK1975⟩, ⟨zH3 HB GE1961 GE1962 GE1975⟩⟩
    case round =>
     clear H'
     try clear c1
     try clear c2
     try clear p2
     try clear c3
     try clear c4
     try clear c6
     try clear c7
     try clear c11
     try clear c12
     try clear c17
     try clear c18
     try clear c19
     try clear c22
     try clear c23
     try clear c26
     try clear c27
     try clear c28
     try clear c30
     try clear hcz13_0
     try clear hcz13_1
     try clear hcz13_2
     try clear hcz13_3
     try clear hcz13_4
     try clear hcz13_5
     try clear hcz13_6
     try clear hcz13_7
     try clear hcz20_0
     try clear hcz20_1
     try clear hcz20_2
     try clear hcz20_3
     try clear hcz20_4
     try clear hcz20_5
     try clear hcz20_6
     try clear hcz20_7
     try clear hcz24_0
     try clear hcz24_1
     try clear hcz24_2
     try clear hcz24_3
     try clear hcz24_4
     try clear hcz24_5
     try clear hcz24_6
     try clear hcz24_7
     try clear hcz29_0
     try clear hcz29_1
     try clear hcz29_2
     try clear hcz29_3
     try clear hcz29_4
     try clear hcz29_5
     try clear hcz29_6
     try clear hcz29_7
     try clear hcz31_0
     try clear hcz31_1
     try clear hcz31_2
     try clear hcz31_3
     try clear hcz31_4
     try clear hcz31_5
     try clear hcz31_6
     try clear hcz31_7
     try clear hcz8_0
     try clear hcz8_1
     try clear hcz8_2
     try clear hcz8_3
     try clear hcz8_4
     try clear hcz8_5
     try clear hcz8_6
     try clear hcz8_7
     try clear hfz13_0
     try clear hfz13_1
     try clear hfz13_2
     try clear hfz13_3
     try clear hfz13_4
     try clear hfz13_5
     try clear hfz13_6
     try clear hfz13_7
     try clear hfz20_0
     try clear hfz20_1
     try clear hfz20_2
     try clear hfz20_3
     try clear hfz20_4
     try clear hfz20_5
     try clear hfz20_6
     try clear hfz20_7
     try clear hfz24_0
     try clear hfz24_1
     try clear hfz24_2
     try clear hfz24_3
     try clear hfz24_4
     try clear hfz24_5
     try clear hfz24_6
     try clear hfz24_7
     try clear hfz29_0
     try clear hfz29_1
     try clear hfz29_2
     try clear hfz29_3
     try clear hfz29_4
     try clear hfz29_5
     try clear hfz29_6
     try clear hfz29_7
     try clear hfz31_0
     try clear hfz31_1
     try clear hfz31_2
     try clear hfz31_3
     try clear hfz31_4
     try clear hfz31_5
     try clear hfz31_6
     try clear hfz31_7
     try clear hfz8_0
     try clear hfz8_1
     try clear hfz8_2
     try clear hfz8_3
     try clear hfz8_4
     try clear hfz8_5
     try clear hfz8_6
     try clear hfz8_7
     try clear p2
     obtain ⟨x7_2, x25_2, x1976000_2, x1976001_2, x1976002_2, x1976003_2, x1976004_2, x1976005_2, x1976006_2, x1976007_2, u1976003, u1976006, rfl, HA, HK2, HO_7, HO_1976003, HO_1976006, BK1961, BK1962, BK1975, HB⟩ := hrel
     cases gk with
     | zero => exact absurd HA.out (by simp [impl_RunActs.l0])
     | succ k2 =>
      have H := HA.out
      clear HA
      simp only [impl_RunActs.l0] at H
      by_cases c32 : x25_2 < (l1.length : Int)
      ·rw [if_pos c32] at H
       have c32b0 : decide (x25_2 < (l1.length : Int)) = true := decide_eq_true c32
       clear c32
       by_cases c33 : 0 ≤ x25_2
       ·rw [if_pos c33] at H
        have c33b0 : decide (0 ≤ x25_2) = true := decide_eq_true c33
        clear c33
        by_cases c34 : x25_2 < (l1.length : Int)
        ·rw [if_pos c34] at H
         have c34b0 : decide (x25_2 < (l1.length : Int)) = true := decide_eq_true c34
         clear c34
         replace H := Option.bind_eq_some_iff.mp H
         obtain ⟨⟨t1979, t1980, t1981, t1982, t1985, t1986, t1987, t1990, t1991⟩, A350, H⟩ := H
         replace H : (if x7_2.length < 17592186044416 then (impl_RunActs.l0 k2 (x7_2 ++ [t1991]) l1 (l1.length : Int) (wrap64 (x25_2 + 1)) t1979 t1980 t1981 t1982 t1985 t1986 t1987 t1990) else (none)) = some (r1, r2, r3, r4, r5, r6, r7, r8, r9) := H
         have A35 := aK A350
         clear A350
         by_cases c36 : x7_2.length < 17592186044416
         ·rw [if_pos c36] at H
          have LMc36 := aK c36
          clear c36
          obtain ⟨y1993, hy1993⟩ : ∃ y_ : List Int, y_ = (x7_2 ++ [t1991]) := ⟨_, rfl⟩
          replace H : (impl_RunActs.l0 k2 y1993 l1 (l1.length : Int) (wrap64 (x25_2 + 1)) t1979 t1980 t1981 t1982 t1985 t1986 t1987 t1990) = some (r1, r2, r3, r4, r5, r6, r7, r8, r9) := by first | (rw [hy1993]; with_reducible exact H) | (have H2_ := (Option.bind_some _ _).symm.trans H; rw [hy1993]; with_reducible exact H2_) | (have H2_ := (Option.bind_some _ _).symm.trans H; with_reducible exact H2_) | with_reducible exact H | (rw [hy1993]; exact H) | exact H
          have Ny1993 := aK hy1993
          clear hy1993
          have H' := aK H
          clear H
          have p1977 : 0 ≤ (x25_2 : Int) := of_decide_eq_true (by first | (with_reducible assumption) | assumption)
          have q1977 : x25_2 < (l1.length : Int) := of_decide_eq_true (by first | (with_reducible assumption) | assumption)
          obtain ⟨ad1977, e1977, hx1977_0, hx1977_1, hx1977_2⟩ := at_T53 HR1.out x25_2 p1977 q1977
          cases e1977
          replace hx1977_0 := (HB.out.cell (World.block_lt_of_cell? w _ hx1977_0)).trans hx1977_0
          replace hx1977_1 := (HB.out.cell (World.block_lt_of_cell? w _ hx1977_1)).trans hx1977_1
          replace hx1977_2 := (HB.out.cell (World.block_lt_of_cell? w _ hx1977_2)).trans hx1977_2
          replace p1977 := eq_true p1977
          replace q1977 := eq_true q1977
          try go_wp2_with (first | ((with_reducible refine gate_dst (N := 9) rfl ?_); (try (refine gate_guard (by rfl) ?_; dsimp only)); refine box_event ?hg (N := 9) ?hd (cs := #[.int .i64 0, .int .i64 0, .int .i64 0]) (t := 53) ?hr ?_; (case hd => rfl); (case hg => rfl); (case hr => first | (go_simp; done) | (go_simp; rfl)); intro gb1978 hg w37 hbox hb; replace HO_7 := aK (Kd.R_below (zA HO_7) hb); replace HO_1976003 := aK (Kd.R_below (zA HO_1976003) hb); replace HO_1976006 := aK (Kd.R_below (zA HO_1976006) hb); have BK1978 := aK (hbox); have GW1978 := aK ((by rw [hg]; exact (bSz (zH3 HB GE1961 GE1962 GE1975)) : w.heap.size ≤ gb1978)); replace HB := aK (bSp (zH3 HB GE1961 GE1962 GE1975) hb); have GE1978 := GW1978; have NB1961_1978 := nbl BK1961 hg (by intro z_; (with_reducible repeat (first | refine blk_drewN ?_ _ | refine kD ?_ | refine kA ?_ _)); exact z_); replace BK1961 := zB BK1961 hb; have NB1978_1961 := nbs NB1961_1978; have NB1962_1978 := nbl BK1962 hg (by intro z_; (with_reducible repeat (first | refine blk_drewN ?_ _ | refine kD ?_ | refine kA ?_ _)); exact z_); replace BK1962 := zB BK1962 hb; have NB1978_1962 := nbs NB1962_1978; have NB1975_1978 := nbl BK1975 hg (by intro z_; (with_reducible repeat (first | refine blk_drewN ?_ _ | refine kD ?_ | refine kA ?_ _)); exact z_); replace BK1975 := zB BK1975 hb; have NB1978_1975 := nbs NB1975_1978; clear hb hbox hg; have hnb38 := NB1978_1961.out; have hnc38 := NB1961_1978.out; have hnb39 := NB1978_1962.out; have hnc39 := NB1962_1978.out; have hnb40 := NB1978_1975.out; have hnc40 := NB1975_1978.out; obtain ⟨hcz41_0, hcz41_1, hcz41_2, hfz41_0, hfz41_1, hfz41_2⟩ := cl3 BK1978.out; have hnb42 := NB1975_1961.out; have hnc42 := NB1961_1975.out; have hnb43 := NB1975_1962.out; have hnc43 := NB1962_1975.out; obtain ⟨hcz44_0, hcz44_1, hcz44_2, hcz44_3, hcz44_4, hcz44_5, hcz44_6, hcz44_7, hfz44_0, hfz44_1, hfz44_2, hfz44_3, hfz44_4, hfz44_5, hfz44_6, hfz44_7⟩ := cl8 BK1975.out; obtain ⟨Ao45, co45, eo45⟩ := Kd.R_slice HO_1976003.out; subst eo45; obtain ⟨Ao46, co46, eo46⟩ := Kd.R_slice HO_1976006.out; subst eo46) | ((with_reducible refine gate_callee (f := 32) rfl ?_); refine goesL_ (some 32) rfl rfl Tryz.func32 (by kernel_rfl) rfl #[.agg #[.int .i64 x1976000_2, .int .i64 x1976001_2, .int .i64 x1976002_2, .slice Ao45 x1976003_2.length co45, .int .i64 x1976004_2, .int .i64 x1976005_2, .slice Ao46 x1976006_2.length co46, .int .i64 x1976007_2], .agg #[.int .i64 ((rd_Act l1 x25_2).f0), .int .i64 ((rd_Act l1 x25_2).f1), .int .i64 ((rd_Act l1 x25_2).f2)]] rfl zD ?_; (with_reducible refine (impl_DoAct.calls k2 x1976000_2 x1976001_2 x1976002_2 _ _ x1976003_2 x1976004_2 x1976005_2 _ _ x1976006_2 x1976007_2 ((rd_Act l1 x25_2).f0) ((rd_Act l1 x25_2).f1) ((rd_Act l1 x25_2).f2) t1979 t1980 t1981 t1982 t1985 t1986 t1987 t1990 t1991 _ ?side1 ?side2 ?side3 ?side4 A35.out).mono ?_); (case side1 => refine (Kd.R_reads' (e := 3) (base := w.heap.size) (ok := fun k_ => (some k_ ≠ (u7 : Value).ownBlock ∧ some k_ ≠ (.slice Ao46 x1976006_2.length co46 : Value).ownBlock)) (n := x1976003_2.length) (c := co45) ?_).2.2; exact (zF3 HO_1976003 BK1978)); (case side2 => exact (Kd.R_reads' HO_1976003.out).2.1); (case side3 => refine (Kd.R_reads' (e := 3) (base := w.heap.size) (ok := fun k_ => (some k_ ≠ (u7 : Value).ownBlock ∧ some k_ ≠ (.slice Ao45 x1976003_2.length co45 : Value).ownBlock)) (n := x1976006_2.length) (c := co46) ?_).2.2; exact (zF3 HO_1976006 BK1978)); (case side4 => exact (Kd.R_reads' HO_1976006.out).2.1); rintro e w47 ⟨v1983, v1988, rfl, ho0, ho1, hb⟩; refine ⟨_, rfl, ?_⟩; have HO1984 := aK (Kd.R_lower (Kd.R_new' (Kd.R_new' (Kd.R_new' ho0 (Kd.R_lt (zF3 HO_7 BK1978))) (Kd.R_lt (zF3 HO_1976003 BK1978))) (Kd.R_lt (zF3 HO_1976006 BK1978))) (bSz (zH4 HB GE1961 GE1962 GE1975 GE1978))); have HO1989 := aK (Kd.R_lower (Kd.R_new' (Kd.R_new' (Kd.R_new' ho1 (Kd.R_lt (zF3 HO_7 BK1978))) (Kd.R_lt (zF3 HO_1976003 BK1978))) (Kd.R_lt (zF3 HO_1976006 BK1978))) (bSz (zH4 HB GE1961 GE1962 GE1975 GE1978))); replace HO_7 := aK (Kd.R_mono (Kd.R_told (Kd.R_told (Kd.R_old (zF3 HO_7 BK1978) hb) (Kd.R_base ho0)) (Kd.R_base ho1)) (fun _ h_ => h_.1)); replace HO_1976003 := aK (Kd.R_mono (Kd.R_told (Kd.R_told (Kd.R_old (zF3 HO_1976003 BK1978) hb) (Kd.R_base ho0)) (Kd.R_base ho1)) (fun _ h_ => h_.1)); replace HO_1976006 := aK (Kd.R_mono (Kd.R_told (Kd.R_told (Kd.R_old (zF3 HO_1976006 BK1978) hb) (Kd.R_base ho0)) (Kd.R_base ho1)) (fun _ h_ => h_.1)); replace BK1961 := zG3 BK1961 NB1961_1978 hb; replace BK1962 := zG3 BK1962 NB1962_1978 hb; replace BK1975 := zG3 BK1975 NB1975_1978 hb; replace BK1978 := aK (blk_below (g := gb1978) (o := .cells #[.int .i64 ((rd_Act l1 x25_2).f0), .int .i64 ((rd_Act l1 x25_2).f1), .int .i64 ((rd_Act l1 x25_2).f2)] 53 (0, 0)) (by (with_reducible repeat (first | refine blk_drewN ?_ _ | refine kD ?_ | refine kA ?_ _)); refine blk_put (cs := #[.int .i64 ((rd_Act l1 x25_2).f0), .int .i64 ((rd_Act l1 x25_2).f1), .int .i64 0]) ?_ 2 _ rfl; (with_reducible repeat (first | refine blk_drewN ?_ _ | refine kD ?_ | refine kA ?_ _)); refine blk_put (cs := #[.int .i64 ((rd_Act l1 x25_2).f0), .int .i64 0, .int .i64 0]) ?_ 1 _ rfl; (with_reducible repeat (first | refine blk_drewN ?_ _ | refine kD ?_ | refine kA ?_ _)); refine blk_put (cs := #[.int .i64 0, .int .i64 0, .int .i64 0]) ?_ 0 _ rfl; (with_reducible repeat (first | refine blk_drewN ?_ _ | refine kD ?_ | refine kA ?_ _)); exact BK1978.out) hb); replace HB := aK (bSp (zH4 HB GE1961 GE1962 GE1975 GE1978) hb); (try clear hb); (try clear hb2); (try clear hk); (try clear hi); (try clear ho0); (try clear ho1)) | ((with_reducible refine gate_dst (N := 10) rfl ?_); (try (refine gate_guard (by rfl) ?_; dsimp only)); refine box_event ?hg (N := 10) ?hd (cs := #[.int .i64 0, .int .i64 0, .int .i64 0, .slice none 0 0, .int .i64 0, .int .i64 0, .slice none 0 0, .int .i64 0]) (t := 38) ?hr ?_; (case hd => rfl); (case hg => rfl); (case hr => first | (go_simp; done) | (go_simp; rfl)); intro gb1992 hg w48 hbox hb; replace HO_7 := aK (Kd.R_below (zA HO_7) hb); replace HO_1976003 := aK (Kd.R_below (zA HO_1976003) hb); replace HO_1976006 := aK (Kd.R_below (zA HO_1976006) hb); replace HO1984 := aK (Kd.R_below (zA HO1984) hb); replace HO1989 := aK (Kd.R_below (zA HO1989) hb); have BK1992 := aK (hbox); have GW1992 := aK ((by rw [hg]; exact (bSz (zH4 HB GE1961 GE1962 GE1975 GE1978)) : w.heap.size ≤ gb1992)); replace HB := aK (bSp (zH4 HB GE1961 GE1962 GE1975 GE1978) hb); have GE1992 := GW1992; have NB1961_1992 := nbl BK1961 hg (by intro z_; (with_reducible repeat (first | refine blk_drewN ?_ _ | refine kD ?_ | refine kA ?_ _)); exact z_); replace BK1961 := zB BK1961 hb; have NB1992_1961 := nbs NB1961_1992; have NB1962_1992 := nbl BK1962 hg (by intro z_; (with_reducible repeat (first | refine blk_drewN ?_ _ | refine kD ?_ | refine kA ?_ _)); exact z_); replace BK1962 := zB BK1962 hb; have NB1992_1962 := nbs NB1962_1992; have NB1975_1992 := nbl BK1975 hg (by intro z_; (with_reducible repeat (first | refine blk_drewN ?_ _ | refine kD ?_ | refine kA ?_ _)); exact z_); replace BK1975 := zB BK1975 hb; have NB1992_1975 := nbs NB1975_1992; have NB1978_1992 := nbl BK1978 hg (by intro z_; (with_reducible repeat (first | refine blk_drewN ?_ _ | refine kD ?_ | refine kA ?_ _)); exact z_); replace BK1978 := zB BK1978 hb; have NB1992_1978 := nbs NB1978_1992; clear hb hbox hg; have hnb49 := NB1992_1961.out; have hnc49 := NB1961_1992.out; have hnb50 := NB1992_1962.out; have hnc50 := NB1962_1992.out; have hnb51 := NB1992_1975.out; have hnc51 := NB1975_1992.out; have hnb52 := NB1992_1978.out; have hnc52 := NB1978_1992.out; obtain ⟨hcz53_0, hcz53_1, hcz53_2, hcz53_3, hcz53_4, hcz53_5, hcz53_6, hcz53_7, hfz53_0, hfz53_1, hfz53_2, hfz53_3, hfz53_4, hfz53_5, hfz53_6, hfz53_7⟩ := cl8 BK1992.out; obtain ⟨Ao54, co54, eo54⟩ := Kd.R_slice HO1984.out; subst eo54; obtain ⟨Ao55, co55, eo55⟩ := Kd.R_slice HO1989.out; subst eo55))
          have n0_ : Aside0 (Kd.R (Kd.int .i64) 3 ((((((((w48.setCell ⟨gb1992, 0, none⟩ (.int .i64 t1979)).setCell ⟨gb1992, 1, none⟩ (.int .i64 t1980)).setCell ⟨gb1992, 2, none⟩ (.int .i64 t1981)).setCell ⟨gb1992, 3, none⟩ (.slice Ao54 t1982.length co54)).setCell ⟨gb1992, 4, none⟩ (.int .i64 t1985)).setCell ⟨gb1992, 5, none⟩ (.int .i64 t1986)).setCell ⟨gb1992, 6, none⟩ (.slice Ao55 t1987.length co55)).setCell ⟨gb1992, 7, none⟩ (.int .i64 t1990)) w.heap.size (fun k_ => some k_ ≠ (.slice Ao45 x1976003_2.length co45 : Value).ownBlock ∧ some k_ ≠ (.slice Ao46 x1976006_2.length co46 : Value).ownBlock ∧ some k_ ≠ (.slice Ao54 t1982.length co54 : Value).ownBlock ∧ some k_ ≠ (.slice Ao55 t1987.length co55 : Value).ownBlock) u7 x7_2) := ⟨by (with_reducible repeat (first | apply Kd.R_alloc | apply Kd.R_drewN | apply Kd.R_drew)); exact Kd.R_mono (zT8 HO_7 BK1992 (.int .i64 t1979) (.int .i64 t1980) (.int .i64 t1981) (.slice Ao54 t1982.length co54) (.int .i64 t1985) (.int .i64 t1986) (.slice Ao55 t1987.length co55) (.int .i64 t1990)) (fun _ hk => ⟨hk.1.1.1.1, ⟨hk.1.1.1.2, ⟨hk.1.1.2, hk.1.2⟩⟩⟩)⟩
          have n1_ : Aside0 (Kd.R (Kd.int .i64) 3 ((((((((w48.setCell ⟨gb1992, 0, none⟩ (.int .i64 t1979)).setCell ⟨gb1992, 1, none⟩ (.int .i64 t1980)).setCell ⟨gb1992, 2, none⟩ (.int .i64 t1981)).setCell ⟨gb1992, 3, none⟩ (.slice Ao54 t1982.length co54)).setCell ⟨gb1992, 4, none⟩ (.int .i64 t1985)).setCell ⟨gb1992, 5, none⟩ (.int .i64 t1986)).setCell ⟨gb1992, 6, none⟩ (.slice Ao55 t1987.length co55)).setCell ⟨gb1992, 7, none⟩ (.int .i64 t1990)) w.heap.size (fun k_ => some k_ ≠ (u7 : Value).ownBlock ∧ some k_ ≠ (.slice Ao46 x1976006_2.length co46 : Value).ownBlock ∧ some k_ ≠ (.slice Ao54 t1982.length co54 : Value).ownBlock ∧ some k_ ≠ (.slice Ao55 t1987.length co55 : Value).ownBlock) (.slice Ao45 x1976003_2.length co45) x1976003_2) := ⟨by (with_reducible repeat (first | apply Kd.R_alloc | apply Kd.R_drewN | apply Kd.R_drew)); exact Kd.R_mono (zT8 HO_1976003 BK1992 (.int .i64 t1979) (.int .i64 t1980) (.int .i64 t1981) (.slice Ao54 t1982.length co54) (.int .i64 t1985) (.int .i64 t1986) (.slice Ao55 t1987.length co55) (.int .i64 t1990)) (fun _ hk => ⟨hk.1.1.1.1, ⟨hk.1.1.1.2, ⟨hk.1.1.2, hk.1.2⟩⟩⟩)⟩
          have n2_ : Aside0 (Kd.R (Kd.int .i64) 3 ((((((((w48.setCell ⟨gb1992, 0, none⟩ (.int .i64 t1979)).setCell ⟨gb1992, 1, none⟩ (.int .i64 t1980)).setCell ⟨gb1992, 2, none⟩ (.int .i64 t1981)).setCell ⟨gb1992, 3, none⟩ (.slice Ao54 t1982.length co54)).setCell ⟨gb1992, 4, none⟩ (.int .i64 t1985)).setCell ⟨gb1992, 5, none⟩ (.int .i64 t1986)).setCell ⟨gb1992, 6, none⟩ (.slice Ao55 t1987.length co55)).setCell ⟨gb1992, 7, none⟩ (.int .i64 t1990)) w.heap.size (fun k_ => some k_ ≠ (u7 : Value).ownBlock ∧ some k_ ≠ (.slice Ao45 x1976003_2.length co45 : Value).ownBlock ∧ some k_ ≠ (.slice Ao54 t1982.length co54 : Value).ownBlock ∧ some k_ ≠ (.slice Ao55 t1987.length co55 : Value).ownBlock) (.slice Ao46 x1976006_2.length co46) x1976006_2) := ⟨by (with_reducible repeat (first | apply Kd.R_alloc | apply Kd.R_drewN | apply Kd.R_drew)); exact Kd.R_mono (zT8 HO_1976006 BK1992 (.int .i64 t1979) (.int .i64 t1980) (.int .i64 t1981) (.slice Ao54 t1982.length co54) (.int .i64 t1985) (.int .i64 t1986) (.slice Ao55 t1987.length co55) (.int .i64 t1990)) (fun _ hk => ⟨hk.1.1.1.1, ⟨hk.1.1.1.2, ⟨hk.1.1.2, hk.1.2⟩⟩⟩)⟩
          have n3_ : Aside0 (Kd.R (Kd.int .i64) 3 ((((((((w48.setCell ⟨gb1992, 0, none⟩ (.int .i64 t1979)).setCell ⟨gb1992, 1, none⟩ (.int .i64 t1980)).setCell ⟨gb1992, 2, none⟩ (.int .i64 t1981)).setCell ⟨gb1992, 3, none⟩ (.slice Ao54 t1982.length co54)).setCell ⟨gb1992, 4, none⟩ (.int .i64 t1985)).setCell ⟨gb1992, 5, none⟩ (.int .i64 t1986)).setCell ⟨gb1992, 6, none⟩ (.slice Ao55 t1987.length co55)).setCell ⟨gb1992, 7, none⟩ (.int .i64 t1990)) w.heap.size (fun k_ => some k_ ≠ (u7 : Value).ownBlock ∧ some k_ ≠ (.slice Ao45 x1976003_2.length co45 : Value).ownBlock ∧ some k_ ≠ (.slice Ao46 x1976006_2.length co46 : Value).ownBlock ∧ some k_ ≠ (.slice Ao55 t1987.length co55 : Value).ownBlock) (.slice Ao54 t1982.length co54) t1982) := ⟨by (with_reducible repeat (first | apply Kd.R_alloc | apply Kd.R_drewN | apply Kd.R_drew)); exact Kd.R_mono (zT8 HO1984 BK1992 (.int .i64 t1979) (.int .i64 t1980) (.int .i64 t1981) (.slice Ao54 t1982.length co54) (.int .i64 t1985) (.int .i64 t1986) (.slice Ao55 t1987.length co55) (.int .i64 t1990)) (fun _ hk => ⟨hk.1.1.1.2, ⟨hk.1.1.2, ⟨hk.1.2, hk.1.1.1.1⟩⟩⟩)⟩
          have n4_ : Aside0 (Kd.R (Kd.int .i64) 3 ((((((((w48.setCell ⟨gb1992, 0, none⟩ (.int .i64 t1979)).setCell ⟨gb1992, 1, none⟩ (.int .i64 t1980)).setCell ⟨gb1992, 2, none⟩ (.int .i64 t1981)).setCell ⟨gb1992, 3, none⟩ (.slice Ao54 t1982.length co54)).setCell ⟨gb1992, 4, none⟩ (.int .i64 t1985)).setCell ⟨gb1992, 5, none⟩ (.int .i64 t1986)).setCell ⟨gb1992, 6, none⟩ (.slice Ao55 t1987.length co55)).setCell ⟨gb1992, 7, none⟩ (.int .i64 t1990)) w.heap.size (fun k_ => some k_ ≠ (u7 : Value).ownBlock ∧ some k_ ≠ (.slice Ao45 x1976003_2.length co45 : Value).ownBlock ∧ some k_ ≠ (.slice Ao46 x1976006_2.length co46 : Value).ownBlock ∧ some k_ ≠ (.slice Ao54 t1982.length co54 : Value).ownBlock) (.slice Ao55 t1987.length co55) t1987) := ⟨by (with_reducible repeat (first | apply Kd.R_alloc | apply Kd.R_drewN | apply Kd.R_drew)); exact Kd.R_mono (zT8 HO1989 BK1992 (.int .i64 t1979) (.int .i64 t1980) (.int .i64 t1981) (.slice Ao54 t1982.length co54) (.int .i64 t1985) (.int .i64 t1986) (.slice Ao55 t1987.length co55) (.int .i64 t1990)) (fun _ hk => ⟨hk.1.1.1.2, ⟨hk.1.1.2, ⟨hk.1.2, hk.1.1.1.1⟩⟩⟩)⟩
          have n5_ : Aside0 (((((((((w48.setCell ⟨gb1992, 0, none⟩ (.int .i64 t1979)).setCell ⟨gb1992, 1, none⟩ (.int .i64 t1980)).setCell ⟨gb1992, 2, none⟩ (.int .i64 t1981)).setCell ⟨gb1992, 3, none⟩ (.slice Ao54 t1982.length co54)).setCell ⟨gb1992, 4, none⟩ (.int .i64 t1985)).setCell ⟨gb1992, 5, none⟩ (.int .i64 t1986)).setCell ⟨gb1992, 6, none⟩ (.slice Ao55 t1987.length co55)).setCell ⟨gb1992, 7, none⟩ (.int .i64 t1990)).heap[gb1961]? = some (.cells #[.int .i64 a0_0, .int .i64 a0_1, .int .i64 a0_2, .slice A0_3 l0_3.length c0_3, .int .i64 a0_4, .int .i64 a0_5, .slice A0_6 l0_6.length c0_6, .int .i64 a0_7] 38 (0, 0))) := ⟨by (with_reducible repeat (first | refine blk_drewN ?_ _ | refine kD ?_ | refine kA ?_ _)); refine blk_far ?_ NB1961_1992.out _; (with_reducible repeat (first | refine blk_drewN ?_ _ | refine kD ?_ | refine kA ?_ _)); refine blk_far ?_ NB1961_1992.out _; (with_reducible repeat (first | refine blk_drewN ?_ _ | refine kD ?_ | refine kA ?_ _)); refine blk_far ?_ NB1961_1992.out _; (with_reducible repeat (first | refine blk_drewN ?_ _ | refine kD ?_ | refine kA ?_ _)); refine blk_far ?_ NB1961_1992.out _; (with_reducible repeat (first | refine blk_drewN ?_ _ | refine kD ?_ | refine kA ?_ _)); refine blk_far ?_ NB1961_1992.out _; (with_reducible repeat (first | refine blk_drewN ?_ _ | refine kD ?_ | refine kA ?_ _)); refine blk_far ?_ NB1961_1992.out _; (with_reducible repeat (first | refine blk_drewN ?_ _ | refine kD ?_ | refine kA ?_ _)); refine blk_far ?_ NB1961_1992.out _; (with_reducible repeat (first | refine blk_drewN ?_ _ | refine kD ?_ | refine kA ?_ _)); refine blk_far ?_ NB1961_1992.out _; (with_reducible repeat (first | refine blk_drewN ?_ _ | refine kD ?_ | refine kA ?_ _)); exact BK1961.out⟩
          have n6_ : Aside0 (((((((((w48.setCell ⟨gb1992, 0, none⟩ (.int .i64 t1979)).setCell ⟨gb1992, 1, none⟩ (.int .i64 t1980)).setCell ⟨gb1992, 2, none⟩ (.int .i64 t1981)).setCell ⟨gb1992, 3, none⟩ (.slice Ao54 t1982.length co54)).setCell ⟨gb1992, 4, none⟩ (.int .i64 t1985)).setCell ⟨gb1992, 5, none⟩ (.int .i64 t1986)).setCell ⟨gb1992, 6, none⟩ (.slice Ao55 t1987.length co55)).setCell ⟨gb1992, 7, none⟩ (.int .i64 t1990)).heap[gb1962]? = some (.cells #[.int .i64 0, .int .i64 0, .int .i64 0, .slice none 0 0, .int .i64 0, .int .i64 0, .slice none 0 0, .int .i64 0] 38 (0, 0))) := ⟨by (with_reducible repeat (first | refine blk_drewN ?_ _ | refine kD ?_ | refine kA ?_ _)); refine blk_far ?_ NB1962_1992.out _; (with_reducible repeat (first | refine blk_drewN ?_ _ | refine kD ?_ | refine kA ?_ _)); refine blk_far ?_ NB1962_1992.out _; (with_reducible repeat (first | refine blk_drewN ?_ _ | refine kD ?_ | refine kA ?_ _)); refine blk_far ?_ NB1962_1992.out _; (with_reducible repeat (first | refine blk_drewN ?_ _ | refine kD ?_ | refine kA ?_ _)); refine blk_far ?_ NB1962_1992.out _; (with_reducible repeat (first | refine blk_drewN ?_ _ | refine kD ?_ | refine kA ?_ _)); refine blk_far ?_ NB1962_1992.out _; (with_reducible repeat (first | refine blk_drewN ?_ _ | refine kD ?_ | refine kA ?_ _)); refine blk_far ?_ NB1962_1992.out _; (with_reducible repeat (first | refine blk_drewN ?_ _ | refine kD ?_ | refine kA ?_ _)); refine blk_far ?_ NB1962_1992.out _; (with_reducible repeat (first | refine blk_drewN ?_ _ | refine kD ?_ | refine kA ?_ _)); refine blk_far ?_ NB1962_1992.out _; (with_reducible repeat (first | refine blk_drewN ?_ _ | refine kD ?_ | refine kA ?_ _)); exact BK1962.out⟩
          have n7_ : Aside0 (((((((((w48.setCell ⟨gb1992, 0, none⟩ (.int .i64 t1979)).setCell ⟨gb1992, 1, none⟩ (.int .i64 t1980)).setCell ⟨gb1992, 2, none⟩ (.int .i64 t1981)).setCell ⟨gb1992, 3, none⟩ (.slice Ao54 t1982.length co54)).setCell ⟨gb1992, 4, none⟩ (.int .i64 t1985)).setCell ⟨gb1992, 5, none⟩ (.int .i64 t1986)).setCell ⟨gb1992, 6, none⟩ (.slice Ao55 t1987.length co55)).setCell ⟨gb1992, 7, none⟩ (.int .i64 t1990)).heap[gb1975]? = some (.cells #[.int .i64 x1976000_2, .int .i64 x1976001_2, .int .i64 x1976002_2, .slice Ao45 x1976003_2.length co45, .int .i64 x1976004_2, .int .i64 x1976005_2, .slice Ao46 x1976006_2.length co46, .int .i64 x1976007_2] 38 (0, 0))) := ⟨by (with_reducible repeat (first | refine blk_drewN ?_ _ | refine kD ?_ | refine kA ?_ _)); refine blk_far ?_ NB1975_1992.out _; (with_reducible repeat (first | refine blk_drewN ?_ _ | refine kD ?_ | refine kA ?_ _)); refine blk_far ?_ NB1975_1992.out _; (with_reducible repeat (first | refine blk_drewN ?_ _ | refine kD ?_ | refine kA ?_ _)); refine blk_far ?_ NB1975_1992.out _; (with_reducible repeat (first | refine blk_drewN ?_ _ | refine kD ?_ | refine kA ?_ _)); refine blk_far ?_ NB1975_1992.out _; (with_reducible repeat (first | refine blk_drewN ?_ _ | refine kD ?_ | refine kA ?_ _)); refine blk_far ?_ NB1975_1992.out _; (with_reducible repeat (first | refine blk_drewN ?_ _ | refine kD ?_ | refine kA ?_ _)); refine blk_far ?_ NB1975_1992.out _; (with_reducible repeat (first | refine blk_drewN ?_ _ | refine kD ?_ | refine kA ?_ _)); refine blk_far ?_ NB1975_1992.out _; (with_reducible repeat (first | refine blk_drewN ?_ _ | refine kD ?_ | refine kA ?_ _)); refine blk_far ?_ NB1975_1992.out _; (with_reducible repeat (first | refine blk_drewN ?_ _ | refine kD ?_ | refine kA ?_ _)); exact BK1975.out⟩
          have n8_ : Aside0 (((((((((w48.setCell ⟨gb1992, 0, none⟩ (.int .i64 t1979)).setCell ⟨gb1992, 1, none⟩ (.int .i64 t1980)).setCell ⟨gb1992, 2, none⟩ (.int .i64 t1981)).setCell ⟨gb1992, 3, none⟩ (.slice Ao54 t1982.length co54)).setCell ⟨gb1992, 4, none⟩ (.int .i64 t1985)).setCell ⟨gb1992, 5, none⟩ (.int .i64 t1986)).setCell ⟨gb1992, 6, none⟩ (.slice Ao55 t1987.length co55)).setCell ⟨gb1992, 7, none⟩ (.int .i64 t1990)).heap[gb1978]? = some (.cells #[.int .i64 ((rd_Act l1 x25_2).f0), .int .i64 ((rd_Act l1 x25_2).f1), .int .i64 ((rd_Act l1 x25_2).f2)] 53 (0, 0))) := ⟨by (with_reducible repeat (first | refine blk_drewN ?_ _ | refine kD ?_ | refine kA ?_ _)); refine blk_far ?_ NB1978_1992.out _; (with_reducible repeat (first | refine blk_drewN ?_ _ | refine kD ?_ | refine kA ?_ _)); refine blk_far ?_ NB1978_1992.out _; (with_reducible repeat (first | refine blk_drewN ?_ _ | refine kD ?_ | refine kA ?_ _)); refine blk_far ?_ NB1978_1992.out _; (with_reducible repeat (first | refine blk_drewN ?_ _ | refine kD ?_ | refine kA ?_ _)); refine blk_far ?_ NB1978_1992.out _; (with_reducible repeat (first | refine blk_drewN ?_ _ | refine kD ?_ | refine kA ?_ _)); refine blk_far ?_ NB1978_1992.out _; (with_reducible repeat (first | refine blk_drewN ?_ _ | refine kD ?_ | refine kA ?_ _)); refine blk_far ?_ NB1978_1992.out _; (with_reducible repeat (first | refine blk_drewN ?_ _ | refine kD ?_ | refine kA ?_ _)); refine blk_far ?_ NB1978_1992.out _; (with_reducible repeat (first | refine blk_drewN ?_ _ | refine kD ?_ | refine kA ?_ _)); refine blk_far ?_ NB1978_1992.out _; (with_reducible repeat (first | refine blk_drewN ?_ _ | refine kD ?_ | refine kA ?_ _)); exact BK1978.out⟩
          have n9_ := zP8 BK1992 (.int .i64 t1979) (.int .i64 t1980) (.int .i64 t1981) (.slice Ao54 t1982.length co54) (.int .i64 t1985) (.int .i64 t1986) (.slice Ao55 t1987.length co55) (.int .i64 t1990)
          have n10_ : Aside0 (Below w.heap.size w ((((((((w48.setCell ⟨gb1992, 0, none⟩ (.int .i64 t1979)).setCell ⟨gb1992, 1, none⟩ (.int .i64 t1980)).setCell ⟨gb1992, 2, none⟩ (.int .i64 t1981)).setCell ⟨gb1992, 3, none⟩ (.slice Ao54 t1982.length co54)).setCell ⟨gb1992, 4, none⟩ (.int .i64 t1985)).setCell ⟨gb1992, 5, none⟩ (.int .i64 t1986)).setCell ⟨gb1992, 6, none⟩ (.slice Ao55 t1987.length co55)).setCell ⟨gb1992, 7, none⟩ (.int .i64 t1990))) := ⟨zH5 HB GE1961 GE1962 GE1975 GE1978 GE1992⟩
          (try clear HO_7)
          (try clear HO_1976003)
          (try clear HO_1976006)
          (try clear HO1984)
          (try clear HO1989)
          (try clear BK1961)
          (try clear BK1962)
          (try clear BK1975)
          (try clear BK1978)
          (try clear BK1992)
          (try clear HB)
          generalize ((((((((w48.setCell ⟨gb1992, 0, none⟩ (.int .i64 t1979)).setCell ⟨gb1992, 1, none⟩ (.int .i64 t1980)).setCell ⟨gb1992, 2, none⟩ (.int .i64 t1981)).setCell ⟨gb1992, 3, none⟩ (.slice Ao54 t1982.length co54)).setCell ⟨gb1992, 4, none⟩ (.int .i64 t1985)).setCell ⟨gb1992, 5, none⟩ (.int .i64 t1986)).setCell ⟨gb1992, 6, none⟩ (.slice Ao55 t1987.length co55)).setCell ⟨gb1992, 7, none⟩ (.int .i64 t1990)) = w56 at n0_ n1_ n2_ n3_ n4_ n5_ n6_ n7_ n8_ n9_ n10_ ⊢
          have HO_7 := n0_
          have HO_1976003 := n1_
          have HO_1976006 := n2_
          have HO1984 := n3_
          have HO1989 := n4_
          have BK1961 := n5_
          have BK1962 := n6_
          have BK1975 := n7_
          have BK1978 := n8_
          have BK1992 := n9_
          have HB := n10_
          clear n0_ n1_ n2_ n3_ n4_ n5_ n6_ n7_ n8_ n9_ n10_
          have n0_ := aK (Kd.R_drew HO_7.out)
          have n1_ := aK (Kd.R_drew HO_1976003.out)
          have n2_ := aK (Kd.R_drew HO_1976006.out)
          have n3_ := aK (Kd.R_drew HO1984.out)
          have n4_ := aK (Kd.R_drew HO1989.out)
          have n5_ := aK (kD BK1961.out)
          have n6_ := aK (kD BK1962.out)
          have n7_ := aK (kD BK1975.out)
          have n8_ := aK (kD BK1978.out)
          have n9_ := aK (kD BK1992.out)
          have n10_ := aK (bD1 HB.out)
          clear HO_7
          clear HO_1976003
          clear HO_1976006
          clear HO1984
          clear HO1989
          clear BK1961
          clear BK1962
          clear BK1975
          clear BK1978
          clear BK1992
          clear HB
          have HO_7 := n0_
          have HO_1976003 := n1_
          have HO_1976006 := n2_
          have HO1984 := n3_
          have HO1989 := n4_
          have BK1961 := n5_
          have BK1962 := n6_
          have BK1975 := n7_
          have BK1978 := n8_
          have BK1992 := n9_
          have HB := n10_
          clear n0_ n1_ n2_ n3_ n4_ n5_ n6_ n7_ n8_ n9_ n10_
          refine start_ (n := 7) (S := fun w' => w'.cell? ⟨gb1992, 0, none⟩ = some (.int .i64 t1979) ∧ w'.cell? ⟨gb1992, 1, none⟩ = some (.int .i64 t1980) ∧ w'.cell? ⟨gb1992, 2, none⟩ = some (.int .i64 t1981) ∧ w'.cell? ⟨gb1992, 3, none⟩ = some (.slice Ao54 t1982.length co54) ∧ w'.cell? ⟨gb1992, 4, none⟩ = some (.int .i64 t1985) ∧ w'.cell? ⟨gb1992, 5, none⟩ = some (.int .i64 t1986) ∧ w'.cell? ⟨gb1992, 6, none⟩ = some (.slice Ao55 t1987.length co55) ∧ w'.cell? ⟨gb1992, 7, none⟩ = some (.int .i64 t1990)) (ds := []) #[bN,bN,bN,bN,bN,bN,bN] (by kernel_rfl) rfl rfl ⟨zQ BK1992 0, zQ BK1992 1, zQ BK1992 2, zQ BK1992 3, zQ BK1992 4, zQ BK1992 5, zQ BK1992 6, zQ BK1992 7⟩ (fun hHeld => ?_)
          generalize w56.drew = w57 at HO_7 HO_1976003 HO_1976006 HO1984 HO1989 BK1961 BK1962 BK1975 BK1978 BK1992 HB hHeld ⊢
          refine pure_ (i := 1) (N := some 36) (v := ?_) (a' := ?_) #[bN,bY,bN,bN,bN,bN,bN] rfl rfl (by kernel_rfl) (fun _ _ _ h => h) (Or.inl ⟨by rfl, ?_⟩) ?_ ?_
          rotate_left
          ·intro w'
           go_simp
           with_reducible rfl
          rotate_left
          ·simp only [Act.put, sTA, sZ, sS, i64_w, i32_w]
           rfl
          refine pure_ (i := 2) (N := some 37) (v := ?_) (a' := ?_) #[bN,bY,bY,bN,bN,bN,bN] rfl rfl (by kernel_rfl) (fun _ _ _ h => h) (Or.inl ⟨by rfl, ?_⟩) ?_ ?_
          rotate_left
          ·intro w'
           go_simp
           with_reducible rfl
          rotate_left
          ·simp only [Act.put, sTA, sZ, sS, i64_w, i32_w]
           rfl
          refine take_ (i := 0) (N := some 35) (v := ?_) (a' := ?_) #[bY,bY,bY,bN,bN,bN,bN] rfl rfl (by kernel_rfl) (fun _ _ _ h => h) (Or.inl ⟨by rfl, ?_⟩) hHeld ?_ ?_
          rotate_left
          ·rintro w' ⟨s0, s1, s2, s3, s4, s5, s6, s7⟩
           go_simp
           with_reducible rfl
          rotate_left
          ·simp only [Act.put, sTA, sZ, sS, i64_w, i32_w]
           rfl
          refine one_ (i := 3) (N := some 38) #[bY,bY,bY,bY,bN,bN,bN] rfl rfl (by kernel_rfl) (by decide) (fun K hK => ?_)
          refine value_ (w1 := ?_) (v := ?_) (by rfl) rfl ?_ ?_
          rotate_left 2
          ·go_simp
           constructor
           ·rfl
           ·rfl
          refine hK.out _ _ ⟨(kC (kA BK1992.out _) 0).trans rfl, (kC (kA BK1992.out _) 1).trans rfl, (kC (kA BK1992.out _) 2).trans rfl, (kC (kA BK1992.out _) 3).trans rfl, (kC (kA BK1992.out _) 4).trans rfl, (kC (kA BK1992.out _) 5).trans rfl, (kC (kA BK1992.out _) 6).trans rfl, (kC (kA BK1992.out _) 7).trans rfl⟩ (fun hHeld => ?_)
          clear hK K
          refine norm_ (a' := ?_) ?_ ?_
          rotate_left
          ·show Act.put _ (some 38) _ = _
           simp only [Act.put, sTA, sZ, sS, i64_w, i32_w]
           rfl
          refine one_ (i := 4) (N := some 39) #[bY,bY,bY,bY,bY,bN,bN] rfl rfl (by kernel_rfl) (by decide) (fun K hK => ?_)
          refine Kd.R_append_step (Kd.int .i64) (w0 := w) w.heap.size (by rfl) (.tmp 36) (.tmp 38) 26 3 (.int .i64 0) 8 rfl Tryz.underlying26 info3 rfl (by decide) (by omega) u7 x7_2 t1991 [.int .i64 t1991] (fun k_ => some k_ ≠ (.slice Ao45 x1976003_2.length co45 : Value).ownBlock ∧ some k_ ≠ (.slice Ao46 x1976006_2.length co46 : Value).ownBlock ∧ some k_ ≠ (.slice Ao54 t1982.length co54 : Value).ownBlock ∧ some k_ ≠ (.slice Ao55 t1987.length co55 : Value).ownBlock) (fun _ => False) rfl rfl ?aP (fun _ hk => hk.elim) ?aF ?aO ?aB ?aS ?aL ?_
          (case aP => exact rfl)
          (case aB => exact (zH5 HB GE1961 GE1962 GE1975 GE1978 GE1992))
          (case aF => exact (fun k_ hk => ⟨Kd.fresh' (Kd.R_lt (zA HO_1976003)) k_ hk, Kd.fresh' (Kd.R_lt (zA HO_1976006)) k_ hk, Kd.fresh' (Kd.R_lt (zA HO1984)) k_ hk, Kd.fresh' (Kd.R_lt (zA HO1989)) k_ hk⟩))
          (case aO => exact (zA HO_7))
          (case aS => exact (bSz (zH5 HB GE1961 GE1962 GE1975 GE1978 GE1992)))
          (case aL => have := LMc36.out; omega)
          intro v1994 w58 ho hb hg hat
          rw [← Ny1993.out] at ho
          have n0_ := aK (Kd.R_after (ok := (fun k_ => some k_ ≠ (.slice Ao46 x1976006_2.length co46 : Value).ownBlock ∧ some k_ ≠ (.slice Ao54 t1982.length co54 : Value).ownBlock ∧ some k_ ≠ (.slice Ao55 t1987.length co55 : Value).ownBlock)) (by (with_reducible repeat (first | apply Kd.R_alloc | apply Kd.R_drewN | apply Kd.R_drew)); exact Kd.R_mono HO_1976003.out (fun _ hk => ⟨⟨hk.2.1, ⟨hk.2.2.1, hk.2.2.2⟩⟩, hk.1⟩)) hg hat)
          have n1_ := aK (Kd.R_after (ok := (fun k_ => some k_ ≠ (.slice Ao45 x1976003_2.length co45 : Value).ownBlock ∧ some k_ ≠ (.slice Ao54 t1982.length co54 : Value).ownBlock ∧ some k_ ≠ (.slice Ao55 t1987.length co55 : Value).ownBlock)) (by (with_reducible repeat (first | apply Kd.R_alloc | apply Kd.R_drewN | apply Kd.R_drew)); exact Kd.R_mono HO_1976006.out (fun _ hk => ⟨⟨hk.2.1, ⟨hk.2.2.1, hk.2.2.2⟩⟩, hk.1⟩)) hg hat)
          have n2_ := aK (blk_grown (g := gb1961) (o := .cells #[.int .i64 a0_0, .int .i64 a0_1, .int .i64 a0_2, .slice A0_3 l0_3.length c0_3, .int .i64 a0_4, .int .i64 a0_5, .slice A0_6 l0_6.length c0_6, .int .i64 a0_7] 38 (0, 0)) (zK BK1961) hg (Kd.R_ne HO_7.out BK1961.out (by decide)))
          have n3_ := aK (blk_grown (g := gb1962) (o := .cells #[.int .i64 0, .int .i64 0, .int .i64 0, .slice none 0 0, .int .i64 0, .int .i64 0, .slice none 0 0, .int .i64 0] 38 (0, 0)) (zK BK1962) hg (Kd.R_ne HO_7.out BK1962.out (by decide)))
          have n4_ := aK (blk_grown (g := gb1975) (o := .cells #[.int .i64 x1976000_2, .int .i64 x1976001_2, .int .i64 x1976002_2, .slice Ao45 x1976003_2.length co45, .int .i64 x1976004_2, .int .i64 x1976005_2, .slice Ao46 x1976006_2.length co46, .int .i64 x1976007_2] 38 (0, 0)) (zK BK1975) hg (Kd.R_ne HO_7.out BK1975.out (by decide)))
          have n5_ := aK (blk_grown (g := gb1978) (o := .cells #[.int .i64 ((rd_Act l1 x25_2).f0), .int .i64 ((rd_Act l1 x25_2).f1), .int .i64 ((rd_Act l1 x25_2).f2)] 53 (0, 0)) (zK BK1978) hg (Kd.R_ne HO_7.out BK1978.out (by decide)))
          have n6_ := aK (Kd.R_after (ok := (fun k_ => some k_ ≠ (.slice Ao45 x1976003_2.length co45 : Value).ownBlock ∧ some k_ ≠ (.slice Ao46 x1976006_2.length co46 : Value).ownBlock ∧ some k_ ≠ (.slice Ao55 t1987.length co55 : Value).ownBlock)) (by (with_reducible repeat (first | apply Kd.R_alloc | apply Kd.R_drewN | apply Kd.R_drew)); exact Kd.R_mono HO1984.out (fun _ hk => ⟨⟨hk.2.1, ⟨hk.2.2.1, hk.2.2.2⟩⟩, hk.1⟩)) hg hat)
          have n7_ := aK (Kd.R_after (ok := (fun k_ => some k_ ≠ (.slice Ao45 x1976003_2.length co45 : Value).ownBlock ∧ some k_ ≠ (.slice Ao46 x1976006_2.length co46 : Value).ownBlock ∧ some k_ ≠ (.slice Ao54 t1982.length co54 : Value).ownBlock)) (by (with_reducible repeat (first | apply Kd.R_alloc | apply Kd.R_drewN | apply Kd.R_drew)); exact Kd.R_mono HO1989.out (fun _ hk => ⟨⟨hk.2.1, ⟨hk.2.2.1, hk.2.2.2⟩⟩, hk.1⟩)) hg hat)
          have n8_ := aK (blk_grown (g := gb1992) (o := .cells #[.int .i64 t1979, .int .i64 t1980, .int .i64 t1981, .slice Ao54 t1982.length co54, .int .i64 t1985, .int .i64 t1986, .slice Ao55 t1987.length co55, .int .i64 t1990] 38 (0, 0)) (zK BK1992) hg (Kd.R_ne HO_7.out BK1992.out (by decide)))
          have n9_ := aK (hb)
          have n10_ := aK (ho)
          clear HO_1976003
          clear HO_1976006
          clear BK1961
          clear BK1962
          clear BK1975
          clear BK1978
          clear HO1984
          clear HO1989
          clear BK1992
          clear HB
          clear HO_7
          have HO_1976003 := n0_
          have HO_1976006 := n1_
          have BK1961 := n2_
          have BK1962 := n3_
          have BK1975 := n4_
          have BK1978 := n5_
          have HO1984 := n6_
          have HO1989 := n7_
          have BK1992 := n8_
          have HB := n9_
          have HO1995 := n10_
          clear n0_ n1_ n2_ n3_ n4_ n5_ n6_ n7_ n8_ n9_ n10_
          clear ho hb hg hat
          refine hK.out _ _ ⟨zQ BK1992 0, zQ BK1992 1, zQ BK1992 2, zQ BK1992 3, zQ BK1992 4, zQ BK1992 5, zQ BK1992 6, zQ BK1992 7⟩ (fun hHeld => ?_)
          clear hK K
          refine norm_ (a' := ?_) ?_ ?_
          rotate_left
          ·show Act.put _ (some 39) _ = _
           simp only [Act.put, sTA, sZ, sS, i64_w, i32_w]
           rfl
          refine one_ (i := 5) (N := none) #[bY,bY,bY,bY,bY,bY,bN] rfl rfl (by kernel_rfl) (by decide) (fun K hK => ?_)
          have hs59 : w58.cell? ⟨gb1975, 0, none⟩ = some (.int .i64 x1976000_2) := (kC BK1975.out 0).trans rfl
          have hfs59 := kF BK1975.out 0
          have hns59_0 := NB1961_1975.out
          have hns59_1 := NB1962_1975.out
          have hns59_3 := NB1978_1975.out
          have hns59_4 := NB1992_1975.out
          have hms59_0 := NB1975_1961.out
          have hms59_1 := NB1975_1962.out
          have hms59_3 := NB1975_1978.out
          have hms59_4 := NB1975_1992.out
          have hs60 : w58.cell? ⟨gb1975, 1, none⟩ = some (.int .i64 x1976001_2) := (kC BK1975.out 1).trans rfl
          have hfs60 := kF BK1975.out 1
          have hns60_0 := NB1961_1975.out
          have hns60_1 := NB1962_1975.out
          have hns60_3 := NB1978_1975.out
          have hns60_4 := NB1992_1975.out
          have hms60_0 := NB1975_1961.out
          have hms60_1 := NB1975_1962.out
          have hms60_3 := NB1975_1978.out
          have hms60_4 := NB1975_1992.out
          have hs61 : w58.cell? ⟨gb1975, 2, none⟩ = some (.int .i64 x1976002_2) := (kC BK1975.out 2).trans rfl
          have hfs61 := kF BK1975.out 2
          have hns61_0 := NB1961_1975.out
          have hns61_1 := NB1962_1975.out
          have hns61_3 := NB1978_1975.out
          have hns61_4 := NB1992_1975.out
          have hms61_0 := NB1975_1961.out
          have hms61_1 := NB1975_1962.out
          have hms61_3 := NB1975_1978.out
          have hms61_4 := NB1975_1992.out
          have hs62 : w58.cell? ⟨gb1975, 3, none⟩ = some (.slice Ao45 x1976003_2.length co45) := (kC BK1975.out 3).trans rfl
          have hfs62 := kF BK1975.out 3
          have hns62_0 := NB1961_1975.out
          have hns62_1 := NB1962_1975.out
          have hns62_3 := NB1978_1975.out
          have hns62_4 := NB1992_1975.out
          have hms62_0 := NB1975_1961.out
          have hms62_1 := NB1975_1962.out
          have hms62_3 := NB1975_1978.out
          have hms62_4 := NB1975_1992.out
          have hs63 : w58.cell? ⟨gb1975, 4, none⟩ = some (.int .i64 x1976004_2) := (kC BK1975.out 4).trans rfl
          have hfs63 := kF BK1975.out 4
          have hns63_0 := NB1961_1975.out
          have hns63_1 := NB1962_1975.out
          have hns63_3 := NB1978_1975.out
          have hns63_4 := NB1992_1975.out
          have hms63_0 := NB1975_1961.out
          have hms63_1 := NB1975_1962.out
          have hms63_3 := NB1975_1978.out
          have hms63_4 := NB1975_1992.out
          have hs64 : w58.cell? ⟨gb1975, 5, none⟩ = some (.int .i64 x1976005_2) := (kC BK1975.out 5).trans rfl
          have hfs64 := kF BK1975.out 5
          have hns64_0 := NB1961_1975.out
          have hns64_1 := NB1962_1975.out
          have hns64_3 := NB1978_1975.out
          have hns64_4 := NB1992_1975.out
          have hms64_0 := NB1975_1961.out
          have hms64_1 := NB1975_1962.out
          have hms64_3 := NB1975_1978.out
          have hms64_4 := NB1975_1992.out
          have hs65 : w58.cell? ⟨gb1975, 6, none⟩ = some (.slice Ao46 x1976006_2.length co46) := (kC BK1975.out 6).trans rfl
          have hfs65 := kF BK1975.out 6
          have hns65_0 := NB1961_1975.out
          have hns65_1 := NB1962_1975.out
          have hns65_3 := NB1978_1975.out
          have hns65_4 := NB1992_1975.out
          have hms65_0 := NB1975_1961.out
          have hms65_1 := NB1975_1962.out
          have hms65_3 := NB1975_1978.out
          have hms65_4 := NB1975_1992.out
          have hs66 : w58.cell? ⟨gb1975, 7, none⟩ = some (.int .i64 x1976007_2) := (kC BK1975.out 7).trans rfl
          have hfs66 := kF BK1975.out 7
          have hns66_0 := NB1961_1975.out
          have hns66_1 := NB1962_1975.out
          have hns66_3 := NB1978_1975.out
          have hns66_4 := NB1992_1975.out
          have hms66_0 := NB1975_1961.out
          have hms66_1 := NB1975_1962.out
          have hms66_3 := NB1975_1978.out
          have hms66_4 := NB1975_1992.out
          refine skip_ (w1 := ?_) (by rfl) rfl ?_ ?_
          rotate_left
          ·go_simp
           rfl
          refine hK.out _ _ ⟨((cell_far (p := ⟨gb1975, _, none⟩) NB1992_1975.out _).trans (((cell_far (p := ⟨gb1975, _, none⟩) NB1992_1975.out _).trans (((cell_far (p := ⟨gb1975, _, none⟩) NB1992_1975.out _).trans (((cell_far (p := ⟨gb1975, _, none⟩) NB1992_1975.out _).trans (((cell_far (p := ⟨gb1975, _, none⟩) NB1992_1975.out _).trans (((cell_far (p := ⟨gb1975, _, none⟩) NB1992_1975.out _).trans (((cell_far (p := ⟨gb1975, _, none⟩) NB1992_1975.out _).trans (((cell_far (p := ⟨gb1975, _, none⟩) NB1992_1975.out _).trans (hHeld.1)))))))))))))))), ((cell_far (p := ⟨gb1975, _, none⟩) NB1992_1975.out _).trans (((cell_far (p := ⟨gb1975, _, none⟩) NB1992_1975.out _).trans (((cell_far (p := ⟨gb1975, _, none⟩) NB1992_1975.out _).trans (((cell_far (p := ⟨gb1975, _, none⟩) NB1992_1975.out _).trans (((cell_far (p := ⟨gb1975, _, none⟩) NB1992_1975.out _).trans (((cell_far (p := ⟨gb1975, _, none⟩) NB1992_1975.out _).trans (((cell_far (p := ⟨gb1975, _, none⟩) NB1992_1975.out _).trans (((cell_far (p := ⟨gb1975, _, none⟩) NB1992_1975.out _).trans (hHeld.2.1)))))))))))))))), ((cell_far (p := ⟨gb1975, _, none⟩) NB1992_1975.out _).trans (((cell_far (p := ⟨gb1975, _, none⟩) NB1992_1975.out _).trans (((cell_far (p := ⟨gb1975, _, none⟩) NB1992_1975.out _).trans (((cell_far (p := ⟨gb1975, _, none⟩) NB1992_1975.out _).trans (((cell_far (p := ⟨gb1975, _, none⟩) NB1992_1975.out _).trans (((cell_far (p := ⟨gb1975, _, none⟩) NB1992_1975.out _).trans (((cell_far (p := ⟨gb1975, _, none⟩) NB1992_1975.out _).trans (((cell_far (p := ⟨gb1975, _, none⟩) NB1992_1975.out _).trans (hHeld.2.2.1)))))))))))))))), ((cell_far (p := ⟨gb1975, _, none⟩) NB1992_1975.out _).trans (((cell_far (p := ⟨gb1975, _, none⟩) NB1992_1975.out _).trans (((cell_far (p := ⟨gb1975, _, none⟩) NB1992_1975.out _).trans (((cell_far (p := ⟨gb1975, _, none⟩) NB1992_1975.out _).trans (((cell_far (p := ⟨gb1975, _, none⟩) NB1992_1975.out _).trans (((cell_far (p := ⟨gb1975, _, none⟩) NB1992_1975.out _).trans (((cell_far (p := ⟨gb1975, _, none⟩) NB1992_1975.out _).trans (((cell_far (p := ⟨gb1975, _, none⟩) NB1992_1975.out _).trans (hHeld.2.2.2.1)))))))))))))))), ((cell_far (p := ⟨gb1975, _, none⟩) NB1992_1975.out _).trans (((cell_far (p := ⟨gb1975, _, none⟩) NB1992_1975.out _).trans (((cell_far (p := ⟨gb1975, _, none⟩) NB1992_1975.out _).trans (((cell_far (p := ⟨gb1975, _, none⟩) NB1992_1975.out _).trans (((cell_far (p := ⟨gb1975, _, none⟩) NB1992_1975.out _).trans (((cell_far (p := ⟨gb1975, _, none⟩) NB1992_1975.out _).trans (((cell_far (p := ⟨gb1975, _, none⟩) NB1992_1975.out _).trans (((cell_far (p := ⟨gb1975, _, none⟩) NB1992_1975.out _).trans (hHeld.2.2.2.2.1)))))))))))))))), ((cell_far (p := ⟨gb1975, _, none⟩) NB1992_1975.out _).trans (((cell_far (p := ⟨gb1975, _, none⟩) NB1992_1975.out _).trans (((cell_far (p := ⟨gb1975, _, none⟩) NB1992_1975.out _).trans (((cell_far (p := ⟨gb1975, _, none⟩) NB1992_1975.out _).trans (((cell_far (p := ⟨gb1975, _, none⟩) NB1992_1975.out _).trans (((cell_far (p := ⟨gb1975, _, none⟩) NB1992_1975.out _).trans (((cell_far (p := ⟨gb1975, _, none⟩) NB1992_1975.out _).trans (((cell_far (p := ⟨gb1975, _, none⟩) NB1992_1975.out _).trans (hHeld.2.2.2.2.2.1)))))))))))))))), ((cell_far (p := ⟨gb1975, _, none⟩) NB1992_1975.out _).trans (((cell_far (p := ⟨gb1975, _, none⟩) NB1992_1975.out _).trans (((cell_far (p := ⟨gb1975, _, none⟩) NB1992_1975.out _).trans (((cell_far (p := ⟨gb1975, _, none⟩) NB1992_1975.out _).trans (((cell_far (p := ⟨gb1975, _, none⟩) NB1992_1975.out _).trans (((cell_far (p := ⟨gb1975, _, none⟩) NB1992_1975.out _).trans (((cell_far (p := ⟨gb1975, _, none⟩) NB1992_1975.out _).trans (((cell_far (p := ⟨gb1975, _, none⟩) NB1992_1975.out _).trans (hHeld.2.2.2.2.2.2.1)))))))))))))))), ((cell_far (p := ⟨gb1975, _, none⟩) NB1992_1975.out _).trans (((cell_far (p := ⟨gb1975, _, none⟩) NB1992_1975.out _).trans (((cell_far (p := ⟨gb1975, _, none⟩) NB1992_1975.out _).trans (((cell_far (p := ⟨gb1975, _, none⟩) NB1992_1975.out _).trans (((cell_far (p := ⟨gb1975, _, none⟩) NB1992_1975.out _).trans (((cell_far (p := ⟨gb1975, _, none⟩) NB1992_1975.out _).trans (((cell_far (p := ⟨gb1975, _, none⟩) NB1992_1975.out _).trans (((cell_far (p := ⟨gb1975, _, none⟩) NB1992_1975.out _).trans (hHeld.2.2.2.2.2.2.2))))))))))))))))⟩ (fun hHeld => ?_)
          clear hK K
          refine pure_ (i := 6) (N := some 7) (v := ?_) (a' := ?_) #[bY,bY,bY,bY,bY,bY,bY] rfl rfl (by kernel_rfl) (fun _ _ _ h => h) (Or.inl ⟨by rfl, ?_⟩) ?_ ?_
          rotate_left
          ·intro w'
           go_simp
           with_reducible rfl
          rotate_left
          ·simp only [Act.put, sTA, sZ, sS, i64_w, i32_w]
           rfl
          refine done_ (by kernel_rfl) ?_
          try go_wp2
          go_roundg k2
          case measure => have := HJ3.out; have := HK2.out; omega
          case rel => exact ⟨(y1993), (wrap64 (x25_2 + 1)), (t1979), (t1980), (t1981), (t1982), (t1985), (t1986), (t1987), (t1990), (.slice Ao54 t1982.length co54), (.slice Ao55 t1987.length co55), (by first | rfl | (simp; done) | (simp [*]; done)), H', ⟨by have := HJ3.out; have := HK2.out; omega⟩, ⟨by (with_reducible repeat (first | apply Kd.R_alloc | apply Kd.R_drewN | apply Kd.R_drew)); exact Kd.R_mono (zT8 HO1995 BK1975 (.int .i64 t1979) (.int .i64 t1980) (.int .i64 t1981) (.slice Ao54 t1982.length co54) (.int .i64 t1985) (.int .i64 t1986) (.slice Ao55 t1987.length co55) (.int .i64 t1990)) (fun _ hk => ⟨hk.1.2.2.1, hk.1.2.2.2⟩)⟩, ⟨by (with_reducible repeat (first | apply Kd.R_alloc | apply Kd.R_drewN | apply Kd.R_drew)); exact Kd.R_mono (zT8 HO1984 BK1975 (.int .i64 t1979) (.int .i64 t1980) (.int .i64 t1981) (.slice Ao54 t1982.length co54) (.int .i64 t1985) (.int .i64 t1986) (.slice Ao55 t1987.length co55) (.int .i64 t1990)) (fun _ hk => ⟨hk.1.2, hk.1.1.2.2⟩)⟩, ⟨by (with_reducible repeat (first | apply Kd.R_alloc | apply Kd.R_drewN | apply Kd.R_drew)); exact Kd.R_mono (zT8 HO1989 BK1975 (.int .i64 t1979) (.int .i64 t1980) (.int .i64 t1981) (.slice Ao54 t1982.length co54) (.int .i64 t1985) (.int .i64 t1986) (.slice Ao55 t1987.length co55) (.int .i64 t1990)) (fun _ hk => ⟨hk.1.2, hk.1.1.2.2⟩)⟩, ⟨by (with_reducible repeat (first | refine blk_drewN ?_ _ | refine kD ?_ | refine kA ?_ _)); refine blk_far ?_ NB1961_1975.out _; (with_reducible repeat (first | refine blk_drewN ?_ _ | refine kD ?_ | refine kA ?_ _)); refine blk_far ?_ NB1961_1975.out _; (with_reducible repeat (first | refine blk_drewN ?_ _ | refine kD ?_ | refine kA ?_ _)); refine blk_far ?_ NB1961_1975.out _; (with_reducible repeat (first | refine blk_drewN ?_ _ | refine kD ?_ | refine kA ?_ _)); refine blk_far ?_ NB1961_1975.out _; (with_reducible repeat (first | refine blk_drewN ?_ _ | refine kD ?_ | refine kA ?_ _)); refine blk_far ?_ NB1961_1975.out _; (with_reducible repeat (first | refine blk_drewN ?_ _ | refine kD ?_ | refine kA ?_ _)); refine blk_far ?_ NB1961_1975.out _; (with_reducible repeat (first | refine blk_drewN ?_ _ | refine kD ?_ | refine kA ?_ _)); refine blk_far ?_ NB1961_1975.out _; (with_reducible repeat (first | refine blk_drewN ?_ _ | refine kD ?_ | refine kA ?_ _)); refine blk_far ?_ NB1961_1975.out _; (with_reducible repeat (first | refine blk_drewN ?_ _ | refine kD ?_ | refine kA ?_ _)); exact BK1961.out⟩, ⟨by (with_reducible repeat (first | refine blk_drewN ?_ _ | refine kD ?_ | refine kA ?_ _)); refine blk_far ?_ NB1962_1975.out _; (with_reducible repeat (first | refine blk_drewN ?_ _ | refine kD ?_ | refine kA ?_ _)); refine blk_far ?_ NB1962_1975.out _; (with_reducible repeat (first | refine blk_drewN ?_ _ | refine kD ?_ | refine kA ?_ _)); refine blk_far ?_ NB1962_1975.out _; (with_reducible repeat (first | refine blk_drewN ?_ _ | refine kD ?_ | refine kA ?_ _)); refine blk_far ?_ NB1962_1975.out _; (with_reducible repeat (first | refine blk_drewN ?_ _ | refine kD ?_ | refine kA ?_ _)); refine blk_far ?_ NB1962_1975.out _; (with_reducible repeat (first | refine blk_drewN ?_ _ | refine kD ?_ | refine kA ?_ _)); refine blk_far ?_ NB1962_1975.out _; (with_reducible repeat (first | refine blk_drewN ?_ _ | refine kD ?_ | refine kA ?_ _)); refine blk_far ?_ NB1962_1975.out _; (with_reducible repeat (first | refine blk_drewN ?_ _ | refine kD ?_ | refine kA ?_ _)); refine blk_far ?_ NB1962_1975.out _; (with_reducible repeat (first | refine blk_drewN ?_ _ | refine kD ?_ | refine kA ?_ _)); exact BK1962.out⟩, ⟨by (with_reducible repeat (first | refine blk_drewN ?_ _ | refine kD ?_ | refine kA ?_ _)); refine blk_put (cs := #[.int .i64 t1979, .int .i64 t1980, .int .i64 t1981, .slice Ao54 t1982.length co54, .int .i64 t1985, .int .i64 t1986, .slice Ao55 t1987.length co55, .int .i64 x1976007_2]) ?_ 7 _ rfl; (with_reducible repeat (first | refine blk_drewN ?_ _ | refine kD ?_ | refine kA ?_ _)); refine blk_put (cs := #[.int .i64 t1979, .int .i64 t1980, .int .i64 t1981, .slice Ao54 t1982.length co54, .int .i64 t1985, .int .i64 t1986, .slice Ao46 x1976006_2.length co46, .int .i64 x1976007_2]) ?_ 6 _ rfl; (with_reducible repeat (first | refine blk_drewN ?_ _ | refine kD ?_ | refine kA ?_ _)); refine blk_put (cs := #[.int .i64 t1979, .int .i64 t1980, .int .i64 t1981, .slice Ao54 t1982.length co54, .int .i64 t1985, .int .i64 x1976005_2, .slice Ao46 x1976006_2.length co46, .int .i64 x1976007_2]) ?_ 5 _ rfl; (with_reducible repeat (first | refine blk_drewN ?_ _ | refine kD ?_ | refine kA ?_ _)); refine blk_put (cs := #[.int .i64 t1979, .int .i64 t1980, .int .i64 t1981, .slice Ao54 t1982.length co54, .int .i64 x1976004_2, .int .i64 x1976005_2, .slice Ao46 x1976006_2.length co46, .int .i64 x1976007_2]) ?_ 4 _ rfl; (with_reducible repeat (first | refine blk_drewN ?_ _ | refine kD ?_ | refine kA ?_ _)); refine blk_put (cs := #[.int .i64 t1979, .int .i64 t1980, .int .i64 t1981, .slice Ao45 x1976003_2.length co45, .int .i64 x1976004_2, .int .i64 x1976005_2, .slice Ao46 x1976006_2.length co46, .int .i64 x1976007_2]) ?_ 3 _ rfl; (with_reducible repeat (first | refine blk_drewN ?_ _ | refine kD ?_ | refine kA ?_ _)); refine blk_put (cs := #[.int .i64 t1979, .int .i64 t1980, .int .i64 x1976002_2, .slice Ao45 x1976003_2.length co45, .int .i64 x1976004_2, .int .i64 x1976005_2, .slice Ao46 x1976006_2.length co46, .int .i64 x1976007_2]) ?_ 2 _ rfl; (with_reducible repeat (first | refine blk_drewN ?_ _ | refine kD ?_ | refine kA ?_ _)); refine blk_put (cs := #[.int .i64 t1979, .int .i64 x1976001_2, .int .i64 x1976002_2, .slice Ao45 x1976003_2.length co45, .int .i64 x1976004_2, .int .i64 x1976005_2, .slice Ao46 x1976006_2.length co46, .int .i64 x1976007_2]) ?_ 1 _ rfl; (with_reducible repeat (first | refine blk_drewN ?_ _ | refine kD ?_ | refine kA ?_ _)); refine blk_put (cs := #[.int .i64 x1976000_2, .int .i64 x1976001_2, .int .i64 x1976002_2, .slice Ao45 x1976003_2.length co45, .int .i64 x1976004_2, .int .i64 x1976005_2, .slice Ao46 x1976006_2.length co46, .int .i64 x1976007_2]) ?_ 0 _ rfl; (with_reducible repeat (first | refine blk_drewN ?_ _ | refine kD ?_ | refine kA ?_ _)); exact BK1975.out⟩, ⟨zH5 HB GE1961 GE1962 GE1975 GE1978 GE1992⟩⟩
         ·rw [if_neg c36] at H
          exact absurd H (by simp)
        ·rw [if_neg c34] at H
         exact absurd H (by simp)
       ·rw [if_neg c33] at H
        exact absurd H (by simp)
      ·rw [if_neg c32] at H
       have c32b0 : decide (x25_2 < (l1.length : Int)) = false := decide_eq_false c32
       clear c32
       simp only [Option.some.injEq, Prod.mk.injEq] at H
       obtain ⟨rfl, rfl, rfl, rfl, rfl, rfl, rfl, rfl, rfl⟩ := H
       have hnb67 := NB1975_1961.out
       have hnc67 := NB1961_1975.out
       have hnb68 := NB1975_1962.out
       have hnc68 := NB1962_1975.out
       obtain ⟨hcz69_0, hcz69_1, hcz69_2, hcz69_3, hcz69_4, hcz69_5, hcz69_6, hcz69_7, hfz69_0, hfz69_1, hfz69_2, hfz69_3, hfz69_4, hfz69_5, hfz69_6, hfz69_7⟩ := cl8 BK1975.out
       have hnb70 := NB1962_1961.out
       have hnc70 := NB1961_1962.out
       obtain ⟨hcz71_0, hcz71_1, hcz71_2, hcz71_3, hcz71_4, hcz71_5, hcz71_6, hcz71_7, hfz71_0, hfz71_1, hfz71_2, hfz71_3, hfz71_4, hfz71_5, hfz71_6, hfz71_7⟩ := cl8 BK1962.out
       obtain ⟨Ao72, co72, eo72⟩ := Kd.R_slice HO_1976003.out
       subst eo72
       obtain ⟨Ao73, co73, eo73⟩ := Kd.R_slice HO_1976006.out
       subst eo73
       go_wp2
       refine bodyPost_ret (results_ct rfl _ _ gb1962 38 #[.int .i64 x1976000_2, .int .i64 x1976001_2, .int .i64 x1976002_2, .slice Ao72 x1976003_2.length co72, .int .i64 x1976004_2, .int .i64 x1976005_2, .slice Ao73 x1976006_2.length co73, .int .i64 x1976007_2] (0, 0) _ rfl (by (with_reducible repeat (first | refine blk_drewN ?_ _ | refine kD ?_ | refine kA ?_ _)); refine blk_put (cs := #[.int .i64 x1976000_2, .int .i64 x1976001_2, .int .i64 x1976002_2, .slice Ao72 x1976003_2.length co72, .int .i64 x1976004_2, .int .i64 x1976005_2, .slice Ao73 x1976006_2.length co73, .int .i64 0]) ?_ 7 _ rfl; (with_reducible repeat (first | refine blk_drewN ?_ _ | refine kD ?_ | refine kA ?_ _)); refine blk_put (cs := #[.int .i64 x1976000_2, .int .i64 x1976001_2, .int .i64 x1976002_2, .slice Ao72 x1976003_2.length co72, .int .i64 x1976004_2, .int .i64 x1976005_2, .slice none 0 0, .int .i64 0]) ?_ 6 _ rfl; (with_reducible repeat (first | refine blk_drewN ?_ _ | refine kD ?_ | refine kA ?_ _)); refine blk_put (cs := #[.int .i64 x1976000_2, .int .i64 x1976001_2, .int .i64 x1976002_2, .slice Ao72 x1976003_2.length co72, .int .i64 x1976004_2, .int .i64 0, .slice none 0 0, .int .i64 0]) ?_ 5 _ rfl; (with_reducible repeat (first | refine blk_drewN ?_ _ | refine kD ?_ | refine kA ?_ _)); refine blk_put (cs := #[.int .i64 x1976000_2, .int .i64 x1976001_2, .int .i64 x1976002_2, .slice Ao72 x1976003_2.length co72, .int .i64 0, .int .i64 0, .slice none 0 0, .int .i64 0]) ?_ 4 _ rfl; (with_reducible repeat (first | refine blk_drewN ?_ _ | refine kD ?_ | refine kA ?_ _)); refine blk_put (cs := #[.int .i64 x1976000_2, .int .i64 x1976001_2, .int .i64 x1976002_2, .slice none 0 0, .int .i64 0, .int .i64 0, .slice none 0 0, .int .i64 0]) ?_ 3 _ rfl; (with_reducible repeat (first | refine blk_drewN ?_ _ | refine kD ?_ | refine kA ?_ _)); refine blk_put (cs := #[.int .i64 x1976000_2, .int .i64 x1976001_2, .int .i64 0, .slice none 0 0, .int .i64 0, .int .i64 0, .slice none 0 0, .int .i64 0]) ?_ 2 _ rfl; (with_reducible repeat (first | refine blk_drewN ?_ _ | refine kD ?_ | refine kA ?_ _)); refine blk_put (cs := #[.int .i64 x1976000_2, .int .i64 0, .int .i64 0, .slice none 0 0, .int .i64 0, .int .i64 0, .slice none 0 0, .int .i64 0]) ?_ 1 _ rfl; (with_reducible repeat (first | refine blk_drewN ?_ _ | refine kD ?_ | refine kA ?_ _)); refine blk_put (cs := #[.int .i64 0, .int .i64 0, .int .i64 0, .slice none 0 0, .int .i64 0, .int .i64 0, .slice none 0 0, .int .i64 0]) ?_ 0 _ rfl; (with_reducible repeat (first | refine blk_drewN ?_ _ | refine kD ?_ | refine kA ?_ _)); exact BK1962.out) Tryz.underlying38 rfl (by kernel_rfl)) rfl ?_
       exact ⟨_, _, _, by first | rfl | (simp [errW_none, errW_some] <;> rfl) | (simp [*, errW_none, errW_some] <;> rfl), by (with_reducible repeat (first | apply Kd.R_alloc | apply Kd.R_drewN | apply Kd.R_drew)); exact Kd.R_mono (zT8 HO_1976003 BK1962 (.int .i64 x1976000_2) (.int .i64 x1976001_2) (.int .i64 x1976002_2) (.slice Ao72 x1976003_2.length co72) (.int .i64 x1976004_2) (.int .i64 x1976005_2) (.slice Ao73 x1976006_2.length co73) (.int .i64 x1976007_2)) (fun _ hk => ⟨hk.1.2, hk.1.1⟩), by (with_reducible repeat (first | apply Kd.R_alloc | apply Kd.R_drewN | apply Kd.R_drew)); exact Kd.R_mono (zT8 HO_1976006 BK1962 (.int .i64 x1976000_2) (.int .i64 x1976001_2) (.int .i64 x1976002_2) (.slice Ao72 x1976003_2.length co72) (.int .i64 x1976004_2) (.int .i64 x1976005_2) (.slice Ao73 x1976006_2.length co73) (.int .i64 x1976007_2)) (fun _ hk => ⟨hk.1.2, hk.1.1⟩), by (with_reducible repeat (first | apply Kd.R_alloc | apply Kd.R_drewN | apply Kd.R_drew)); exact Kd.R_mono (zT8 HO_7 BK1962 (.int .i64 x1976000_2) (.int .i64 x1976001_2) (.int .i64 x1976002_2) (.slice Ao72 x1976003_2.length co72) (.int .i64 x1976004_2) (.int .i64 x1976005_2) (.slice Ao73 x1976006_2.length co73) (.int .i64 x1976007_2)) (fun _ hk => ⟨hk.1.1, hk.1.2⟩), by repeat (first | (with_reducible first | exact HB.out | apply bAl | apply bDN | apply bD1 | refine bSt ?_ GE1961.out | refine bSt ?_ GE1962.out | refine bSt ?_ GE1975.out) | exact HB.out)⟩
theorem impl_RunActs.ctr {k : Nat} {a0_0 : Int} {a0_1 : Int} {a0_2 : Int} {l0_3 : List Int} {a0_4 : Int} {a0_5 : Int} {l0_6 : List Int} {a0_7 : Int} {l1 : List (SAct)} {r1 : Int} {r2 : Int} {r3 : Int} {r4 : List Int} {r5 : Int} {r6 : Int} {r7 : List Int} {r8 : Int} {r9 : List Int} (h : impl_RunActs.f k a0_0 a0_1 a0_2 l0_3 a0_4 a0_5 l0_6 a0_7 l1 = some (r1, r2, r3, r4, r5, r6, r7, r8, r9)) : Ctr Tryz.prog 36 [.ag [.v (.int .i64 a0_0), .v (.int .i64 a0_1), .v (.int .i64 a0_2), .pr 1 (l0_3.map eI), .v (.int .i64 a0_4), .v (.int .i64 a0_5), .pr 1 (l0_6.map eI), .v (.int .i64 a0_7)], .pr 3 (l1.map eAct)] (.tu [.ag [.v (.int .i64 r1), .v (.int .i64 r2), .v (.int .i64 r3), .ow 3 1 (r4.map eI), .v (.int .i64 r5), .v (.int .i64 r6), .ow 3 1 (r7.map eI), .v (.int .i64 r8)], .ow 3 1 (r9.map eI)]) := by
  refine ⟨enters_of Tryz.func36 rfl rfl, fun w ys hys => ?_⟩
  simp only [RepL, Rep] at hys
  obtain ⟨_, _, rfl, ⟨_, rfl, _, _, rfl, rfl, _, _, rfl, rfl, _, _, rfl, rfl, _, _, rfl, q1, _, _, rfl, rfl, _, _, rfl, rfl, _, _, rfl, q2, _, _, rfl, rfl, rfl⟩, _, _, rfl, q3, rfl⟩ := hys
  obtain ⟨_, _, rfl, hr1, hc1⟩ := C_of_at E_eI q1
  obtain ⟨_, _, rfl, hr2, hc2⟩ := C_of_at E_eI q2
  obtain ⟨_, _, rfl, hr3, hc3⟩ := C_of_at E_eAct q3
  refine (impl_RunActs.calls _ _ _ _ _ _ _ _ _ _ _ _ _ _ _ _ _ _ _ _ _ _ _ _ _ w hr1 hc1 hr2 hc2 hr3 hc3 h).mono ?_
  rintro _ w' ⟨v1, v2, v3, rfl, h1, h2, h3, hb⟩
  have o1 := row_of_R E_eI h1
  have o2 := row_of_R E_eI h2
  have o3 := row_of_R E_eI h3
  refine ⟨_, (bk v1).toList ++ (bk v2).toList ++ (bk v3).toList, rfl, ?_, nd3 (nd_own o1 o2 (fun k hk => by have q_ := h1.1 k hk; first | exact q_ | exact q_.1 | exact q_.2)) (nd_own o1 o3 (fun k hk => by have q_ := h1.1 k hk; first | exact q_ | exact q_.1 | exact q_.2)) (nd_own o2 o3 (fun k hk => by have q_ := h2.1 k hk; first | exact q_ | exact q_.1 | exact q_.2)), hb⟩
  simp only [RepR, RepRL]
  exact ⟨_, rfl, _, _, (bk v1).toList ++ (bk v2).toList, (bk v3).toList, rfl, by simp, ⟨_, rfl, _, _, [], (bk v1).toList ++ (bk v2).toList, rfl, by simp, ⟨rfl, rfl⟩, _, _, [], (bk v1).toList ++ (bk v2).toList, rfl, by simp, ⟨rfl, rfl⟩, _, _, [], (bk v1).toList ++ (bk v2).toList, rfl, by simp, ⟨rfl, rfl⟩, _, _, (bk v1).toList, (bk v2).toList, rfl, by simp, ⟨o1, E_eI.row _, E_eI.pos, rfl⟩, _, _, [], (bk v2).toList, rfl, by simp, ⟨rfl, rfl⟩, _, _, [], (bk v2).toList, rfl, by simp, ⟨rfl, rfl⟩, _, _, (bk v2).toList, [], rfl, by simp, ⟨o2, E_eI.row _, E_eI.pos, rfl⟩, _, _, [], [], rfl, by simp, ⟨rfl, rfl⟩, rfl, rfl⟩, _, _, (bk v3).toList, [], rfl, by simp, ⟨o3, E_eI.row _, E_eI.pos, rfl⟩, rfl, rfl⟩
end Go.Proofs.YtkindoepnganmaaGreat.F
end

section
namespace Go.Proofs.YtkindoepnganmaaGreat.F
open Go.RowKit Go.Proofs.YtkindoepnganmaaGreatW.PrintWords Go.Proofs.YtkindoepnganmaaGreatW.PrintLast Go.Proofs.YtkindoepnganmaaGreatW.PrintMore
set_option linter.unusedVariables false
set_option linter.unusedSimpArgs false
attribute [local go_sem] max2_int min2_int max_two min_two
set_option maxRecDepth 20000
set_option maxHeartbeats 4000000
open Nat renaming reduceAdd → p1, reduceSub → p2, reduceMul → p3, reduceDiv → p4, reduceBNe → p5, reduceBEq → p6, reduceEqDiff → p7, reduceLeDiff → p8, reduceLT → p9
open Int renaming reduceLE → p10, reduceLT → p11, reduceEq → p12
theorem spec_ActOk.ctr {k : Nat} {a0_0 : Int} {a0_1 : Int} {a0_2 : Int} {r : Bool} (h : spec_ActOk.f k a0_0 a0_1 a0_2 = some r) : Ctr Tryz.prog 83 [.ag [.v (.int .i64 a0_0), .v (.int .i64 a0_1), .v (.int .i64 a0_2)]] (.v (.bool r)) := by
  refine Ctr_of tyOk hm Tryz.func83 rfl rfl (by kernel_rfl) (n := 46) (rv := [.tmp 2]) rfl rfl ?_
  simp only [W, List.replicate]
  unfold spec_ActOk.f at h
  replace h := ifS h; rcases h with ⟨c1, h⟩ | ⟨c1, h⟩
  · rcases k with _ | m2; · cases h
    rw [spec_ActOk.j0] at h
    rw [if_pos (beq_iff_eq.2 c1)] at h
    replace h := ifS h; rcases h with ⟨c3, h⟩ | ⟨c3, h⟩
    · cases h
      try simp only [W, eq_true c1, eq_true c3, p1, p2, p3, p4, p5, p6, p7, p8, p9, p10, p11, p12]
    · cases h
      try simp only [W, eq_true c1, c3, p1, p2, p3, p4, p5, p6, p7, p8, p9, p10, p11, p12]
  · replace h := ifS h; rcases h with ⟨c4, h⟩ | ⟨c4, h⟩
    · rcases k with _ | m5; · cases h
      rw [spec_ActOk.j0] at h
      rw [if_pos (beq_iff_eq.2 c4)] at h
      replace h := ifS h; rcases h with ⟨c6, h⟩ | ⟨c6, h⟩
      · cases h
        try simp only [W, c1, eq_true c4, eq_true c6, p1, p2, p3, p4, p5, p6, p7, p8, p9, p10, p11, p12]
      · cases h
        try simp only [W, c1, eq_true c4, c6, p1, p2, p3, p4, p5, p6, p7, p8, p9, p10, p11, p12]
    · rcases k with _ | m7; · cases h
      rw [spec_ActOk.j0] at h
      replace h := ifT h; rcases h with ⟨c8, h⟩ | ⟨c8, h⟩
      · replace h := ifS h; rcases h with ⟨c9, h⟩ | ⟨c9, h⟩
        · cases h
          try simp only [W, c1, c4, c8, eq_true c9, p1, p2, p3, p4, p5, p6, p7, p8, p9, p10, p11, p12]
        · cases h
          try simp only [W, c1, c4, c8, c9, p1, p2, p3, p4, p5, p6, p7, p8, p9, p10, p11, p12]
      · replace h := ifS h; rcases h with ⟨c10, h⟩ | ⟨c10, h⟩
        · replace h := bnd h; obtain ⟨t11, A, h⟩ := h
          try simp only [W, c1, c4, c8, eq_true c10, p1, p2, p3, p4, p5, p6, p7, p8, p9, p10, p11, p12]
          refine callR (spec_l01In.ctr A) ?_
          replace h := ifT h; rcases h with ⟨rfl, h⟩ | ⟨rfl, h⟩
          · cases h
            try simp only [W, c1, c4, c8, eq_true c10, p1, p2, p3, p4, p5, p6, p7, p8, p9, p10, p11, p12]
          · cases h
            try simp only [W, c1, c4, c8, eq_true c10, p1, p2, p3, p4, p5, p6, p7, p8, p9, p10, p11, p12]
        · replace h := ifS h; rcases h with ⟨c13, h⟩ | ⟨c13, h⟩
          · replace h := bnd h; obtain ⟨t14, A, h⟩ := h
            try simp only [W, c1, c4, c8, c10, eq_true c13, p1, p2, p3, p4, p5, p6, p7, p8, p9, p10, p11, p12]
            refine callR (spec_l01In.ctr A) ?_
            replace h := ifT h; rcases h with ⟨rfl, h⟩ | ⟨rfl, h⟩
            · replace h := bnd h; obtain ⟨t16, A, h⟩ := h
              try simp only [W, c1, c4, c8, c10, eq_true c13, p1, p2, p3, p4, p5, p6, p7, p8, p9, p10, p11, p12]
              refine callR (spec_l01In.ctr A) ?_
              cases h
              try simp only [W, c1, c4, c8, c10, eq_true c13, p1, p2, p3, p4, p5, p6, p7, p8, p9, p10, p11, p12]
            · cases h
              try simp only [W, c1, c4, c8, c10, eq_true c13, p1, p2, p3, p4, p5, p6, p7, p8, p9, p10, p11, p12]
          · replace h := ifS h; rcases h with ⟨c17, h⟩ | ⟨c17, h⟩
            · replace h := bnd h; obtain ⟨t18, A, h⟩ := h
              try simp only [W, c1, c4, c8, c10, c13, eq_true c17, p1, p2, p3, p4, p5, p6, p7, p8, p9, p10, p11, p12]
              refine callR (spec_l01In.ctr A) ?_
              replace h := ifT h; rcases h with ⟨rfl, h⟩ | ⟨rfl, h⟩
              · cases h
                try simp only [W, c1, c4, c8, c10, c13, eq_true c17, p1, p2, p3, p4, p5, p6, p7, p8, p9, p10, p11, p12]
              · cases h
                try simp only [W, c1, c4, c8, c10, c13, eq_true c17, p1, p2, p3, p4, p5, p6, p7, p8, p9, p10, p11, p12]
            · cases h
              try simp only [W, c1, c4, c8, c10, c13, c17, p1, p2, p3, p4, p5, p6, p7, p8, p9, p10, p11, p12]
theorem spec_DistanceOf.ctr {k : Nat} {a0_0 : Int} {a0_1 : Int} {a0_2 : Int} {a1 : Int} {a2 : Int} {r : Int} (h : spec_DistanceOf.f k a0_0 a0_1 a0_2 a1 a2 = some r) : Ctr Tryz.prog 58 [.ag [.v (.int .i64 a0_0), .v (.int .i64 a0_1), .v (.int .i64 a0_2)], .v (.int .i64 a1), .v (.int .i64 a2)] (.v (.int .i64 r)) := by
  refine Ctr_of tyOk hm Tryz.func58 rfl rfl (by kernel_rfl) (n := 20) (rv := [.tmp 6]) rfl rfl ?_
  simp only [W, List.replicate]
  unfold spec_DistanceOf.f at h
  replace h := bnd h; obtain ⟨t1, A, h⟩ := h
  try simp only [W, p1, p2, p3, p4, p5, p6, p7, p8, p9, p10, p11, p12]
  refine callR (spec_l04Has.ctr A) ?_
  replace h := ifT h; rcases h with ⟨rfl, h⟩ | ⟨rfl, h⟩
  · replace h := bnd h; obtain ⟨t3, A, h⟩ := h
    try simp only [W, p1, p2, p3, p4, p5, p6, p7, p8, p9, p10, p11, p12]
    refine callR (spec_l04Has.ctr A) ?_
    replace h := ifT h; rcases h with ⟨rfl, h⟩ | ⟨rfl, h⟩
    · replace h := bnd h; obtain ⟨t5, A, h⟩ := h
      try simp only [W, p1, p2, p3, p4, p5, p6, p7, p8, p9, p10, p11, p12]
      refine callR (spec_l04Distances.ctr A) ?_
      replace h := ifN h; obtain ⟨c6, h⟩ := h
      replace h := ifN h; obtain ⟨c7, h⟩ := h
      cases h
      try simp only [W, c6, c7, p1, p2, p3, p4, p5, p6, p7, p8, p9, p10, p11, p12]
    · cases h
      try simp only [W, p1, p2, p3, p4, p5, p6, p7, p8, p9, p10, p11, p12]
  · cases h
    try simp only [W, p1, p2, p3, p4, p5, p6, p7, p8, p9, p10, p11, p12]
theorem spec_l39Far.ctr {k : Nat} {a0_0 : Int} {a0_1 : Int} {a0_2 : Int} {l0_3 : List Int} {a0_4 : Int} {a0_5 : Int} {l0_6 : List Int} {a0_7 : Int} {r : Int} (h : spec_l39Far.f k a0_0 a0_1 a0_2 l0_3 a0_4 a0_5 l0_6 a0_7 = some r) : Ctr Tryz.prog 84 [.ag [.v (.int .i64 a0_0), .v (.int .i64 a0_1), .v (.int .i64 a0_2), .pr 1 (l0_3.map eI), .v (.int .i64 a0_4), .v (.int .i64 a0_5), .pr 1 (l0_6.map eI), .v (.int .i64 a0_7)]] (.v (.int .i64 r)) := by
  refine Ctr_of tyOk hm Tryz.func84 rfl rfl (by kernel_rfl) (n := 25) (rv := [.tmp 2]) rfl rfl ?_
  simp only [W, List.replicate]
  unfold spec_l39Far.f at h
  try simp only [W, p1, p2, p3, p4, p5, p6, p7, p8, p9, p10, p11, p12]
  refine loopN (fun x : Int × Int × Int × Int × Int × List Int × Int × Int × List Int × Int => [.u, .bp 16 0, .u, .v (.int .i64 x.1), .v (.int .i64 x.2.1), .u, .u, .u, .u, .u, .u, .u, .u, .u, .u, .u, .u, .u, .u, .u, .u, .u, .u, .u, .u, .u]) (fun x => [(16, .box 38 [.v (.int .i64 x.2.2.1), .v (.int .i64 x.2.2.2.1), .v (.int .i64 x.2.2.2.2.1), .pr 1 (List.map eI x.2.2.2.2.2.1), .v (.int .i64 x.2.2.2.2.2.2.1), .v (.int .i64 x.2.2.2.2.2.2.2.1), .pr 1 (List.map eI x.2.2.2.2.2.2.2.2.1), .v (.int .i64 x.2.2.2.2.2.2.2.2.2)])]) (fun n x => spec_l39Far.l0 n x.1 x.2.1 x.2.2.1 x.2.2.2.1 x.2.2.2.2.1 x.2.2.2.2.2.1 x.2.2.2.2.2.2.1 x.2.2.2.2.2.2.2.1 x.2.2.2.2.2.2.2.2.1 x.2.2.2.2.2.2.2.2.2 = some r) (0, 0, a0_0, a0_1, a0_2, l0_3, a0_4, a0_5, l0_6, a0_7) [] h (by simp only [W, p1, p2, p3, p4, p5, p6, p7, p8, p9, p10, p11, p12] <;> trivial) (by simp only [W, p1, p2, p3, p4, p5, p6, p7, p8, p9, p10, p11, p12] <;> trivial) rfl (fun _ h => by cases h) ?_
  intro n1 ⟨x1, x2, x3, x4, x5, x6, x7, x8, x9, x10⟩ _ h
  simp only [spec_l39Far.l0] at h
  replace h := ifS h; rcases h with ⟨c11, h⟩ | ⟨c11, h⟩
  · replace h := bnd h; obtain ⟨⟨t12_1, t12_2, t12_3⟩, A, h⟩ := h
    dsimp only at h
    try simp only [W, c11, p1, p2, p3, p4, p5, p6, p7, p8, p9, p10, p11, p12]
    refine callR (spec_OpenNow.ctr A) ?_
    replace h := ifN h; obtain ⟨c13, h⟩ := h
    replace h := bnd h; obtain ⟨t14, A, h⟩ := h
    try simp only [W, c11, c13, p1, p2, p3, p4, p5, p6, p7, p8, p9, p10, p11, p12]
    refine callR (spec_DistanceOf.ctr A) ?_
    try simp only [W, c11, c13, p1, p2, p3, p4, p5, p6, p7, p8, p9, p10, p11, p12]
    exact nextN ((mx x1 t14), (wrap64 (x2 + 1)), x3, x4, x5, x6, x7, x8, x9, x10) [] n1 (by omega) h (by simp only [W, p1, p2, p3, p4, p5, p6, p7, p8, p9, p10, p11, p12] <;> trivial) (by simp only [W, p1, p2, p3, p4, p5, p6, p7, p8, p9, p10, p11, p12] <;> trivial) rfl
  · cases h
    try simp only [W, c11, p1, p2, p3, p4, p5, p6, p7, p8, p9, p10, p11, p12]
theorem spec_l39Bool.ctr {a0 : Bool} {r : Int} (h : spec_l39Bool.f a0 = some r) : Ctr Tryz.prog 85 [.v (.bool a0)] (.v (.int .i64 r)) := by
  refine Ctr_of tyOk hm Tryz.func85 rfl rfl (by kernel_rfl) (n := 3) (rv := [.tmp 2]) rfl rfl ?_
  simp only [W, List.replicate]
  unfold spec_l39Bool.f at h
  replace h := ifT h; rcases h with ⟨rfl, h⟩ | ⟨rfl, h⟩
  · cases h
    try simp only [W, p1, p2, p3, p4, p5, p6, p7, p8, p9, p10, p11, p12]
  · cases h
    try simp only [W, p1, p2, p3, p4, p5, p6, p7, p8, p9, p10, p11, p12]
end Go.Proofs.YtkindoepnganmaaGreat.F
end

section
namespace Go.Proofs.YtkindoepnganmaaGreat.F
open Go.RowKit Go.Proofs.YtkindoepnganmaaGreatW.PrintWords Go.Proofs.YtkindoepnganmaaGreatW.PrintLast Go.Proofs.YtkindoepnganmaaGreatW.PrintMore
set_option linter.unusedVariables false
set_option linter.unusedSimpArgs false
attribute [local go_sem] max2_int min2_int max_two min_two
set_option maxRecDepth 20000 in set_option maxHeartbeats 4000000 in open Nat renaming reduceAdd → p1, reduceSub → p2, reduceMul → p3, reduceDiv → p4, reduceBNe → p5, reduceBEq → p6, reduceEqDiff → p7, reduceLeDiff → p8, reduceLT → p9 in open Int renaming reduceLE → p10, reduceLT → p11, reduceEq → p12 in
theorem spec_WayBetween.ctr {k : Nat} {a0_0 : Int} {a0_1 : Int} {a0_2 : Int} {a1 : Int} {a2 : Int} {r1 : List Int} {r2 : Bool} (h : spec_WayBetween.f k a0_0 a0_1 a0_2 a1 a2 = some (r1, r2)) : Ctr Tryz.prog 81 [.ag [.v (.int .i64 a0_0), .v (.int .i64 a0_1), .v (.int .i64 a0_2)], .v (.int .i64 a1), .v (.int .i64 a2)] (.tu [.ow 3 1 (r1.map eI), .v (.bool r2)]) := by
  refine Ctr_of tyOk hm Tryz.func81 rfl rfl (by kernel_rfl) (n := 61) (rv := [.tmp 6, .tmp 7]) rfl rfl ?_
  simp only [W, List.replicate]
  unfold spec_WayBetween.f at h
  rw [Option.bind_some] at h
  replace h := bnd h; obtain ⟨t1, A, h⟩ := h
  try simp only [W, p1, p2, p3, p4, p5, p6, p7, p8, p9, p10, p11, p12]
  refine callR (spec_l04Has.ctr A) ?_
  replace h := ifT h; rcases h with ⟨rfl, h⟩ | ⟨rfl, h⟩
  · replace h := bnd h; obtain ⟨t3, A, h⟩ := h
    try simp only [W, p1, p2, p3, p4, p5, p6, p7, p8, p9, p10, p11, p12]
    refine callR (spec_l04Has.ctr A) ?_
    rcases k with _ | m4; · cases h
    rw [spec_WayBetween.j0] at h
    replace h := ifT h; rcases h with ⟨c5, h⟩ | ⟨c5, h⟩
    · cases h
      try simp only [W, c5, p1, p2, p3, p4, p5, p6, p7, p8, p9, p10, p11, p12]
    · replace h := bnd h; obtain ⟨t6, A, h⟩ := h
      try simp only [W, c5, p1, p2, p3, p4, p5, p6, p7, p8, p9, p10, p11, p12]
      refine callR (spec_l04Distances.ctr A) ?_
      replace h := ifN h; obtain ⟨c7, h⟩ := h
      replace h := ifN h; obtain ⟨c8, h⟩ := h
      replace h := ifS h; rcases h with ⟨c9, h⟩ | ⟨c9, h⟩
      · cases h
        try simp only [W, c5, c7, c8, c9, p1, p2, p3, p4, p5, p6, p7, p8, p9, p10, p11, p12]
      · try simp only [W, c5, c7, c8, c9, p1, p2, p3, p4, p5, p6, p7, p8, p9, p10, p11, p12]
        refine loopN (fun x : Int × Int × List Int × List Int × Int × Int × Int => [.u, .v (.int .i64 x.1), .v (.int .i64 x.2.1), .bp 48 0, .u, .u, .u, .u, .lo 192, .lo 416, .u, .u, .u, .u, .u, .u, .u, .u, .u, .u, .u, .u, .u, .u, .u, .u, .u, .u, .u, .u, .u, .u, .u, .u, .u, .u, .u, .u, .u, .u, .u, .u, .u, .u, .u, .u, .u, .u, .u, .u, .u, .u, .u, .u, .u, .u, .u, .u, .u, .u, .u, .u, .u, .u]) (fun x => [(48, .box 34 [.v (.int .i64 x.2.2.2.2.1), .v (.int .i64 x.2.2.2.2.2.1), .v (.int .i64 x.2.2.2.2.2.2)]), (192, .row 3 1 (List.map eI x.2.2.1)), (416, .row 3 1 (List.map eI x.2.2.2.1))]) (fun n x => spec_WayBetween.l0 n x.1 x.2.1 x.2.2.1 x.2.2.2.1 x.2.2.2.2.1 x.2.2.2.2.2.1 x.2.2.2.2.2.2 = some (r1, r2)) (a1, a2, (([] : List Int) : List Int), t6, a0_0, a0_1, a0_2) [] h (by simp only [W, p1, p2, p3, p4, p5, p6, p7, p8, p9, p10, p11, p12] <;> trivial) (by simp only [W, p1, p2, p3, p4, p5, p6, p7, p8, p9, p10, p11, p12] <;> trivial) rfl (fun _ h => by cases h) ?_
        intro n1 ⟨x10, x11, x12, x13, x14, x15, x16⟩ _ h
        simp only [spec_WayBetween.l0] at h
        replace h := ifS h; rcases h with ⟨c17, h⟩ | ⟨c17, h⟩
        · cases h
          try simp only [W, eq_true c17, p1, p2, p3, p4, p5, p6, p7, p8, p9, p10, p11, p12]
        · try simp only [W, c17, p1, p2, p3, p4, p5, p6, p7, p8, p9, p10, p11, p12]
          refine loopN (fun x : Int × Int × List Int × List Int × Int × Int × Int × Int => [.u, .v (.int .i64 x.1), .v (.int .i64 x.2.1), .bp 48 0, .u, .u, .u, .u, .lo 192, .lo 416, .v (.int .i64 x.2.2.2.2.1), .u, .u, .u, .u, .u, .u, .u, .u, .u, .u, .u, .u, .u, .u, .u, .u, .u, .u, .u, .u, .u, .u, .u, .u, .u, .u, .u, .u, .u, .u, .u, .u, .u, .u, .u, .u, .u, .u, .u, .u, .u, .u, .u, .u, .u, .u, .u, .u, .u, .u, .u, .u, .u]) (fun x => [(48, .box 34 [.v (.int .i64 x.2.2.2.2.2.1), .v (.int .i64 x.2.2.2.2.2.2.1), .v (.int .i64 x.2.2.2.2.2.2.2)]), (192, .row 3 1 (List.map eI x.2.2.1)), (416, .row 3 1 (List.map eI x.2.2.2.1))]) (fun n x => spec_WayBetween.l1 n x.1 x.2.1 x.2.2.1 x.2.2.2.1 x.2.2.2.2.1 x.2.2.2.2.2.1 x.2.2.2.2.2.2.1 x.2.2.2.2.2.2.2 = some (r1, r2)) (x10, x11, x12, x13, 0, x14, x15, x16) [] h (by simp only [W, p1, p2, p3, p4, p5, p6, p7, p8, p9, p10, p11, p12] <;> trivial) (by simp only [W, p1, p2, p3, p4, p5, p6, p7, p8, p9, p10, p11, p12] <;> trivial) rfl (fun _ h => by cases h) ?_
          intro n2 ⟨x18, x19, x20, x21, x22, x23, x24, x25⟩ _ h
          simp only [spec_WayBetween.l1] at h
          replace h := ifS h; rcases h with ⟨c26, h⟩ | ⟨c26, h⟩
          · replace h := bnd h; obtain ⟨t27, A, h⟩ := h
            try simp only [W, c26, p1, p2, p3, p4, p5, p6, p7, p8, p9, p10, p11, p12]
            refine callR (spec_Step.ctr A) ?_
            replace h := ifS h; rcases h with ⟨c28, h⟩ | ⟨c28, h⟩
            · replace h := ifN h; obtain ⟨c29, h⟩ := h
              replace h := ifN h; obtain ⟨c30, h⟩ := h
              replace h := ifN h; obtain ⟨c31, h⟩ := h
              replace h := ifN h; obtain ⟨c32, h⟩ := h
              replace h := ifS h; rcases h with ⟨c33, h⟩ | ⟨c33, h⟩
              · replace h := ifN h; obtain ⟨c34, h⟩ := h
                try simp only [W, c26, c28, c29, c30, c31, c32, eq_true c33, c34, p1, p2, p3, p4, p5, p6, p7, p8, p9, p10, p11, p12]
                exact nextN (t27, x19, (x20 ++ [x22]), x21, x23, x24, x25) [(192, 976)] n2 (by omega) h (by simp only [W, p1, p2, p3, p4, p5, p6, p7, p8, p9, p10, p11, p12] <;> trivial) (by simp only [W, p1, p2, p3, p4, p5, p6, p7, p8, p9, p10, p11, p12] <;> trivial) rfl
              · try simp only [W, c26, c28, c29, c30, c31, c32, c33, p1, p2, p3, p4, p5, p6, p7, p8, p9, p10, p11, p12]
                exact nextN (x18, x19, x20, x21, (wrap64 (x22 + 1)), x23, x24, x25) [] n2 (by omega) h (by simp only [W, p1, p2, p3, p4, p5, p6, p7, p8, p9, p10, p11, p12] <;> trivial) (by simp only [W, p1, p2, p3, p4, p5, p6, p7, p8, p9, p10, p11, p12] <;> trivial) rfl
            · try simp only [W, c26, c28, p1, p2, p3, p4, p5, p6, p7, p8, p9, p10, p11, p12]
              exact nextN (x18, x19, x20, x21, (wrap64 (x22 + 1)), x23, x24, x25) [] n2 (by omega) h (by simp only [W, p1, p2, p3, p4, p5, p6, p7, p8, p9, p10, p11, p12] <;> trivial) (by simp only [W, p1, p2, p3, p4, p5, p6, p7, p8, p9, p10, p11, p12] <;> trivial) rfl
          · try simp only [W, c26, p1, p2, p3, p4, p5, p6, p7, p8, p9, p10, p11, p12]
            exact nextN (x18, x19, x20, x21, x23, x24, x25) [] n2 (by omega) h (by simp only [W, p1, p2, p3, p4, p5, p6, p7, p8, p9, p10, p11, p12] <;> trivial) (by simp only [W, p1, p2, p3, p4, p5, p6, p7, p8, p9, p10, p11, p12] <;> trivial) rfl
  · rcases k with _ | m35; · cases h
    rw [spec_WayBetween.j0] at h
    rw [if_pos rfl] at h
    cases h
    try simp only [W, p1, p2, p3, p4, p5, p6, p7, p8, p9, p10, p11, p12]
end Go.Proofs.YtkindoepnganmaaGreat.F
end

section
namespace Go.Proofs.YtkindoepnganmaaGreat.F
open Go.RowKit Go.Proofs.YtkindoepnganmaaGreatW.PrintWords Go.Proofs.YtkindoepnganmaaGreatW.PrintLast Go.Proofs.YtkindoepnganmaaGreatW.PrintMore
set_option linter.unusedVariables false
set_option linter.unusedSimpArgs false
attribute [local go_sem] max2_int min2_int max_two min_two
set_option maxRecDepth 20000 in set_option maxHeartbeats 4000000 in open Nat renaming reduceAdd → p1, reduceSub → p2, reduceMul → p3, reduceDiv → p4, reduceBNe → p5, reduceBEq → p6, reduceEqDiff → p7, reduceLeDiff → p8, reduceLT → p9 in open Int renaming reduceLE → p10, reduceLT → p11, reduceEq → p12 in
theorem spec_Guide.ctr {k : Nat} {a0_0 : Int} {a0_1 : Int} {a0_2 : Int} {l0_3 : List Int} {a0_4 : Int} {a0_5 : Int} {l0_6 : List Int} {a0_7 : Int} {a1 : Int} {r1 : Int} {r2 : Int} {r3 : Int} {r4 : List Int} {r5 : Int} {r6 : Int} {r7 : List Int} {r8 : Int} {r9 : Bool} (h : spec_Guide.f k a0_0 a0_1 a0_2 l0_3 a0_4 a0_5 l0_6 a0_7 a1 = some (r1, r2, r3, r4, r5, r6, r7, r8, r9)) : Ctr Tryz.prog 28 [.ag [.v (.int .i64 a0_0), .v (.int .i64 a0_1), .v (.int .i64 a0_2), .pr 1 (l0_3.map eI), .v (.int .i64 a0_4), .v (.int .i64 a0_5), .pr 1 (l0_6.map eI), .v (.int .i64 a0_7)], .v (.int .i64 a1)] (.tu [.ag [.v (.int .i64 r1), .v (.int .i64 r2), .v (.int .i64 r3), .ow 3 1 (r4.map eI), .v (.int .i64 r5), .v (.int .i64 r6), .ow 3 1 (r7.map eI), .v (.int .i64 r8)], .v (.bool r9)]) := by
  refine Ctr_of tyOk hm Tryz.func28 rfl rfl (by kernel_rfl) (n := 52) (rv := [.cell 4 38, .tmp 5]) rfl rfl ?_
  simp only [W, List.replicate]
  unfold spec_Guide.f at h
  replace h := bnd h; obtain ⟨⟨t1_1, t1_2, t1_3, t1_4, t1_5, t1_6, t1_7, t1_8⟩, A, h⟩ := h
  dsimp only at h
  try simp only [W, p1, p2, p3, p4, p5, p6, p7, p8, p9, p10, p11, p12]
  refine callR (spec_l38Copy.ctr A) ?_
  replace h := bnd h; obtain ⟨t2, A, h⟩ := h
  try simp only [W, p1, p2, p3, p4, p5, p6, p7, p8, p9, p10, p11, p12]
  refine callR (spec_GardenOk.ctr A) ?_
  replace h := ifT h; rcases h with ⟨rfl, h⟩ | ⟨rfl, h⟩
  · replace h := bnd h; obtain ⟨t4, A, h⟩ := h
    try simp only [W, p1, p2, p3, p4, p5, p6, p7, p8, p9, p10, p11, p12]
    refine callR (spec_l01In.ctr A) ?_
    rcases k with _ | m5; · cases h
    rw [spec_Guide.j0] at h
    replace h := ifT h; rcases h with ⟨c6, h⟩ | ⟨c6, h⟩
    · cases h
      try simp only [W, c6, p1, p2, p3, p4, p5, p6, p7, p8, p9, p10, p11, p12]
    · replace h := bnd h; obtain ⟨⟨t7_1, t7_2, t7_3⟩, A, h⟩ := h
      dsimp only at h
      try simp only [W, c6, p1, p2, p3, p4, p5, p6, p7, p8, p9, p10, p11, p12]
      refine callR (spec_OpenNow.ctr A) ?_
      replace h := ifN h; obtain ⟨c8, h⟩ := h
      replace h := ifN h; obtain ⟨c9, h⟩ := h
      replace h := bnd h; obtain ⟨⟨t10_1, t10_2⟩, A, h⟩ := h
      dsimp only at h
      try simp only [W, c6, c8, c9, p1, p2, p3, p4, p5, p6, p7, p8, p9, p10, p11, p12]
      refine callR (spec_WayBetween.ctr A) ?_
      replace h := ifT h; rcases h with ⟨rfl, h⟩ | ⟨rfl, h⟩
      · replace h := ifS h; rcases h with ⟨c12, h⟩ | ⟨c12, h⟩
        · cases h
          try simp only [W, c6, c8, c9, eq_true c12, p1, p2, p3, p4, p5, p6, p7, p8, p9, p10, p11, p12]
        · replace h := ifN h; obtain ⟨c13, h⟩ := h
          replace h := bnd h; obtain ⟨⟨t14_1, t14_2, t14_3, t14_4, t14_5, t14_6, t14_7, t14_8, t14_9⟩, A, h⟩ := h
          dsimp only at h
          try simp only [W, c6, c8, c9, c12, c13, p1, p2, p3, p4, p5, p6, p7, p8, p9, p10, p11, p12]
          refine callR (spec_WalkIn.ctr A) ?_
          cases h
          try simp only [W, c6, c8, c9, c12, c13, p1, p2, p3, p4, p5, p6, p7, p8, p9, p10, p11, p12]
      · cases h
        try simp only [W, c6, c8, c9, p1, p2, p3, p4, p5, p6, p7, p8, p9, p10, p11, p12]
  · rcases k with _ | m15; · cases h
    rw [spec_Guide.j0] at h
    rw [if_pos rfl] at h
    cases h
    try simp only [W, p1, p2, p3, p4, p5, p6, p7, p8, p9, p10, p11, p12]
end Go.Proofs.YtkindoepnganmaaGreat.F
end

section
namespace Go.Proofs.YtkindoepnganmaaGreat.F
open Go.RowKit Go.Proofs.YtkindoepnganmaaGreatW.PrintWords Go.Proofs.YtkindoepnganmaaGreatW.PrintLast Go.Proofs.YtkindoepnganmaaGreatW.PrintMore
set_option linter.unusedVariables false
set_option linter.unusedSimpArgs false
attribute [local go_sem] max2_int min2_int max_two min_two
set_option maxRecDepth 20000 in set_option maxHeartbeats 4000000 in open Nat renaming reduceAdd → p1, reduceSub → p2, reduceMul → p3, reduceDiv → p4, reduceBNe → p5, reduceBEq → p6, reduceEqDiff → p7, reduceLeDiff → p8, reduceLT → p9 in open Int renaming reduceLE → p10, reduceLT → p11, reduceEq → p12 in
theorem spec_Enter.ctr {k : Nat} {a0_0 : Int} {a0_1 : Int} {a0_2 : Int} {l0_3 : List Int} {a0_4 : Int} {a0_5 : Int} {l0_6 : List Int} {a0_7 : Int} {r1 : Int} {r2 : Int} {r3 : Int} {r4 : List Int} {r5 : Int} {r6 : Int} {r7 : List Int} {r8 : Int} {r9 : Bool} (h : spec_Enter.f k a0_0 a0_1 a0_2 l0_3 a0_4 a0_5 l0_6 a0_7 = some (r1, r2, r3, r4, r5, r6, r7, r8, r9)) : Ctr Tryz.prog 16 [.ag [.v (.int .i64 a0_0), .v (.int .i64 a0_1), .v (.int .i64 a0_2), .pr 1 (l0_3.map eI), .v (.int .i64 a0_4), .v (.int .i64 a0_5), .pr 1 (l0_6.map eI), .v (.int .i64 a0_7)]] (.tu [.ag [.v (.int .i64 r1), .v (.int .i64 r2), .v (.int .i64 r3), .ow 3 1 (r4.map eI), .v (.int .i64 r5), .v (.int .i64 r6), .ow 3 1 (r7.map eI), .v (.int .i64 r8)], .v (.bool r9)]) := by
  refine Ctr_of tyOk hm Tryz.func16 rfl rfl (by kernel_rfl) (n := 24) (rv := [.cell 2 38, .tmp 3]) rfl rfl ?_
  simp only [W, List.replicate]
  unfold spec_Enter.f at h
  replace h := bnd h; obtain ⟨⟨t1_1, t1_2, t1_3, t1_4, t1_5, t1_6, t1_7, t1_8⟩, A, h⟩ := h
  dsimp only at h
  try simp only [W, p1, p2, p3, p4, p5, p6, p7, p8, p9, p10, p11, p12]
  refine callR (spec_l38Copy.ctr A) ?_
  replace h := ifN h; obtain ⟨c2, h⟩ := h
  rw [Option.bind_some] at h
  replace h := bnd h; obtain ⟨t3, A, h⟩ := h
  try simp only [W, c2, p1, p2, p3, p4, p5, p6, p7, p8, p9, p10, p11, p12]
  refine callR (spec_GardenOk.ctr A) ?_
  replace h := ifT h; rcases h with ⟨rfl, h⟩ | ⟨rfl, h⟩
  · replace h := bnd h; obtain ⟨t5, A, h⟩ := h
    try simp only [W, c2, p1, p2, p3, p4, p5, p6, p7, p8, p9, p10, p11, p12]
    refine callR (spec_GardenOk.ctr A) ?_
    replace h := ifT h; rcases h with ⟨rfl, h⟩ | ⟨rfl, h⟩
    · cases h
      try simp only [W, c2, p1, p2, p3, p4, p5, p6, p7, p8, p9, p10, p11, p12]
    · replace h := bnd h; obtain ⟨⟨t7_1, t7_2, t7_3, t7_4, t7_5, t7_6, t7_7, t7_8⟩, A, h⟩ := h
      dsimp only at h
      try simp only [W, c2, p1, p2, p3, p4, p5, p6, p7, p8, p9, p10, p11, p12]
      refine callR (spec_l38Copy.ctr A) ?_
      cases h
      try simp only [W, c2, p1, p2, p3, p4, p5, p6, p7, p8, p9, p10, p11, p12]
  · replace h := bnd h; obtain ⟨⟨t8_1, t8_2, t8_3, t8_4, t8_5, t8_6, t8_7, t8_8⟩, A, h⟩ := h
    dsimp only at h
    try simp only [W, c2, p1, p2, p3, p4, p5, p6, p7, p8, p9, p10, p11, p12]
    refine callR (spec_l38Copy.ctr A) ?_
    cases h
    try simp only [W, c2, p1, p2, p3, p4, p5, p6, p7, p8, p9, p10, p11, p12]
end Go.Proofs.YtkindoepnganmaaGreat.F
end

section
namespace Go.Proofs.YtkindoepnganmaaGreat.F
open Go.RowKit Go.Proofs.YtkindoepnganmaaGreatW.PrintWords Go.Proofs.YtkindoepnganmaaGreatW.PrintLast Go.Proofs.YtkindoepnganmaaGreatW.PrintMore
set_option linter.unusedVariables false
set_option linter.unusedSimpArgs false
attribute [local go_sem] max2_int min2_int max_two min_two
set_option maxRecDepth 20000 in set_option maxHeartbeats 4000000 in open Nat renaming reduceAdd → p1, reduceSub → p2, reduceMul → p3, reduceDiv → p4, reduceBNe → p5, reduceBEq → p6, reduceEqDiff → p7, reduceLeDiff → p8, reduceLT → p9 in open Int renaming reduceLE → p10, reduceLT → p11, reduceEq → p12 in
theorem spec_GrowHedge.ctr {k : Nat} {a0_0 : Int} {a0_1 : Int} {a0_2 : Int} {l0_3 : List Int} {a0_4 : Int} {a1 : Int} {r1 : Int} {r2 : Int} {r3 : Int} {r4 : List Int} {r5 : Int} {r6 : Bool} (h : spec_GrowHedge.f k a0_0 a0_1 a0_2 l0_3 a0_4 a1 = some (r1, r2, r3, r4, r5, r6)) : Ctr Tryz.prog 74 [.ag [.v (.int .i64 a0_0), .v (.int .i64 a0_1), .v (.int .i64 a0_2), .pr 1 (l0_3.map eI), .v (.int .i64 a0_4)], .v (.int .i64 a1)] (.tu [.ag [.v (.int .i64 r1), .v (.int .i64 r2), .v (.int .i64 r3), .ow 3 1 (r4.map eI), .v (.int .i64 r5)], .v (.bool r6)]) := by
  refine Ctr_of tyOk hm Tryz.func74 rfl rfl (by kernel_rfl) (n := 37) (rv := [.cell 4 36, .tmp 5]) rfl rfl ?_
  simp only [W, List.replicate]
  unfold spec_GrowHedge.f at h
  replace h := bnd h; obtain ⟨⟨t1_1, t1_2, t1_3, t1_4, t1_5⟩, A, h⟩ := h
  dsimp only at h
  try simp only [W, p1, p2, p3, p4, p5, p6, p7, p8, p9, p10, p11, p12]
  refine callR (spec_l30Copy.ctr A) ?_
  replace h := bnd h; obtain ⟨t2, A, h⟩ := h
  try simp only [W, p1, p2, p3, p4, p5, p6, p7, p8, p9, p10, p11, p12]
  refine callR (spec_HedgeOk.ctr A) ?_
  replace h := ifT h; rcases h with ⟨rfl, h⟩ | ⟨rfl, h⟩
  · replace h := bnd h; obtain ⟨t4, A, h⟩ := h
    try simp only [W, p1, p2, p3, p4, p5, p6, p7, p8, p9, p10, p11, p12]
    refine callR (spec_l01In.ctr A) ?_
    rcases k with _ | m5; · cases h
    rw [spec_GrowHedge.j0] at h
    replace h := ifT h; rcases h with ⟨c6, h⟩ | ⟨c6, h⟩
    · cases h
      try simp only [W, c6, p1, p2, p3, p4, p5, p6, p7, p8, p9, p10, p11, p12]
    · try simp only [W, c6, p1, p2, p3, p4, p5, p6, p7, p8, p9, p10, p11, p12]
      refine loopN (fun x : Int × Int × Int × Int × Int × List Int × Int × Int × Int × Int × List Int × Int × Int × Int × Int × Int => [.u, .v (.int .i64 x.1), .bp 32 0, .u, .bp 64 0, .u, .bp 96 0, .v (.int .i64 x.2.1), .u, .u, .u, .u, .u, .u, .u, .u, .u, .u, .u, .u, .u, .u, .u, .u, .u, .u, .u, .u, .u, .u, .u, .u, .u, .u, .u, .u, .u, .u, .u]) (fun x => [(32, .box 36 [.v (.int .i64 x.2.2.2.2.2.2.2.1), .v (.int .i64 x.2.2.2.2.2.2.2.2.1), .v (.int .i64 x.2.2.2.2.2.2.2.2.2.1), .pr 1 (List.map eI x.2.2.2.2.2.2.2.2.2.2.1), .v (.int .i64 x.2.2.2.2.2.2.2.2.2.2.2.1)]), (64, .box 36 [.v (.int .i64 x.2.2.2.2.2.2.2.2.2.2.2.2.1), .v (.int .i64 x.2.2.2.2.2.2.2.2.2.2.2.2.2.1), .v (.int .i64 x.2.2.2.2.2.2.2.2.2.2.2.2.2.2.1), .v (Value.slice none 0 0), .v (.int .i64 x.2.2.2.2.2.2.2.2.2.2.2.2.2.2.2)]), (96, .box 36 [.v (.int .i64 x.2.2.1), .v (.int .i64 x.2.2.2.1), .v (.int .i64 x.2.2.2.2.1), .lo 144, .v (.int .i64 x.2.2.2.2.2.2.1)]), (144, .row 3 1 (List.map eI x.2.2.2.2.2.1))]) (fun n x => spec_GrowHedge.l0 n x.1 x.2.1 x.2.2.1 x.2.2.2.1 x.2.2.2.2.1 x.2.2.2.2.2.1 x.2.2.2.2.2.2.1 = some (r1, r2, r3, r4, r5, r6)) (a1, 0, t1_1, t1_2, t1_3, t1_4, t1_5, a0_0, a0_1, a0_2, (l0_3), a0_4, 0, 0, 0, 0) [] h (by simp only [W, p1, p2, p3, p4, p5, p6, p7, p8, p9, p10, p11, p12] <;> trivial) (by simp only [W, p1, p2, p3, p4, p5, p6, p7, p8, p9, p10, p11, p12] <;> trivial) rfl (fun _ h => by cases h) ?_
      intro n1 ⟨x7, x8, x9, x10, x11, x12, x13, y14, y15, y16, y17, y18, y19, y20, y21, y22⟩ _ h
      simp only [spec_GrowHedge.l0] at h
      replace h := ifS h; rcases h with ⟨c23, h⟩ | ⟨c23, h⟩
      · replace h := ifN h; obtain ⟨c24, h⟩ := h
        try simp only [W, c23, c24, p1, p2, p3, p4, p5, p6, p7, p8, p9, p10, p11, p12]
        exact nextN (x7, (wrap64 (x8 + 1)), x9, x10, x11, (x12.set (x8 : Int).toNat (mn 1000 (wrap64 ((rd x12 x8) + x7)))), x13, y14, y15, y16, (y17), y18, y19, y20, y21, y22) [] n1 (by omega) h (by simp only [W, p1, p2, p3, p4, p5, p6, p7, p8, p9, p10, p11, p12] <;> trivial) (by simp only [W, p1, p2, p3, p4, p5, p6, p7, p8, p9, p10, p11, p12] <;> trivial) rfl
      · cases h
        try simp only [W, c23, p1, p2, p3, p4, p5, p6, p7, p8, p9, p10, p11, p12]
  · rcases k with _ | m25; · cases h
    rw [spec_GrowHedge.j0] at h
    rw [if_pos rfl] at h
    cases h
    try simp only [W, p1, p2, p3, p4, p5, p6, p7, p8, p9, p10, p11, p12]
end Go.Proofs.YtkindoepnganmaaGreat.F
end

section
namespace Go.Proofs.YtkindoepnganmaaGreat.F
open Go.RowKit Go.Proofs.YtkindoepnganmaaGreatW.PrintWords Go.Proofs.YtkindoepnganmaaGreatW.PrintLast Go.Proofs.YtkindoepnganmaaGreatW.PrintMore
set_option linter.unusedVariables false
set_option linter.unusedSimpArgs false
attribute [local go_sem] max2_int min2_int max_two min_two
set_option maxRecDepth 20000
set_option maxHeartbeats 4000000
open Nat renaming reduceAdd → p1, reduceSub → p2, reduceMul → p3, reduceDiv → p4, reduceBNe → p5, reduceBEq → p6, reduceEqDiff → p7, reduceLeDiff → p8, reduceLT → p9
open Int renaming reduceLE → p10, reduceLT → p11, reduceEq → p12
theorem spec_CutHedge.ctr {k : Nat} {a0_0 : Int} {a0_1 : Int} {a0_2 : Int} {l0_3 : List Int} {a0_4 : Int} {a1 : Int} {r1 : Int} {r2 : Int} {r3 : Int} {r4 : List Int} {r5 : Int} {r6 : Bool} (h : spec_CutHedge.f k a0_0 a0_1 a0_2 l0_3 a0_4 a1 = some (r1, r2, r3, r4, r5, r6)) : Ctr Tryz.prog 76 [.ag [.v (.int .i64 a0_0), .v (.int .i64 a0_1), .v (.int .i64 a0_2), .pr 1 (l0_3.map eI), .v (.int .i64 a0_4)], .v (.int .i64 a1)] (.tu [.ag [.v (.int .i64 r1), .v (.int .i64 r2), .v (.int .i64 r3), .ow 3 1 (r4.map eI), .v (.int .i64 r5)], .v (.bool r6)]) := by
  refine Ctr_of tyOk hm Tryz.func76 rfl rfl (by kernel_rfl) (n := 25) (rv := [.cell 4 36, .tmp 5]) rfl rfl ?_
  simp only [W, List.replicate]
  unfold spec_CutHedge.f at h
  replace h := bnd h; obtain ⟨⟨t1_1, t1_2, t1_3, t1_4, t1_5⟩, A, h⟩ := h
  dsimp only at h
  try simp only [W, p1, p2, p3, p4, p5, p6, p7, p8, p9, p10, p11, p12]
  refine callR (spec_l30Copy.ctr A) ?_
  replace h := bnd h; obtain ⟨t2, A, h⟩ := h
  try simp only [W, p1, p2, p3, p4, p5, p6, p7, p8, p9, p10, p11, p12]
  refine callR (spec_HedgeOk.ctr A) ?_
  replace h := ifT h; rcases h with ⟨rfl, h⟩ | ⟨rfl, h⟩
  · replace h := bnd h; obtain ⟨t4, A, h⟩ := h
    try simp only [W, p1, p2, p3, p4, p5, p6, p7, p8, p9, p10, p11, p12]
    refine callR (spec_l01In.ctr A) ?_
    replace h := ifT h; rcases h with ⟨rfl, h⟩ | ⟨rfl, h⟩
    · replace h := ifN h; obtain ⟨c6, h⟩ := h
      replace h := ifN h; obtain ⟨c7, h⟩ := h
      cases h
      try simp only [W, c6, c7, p1, p2, p3, p4, p5, p6, p7, p8, p9, p10, p11, p12]
    · cases h
      try simp only [W, p1, p2, p3, p4, p5, p6, p7, p8, p9, p10, p11, p12]
  · cases h
    try simp only [W, p1, p2, p3, p4, p5, p6, p7, p8, p9, p10, p11, p12]
theorem spec_NextToCut.ctr {k : Nat} {a0_0 : Int} {a0_1 : Int} {a0_2 : Int} {l0_3 : List Int} {a0_4 : Int} {r : Int} (h : spec_NextToCut.f k a0_0 a0_1 a0_2 l0_3 a0_4 = some r) : Ctr Tryz.prog 77 [.ag [.v (.int .i64 a0_0), .v (.int .i64 a0_1), .v (.int .i64 a0_2), .pr 1 (l0_3.map eI), .v (.int .i64 a0_4)]] (.v (.int .i64 r)) := by
  refine Ctr_of tyOk hm Tryz.func77 rfl rfl (by kernel_rfl) (n := 39) (rv := [.tmp 2]) rfl rfl ?_
  simp only [W, List.replicate]
  unfold spec_NextToCut.f at h
  try simp only [W, p1, p2, p3, p4, p5, p6, p7, p8, p9, p10, p11, p12]
  refine loopN (fun x : Int × Int × Int × Int × Int × List Int × Int => [.u, .bp 16 0, .u, .v (.int .i64 x.1), .v (.int .i64 x.2.1), .u, .u, .u, .u, .u, .u, .u, .u, .u, .u, .u, .u, .u, .u, .u, .u, .u, .u, .u, .u, .u, .u, .u, .u, .u, .u, .u, .u, .u, .u, .u, .u, .u, .u, .u]) (fun x => [(16, .box 36 [.v (.int .i64 x.2.2.1), .v (.int .i64 x.2.2.2.1), .v (.int .i64 x.2.2.2.2.1), .pr 1 (List.map eI x.2.2.2.2.2.1), .v (.int .i64 x.2.2.2.2.2.2)])]) (fun n x => spec_NextToCut.l0 n x.1 x.2.1 x.2.2.1 x.2.2.2.1 x.2.2.2.2.1 x.2.2.2.2.2.1 x.2.2.2.2.2.2 = some r) ((-1), 0, a0_0, a0_1, a0_2, l0_3, a0_4) [] h (by simp only [W, p1, p2, p3, p4, p5, p6, p7, p8, p9, p10, p11, p12] <;> trivial) (by simp only [W, p1, p2, p3, p4, p5, p6, p7, p8, p9, p10, p11, p12] <;> trivial) rfl (fun _ h => by cases h) ?_
  intro n1 ⟨x1, x2, x3, x4, x5, x6, x7⟩ _ h
  simp only [spec_NextToCut.l0] at h
  replace h := ifS h; rcases h with ⟨c8, h⟩ | ⟨c8, h⟩
  · replace h := bnd h; obtain ⟨t9, A, h⟩ := h
    try simp only [W, c8, p1, p2, p3, p4, p5, p6, p7, p8, p9, p10, p11, p12]
    refine callR (spec_HedgeOk.ctr A) ?_
    rcases n1 with _ | m10; · cases h
    rw [spec_NextToCut.j1] at h
    replace h := ifT h; rcases h with ⟨rfl, h⟩ | ⟨rfl, h⟩
    · replace h := bnd h; obtain ⟨t12, A, h⟩ := h
      try simp only [W, c8, p1, p2, p3, p4, p5, p6, p7, p8, p9, p10, p11, p12]
      refine callR (spec_l03Bit.ctr A) ?_
      replace h := ifT h; rcases h with ⟨rfl, h⟩ | ⟨rfl, h⟩
      · replace h := ifS h; rcases h with ⟨c14, h⟩ | ⟨c14, h⟩
        · try simp only [W, c8, c14, p1, p2, p3, p4, p5, p6, p7, p8, p9, p10, p11, p12]
          exact nextN (x2, (wrap64 (x2 + 1)), x3, x4, x5, x6, x7) [] m10 (by omega) h (by simp only [W, p1, p2, p3, p4, p5, p6, p7, p8, p9, p10, p11, p12] <;> trivial) (by simp only [W, p1, p2, p3, p4, p5, p6, p7, p8, p9, p10, p11, p12] <;> trivial) rfl
        · replace h := ifN h; obtain ⟨c15, h⟩ := h
          replace h := ifN h; obtain ⟨c16, h⟩ := h
          replace h := ifN h; obtain ⟨c17, h⟩ := h
          replace h := ifN h; obtain ⟨c18, h⟩ := h
          replace h := ifS h; rcases h with ⟨c19, h⟩ | ⟨c19, h⟩
          · try simp only [W, c8, c14, c15, c16, c17, c18, c19, p1, p2, p3, p4, p5, p6, p7, p8, p9, p10, p11, p12]
            exact nextN (x2, (wrap64 (x2 + 1)), x3, x4, x5, x6, x7) [] m10 (by omega) h (by simp only [W, p1, p2, p3, p4, p5, p6, p7, p8, p9, p10, p11, p12] <;> trivial) (by simp only [W, p1, p2, p3, p4, p5, p6, p7, p8, p9, p10, p11, p12] <;> trivial) rfl
          · try simp only [W, c8, c14, c15, c16, c17, c18, c19, p1, p2, p3, p4, p5, p6, p7, p8, p9, p10, p11, p12]
            exact nextN (x1, (wrap64 (x2 + 1)), x3, x4, x5, x6, x7) [] m10 (by omega) h (by simp only [W, p1, p2, p3, p4, p5, p6, p7, p8, p9, p10, p11, p12] <;> trivial) (by simp only [W, p1, p2, p3, p4, p5, p6, p7, p8, p9, p10, p11, p12] <;> trivial) rfl
      · try simp only [W, c8, p1, p2, p3, p4, p5, p6, p7, p8, p9, p10, p11, p12]
        exact nextN (x1, (wrap64 (x2 + 1)), x3, x4, x5, x6, x7) [] m10 (by omega) h (by simp only [W, p1, p2, p3, p4, p5, p6, p7, p8, p9, p10, p11, p12] <;> trivial) (by simp only [W, p1, p2, p3, p4, p5, p6, p7, p8, p9, p10, p11, p12] <;> trivial) rfl
    · cases h
      try simp only [W, c8, p1, p2, p3, p4, p5, p6, p7, p8, p9, p10, p11, p12]
  · rcases n1 with _ | m20; · cases h
    rw [spec_NextToCut.j1] at h
    rw [if_neg (by decide)] at h
    cases h
    try simp only [W, c8, p1, p2, p3, p4, p5, p6, p7, p8, p9, p10, p11, p12]
end Go.Proofs.YtkindoepnganmaaGreat.F
end

section
namespace Go.Proofs.YtkindoepnganmaaGreat.F
open Go.RowKit Go.Proofs.YtkindoepnganmaaGreatW.PrintWords Go.Proofs.YtkindoepnganmaaGreatW.PrintLast Go.Proofs.YtkindoepnganmaaGreatW.PrintMore
set_option linter.unusedVariables false
set_option linter.unusedSimpArgs false
attribute [local go_sem] max2_int min2_int max_two min_two
set_option maxRecDepth 20000 in set_option maxHeartbeats 4000000 in open Nat renaming reduceAdd → p1, reduceSub → p2, reduceMul → p3, reduceDiv → p4, reduceBNe → p5, reduceBEq → p6, reduceEqDiff → p7, reduceLeDiff → p8, reduceLT → p9 in open Int renaming reduceLE → p10, reduceLT → p11, reduceEq → p12 in
theorem spec_NextDay.ctr {k : Nat} {a0_0 : Int} {a0_1 : Int} {a0_2 : Int} {l0_3 : List Int} {a0_4 : Int} {a0_5 : Int} {l0_6 : List Int} {a0_7 : Int} {a1 : Int} {r1 : Int} {r2 : Int} {r3 : Int} {r4 : List Int} {r5 : Int} {r6 : Int} {r7 : List Int} {r8 : Int} {r9 : Bool} (h : spec_NextDay.f k a0_0 a0_1 a0_2 l0_3 a0_4 a0_5 l0_6 a0_7 a1 = some (r1, r2, r3, r4, r5, r6, r7, r8, r9)) : Ctr Tryz.prog 26 [.ag [.v (.int .i64 a0_0), .v (.int .i64 a0_1), .v (.int .i64 a0_2), .pr 1 (l0_3.map eI), .v (.int .i64 a0_4), .v (.int .i64 a0_5), .pr 1 (l0_6.map eI), .v (.int .i64 a0_7)], .v (.int .i64 a1)] (.tu [.ag [.v (.int .i64 r1), .v (.int .i64 r2), .v (.int .i64 r3), .ow 3 1 (r4.map eI), .v (.int .i64 r5), .v (.int .i64 r6), .ow 3 1 (r7.map eI), .v (.int .i64 r8)], .v (.bool r9)]) := by
  refine Ctr_of tyOk hm Tryz.func26 rfl rfl (by kernel_rfl) (n := 49) (rv := [.cell 4 38, .tmp 5]) rfl rfl ?_
  simp only [W, List.replicate]
  unfold spec_NextDay.f at h
  replace h := bnd h; obtain ⟨⟨t1_1, t1_2, t1_3, t1_4, t1_5, t1_6, t1_7, t1_8⟩, A, h⟩ := h
  dsimp only at h
  try simp only [W, p1, p2, p3, p4, p5, p6, p7, p8, p9, p10, p11, p12]
  refine callR (spec_l38Copy.ctr A) ?_
  replace h := bnd h; obtain ⟨t2, A, h⟩ := h
  try simp only [W, p1, p2, p3, p4, p5, p6, p7, p8, p9, p10, p11, p12]
  refine callR (spec_GardenOk.ctr A) ?_
  replace h := ifT h; rcases h with ⟨rfl, h⟩ | ⟨rfl, h⟩
  · replace h := bnd h; obtain ⟨t4, A, h⟩ := h
    try simp only [W, p1, p2, p3, p4, p5, p6, p7, p8, p9, p10, p11, p12]
    refine callR (spec_l01In.ctr A) ?_
    replace h := ifT h; rcases h with ⟨rfl, h⟩ | ⟨rfl, h⟩
    · rcases k with _ | m6; · cases h
      rw [spec_NextDay.j0] at h
      replace h := ifT h; rcases h with ⟨c7, h⟩ | ⟨c7, h⟩
      · cases h
        try simp only [W, c7, p1, p2, p3, p4, p5, p6, p7, p8, p9, p10, p11, p12]
      · replace h := bnd h; obtain ⟨⟨t8_1, t8_2, t8_3, t8_4, t8_5, t8_6⟩, A, h⟩ := h
        dsimp only at h
        try simp only [W, c7, p1, p2, p3, p4, p5, p6, p7, p8, p9, p10, p11, p12]
        refine callR (spec_GrowHedge.ctr A) ?_
        try simp only [W, c7, p1, p2, p3, p4, p5, p6, p7, p8, p9, p10, p11, p12]
        refine loopN (fun x : Int × Int × Int × List Int × Int × Int × List Int × Int × Int × Int × Int × List Int × Int × Int × List Int × Int × Int × Int × Int × Int × Int × Int => [.u, .u, .bp 32 0, .u, .bp 64 0, .u, .bp 96 0, .u, .u, .u, .u, .u, .u, .u, .u, .u, .u, .u, .bp 32 7, .u, .u, .u, .u, .u, .bp 32 0, .u, .u, .u, .u, .u, .bp 96 0, .u, .u, .u, .u, .u, .u, .u, .u, .u, .u, .u, .u, .u, .u, .u, .u, .u, .u, .u, .u]) (fun x => [(32, .box 38 [.v (.int .i64 x.1), .v (.int .i64 x.2.1), .v (.int .i64 x.2.2.1), .pr 1 (List.map eI x.2.2.2.1), .v (.int .i64 x.2.2.2.2.1), .v (.int .i64 x.2.2.2.2.2.1), .pr 1 (List.map eI x.2.2.2.2.2.2.1), .v (.int .i64 x.2.2.2.2.2.2.2.1)]), (64, .box 38 [.v (.int .i64 x.2.2.2.2.2.2.2.2.2.2.2.2.2.2.2.2.1), .v (.int .i64 x.2.2.2.2.2.2.2.2.2.2.2.2.2.2.2.2.2.1), .v (.int .i64 x.2.2.2.2.2.2.2.2.2.2.2.2.2.2.2.2.2.2.1), .v (Value.slice none 0 0), .v (.int .i64 x.2.2.2.2.2.2.2.2.2.2.2.2.2.2.2.2.2.2.2.1), .v (.int .i64 x.2.2.2.2.2.2.2.2.2.2.2.2.2.2.2.2.2.2.2.2.1), .v (Value.slice none 0 0), .v (.int .i64 x.2.2.2.2.2.2.2.2.2.2.2.2.2.2.2.2.2.2.2.2.2)]), (96, .box 38 [.v (.int .i64 x.2.2.2.2.2.2.2.2.1), .v (.int .i64 x.2.2.2.2.2.2.2.2.2.1), .v (.int .i64 x.2.2.2.2.2.2.2.2.2.2.1), .lo 432, .v (.int .i64 x.2.2.2.2.2.2.2.2.2.2.2.2.1), .v (.int .i64 x.2.2.2.2.2.2.2.2.2.2.2.2.2.1), .lo 129, .v (.int .i64 x.2.2.2.2.2.2.2.2.2.2.2.2.2.2.2.1)]), (129, .row 3 1 (List.map eI x.2.2.2.2.2.2.2.2.2.2.2.2.2.2.1)), (432, .row 3 1 (List.map eI x.2.2.2.2.2.2.2.2.2.2.2.1))]) (fun n x => spec_NextDay.l0 n x.1 x.2.1 x.2.2.1 x.2.2.2.1 x.2.2.2.2.1 x.2.2.2.2.2.1 x.2.2.2.2.2.2.1 x.2.2.2.2.2.2.2.1 x.2.2.2.2.2.2.2.2.1 x.2.2.2.2.2.2.2.2.2.1 x.2.2.2.2.2.2.2.2.2.2.1 x.2.2.2.2.2.2.2.2.2.2.2.1 x.2.2.2.2.2.2.2.2.2.2.2.2.1 x.2.2.2.2.2.2.2.2.2.2.2.2.2.1 x.2.2.2.2.2.2.2.2.2.2.2.2.2.2.1 x.2.2.2.2.2.2.2.2.2.2.2.2.2.2.2.1 = some (r1, r2, r3, r4, r5, r6, r7, r8, r9)) (a0_0, a0_1, a0_2, l0_3, a0_4, a0_5, l0_6, a0_7, t8_1, t8_2, t8_3, t8_4, t8_5, t1_6, t1_7, t1_8, 0, 0, 0, 0, 0, 0) [] h (by simp only [W, p1, p2, p3, p4, p5, p6, p7, p8, p9, p10, p11, p12] <;> trivial) (by simp only [W, p1, p2, p3, p4, p5, p6, p7, p8, p9, p10, p11, p12] <;> trivial) rfl (fun _ h => by cases h) ?_
        intro n1 ⟨x9, x10, x11, x12, x13, x14, x15, x16, x17, x18, x19, x20, x21, x22, x23, x24, y25, y26, y27, y28, y29, y30⟩ _ h
        simp only [spec_NextDay.l0] at h
        replace h := bnd h; obtain ⟨⟨t31_1, t31_2, t31_3⟩, A, h⟩ := h
        dsimp only at h
        try simp only [W, p1, p2, p3, p4, p5, p6, p7, p8, p9, p10, p11, p12]
        refine callR (spec_OpenNow.ctr A) ?_
        replace h := bnd h; obtain ⟨t32, A, h⟩ := h
        try simp only [W, p1, p2, p3, p4, p5, p6, p7, p8, p9, p10, p11, p12]
        refine callR (spec_IsConnected.ctr A) ?_
        replace h := ifT h; rcases h with ⟨rfl, h⟩ | ⟨rfl, h⟩
        · cases h
          try simp only [W, p1, p2, p3, p4, p5, p6, p7, p8, p9, p10, p11, p12]
        · replace h := bnd h; obtain ⟨t34, A, h⟩ := h
          try simp only [W, p1, p2, p3, p4, p5, p6, p7, p8, p9, p10, p11, p12]
          refine callR (spec_NextToCut.ctr A) ?_
          replace h := bnd h; obtain ⟨⟨t35_1, t35_2, t35_3, t35_4, t35_5, t35_6⟩, A, h⟩ := h
          dsimp only at h
          try simp only [W, p1, p2, p3, p4, p5, p6, p7, p8, p9, p10, p11, p12]
          refine callR (spec_CutHedge.ctr A) ?_
          try simp only [W, p1, p2, p3, p4, p5, p6, p7, p8, p9, p10, p11, p12]
          exact nextN (x9, x10, x11, x12, x13, x14, x15, x16, t35_1, t35_2, t35_3, t35_4, t35_5, x22, x23, x24, y25, y26, y27, y28, y29, y30) [(432, 672)] n1 (by omega) h (by simp only [W, p1, p2, p3, p4, p5, p6, p7, p8, p9, p10, p11, p12] <;> trivial) (by simp only [W, p1, p2, p3, p4, p5, p6, p7, p8, p9, p10, p11, p12] <;> trivial) rfl
    · rcases k with _ | m36; · cases h
      rw [spec_NextDay.j0] at h
      rw [if_pos rfl] at h
      cases h
      try simp only [W, p1, p2, p3, p4, p5, p6, p7, p8, p9, p10, p11, p12]
  · rcases k with _ | m38; · cases h
    rw [spec_NextDay.j0] at h
    rw [if_pos rfl] at h
    cases h
    try simp only [W, p1, p2, p3, p4, p5, p6, p7, p8, p9, p10, p11, p12]
end Go.Proofs.YtkindoepnganmaaGreat.F
end

section
namespace Go.Proofs.YtkindoepnganmaaGreat.F
open Go.RowKit Go.Proofs.YtkindoepnganmaaGreatW.PrintWords Go.Proofs.YtkindoepnganmaaGreatW.PrintLast Go.Proofs.YtkindoepnganmaaGreatW.PrintMore
set_option linter.unusedVariables false
set_option linter.unusedSimpArgs false
attribute [local go_sem] max2_int min2_int max_two min_two
set_option maxRecDepth 20000 in set_option maxHeartbeats 4000000 in open Nat renaming reduceAdd → p1, reduceSub → p2, reduceMul → p3, reduceDiv → p4, reduceBNe → p5, reduceBEq → p6, reduceEqDiff → p7, reduceLeDiff → p8, reduceLT → p9 in open Int renaming reduceLE → p10, reduceLT → p11, reduceEq → p12 in
theorem spec_DoAct.ctr {k : Nat} {a0_0 : Int} {a0_1 : Int} {a0_2 : Int} {l0_3 : List Int} {a0_4 : Int} {a0_5 : Int} {l0_6 : List Int} {a0_7 : Int} {a1_0 : Int} {a1_1 : Int} {a1_2 : Int} {r1 : Int} {r2 : Int} {r3 : Int} {r4 : List Int} {r5 : Int} {r6 : Int} {r7 : List Int} {r8 : Int} {r9 : Int} (h : spec_DoAct.f k a0_0 a0_1 a0_2 l0_3 a0_4 a0_5 l0_6 a0_7 a1_0 a1_1 a1_2 = some (r1, r2, r3, r4, r5, r6, r7, r8, r9)) : Ctr Tryz.prog 30 [.ag [.v (.int .i64 a0_0), .v (.int .i64 a0_1), .v (.int .i64 a0_2), .pr 1 (l0_3.map eI), .v (.int .i64 a0_4), .v (.int .i64 a0_5), .pr 1 (l0_6.map eI), .v (.int .i64 a0_7)], .ag [.v (.int .i64 a1_0), .v (.int .i64 a1_1), .v (.int .i64 a1_2)]] (.tu [.ag [.v (.int .i64 r1), .v (.int .i64 r2), .v (.int .i64 r3), .ow 3 1 (r4.map eI), .v (.int .i64 r5), .v (.int .i64 r6), .ow 3 1 (r7.map eI), .v (.int .i64 r8)], .v (.int .i64 r9)]) := by
  refine Ctr_of tyOk hm Tryz.func30 rfl rfl (by kernel_rfl) (n := 70) (rv := [.cell 4 38, .tmp 5]) rfl rfl ?_
  simp only [W, List.replicate]
  unfold spec_DoAct.f at h
  replace h := bnd h; obtain ⟨⟨t1_1, t1_2, t1_3, t1_4, t1_5, t1_6, t1_7, t1_8⟩, A, h⟩ := h
  dsimp only at h
  try simp only [W, p1, p2, p3, p4, p5, p6, p7, p8, p9, p10, p11, p12]
  refine callR (spec_l38Copy.ctr A) ?_
  replace h := bnd h; obtain ⟨t2, A, h⟩ := h
  try simp only [W, p1, p2, p3, p4, p5, p6, p7, p8, p9, p10, p11, p12]
  refine callR (spec_GardenOk.ctr A) ?_
  replace h := ifT h; rcases h with ⟨rfl, h⟩ | ⟨rfl, h⟩
  · replace h := bnd h; obtain ⟨t4, A, h⟩ := h
    try simp only [W, p1, p2, p3, p4, p5, p6, p7, p8, p9, p10, p11, p12]
    refine callR (spec_ActOk.ctr A) ?_
    rcases k with _ | m5; · cases h
    rw [spec_DoAct.j0] at h
    replace h := ifT h; rcases h with ⟨c6, h⟩ | ⟨c6, h⟩
    · cases h
      try simp only [W, c6, p1, p2, p3, p4, p5, p6, p7, p8, p9, p10, p11, p12]
    · replace h := ifS h; rcases h with ⟨c7, h⟩ | ⟨c7, h⟩
      · replace h := bnd h; obtain ⟨⟨t8_1, t8_2, t8_3, t8_4, t8_5, t8_6, t8_7, t8_8, t8_9⟩, A, h⟩ := h
        dsimp only at h
        try simp only [W, c6, eq_true c7, p1, p2, p3, p4, p5, p6, p7, p8, p9, p10, p11, p12]
        refine callR (spec_NextDay.ctr A) ?_
        replace h := bnd h; obtain ⟨t9, A, h⟩ := h
        try simp only [W, c6, eq_true c7, p1, p2, p3, p4, p5, p6, p7, p8, p9, p10, p11, p12]
        refine callR (spec_l39Bool.ctr A) ?_
        cases h
        try simp only [W, c6, eq_true c7, p1, p2, p3, p4, p5, p6, p7, p8, p9, p10, p11, p12]
      · replace h := ifS h; rcases h with ⟨c10, h⟩ | ⟨c10, h⟩
        · replace h := bnd h; obtain ⟨⟨t11_1, t11_2, t11_3, t11_4, t11_5, t11_6, t11_7, t11_8, t11_9⟩, A, h⟩ := h
          dsimp only at h
          try simp only [W, c6, c7, eq_true c10, p1, p2, p3, p4, p5, p6, p7, p8, p9, p10, p11, p12]
          refine callR (spec_Enter.ctr A) ?_
          replace h := bnd h; obtain ⟨t12, A, h⟩ := h
          try simp only [W, c6, c7, eq_true c10, p1, p2, p3, p4, p5, p6, p7, p8, p9, p10, p11, p12]
          refine callR (spec_l39Bool.ctr A) ?_
          cases h
          try simp only [W, c6, c7, eq_true c10, p1, p2, p3, p4, p5, p6, p7, p8, p9, p10, p11, p12]
        · replace h := ifS h; rcases h with ⟨c13, h⟩ | ⟨c13, h⟩
          · replace h := bnd h; obtain ⟨⟨t14_1, t14_2, t14_3, t14_4, t14_5, t14_6, t14_7, t14_8, t14_9⟩, A, h⟩ := h
            dsimp only at h
            try simp only [W, c6, c7, c10, eq_true c13, p1, p2, p3, p4, p5, p6, p7, p8, p9, p10, p11, p12]
            refine callR (spec_WalkIn.ctr A) ?_
            replace h := bnd h; obtain ⟨t15, A, h⟩ := h
            try simp only [W, c6, c7, c10, eq_true c13, p1, p2, p3, p4, p5, p6, p7, p8, p9, p10, p11, p12]
            refine callR (spec_l39Bool.ctr A) ?_
            cases h
            try simp only [W, c6, c7, c10, eq_true c13, p1, p2, p3, p4, p5, p6, p7, p8, p9, p10, p11, p12]
          · replace h := ifS h; rcases h with ⟨c16, h⟩ | ⟨c16, h⟩
            · replace h := bnd h; obtain ⟨⟨t17_1, t17_2, t17_3, t17_4, t17_5, t17_6, t17_7, t17_8, t17_9⟩, A, h⟩ := h
              dsimp only at h
              try simp only [W, c6, c7, c10, c13, eq_true c16, p1, p2, p3, p4, p5, p6, p7, p8, p9, p10, p11, p12]
              refine callR (spec_Leave.ctr A) ?_
              replace h := bnd h; obtain ⟨t18, A, h⟩ := h
              try simp only [W, c6, c7, c10, c13, eq_true c16, p1, p2, p3, p4, p5, p6, p7, p8, p9, p10, p11, p12]
              refine callR (spec_l39Bool.ctr A) ?_
              cases h
              try simp only [W, c6, c7, c10, c13, eq_true c16, p1, p2, p3, p4, p5, p6, p7, p8, p9, p10, p11, p12]
            · replace h := ifS h; rcases h with ⟨c19, h⟩ | ⟨c19, h⟩
              · replace h := bnd h; obtain ⟨⟨t20_1, t20_2, t20_3, t20_4, t20_5, t20_6, t20_7, t20_8, t20_9⟩, A, h⟩ := h
                dsimp only at h
                try simp only [W, c6, c7, c10, c13, c16, eq_true c19, p1, p2, p3, p4, p5, p6, p7, p8, p9, p10, p11, p12]
                refine callR (spec_Guide.ctr A) ?_
                replace h := bnd h; obtain ⟨t21, A, h⟩ := h
                try simp only [W, c6, c7, c10, c13, c16, eq_true c19, p1, p2, p3, p4, p5, p6, p7, p8, p9, p10, p11, p12]
                refine callR (spec_l39Bool.ctr A) ?_
                cases h
                try simp only [W, c6, c7, c10, c13, c16, eq_true c19, p1, p2, p3, p4, p5, p6, p7, p8, p9, p10, p11, p12]
              · replace h := ifS h; rcases h with ⟨c22, h⟩ | ⟨c22, h⟩
                · replace h := bnd h; obtain ⟨t23, A, h⟩ := h
                  try simp only [W, c6, c7, c10, c13, c16, c19, eq_true c22, p1, p2, p3, p4, p5, p6, p7, p8, p9, p10, p11, p12]
                  refine callR (spec_l39Far.ctr A) ?_
                  cases h
                  try simp only [W, c6, c7, c10, c13, c16, c19, eq_true c22, p1, p2, p3, p4, p5, p6, p7, p8, p9, p10, p11, p12]
                · replace h := bnd h; obtain ⟨t24, A, h⟩ := h
                  try simp only [W, c6, c7, c10, c13, c16, c19, c22, p1, p2, p3, p4, p5, p6, p7, p8, p9, p10, p11, p12]
                  refine callR (spec_l39Bool.ctr A) ?_
                  cases h
                  try simp only [W, c6, c7, c10, c13, c16, c19, c22, p1, p2, p3, p4, p5, p6, p7, p8, p9, p10, p11, p12]
  · rcases k with _ | m25; · cases h
    rw [spec_DoAct.j0] at h
    rw [if_pos rfl] at h
    cases h
    try simp only [W, p1, p2, p3, p4, p5, p6, p7, p8, p9, p10, p11, p12]
end Go.Proofs.YtkindoepnganmaaGreat.F
end

section
namespace Go.Proofs.YtkindoepnganmaaGreat.F
open Go.RowKit Go.Proofs.YtkindoepnganmaaGreatW.PrintWords Go.Proofs.YtkindoepnganmaaGreatW.PrintLast Go.Proofs.YtkindoepnganmaaGreatW.PrintMore
set_option linter.unusedVariables false
set_option linter.unusedSimpArgs false
attribute [local go_sem] max2_int min2_int max_two min_two
set_option maxRecDepth 20000 in set_option maxHeartbeats 4000000 in open Nat renaming reduceAdd → p1, reduceSub → p2, reduceMul → p3, reduceDiv → p4, reduceBNe → p5, reduceBEq → p6, reduceEqDiff → p7, reduceLeDiff → p8, reduceLT → p9 in open Int renaming reduceLE → p10, reduceLT → p11, reduceEq → p12 in
theorem spec_RunActs.ctr {k : Nat} {a0_0 : Int} {a0_1 : Int} {a0_2 : Int} {l0_3 : List Int} {a0_4 : Int} {a0_5 : Int} {l0_6 : List Int} {a0_7 : Int} {l1 : List (SAct)} {r1 : Int} {r2 : Int} {r3 : Int} {r4 : List Int} {r5 : Int} {r6 : Int} {r7 : List Int} {r8 : Int} {r9 : List Int} (h : spec_RunActs.f k a0_0 a0_1 a0_2 l0_3 a0_4 a0_5 l0_6 a0_7 l1 = some (r1, r2, r3, r4, r5, r6, r7, r8, r9)) : Ctr Tryz.prog 34 [.ag [.v (.int .i64 a0_0), .v (.int .i64 a0_1), .v (.int .i64 a0_2), .pr 1 (l0_3.map eI), .v (.int .i64 a0_4), .v (.int .i64 a0_5), .pr 1 (l0_6.map eI), .v (.int .i64 a0_7)], .pr 3 (l1.map eAct)] (.tu [.ag [.v (.int .i64 r1), .v (.int .i64 r2), .v (.int .i64 r3), .ow 3 1 (r4.map eI), .v (.int .i64 r5), .v (.int .i64 r6), .ow 3 1 (r7.map eI), .v (.int .i64 r8)], .ow 3 1 (r9.map eI)]) := by
  refine Ctr_of tyOk hm Tryz.func34 rfl rfl (by kernel_rfl) (n := 44) (rv := [.cell 4 38, .tmp 5]) rfl rfl ?_
  simp only [W, List.replicate]
  unfold spec_RunActs.f at h
  replace h := bnd h; obtain ⟨⟨t1_1, t1_2, t1_3, t1_4, t1_5, t1_6, t1_7, t1_8⟩, A, h⟩ := h
  dsimp only at h
  try simp only [W, p1, p2, p3, p4, p5, p6, p7, p8, p9, p10, p11, p12]
  refine callR (spec_l38Copy.ctr A) ?_
  rw [Option.bind_some] at h
  replace h := bnd h; obtain ⟨t2, A, h⟩ := h
  try simp only [W, p1, p2, p3, p4, p5, p6, p7, p8, p9, p10, p11, p12]
  refine callR (spec_GardenOk.ctr A) ?_
  replace h := ifT h; rcases h with ⟨rfl, h⟩ | ⟨rfl, h⟩
  · rcases k with _ | m4; · cases h
    rw [spec_RunActs.j0] at h
    replace h := ifT h; rcases h with ⟨c5, h⟩ | ⟨c5, h⟩
    · cases h
      try simp only [W, c5, p1, p2, p3, p4, p5, p6, p7, p8, p9, p10, p11, p12]
    · try simp only [W, c5, p1, p2, p3, p4, p5, p6, p7, p8, p9, p10, p11, p12]
      refine loopN (fun x : List (SAct) × List Int × Int × Int × Int × Int × List Int × Int × Int × List Int × Int × Int × Int × Int × List Int × Int × Int × List Int × Int × Int × Int × Int × Int × Int × Int => [.u, .pr 3 (List.map eAct x.1), .bp 32 0, .u, .bp 64 0, .u, .bp 96 0, .lo 208, .v (.int .i64 x.2.2.1), .u, .u, .u, .u, .u, .u, .u, .u, .u, .u, .u, .u, .u, .u, .u, .u, .u, .u, .u, .u, .u, .u, .u, .u, .u, .u, .u, .u, .u, .u, .u, .u, .u, .u, .u, .u, .u]) (fun x => [(32, .box 38 [.v (.int .i64 x.2.2.2.2.2.2.2.2.2.2.2.1), .v (.int .i64 x.2.2.2.2.2.2.2.2.2.2.2.2.1), .v (.int .i64 x.2.2.2.2.2.2.2.2.2.2.2.2.2.1), .pr 1 (List.map eI x.2.2.2.2.2.2.2.2.2.2.2.2.2.2.1), .v (.int .i64 x.2.2.2.2.2.2.2.2.2.2.2.2.2.2.2.1), .v (.int .i64 x.2.2.2.2.2.2.2.2.2.2.2.2.2.2.2.2.1), .pr 1 (List.map eI x.2.2.2.2.2.2.2.2.2.2.2.2.2.2.2.2.2.1), .v (.int .i64 x.2.2.2.2.2.2.2.2.2.2.2.2.2.2.2.2.2.2.1)]), (64, .box 38 [.v (.int .i64 x.2.2.2.2.2.2.2.2.2.2.2.2.2.2.2.2.2.2.2.1), .v (.int .i64 x.2.2.2.2.2.2.2.2.2.2.2.2.2.2.2.2.2.2.2.2.1), .v (.int .i64 x.2.2.2.2.2.2.2.2.2.2.2.2.2.2.2.2.2.2.2.2.2.1), .v (Value.slice none 0 0), .v (.int .i64 x.2.2.2.2.2.2.2.2.2.2.2.2.2.2.2.2.2.2.2.2.2.2.1), .v (.int .i64 x.2.2.2.2.2.2.2.2.2.2.2.2.2.2.2.2.2.2.2.2.2.2.2.1), .v (Value.slice none 0 0), .v (.int .i64 x.2.2.2.2.2.2.2.2.2.2.2.2.2.2.2.2.2.2.2.2.2.2.2.2)]), (96, .box 38 [.v (.int .i64 x.2.2.2.1), .v (.int .i64 x.2.2.2.2.1), .v (.int .i64 x.2.2.2.2.2.1), .lo 192, .v (.int .i64 x.2.2.2.2.2.2.2.1), .v (.int .i64 x.2.2.2.2.2.2.2.2.1), .lo 193, .v (.int .i64 x.2.2.2.2.2.2.2.2.2.2.1)]), (192, .row 3 1 (List.map eI x.2.2.2.2.2.2.1)), (193, .row 3 1 (List.map eI x.2.2.2.2.2.2.2.2.2.1)), (208, .row 3 1 (List.map eI x.2.1))]) (fun n x => spec_RunActs.l0 n x.1 x.2.1 x.2.2.1 x.2.2.2.1 x.2.2.2.2.1 x.2.2.2.2.2.1 x.2.2.2.2.2.2.1 x.2.2.2.2.2.2.2.1 x.2.2.2.2.2.2.2.2.1 x.2.2.2.2.2.2.2.2.2.1 x.2.2.2.2.2.2.2.2.2.2.1 = some (r1, r2, r3, r4, r5, r6, r7, r8, r9)) (l1, (([] : List Int) : List Int), 0, t1_1, t1_2, t1_3, t1_4, t1_5, t1_6, t1_7, t1_8, a0_0, a0_1, a0_2, (l0_3), a0_4, a0_5, (l0_6), a0_7, 0, 0, 0, 0, 0, 0) [] h (by simp only [W, p1, p2, p3, p4, p5, p6, p7, p8, p9, p10, p11, p12] <;> trivial) (by simp only [W, p1, p2, p3, p4, p5, p6, p7, p8, p9, p10, p11, p12] <;> trivial) rfl (fun _ h => by cases h) ?_
      intro n1 ⟨x6, x7, x8, x9, x10, x11, x12, x13, x14, x15, x16, y17, y18, y19, y20, y21, y22, y23, y24, y25, y26, y27, y28, y29, y30⟩ _ h
      simp only [spec_RunActs.l0] at h
      replace h := ifS h; rcases h with ⟨c31, h⟩ | ⟨c31, h⟩
      · replace h := ifN h; obtain ⟨c32, h⟩ := h
        replace h := bnd h; obtain ⟨⟨t33_1, t33_2, t33_3, t33_4, t33_5, t33_6, t33_7, t33_8, t33_9⟩, A, h⟩ := h
        dsimp only at h
        try simp only [W, c31, c32, p1, p2, p3, p4, p5, p6, p7, p8, p9, p10, p11, p12]
        refine callR (spec_DoAct.ctr A) ?_
        replace h := ifN h; obtain ⟨c34, h⟩ := h
        try simp only [W, c31, c32, c34, p1, p2, p3, p4, p5, p6, p7, p8, p9, p10, p11, p12]
        exact nextN (x6, (x7 ++ [t33_9]), (wrap64 (x8 + 1)), t33_1, t33_2, t33_3, t33_4, t33_5, t33_6, t33_7, t33_8, y17, y18, y19, (y20), y21, y22, (y23), y24, y25, y26, y27, y28, y29, y30) [(192, 576), (193, 577), (208, 688)] n1 (by omega) h (by simp only [W, p1, p2, p3, p4, p5, p6, p7, p8, p9, p10, p11, p12] <;> trivial) (by simp only [W, p1, p2, p3, p4, p5, p6, p7, p8, p9, p10, p11, p12] <;> trivial) rfl
      · cases h
        try simp only [W, c31, p1, p2, p3, p4, p5, p6, p7, p8, p9, p10, p11, p12]
  · rcases k with _ | m35; · cases h
    rw [spec_RunActs.j0] at h
    rw [if_pos rfl] at h
    cases h
    try simp only [W, p1, p2, p3, p4, p5, p6, p7, p8, p9, p10, p11, p12]
end Go.Proofs.YtkindoepnganmaaGreat.F
end

section
namespace Go.Proofs.YtkindoepnganmaaGreat.F
open Go.RowKit Go.Proofs.YtkindoepnganmaaGreatW.PrintWords Go.Proofs.YtkindoepnganmaaGreatW.PrintLast Go.Proofs.YtkindoepnganmaaGreatW.PrintMore
set_option linter.unusedVariables false
set_option linter.unusedSimpArgs false
attribute [local go_sem] max2_int min2_int max_two min_two
set_option maxRecDepth 20000
set_option maxHeartbeats 4000000
open Nat renaming reduceAdd → p1, reduceSub → p2, reduceMul → p3, reduceDiv → p4, reduceBNe → p5, reduceBEq → p6, reduceEqDiff → p7, reduceLeDiff → p8, reduceLT → p9
open Int renaming reduceLE → p10, reduceLT → p11, reduceEq → p12
theorem spec_l39Ints.ctr {k : Nat} {l0 : List Int} {l1 : List Int} {r : Bool} (h : spec_l39Ints.f k l0 l1 = some r) : Ctr Tryz.prog 89 [.pr 1 (l0.map eI), .pr 1 (l1.map eI)] (.v (.bool r)) := by
  refine Ctr_of tyOk hm Tryz.func89 rfl rfl (by kernel_rfl) (n := 24) (rv := [.tmp 4]) rfl rfl ?_
  simp only [W, List.replicate]
  unfold spec_l39Ints.f at h
  replace h := ifS h; rcases h with ⟨c1, h⟩ | ⟨c1, h⟩
  · try simp only [W, eq_true c1, p1, p2, p3, p4, p5, p6, p7, p8, p9, p10, p11, p12]
    refine loopN (fun x : List Int × List Int × Int => [.pr 1 (List.map eI x.1), .pr 1 (List.map eI x.2.1), .u, .u, .u, .v (.int .i64 x.2.2), .u, .u, .u, .u, .u, .u, .u, .u, .u, .u, .u, .u, .u, .u, .u, .u, .u, .u, .u, .u]) (fun x => []) (fun n x => spec_l39Ints.l0 n x.1 x.2.1 x.2.2 = some r) (l0, l1, 0) [] h (by simp only [W, p1, p2, p3, p4, p5, p6, p7, p8, p9, p10, p11, p12] <;> trivial) (by simp only [W, p1, p2, p3, p4, p5, p6, p7, p8, p9, p10, p11, p12] <;> trivial) rfl (fun _ h => by cases h) ?_
    intro n1 ⟨x2, x3, x4⟩ _ h
    simp only [spec_l39Ints.l0] at h
    replace h := ifS h; rcases h with ⟨c5, h⟩ | ⟨c5, h⟩
    · replace h := ifN h; obtain ⟨c6, h⟩ := h
      replace h := ifN h; obtain ⟨c7, h⟩ := h
      replace h := ifS h; rcases h with ⟨c8, h⟩ | ⟨c8, h⟩
      · try simp only [W, c5, c6, c7, eq_true c8, p1, p2, p3, p4, p5, p6, p7, p8, p9, p10, p11, p12]
        exact nextN (x2, x3, (wrap64 (x4 + 1))) [] n1 (by omega) h (by simp only [W, p1, p2, p3, p4, p5, p6, p7, p8, p9, p10, p11, p12] <;> trivial) (by simp only [W, p1, p2, p3, p4, p5, p6, p7, p8, p9, p10, p11, p12] <;> trivial) rfl
      · cases h
        try simp only [W, c5, c6, c7, c8, p1, p2, p3, p4, p5, p6, p7, p8, p9, p10, p11, p12]
    · cases h
      try simp only [W, c5, p1, p2, p3, p4, p5, p6, p7, p8, p9, p10, p11, p12]
  · cases h
    try simp only [W, c1, p1, p2, p3, p4, p5, p6, p7, p8, p9, p10, p11, p12]
theorem spec_IsReplay.ctr {k : Nat} {a0_0 : Int} {a0_1 : Int} {a0_2 : Int} {l0_3 : List Int} {a0_4 : Int} {a0_5 : Int} {l0_6 : List Int} {a0_7 : Int} {l1 : List (SAct)} {l2 : List Int} {r : Bool} (h : spec_IsReplay.f k a0_0 a0_1 a0_2 l0_3 a0_4 a0_5 l0_6 a0_7 l1 l2 = some r) : Ctr Tryz.prog 42 [.ag [.v (.int .i64 a0_0), .v (.int .i64 a0_1), .v (.int .i64 a0_2), .pr 1 (l0_3.map eI), .v (.int .i64 a0_4), .v (.int .i64 a0_5), .pr 1 (l0_6.map eI), .v (.int .i64 a0_7)], .pr 3 (l1.map eAct), .pr 1 (l2.map eI)] (.v (.bool r)) := by
  refine Ctr_of tyOk hm Tryz.func42 rfl rfl (by kernel_rfl) (n := 23) (rv := [.tmp 6]) rfl rfl ?_
  simp only [W, List.replicate]
  unfold spec_IsReplay.f at h
  replace h := bnd h; obtain ⟨t1, A, h⟩ := h
  try simp only [W, p1, p2, p3, p4, p5, p6, p7, p8, p9, p10, p11, p12]
  refine callR (spec_GardenOk.ctr A) ?_
  replace h := ifT h; rcases h with ⟨rfl, h⟩ | ⟨rfl, h⟩
  · rcases k with _ | m3; · cases h
    rw [spec_IsReplay.j0] at h
    replace h := ifT h; rcases h with ⟨c4, h⟩ | ⟨c4, h⟩
    · cases h
      try simp only [W, c4, p1, p2, p3, p4, p5, p6, p7, p8, p9, p10, p11, p12]
    · replace h := bnd h; obtain ⟨⟨t5_1, t5_2, t5_3, t5_4, t5_5, t5_6, t5_7, t5_8, t5_9⟩, A, h⟩ := h
      dsimp only at h
      try simp only [W, c4, p1, p2, p3, p4, p5, p6, p7, p8, p9, p10, p11, p12]
      refine callR (spec_RunActs.ctr A) ?_
      replace h := bnd h; obtain ⟨t6, A, h⟩ := h
      try simp only [W, c4, p1, p2, p3, p4, p5, p6, p7, p8, p9, p10, p11, p12]
      refine callR (spec_l39Ints.ctr A) ?_
      cases h
      try simp only [W, c4, p1, p2, p3, p4, p5, p6, p7, p8, p9, p10, p11, p12]
  · rcases k with _ | m7; · cases h
    rw [spec_IsReplay.j0] at h
    rw [if_pos rfl] at h
    cases h
    try simp only [W, p1, p2, p3, p4, p5, p6, p7, p8, p9, p10, p11, p12]
theorem slices_Equal_int.ctr {k : Nat} {l0 : List Int} {l1 : List Int} {r : Bool} (h : slices_Equal_int.f k l0 l1 = some r) : Ctr Tryz.prog 90 [.pr 1 (l0.map eI), .pr 1 (l1.map eI)] (.v (.bool r)) := by
  refine Ctr_of tyOk hm Tryz.func90 rfl rfl (by kernel_rfl) (n := 24) (rv := [.tmp 4]) rfl rfl ?_
  simp only [W, List.replicate]
  unfold slices_Equal_int.f at h
  replace h := ifS h; rcases h with ⟨c1, h⟩ | ⟨c1, h⟩
  · try simp only [W, eq_true c1, p1, p2, p3, p4, p5, p6, p7, p8, p9, p10, p11, p12]
    refine loopN (fun x : List Int × List Int × Int × Int => [.pr 1 (List.map eI x.1), .pr 1 (List.map eI x.2.1), .u, .u, .u, .u, .u, .u, .u, .u, .u, .u, .v (.int .i64 x.2.2.1), .v (.int .i64 x.2.2.2), .u, .u, .u, .u, .u, .u, .u, .u, .u, .u, .u, .u]) (fun x => []) (fun n x => slices_Equal_int.l0 n x.1 x.2.1 x.2.2.1 x.2.2.2 = some r) (l0, l1, (l0.length : Int), 0) [] h (by simp only [W, p1, p2, p3, p4, p5, p6, p7, p8, p9, p10, p11, p12] <;> trivial) (by simp only [W, p1, p2, p3, p4, p5, p6, p7, p8, p9, p10, p11, p12] <;> trivial) rfl (fun _ h => by cases h) ?_
    intro n1 ⟨x2, x3, x4, x5⟩ _ h
    simp only [slices_Equal_int.l0] at h
    replace h := ifS h; rcases h with ⟨c6, h⟩ | ⟨c6, h⟩
    · replace h := ifN h; obtain ⟨c7, h⟩ := h
      replace h := ifN h; obtain ⟨c8, h⟩ := h
      replace h := ifN h; obtain ⟨c9, h⟩ := h
      replace h := ifS h; rcases h with ⟨c10, h⟩ | ⟨c10, h⟩
      · try simp only [W, c6, c7, c8, c9, eq_true c10, p1, p2, p3, p4, p5, p6, p7, p8, p9, p10, p11, p12]
        exact nextN (x2, x3, x4, (wrap64 (x5 + 1))) [] n1 (by omega) h (by simp only [W, p1, p2, p3, p4, p5, p6, p7, p8, p9, p10, p11, p12] <;> trivial) (by simp only [W, p1, p2, p3, p4, p5, p6, p7, p8, p9, p10, p11, p12] <;> trivial) rfl
      · cases h
        try simp only [W, c6, c7, c8, c9, c10, p1, p2, p3, p4, p5, p6, p7, p8, p9, p10, p11, p12]
    · cases h
      try simp only [W, c6, p1, p2, p3, p4, p5, p6, p7, p8, p9, p10, p11, p12]
  · cases h
    try simp only [W, c1, p1, p2, p3, p4, p5, p6, p7, p8, p9, p10, p11, p12]
theorem impl_IsReplay.ctr {k : Nat} {a0_0 : Int} {a0_1 : Int} {a0_2 : Int} {l0_3 : List Int} {a0_4 : Int} {a0_5 : Int} {l0_6 : List Int} {a0_7 : Int} {l1 : List (SAct)} {l2 : List Int} {r : Bool} (h : impl_IsReplay.f k a0_0 a0_1 a0_2 l0_3 a0_4 a0_5 l0_6 a0_7 l1 l2 = some r) : Ctr Tryz.prog 44 [.ag [.v (.int .i64 a0_0), .v (.int .i64 a0_1), .v (.int .i64 a0_2), .pr 1 (l0_3.map eI), .v (.int .i64 a0_4), .v (.int .i64 a0_5), .pr 1 (l0_6.map eI), .v (.int .i64 a0_7)], .pr 3 (l1.map eAct), .pr 1 (l2.map eI)] (.v (.bool r)) := by
  refine Ctr_of tyOk hm Tryz.func44 rfl rfl (by kernel_rfl) (n := 23) (rv := [.tmp 6]) rfl rfl ?_
  simp only [W, List.replicate]
  unfold impl_IsReplay.f at h
  replace h := bnd h; obtain ⟨t1, A, h⟩ := h
  try simp only [W, p1, p2, p3, p4, p5, p6, p7, p8, p9, p10, p11, p12]
  refine callR (impl_GardenOk.ctr A) ?_
  replace h := ifT h; rcases h with ⟨rfl, h⟩ | ⟨rfl, h⟩
  · rcases k with _ | m3; · cases h
    rw [impl_IsReplay.j0] at h
    replace h := ifT h; rcases h with ⟨c4, h⟩ | ⟨c4, h⟩
    · cases h
      try simp only [W, c4, p1, p2, p3, p4, p5, p6, p7, p8, p9, p10, p11, p12]
    · replace h := bnd h; obtain ⟨⟨t5_1, t5_2, t5_3, t5_4, t5_5, t5_6, t5_7, t5_8, t5_9⟩, A, h⟩ := h
      dsimp only at h
      try simp only [W, c4, p1, p2, p3, p4, p5, p6, p7, p8, p9, p10, p11, p12]
      refine callR (impl_RunActs.ctr A) ?_
      replace h := bnd h; obtain ⟨t6, A, h⟩ := h
      try simp only [W, c4, p1, p2, p3, p4, p5, p6, p7, p8, p9, p10, p11, p12]
      refine callR (slices_Equal_int.ctr A) ?_
      cases h
      try simp only [W, c4, p1, p2, p3, p4, p5, p6, p7, p8, p9, p10, p11, p12]
  · rcases k with _ | m7; · cases h
    rw [impl_IsReplay.j0] at h
    rw [if_pos rfl] at h
    cases h
    try simp only [W, p1, p2, p3, p4, p5, p6, p7, p8, p9, p10, p11, p12]
end Go.Proofs.YtkindoepnganmaaGreat.F
end

section
namespace Go.Proofs.YtkindoepnganmaaGreat.F
open Go.RowKit Go.Proofs.YtkindoepnganmaaGreatW.PrintWords Go.Proofs.YtkindoepnganmaaGreatW.PrintLast Go.Proofs.YtkindoepnganmaaGreatW.PrintMore
set_option linter.unusedVariables false
set_option linter.unusedSimpArgs false
attribute [local go_sem] max2_int min2_int max_two min_two
set_option maxRecDepth 20000 in set_option maxHeartbeats 4000000 in open Nat renaming reduceAdd → p1, reduceSub → p2, reduceMul → p3, reduceDiv → p4, reduceBNe → p5, reduceBEq → p6, reduceEqDiff → p7, reduceLeDiff → p8, reduceLT → p9 in open Int renaming reduceLE → p10, reduceLT → p11, reduceEq → p12 in
theorem laws_szActS.ctr {l0 : List (SlaAct)} {a1 : Int} {r : Int} (h : laws_szActS.f l0 a1 = some r) : Ctr Tryz.prog 33 [.pr 3 (l0.map elaAct), .v (.int .i64 a1)] (.v (.int .i64 r)) := by
  refine Ctr_of tyOk hm Tryz.func33 rfl rfl (by kernel_rfl) (n := 10) (rv := [.tmp 4]) rfl rfl ?_
  simp only [W, List.replicate]
  unfold laws_szActS.f at h
  replace h := ifS h; rcases h with ⟨c1, h⟩ | ⟨c1, h⟩
  · cases h
    try simp only [W, c1, p1, p2, p3, p4, p5, p6, p7, p8, p9, p10, p11, p12]
  · cases h
    try simp only [W, c1, p1, p2, p3, p4, p5, p6, p7, p8, p9, p10, p11, p12]
end Go.Proofs.YtkindoepnganmaaGreat.F
end

section
namespace Go.Proofs.YtkindoepnganmaaGreat.F
open Go.RowKit Go.Proofs.YtkindoepnganmaaGreatW.PrintWords Go.Proofs.YtkindoepnganmaaGreatW.PrintLast Go.Proofs.YtkindoepnganmaaGreatW.PrintMore
set_option linter.unusedVariables false
set_option linter.unusedSimpArgs false
attribute [local go_sem] max2_int min2_int max_two min_two
set_option maxRecDepth 20000 in set_option maxHeartbeats 4000000 in open Nat renaming reduceAdd → p1, reduceSub → p2, reduceMul → p3, reduceDiv → p4, reduceBNe → p5, reduceBEq → p6, reduceEqDiff → p7, reduceLeDiff → p8, reduceLT → p9 in open Int renaming reduceLE → p10, reduceLT → p11, reduceEq → p12 in
theorem laws_toAct.ctr {a0_0 : Int} {a0_1 : Int} {a0_2 : Int} {r1 : Int} {r2 : Int} {r3 : Int} (h : laws_toAct.f a0_0 a0_1 a0_2 = some (r1, r2, r3)) : Ctr Tryz.prog 31 [.ag [.v (.int .i64 a0_0), .v (.int .i64 a0_1), .v (.int .i64 a0_2)]] (.ag [.v (.int .i64 r1), .v (.int .i64 r2), .v (.int .i64 r3)]) := by
  refine Ctr_of tyOk hm Tryz.func31 rfl rfl (by kernel_rfl) (n := 13) (rv := [.cell 2 53]) rfl rfl ?_
  simp only [W, List.replicate]
  unfold laws_toAct.f at h
  cases h
  try simp only [W, p1, p2, p3, p4, p5, p6, p7, p8, p9, p10, p11, p12]
end Go.Proofs.YtkindoepnganmaaGreat.F
end

section
namespace Go.Proofs.YtkindoepnganmaaGreat.F
open Go.RowKit Go.Proofs.YtkindoepnganmaaGreatW.PrintWords Go.Proofs.YtkindoepnganmaaGreatW.PrintLast Go.Proofs.YtkindoepnganmaaGreatW.PrintMore
set_option linter.unusedVariables false
set_option linter.unusedSimpArgs false
attribute [local go_sem] max2_int min2_int max_two min_two
set_option maxRecDepth 20000
set_option maxHeartbeats 4000000
open Nat renaming reduceAdd → p1, reduceSub → p2, reduceMul → p3, reduceDiv → p4, reduceBNe → p5, reduceBEq → p6, reduceEqDiff → p7, reduceLeDiff → p8, reduceLT → p9
open Int renaming reduceLE → p10, reduceLT → p11, reduceEq → p12
theorem laws_toActS.ctr {k : Nat} {l0 : List (SlaAct)} {r : List SAct} (h : laws_toActS.f k l0 = some r) : Ctr Tryz.prog 35 [.pr 3 (l0.map elaAct)] (.ow 53 3 (r.map eAct)) := by
  refine Ctr_of tyOk hm Tryz.func35 rfl rfl (by kernel_rfl) (n := 22) (rv := [.tmp 2]) rfl rfl ?_
  simp only [W, List.replicate]
  unfold laws_toActS.f at h
  replace h := ifN h; obtain ⟨c1, h⟩ := h
  replace h := ifN h; obtain ⟨c2, h⟩ := h
  try simp only [W, c1, c2, p1, p2, p3, p4, p5, p6, p7, p8, p9, p10, p11, p12]
  refine loopN (fun x : List (SlaAct) × List (SAct) × Int => [.pr 3 (List.map elaAct x.1), .u, .u, .lo 112, .v (.int .i64 x.2.2), .u, .u, .u, .u, .u, .u, .u, .u, .u, .u, .u, .u, .u, .u, .u, .u, .u, .u]) (fun x => [(112, .row 53 3 (List.map eAct x.2.1))]) (fun n x => laws_toActS.l0 n x.1 x.2.1 x.2.2 = some r) (l0, (List.replicate ((l0.length : Int) : Int).toNat zAct), 0) [] h (by simp only [W, p1, p2, p3, p4, p5, p6, p7, p8, p9, p10, p11, p12] <;> trivial) (by simp only [W, p1, p2, p3, p4, p5, p6, p7, p8, p9, p10, p11, p12] <;> trivial) rfl (fun _ h => by cases h) ?_
  intro n1 ⟨x3, x4, x5⟩ _ h
  simp only [laws_toActS.l0] at h
  replace h := ifS h; rcases h with ⟨c6, h⟩ | ⟨c6, h⟩
  · replace h := ifN h; obtain ⟨c7, h⟩ := h
    replace h := bnd h; obtain ⟨⟨t8_1, t8_2, t8_3⟩, A, h⟩ := h
    dsimp only at h
    try simp only [W, c6, c7, p1, p2, p3, p4, p5, p6, p7, p8, p9, p10, p11, p12]
    refine callR (laws_toAct.ctr A) ?_
    replace h := ifN h; obtain ⟨c9, h⟩ := h
    try simp only [W, c6, c7, c9, p1, p2, p3, p4, p5, p6, p7, p8, p9, p10, p11, p12]
    exact nextN (x3, (x4.set (x5 : Int).toNat (⟨t8_1, t8_2, t8_3⟩ : SAct)), (wrap64 (x5 + 1))) [] n1 (by omega) h (by simp only [W, p1, p2, p3, p4, p5, p6, p7, p8, p9, p10, p11, p12] <;> trivial) (by simp only [W, p1, p2, p3, p4, p5, p6, p7, p8, p9, p10, p11, p12] <;> trivial) rfl
  · cases h
    try simp only [W, c6, p1, p2, p3, p4, p5, p6, p7, p8, p9, p10, p11, p12]
theorem laws_eqAct.ctr {a0_0 : Int} {a0_1 : Int} {a0_2 : Int} {a1_0 : Int} {a1_1 : Int} {a1_2 : Int} {r : Bool} (h : laws_eqAct.f a0_0 a0_1 a0_2 a1_0 a1_1 a1_2 = some r) : Ctr Tryz.prog 88 [.ag [.v (.int .i64 a0_0), .v (.int .i64 a0_1), .v (.int .i64 a0_2)], .ag [.v (.int .i64 a1_0), .v (.int .i64 a1_1), .v (.int .i64 a1_2)]] (.v (.bool r)) := by
  refine Ctr_of tyOk hm Tryz.func88 rfl rfl (by kernel_rfl) (n := 18) (rv := [.tmp 4]) rfl rfl ?_
  simp only [W, List.replicate]
  unfold laws_eqAct.f at h
  replace h := ifS h; rcases h with ⟨c1, h⟩ | ⟨c1, h⟩
  · replace h := ifS h; rcases h with ⟨c2, h⟩ | ⟨c2, h⟩
    · replace h := ifS h; rcases h with ⟨c3, h⟩ | ⟨c3, h⟩
      · cases h
        try simp only [W, eq_true c1, eq_true c2, eq_true c3, p1, p2, p3, p4, p5, p6, p7, p8, p9, p10, p11, p12]
      · cases h
        try simp only [W, eq_true c1, eq_true c2, c3, p1, p2, p3, p4, p5, p6, p7, p8, p9, p10, p11, p12]
    · cases h
      try simp only [W, eq_true c1, c2, p1, p2, p3, p4, p5, p6, p7, p8, p9, p10, p11, p12]
  · cases h
    try simp only [W, c1, p1, p2, p3, p4, p5, p6, p7, p8, p9, p10, p11, p12]
theorem laws_eqActS.ctr {k : Nat} {l0 : List (SAct)} {l1 : List (SAct)} {r : Bool} (h : laws_eqActS.f k l0 l1 = some r) : Ctr Tryz.prog 38 [.pr 3 (l0.map eAct), .pr 3 (l1.map eAct)] (.v (.bool r)) := by
  refine Ctr_of tyOk hm Tryz.func38 rfl rfl (by kernel_rfl) (n := 25) (rv := [.tmp 4]) rfl rfl ?_
  simp only [W, List.replicate]
  unfold laws_eqActS.f at h
  replace h := ifS h; rcases h with ⟨c1, h⟩ | ⟨c1, h⟩
  · try simp only [W, eq_true c1, p1, p2, p3, p4, p5, p6, p7, p8, p9, p10, p11, p12]
    refine loopN (fun x : List (SAct) × List (SAct) × Int => [.pr 3 (List.map eAct x.1), .pr 3 (List.map eAct x.2.1), .u, .u, .u, .v (.int .i64 x.2.2), .u, .u, .u, .u, .u, .u, .u, .u, .u, .u, .u, .u, .u, .u, .u, .u, .u, .u, .u, .u, .u]) (fun x => []) (fun n x => laws_eqActS.l0 n x.1 x.2.1 x.2.2 = some r) (l0, l1, 0) [] h (by simp only [W, p1, p2, p3, p4, p5, p6, p7, p8, p9, p10, p11, p12] <;> trivial) (by simp only [W, p1, p2, p3, p4, p5, p6, p7, p8, p9, p10, p11, p12] <;> trivial) rfl (fun _ h => by cases h) ?_
    intro n1 ⟨x2, x3, x4⟩ _ h
    simp only [laws_eqActS.l0] at h
    replace h := ifS h; rcases h with ⟨c5, h⟩ | ⟨c5, h⟩
    · replace h := ifN h; obtain ⟨c6, h⟩ := h
      replace h := ifN h; obtain ⟨c7, h⟩ := h
      replace h := bnd h; obtain ⟨t8, A, h⟩ := h
      try simp only [W, c5, c6, c7, p1, p2, p3, p4, p5, p6, p7, p8, p9, p10, p11, p12]
      refine callR (laws_eqAct.ctr A) ?_
      replace h := ifT h; rcases h with ⟨rfl, h⟩ | ⟨rfl, h⟩
      · try simp only [W, c5, c6, c7, p1, p2, p3, p4, p5, p6, p7, p8, p9, p10, p11, p12]
        exact nextN (x2, x3, (wrap64 (x4 + 1))) [] n1 (by omega) h (by simp only [W, p1, p2, p3, p4, p5, p6, p7, p8, p9, p10, p11, p12] <;> trivial) (by simp only [W, p1, p2, p3, p4, p5, p6, p7, p8, p9, p10, p11, p12] <;> trivial) rfl
      · cases h
        try simp only [W, c5, c6, c7, p1, p2, p3, p4, p5, p6, p7, p8, p9, p10, p11, p12]
    · cases h
      try simp only [W, c5, p1, p2, p3, p4, p5, p6, p7, p8, p9, p10, p11, p12]
  · cases h
    try simp only [W, c1, p1, p2, p3, p4, p5, p6, p7, p8, p9, p10, p11, p12]
end Go.Proofs.YtkindoepnganmaaGreat.F
end

section
namespace Go.Proofs.YtkindoepnganmaaGreat.F
open Go.RowKit Go.Proofs.YtkindoepnganmaaGreatW.PrintWords Go.Proofs.YtkindoepnganmaaGreatW.PrintLast Go.Proofs.YtkindoepnganmaaGreatW.PrintMore
set_option linter.unusedVariables false
set_option linter.unusedSimpArgs false
attribute [local go_sem] max2_int min2_int max_two min_two
set_option maxRecDepth 20000
set_option maxHeartbeats 4000000
open Nat renaming reduceAdd → p1, reduceSub → p2, reduceMul → p3, reduceDiv → p4, reduceBNe → p5, reduceBEq → p6, reduceEqDiff → p7, reduceLeDiff → p8, reduceLT → p9
open Int renaming reduceLE → p10, reduceLT → p11, reduceEq → p12
theorem laws_szIntS.ctr {l0 : List Int} {a1 : Int} {r : Int} (h : laws_szIntS.f l0 a1 = some r) : Ctr Tryz.prog 61 [.pr 1 (l0.map eI), .v (.int .i64 a1)] (.v (.int .i64 r)) := by
  refine Ctr_of tyOk hm Tryz.func61 rfl rfl (by kernel_rfl) (n := 10) (rv := [.tmp 4]) rfl rfl ?_
  simp only [W, List.replicate]
  unfold laws_szIntS.f at h
  replace h := ifS h; rcases h with ⟨c1, h⟩ | ⟨c1, h⟩
  · cases h
    try simp only [W, c1, p1, p2, p3, p4, p5, p6, p7, p8, p9, p10, p11, p12]
  · cases h
    try simp only [W, c1, p1, p2, p3, p4, p5, p6, p7, p8, p9, p10, p11, p12]
theorem laws_szHedge.ctr {a0_0 : Int} {a0_1 : Int} {a0_2 : Int} {l0_3 : List Int} {a0_4 : Int} {a1 : Int} {r : Int} (h : laws_szHedge.f a0_0 a0_1 a0_2 l0_3 a0_4 a1 = some r) : Ctr Tryz.prog 60 [.ag [.v (.int .i64 a0_0), .v (.int .i64 a0_1), .v (.int .i64 a0_2), .pr 1 (l0_3.map eI), .v (.int .i64 a0_4)], .v (.int .i64 a1)] (.v (.int .i64 r)) := by
  refine Ctr_of tyOk hm Tryz.func60 rfl rfl (by kernel_rfl) (n := 10) (rv := [.tmp 4]) rfl rfl ?_
  simp only [W, List.replicate]
  unfold laws_szHedge.f at h
  replace h := bnd h; obtain ⟨t1, A, h⟩ := h
  try simp only [W, p1, p2, p3, p4, p5, p6, p7, p8, p9, p10, p11, p12]
  refine callR (laws_szIntS.ctr A) ?_
  replace h := ifS h; rcases h with ⟨c2, h⟩ | ⟨c2, h⟩
  · cases h
    try simp only [W, c2, p1, p2, p3, p4, p5, p6, p7, p8, p9, p10, p11, p12]
  · cases h
    try simp only [W, c2, p1, p2, p3, p4, p5, p6, p7, p8, p9, p10, p11, p12]
theorem laws_szGarden.ctr {a0_0 : Int} {a0_1 : Int} {a0_2 : Int} {l0_3 : List Int} {a0_4 : Int} {a0_5 : Int} {l0_6 : List Int} {a0_7 : Int} {a1 : Int} {r : Int} (h : laws_szGarden.f a0_0 a0_1 a0_2 l0_3 a0_4 a0_5 l0_6 a0_7 a1 = some r) : Ctr Tryz.prog 15 [.ag [.v (.int .i64 a0_0), .v (.int .i64 a0_1), .v (.int .i64 a0_2), .pr 1 (l0_3.map eI), .v (.int .i64 a0_4), .v (.int .i64 a0_5), .pr 1 (l0_6.map eI), .v (.int .i64 a0_7)], .v (.int .i64 a1)] (.v (.int .i64 r)) := by
  refine Ctr_of tyOk hm Tryz.func15 rfl rfl (by kernel_rfl) (n := 16) (rv := [.tmp 4]) rfl rfl ?_
  simp only [W, List.replicate]
  unfold laws_szGarden.f at h
  replace h := bnd h; obtain ⟨t1, A, h⟩ := h
  try simp only [W, p1, p2, p3, p4, p5, p6, p7, p8, p9, p10, p11, p12]
  refine callR (laws_szHedge.ctr A) ?_
  replace h := ifS h; rcases h with ⟨c2, h⟩ | ⟨c2, h⟩
  · cases h
    try simp only [W, c2, p1, p2, p3, p4, p5, p6, p7, p8, p9, p10, p11, p12]
  · replace h := bnd h; obtain ⟨t3, A, h⟩ := h
    try simp only [W, c2, p1, p2, p3, p4, p5, p6, p7, p8, p9, p10, p11, p12]
    refine callR (laws_szIntS.ctr A) ?_
    replace h := ifS h; rcases h with ⟨c4, h⟩ | ⟨c4, h⟩
    · cases h
      try simp only [W, c2, c4, p1, p2, p3, p4, p5, p6, p7, p8, p9, p10, p11, p12]
    · cases h
      try simp only [W, c2, c4, p1, p2, p3, p4, p5, p6, p7, p8, p9, p10, p11, p12]
theorem laws_toIntS.ctr {k : Nat} {l0 : List Int} {r : List Int} (h : laws_toIntS.f k l0 = some r) : Ctr Tryz.prog 43 [.pr 1 (l0.map eI)] (.ow 3 1 (r.map eI)) := by
  refine Ctr_of tyOk hm Tryz.func43 rfl rfl (by kernel_rfl) (n := 21) (rv := [.tmp 2]) rfl rfl ?_
  simp only [W, List.replicate]
  unfold laws_toIntS.f at h
  replace h := ifN h; obtain ⟨c1, h⟩ := h
  replace h := ifN h; obtain ⟨c2, h⟩ := h
  try simp only [W, c1, c2, p1, p2, p3, p4, p5, p6, p7, p8, p9, p10, p11, p12]
  refine loopN (fun x : List Int × List Int × Int => [.pr 1 (List.map eI x.1), .u, .u, .lo 112, .v (.int .i64 x.2.2), .u, .u, .u, .u, .u, .u, .u, .u, .u, .u, .u, .u, .u, .u, .u, .u, .u]) (fun x => [(112, .row 3 1 (List.map eI x.2.1))]) (fun n x => laws_toIntS.l0 n x.1 x.2.1 x.2.2 = some r) (l0, (List.replicate ((l0.length : Int) : Int).toNat 0), 0) [] h (by simp only [W, p1, p2, p3, p4, p5, p6, p7, p8, p9, p10, p11, p12] <;> trivial) (by simp only [W, p1, p2, p3, p4, p5, p6, p7, p8, p9, p10, p11, p12] <;> trivial) rfl (fun _ h => by cases h) ?_
  intro n1 ⟨x3, x4, x5⟩ _ h
  simp only [laws_toIntS.l0] at h
  replace h := ifS h; rcases h with ⟨c6, h⟩ | ⟨c6, h⟩
  · replace h := ifN h; obtain ⟨c7, h⟩ := h
    replace h := ifN h; obtain ⟨c8, h⟩ := h
    try simp only [W, c6, c7, c8, p1, p2, p3, p4, p5, p6, p7, p8, p9, p10, p11, p12]
    exact nextN (x3, (x4.set (x5 : Int).toNat (rd x3 x5)), (wrap64 (x5 + 1))) [] n1 (by omega) h (by simp only [W, p1, p2, p3, p4, p5, p6, p7, p8, p9, p10, p11, p12] <;> trivial) (by simp only [W, p1, p2, p3, p4, p5, p6, p7, p8, p9, p10, p11, p12] <;> trivial) rfl
  · cases h
    try simp only [W, c6, p1, p2, p3, p4, p5, p6, p7, p8, p9, p10, p11, p12]
theorem laws_toGrid.ctr {a0_0 : Int} {a0_1 : Int} {r1 : Int} {r2 : Int} (h : laws_toGrid.f a0_0 a0_1 = some (r1, r2)) : Ctr Tryz.prog 146 [.ag [.v (.int .i64 a0_0), .v (.int .i64 a0_1)]] (.ag [.v (.int .i64 r1), .v (.int .i64 r2)]) := by
  refine Ctr_of tyOk hm Tryz.func146 rfl rfl (by kernel_rfl) (n := 10) (rv := [.cell 2 32]) rfl rfl ?_
  simp only [W, List.replicate]
  unfold laws_toGrid.f at h
  cases h
  try simp only [W, p1, p2, p3, p4, p5, p6, p7, p8, p9, p10, p11, p12]
theorem laws_toMaze.ctr {a0_0 : Int} {a0_1 : Int} {a0_2 : Int} {r1 : Int} {r2 : Int} {r3 : Int} (h : laws_toMaze.f a0_0 a0_1 a0_2 = some (r1, r2, r3)) : Ctr Tryz.prog 112 [.ag [.v (.int .i64 a0_0), .v (.int .i64 a0_1), .v (.int .i64 a0_2)]] (.ag [.v (.int .i64 r1), .v (.int .i64 r2), .v (.int .i64 r3)]) := by
  refine Ctr_of tyOk hm Tryz.func112 rfl rfl (by kernel_rfl) (n := 11) (rv := [.cell 2 34]) rfl rfl ?_
  simp only [W, List.replicate]
  unfold laws_toMaze.f at h
  replace h := bnd h; obtain ⟨⟨t1_1, t1_2⟩, A, h⟩ := h
  dsimp only at h
  try simp only [W, p1, p2, p3, p4, p5, p6, p7, p8, p9, p10, p11, p12]
  refine callR (laws_toGrid.ctr A) ?_
  cases h
  try simp only [W, p1, p2, p3, p4, p5, p6, p7, p8, p9, p10, p11, p12]
theorem laws_toHedge.ctr {k : Nat} {a0_0 : Int} {a0_1 : Int} {a0_2 : Int} {l0_3 : List Int} {a0_4 : Int} {r1 : Int} {r2 : Int} {r3 : Int} {r4 : List Int} {r5 : Int} (h : laws_toHedge.f k a0_0 a0_1 a0_2 l0_3 a0_4 = some (r1, r2, r3, r4, r5)) : Ctr Tryz.prog 63 [.ag [.v (.int .i64 a0_0), .v (.int .i64 a0_1), .v (.int .i64 a0_2), .pr 1 (l0_3.map eI), .v (.int .i64 a0_4)]] (.ag [.v (.int .i64 r1), .v (.int .i64 r2), .v (.int .i64 r3), .ow 3 1 (r4.map eI), .v (.int .i64 r5)]) := by
  refine Ctr_of tyOk hm Tryz.func63 rfl rfl (by kernel_rfl) (n := 15) (rv := [.cell 2 36]) rfl rfl ?_
  simp only [W, List.replicate]
  unfold laws_toHedge.f at h
  replace h := bnd h; obtain ⟨⟨t1_1, t1_2, t1_3⟩, A, h⟩ := h
  dsimp only at h
  try simp only [W, p1, p2, p3, p4, p5, p6, p7, p8, p9, p10, p11, p12]
  refine callR (laws_toMaze.ctr A) ?_
  replace h := bnd h; obtain ⟨t2, A, h⟩ := h
  try simp only [W, p1, p2, p3, p4, p5, p6, p7, p8, p9, p10, p11, p12]
  refine callR (laws_toIntS.ctr A) ?_
  cases h
  try simp only [W, p1, p2, p3, p4, p5, p6, p7, p8, p9, p10, p11, p12]
theorem laws_toGarden.ctr {k : Nat} {a0_0 : Int} {a0_1 : Int} {a0_2 : Int} {l0_3 : List Int} {a0_4 : Int} {a0_5 : Int} {l0_6 : List Int} {a0_7 : Int} {r1 : Int} {r2 : Int} {r3 : Int} {r4 : List Int} {r5 : Int} {r6 : Int} {r7 : List Int} {r8 : Int} (h : laws_toGarden.f k a0_0 a0_1 a0_2 l0_3 a0_4 a0_5 l0_6 a0_7 = some (r1, r2, r3, r4, r5, r6, r7, r8)) : Ctr Tryz.prog 17 [.ag [.v (.int .i64 a0_0), .v (.int .i64 a0_1), .v (.int .i64 a0_2), .pr 1 (l0_3.map eI), .v (.int .i64 a0_4), .v (.int .i64 a0_5), .pr 1 (l0_6.map eI), .v (.int .i64 a0_7)]] (.ag [.v (.int .i64 r1), .v (.int .i64 r2), .v (.int .i64 r3), .ow 3 1 (r4.map eI), .v (.int .i64 r5), .v (.int .i64 r6), .ow 3 1 (r7.map eI), .v (.int .i64 r8)]) := by
  refine Ctr_of tyOk hm Tryz.func17 rfl rfl (by kernel_rfl) (n := 18) (rv := [.cell 2 38]) rfl rfl ?_
  simp only [W, List.replicate]
  unfold laws_toGarden.f at h
  replace h := bnd h; obtain ⟨⟨t1_1, t1_2, t1_3, t1_4, t1_5⟩, A, h⟩ := h
  dsimp only at h
  try simp only [W, p1, p2, p3, p4, p5, p6, p7, p8, p9, p10, p11, p12]
  refine callR (laws_toHedge.ctr A) ?_
  replace h := bnd h; obtain ⟨t2, A, h⟩ := h
  try simp only [W, p1, p2, p3, p4, p5, p6, p7, p8, p9, p10, p11, p12]
  refine callR (laws_toIntS.ctr A) ?_
  cases h
  try simp only [W, p1, p2, p3, p4, p5, p6, p7, p8, p9, p10, p11, p12]
theorem laws_eqIntS.ctr {k : Nat} {l0 : List Int} {l1 : List Int} {r : Bool} (h : laws_eqIntS.f k l0 l1 = some r) : Ctr Tryz.prog 37 [.pr 1 (l0.map eI), .pr 1 (l1.map eI)] (.v (.bool r)) := by
  refine Ctr_of tyOk hm Tryz.func37 rfl rfl (by kernel_rfl) (n := 24) (rv := [.tmp 4]) rfl rfl ?_
  simp only [W, List.replicate]
  unfold laws_eqIntS.f at h
  replace h := ifS h; rcases h with ⟨c1, h⟩ | ⟨c1, h⟩
  · try simp only [W, eq_true c1, p1, p2, p3, p4, p5, p6, p7, p8, p9, p10, p11, p12]
    refine loopN (fun x : List Int × List Int × Int => [.pr 1 (List.map eI x.1), .pr 1 (List.map eI x.2.1), .u, .u, .u, .v (.int .i64 x.2.2), .u, .u, .u, .u, .u, .u, .u, .u, .u, .u, .u, .u, .u, .u, .u, .u, .u, .u, .u, .u]) (fun x => []) (fun n x => laws_eqIntS.l0 n x.1 x.2.1 x.2.2 = some r) (l0, l1, 0) [] h (by simp only [W, p1, p2, p3, p4, p5, p6, p7, p8, p9, p10, p11, p12] <;> trivial) (by simp only [W, p1, p2, p3, p4, p5, p6, p7, p8, p9, p10, p11, p12] <;> trivial) rfl (fun _ h => by cases h) ?_
    intro n1 ⟨x2, x3, x4⟩ _ h
    simp only [laws_eqIntS.l0] at h
    replace h := ifS h; rcases h with ⟨c5, h⟩ | ⟨c5, h⟩
    · replace h := ifN h; obtain ⟨c6, h⟩ := h
      replace h := ifN h; obtain ⟨c7, h⟩ := h
      replace h := ifS h; rcases h with ⟨c8, h⟩ | ⟨c8, h⟩
      · try simp only [W, c5, c6, c7, eq_true c8, p1, p2, p3, p4, p5, p6, p7, p8, p9, p10, p11, p12]
        exact nextN (x2, x3, (wrap64 (x4 + 1))) [] n1 (by omega) h (by simp only [W, p1, p2, p3, p4, p5, p6, p7, p8, p9, p10, p11, p12] <;> trivial) (by simp only [W, p1, p2, p3, p4, p5, p6, p7, p8, p9, p10, p11, p12] <;> trivial) rfl
      · cases h
        try simp only [W, c5, c6, c7, c8, p1, p2, p3, p4, p5, p6, p7, p8, p9, p10, p11, p12]
    · cases h
      try simp only [W, c5, p1, p2, p3, p4, p5, p6, p7, p8, p9, p10, p11, p12]
  · cases h
    try simp only [W, c1, p1, p2, p3, p4, p5, p6, p7, p8, p9, p10, p11, p12]
end Go.Proofs.YtkindoepnganmaaGreat.F
end

section
namespace Go.Proofs.YtkindoepnganmaaGreat.F
open Go.RowKit Go.Proofs.YtkindoepnganmaaGreatW.PrintWords Go.Proofs.YtkindoepnganmaaGreatW.PrintLast Go.Proofs.YtkindoepnganmaaGreatW.PrintMore
set_option linter.unusedVariables false
set_option linter.unusedSimpArgs false
attribute [local go_sem] max2_int min2_int max_two min_two
set_option maxRecDepth 20000
set_option maxHeartbeats 4000000
open Nat renaming reduceAdd → p1, reduceSub → p2, reduceMul → p3, reduceDiv → p4, reduceBNe → p5, reduceBEq → p6, reduceEqDiff → p7, reduceLeDiff → p8, reduceLT → p9
open Int renaming reduceLE → p10, reduceLT → p11, reduceEq → p12
theorem laws_eqGrid.ctr {a0_0 : Int} {a0_1 : Int} {a1_0 : Int} {a1_1 : Int} {r : Bool} (h : laws_eqGrid.f a0_0 a0_1 a1_0 a1_1 = some r) : Ctr Tryz.prog 147 [.ag [.v (.int .i64 a0_0), .v (.int .i64 a0_1)], .ag [.v (.int .i64 a1_0), .v (.int .i64 a1_1)]] (.v (.bool r)) := by
  refine Ctr_of tyOk hm Tryz.func147 rfl rfl (by kernel_rfl) (n := 13) (rv := [.tmp 4]) rfl rfl ?_
  simp only [W, List.replicate]
  unfold laws_eqGrid.f at h
  replace h := ifS h; rcases h with ⟨c1, h⟩ | ⟨c1, h⟩
  · replace h := ifS h; rcases h with ⟨c2, h⟩ | ⟨c2, h⟩
    · cases h
      try simp only [W, eq_true c1, eq_true c2, p1, p2, p3, p4, p5, p6, p7, p8, p9, p10, p11, p12]
    · cases h
      try simp only [W, eq_true c1, c2, p1, p2, p3, p4, p5, p6, p7, p8, p9, p10, p11, p12]
  · cases h
    try simp only [W, c1, p1, p2, p3, p4, p5, p6, p7, p8, p9, p10, p11, p12]
theorem laws_eqMaze.ctr {a0_0 : Int} {a0_1 : Int} {a0_2 : Int} {a1_0 : Int} {a1_1 : Int} {a1_2 : Int} {r : Bool} (h : laws_eqMaze.f a0_0 a0_1 a0_2 a1_0 a1_1 a1_2 = some r) : Ctr Tryz.prog 115 [.ag [.v (.int .i64 a0_0), .v (.int .i64 a0_1), .v (.int .i64 a0_2)], .ag [.v (.int .i64 a1_0), .v (.int .i64 a1_1), .v (.int .i64 a1_2)]] (.v (.bool r)) := by
  refine Ctr_of tyOk hm Tryz.func115 rfl rfl (by kernel_rfl) (n := 14) (rv := [.tmp 4]) rfl rfl ?_
  simp only [W, List.replicate]
  unfold laws_eqMaze.f at h
  replace h := bnd h; obtain ⟨t1, A, h⟩ := h
  try simp only [W, p1, p2, p3, p4, p5, p6, p7, p8, p9, p10, p11, p12]
  refine callR (laws_eqGrid.ctr A) ?_
  replace h := ifT h; rcases h with ⟨rfl, h⟩ | ⟨rfl, h⟩
  · replace h := ifS h; rcases h with ⟨c3, h⟩ | ⟨c3, h⟩
    · cases h
      try simp only [W, eq_true c3, p1, p2, p3, p4, p5, p6, p7, p8, p9, p10, p11, p12]
    · cases h
      try simp only [W, c3, p1, p2, p3, p4, p5, p6, p7, p8, p9, p10, p11, p12]
  · cases h
    try simp only [W, p1, p2, p3, p4, p5, p6, p7, p8, p9, p10, p11, p12]
theorem laws_eqHedge.ctr {k : Nat} {a0_0 : Int} {a0_1 : Int} {a0_2 : Int} {l0_3 : List Int} {a0_4 : Int} {a1_0 : Int} {a1_1 : Int} {a1_2 : Int} {l1_3 : List Int} {a1_4 : Int} {r : Bool} (h : laws_eqHedge.f k a0_0 a0_1 a0_2 l0_3 a0_4 a1_0 a1_1 a1_2 l1_3 a1_4 = some r) : Ctr Tryz.prog 65 [.ag [.v (.int .i64 a0_0), .v (.int .i64 a0_1), .v (.int .i64 a0_2), .pr 1 (l0_3.map eI), .v (.int .i64 a0_4)], .ag [.v (.int .i64 a1_0), .v (.int .i64 a1_1), .v (.int .i64 a1_2), .pr 1 (l1_3.map eI), .v (.int .i64 a1_4)]] (.v (.bool r)) := by
  refine Ctr_of tyOk hm Tryz.func65 rfl rfl (by kernel_rfl) (n := 20) (rv := [.tmp 4]) rfl rfl ?_
  simp only [W, List.replicate]
  unfold laws_eqHedge.f at h
  replace h := bnd h; obtain ⟨t1, A, h⟩ := h
  try simp only [W, p1, p2, p3, p4, p5, p6, p7, p8, p9, p10, p11, p12]
  refine callR (laws_eqMaze.ctr A) ?_
  replace h := ifT h; rcases h with ⟨rfl, h⟩ | ⟨rfl, h⟩
  · replace h := bnd h; obtain ⟨t3, A, h⟩ := h
    try simp only [W, p1, p2, p3, p4, p5, p6, p7, p8, p9, p10, p11, p12]
    refine callR (laws_eqIntS.ctr A) ?_
    replace h := ifT h; rcases h with ⟨rfl, h⟩ | ⟨rfl, h⟩
    · replace h := ifS h; rcases h with ⟨c5, h⟩ | ⟨c5, h⟩
      · cases h
        try simp only [W, eq_true c5, p1, p2, p3, p4, p5, p6, p7, p8, p9, p10, p11, p12]
      · cases h
        try simp only [W, c5, p1, p2, p3, p4, p5, p6, p7, p8, p9, p10, p11, p12]
    · cases h
      try simp only [W, p1, p2, p3, p4, p5, p6, p7, p8, p9, p10, p11, p12]
  · cases h
    try simp only [W, p1, p2, p3, p4, p5, p6, p7, p8, p9, p10, p11, p12]
end Go.Proofs.YtkindoepnganmaaGreat.F
end

section
namespace Go.Proofs.YtkindoepnganmaaGreat.F
open Go.RowKit Go.Proofs.YtkindoepnganmaaGreatW.PrintWords Go.Proofs.YtkindoepnganmaaGreatW.PrintLast Go.Proofs.YtkindoepnganmaaGreatW.PrintMore
set_option linter.unusedVariables false
set_option linter.unusedSimpArgs false
attribute [local go_sem] max2_int min2_int max_two min_two
set_option maxRecDepth 20000 in set_option maxHeartbeats 4000000 in open Nat renaming reduceAdd → p1, reduceSub → p2, reduceMul → p3, reduceDiv → p4, reduceBNe → p5, reduceBEq → p6, reduceEqDiff → p7, reduceLeDiff → p8, reduceLT → p9 in open Int renaming reduceLE → p10, reduceLT → p11, reduceEq → p12 in
theorem laws_eqGarden.ctr {k : Nat} {a0_0 : Int} {a0_1 : Int} {a0_2 : Int} {l0_3 : List Int} {a0_4 : Int} {a0_5 : Int} {l0_6 : List Int} {a0_7 : Int} {a1_0 : Int} {a1_1 : Int} {a1_2 : Int} {l1_3 : List Int} {a1_4 : Int} {a1_5 : Int} {l1_6 : List Int} {a1_7 : Int} {r : Bool} (h : laws_eqGarden.f k a0_0 a0_1 a0_2 l0_3 a0_4 a0_5 l0_6 a0_7 a1_0 a1_1 a1_2 l1_3 a1_4 a1_5 l1_6 a1_7 = some r) : Ctr Tryz.prog 19 [.ag [.v (.int .i64 a0_0), .v (.int .i64 a0_1), .v (.int .i64 a0_2), .pr 1 (l0_3.map eI), .v (.int .i64 a0_4), .v (.int .i64 a0_5), .pr 1 (l0_6.map eI), .v (.int .i64 a0_7)], .ag [.v (.int .i64 a1_0), .v (.int .i64 a1_1), .v (.int .i64 a1_2), .pr 1 (l1_3.map eI), .v (.int .i64 a1_4), .v (.int .i64 a1_5), .pr 1 (l1_6.map eI), .v (.int .i64 a1_7)]] (.v (.bool r)) := by
  refine Ctr_of tyOk hm Tryz.func19 rfl rfl (by kernel_rfl) (n := 25) (rv := [.tmp 4]) rfl rfl ?_
  simp only [W, List.replicate]
  unfold laws_eqGarden.f at h
  replace h := bnd h; obtain ⟨t1, A, h⟩ := h
  try simp only [W, p1, p2, p3, p4, p5, p6, p7, p8, p9, p10, p11, p12]
  refine callR (laws_eqHedge.ctr A) ?_
  replace h := ifT h; rcases h with ⟨rfl, h⟩ | ⟨rfl, h⟩
  · replace h := ifS h; rcases h with ⟨c3, h⟩ | ⟨c3, h⟩
    · replace h := bnd h; obtain ⟨t4, A, h⟩ := h
      try simp only [W, eq_true c3, p1, p2, p3, p4, p5, p6, p7, p8, p9, p10, p11, p12]
      refine callR (laws_eqIntS.ctr A) ?_
      replace h := ifT h; rcases h with ⟨rfl, h⟩ | ⟨rfl, h⟩
      · replace h := ifS h; rcases h with ⟨c6, h⟩ | ⟨c6, h⟩
        · cases h
          try simp only [W, eq_true c3, eq_true c6, p1, p2, p3, p4, p5, p6, p7, p8, p9, p10, p11, p12]
        · cases h
          try simp only [W, eq_true c3, c6, p1, p2, p3, p4, p5, p6, p7, p8, p9, p10, p11, p12]
      · cases h
        try simp only [W, eq_true c3, p1, p2, p3, p4, p5, p6, p7, p8, p9, p10, p11, p12]
    · cases h
      try simp only [W, c3, p1, p2, p3, p4, p5, p6, p7, p8, p9, p10, p11, p12]
  · cases h
    try simp only [W, p1, p2, p3, p4, p5, p6, p7, p8, p9, p10, p11, p12]
end Go.Proofs.YtkindoepnganmaaGreat.F
end

section
namespace Go.Proofs.YtkindoepnganmaaGreat.F
open Go.RowKit Go.Proofs.YtkindoepnganmaaGreatW.PrintWords Go.Proofs.YtkindoepnganmaaGreatW.PrintLast Go.Proofs.YtkindoepnganmaaGreatW.PrintMore
set_option linter.unusedVariables false
set_option linter.unusedSimpArgs false
def laws_FnExactIsReplay.f (k : Nat) (a0_0 : Int) (a0_1 : Int) (a0_2 : Int) (l0_3 : List Int) (a0_4 : Int) (a0_5 : Int) (l0_6 : List Int) (a0_7 : Int) (l1 : List (SlaAct)) (l2 : List Int) : Option (Bool) := if (l2.length : Int) > 1048576 then (some true) else ((laws_szGarden.f a0_0 a0_1 a0_2 l0_3 a0_4 a0_5 l0_6 a0_7 1048576).bind fun t2181 => (if t2181 < 0 then (some true) else ((laws_szActS.f l1 t2181).bind fun t2182 => (if t2182 < 0 then (some true) else ((laws_toGarden.f k a0_0 a0_1 a0_2 l0_3 a0_4 a0_5 l0_6 a0_7).bind fun bt2183 => ((laws_toActS.f k l1).bind fun t2195 => ((laws_toIntS.f k l2).bind fun t2198 => ((spec_IsReplay.f k bt2183.1 bt2183.2.1 bt2183.2.2.1 bt2183.2.2.2.1 bt2183.2.2.2.2.1 bt2183.2.2.2.2.2.1 bt2183.2.2.2.2.2.2.1 bt2183.2.2.2.2.2.2.2 t2195 t2198).bind fun t2201 => ((laws_toGarden.f k a0_0 a0_1 a0_2 l0_3 a0_4 a0_5 l0_6 a0_7).bind fun bt2202 => ((laws_toActS.f k l1).bind fun t2215 => ((laws_toIntS.f k l2).bind fun t2218 => ((impl_IsReplay.f k bt2202.1 bt2202.2.1 bt2202.2.2.1 bt2202.2.2.2.1 bt2202.2.2.2.2.1 bt2202.2.2.2.2.2.1 bt2202.2.2.2.2.2.2.1 bt2202.2.2.2.2.2.2.2 t2215 t2218).bind fun t2221 => (if (t2221 != t2201) = true then (some false) else ((laws_toGarden.f k a0_0 a0_1 a0_2 l0_3 a0_4 a0_5 l0_6 a0_7).bind fun bt2222 => ((laws_eqGarden.f k bt2202.1 bt2202.2.1 bt2202.2.2.1 bt2202.2.2.2.1 bt2202.2.2.2.2.1 bt2202.2.2.2.2.2.1 bt2202.2.2.2.2.2.2.1 bt2202.2.2.2.2.2.2.2 bt2222.1 bt2222.2.1 bt2222.2.2.1 bt2222.2.2.2.1 bt2222.2.2.2.2.1 bt2222.2.2.2.2.2.1 bt2222.2.2.2.2.2.2.1 bt2222.2.2.2.2.2.2.2).bind fun t2234 => (if t2234 = true then ((laws_toActS.f k l1).bind fun t2235 => ((laws_eqActS.f k t2215 t2235).bind fun t2238 => (if t2238 = true then ((laws_toIntS.f k l2).bind fun t2239 => ((laws_eqIntS.f k t2218 t2239).bind fun t2242 => (if t2242 = true then (some true) else (some false)))) else (some false)))) else (some false)))))))))))))))))
end Go.Proofs.YtkindoepnganmaaGreat.F
end

section
namespace Go.Proofs.YtkindoepnganmaaGreat.F
open Go.RowKit Go.Proofs.YtkindoepnganmaaGreatW.PrintWords Go.Proofs.YtkindoepnganmaaGreatW.PrintLast Go.Proofs.YtkindoepnganmaaGreatW.PrintMore
set_option linter.unusedVariables false
set_option linter.unusedSimpArgs false
attribute [local go_sem] max2_int min2_int max_two min_two
set_option maxRecDepth 20000 in set_option maxHeartbeats 4000000 in open Nat renaming reduceAdd → p1, reduceSub → p2, reduceMul → p3, reduceDiv → p4, reduceBNe → p5, reduceBEq → p6, reduceEqDiff → p7, reduceLeDiff → p8, reduceLT → p9 in open Int renaming reduceLE → p10, reduceLT → p11, reduceEq → p12 in
theorem laws_FnExactIsReplay.ctr {k : Nat} {a0_0 : Int} {a0_1 : Int} {a0_2 : Int} {l0_3 : List Int} {a0_4 : Int} {a0_5 : Int} {l0_6 : List Int} {a0_7 : Int} {l1 : List (SlaAct)} {l2 : List Int} {r : Bool} (h : laws_FnExactIsReplay.f k a0_0 a0_1 a0_2 l0_3 a0_4 a0_5 l0_6 a0_7 l1 l2 = some r) : Ctr Tryz.prog 10 [.ag [.v (.int .i64 a0_0), .v (.int .i64 a0_1), .v (.int .i64 a0_2), .pr 1 (l0_3.map eI), .v (.int .i64 a0_4), .v (.int .i64 a0_5), .pr 1 (l0_6.map eI), .v (.int .i64 a0_7)], .pr 3 (l1.map elaAct), .pr 1 (l2.map eI)] (.v (.bool r)) := by
  refine Ctr_of tyOk hm Tryz.func10 rfl rfl (by kernel_rfl) (n := 58) (rv := [.tmp 6]) rfl rfl ?_
  simp only [W, List.replicate]
  unfold laws_FnExactIsReplay.f at h
  replace h := ifS h; rcases h with ⟨c1, h⟩ | ⟨c1, h⟩
  · cases h
    try simp only [W, c1, p1, p2, p3, p4, p5, p6, p7, p8, p9, p10, p11, p12]
  · replace h := bnd h; obtain ⟨t2, A, h⟩ := h
    try simp only [W, c1, p1, p2, p3, p4, p5, p6, p7, p8, p9, p10, p11, p12]
    refine callR (laws_szGarden.ctr A) ?_
    replace h := ifS h; rcases h with ⟨c3, h⟩ | ⟨c3, h⟩
    · cases h
      try simp only [W, c1, c3, p1, p2, p3, p4, p5, p6, p7, p8, p9, p10, p11, p12]
    · replace h := bnd h; obtain ⟨t4, A, h⟩ := h
      try simp only [W, c1, c3, p1, p2, p3, p4, p5, p6, p7, p8, p9, p10, p11, p12]
      refine callR (laws_szActS.ctr A) ?_
      replace h := ifS h; rcases h with ⟨c5, h⟩ | ⟨c5, h⟩
      · cases h
        try simp only [W, c1, c3, c5, p1, p2, p3, p4, p5, p6, p7, p8, p9, p10, p11, p12]
      · replace h := bnd h; obtain ⟨⟨t6_1, t6_2, t6_3, t6_4, t6_5, t6_6, t6_7, t6_8⟩, A, h⟩ := h
        dsimp only at h
        try simp only [W, c1, c3, c5, p1, p2, p3, p4, p5, p6, p7, p8, p9, p10, p11, p12]
        refine callR (laws_toGarden.ctr A) ?_
        replace h := bnd h; obtain ⟨t7, A, h⟩ := h
        try simp only [W, c1, c3, c5, p1, p2, p3, p4, p5, p6, p7, p8, p9, p10, p11, p12]
        refine callR (laws_toActS.ctr A) ?_
        replace h := bnd h; obtain ⟨t8, A, h⟩ := h
        try simp only [W, c1, c3, c5, p1, p2, p3, p4, p5, p6, p7, p8, p9, p10, p11, p12]
        refine callR (laws_toIntS.ctr A) ?_
        replace h := bnd h; obtain ⟨t9, A, h⟩ := h
        try simp only [W, c1, c3, c5, p1, p2, p3, p4, p5, p6, p7, p8, p9, p10, p11, p12]
        refine callR (spec_IsReplay.ctr A) ?_
        replace h := bnd h; obtain ⟨⟨t10_1, t10_2, t10_3, t10_4, t10_5, t10_6, t10_7, t10_8⟩, A, h⟩ := h
        dsimp only at h
        try simp only [W, c1, c3, c5, p1, p2, p3, p4, p5, p6, p7, p8, p9, p10, p11, p12]
        refine callR (laws_toGarden.ctr A) ?_
        replace h := bnd h; obtain ⟨t11, A, h⟩ := h
        try simp only [W, c1, c3, c5, p1, p2, p3, p4, p5, p6, p7, p8, p9, p10, p11, p12]
        refine callR (laws_toActS.ctr A) ?_
        replace h := bnd h; obtain ⟨t12, A, h⟩ := h
        try simp only [W, c1, c3, c5, p1, p2, p3, p4, p5, p6, p7, p8, p9, p10, p11, p12]
        refine callR (laws_toIntS.ctr A) ?_
        replace h := bnd h; obtain ⟨t13, A, h⟩ := h
        try simp only [W, c1, c3, c5, p1, p2, p3, p4, p5, p6, p7, p8, p9, p10, p11, p12]
        refine callR (impl_IsReplay.ctr A) ?_
        replace h := ifT h; rcases h with ⟨c14, h⟩ | ⟨c14, h⟩
        · cases h
          try simp only [W, c1, c3, c5, c14, p1, p2, p3, p4, p5, p6, p7, p8, p9, p10, p11, p12]
        · replace h := bnd h; obtain ⟨⟨t15_1, t15_2, t15_3, t15_4, t15_5, t15_6, t15_7, t15_8⟩, A, h⟩ := h
          dsimp only at h
          try simp only [W, c1, c3, c5, c14, p1, p2, p3, p4, p5, p6, p7, p8, p9, p10, p11, p12]
          refine callR (laws_toGarden.ctr A) ?_
          replace h := bnd h; obtain ⟨t16, A, h⟩ := h
          try simp only [W, c1, c3, c5, c14, p1, p2, p3, p4, p5, p6, p7, p8, p9, p10, p11, p12]
          refine callR (laws_eqGarden.ctr A) ?_
          replace h := ifT h; rcases h with ⟨rfl, h⟩ | ⟨rfl, h⟩
          · replace h := bnd h; obtain ⟨t18, A, h⟩ := h
            try simp only [W, c1, c3, c5, c14, p1, p2, p3, p4, p5, p6, p7, p8, p9, p10, p11, p12]
            refine callR (laws_toActS.ctr A) ?_
            replace h := bnd h; obtain ⟨t19, A, h⟩ := h
            try simp only [W, c1, c3, c5, c14, p1, p2, p3, p4, p5, p6, p7, p8, p9, p10, p11, p12]
            refine callR (laws_eqActS.ctr A) ?_
            replace h := ifT h; rcases h with ⟨rfl, h⟩ | ⟨rfl, h⟩
            · replace h := bnd h; obtain ⟨t21, A, h⟩ := h
              try simp only [W, c1, c3, c5, c14, p1, p2, p3, p4, p5, p6, p7, p8, p9, p10, p11, p12]
              refine callR (laws_toIntS.ctr A) ?_
              replace h := bnd h; obtain ⟨t22, A, h⟩ := h
              try simp only [W, c1, c3, c5, c14, p1, p2, p3, p4, p5, p6, p7, p8, p9, p10, p11, p12]
              refine callR (laws_eqIntS.ctr A) ?_
              replace h := ifT h; rcases h with ⟨rfl, h⟩ | ⟨rfl, h⟩
              · cases h
                try simp only [W, c1, c3, c5, c14, p1, p2, p3, p4, p5, p6, p7, p8, p9, p10, p11, p12]
              · cases h
                try simp only [W, c1, c3, c5, c14, p1, p2, p3, p4, p5, p6, p7, p8, p9, p10, p11, p12]
            · cases h
              try simp only [W, c1, c3, c5, c14, p1, p2, p3, p4, p5, p6, p7, p8, p9, p10, p11, p12]
          · cases h
            try simp only [W, c1, c3, c5, c14, p1, p2, p3, p4, p5, p6, p7, p8, p9, p10, p11, p12]
theorem laws_FnExactIsReplay.calls (k : Nat) (a0_0 : Int) (a0_1 : Int) (a0_2 : Int) (A0_3 : Option Addr) (c0_3 : Nat) (l0_3 : List Int) (a0_4 : Int) (a0_5 : Int) (A0_6 : Option Addr) (c0_6 : Nat) (l0_6 : List Int) (a0_7 : Int) (A1 : Option Addr) (c1 : Nat) (l1 : List (SlaAct)) (A2 : Option Addr) (c2 : Nat) (l2 : List Int) (w : World) (hr0_3 : Kd.C (Kd.int .i64) w A0_3 l0_3.length l0_3) (hc0_3 : l0_3.length ≤ c0_3) (hr0_6 : Kd.C (Kd.int .i64) w A0_6 l0_6.length l0_6) (hc0_6 : l0_6.length ≤ c0_6) (hr1 : Kd.C k50 w A1 l1.length l1) (hc1 : l1.length ≤ c1) (hr2 : Kd.C (Kd.int .i64) w A2 l2.length l2) (hc2 : l2.length ≤ c2) (h : laws_FnExactIsReplay.f k a0_0 a0_1 a0_2 l0_3 a0_4 a0_5 l0_6 a0_7 l1 l2 = some true) :
    Calls Tryz.prog 10 #[.agg #[.int .i64 a0_0, .int .i64 a0_1, .int .i64 a0_2, .slice A0_3 l0_3.length c0_3, .int .i64 a0_4, .int .i64 a0_5, .slice A0_6 l0_6.length c0_6, .int .i64 a0_7], .slice A1 l1.length c1, .slice A2 l2.length c2] w fun e w' => e = .returned (.bool true) ∧ Below w.heap.size w w' := by
  refine ((laws_FnExactIsReplay.ctr h).2 w [.agg #[.int .i64 a0_0, .int .i64 a0_1, .int .i64 a0_2, .slice A0_3 l0_3.length c0_3, .int .i64 a0_4, .int .i64 a0_5, .slice A0_6 l0_6.length c0_6, .int .i64 a0_7], .slice A1 l1.length c1, .slice A2 l2.length c2] (by simp only [RepL, Rep]; exact ⟨_, _, rfl, ⟨_, rfl, _, _, rfl, rfl, _, _, rfl, rfl, _, _, rfl, rfl, _, _, rfl, at_of_C E_eI hr0_3 hc0_3, _, _, rfl, rfl, _, _, rfl, rfl, _, _, rfl, at_of_C E_eI hr0_6 hc0_6, _, _, rfl, rfl, rfl⟩, _, _, rfl, at_of_C E_elaAct hr1 hc1, _, _, rfl, at_of_C E_eI hr2 hc2, rfl⟩)).mono ?_
  rintro _ _ ⟨y, L, rfl, hR, _, hb⟩
  exact ⟨congrArg Ending.returned (RepR_pln rfl hR).1, hb⟩
end Go.Proofs.YtkindoepnganmaaGreat.F
end
