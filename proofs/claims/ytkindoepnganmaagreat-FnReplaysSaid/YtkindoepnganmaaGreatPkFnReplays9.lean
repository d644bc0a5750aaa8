/- Packed by a program of the session (wip/tools/pack.py): what the claim's theorem reaches, of the texts that wip/ and the kit's printer lay. -/
import Derived.Test.YtkindoepnganmaaGreatPkFnReplays8
section
namespace Go.Proofs.YtkindoepnganmaaGreat.F
open Go.RowKit Go.Proofs.YtkindoepnganmaaGreatW.PrintWords Go.Proofs.YtkindoepnganmaaGreatW.PrintLast Go.Proofs.YtkindoepnganmaaGreatW.PrintMore
set_option linter.unusedVariables false
set_option linter.unusedSimpArgs false
attribute [local go_sem] max2_int min2_int max_two min_two
def impl_DoAct.T18 : Bool × List (List Nat × List Nat) := (true, [([], []), ([], []), ([1], [1]), ([2], [2]), ([], []), ([], []), ([5], [5]), ([3, 4, 6, 3], [3, 4, 6]), ([0, 7], [0, 7]), ([8, 7, 0, 1, 2, 3, 4, 5, 6, 7, 8], [0, 8])])
def impl_DoAct.B18 : List Nat := [0, 0, 2, 6, 0, 0, 32, 126, 255, 511]
theorem impl_DoAct.tab18 : rtab .any (opsOf Tryz.f32 18) = impl_DoAct.T18 := by kernel_rfl
theorem impl_DoAct.bits18 : waitsOk impl_DoAct.T18.2 impl_DoAct.B18 = true := by kernel_rfl
set_option maxHeartbeats 8000000 in
set_option maxRecDepth 100000 in
theorem impl_DoAct.calls (k : Nat) (a0_0 : Int) (a0_1 : Int) (a0_2 : Int) (A0_3 : Option Addr) (c0_3 : Nat) (l0_3 : List Int) (a0_4 : Int) (a0_5 : Int) (A0_6 : Option Addr) (c0_6 : Nat) (l0_6 : List Int) (a0_7 : Int) (a1_0 : Int) (a1_1 : Int) (a1_2 : Int) (r1 : Int) (r2 : Int) (r3 : Int) (r4 : List Int) (r5 : Int) (r6 : Int) (r7 : List Int) (r8 : Int) (r9 : Int) (w : World) (hr0_3 : Kd.C (Kd.int .i64) w A0_3 l0_3.length l0_3) (hc0_3 : l0_3.length ≤ c0_3) (hr0_6 : Kd.C (Kd.int .i64) w A0_6 l0_6.length l0_6) (hc0_6 : l0_6.length ≤ c0_6) (h : impl_DoAct.f k a0_0 a0_1 a0_2 l0_3 a0_4 a0_5 l0_6 a0_7 a1_0 a1_1 a1_2 = some (r1, r2, r3, r4, r5, r6, r7, r8, r9)) :
  Calls Tryz.prog 32 #[.agg #[.int .i64 a0_0, .int .i64 a0_1, .int .i64 a0_2, .slice A0_3 l0_3.length c0_3, .int .i64 a0_4, .int .i64 a0_5, .slice A0_6 l0_6.length c0_6, .int .i64 a0_7], .agg #[.int .i64 a1_0, .int .i64 a1_1, .int .i64 a1_2]] w fun e w' => ∃ v3_ v6_ : Value, e = .returned (.tuple #[.agg #[.int .i64 r1, .int .i64 r2, .int .i64 r3, v3_, .int .i64 r5, .int .i64 r6, v6_, .int .i64 r8], .int .i64 r9]) ∧ Kd.R (Kd.int .i64) 3 w' w.heap.size (fun k_ => some k_ ≠ (v6_ : Value).ownBlock) v3_ r4 ∧ Kd.R (Kd.int .i64) 3 w' w.heap.size (fun k_ => some k_ ≠ (v3_ : Value).ownBlock) v6_ r7 ∧ Below w.heap.size w w' := by
 have hu38 := Tryz.underlying38
 have hu53 := Tryz.underlying53
 have hu36 := Tryz.underlying36
 have HR0_3 := aK hr0_3
 have HC0_3 := aK hc0_3
 clear hr0_3 hc0_3
 have HR0_6 := aK hr0_6
 have HC0_6 := aK hc0_6
 clear hr0_6 hc0_6
 have HB := aK (Below.refl w.heap.size w)
 have H : ((impl_GardenOk.f k a0_0 a0_1 a0_2 l0_3 a0_4 a0_5 l0_6 a0_7).bind fun t1640 => (if t1640 = true then ((impl_ActOk.f k a1_0 a1_1 a1_2).bind fun t1641 => (impl_DoAct.j0 k (!t1641) a0_0 a0_1 a0_2 l0_3 a0_4 a0_5 l0_6 a0_7 a1_0 a1_1 a1_2)) else (impl_DoAct.j0 k true a0_0 a0_1 a0_2 l0_3 a0_4 a0_5 l0_6 a0_7 a1_0 a1_1 a1_2))) = some (r1, r2, r3, r4, r5, r6, r7, r8, r9) := h
 clear h
 have HC3 := aK H
 clear H
 go_enter Tryz.func32, Tryz.ntmps32
 go_upto_region 1 with (first | ((with_reducible refine gate_dst (N := 2) rfl ?_); refine box_event ?hg (N := 2) ?hd (cs := #[.int .i64 a0_0, .int .i64 a0_1, .int .i64 a0_2, .slice A0_3 l0_3.length c0_3, .int .i64 a0_4, .int .i64 a0_5, .slice A0_6 l0_6.length c0_6, .int .i64 a0_7]) (t := 38) ?hr ?_; (case hd => rfl); (case hg => rfl); (case hr => first | (go_simp; done) | (go_simp; rfl)); intro gb1637 hg w4 hbox hb; have BK1637 := aK (hbox); have GW1637 := aK ((by rw [hg]; exact (bSz (zH0 HB)) : w.heap.size ≤ gb1637)); replace HB := aK (bSp (zH0 HB) hb); have GE1637 := GW1637; clear hb hbox hg) | ((with_reducible refine gate_dst (N := 3) rfl ?_); refine box_event ?hg (N := 3) ?hd (cs := #[.int .i64 a1_0, .int .i64 a1_1, .int .i64 a1_2]) (t := 53) ?hr ?_; (case hd => rfl); (case hg => rfl); (case hr => first | (go_simp; done) | (go_simp; rfl)); intro gb1638 hg w5 hbox hb; have BK1638 := aK (hbox); have GW1638 := aK ((by rw [hg]; exact (bSz (zH1 HB GE1637)) : w.heap.size ≤ gb1638)); replace HB := aK (bSp (zH1 HB GE1637) hb); have GE1638 := GW1638; have NB1637_1638 := nbl BK1637 hg (by intro z_; (with_reducible repeat (first | refine blk_drewN ?_ _ | refine kD ?_ | refine kA ?_ _)); exact z_); replace BK1637 := zB BK1637 hb; have NB1638_1637 := nbs NB1637_1638; clear hb hbox hg) | ((with_reducible refine gate_dst (N := 4) rfl ?_); refine box_event ?hg (N := 4) ?hd (cs := #[.int .i64 0, .int .i64 0, .int .i64 0, .slice none 0 0, .int .i64 0, .int .i64 0, .slice none 0 0, .int .i64 0]) (t := 38) ?hr ?_; (case hd => rfl); (case hg => rfl); (case hr => first | (go_simp; done) | (go_simp; rfl)); intro gb1639 hg w6 hbox hb; have BK1639 := aK (hbox); have GW1639 := aK ((by rw [hg]; exact (bSz (zH2 HB GE1637 GE1638)) : w.heap.size ≤ gb1639)); replace HB := aK (bSp (zH2 HB GE1637 GE1638) hb); have GE1639 := GW1639; have NB1637_1639 := nbl BK1637 hg (by intro z_; (with_reducible repeat (first | refine blk_drewN ?_ _ | refine kD ?_ | refine kA ?_ _)); exact z_); replace BK1637 := zB BK1637 hb; have NB1639_1637 := nbs NB1637_1639; have NB1638_1639 := nbl BK1638 hg (by intro z_; (with_reducible repeat (first | refine blk_drewN ?_ _ | refine kD ?_ | refine kA ?_ _)); exact z_); replace BK1638 := zB BK1638 hb; have NB1639_1638 := nbs NB1638_1639; clear hb hbox hg))
 (try simp only [Act.put, sTA, sZ, sS])
 go_cut [16] (fun v16 wc => ∃ (kq : Nat) (x16_2 : Bool), v16 = .bool x16_2 ∧ Aside0 (impl_DoAct.j0 kq x16_2 a0_0 a0_1 a0_2 l0_3 a0_4 a0_5 l0_6 a0_7 a1_0 a1_1 a1_2 = some (r1, r2, r3, r4, r5, r6, r7, r8, r9)) ∧ Aside0 (kq ≤ k) ∧ Aside0 (wc.heap[gb1637]? = some (.cells #[.int .i64 a0_0, .int .i64 a0_1, .int .i64 a0_2, (.slice A0_3 l0_3.length c0_3), .int .i64 a0_4, .int .i64 a0_5, (.slice A0_6 l0_6.length c0_6), .int .i64 a0_7] 38 (0, 0))) ∧ Aside0 (wc.heap[gb1638]? = some (.cells #[.int .i64 a1_0, .int .i64 a1_1, .int .i64 a1_2] 53 (0, 0))) ∧ Aside0 (wc.heap[gb1639]? = some (.cells #[.int .i64 0, .int .i64 0, .int .i64 0, (.slice none 0 0), .int .i64 0, .int .i64 0, (.slice none 0 0), .int .i64 0] 38 (0, 0))) ∧ Aside0 (Below w.heap.size w wc))
 case first =>
  have H := HC3.out
  clear HC3
  replace H := Option.bind_eq_some_iff.mp H
  obtain ⟨t1640, A70, H⟩ := H
  replace H : (if t1640 = true then ((impl_ActOk.f k a1_0 a1_1 a1_2).bind fun t1641 => (impl_DoAct.j0 k (!t1641) a0_0 a0_1 a0_2 l0_3 a0_4 a0_5 l0_6 a0_7 a1_0 a1_1 a1_2)) else (impl_DoAct.j0 k true a0_0 a0_1 a0_2 l0_3 a0_4 a0_5 l0_6 a0_7 a1_0 a1_1 a1_2)) = some (r1, r2, r3, r4, r5, r6, r7, r8, r9) := H
  have A7 := aK A70
  clear A70
  by_cases c8 : t1640 = true
  ·subst c8
   have H1 : ((impl_ActOk.f k a1_0 a1_1 a1_2).bind fun t1641 => (impl_DoAct.j0 k (!t1641) a0_0 a0_1 a0_2 l0_3 a0_4 a0_5 l0_6 a0_7 a1_0 a1_1 a1_2)) = some (r1, r2, r3, r4, r5, r6, r7, r8, r9) := by rw [if_pos rfl] at H; exact H
   clear H
   have H := H1
   clear H1
   replace H := Option.bind_eq_some_iff.mp H
   obtain ⟨t1641, A90, H⟩ := H
   replace H : (impl_DoAct.j0 k (!t1641) a0_0 a0_1 a0_2 l0_3 a0_4 a0_5 l0_6 a0_7 a1_0 a1_1 a1_2) = some (r1, r2, r3, r4, r5, r6, r7, r8, r9) := H
   have A9 := aK A90
   clear A90
   have H' := aK H
   clear H
   have hnb10 := NB1637_1638.out
   have hnc10 := NB1638_1637.out
   have hnb11 := NB1637_1639.out
   have hnc11 := NB1639_1637.out
   obtain ⟨hcz12_0, hcz12_1, hcz12_2, hcz12_3, hcz12_4, hcz12_5, hcz12_6, hcz12_7, hfz12_0, hfz12_1, hfz12_2, hfz12_3, hfz12_4, hfz12_5, hfz12_6, hfz12_7⟩ := cl8 BK1637.out
   go_wp2_with (first | ((with_reducible refine gate_callee (f := 48) rfl ?_); refine goesL_ (some 10) rfl rfl Tryz.func48 (by kernel_rfl) rfl #[.agg #[.int .i64 a0_0, .int .i64 a0_1, .int .i64 a0_2, .slice A0_3 l0_3.length c0_3, .int .i64 a0_4, .int .i64 a0_5, .slice A0_6 l0_6.length c0_6, .int .i64 a0_7]] rfl zD ?_; (with_reducible refine (impl_GardenOk.calls k a0_0 a0_1 a0_2 _ _ l0_3 a0_4 a0_5 _ _ l0_6 a0_7 true _ ?side1 ?side2 ?side3 ?side4 A7.out).mono ?_); (case side1 => exact zC (Kd.C_below HR0_3.out HB.out)); (case side2 => exact HC0_3.out); (case side3 => exact zC (Kd.C_below HR0_6.out HB.out)); (case side4 => exact HC0_6.out); rintro e w13 ⟨rfl, hb⟩; refine ⟨_, rfl, ?_⟩; replace BK1637 := zB BK1637 hb; replace BK1638 := zB BK1638 hb; replace BK1639 := zB BK1639 hb; replace HB := aK (bSp (zH3 HB GE1637 GE1638 GE1639) hb); (try clear hb); (try clear hb2); (try clear hk); (try clear hi); have hnb14 := NB1638_1639.out; have hnc14 := NB1639_1638.out; obtain ⟨hcz15_0, hcz15_1, hcz15_2, hfz15_0, hfz15_1, hfz15_2⟩ := cl3 BK1638.out) | (go_at_call 86; (with_reducible refine (impl_ActOk.calls k a1_0 a1_1 a1_2 t1641 _ A9.out).mono ?_); rintro e w16 ⟨rfl, hb⟩; replace BK1637 := zB BK1637 hb; replace BK1638 := zB BK1638 hb; replace BK1639 := zB BK1639 hb; replace HB := aK (bSp (zH3 HB GE1637 GE1638 GE1639) hb); (try clear hb); (try clear hb2); (try clear hk); (try clear hi)))
   go_meet
   case rel => exact ⟨_, (!t1641), (by first | rfl | (simp; done) | (simp [*]; done)), H', ⟨by first | omega | exact Nat.le_refl _⟩, ⟨zK BK1637⟩, ⟨zK BK1638⟩, ⟨zK BK1639⟩, ⟨zH3 HB GE1637 GE1638 GE1639⟩⟩
  ·replace c8 := Bool.eq_false_iff.mpr c8
   subst c8
   have H1 : (impl_DoAct.j0 k true a0_0 a0_1 a0_2 l0_3 a0_4 a0_5 l0_6 a0_7 a1_0 a1_1 a1_2) = some (r1, r2, r3, r4, r5, r6, r7, r8, r9) := by rw [if_neg (show ¬ (false = true) by decide)] at H; exact H
   clear H
   have H := H1
   clear H1
   have H' := aK H
   clear H
   have hnb17 := NB1637_1638.out
   have hnc17 := NB1638_1637.out
   have hnb18 := NB1637_1639.out
   have hnc18 := NB1639_1637.out
   obtain ⟨hcz19_0, hcz19_1, hcz19_2, hcz19_3, hcz19_4, hcz19_5, hcz19_6, hcz19_7, hfz19_0, hfz19_1, hfz19_2, hfz19_3, hfz19_4, hfz19_5, hfz19_6, hfz19_7⟩ := cl8 BK1637.out
   go_wp2_with (first | ((with_reducible refine gate_callee (f := 48) rfl ?_); refine goesL_ (some 10) rfl rfl Tryz.func48 (by kernel_rfl) rfl #[.agg #[.int .i64 a0_0, .int .i64 a0_1, .int .i64 a0_2, .slice A0_3 l0_3.length c0_3, .int .i64 a0_4, .int .i64 a0_5, .slice A0_6 l0_6.length c0_6, .int .i64 a0_7]] rfl zD ?_; (with_reducible refine (impl_GardenOk.calls k a0_0 a0_1 a0_2 _ _ l0_3 a0_4 a0_5 _ _ l0_6 a0_7 false _ ?side1 ?side2 ?side3 ?side4 A7.out).mono ?_); (case side1 => exact zC (Kd.C_below HR0_3.out HB.out)); (case side2 => exact HC0_3.out); (case side3 => exact zC (Kd.C_below HR0_6.out HB.out)); (case side4 => exact HC0_6.out); rintro e w20 ⟨rfl, hb⟩; refine ⟨_, rfl, ?_⟩; replace BK1637 := zB BK1637 hb; replace BK1638 := zB BK1638 hb; replace BK1639 := zB BK1639 hb; replace HB := aK (bSp (zH3 HB GE1637 GE1638 GE1639) hb); (try clear hb); (try clear hb2); (try clear hk); (try clear hi)))
   go_meet
   case rel => exact ⟨_, (true), (by first | rfl | (simp; done) | (simp [*]; done)), H', ⟨by first | omega | exact Nat.le_refl _⟩, ⟨zK BK1637⟩, ⟨zK BK1638⟩, ⟨zK BK1639⟩, ⟨zH3 HB GE1637 GE1638 GE1639⟩⟩
 case rest =>
  clear HC3
  try clear c1
  try clear p2
  try clear c3
  try clear c4
  try clear c8
  try clear c10
  try clear c11
  try clear c14
  try clear c17
  try clear c18
  try clear hcz12_0
  try clear hcz12_1
  try clear hcz12_2
  try clear hcz12_3
  try clear hcz12_4
  try clear hcz12_5
  try clear hcz12_6
  try clear hcz12_7
  try clear hcz15_0
  try clear hcz15_1
  try clear hcz15_2
  try clear hcz19_0
  try clear hcz19_1
  try clear hcz19_2
  try clear hcz19_3
  try clear hcz19_4
  try clear hcz19_5
  try clear hcz19_6
  try clear hcz19_7
  try clear hfz12_0
  try clear hfz12_1
  try clear hfz12_2
  try clear hfz12_3
  try clear hfz12_4
  try clear hfz12_5
  try clear hfz12_6
  try clear hfz12_7
  try clear hfz15_0
  try clear hfz15_1
  try clear hfz15_2
  try clear hfz19_0
  try clear hfz19_1
  try clear hfz19_2
  try clear hfz19_3
  try clear hfz19_4
  try clear hfz19_5
  try clear hfz19_6
  try clear hfz19_7
  obtain ⟨kq, x16_2, rfl, HA, HJ2, BK1637, BK1638, BK1639, HB⟩ := hcut
  cases kq with
  | zero => exact absurd HA.out (by simp [impl_DoAct.j0])
  | succ kj2 =>
   have H := HA.out
   clear HA
   simp only [impl_DoAct.j0] at H
   by_cases c21 : x16_2 = true
   ·subst c21
    have H1 : ((impl_copyGarden.f a0_0 a0_1 a0_2 l0_3 a0_4 a0_5 l0_6 a0_7).bind fun bt1642 => (some (bt1642.1, bt1642.2.1, bt1642.2.2.1, bt1642.2.2.2.1, bt1642.2.2.2.2.1, bt1642.2.2.2.2.2.1, bt1642.2.2.2.2.2.2.1, bt1642.2.2.2.2.2.2.2, (-1)))) = some (r1, r2, r3, r4, r5, r6, r7, r8, r9) := by rw [if_pos rfl] at H; exact H
    clear H
    have H := H1
    clear H1
    replace H := Option.bind_eq_some_iff.mp H
    obtain ⟨⟨t1642, t1643, t1644, t1645, t1648, t1649, t1650, t1653⟩, A220, H⟩ := H
    replace H : (some (t1642, t1643, t1644, t1645, t1648, t1649, t1650, t1653, (-1))) = some (r1, r2, r3, r4, r5, r6, r7, r8, r9) := H
    have A22 := aK A220
    clear A220
    simp only [Option.some.injEq, Prod.mk.injEq] at H
    obtain ⟨rfl, rfl, rfl, rfl, rfl, rfl, rfl, rfl, rfl⟩ := H
    have hnb23 := NB1637_1638.out
    have hnc23 := NB1638_1637.out
    have hnb24 := NB1637_1639.out
    have hnc24 := NB1639_1637.out
    obtain ⟨hcz25_0, hcz25_1, hcz25_2, hcz25_3, hcz25_4, hcz25_5, hcz25_6, hcz25_7, hfz25_0, hfz25_1, hfz25_2, hfz25_3, hfz25_4, hfz25_5, hfz25_6, hfz25_7⟩ := cl8 BK1637.out
    go_wp2_with (first | ((with_reducible refine gate_callee (f := 64) rfl ?_); refine goesL_ (some 18) rfl rfl Tryz.func64 (by kernel_rfl) rfl #[.agg #[.int .i64 a0_0, .int .i64 a0_1, .int .i64 a0_2, .slice A0_3 l0_3.length c0_3, .int .i64 a0_4, .int .i64 a0_5, .slice A0_6 l0_6.length c0_6, .int .i64 a0_7]] rfl zD ?_; (with_reducible refine (impl_copyGarden.calls a0_0 a0_1 a0_2 _ _ l0_3 a0_4 a0_5 _ _ l0_6 a0_7 t1642 t1643 t1644 t1645 t1648 t1649 t1650 t1653 _ ?side1 ?side2 ?side3 ?side4 A22.out).mono ?_); (case side1 => exact zC (Kd.C_below HR0_3.out HB.out)); (case side2 => exact HC0_3.out); (case side3 => exact zC (Kd.C_below HR0_6.out HB.out)); (case side4 => exact HC0_6.out); rintro e w26 ⟨v1646, v1651, rfl, ho0, ho1, hb⟩; refine ⟨_, rfl, ?_⟩; have HO1647 := aK (Kd.R_lower ho0 (bSz (zH3 HB GE1637 GE1638 GE1639))); have HO1652 := aK (Kd.R_lower ho1 (bSz (zH3 HB GE1637 GE1638 GE1639))); replace BK1637 := zB BK1637 hb; replace BK1638 := zB BK1638 hb; replace BK1639 := zB BK1639 hb; replace HB := aK (bSp (zH3 HB GE1637 GE1638 GE1639) hb); (try clear hb); (try clear hb2); (try clear hk); (try clear hi); (try clear ho0); (try clear ho1); have hnb27 := NB1639_1638.out; have hnc27 := NB1638_1639.out; obtain ⟨hcz28_0, hcz28_1, hcz28_2, hcz28_3, hcz28_4, hcz28_5, hcz28_6, hcz28_7, hfz28_0, hfz28_1, hfz28_2, hfz28_3, hfz28_4, hfz28_5, hfz28_6, hfz28_7⟩ := cl8 BK1639.out; obtain ⟨Ao29, co29, eo29⟩ := Kd.R_slice HO1647.out; subst eo29; obtain ⟨Ao30, co30, eo30⟩ := Kd.R_slice HO1652.out; subst eo30))
    refine bodyPost_ret (results_ct rfl _ _ gb1639 38 #[.int .i64 t1642, .int .i64 t1643, .int .i64 t1644, .slice Ao29 t1645.length co29, .int .i64 t1648, .int .i64 t1649, .slice Ao30 t1650.length co30, .int .i64 t1653] (0, 0) _ rfl (by (with_reducible repeat (first | refine blk_drewN ?_ _ | refine kD ?_ | refine kA ?_ _)); refine blk_put (cs := #[.int .i64 t1642, .int .i64 t1643, .int .i64 t1644, .slice Ao29 t1645.length co29, .int .i64 t1648, .int .i64 t1649, .slice Ao30 t1650.length co30, .int .i64 0]) ?_ 7 _ rfl; (with_reducible repeat (first | refine blk_drewN ?_ _ | refine kD ?_ | refine kA ?_ _)); refine blk_put (cs := #[.int .i64 t1642, .int .i64 t1643, .int .i64 t1644, .slice Ao29 t1645.length co29, .int .i64 t1648, .int .i64 t1649, .slice none 0 0, .int .i64 0]) ?_ 6 _ rfl; (with_reducible repeat (first | refine blk_drewN ?_ _ | refine kD ?_ | refine kA ?_ _)); refine blk_put (cs := #[.int .i64 t1642, .int .i64 t1643, .int .i64 t1644, .slice Ao29 t1645.length co29, .int .i64 t1648, .int .i64 0, .slice none 0 0, .int .i64 0]) ?_ 5 _ rfl; (with_reducible repeat (first | refine blk_drewN ?_ _ | refine kD ?_ | refine kA ?_ _)); refine blk_put (cs := #[.int .i64 t1642, .int .i64 t1643, .int .i64 t1644, .slice Ao29 t1645.length co29, .int .i64 0, .int .i64 0, .slice none 0 0, .int .i64 0]) ?_ 4 _ rfl; (with_reducible repeat (first | refine blk_drewN ?_ _ | refine kD ?_ | refine kA ?_ _)); refine blk_put (cs := #[.int .i64 t1642, .int .i64 t1643, .int .i64 t1644, .slice none 0 0, .int .i64 0, .int .i64 0, .slice none 0 0, .int .i64 0]) ?_ 3 _ rfl; (with_reducible repeat (first | refine blk_drewN ?_ _ | refine kD ?_ | refine kA ?_ _)); refine blk_put (cs := #[.int .i64 t1642, .int .i64 t1643, .int .i64 0, .slice none 0 0, .int .i64 0, .int .i64 0, .slice none 0 0, .int .i64 0]) ?_ 2 _ rfl; (with_reducible repeat (first | refine blk_drewN ?_ _ | refine kD ?_ | refine kA ?_ _)); refine blk_put (cs := #[.int .i64 t1642, .int .i64 0, .int .i64 0, .slice none 0 0, .int .i64 0, .int .i64 0, .slice none 0 0, .int .i64 0]) ?_ 1 _ rfl; (with_reducible repeat (first | refine blk_drewN ?_ _ | refine kD ?_ | refine kA ?_ _)); refine blk_put (cs := #[.int .i64 0, .int .i64 0, .int .i64 0, .slice none 0 0, .int .i64 0, .int .i64 0, .slice none 0 0, .int .i64 0]) ?_ 0 _ rfl; (with_reducible repeat (first | refine blk_drewN ?_ _ | refine kD ?_ | refine kA ?_ _)); exact BK1639.out) Tryz.underlying38 rfl (by kernel_rfl)) rfl ?_
    exact ⟨_, _, by first | rfl | (simp [errW_none, errW_some] <;> rfl) | (simp [*, errW_none, errW_some] <;> rfl), by (with_reducible repeat (first | apply Kd.R_alloc | apply Kd.R_drewN | apply Kd.R_drew)); exact Kd.R_mono (zT8 HO1647 BK1639 (.int .i64 t1642) (.int .i64 t1643) (.int .i64 t1644) (.slice Ao29 t1645.length co29) (.int .i64 t1648) (.int .i64 t1649) (.slice Ao30 t1650.length co30) (.int .i64 t1653)) (fun _ hk => hk.1), by (with_reducible repeat (first | apply Kd.R_alloc | apply Kd.R_drewN | apply Kd.R_drew)); exact Kd.R_mono (zT8 HO1652 BK1639 (.int .i64 t1642) (.int .i64 t1643) (.int .i64 t1644) (.slice Ao29 t1645.length co29) (.int .i64 t1648) (.int .i64 t1649) (.slice Ao30 t1650.length co30) (.int .i64 t1653)) (fun _ hk => hk.1), by repeat (first | (with_reducible first | exact HB.out | apply bAl | apply bDN | apply bD1 | refine bSt ?_ GE1637.out | refine bSt ?_ GE1638.out | refine bSt ?_ GE1639.out) | exact HB.out)⟩
   ·replace c21 := Bool.eq_false_iff.mpr c21
    subst c21
    have H1 : (if a1_0 = 1 then ((impl_NextDay.f kj2 a0_0 a0_1 a0_2 l0_3 a0_4 a0_5 l0_6 a0_7 a1_1).bind fun bt1654 => ((impl_done.f bt1654.1 bt1654.2.1 bt1654.2.2.1 bt1654.2.2.2.1 bt1654.2.2.2.2.1 bt1654.2.2.2.2.2.1 bt1654.2.2.2.2.2.2.1 bt1654.2.2.2.2.2.2.2.1 bt1654.2.2.2.2.2.2.2.2).bind fun bt1667 => (some (bt1667.1, bt1667.2.1, bt1667.2.2.1, bt1667.2.2.2.1, bt1667.2.2.2.2.1, bt1667.2.2.2.2.2.1, bt1667.2.2.2.2.2.2.1, bt1667.2.2.2.2.2.2.2.1, bt1667.2.2.2.2.2.2.2.2)))) else (if a1_0 = 2 then ((impl_Enter.f kj2 a0_0 a0_1 a0_2 l0_3 a0_4 a0_5 l0_6 a0_7).bind fun bt1680 => ((impl_done.f bt1680.1 bt1680.2.1 bt1680.2.2.1 bt1680.2.2.2.1 bt1680.2.2.2.2.1 bt1680.2.2.2.2.2.1 bt1680.2.2.2.2.2.2.1 bt1680.2.2.2.2.2.2.2.1 bt1680.2.2.2.2.2.2.2.2).bind fun bt1693 => (some (bt1693.1, bt1693.2.1, bt1693.2.2.1, bt1693.2.2.2.1, bt1693.2.2.2.2.1, bt1693.2.2.2.2.2.1, bt1693.2.2.2.2.2.2.1, bt1693.2.2.2.2.2.2.2.1, bt1693.2.2.2.2.2.2.2.2)))) else (if a1_0 = 3 then ((impl_WalkIn.f kj2 a0_0 a0_1 a0_2 l0_3 a0_4 a0_5 l0_6 a0_7 a1_1 a1_2).bind fun bt1706 => ((impl_done.f bt1706.1 bt1706.2.1 bt1706.2.2.1 bt1706.2.2.2.1 bt1706.2.2.2.2.1 bt1706.2.2.2.2.2.1 bt1706.2.2.2.2.2.2.1 bt1706.2.2.2.2.2.2.2.1 bt1706.2.2.2.2.2.2.2.2).bind fun bt1719 => (some (bt1719.1, bt1719.2.1, bt1719.2.2.1, bt1719.2.2.2.1, bt1719.2.2.2.2.1, bt1719.2.2.2.2.2.1, bt1719.2.2.2.2.2.2.1, bt1719.2.2.2.2.2.2.2.1, bt1719.2.2.2.2.2.2.2.2)))) else (if a1_0 = 4 then ((impl_Leave.f kj2 a0_0 a0_1 a0_2 l0_3 a0_4 a0_5 l0_6 a0_7).bind fun bt1732 => ((impl_done.f bt1732.1 bt1732.2.1 bt1732.2.2.1 bt1732.2.2.2.1 bt1732.2.2.2.2.1 bt1732.2.2.2.2.2.1 bt1732.2.2.2.2.2.2.1 bt1732.2.2.2.2.2.2.2.1 bt1732.2.2.2.2.2.2.2.2).bind fun bt1745 => (some (bt1745.1, bt1745.2.1, bt1745.2.2.1, bt1745.2.2.2.1, bt1745.2.2.2.2.1, bt1745.2.2.2.2.2.1, bt1745.2.2.2.2.2.2.1, bt1745.2.2.2.2.2.2.2.1, bt1745.2.2.2.2.2.2.2.2)))) else (if a1_0 = 5 then ((impl_Guide.f kj2 a0_0 a0_1 a0_2 l0_3 a0_4 a0_5 l0_6 a0_7 a1_1).bind fun bt1758 => ((impl_done.f bt1758.1 bt1758.2.1 bt1758.2.2.1 bt1758.2.2.2.1 bt1758.2.2.2.2.1 bt1758.2.2.2.2.2.1 bt1758.2.2.2.2.2.2.1 bt1758.2.2.2.2.2.2.2.1 bt1758.2.2.2.2.2.2.2.2).bind fun bt1771 => (some (bt1771.1, bt1771.2.1, bt1771.2.2.1, bt1771.2.2.2.1, bt1771.2.2.2.2.1, bt1771.2.2.2.2.2.1, bt1771.2.2.2.2.2.2.1, bt1771.2.2.2.2.2.2.2.1, bt1771.2.2.2.2.2.2.2.2)))) else (impl_DoAct.l0 kj2 0 l0_6 (l0_6.length : Int) 0 a0_0 a0_1 a0_2 l0_3 a0_4 a0_5 l0_6 a0_7)))))) = some (r1, r2, r3, r4, r5, r6, r7, r8, r9) := by rw [if_neg (show ¬ (false = true) by decide)] at H; exact H
    clear H
    have H := H1
    clear H1
    by_cases c31 : a1_0 = 1
    ·rw [if_pos c31] at H
     have c31b0 : (a1_0 == 1) = true := beq_iff_eq.mpr c31
     have c31b1 : (a1_0 != 1) = false := bne_eq_false_iff_eq.mpr c31
     clear c31
     replace H := Option.bind_eq_some_iff.mp H
     obtain ⟨⟨t1654, t1655, t1656, t1657, t1660, t1661, t1662, t1665, t1666⟩, A320, H⟩ := H
     replace H : ((impl_done.f t1654 t1655 t1656 t1657 t1660 t1661 t1662 t1665 t1666).bind fun bt1667 => (some (bt1667.1, bt1667.2.1, bt1667.2.2.1, bt1667.2.2.2.1, bt1667.2.2.2.2.1, bt1667.2.2.2.2.2.1, bt1667.2.2.2.2.2.2.1, bt1667.2.2.2.2.2.2.2.1, bt1667.2.2.2.2.2.2.2.2))) = some (r1, r2, r3, r4, r5, r6, r7, r8, r9) := H
     have A32 := aK A320
     clear A320
     replace H := Option.bind_eq_some_iff.mp H
     obtain ⟨⟨t1667, t1668, t1669, t1670, t1673, t1674, t1675, t1678, t1679⟩, A330, H⟩ := H
     replace H : (some (t1667, t1668, t1669, t1670, t1673, t1674, t1675, t1678, t1679)) = some (r1, r2, r3, r4, r5, r6, r7, r8, r9) := H
     have A33 := aK A330
     clear A330
     simp only [Option.some.injEq, Prod.mk.injEq] at H
     obtain ⟨rfl, rfl, rfl, rfl, rfl, rfl, rfl, rfl, rfl⟩ := H
     have hnb34 := NB1638_1637.out
     have hnc34 := NB1637_1638.out
     have hnb35 := NB1638_1639.out
     have hnc35 := NB1639_1638.out
     obtain ⟨hcz36_0, hcz36_1, hcz36_2, hfz36_0, hfz36_1, hfz36_2⟩ := cl3 BK1638.out
     have hnb37 := NB1637_1639.out
     have hnc37 := NB1639_1637.out
     obtain ⟨hcz38_0, hcz38_1, hcz38_2, hcz38_3, hcz38_4, hcz38_5, hcz38_6, hcz38_7, hfz38_0, hfz38_1, hfz38_2, hfz38_3, hfz38_4, hfz38_5, hfz38_6, hfz38_7⟩ := cl8 BK1637.out
     go_wp2_with (first | ((with_reducible refine gate_callee (f := 27) rfl ?_); refine goesL_ (some 26) rfl rfl Tryz.func27 (by kernel_rfl) rfl #[.agg #[.int .i64 a0_0, .int .i64 a0_1, .int .i64 a0_2, .slice A0_3 l0_3.length c0_3, .int .i64 a0_4, .int .i64 a0_5, .slice A0_6 l0_6.length c0_6, .int .i64 a0_7], .int .i64 a1_1] rfl zD ?_; (with_reducible refine (impl_NextDay.calls kj2 a0_0 a0_1 a0_2 _ _ l0_3 a0_4 a0_5 _ _ l0_6 a0_7 a1_1 t1654 t1655 t1656 t1657 t1660 t1661 t1662 t1665 t1666 _ ?side1 ?side2 ?side3 ?side4 A32.out).mono ?_); (case side1 => exact zC (Kd.C_below HR0_3.out HB.out)); (case side2 => exact HC0_3.out); (case side3 => exact zC (Kd.C_below HR0_6.out HB.out)); (case side4 => exact HC0_6.out); rintro e w39 ⟨v1658, v1663, rfl, ho0, ho1, hb⟩; refine ⟨_, rfl, ?_⟩; have HO1659 := aK (Kd.R_lower ho0 (bSz (zH3 HB GE1637 GE1638 GE1639))); have HO1664 := aK (Kd.R_lower ho1 (bSz (zH3 HB GE1637 GE1638 GE1639))); replace BK1637 := zB BK1637 hb; replace BK1638 := zB BK1638 hb; replace BK1639 := zB BK1639 hb; replace HB := aK (bSp (zH3 HB GE1637 GE1638 GE1639) hb); (try clear hb); (try clear hb2); (try clear hk); (try clear hi); (try clear ho0); (try clear ho1); obtain ⟨Ao40, co40, eo40⟩ := Kd.R_slice HO1659.out; subst eo40; obtain ⟨Ao41, co41, eo41⟩ := Kd.R_slice HO1664.out; subst eo41) | ((with_reducible refine gate_callee (f := 87) rfl ?_); refine goesL_ (some 29) rfl rfl Tryz.func87 (by kernel_rfl) rfl #[.agg #[.int .i64 t1654, .int .i64 t1655, .int .i64 t1656, .slice Ao40 t1657.length co40, .int .i64 t1660, .int .i64 t1661, .slice Ao41 t1662.length co41, .int .i64 t1665], .bool t1666] rfl zD ?_; (with_reducible refine (impl_done.calls t1654 t1655 t1656 (fun k_ => some k_ = (.slice Ao40 t1657.length co40 : Value).ownBlock) (.slice Ao40 t1657.length co40) t1657 t1660 t1661 (fun k_ => some k_ = (.slice Ao41 t1662.length co41 : Value).ownBlock) (.slice Ao41 t1662.length co41) t1662 t1665 t1666 t1667 t1668 t1669 t1670 t1673 t1674 t1675 t1678 t1679 w _ ?side1 ?side2 ?side3 ?side4 ?side5 A33.out).mono ?_); (case side1 => exact (zH3 HB GE1637 GE1638 GE1639)); (case side2 => exact Kd.R_tight rfl HO1659.out); (case side3 => exact fun k_ e_ => (HO1659.out.1 k_ e_.symm)); (case side4 => exact Kd.R_tight rfl HO1664.out); (case side5 => exact fun k_ e_ => (HO1664.out.1 k_ e_.symm)); rintro e w42 ⟨v1671, v1676, rfl, ho0, ho1, hb, hkp⟩; refine ⟨_, rfl, ?_⟩; have n0_ := aK (blk_kept (zK BK1637) hkp (fun hs_ => Or.elim hs_ (Kd.R_ne HO1659.out BK1637.out (by decide)) (Kd.R_ne HO1664.out BK1637.out (by decide)))); have n1_ := aK (blk_kept (zK BK1638) hkp (fun hs_ => Or.elim hs_ (Kd.R_ne HO1659.out BK1638.out (by decide)) (Kd.R_ne HO1664.out BK1638.out (by decide)))); have n2_ := aK (blk_kept (zK BK1639) hkp (fun hs_ => Or.elim hs_ (Kd.R_ne HO1659.out BK1639.out (by decide)) (Kd.R_ne HO1664.out BK1639.out (by decide)))); have n3_ := aK (Kd.R_mono (ok' := fun k_ => some k_ ≠ (v1676 : Value).ownBlock) ho0 (fun k_ hk_ => hk_.2)); have n4_ := aK (Kd.R_mono (ok' := fun k_ => some k_ ≠ (v1671 : Value).ownBlock) ho1 (fun k_ hk_ => hk_.2)); have n5_ := aK (hb); clear BK1637; clear BK1638; clear BK1639; clear HB; clear HO1659; clear HO1664; have BK1637 := n0_; have BK1638 := n1_; have BK1639 := n2_; have HO1672 := n3_; have HO1677 := n4_; have HB := n5_; clear n0_ n1_ n2_ n3_ n4_ n5_; (try clear hb); (try clear hkp); (try clear ho0); (try clear ho1); obtain ⟨hcz43_0, hcz43_1, hcz43_2, hcz43_3, hcz43_4, hcz43_5, hcz43_6, hcz43_7, hfz43_0, hfz43_1, hfz43_2, hfz43_3, hfz43_4, hfz43_5, hfz43_6, hfz43_7⟩ := cl8 BK1639.out; obtain ⟨Ao44, co44, eo44⟩ := Kd.R_slice HO1672.out; subst eo44; obtain ⟨Ao45, co45, eo45⟩ := Kd.R_slice HO1677.out; subst eo45))
     refine bodyPost_ret (results_ct rfl _ _ gb1639 38 #[.int .i64 t1667, .int .i64 t1668, .int .i64 t1669, .slice Ao44 t1670.length co44, .int .i64 t1673, .int .i64 t1674, .slice Ao45 t1675.length co45, .int .i64 t1678] (0, 0) _ rfl (by (with_reducible repeat (first | refine blk_drewN ?_ _ | refine kD ?_ | refine kA ?_ _)); refine blk_put (cs := #[.int .i64 t1667, .int .i64 t1668, .int .i64 t1669, .slice Ao44 t1670.length co44, .int .i64 t1673, .int .i64 t1674, .slice Ao45 t1675.length co45, .int .i64 0]) ?_ 7 _ rfl; (with_reducible repeat (first | refine blk_drewN ?_ _ | refine kD ?_ | refine kA ?_ _)); refine blk_put (cs := #[.int .i64 t1667, .int .i64 t1668, .int .i64 t1669, .slice Ao44 t1670.length co44, .int .i64 t1673, .int .i64 t1674, .slice none 0 0, .int .i64 0]) ?_ 6 _ rfl; (with_reducible repeat (first | refine blk_drewN ?_ _ | refine kD ?_ | refine kA ?_ _)); refine blk_put (cs := #[.int .i64 t1667, .int .i64 t1668, .int .i64 t1669, .slice Ao44 t1670.length co44, .int .i64 t1673, .int .i64 0, .slice none 0 0, .int .i64 0]) ?_ 5 _ rfl; (with_reducible repeat (first | refine blk_drewN ?_ _ | refine kD ?_ | refine kA ?_ _)); refine blk_put (cs := #[.int .i64 t1667, .int .i64 t1668, .int .i64 t1669, .slice Ao44 t1670.length co44, .int .i64 0, .int .i64 0, .slice none 0 0, .int .i64 0]) ?_ 4 _ rfl; (with_reducible repeat (first | refine blk_drewN ?_ _ | refine kD ?_ | refine kA ?_ _)); refine blk_put (cs := #[.int .i64 t1667, .int .i64 t1668, .int .i64 t1669, .slice none 0 0, .int .i64 0, .int .i64 0, .slice none 0 0, .int .i64 0]) ?_ 3 _ rfl; (with_reducible repeat (first | refine blk_drewN ?_ _ | refine kD ?_ | refine kA ?_ _)); refine blk_put (cs := #[.int .i64 t1667, .int .i64 t1668, .int .i64 0, .slice none 0 0, .int .i64 0, .int .i64 0, .slice none 0 0, .int .i64 0]) ?_ 2 _ rfl; (with_reducible repeat (first | refine blk_drewN ?_ _ | refine kD ?_ | refine kA ?_ _)); refine blk_put (cs := #[.int .i64 t1667, .int .i64 0, .int .i64 0, .slice none 0 0, .int .i64 0, .int .i64 0, .slice none 0 0, .int .i64 0]) ?_ 1 _ rfl; (with_reducible repeat (first | refine blk_drewN ?_ _ | refine kD ?_ | refine kA ?_ _)); refine blk_put (cs := #[.int .i64 0, .int .i64 0, .int .i64 0, .slice none 0 0, .int .i64 0, .int .i64 0, .slice none 0 0, .int .i64 0]) ?_ 0 _ rfl; (with_reducible repeat (first | refine blk_drewN ?_ _ | refine kD ?_ | refine kA ?_ _)); exact BK1639.out) Tryz.underlying38 rfl (by kernel_rfl)) rfl ?_
     exact ⟨_, _, by first | rfl | (simp [errW_none, errW_some] <;> rfl) | (simp [*, errW_none, errW_some] <;> rfl), by (with_reducible repeat (first | apply Kd.R_alloc | apply Kd.R_drewN | apply Kd.R_drew)); exact Kd.R_mono (zT8 HO1672 BK1639 (.int .i64 t1667) (.int .i64 t1668) (.int .i64 t1669) (.slice Ao44 t1670.length co44) (.int .i64 t1673) (.int .i64 t1674) (.slice Ao45 t1675.length co45) (.int .i64 t1678)) (fun _ hk => hk.1), by (with_reducible repeat (first | apply Kd.R_alloc | apply Kd.R_drewN | apply Kd.R_drew)); exact Kd.R_mono (zT8 HO1677 BK1639 (.int .i64 t1667) (.int .i64 t1668) (.int .i64 t1669) (.slice Ao44 t1670.length co44) (.int .i64 t1673) (.int .i64 t1674) (.slice Ao45 t1675.length co45) (.int .i64 t1678)) (fun _ hk => hk.1), by repeat (first | (with_reducible first | exact HB.out | apply bAl | apply bDN | apply bD1 | refine bSt ?_ GE1637.out | refine bSt ?_ GE1638.out | refine bSt ?_ GE1639.out) | exact HB.out)⟩
    ·rw [if_neg c31] at H
     have c31b0 : (a1_0 == 1) = false := beq_eq_false_iff_ne.mpr c31
     have c31b1 : (a1_0 != 1) = true := bne_iff_ne.mpr c31
     by_cases c46 : a1_0 = 2
     ·rw [if_pos c46] at H
      have c46b0 : (a1_0 == 2) = true := beq_iff_eq.mpr c46
      have c46b1 : (a1_0 != 2) = false := bne_eq_false_iff_eq.mpr c46
      clear c46
      replace H := Option.bind_eq_some_iff.mp H
      obtain ⟨⟨t1680, t1681, t1682, t1683, t1686, t1687, t1688, t1691, t1692⟩, A470, H⟩ := H
      replace H : ((impl_done.f t1680 t1681 t1682 t1683 t1686 t1687 t1688 t1691 t1692).bind fun bt1693 => (some (bt1693.1, bt1693.2.1, bt1693.2.2.1, bt1693.2.2.2.1, bt1693.2.2.2.2.1, bt1693.2.2.2.2.2.1, bt1693.2.2.2.2.2.2.1, bt1693.2.2.2.2.2.2.2.1, bt1693.2.2.2.2.2.2.2.2))) = some (r1, r2, r3, r4, r5, r6, r7, r8, r9) := H
      have A47 := aK A470
      clear A470
      replace H := Option.bind_eq_some_iff.mp H
      obtain ⟨⟨t1693, t1694, t1695, t1696, t1699, t1700, t1701, t1704, t1705⟩, A480, H⟩ := H
      replace H : (some (t1693, t1694, t1695, t1696, t1699, t1700, t1701, t1704, t1705)) = some (r1, r2, r3, r4, r5, r6, r7, r8, r9) := H
      have A48 := aK A480
      clear A480
      simp only [Option.some.injEq, Prod.mk.injEq] at H
      obtain ⟨rfl, rfl, rfl, rfl, rfl, rfl, rfl, rfl, rfl⟩ := H
      have hnb49 := NB1638_1637.out
      have hnc49 := NB1637_1638.out
      have hnb50 := NB1638_1639.out
      have hnc50 := NB1639_1638.out
      obtain ⟨hcz51_0, hcz51_1, hcz51_2, hfz51_0, hfz51_1, hfz51_2⟩ := cl3 BK1638.out
      have hnb52 := NB1637_1639.out
      have hnc52 := NB1639_1637.out
      obtain ⟨hcz53_0, hcz53_1, hcz53_2, hcz53_3, hcz53_4, hcz53_5, hcz53_6, hcz53_7, hfz53_0, hfz53_1, hfz53_2, hfz53_3, hfz53_4, hfz53_5, hfz53_6, hfz53_7⟩ := cl8 BK1637.out
      go_wp2_with (first | ((with_reducible refine gate_callee (f := 18) rfl ?_); refine goesL_ (some 35) rfl rfl Tryz.func18 (by kernel_rfl) rfl #[.agg #[.int .i64 a0_0, .int .i64 a0_1, .int .i64 a0_2, .slice A0_3 l0_3.length c0_3, .int .i64 a0_4, .int .i64 a0_5, .slice A0_6 l0_6.length c0_6, .int .i64 a0_7]] rfl zD ?_; (with_reducible refine (impl_Enter.calls kj2 a0_0 a0_1 a0_2 _ _ l0_3 a0_4 a0_5 _ _ l0_6 a0_7 t1680 t1681 t1682 t1683 t1686 t1687 t1688 t1691 t1692 _ ?side1 ?side2 ?side3 ?side4 A47.out).mono ?_); (case side1 => exact zC (Kd.C_below HR0_3.out HB.out)); (case side2 => exact HC0_3.out); (case side3 => exact zC (Kd.C_below HR0_6.out HB.out)); (case side4 => exact HC0_6.out); rintro e w54 ⟨v1684, v1689, rfl, ho0, ho1, hb⟩; refine ⟨_, rfl, ?_⟩; have HO1685 := aK (Kd.R_lower ho0 (bSz (zH3 HB GE1637 GE1638 GE1639))); have HO1690 := aK (Kd.R_lower ho1 (bSz (zH3 HB GE1637 GE1638 GE1639))); replace BK1637 := zB BK1637 hb; replace BK1638 := zB BK1638 hb; replace BK1639 := zB BK1639 hb; replace HB := aK (bSp (zH3 HB GE1637 GE1638 GE1639) hb); (try clear hb); (try clear hb2); (try clear hk); (try clear hi); (try clear ho0); (try clear ho1); obtain ⟨Ao55, co55, eo55⟩ := Kd.R_slice HO1685.out; subst eo55; obtain ⟨Ao56, co56, eo56⟩ := Kd.R_slice HO1690.out; subst eo56) | ((with_reducible refine gate_callee (f := 87) rfl ?_); refine goesL_ (some 38) rfl rfl Tryz.func87 (by kernel_rfl) rfl #[.agg #[.int .i64 t1680, .int .i64 t1681, .int .i64 t1682, .slice Ao55 t1683.length co55, .int .i64 t1686, .int .i64 t1687, .slice Ao56 t1688.length co56, .int .i64 t1691], .bool t1692] rfl zD ?_; (with_reducible refine (impl_done.calls t1680 t1681 t1682 (fun k_ => some k_ = (.slice Ao55 t1683.length co55 : Value).ownBlock) (.slice Ao55 t1683.length co55) t1683 t1686 t1687 (fun k_ => some k_ = (.slice Ao56 t1688.length co56 : Value).ownBlock) (.slice Ao56 t1688.length co56) t1688 t1691 t1692 t1693 t1694 t1695 t1696 t1699 t1700 t1701 t1704 t1705 w _ ?side1 ?side2 ?side3 ?side4 ?side5 A48.out).mono ?_); (case side1 => exact (zH3 HB GE1637 GE1638 GE1639)); (case side2 => exact Kd.R_tight rfl HO1685.out); (case side3 => exact fun k_ e_ => (HO1685.out.1 k_ e_.symm)); (case side4 => exact Kd.R_tight rfl HO1690.out); (case side5 => exact fun k_ e_ => (HO1690.out.1 k_ e_.symm)); rintro e w57 ⟨v1697, v1702, rfl, ho0, ho1, hb, hkp⟩; refine ⟨_, rfl, ?_⟩; have n0_ := aK (blk_kept (zK BK1637) hkp (fun hs_ => Or.elim hs_ (Kd.R_ne HO1685.out BK1637.out (by decide)) (Kd.R_ne HO1690.out BK1637.out (by decide)))); have n1_ := aK (blk_kept (zK BK1638) hkp (fun hs_ => Or.elim hs_ (Kd.R_ne HO1685.out BK1638.out (by decide)) (Kd.R_ne HO1690.out BK1638.out (by decide)))); have n2_ := aK (blk_kept (zK BK1639) hkp (fun hs_ => Or.elim hs_ (Kd.R_ne HO1685.out BK1639.out (by decide)) (Kd.R_ne HO1690.out BK1639.out (by decide)))); have n3_ := aK (Kd.R_mono (ok' := fun k_ => some k_ ≠ (v1702 : Value).ownBlock) ho0 (fun k_ hk_ => hk_.2)); have n4_ := aK (Kd.R_mono (ok' := fun k_ => some k_ ≠ (v1697 : Value).ownBlock) ho1 (fun k_ hk_ => hk_.2)); have n5_ := aK (hb); clear BK1637; clear BK1638; clear BK1639; clear HB; clear HO1685; clear HO1690; have BK1637 := n0_; have BK1638 := n1_; have BK1639 := n2_; have HO1698 := n3_; have HO1703 := n4_; have HB := n5_; clear n0_ n1_ n2_ n3_ n4_ n5_; (try clear hb); (try clear hkp); (try clear ho0); (try clear ho1); obtain ⟨hcz58_0, hcz58_1, hcz58_2, hcz58_3, hcz58_4, hcz58_5, hcz58_6, hcz58_7, hfz58_0, hfz58_1, hfz58_2, hfz58_3, hfz58_4, hfz58_5, hfz58_6, hfz58_7⟩ := cl8 BK1639.out; obtain ⟨Ao59, co59, eo59⟩ := Kd.R_slice HO1698.out; subst eo59; obtain ⟨Ao60, co60, eo60⟩ := Kd.R_slice HO1703.out; subst eo60))
      refine bodyPost_ret (results_ct rfl _ _ gb1639 38 #[.int .i64 t1693, .int .i64 t1694, .int .i64 t1695, .slice Ao59 t1696.length co59, .int .i64 t1699, .int .i64 t1700, .slice Ao60 t1701.length co60, .int .i64 t1704] (0, 0) _ rfl (by (with_reducible repeat (first | refine blk_drewN ?_ _ | refine kD ?_ | refine kA ?_ _)); refine blk_put (cs := #[.int .i64 t1693, .int .i64 t1694, .int .i64 t1695, .slice Ao59 t1696.length co59, .int .i64 t1699, .int .i64 t1700, .slice Ao60 t1701.length co60, .int .i64 0]) ?_ 7 _ rfl; (with_reducible repeat (first | refine blk_drewN ?_ _ | refine kD ?_ | refine kA ?_ _)); refine blk_put (cs := #[.int .i64 t1693, .int .i64 t1694, .int .i64 t1695, .slice Ao59 t1696.length co59, .int .i64 t1699, .int .i64 t1700, .slice none 0 0, .int .i64 0]) ?_ 6 _ rfl; (with_reducible repeat (first | refine blk_drewN ?_ _ | refine kD ?_ | refine kA ?_ _)); refine blk_put (cs := #[.int .i64 t1693, .int .i64 t1694, .int .i64 t1695, .slice Ao59 t1696.length co59, .int .i64 t1699, .int .i64 0, .slice none 0 0, .int .i64 0]) ?_ 5 _ rfl; (with_reducible repeat (first | refine blk_drewN ?_ _ | refine kD ?_ | refine kA ?_ _)); refine blk_put (cs := #[.int .i64 t1693, .int .i64 t1694, .int .i64 t1695, .slice Ao59 t1696.length co59, .int .i64 0, .int .i64 0, .slice none 0 0, .int .i64 0]) ?_ 4 _ rfl; (with_reducible repeat (first | refine blk_drewN ?_ _ | refine kD ?_ | refine kA ?_ _)); refine blk_put (cs := #[.int .i64 t1693, .int .i64 t1694, .int .i64 t1695, .slice none 0 0, .int .i64 0, .int .i64 0, .slice none 0 0, .int .i64 0]) ?_ 3 _ rfl; (with_reducible repeat (first | refine blk_drewN ?_ _ | refine kD ?_ | refine kA ?_ _)); refine blk_put (cs := #[.int .i64 t1693, .int .i64 t1694, .int .i64 0, .slice none 0 0, .int .i64 0, .int .i64 0, .slice none 0 0, .int .i64 0]) ?_ 2 _ rfl; (with_reducible repeat (first | refine blk_drewN ?_ _ | refine kD ?_ | refine kA ?_ _)); refine blk_put (cs := #[.int .i64 t1693, .int .i64 0, .int .i64 0, .slice none 0 0, .int .i64 0, .int .i64 0, .slice none 0 0, .int .i64 0]) ?_ 1 _ rfl; (with_reducible repeat (first | refine blk_drewN ?_ _ | refine kD ?_ | refine kA ?_ _)); refine blk_put (cs := #[.int .i64 0, .int .i64 0, .int .i64 0, .slice none 0 0, .int .i64 0, .int .i64 0, .slice none 0 0, .int .i64 0]) ?_ 0 _ rfl; (with_reducible repeat (first | refine blk_drewN ?_ _ | refine kD ?_ | refine kA ?_ _)); exact BK1639.out) Tryz.underlying38 rfl (by kernel_rfl)) rfl ?_
      exact ⟨_, _, by first | rfl | (simp [errW_none, errW_some] <;> rfl) | (simp [*, errW_none, errW_some] <;> rfl), by (with_reducible repeat (first | apply Kd.R_alloc | apply Kd.R_drewN | apply Kd.R_drew)); exact Kd.R_mono (zT8 HO1698 BK1639 (.int .i64 t1693) (.int .i64 t1694) (.int .i64 t1695) (.slice Ao59 t1696.length co59) (.int .i64 t1699) (.int .i64 t1700) (.slice Ao60 t1701.length co60) (.int .i64 t1704)) (fun _ hk => hk.1), by (with_reducible repeat (first | apply Kd.R_alloc | apply Kd.R_drewN | apply Kd.R_drew)); exact Kd.R_mono (zT8 HO1703 BK1639 (.int .i64 t1693) (.int .i64 t1694) (.int .i64 t1695) (.slice Ao59 t1696.length co59) (.int .i64 t1699) (.int .i64 t1700) (.slice Ao60 t1701.length co60) (.int .i64 t1704)) (fun _ hk => hk.1), by repeat (first | (with_reducible first | exact HB.out | apply bAl | apply bDN | apply bD1 | refine bSt ?_ GE1637.out | refine bSt ?_ GE1638.out | refine bSt ?_ GE1639.out) | exact HB.out)⟩
     ·rw [if_neg c46] at H
      have c46b0 : (a1_0 == 2) = false := beq_eq_false_iff_ne.mpr c46
      have c46b1 : (a1_0 != 2) = true := bne_iff_ne.mpr c46
      by_cases c61 : a1_0 = 3
      ·rw [if_pos c61] at H
       have c61b0 : (a1_0 == 3) = true := beq_iff_eq.mpr c61
       have c61b1 : (a1_0 != 3) = false := bne_eq_false_iff_eq.mpr c61
       clear c61
       replace H := Option.bind_eq_some_iff.mp H
       obtain ⟨⟨t1706, t1707, t1708, t1709, t1712, t1713, t1714, t1717, t1718⟩, A620, H⟩ := H
       replace H : ((impl_done.f t1706 t1707 t1708 t1709 t1712 t1713 t1714 t1717 t1718).bind fun bt1719 => (some (bt1719.1, bt1719.2.1, bt1719.2.2.1, bt1719.2.2.2.1, bt1719.2.2.2.2.1, bt1719.2.2.2.2.2.1, bt1719.2.2.2.2.2.2.1, bt1719.2.2.2.2.2.2.2.1, bt1719.2.2.2.2.2.2.2.2))) = some (r1, r2, r3, r4, r5, r6, r7, r8, r9) := H
       have A62 := aK A620
       clear A620
       replace H := Option.bind_eq_some_iff.mp H
       obtain ⟨⟨t1719, t1720, t1721, t1722, t1725, t1726, t1727, t1730, t1731⟩, A630, H⟩ := H
       replace H : (some (t1719, t1720, t1721, t1722, t1725, t1726, t1727, t1730, t1731)) = some (r1, r2, r3, r4, r5, r6, r7, r8, r9) := H
       have A63 := aK A630
       clear A630
       simp only [Option.some.injEq, Prod.mk.injEq] at H
       obtain ⟨rfl, rfl, rfl, rfl, rfl, rfl, rfl, rfl, rfl⟩ := H
       have hnb64 := NB1638_1637.out
       have hnc64 := NB1637_1638.out
       have hnb65 := NB1638_1639.out
       have hnc65 := NB1639_1638.out
       obtain ⟨hcz66_0, hcz66_1, hcz66_2, hfz66_0, hfz66_1, hfz66_2⟩ := cl3 BK1638.out
       have hnb67 := NB1637_1639.out
       have hnc67 := NB1639_1637.out
       obtain ⟨hcz68_0, hcz68_1, hcz68_2, hcz68_3, hcz68_4, hcz68_5, hcz68_6, hcz68_7, hfz68_0, hfz68_1, hfz68_2, hfz68_3, hfz68_4, hfz68_5, hfz68_6, hfz68_7⟩ := cl8 BK1637.out
       go_wp2_with (first | ((with_reducible refine gate_callee (f := 25) rfl ?_); refine goesL_ (some 48) rfl rfl Tryz.func25 (by kernel_rfl) rfl #[.agg #[.int .i64 a0_0, .int .i64 a0_1, .int .i64 a0_2, .slice A0_3 l0_3.length c0_3, .int .i64 a0_4, .int .i64 a0_5, .slice A0_6 l0_6.length c0_6, .int .i64 a0_7], .int .i64 a1_1, .int .i64 a1_2] rfl zD ?_; (with_reducible refine (impl_WalkIn.calls kj2 a0_0 a0_1 a0_2 _ _ l0_3 a0_4 a0_5 _ _ l0_6 a0_7 a1_1 a1_2 t1706 t1707 t1708 t1709 t1712 t1713 t1714 t1717 t1718 _ ?side1 ?side2 ?side3 ?side4 A62.out).mono ?_); (case side1 => exact zC (Kd.C_below HR0_3.out HB.out)); (case side2 => exact HC0_3.out); (case side3 => exact zC (Kd.C_below HR0_6.out HB.out)); (case side4 => exact HC0_6.out); rintro e w69 ⟨v1710, v1715, rfl, ho0, ho1, hb⟩; refine ⟨_, rfl, ?_⟩; have HO1711 := aK (Kd.R_lower ho0 (bSz (zH3 HB GE1637 GE1638 GE1639))); have HO1716 := aK (Kd.R_lower ho1 (bSz (zH3 HB GE1637 GE1638 GE1639))); replace BK1637 := zB BK1637 hb; replace BK1638 := zB BK1638 hb; replace BK1639 := zB BK1639 hb; replace HB := aK (bSp (zH3 HB GE1637 GE1638 GE1639) hb); (try clear hb); (try clear hb2); (try clear hk); (try clear hi); (try clear ho0); (try clear ho1); obtain ⟨Ao70, co70, eo70⟩ := Kd.R_slice HO1711.out; subst eo70; obtain ⟨Ao71, co71, eo71⟩ := Kd.R_slice HO1716.out; subst eo71) | ((with_reducible refine gate_callee (f := 87) rfl ?_); refine goesL_ (some 51) rfl rfl Tryz.func87 (by kernel_rfl) rfl #[.agg #[.int .i64 t1706, .int .i64 t1707, .int .i64 t1708, .slice Ao70 t1709.length co70, .int .i64 t1712, .int .i64 t1713, .slice Ao71 t1714.length co71, .int .i64 t1717], .bool t1718] rfl zD ?_; (with_reducible refine (impl_done.calls t1706 t1707 t1708 (fun k_ => some k_ = (.slice Ao70 t1709.length co70 : Value).ownBlock) (.slice Ao70 t1709.length co70) t1709 t1712 t1713 (fun k_ => some k_ = (.slice Ao71 t1714.length co71 : Value).ownBlock) (.slice Ao71 t1714.length co71) t1714 t1717 t1718 t1719 t1720 t1721 t1722 t1725 t1726 t1727 t1730 t1731 w _ ?side1 ?side2 ?side3 ?side4 ?side5 A63.out).mono ?_); (case side1 => exact (zH3 HB GE1637 GE1638 GE1639)); (case side2 => exact Kd.R_tight rfl HO1711.out); (case side3 => exact fun k_ e_ => (HO1711.out.1 k_ e_.symm)); (case side4 => exact Kd.R_tight rfl HO1716.out); (case side5 => exact fun k_ e_ => (HO1716.out.1 k_ e_.symm)); rintro e w72 ⟨v1723, v1728, rfl, ho0, ho1, hb, hkp⟩; refine ⟨_, rfl, ?_⟩; have n0_ := aK (blk_kept (zK BK1637) hkp (fun hs_ => Or.elim hs_ (Kd.R_ne HO1711.out BK1637.out (by decide)) (Kd.R_ne HO1716.out BK1637.out (by decide)))); have n1_ := aK (blk_kept (zK BK1638) hkp (fun hs_ => Or.elim hs_ (Kd.R_ne HO1711.out BK1638.out (by decide)) (Kd.R_ne HO1716.out BK1638.out (by decide)))); have n2_ := aK (blk_kept (zK BK1639) hkp (fun hs_ => Or.elim hs_ (Kd.R_ne HO1711.out BK1639.out (by decide)) (Kd.R_ne HO1716.out BK1639.out (by decide)))); have n3_ := aK (Kd.R_mono (ok' := fun k_ => some k_ ≠ (v1728 : Value).ownBlock) ho0 (fun k_ hk_ => hk_.2)); have n4_ := aK (Kd.R_mono (ok' := fun k_ => some k_ ≠ (v1723 : Value).ownBlock) ho1 (fun k_ hk_ => hk_.2)); have n5_ := aK (hb); clear BK1637; clear BK1638; clear BK1639; clear HB; clear HO1711; clear HO1716; have BK1637 := n0_; have BK1638 := n1_; have BK1639 := n2_; have HO1724 := n3_; have HO1729 := n4_; have HB := n5_; clear n0_ n1_ n2_ n3_ n4_ n5_; (try clear hb); (try clear hkp); (try clear ho0); (try clear ho1); obtain ⟨hcz73_0, hcz73_1, hcz73_2, hcz73_3, hcz73_4, hcz73_5, hcz73_6, hcz73_7, hfz73_0, hfz73_1, hfz73_2, hfz73_3, hfz73_4, hfz73_5, hfz73_6, hfz73_7⟩ := cl8 BK1639.out; obtain ⟨Ao74, co74, eo74⟩ := Kd.R_slice HO1724.out; subst eo74; obtain ⟨Ao75, co75, eo75⟩ := Kd.R_slice HO1729.out; subst eo75))
       refine bodyPost_ret (results_ct rfl _ _ gb1639 38 #[.int .i64 t1719, .int .i64 t1720, .int .i64 t1721, .slice Ao74 t1722.length co74, .int .i64 t1725, .int .i64 t1726, .slice Ao75 t1727.length co75, .int .i64 t1730] (0, 0) _ rfl (by (with_reducible repeat (first | refine blk_drewN ?_ _ | refine kD ?_ | refine kA ?_ _)); refine blk_put (cs := #[.int .i64 t1719, .int .i64 t1720, .int .i64 t1721, .slice Ao74 t1722.length co74, .int .i64 t1725, .int .i64 t1726, .slice Ao75 t1727.length co75, .int .i64 0]) ?_ 7 _ rfl; (with_reducible repeat (first | refine blk_drewN ?_ _ | refine kD ?_ | refine kA ?_ _)); refine blk_put (cs := #[.int .i64 t1719, .int .i64 t1720, .int .i64 t1721, .slice Ao74 t1722.length co74, .int .i64 t1725, .int .i64 t1726, .slice none 0 0, .int .i64 0]) ?_ 6 _ rfl; (with_reducible repeat (first | refine blk_drewN ?_ _ | refine kD ?_ | refine kA ?_ _)); refine blk_put (cs := #[.int .i64 t1719, .int .i64 t1720, .int .i64 t1721, .slice Ao74 t1722.length co74, .int .i64 t1725, .int .i64 0, .slice none 0 0, .int .i64 0]) ?_ 5 _ rfl; (with_reducible repeat (first | refine blk_drewN ?_ _ | refine kD ?_ | refine kA ?_ _)); refine blk_put (cs := #[.int .i64 t1719, .int .i64 t1720, .int .i64 t1721, .slice Ao74 t1722.length co74, .int .i64 0, .int .i64 0, .slice none 0 0, .int .i64 0]) ?_ 4 _ rfl; (with_reducible repeat (first | refine blk_drewN ?_ _ | refine kD ?_ | refine kA ?_ _)); refine blk_put (cs := #[.int .i64 t1719, .int .i64 t1720, .int .i64 t1721, .slice none 0 0, .int .i64 0, .int .i64 0, .slice none 0 0, .int .i64 0]) ?_ 3 _ rfl; (with_reducible repeat (first | refine blk_drewN ?_ _ | refine kD ?_ | refine kA ?_ _)); refine blk_put (cs := #[.int .i64 t1719, .int .i64 t1720, .int .i64 0, .slice none 0 0, .int .i64 0, .int .i64 0, .slice none 0 0, .int .i64 0]) ?_ 2 _ rfl; (with_reducible repeat (first | refine blk_drewN ?_ _ | refine kD ?_ | refine kA ?_ _)); refine blk_put (cs := #[.int .i64 t1719, .int .i64 0, .int .i64 0, .slice none 0 0, .int .i64 0, .int .i64 0, .slice none 0 0, .int .i64 0]) ?_ 1 _ rfl; (with_reducible repeat (first | refine blk_drewN ?_ _ | refine kD ?_ | refine kA ?_ _)); refine blk_put (cs := #[.int .i64 0, .int .i64 0, .int .i64 0, .slice none 0 0, .int .i64 0, .int .i64 0, .slice none 0 0, .int .i64 0]) ?_ 0 _ rfl; (with_reducible repeat (first | refine blk_drewN ?_ _ | refine kD ?_ | refine kA ?_ _)); exact BK1639.out) Tryz.underlying38 rfl (by kernel_rfl)) rfl ?_
       exact ⟨_, _, by first | rfl | (simp [errW_none, errW_some] <;> rfl) | (simp [*, errW_none, errW_some] <;> rfl), by (with_reducible repeat (first | apply Kd.R_alloc | apply Kd.R_drewN | apply Kd.R_drew)); exact Kd.R_mono (zT8 HO1724 BK1639 (.int .i64 t1719) (.int .i64 t1720) (.int .i64 t1721) (.slice Ao74 t1722.length co74) (.int .i64 t1725) (.int .i64 t1726) (.slice Ao75 t1727.length co75) (.int .i64 t1730)) (fun _ hk => hk.1), by (with_reducible repeat (first | apply Kd.R_alloc | apply Kd.R_drewN | apply Kd.R_drew)); exact Kd.R_mono (zT8 HO1729 BK1639 (.int .i64 t1719) (.int .i64 t1720) (.int .i64 t1721) (.slice Ao74 t1722.length co74) (.int .i64 t1725) (.int .i64 t1726) (.slice Ao75 t1727.length co75) (.int .i64 t1730)) (fun _ hk => hk.1), by repeat (first | (with_reducible first | exact HB.out | apply bAl | apply bDN | apply bD1 | refine bSt ?_ GE1637.out | refine bSt ?_ GE1638.out | refine bSt ?_ GE1639.out) | exact HB.out)⟩
      ·rw [if_neg c61] at H
       have c61b0 : (a1_0 == 3) = false := beq_eq_false_iff_ne.mpr c61
       have c61b1 : (a1_0 != 3) = true := bne_iff_ne.mpr c61
       by_cases c76 : a1_0 = 4
       ·rw [if_pos c76] at H
        have c76b0 : (a1_0 == 4) = true := beq_iff_eq.mpr c76
        have c76b1 : (a1_0 != 4) = false := bne_eq_false_iff_eq.mpr c76
        clear c76
        replace H := Option.bind_eq_some_iff.mp H
        obtain ⟨⟨t1732, t1733, t1734, t1735, t1738, t1739, t1740, t1743, t1744⟩, A770, H⟩ := H
        replace H : ((impl_done.f t1732 t1733 t1734 t1735 t1738 t1739 t1740 t1743 t1744).bind fun bt1745 => (some (bt1745.1, bt1745.2.1, bt1745.2.2.1, bt1745.2.2.2.1, bt1745.2.2.2.2.1, bt1745.2.2.2.2.2.1, bt1745.2.2.2.2.2.2.1, bt1745.2.2.2.2.2.2.2.1, bt1745.2.2.2.2.2.2.2.2))) = some (r1, r2, r3, r4, r5, r6, r7, r8, r9) := H
        have A77 := aK A770
        clear A770
        replace H := Option.bind_eq_some_iff.mp H
        obtain ⟨⟨t1745, t1746, t1747, t1748, t1751, t1752, t1753, t1756, t1757⟩, A780, H⟩ := H
        replace H : (some (t1745, t1746, t1747, t1748, t1751, t1752, t1753, t1756, t1757)) = some (r1, r2, r3, r4, r5, r6, r7, r8, r9) := H
        have A78 := aK A780
        clear A780
        simp only [Option.some.injEq, Prod.mk.injEq] at H
        obtain ⟨rfl, rfl, rfl, rfl, rfl, rfl, rfl, rfl, rfl⟩ := H
        have hnb79 := NB1638_1637.out
        have hnc79 := NB1637_1638.out
        have hnb80 := NB1638_1639.out
        have hnc80 := NB1639_1638.out
        obtain ⟨hcz81_0, hcz81_1, hcz81_2, hfz81_0, hfz81_1, hfz81_2⟩ := cl3 BK1638.out
        have hnb82 := NB1637_1639.out
        have hnc82 := NB1639_1637.out
        obtain ⟨hcz83_0, hcz83_1, hcz83_2, hcz83_3, hcz83_4, hcz83_5, hcz83_6, hcz83_7, hfz83_0, hfz83_1, hfz83_2, hfz83_3, hfz83_4, hfz83_5, hfz83_6, hfz83_7⟩ := cl8 BK1637.out
        go_wp2_with (first | ((with_reducible refine gate_callee (f := 23) rfl ?_); refine goesL_ (some 57) rfl rfl Tryz.func23 (by kernel_rfl) rfl #[.agg #[.int .i64 a0_0, .int .i64 a0_1, .int .i64 a0_2, .slice A0_3 l0_3.length c0_3, .int .i64 a0_4, .int .i64 a0_5, .slice A0_6 l0_6.length c0_6, .int .i64 a0_7]] rfl zD ?_; (with_reducible refine (impl_Leave.calls kj2 a0_0 a0_1 a0_2 _ _ l0_3 a0_4 a0_5 _ _ l0_6 a0_7 t1732 t1733 t1734 t1735 t1738 t1739 t1740 t1743 t1744 _ ?side1 ?side2 ?side3 ?side4 A77.out).mono ?_); (case side1 => exact zC (Kd.C_below HR0_3.out HB.out)); (case side2 => exact HC0_3.out); (case side3 => exact zC (Kd.C_below HR0_6.out HB.out)); (case side4 => exact HC0_6.out); rintro e w84 ⟨v1736, v1741, rfl, ho0, ho1, hb⟩; refine ⟨_, rfl, ?_⟩; have HO1737 := aK (Kd.R_lower ho0 (bSz (zH3 HB GE1637 GE1638 GE1639))); have HO1742 := aK (Kd.R_lower ho1 (bSz (zH3 HB GE1637 GE1638 GE1639))); replace BK1637 := zB BK1637 hb; replace BK1638 := zB BK1638 hb; replace BK1639 := zB BK1639 hb; replace HB := aK (bSp (zH3 HB GE1637 GE1638 GE1639) hb); (try clear hb); (try clear hb2); (try clear hk); (try clear hi); (try clear ho0); (try clear ho1); obtain ⟨Ao85, co85, eo85⟩ := Kd.R_slice HO1737.out; subst eo85; obtain ⟨Ao86, co86, eo86⟩ := Kd.R_slice HO1742.out; subst eo86) | ((with_reducible refine gate_callee (f := 87) rfl ?_); refine goesL_ (some 60) rfl rfl Tryz.func87 (by kernel_rfl) rfl #[.agg #[.int .i64 t1732, .int .i64 t1733, .int .i64 t1734, .slice Ao85 t1735.length co85, .int .i64 t1738, .int .i64 t1739, .slice Ao86 t1740.length co86, .int .i64 t1743], .bool t1744] rfl zD ?_; (with_reducible refine (impl_done.calls t1732 t1733 t1734 (fun k_ => some k_ = (.slice Ao85 t1735.length co85 : Value).ownBlock) (.slice Ao85 t1735.length co85) t1735 t1738 t1739 (fun k_ => some k_ = (.slice Ao86 t1740.length co86 : Value).ownBlock) (.slice Ao86 t1740.length co86) t1740 t1743 t1744 t1745 t1746 t1747 t1748 t1751 t1752 t1753 t1756 t1757 w _ ?side1 ?side2 ?side3 ?side4 ?side5 A78.out).mono ?_); (case side1 => exact (zH3 HB GE1637 GE1638 GE1639)); (case side2 => exact Kd.R_tight rfl HO1737.out); (case side3 => exact fun k_ e_ => (HO1737.out.1 k_ e_.symm)); (case side4 => exact Kd.R_tight rfl HO1742.out); (case side5 => exact fun k_ e_ => (HO1742.out.1 k_ e_.symm)); rintro e w87 ⟨v1749, v1754, rfl, ho0, ho1, hb, hkp⟩; refine ⟨_, rfl, ?_⟩; have n0_ := aK (blk_kept (zK BK1637) hkp (fun hs_ => Or.elim hs_ (Kd.R_ne HO1737.out BK1637.out (by decide)) (Kd.R_ne HO1742.out BK1637.out (by decide)))); have n1_ := aK (blk_kept (zK BK1638) hkp (fun hs_ => Or.elim hs_ (Kd.R_ne HO1737.out BK1638.out (by decide)) (Kd.R_ne HO1742.out BK1638.out (by decide)))); have n2_ := aK (blk_kept (zK BK1639) hkp (fun hs_ => Or.elim hs_ (Kd.R_ne HO1737.out BK1639.out (by decide)) (Kd.R_ne HO1742.out BK1639.out (by decide)))); have n3_ := aK (Kd.R_mono (ok' := fun k_ => some k_ ≠ (v1754 : Value).ownBlock) ho0 (fun k_ hk_ => hk_.2)); have n4_ := aK (Kd.R_mono (ok' := fun k_ => some k_ ≠ (v1749 : Value).ownBlock) ho1 (fun k_ hk_ => hk_.2)); have n5_ := aK (hb); clear BK1637; clear BK1638; clear BK1639; clear HB; clear HO1737; clear HO1742; have BK1637 := n0_; have BK1638 := n1_; have BK1639 := n2_; have HO1750 := n3_; have HO1755 := n4_; have HB := n5_; clear n0_ n1_ n2_ n3_ n4_ n5_; (try clear hb); (try clear hkp); (try clear ho0); (try clear ho1); obtain ⟨hcz88_0, hcz88_1, hcz88_2, hcz88_3, hcz88_4, hcz88_5, hcz88_6, hcz88_7, hfz88_0, hfz88_1, hfz88_2, hfz88_3, hfz88_4, hfz88_5, hfz88_6, hfz88_7⟩ := cl8 BK1639.out; obtain ⟨Ao89, co89, eo89⟩ := Kd.R_slice HO1750.out; subst eo89; obtain ⟨Ao90, co90, eo90⟩ := Kd.R_slice HO1755.out; subst eo90))
        refine bodyPost_ret (results_ct rfl _ _ gb1639 38 #[.int .i64 t1745, .int .i64 t1746, .int .i64 t1747, .slice Ao89 t1748.length co89, .int .i64 t1751, .int .i64 t1752, .slice Ao90 t1753.length co90, .int .i64 t1756] (0, 0) _ rfl (by (with_reducible repeat (first | refine blk_drewN ?_ _ | refine kD ?_ | refine kA ?_ _)); refine blk_put (cs := #[.int .i64 t1745, .int .i64 t1746, .int .i64 t1747, .slice Ao89 t1748.length co89, .int .i64 t1751, .int .i64 t1752, .slice Ao90 t1753.length co90, .int .i64 0]) ?_ 7 _ rfl; (with_reducible repeat (first | refine blk_drewN ?_ _ | refine kD ?_ | refine kA ?_ _)); refine blk_put (cs := #[.int .i64 t1745, .int .i64 t1746, .int .i64 t1747, .slice Ao89 t1748.length co89, .int .i64 t1751, .int .i64 t1752, .slice none 0 0, .int .i64 0]) ?_ 6 _ rfl; (with_reducible repeat (first | refine blk_drewN ?_ _ | refine kD ?_ | refine kA ?_ _)); refine blk_put (cs := #[.int .i64 t1745, .int .i64 t1746, .int .i64 t1747, .slice Ao89 t1748.length co89, .int .i64 t1751, .int .i64 0, .slice none 0 0, .int .i64 0]) ?_ 5 _ rfl; (with_reducible repeat (first | refine blk_drewN ?_ _ | refine kD ?_ | refine kA ?_ _)); refine blk_put (cs := #[.int .i64 t1745, .int .i64 t1746, .int .i64 t1747, .slice Ao89 t1748.length co89, .int .i64 0, .int .i64 0, .slice none 0 0, .int .i64 0]) ?_ 4 _ rfl; (with_reducible repeat (first | refine blk_drewN ?_ _ | refine kD ?_ | refine kA ?_ _)); refine blk_put (cs := #[.int .i64 t1745, .int .i64 t1746, .int .i64 t1747, .slice none 0 0, .int .i64 0, .int .i64 0, .slice none 0 0, .int .i64 0]) ?_ 3 _ rfl; (with_reducible repeat (first | refine blk_drewN ?_ _ | refine kD ?_ | refine kA ?_ _)); refine blk_put (cs := #[.int .i64 t1745, .int .i64 t1746, .int .i64 0, .slice none 0 0, .int .i64 0, .int .i64 0, .slice none 0 0, .int .i64 0]) ?_ 2 _ rfl; (with_reducible repeat (first | refine blk_drewN ?_ _ | refine kD ?_ | refine kA ?_ _)); refine blk_put (cs := #[.int .i64 t1745, .int .i64 0, .int .i64 0, .slice none 0 0, .int .i64 0, .int .i64 0, .slice none 0 0, .int .i64 0]) ?_ 1 _ rfl; (with_reducible repeat (first | refine blk_drewN ?_ _ | refine kD ?_ | refine kA ?_ _)); refine blk_put (cs := #[.int .i64 0, .int .i64 0, .int .i64 0, .slice none 0 0, .int .i64 0, .int .i64 0, .slice none 0 0, .int .i64 0]) ?_ 0 _ rfl; (with_reducible repeat (first | refine blk_drewN ?_ _ | refine kD ?_ | refine kA ?_ _)); exact BK1639.out) Tryz.underlying38 rfl (by kernel_rfl)) rfl ?_
        exact ⟨_, _, by first | rfl | (simp [errW_none, errW_some] <;> rfl) | (simp [*, errW_none, errW_some] <;> rfl), by (with_reducible repeat (first | apply Kd.R_alloc | apply Kd.R_drewN | apply Kd.R_drew)); exact Kd.R_mono (zT8 HO1750 BK1639 (.int .i64 t1745) (.int .i64 t1746) (.int .i64 t1747) (.slice Ao89 t1748.length co89) (.int .i64 t1751) (.int .i64 t1752) (.slice Ao90 t1753.length co90) (.int .i64 t1756)) (fun _ hk => hk.1), by (with_reducible repeat (first | apply Kd.R_alloc | apply Kd.R_drewN | apply Kd.R_drew)); exact Kd.R_mono (zT8 HO1755 BK1639 (.int .i64 t1745) (.int .i64 t1746) (.int .i64 t1747) (.slice Ao89 t1748.length co89) (.int .i64 t1751) (.int .i64 t1752) (.slice Ao90 t1753.length co90) (.int .i64 t1756)) (fun _ hk => hk.1), by repeat (first | (with_reducible first | exact HB.out | apply bAl | apply bDN | apply bD1 | refine bSt ?_ GE1637.out | refine bSt ?_ GE1638.out | refine bSt ?_ GE1639.out) | exact HB.out)⟩
       ·rw [if_neg c76] at H
        have c76b0 : (a1_0 == 4) = false := beq_eq_false_iff_ne.mpr c76
        have c76b1 : (a1_0 != 4) = true := bne_iff_ne.mpr c76
        by_cases c91 : a1_0 = 5
        ·rw [if_pos c91] at H
         have c91b0 : (a1_0 == 5) = true := beq_iff_eq.mpr c91
         have c91b1 : (a1_0 != 5) = false := bne_eq_false_iff_eq.mpr c91
         clear c91
         replace H := Option.bind_eq_some_iff.mp H
         obtain ⟨⟨t1758, t1759, t1760, t1761, t1764, t1765, t1766, t1769, t1770⟩, A920, H⟩ := H
         replace H : ((impl_done.f t1758 t1759 t1760 t1761 t1764 t1765 t1766 t1769 t1770).bind fun bt1771 => (some (bt1771.1, bt1771.2.1, bt1771.2.2.1, bt1771.2.2.2.1, bt1771.2.2.2.2.1, bt1771.2.2.2.2.2.1, bt1771.2.2.2.2.2.2.1, bt1771.2.2.2.2.2.2.2.1, bt1771.2.2.2.2.2.2.2.2))) = some (r1, r2, r3, r4, r5, r6, r7, r8, r9) := H
         have A92 := aK A920
         clear A920
         replace H := Option.bind_eq_some_iff.mp H
         obtain ⟨⟨t1771, t1772, t1773, t1774, t1777, t1778, t1779, t1782, t1783⟩, A930, H⟩ := H
         replace H : (some (t1771, t1772, t1773, t1774, t1777, t1778, t1779, t1782, t1783)) = some (r1, r2, r3, r4, r5, r6, r7, r8, r9) := H
         have A93 := aK A930
         clear A930
         simp only [Option.some.injEq, Prod.mk.injEq] at H
         obtain ⟨rfl, rfl, rfl, rfl, rfl, rfl, rfl, rfl, rfl⟩ := H
         have hnb94 := NB1638_1637.out
         have hnc94 := NB1637_1638.out
         have hnb95 := NB1638_1639.out
         have hnc95 := NB1639_1638.out
         obtain ⟨hcz96_0, hcz96_1, hcz96_2, hfz96_0, hfz96_1, hfz96_2⟩ := cl3 BK1638.out
         have hnb97 := NB1637_1639.out
         have hnc97 := NB1639_1637.out
         obtain ⟨hcz98_0, hcz98_1, hcz98_2, hcz98_3, hcz98_4, hcz98_5, hcz98_6, hcz98_7, hfz98_0, hfz98_1, hfz98_2, hfz98_3, hfz98_4, hfz98_5, hfz98_6, hfz98_7⟩ := cl8 BK1637.out
         go_wp2_with (first | ((with_reducible refine gate_callee (f := 29) rfl ?_); refine goesL_ (some 68) rfl rfl Tryz.func29 (by kernel_rfl) rfl #[.agg #[.int .i64 a0_0, .int .i64 a0_1, .int .i64 a0_2, .slice A0_3 l0_3.length c0_3, .int .i64 a0_4, .int .i64 a0_5, .slice A0_6 l0_6.length c0_6, .int .i64 a0_7], .int .i64 a1_1] rfl zD ?_; (with_reducible refine (impl_Guide.calls kj2 a0_0 a0_1 a0_2 _ _ l0_3 a0_4 a0_5 _ _ l0_6 a0_7 a1_1 t1758 t1759 t1760 t1761 t1764 t1765 t1766 t1769 t1770 _ ?side1 ?side2 ?side3 ?side4 A92.out).mono ?_); (case side1 => exact zC (Kd.C_below HR0_3.out HB.out)); (case side2 => exact HC0_3.out); (case side3 => exact zC (Kd.C_below HR0_6.out HB.out)); (case side4 => exact HC0_6.out); rintro e w99 ⟨v1762, v1767, rfl, ho0, ho1, hb⟩; refine ⟨_, rfl, ?_⟩; have HO1763 := aK (Kd.R_lower ho0 (bSz (zH3 HB GE1637 GE1638 GE1639))); have HO1768 := aK (Kd.R_lower ho1 (bSz (zH3 HB GE1637 GE1638 GE1639))); replace BK1637 := zB BK1637 hb; replace BK1638 := zB BK1638 hb; replace BK1639 := zB BK1639 hb; replace HB := aK (bSp (zH3 HB GE1637 GE1638 GE1639) hb); (try clear hb); (try clear hb2); (try clear hk); (try clear hi); (try clear ho0); (try clear ho1); obtain ⟨Ao100, co100, eo100⟩ := Kd.R_slice HO1763.out; subst eo100; obtain ⟨Ao101, co101, eo101⟩ := Kd.R_slice HO1768.out; subst eo101) | ((with_reducible refine gate_callee (f := 87) rfl ?_); refine goesL_ (some 71) rfl rfl Tryz.func87 (by kernel_rfl) rfl #[.agg #[.int .i64 t1758, .int .i64 t1759, .int .i64 t1760, .slice Ao100 t1761.length co100, .int .i64 t1764, .int .i64 t1765, .slice Ao101 t1766.length co101, .int .i64 t1769], .bool t1770] rfl zD ?_; (with_reducible refine (impl_done.calls t1758 t1759 t1760 (fun k_ => some k_ = (.slice Ao100 t1761.length co100 : Value).ownBlock) (.slice Ao100 t1761.length co100) t1761 t1764 t1765 (fun k_ => some k_ = (.slice Ao101 t1766.length co101 : Value).ownBlock) (.slice Ao101 t1766.length co101) t1766 t1769 t1770 t1771 t1772 t1773 t1774 t1777 t1778 t1779 t1782 t1783 w _ ?side1 ?side2 ?side3 ?side4 ?side5 A93.out).mono ?_); (case side1 => exact (zH3 HB GE1637 GE1638 GE1639)); (case side2 => exact Kd.R_tight rfl HO1763.out); (case side3 => exact fun k_ e_ => (HO1763.out.1 k_ e_.symm)); (case side4 => exact Kd.R_tight rfl HO1768.out); (case side5 => exact fun k_ e_ => (HO1768.out.1 k_ e_.symm)); rintro e w102 ⟨v1775, v1780, rfl, ho0, ho1, hb, hkp⟩; refine ⟨_, rfl, ?_⟩; have n0_ := aK (blk_kept (zK BK1637) hkp (fun hs_ => Or.elim hs_ (Kd.R_ne HO1763.out BK1637.out (by decide)) (Kd.R_ne HO1768.out BK1637.out (by decide)))); have n1_ := aK (blk_kept (zK BK1638) hkp (fun hs_ => Or.elim hs_ (Kd.R_ne HO1763.out BK1638.out (by decide)) (Kd.R_ne HO1768.out BK1638.out (by decide)))); have n2_ := aK (blk_kept (zK BK1639) hkp (fun hs_ => Or.elim hs_ (Kd.R_ne HO1763.out BK1639.out (by decide)) (Kd.R_ne HO1768.out BK1639.out (by decide)))); have n3_ := aK (Kd.R_mono (ok' := fun k_ => some k_ ≠ (v1780 : Value).ownBlock) ho0 (fun k_ hk_ => hk_.2)); have n4_ := aK (Kd.R_mono (ok' := fun k_ => some k_ ≠ (v1775 : Value).ownBlock) ho1 (fun k_ hk_ => hk_.2)); have n5_ := aK (hb); clear BK1637; clear BK1638; clear BK1639; clear HB; clear HO1763; clear HO1768; have BK1637 := n0_; have BK1638 := n1_; have BK1639 := n2_; have HO1776 := n3_; have HO1781 := n4_; have HB := n5_; clear n0_ n1_ n2_ n3_ n4_ n5_; (try clear hb); (try clear hkp); (try clear ho0); (try clear ho1); obtain ⟨hcz103_0, hcz103_1, hcz103_2, hcz103_3, hcz103_4, hcz103_5, hcz103_6, hcz103_7, hfz103_0, hfz103_1, hfz103_2, hfz103_3, hfz103_4, hfz103_5, hfz103_6, hfz103_7⟩ := cl8 BK1639.out; obtain ⟨Ao104, co104, eo104⟩ := Kd.R_slice HO1776.out; subst eo104; obtain ⟨Ao105, co105, eo105⟩ := Kd.R_slice HO1781.out; subst eo105))
         refine bodyPost_ret (results_ct rfl _ _ gb1639 38 #[.int .i64 t1771, .int .i64 t1772, .int .i64 t1773, .slice Ao104 t1774.length co104, .int .i64 t1777, .int .i64 t1778, .slice Ao105 t1779.length co105, .int .i64 t1782] (0, 0) _ rfl (by (with_reducible repeat (first | refine blk_drewN ?_ _ | refine kD ?_ | refine kA ?_ _)); refine blk_put (cs := #[.int .i64 t1771, .int .i64 t1772, .int .i64 t1773, .slice Ao104 t1774.length co104, .int .i64 t1777, .int .i64 t1778, .slice Ao105 t1779.length co105, .int .i64 0]) ?_ 7 _ rfl; (with_reducible repeat (first | refine blk_drewN ?_ _ | refine kD ?_ | refine kA ?_ _)); refine blk_put (cs := #[.int .i64 t1771, .int .i64 t1772, .int .i64 t1773, .slice Ao104 t1774.length co104, .int .i64 t1777, .int .i64 t1778, .slice none 0 0, .int .i64 0]) ?_ 6 _ rfl; (with_reducible repeat (first | refine blk_drewN ?_ _ | refine kD ?_ | refine kA ?_ _)); refine blk_put (cs := #[.int .i64 t1771, .int .i64 t1772, .int .i64 t1773, .slice Ao104 t1774.length co104, .int .i64 t1777, .int .i64 0, .slice none 0 0, .int .i64 0]) ?_ 5 _ rfl; (with_reducible repeat (first | refine blk_drewN ?_ _ | refine kD ?_ | refine kA ?_ _)); refine blk_put (cs := #[.int .i64 t1771, .int .i64 t1772, .int .i64 t1773, .slice Ao104 t1774.length co104, .int .i64 0, .int .i64 0, .slice none 0 0, .int .i64 0]) ?_ 4 _ rfl; (with_reducible repeat (first | refine blk_drewN ?_ _ | refine kD ?_ | refine kA ?_ _)); refine blk_put (cs := #[.int .i64 t1771, .int .i64 t1772, .int .i64 t1773, .slice none 0 0, .int .i64 0, .int .i64 0, .slice none 0 0, .int .i64 0]) ?_ 3 _ rfl; (with_reducible repeat (first | refine blk_drewN ?_ _ | refine kD ?_ | refine kA ?_ _)); refine blk_put (cs := #[.int .i64 t1771, .int .i64 t1772, .int .i64 0, .slice none 0 0, .int .i64 0, .int .i64 0, .slice none 0 0, .int .i64 0]) ?_ 2 _ rfl; (with_reducible repeat (first | refine blk_drewN ?_ _ | refine kD ?_ | refine kA ?_ _)); refine blk_put (cs := #[.int .i64 t1771, .int .i64 0, .int .i64 0, .slice none 0 0, .int .i64 0, .int .i64 0, .slice none 0 0, .int .i64 0]) ?_ 1 _ rfl; (with_reducible repeat (first | refine blk_drewN ?_ _ | refine kD ?_ | refine kA ?_ _)); refine blk_put (cs := #[.int .i64 0, .int .i64 0, .int .i64 0, .slice none 0 0, .int .i64 0, .int .i64 0, .slice none 0 0, .int .i64 0]) ?_ 0 _ rfl; (with_reducible repeat (first | refine blk_drewN ?_ _ | refine kD ?_ | refine kA ?_ _)); exact BK1639.out) Tryz.underlying38 rfl (by kernel_rfl)) rfl ?_
         exact ⟨_, _, by first | rfl | (simp [errW_none, errW_some] <;> rfl) | (simp [*, errW_none, errW_some] <;> rfl), by (with_reducible repeat (first | apply Kd.R_alloc | apply Kd.R_drewN | apply Kd.R_drew)); exact Kd.R_mono (zT8 HO1776 BK1639 (.int .i64 t1771) (.int .i64 t1772) (.int .i64 t1773) (.slice Ao104 t1774.length co104) (.int .i64 t1777) (.int .i64 t1778) (.slice Ao105 t1779.length co105) (.int .i64 t1782)) (fun _ hk => hk.1), by (with_reducible repeat (first | apply Kd.R_alloc | apply Kd.R_drewN | apply Kd.R_drew)); exact Kd.R_mono (zT8 HO1781 BK1639 (.int .i64 t1771) (.int .i64 t1772) (.int .i64 t1773) (.slice Ao104 t1774.length co104) (.int .i64 t1777) (.int .i64 t1778) (.slice Ao105 t1779.length co105) (.int .i64 t1782)) (fun _ hk => hk.1), by repeat (first | (with_reducible first | exact HB.out | apply bAl | apply bDN | apply bD1 | refine bSt ?_ GE1637.out | refine bSt ?_ GE1638.out | refine bSt ?_ GE1639.out) | exact HB.out)⟩
        ·rw [if_neg c91] at H
         have c91b0 : (a1_0 == 5) = false := beq_eq_false_iff_ne.mpr c91
         have c91b1 : (a1_0 != 5) = true := bne_iff_ne.mpr c91
         have H' := aK H
         clear H
         have hnb106 := NB1638_1637.out
         have hnc106 := NB1637_1638.out
         have hnb107 := NB1638_1639.out
         have hnc107 := NB1639_1638.out
         obtain ⟨hcz108_0, hcz108_1, hcz108_2, hfz108_0, hfz108_1, hfz108_2⟩ := cl3 BK1638.out
         have hnb109 := NB1637_1639.out
         have hnc109 := NB1639_1637.out
         obtain ⟨hcz110_0, hcz110_1, hcz110_2, hcz110_3, hcz110_4, hcz110_5, hcz110_6, hcz110_7, hfz110_0, hfz110_1, hfz110_2, hfz110_3, hfz110_4, hfz110_5, hfz110_6, hfz110_7⟩ := cl8 BK1637.out
         go_wp2
         go_loopg [6, 77] kj2 (fun kq v6 v77 w' => ∃ (x6_2 : Int) (x77_2 : Int), v6 = .int .i64 x6_2 ∧ v77 = .int .i64 x77_2 ∧ Aside0 (impl_DoAct.l0 kq x6_2 l0_6 (l0_6.length : Int) x77_2 a0_0 a0_1 a0_2 l0_3 a0_4 a0_5 l0_6 a0_7 = some (r1, r2, r3, r4, r5, r6, r7, r8, r9)) ∧ Aside0 (kq ≤ kj2) ∧ Aside0 (w'.heap[gb1637]? = some (.cells #[.int .i64 a0_0, .int .i64 a0_1, .int .i64 a0_2, (.slice A0_3 l0_3.length c0_3), .int .i64 a0_4, .int .i64 a0_5, (.slice A0_6 l0_6.length c0_6), .int .i64 a0_7] 38 (0, 0))) ∧ Aside0 (w'.heap[gb1638]? = some (.cells #[.int .i64 a1_0, .int .i64 a1_1, .int .i64 a1_2] 53 (0, 0))) ∧ Aside0 (w'.heap[gb1639]? = some (.cells #[.int .i64 0, .int .i64 0, .int .i64 0, (.slice none 0 0), .int .i64 0, .int .i64 0, (.slice none 0 0), .int .i64 0] 38 (0, 0))) ∧ Aside0 (Below w.heap.size w w'))
         case atStart => exact ⟨(0), (0), (by first | rfl | (simp; done) | (simp [*]; done)), (by first | rfl | (simp; done) | (simp [*]; done)), H', ⟨Nat.le_refl _⟩, ⟨zK BK1637⟩, ⟨zK BK1638⟩, ⟨zK BK1639⟩, ⟨zH3 HB GE1637 GE1638 GE1639⟩⟩
         case round =>
          clear H'
          try clear c1
          try clear c2
          try clear p2
          try clear c3
          try clear c4
          try clear c5
          try clear c6
          try clear c7
          try clear c8
          try clear c9
          try clear c10
          try clear c11
          try clear c14
          try clear c17
          try clear c18
          try clear c21
          try clear c23
          try clear c24
          try clear c25
          try clear c27
          try clear c29
          try clear c31
          try clear c31b0
          try clear c31b1
          try clear c32
          try clear c34
          try clear c35
          try clear c37
          try clear c46
          try clear c46b0
          try clear c46b1
          try clear c48
          try clear c49
          try clear c50
          try clear c52
          try clear c61
          try clear c61b0
          try clear c61b1
          try clear c64
          try clear c65
          try clear c67
          try clear c76
          try clear c76b0
          try clear c76b1
          try clear c79
          try clear c80
          try clear c82
          try clear c87
          try clear c91
          try clear c91b0
          try clear c91b1
          try clear c94
          try clear c95
          try clear c97
          try clear c106
          try clear c107
          try clear c109
          try clear hcz103_0
          try clear hcz103_1
          try clear hcz103_2
          try clear hcz103_3
          try clear hcz103_4
          try clear hcz103_5
          try clear hcz103_6
          try clear hcz103_7
          try clear hcz108_0
          try clear hcz108_1
          try clear hcz108_2
          try clear hcz110_0
          try clear hcz110_1
          try clear hcz110_2
          try clear hcz110_3
          try clear hcz110_4
          try clear hcz110_5
          try clear hcz110_6
          try clear hcz110_7
          try clear hcz12_0
          try clear hcz12_1
          try clear hcz12_2
          try clear hcz12_3
          try clear hcz12_4
          try clear hcz12_5
          try clear hcz12_6
          try clear hcz12_7
          try clear hcz15_0
          try clear hcz15_1
          try clear hcz15_2
          try clear hcz19_0
          try clear hcz19_1
          try clear hcz19_2
          try clear hcz19_3
          try clear hcz19_4
          try clear hcz19_5
          try clear hcz19_6
          try clear hcz19_7
          try clear hcz25_0
          try clear hcz25_1
          try clear hcz25_2
          try clear hcz25_3
          try clear hcz25_4
          try clear hcz25_5
          try clear hcz25_6
          try clear hcz25_7
          try clear hcz28_0
          try clear hcz28_1
          try clear hcz28_2
          try clear hcz28_3
          try clear hcz28_4
          try clear hcz28_5
          try clear hcz28_6
          try clear hcz28_7
          try clear hcz36_0
          try clear hcz36_1
          try clear hcz36_2
          try clear hcz38_0
          try clear hcz38_1
          try clear hcz38_2
          try clear hcz38_3
          try clear hcz38_4
          try clear hcz38_5
          try clear hcz38_6
          try clear hcz38_7
          try clear hcz43_0
          try clear hcz43_1
          try clear hcz43_2
          try clear hcz43_3
          try clear hcz43_4
          try clear hcz43_5
          try clear hcz43_6
          try clear hcz43_7
          try clear hcz51_0
          try clear hcz51_1
          try clear hcz51_2
          try clear hcz53_0
          try clear hcz53_1
          try clear hcz53_2
          try clear hcz53_3
          try clear hcz53_4
          try clear hcz53_5
          try clear hcz53_6
          try clear hcz53_7
          try clear hcz58_0
          try clear hcz58_1
          try clear hcz58_2
          try clear hcz58_3
          try clear hcz58_4
          try clear hcz58_5
          try clear hcz58_6
          try clear hcz58_7
          try clear hcz66_0
          try clear hcz66_1
          try clear hcz66_2
          try clear hcz68_0
          try clear hcz68_1
          try clear hcz68_2
          try clear hcz68_3
          try clear hcz68_4
          try clear hcz68_5
          try clear hcz68_6
          try clear hcz68_7
          try clear hcz73_0
          try clear hcz73_1
          try clear hcz73_2
          try clear hcz73_3
          try clear hcz73_4
          try clear hcz73_5
          try clear hcz73_6
          try clear hcz73_7
          try clear hcz81_0
          try clear hcz81_1
          try clear hcz81_2
          try clear hcz83_0
          try clear hcz83_1
          try clear hcz83_2
          try clear hcz83_3
          try clear hcz83_4
          try clear hcz83_5
          try clear hcz83_6
          try clear hcz83_7
          try clear hcz88_0
          try clear hcz88_1
          try clear hcz88_2
          try clear hcz88_3
          try clear hcz88_4
          try clear hcz88_5
          try clear hcz88_6
          try clear hcz88_7
          try clear hcz96_0
          try clear hcz96_1
          try clear hcz96_2
          try clear hcz98_0
          try clear hcz98_1
          try clear hcz98_2
          try clear hcz98_3
          try clear hcz98_4
          try clear hcz98_5
          try clear hcz98_6
          try clear hcz98_7
          try clear hfz103_0
          try clear hfz103_1
          try clear hfz103_2
          try clear hfz103_3
          try clear hfz103_4
          try clear hfz103_5
          try clear hfz103_6
          try clear hfz103_7
          try clear hfz108_0
          try clear hfz108_1
          try clear hfz108_2
          try clear hfz110_0
          try clear hfz110_1
          try clear hfz110_2
          try clear hfz110_3
          try clear hfz110_4
          try clear hfz110_5
          try clear hfz110_6
          try clear hfz110_7
          try clear hfz12_0
          try clear hfz12_1
          try clear hfz12_2
          try clear hfz12_3
          try clear hfz12_4
          try clear hfz12_5
          try clear hfz12_6
          try clear hfz12_7
          try clear hfz15_0
          try clear hfz15_1
          try clear hfz15_2
          try clear hfz19_0
          try clear hfz19_1
          try clear hfz19_2
          try clear hfz19_3
          try clear hfz19_4
          try clear hfz19_5
          try clear hfz19_6
          try clear hfz19_7
          try clear hfz25_0
          try clear hfz25_1
          try clear hfz25_2
          try clear hfz25_3
          try clear hfz25_4
          try clear hfz25_5
          try clear hfz25_6
          try clear hfz25_7
          try clear hfz28_0
          try clear hfz28_1
          try clear hfz28_2
          try clear hfz28_3
          try clear hfz28_4
          try clear hfz28_5
          try clear hfz28_6
          try clear hfz28_7
          try clear hfz36_0
          try clear hfz36_1
          try clear hfz36_2
          try clear hfz38_0
          try clear hfz38_1
          try clear hfz38_2
          try clear hfz38_3
          try clear hfz38_4
          try clear hfz38_5
          try clear hfz38_6
          try clear hfz38_7
          try clear hfz43_0
          try clear hfz43_1
          try clear hfz43_2
          try clear hfz43_3
          try clear hfz43_4
          try clear hfz43_5
          try clear hfz43_6
          try clear hfz43_7
          try clear hfz51_0
          try clear hfz51_1
          try clear hfz51_2
          try clear hfz53_0
          try clear hfz53_1
          try clear hfz53_2
          try clear hfz53_3
          try clear hfz53_4
          try clear hfz53_5
          try clear hfz53_6
          try clear hfz53_7
          try clear hfz58_0
          try clear hfz58_1
          try clear hfz58_2
          try clear hfz58_3
          try clear hfz58_4
          try clear hfz58_5
          try clear hfz58_6
          try clear hfz58_7
          try clear hfz66_0
          try clear hfz66_1
          try clear hfz66_2
          try clear hfz68_0
          try clear hfz68_1
          try clear hfz68_2
          try clear hfz68_3
          try clear hfz68_4
          try clear hfz68_5
          try clear hfz68_6
          try clear hfz68_7
          try clear hfz73_0
          try clear hfz73_1
          try clear hfz73_2
          try clear hfz73_3
          try clear hfz73_4
          try clear hfz73_5
          try clear hfz73_6
          try clear hfz73_7
          try clear hfz81_0
          try clear hfz81_1
          try clear hfz81_2
          try clear hfz83_0
          try clear hfz83_1
          try clear hfz83_2
          try clear hfz83_3
          try clear hfz83_4
          try clear hfz83_5
          try clear hfz83_6
          try clear hfz83_7
          try clear hfz88_0
          try clear hfz88_1
          try clear hfz88_2
          try clear hfz88_3
          try clear hfz88_4
          try clear hfz88_5
          try clear hfz88_6
          try clear hfz88_7
          try clear hfz96_0
          try clear hfz96_1
          try clear hfz96_2
          try clear hfz98_0
          try clear hfz98_1
          try clear hfz98_2
          try clear hfz98_3
          try clear hfz98_4
          try clear hfz98_5
          try clear hfz98_6
          try clear hfz98_7
          try clear p2
          obtain ⟨x6_2, x77_2, rfl, rfl, HA, HK2, BK1637, BK1638, BK1639, HB⟩ := hrel
          cases gk with
          | zero => exact absurd HA.out (by simp [impl_DoAct.l0])
          | succ k2 =>
           have H := HA.out
           clear HA
           simp only [impl_DoAct.l0] at H
           by_cases c111 : x77_2 < (l0_6.length : Int)
           ·rw [if_pos c111] at H
            have c111b0 : decide (x77_2 < (l0_6.length : Int)) = true := decide_eq_true c111
            clear c111
            by_cases c112 : 0 ≤ x77_2
            ·rw [if_pos c112] at H
             have c112b0 : decide (0 ≤ x77_2) = true := decide_eq_true c112
             clear c112
             by_cases c113 : x77_2 < (l0_6.length : Int)
             ·rw [if_pos c113] at H
              have c113b0 : decide (x77_2 < (l0_6.length : Int)) = true := decide_eq_true c113
              clear c113
              replace H := Option.bind_eq_some_iff.mp H
              obtain ⟨⟨t1785, t1786, t1787⟩, A1140, H⟩ := H
              replace H : ((impl_DistanceOf.f k2 t1785 t1786 t1787 (rd l0_6 x77_2) a0_5).bind fun t1788 => (impl_DoAct.l0 k2 (mx x6_2 t1788) l0_6 (l0_6.length : Int) (wrap64 (x77_2 + 1)) a0_0 a0_1 a0_2 l0_3 a0_4 a0_5 l0_6 a0_7)) = some (r1, r2, r3, r4, r5, r6, r7, r8, r9) := H
              have A114 := aK A1140
              clear A1140
              replace H := Option.bind_eq_some_iff.mp H
              obtain ⟨t1788, A1150, H⟩ := H
              replace H : (impl_DoAct.l0 k2 (mx x6_2 t1788) l0_6 (l0_6.length : Int) (wrap64 (x77_2 + 1)) a0_0 a0_1 a0_2 l0_3 a0_4 a0_5 l0_6 a0_7) = some (r1, r2, r3, r4, r5, r6, r7, r8, r9) := H
              have A115 := aK A1150
              clear A1150
              obtain ⟨ji116, hji116⟩ : ∃ j_ : Int, (mx x6_2 t1788) = j_ := ⟨_, rfl⟩
              replace H : (impl_DoAct.l0 k2 ji116 l0_6 (l0_6.length : Int) (wrap64 (x77_2 + 1)) a0_0 a0_1 a0_2 l0_3 a0_4 a0_5 l0_6 a0_7) = some (r1, r2, r3, r4, r5, r6, r7, r8, r9) := by first | (rw [hji116] at H; exact H) | (simp only [hji116] at H ⊢; exact H)
              (try rw [hji116] at A114)
              (try rw [hji116] at A115)
              have hji116_ : (if x6_2 < t1788 then t1788 else x6_2) = ji116 := hji116
              have H' := aK H
              clear H
              have p1784 : 0 ≤ (x77_2 : Int) := of_decide_eq_true (by first | (with_reducible assumption) | assumption)
              have q1784 : x77_2 < (l0_6.length : Int) := of_decide_eq_true (by first | (with_reducible assumption) | assumption)
              obtain ⟨ad1784, e1784, hx1784_0⟩ := Kd.at_int HR0_6.out x77_2 p1784 q1784
              cases e1784
              replace hx1784_0 := (HB.out.cell (World.block_lt_of_cell? w _ hx1784_0)).trans hx1784_0
              replace p1784 := eq_true p1784
              replace q1784 := eq_true q1784
              try go_wp2
              have n0_ := aK (kD BK1637.out)
              have n1_ := aK (kD BK1638.out)
              have n2_ := aK (kD BK1639.out)
              have n3_ := aK (bD1 HB.out)
              clear BK1637
              clear BK1638
              clear BK1639
              clear HB
              have BK1637 := n0_
              have BK1638 := n1_
              have BK1639 := n2_
              have HB := n3_
              clear n0_ n1_ n2_ n3_
              refine start_ (n := 10) (S := fun w' => w'.cell? ⟨gb1637, 0, none⟩ = some (.int .i64 a0_0) ∧ w'.cell? ⟨gb1637, 1, none⟩ = some (.int .i64 a0_1) ∧ w'.cell? ⟨gb1637, 2, none⟩ = some (.int .i64 a0_2) ∧ w'.cell? ⟨gb1637, 3, none⟩ = some (.slice A0_3 l0_3.length c0_3) ∧ w'.cell? ⟨gb1637, 4, none⟩ = some (.int .i64 a0_4) ∧ w'.cell? ⟨gb1637, 5, none⟩ = some (.int .i64 a0_5) ∧ w'.cell? ⟨gb1637, 6, none⟩ = some (.slice (some ad1784) l0_6.length c0_6) ∧ w'.cell? ⟨gb1637, 7, none⟩ = some (.int .i64 a0_7)) (ds := []) #[bN,bN,bN,bN,bN,bN,bN,bN,bN,bN] (by kernel_rfl) rfl rfl ⟨zQ BK1637 0, zQ BK1637 1, zQ BK1637 2, zQ BK1637 3, zQ BK1637 4, zQ BK1637 5, zQ BK1637 6, zQ BK1637 7⟩ (fun hHeld => ?_); refine with_tabW impl_DoAct.tab18 impl_DoAct.bits18 (fun HT_ HW_ => ?_)
              generalize wr.drew = w117 at BK1637 BK1638 BK1639 HB hHeld ⊢
              refine pure_ (i := 0) (N := some 81) (v := ?_) (a' := ?_) #[bY,bN,bN,bN,bN,bN,bN,bN,bN,bN] rfl rfl (any_of HT_.out (by kernel_rfl)) (fun _ _ _ h => h) (Or.inl ⟨by rfl, ?_⟩) ?_ ?_
              rotate_left
              ·intro w'
               go_simp
               with_reducible rfl
              rotate_left
              ·simp only [Act.put, sTA, sZ, sS, i64_w, i32_w]
               rfl
              refine pure_ (i := 1) (N := some 82) (v := ?_) (a' := ?_) #[bY,bY,bN,bN,bN,bN,bN,bN,bN,bN] rfl rfl (any_of HT_.out (by kernel_rfl)) (fun _ _ _ h => h) (Or.inl ⟨by rfl, ?_⟩) ?_ ?_
              rotate_left
              ·intro w'
               go_simp
               with_reducible rfl
              rotate_left
              ·simp only [Act.put, sTA, sZ, sS, i64_w, i32_w]
               rfl
              refine pure_ (i := 4) (N := some 85) (v := ?_) (a' := ?_) #[bY,bY,bN,bN,bY,bN,bN,bN,bN,bN] rfl rfl (any_of HT_.out (by kernel_rfl)) (fun _ _ _ h => h) (Or.inl ⟨by rfl, ?_⟩) ?_ ?_
              rotate_left
              ·intro w'
               go_simp
               with_reducible rfl
              rotate_left
              ·simp only [Act.put, sTA, sZ, sS, i64_w, i32_w]
               rfl
              refine pure_ (i := 5) (N := some 86) (v := ?_) (a' := ?_) #[bY,bY,bN,bN,bY,bY,bN,bN,bN,bN] rfl rfl (any_of HT_.out (by kernel_rfl)) (fun _ _ _ h => h) (Or.inl ⟨by rfl, ?_⟩) ?_ ?_
              rotate_left
              ·intro w'
               go_simp
               with_reducible rfl
              rotate_left
              ·simp only [Act.put, sTA, sZ, sS, i64_w, i32_w]
               rfl
              refine take_ (i := 2) (N := some 83) (v := ?_) (a' := ?_) #[bY,bY,bY,bN,bY,bY,bN,bN,bN,bN] rfl rfl (take_ofW HT_.out HW_.out (by kernel_rfl)) (fun _ _ _ h => h) (Or.inl ⟨by rfl, ?_⟩) hHeld ?_ ?_
              rotate_left
              ·rintro w' ⟨s0, s1, s2, s3, s4, s5, s6, s7⟩
               go_simp
               with_reducible rfl
              rotate_left
              ·simp only [Act.put, sTA, sZ, sS, i64_w, i32_w]
               rfl
              refine take_ (i := 6) (N := some 87) (v := ?_) (a' := ?_) #[bY,bY,bY,bN,bY,bY,bY,bN,bN,bN] rfl rfl (take_ofW HT_.out HW_.out (by kernel_rfl)) (fun _ _ _ h => h) (Or.inl ⟨by rfl, ?_⟩) hHeld ?_ ?_
              rotate_left
              ·rintro w' ⟨s0, s1, s2, s3, s4, s5, s6, s7⟩
               go_simp
               with_reducible rfl
              rotate_left
              ·simp only [Act.put, sTA, sZ, sS, i64_w, i32_w]
               rfl
              refine one_ (i := 3) (N := some 84) #[bY,bY,bY,bY,bY,bY,bY,bN,bN,bN] rfl rfl (one_of HT_.out (by kernel_rfl)) (by decide) (fun K hK => ?_)
              refine goes_ Tryz.func50 (by kernel_rfl) rfl #[.agg #[.int .i64 a0_0, .int .i64 a0_1, .int .i64 a0_2, .slice A0_3 l0_3.length c0_3, .int .i64 a0_4]] (by rfl) rfl rfl zD ?_
              with_reducible refine (impl_OpenNow.calls k2 a0_0 a0_1 a0_2 _ _ l0_3 a0_4 t1785 t1786 t1787 _ ?side1 ?side2 A114.out).mono ?_
              (case side1 => exact zC (Kd.C_below HR0_3.out HB.out))
              (case side2 => exact HC0_3.out)
              rintro e w118 ⟨rfl, hb⟩
              refine ⟨_, rfl, ?_⟩
              have n0_ := zB BK1637 hb
              have n1_ := zB BK1638 hb
              have n2_ := zB BK1639 hb
              have n3_ := aK (bSp (zH3 HB GE1637 GE1638 GE1639) hb)
              clear BK1637
              clear BK1638
              clear BK1639
              clear HB
              have BK1637 := n0_
              have BK1638 := n1_
              have BK1639 := n2_
              have HB := n3_
              clear n0_ n1_ n2_ n3_
              (try clear hb)
              (try clear hb2)
              (try clear hk)
              (try clear hi)
              refine hK.out _ _ ⟨zQ BK1637 0, zQ BK1637 1, zQ BK1637 2, zQ BK1637 3, zQ BK1637 4, zQ BK1637 5, zQ BK1637 6, zQ BK1637 7⟩ (fun hHeld => ?_)
              clear hK K
              refine norm_ (a' := ?_) ?_ ?_
              rotate_left
              ·show Act.put _ (some 84) _ = _
               simp only [Act.put, sTA, sZ, sS, i64_w, i32_w]
               rfl
              refine one_ (i := 7) (N := some 88) #[bY,bY,bY,bY,bY,bY,bY,bY,bN,bN] rfl rfl (one_of HT_.out (by kernel_rfl)) (by decide) (fun K hK => ?_)
              refine goes_ Tryz.func53 (by kernel_rfl) rfl #[.agg #[.int .i64 t1785, .int .i64 t1786, .int .i64 t1787], .int .i64 (rd l0_6 x77_2), .int .i64 a0_5] (by rfl) rfl rfl zD ?_
              with_reducible refine (impl_DistanceOf.calls k2 t1785 t1786 t1787 (rd l0_6 x77_2) a0_5 t1788 _ A115.out).mono ?_
              rintro e w119 ⟨rfl, hb⟩
              refine ⟨_, rfl, ?_⟩
              have n0_ := zB BK1637 hb
              have n1_ := zB BK1638 hb
              have n2_ := zB BK1639 hb
              have n3_ := aK (bSp (zH3 HB GE1637 GE1638 GE1639) hb)
              clear BK1637
              clear BK1638
              clear BK1639
              clear HB
              have BK1637 := n0_
              have BK1638 := n1_
              have BK1639 := n2_
              have HB := n3_
              clear n0_ n1_ n2_ n3_
              (try clear hb)
              (try clear hb2)
              (try clear hk)
              (try clear hi)
              refine hK.out _ _ ⟨zQ BK1637 0, zQ BK1637 1, zQ BK1637 2, zQ BK1637 3, zQ BK1637 4, zQ BK1637 5, zQ BK1637 6, zQ BK1637 7⟩ (fun hHeld => ?_)
              clear hK K
              refine norm_ (a' := ?_) ?_ ?_
              rotate_left
              ·show Act.put _ (some 88) _ = _
               simp only [Act.put, sTA, sZ, sS, i64_w, i32_w]
               rfl
              refine pure_ (i := 8) (N := some 89) (v := ?_) (a' := ?_) #[bY,bY,bY,bY,bY,bY,bY,bY,bY,bN] rfl rfl (any_of HT_.out (by kernel_rfl)) (fun _ _ _ h => h) (Or.inl ⟨by rfl, ?_⟩) ?_ ?_
              rotate_left
              ·intro w'
               go_simp
               with_reducible rfl
              rotate_left
              ·simp only [Act.put, sTA, sZ, sS, i64_w, i32_w]
               rfl
              refine pure_ (i := 9) (N := some 6) (v := ?_) (a' := ?_) #[bY,bY,bY,bY,bY,bY,bY,bY,bY,bY] rfl rfl (any_of HT_.out (by kernel_rfl)) (fun _ _ _ h => h) (Or.inl ⟨by rfl, ?_⟩) ?_ ?_
              rotate_left
              ·intro w'
               go_simp
               with_reducible rfl
              rotate_left
              ·simp only [Act.put, sTA, sZ, sS, i64_w, i32_w]
               rfl
              refine done_ (done_of HT_.out (by kernel_rfl)) ?_
              try go_wp2
              go_roundg k2
              case measure => have := HJ2.out; have := HK2.out; omega
              case rel => exact ⟨(ji116), (wrap64 (x77_2 + 1)), (by first | rfl | (simp; done) | (simp only [← hji116] <;> (first | rfl | simp)) | (simp [*]; done)), (by first | rfl | (simp; done) | (simp [*]; done)), H', ⟨by have := HJ2.out; have := HK2.out; omega⟩, ⟨zK BK1637⟩, ⟨zK BK1638⟩, ⟨zK BK1639⟩, ⟨zH3 HB GE1637 GE1638 GE1639⟩⟩
             ·rw [if_neg c113] at H
              exact absurd H (by simp)
            ·rw [if_neg c112] at H
             exact absurd H (by simp)
           ·rw [if_neg c111] at H
            have c111b0 : decide (x77_2 < (l0_6.length : Int)) = false := decide_eq_false c111
            clear c111
            replace H := Option.bind_eq_some_iff.mp H
            obtain ⟨⟨t1789, t1790, t1791, t1792, t1795, t1796, t1797, t1800⟩, A1200, H⟩ := H
            replace H : (some (t1789, t1790, t1791, t1792, t1795, t1796, t1797, t1800, x6_2)) = some (r1, r2, r3, r4, r5, r6, r7, r8, r9) := H
            have A120 := aK A1200
            clear A1200
            simp only [Option.some.injEq, Prod.mk.injEq] at H
            obtain ⟨rfl, rfl, rfl, rfl, rfl, rfl, rfl, rfl, rfl⟩ := H
            have hnb121 := NB1637_1638.out
            have hnc121 := NB1638_1637.out
            have hnb122 := NB1637_1639.out
            have hnc122 := NB1639_1637.out
            obtain ⟨hcz123_0, hcz123_1, hcz123_2, hcz123_3, hcz123_4, hcz123_5, hcz123_6, hcz123_7, hfz123_0, hfz123_1, hfz123_2, hfz123_3, hfz123_4, hfz123_5, hfz123_6, hfz123_7⟩ := cl8 BK1637.out
            go_wp2_with (first | ((with_reducible refine gate_callee (f := 64) rfl ?_); refine goesL_ (some 92) rfl rfl Tryz.func64 (by kernel_rfl) rfl #[.agg #[.int .i64 a0_0, .int .i64 a0_1, .int .i64 a0_2, .slice A0_3 l0_3.length c0_3, .int .i64 a0_4, .int .i64 a0_5, .slice A0_6 l0_6.length c0_6, .int .i64 a0_7]] rfl zD ?_; (with_reducible refine (impl_copyGarden.calls a0_0 a0_1 a0_2 _ _ l0_3 a0_4 a0_5 _ _ l0_6 a0_7 t1789 t1790 t1791 t1792 t1795 t1796 t1797 t1800 _ ?side1 ?side2 ?side3 ?side4 A120.out).mono ?_); (case side1 => exact zC (Kd.C_below HR0_3.out HB.out)); (case side2 => exact HC0_3.out); (case side3 => exact zC (Kd.C_below HR0_6.out HB.out)); (case side4 => exact HC0_6.out); rintro e w124 ⟨v1793, v1798, rfl, ho0, ho1, hb⟩; refine ⟨_, rfl, ?_⟩; have HO1794 := aK (Kd.R_lower ho0 (bSz (zH3 HB GE1637 GE1638 GE1639))); have HO1799 := aK (Kd.R_lower ho1 (bSz (zH3 HB GE1637 GE1638 GE1639))); replace BK1637 := zB BK1637 hb; replace BK1638 := zB BK1638 hb; replace BK1639 := zB BK1639 hb; replace HB := aK (bSp (zH3 HB GE1637 GE1638 GE1639) hb); (try clear hb); (try clear hb2); (try clear hk); (try clear hi); (try clear ho0); (try clear ho1); have hnb125 := NB1639_1638.out; have hnc125 := NB1638_1639.out; obtain ⟨hcz126_0, hcz126_1, hcz126_2, hcz126_3, hcz126_4, hcz126_5, hcz126_6, hcz126_7, hfz126_0, hfz126_1, hfz126_2, hfz126_3, hfz126_4, hfz126_5, hfz126_6, hfz126_7⟩ := cl8 BK1639.out; obtain ⟨Ao127, co127, eo127⟩ := Kd.R_slice HO1794.out; subst eo127; obtain ⟨Ao128, co128, eo128⟩ := Kd.R_slice HO1799.out; subst eo128))
            refine bodyPost_ret (results_ct rfl _ _ gb1639 38 #[.int .i64 t1789, .int .i64 t1790, .int .i64 t1791, .slice Ao127 t1792.length co127, .int .i64 t1795, .int .i64 t1796, .slice Ao128 t1797.length co128, .int .i64 t1800] (0, 0) _ rfl (by (with_reducible repeat (first | refine blk_drewN ?_ _ | refine kD ?_ | refine kA ?_ _)); refine blk_put (cs := #[.int .i64 t1789, .int .i64 t1790, .int .i64 t1791, .slice Ao127 t1792.length co127, .int .i64 t1795, .int .i64 t1796, .slice Ao128 t1797.length co128, .int .i64 0]) ?_ 7 _ rfl; (with_reducible repeat (first | refine blk_drewN ?_ _ | refine kD ?_ | refine kA ?_ _)); refine blk_put (cs := #[.int .i64 t1789, .int .i64 t1790, .int .i64 t1791, .slice Ao127 t1792.length co127, .int .i64 t1795, .int .i64 t1796, .slice none 0 0, .int .i64 0]) ?_ 6 _ rfl; (with_reducible repeat (first | refine blk_drewN ?_ _ | refine kD ?_ | refine kA ?_ _)); refine blk_put (cs := #[.int .i64 t1789, .int .i64 t1790, .int .i64 t1791, .slice Ao127 t1792.length co127, .int .i64 t1795, .int .i64 0, .slice none 0 0, .int .i64 0]) ?_ 5 _ rfl; (with_reducible repeat (first | refine blk_drewN ?_ _ | refine kD ?_ | refine kA ?_ _)); refine blk_put (cs := #[.int .i64 t1789, .int .i64 t1790, .int .i64 t1791, .slice Ao127 t1792.length co127, .int .i64 0, .int .i64 0, .slice none 0 0, .int .i64 0]) ?_ 4 _ rfl; (with_reducible repeat (first | refine blk_drewN ?_ _ | refine kD ?_ | refine kA ?_ _)); refine blk_put (cs := #[.int .i64 t1789, .int .i64 t1790, .int .i64 t1791, .slice none 0 0, .int .i64 0, .int .i64 0, .slice none 0 0, .int .i64 0]) ?_ 3 _ rfl; (with_reducible repeat (first | refine blk_drewN ?_ _ | refine kD ?_ | refine kA ?_ _)); refine blk_put (cs := #[.int .i64 t1789, .int .i64 t1790, .int .i64 0, .slice none 0 0, .int .i64 0, .int .i64 0, .slice none 0 0, .int .i64 0]) ?_ 2 _ rfl; (with_reducible repeat (first | refine blk_drewN ?_ _ | refine kD ?_ | refine kA ?_ _)); refine blk_put (cs := #[.int .i64 t1789, .int .i64 0, .int .i64 0, .slice none 0 0, .int .i64 0, .int .i64 0, .slice none 0 0, .int .i64 0]) ?_ 1 _ rfl; (with_reducible repeat (first | refine blk_drewN ?_ _ | refine kD ?_ | refine kA ?_ _)); refine blk_put (cs := #[.int .i64 0, .int .i64 0, .int .i64 0, .slice none 0 0, .int .i64 0, .int .i64 0, .slice none 0 0, .int .i64 0]) ?_ 0 _ rfl; (with_reducible repeat (first | refine blk_drewN ?_ _ | refine kD ?_ | refine kA ?_ _)); exact BK1639.out) Tryz.underlying38 rfl (by kernel_rfl)) rfl ?_
            exact ⟨_, _, by first | rfl | (simp [errW_none, errW_some] <;> rfl) | (simp [*, errW_none, errW_some] <;> rfl), by (with_reducible repeat (first | apply Kd.R_alloc | apply Kd.R_drewN | apply Kd.R_drew)); exact Kd.R_mono (zT8 HO1794 BK1639 (.int .i64 t1789) (.int .i64 t1790) (.int .i64 t1791) (.slice Ao127 t1792.length co127) (.int .i64 t1795) (.int .i64 t1796) (.slice Ao128 t1797.length co128) (.int .i64 t1800)) (fun _ hk => hk.1), by (with_reducible repeat (first | apply Kd.R_alloc | apply Kd.R_drewN | apply Kd.R_drew)); exact Kd.R_mono (zT8 HO1799 BK1639 (.int .i64 t1789) (.int .i64 t1790) (.int .i64 t1791) (.slice Ao127 t1792.length co127) (.int .i64 t1795) (.int .i64 t1796) (.slice Ao128 t1797.length co128) (.int .i64 t1800)) (fun _ hk => hk.1), by repeat (first | (with_reducible first | exact HB.out | apply bAl | apply bDN | apply bD1 | refine bSt ?_ GE1637.out | refine bSt ?_ GE1638.out | refine bSt ?_ GE1639.out) | exact HB.out)⟩
end Go.Proofs.YtkindoepnganmaaGreat.F
end

section
namespace Go.Proofs.YtkindoepnganmaaGreat.F
open Go.RowKit Go.Proofs.YtkindoepnganmaaGreatW.PrintWords Go.Proofs.YtkindoepnganmaaGreatW.PrintLast Go.Proofs.YtkindoepnganmaaGreatW.PrintMore
set_option linter.unusedVariables false
set_option linter.unusedSimpArgs false
attribute [local go_sem] max2_int min2_int max_two min_two
set_option maxHeartbeats 8000000 in
set_option maxRecDepth 100000 in
theorem impl_RunActs.calls (k : Nat) (a0_0 : Int) (a0_1 : Int) (a0_2 : Int) (A0_3 : Option Addr) (c0_3 : Nat) (l0_3 : List Int) (a0_4 : Int) (a0_5 : Int) (A0_6 : Option Addr) (c0_6 : Nat) (l0_6 : List Int) (a0_7 : Int) (A1 : Option Addr) (c1 : Nat) (l1 : List (SAct)) (r1 : Int) (r2 : Int) (r3 : Int) (r4 : List Int) (r5 : Int) (r6 : Int) (r7 : List Int) (r8 : Int) (r9 : List Int) (w : World) (hr0_3 : Kd.C (Kd.int .i64) w A0_3 l0_3.length l0_3) (hc0_3 : l0_3.length ≤ c0_3) (hr0_6 : Kd.C (Kd.int .i64) w A0_6 l0_6.length l0_6) (hc0_6 : l0_6.length ≤ c0_6) (hr1 : Kd.C k53 w A1 l1.length l1) (hc1 : l1.length ≤ c1) (h : impl_RunActs.f k a0_0 a0_1 a0_2 l0_3 a0_4 a0_5 l0_6 a0_7 l1 = some (r1, r2, r3, r4, r5, r6, r7, r8, r9)) :
  Calls Tryz.prog 36 #[.agg #[.int .i64 a0_0, .int .i64 a0_1, .int .i64 a0_2, .slice A0_3 l0_3.length c0_3, .int .i64 a0_4, .int .i64 a0_5, .slice A0_6 l0_6.length c0_6, .int .i64 a0_7], .slice A1 l1.length c1] w fun e w' => ∃ v3_ v6_ v8_ : Value, e = .returned (.tuple #[.agg #[.int .i64 r1, .int .i64 r2, .int .i64 r3, v3_, .int .i64 r5, .int .i64 r6, v6_, .int .i64 r8], v8_]) ∧ Kd.R (Kd.int .i64) 3 w' w.heap.size (fun k_ => some k_ ≠ (v6_ : Value).ownBlock ∧ some k_ ≠ (v8_ : Value).ownBlock) v3_ r4 ∧ Kd.R (Kd.int .i64) 3 w' w.heap.size (fun k_ => some k_ ≠ (v3_ : Value).ownBlock ∧ some k_ ≠ (v8_ : Value).ownBlock) v6_ r7 ∧ Kd.R (Kd.int .i64) 3 w' w.heap.size (fun k_ => some k_ ≠ (v3_ : Value).ownBlock ∧ some k_ ≠ (v6_ : Value).ownBlock) v8_ r9 ∧ Below w.heap.size w w' := by
 have hu38 := Tryz.underlying38
 have hu53 := Tryz.underlying53
 have HR0_3 := aK hr0_3
 have HC0_3 := aK hc0_3
 clear hr0_3 hc0_3
 have HR0_6 := aK hr0_6
 have HC0_6 := aK hc0_6
 clear hr0_6 hc0_6
 have HR1 := aK hr1
 have HC1 := aK hc1
 clear hr1 hc1
 have HB := aK (Below.refl w.heap.size w)
 have H : ((impl_copyGarden.f a0_0 a0_1 a0_2 l0_3 a0_4 a0_5 l0_6 a0_7).bind fun bt1963 => ((impl_GardenOk.f k a0_0 a0_1 a0_2 l0_3 a0_4 a0_5 l0_6 a0_7).bind fun t1976 => (if t1976 = true then (impl_RunActs.j0 k l1 (decide ((l1.length : Int) > 40)) bt1963.1 bt1963.2.1 bt1963.2.2.1 bt1963.2.2.2.1 bt1963.2.2.2.2.1 bt1963.2.2.2.2.2.1 bt1963.2.2.2.2.2.2.1 bt1963.2.2.2.2.2.2.2) else (impl_RunActs.j0 k l1 true bt1963.1 bt1963.2.1 bt1963.2.2.1 bt1963.2.2.2.1 bt1963.2.2.2.2.1 bt1963.2.2.2.2.2.1 bt1963.2.2.2.2.2.2.1 bt1963.2.2.2.2.2.2.2)))) = some (r1, r2, r3, r4, r5, r6, r7, r8, r9) := h
 clear h
 replace H := Option.bind_eq_some_iff.mp H
 obtain ⟨⟨t1963, t1964, t1965, t1966, t1969, t1970, t1971, t1974⟩, A30, H⟩ := H
 replace H : ((impl_GardenOk.f k a0_0 a0_1 a0_2 l0_3 a0_4 a0_5 l0_6 a0_7).bind fun t1976 => (if t1976 = true then (impl_RunActs.j0 k l1 (decide ((l1.length : Int) > 40)) t1963 t1964 t1965 t1966 t1969 t1970 t1971 t1974) else (impl_RunActs.j0 k l1 true t1963 t1964 t1965 t1966 t1969 t1970 t1971 t1974))) = some (r1, r2, r3, r4, r5, r6, r7, r8, r9) := H
 have A3 := aK A30
 clear A30
 have HC4 := aK H
 clear H
 go_enter Tryz.func36, Tryz.ntmps36
 go_upto_region 2 with (first | ((with_reducible refine gate_dst (N := 2) rfl ?_); (try (refine gate_guard (by rfl) ?_; dsimp only)); refine box_event ?hg (N := 2) ?hd (cs := #[.int .i64 a0_0, .int .i64 a0_1, .int .i64 a0_2, .slice A0_3 l0_3.length c0_3, .int .i64 a0_4, .int .i64 a0_5, .slice A0_6 l0_6.length c0_6, .int .i64 a0_7]) (t := 38) ?hr ?_; (case hd => rfl); (case hg => rfl); (case hr => first | (go_simp; done) | (go_simp; rfl)); intro gb1961 hg w5 hbox hb; have BK1961 := aK (hbox); have GW1961 := aK ((by rw [hg]; exact (bSz (zH0 HB)) : w.heap.size ≤ gb1961)); replace HB := aK (bSp (zH0 HB) hb); have GE1961 := GW1961; clear hb hbox hg) | ((with_reducible refine gate_dst (N := 4) rfl ?_); (try (refine gate_guard (by rfl) ?_; dsimp only)); refine box_event ?hg (N := 4) ?hd (cs := #[.int .i64 0, .int .i64 0, .int .i64 0, .slice none 0 0, .int .i64 0, .int .i64 0, .slice none 0 0, .int .i64 0]) (t := 38) ?hr ?_; (case hd => rfl); (case hg => rfl); (case hr => first | (go_simp; done) | (go_simp; rfl)); intro gb1962 hg w6 hbox hb; have BK1962 := aK (hbox); have GW1962 := aK ((by rw [hg]; exact (bSz (zH1 HB GE1961)) : w.heap.size ≤ gb1962)); replace HB := aK (bSp (zH1 HB GE1961) hb); have GE1962 := GW1962; have NB1961_1962 := nbl BK1961 hg (by intro z_; (with_reducible repeat (first | refine blk_drewN ?_ _ | refine kD ?_ | refine kA ?_ _)); exact z_); replace BK1961 := zB BK1961 hb; have NB1962_1961 := nbs NB1961_1962; clear hb hbox hg; have hnb7 := NB1961_1962.out; have hnc7 := NB1962_1961.out; obtain ⟨hcz8_0, hcz8_1, hcz8_2, hcz8_3, hcz8_4, hcz8_5, hcz8_6, hcz8_7, hfz8_0, hfz8_1, hfz8_2, hfz8_3, hfz8_4, hfz8_5, hfz8_6, hfz8_7⟩ := cl8 BK1961.out) | ((with_reducible refine gate_callee (f := 64) rfl ?_); refine goesL_ (some 13) rfl rfl Tryz.func64 (by kernel_rfl) rfl #[.agg #[.int .i64 a0_0, .int .i64 a0_1, .int .i64 a0_2, .slice A0_3 l0_3.length c0_3, .int .i64 a0_4, .int .i64 a0_5, .slice A0_6 l0_6.length c0_6, .int .i64 a0_7]] rfl zD ?_; (with_reducible refine (impl_copyGarden.calls a0_0 a0_1 a0_2 _ _ l0_3 a0_4 a0_5 _ _ l0_6 a0_7 t1963 t1964 t1965 t1966 t1969 t1970 t1971 t1974 _ ?side1 ?side2 ?side3 ?side4 A3.out).mono ?_); (case side1 => exact zC (Kd.C_below HR0_3.out HB.out)); (case side2 => exact HC0_3.out); (case side3 => exact zC (Kd.C_below HR0_6.out HB.out)); (case side4 => exact HC0_6.out); rintro e w9 ⟨v1967, v1972, rfl, ho0, ho1, hb⟩; refine ⟨_, rfl, ?_⟩; have HO1968 := aK (Kd.R_lower ho0 (bSz (zH2 HB GE1961 GE1962))); have HO1973 := aK (Kd.R_lower ho1 (bSz (zH2 HB GE1961 GE1962))); replace BK1961 := zB BK1961 hb; replace BK1962 := zB BK1962 hb; replace HB := aK (bSp (zH2 HB GE1961 GE1962) hb); (try clear hb); (try clear hb2); (try clear hk); (try clear hi); (try clear ho0); (try clear ho1)) | ((with_reducible refine gate_dst (N := 6) rfl ?_); (try (refine gate_guard (by rfl) ?_; dsimp only)); refine box_event ?hg (N := 6) ?hd (cs := #[.int .i64 0, .int .i64 0, .int .i64 0, .slice none 0 0, .int .i64 0, .int .i64 0, .slice none 0 0, .int .i64 0]) (t := 38) ?hr ?_; (case hd => rfl); (case hg => rfl); (case hr => first | (go_simp; done) | (go_simp; rfl)); intro gb1975 hg w10 hbox hb; replace HO1968 := aK (Kd.R_below (zA HO1968) hb); replace HO1973 := aK (Kd.R_below (zA HO1973) hb); have BK1975 := aK (hbox); have GW1975 := aK ((by rw [hg]; exact (bSz (zH2 HB GE1961 GE1962)) : w.heap.size ≤ gb1975)); replace HB := aK (bSp (zH2 HB GE1961 GE1962) hb); have GE1975 := GW1975; have NB1961_1975 := nbl BK1961 hg (by intro z_; (with_reducible repeat (first | refine blk_drewN ?_ _ | refine kD ?_ | refine kA ?_ _)); exact z_); replace BK1961 := zB BK1961 hb; have NB1975_1961 := nbs NB1961_1975; have NB1962_1975 := nbl BK1962 hg (by intro z_; (with_reducible repeat (first | refine blk_drewN ?_ _ | refine kD ?_ | refine kA ?_ _)); exact z_); replace BK1962 := zB BK1962 hb; have NB1975_1962 := nbs NB1962_1975; clear hb hbox hg; have hnb11 := NB1975_1961.out; have hnc11 := NB1961_1975.out; have hnb12 := NB1975_1962.out; have hnc12 := NB1962_1975.out; obtain ⟨hcz13_0, hcz13_1, hcz13_2, hcz13_3, hcz13_4, hcz13_5, hcz13_6, hcz13_7, hfz13_0, hfz13_1, hfz13_2, hfz13_3, hfz13_4, hfz13_5, hfz13_6, hfz13_7⟩ := cl8 BK1975.out; obtain ⟨Ao14, co14, eo14⟩ := Kd.R_slice HO1968.out; subst eo14; obtain ⟨Ao15, co15, eo15⟩ := Kd.R_slice HO1973.out; subst eo15))
 (try simp only [Act.put, sTA, sZ, sS])
 go_cut [21] (fun v21 wc => ∃ (kq : Nat) (x21_3 : Bool), v21 = .bool x21_3 ∧ Aside0 (impl_RunActs.j0 kq l1 x21_3 t1963 t1964 t1965 t1966 t1969 t1970 t1971 t1974 = some (r1, r2, r3, r4, r5, r6, r7, r8, r9)) ∧ Aside0 (kq ≤ k) ∧ Aside0 (Kd.R (Kd.int .i64) 3 wc w.heap.size (fun k_ => some k_ ≠ ((.slice Ao15 t1971.length co15) : Value).ownBlock) (.slice Ao14 t1966.length co14) t1966) ∧ Aside0 (Kd.R (Kd.int .i64) 3 wc w.heap.size (fun k_ => some k_ ≠ ((.slice Ao14 t1966.length co14) : Value).ownBlock) (.slice Ao15 t1971.length co15) t1971) ∧ Aside0 (wc.heap[gb1961]? = some (.cells #[.int .i64 a0_0, .int .i64 a0_1, .int .i64 a0_2, (.slice A0_3 l0_3.length c0_3), .int .i64 a0_4, .int .i64 a0_5, (.slice A0_6 l0_6.length c0_6), .int .i64 a0_7] 38 (0, 0))) ∧ Aside0 (wc.heap[gb1962]? = some (.cells #[.int .i64 0, .int .i64 0, .int .i64 0, (.slice none 0 0), .int .i64 0, .int .i64 0, (.slice none 0 0), .int .i64 0] 38 (0, 0))) ∧ Aside0 (wc.heap[gb1975]? = some (.cells #[.int .i64 t1963, .int .i64 t1964, .int .i64 t1965, (.slice Ao14 t1966.length co14), .int .i64 t1969, .int .i64 t1970, (.slice Ao15 t1971.length co15), .int .i64 t1974] 38 (0, 0))) ∧ Aside0 (Below w.heap.size w wc))
 case first =>
  have H := HC4.out
  clear HC4
  replace H := Option.bind_eq_some_iff.mp H
  obtain ⟨t1976, A160, H⟩ := H
  replace H : (if t1976 = true then (impl_RunActs.j0 k l1 (decide ((l1.length : Int) > 40)) t1963 t1964 t1965 t1966 t1969 t1970 t1971 t1974) else (impl_RunActs.j0 k l1 true t1963 t1964 t1965 t1966 t1969 t1970 t1971 t1974)) = some (r1, r2, r3, r4, r5, r6, r7, r8, r9) := H
  have A16 := aK A160
  clear A160
  by_cases c17 : t1976 = true
  ·subst c17
   have H1 : (impl_RunActs.j0 k l1 (decide ((l1.length : Int) > 40)) t1963 t1964 t1965 t1966 t1969 t1970 t1971 t1974) = some (r1, r2, r3, r4, r5, r6, r7, r8, r9) := by rw [if_pos rfl] at H; exact H
   clear H
   have H := H1
   clear H1
   have H' := aK H
   clear H
   have hnb18 := NB1961_1962.out
   have hnc18 := NB1962_1961.out
   have hnb19 := NB1961_1975.out
   have hnc19 := NB1975_1961.out
   obtain ⟨hcz20_0, hcz20_1, hcz20_2, hcz20_3, hcz20_4, hcz20_5, hcz20_6, hcz20_7, hfz20_0, hfz20_1, hfz20_2, hfz20_3, hfz20_4, hfz20_5, hfz20_6, hfz20_7⟩ := cl8 BK1961.out
   go_wp2_with (first | ((with_reducible refine gate_callee (f := 48) rfl ?_); refine goesL_ (some 15) rfl rfl Tryz.func48 (by kernel_rfl) rfl #[.agg #[.int .i64 a0_0, .int .i64 a0_1, .int .i64 a0_2, .slice A0_3 l0_3.length c0_3, .int .i64 a0_4, .int .i64 a0_5, .slice A0_6 l0_6.length c0_6, .int .i64 a0_7]] rfl zD ?_; (with_reducible refine (impl_GardenOk.calls k a0_0 a0_1 a0_2 _ _ l0_3 a0_4 a0_5 _ _ l0_6 a0_7 true _ ?side1 ?side2 ?side3 ?side4 A16.out).mono ?_); (case side1 => exact Kd.C_below HR0_3.out (zH3 HB GE1961 GE1962 GE1975)); (case side2 => exact HC0_3.out); (case side3 => exact Kd.C_below HR0_6.out (zH3 HB GE1961 GE1962 GE1975)); (case side4 => exact HC0_6.out); rintro e w21 ⟨rfl, hb⟩; refine ⟨_, rfl, ?_⟩; replace HO1968 := aK (Kd.R_below (zF8 HO1968 BK1975) hb); replace HO1973 := aK (Kd.R_below (zF8 HO1973 BK1975) hb); replace BK1961 := zG8 BK1961 NB1961_1975 hb; replace BK1962 := zG8 BK1962 NB1962_1975 hb; replace BK1975 := aK (blk_below (g := gb1975) (o := .cells #[.int .i64 t1963, .int .i64 t1964, .int .i64 t1965, .slice Ao14 t1966.length co14, .int .i64 t1969, .int .i64 t1970, .slice Ao15 t1971.length co15, .int .i64 t1974] 38 (0, 0)) (by (with_reducible repeat (first | refine blk_drewN ?_ _ | refine kD ?_ | refine kA ?_ _)); refine blk_put (cs := #[.int .i64 t1963, .int .i64 t1964, .int .i64 t1965, .slice Ao14 t1966.length co14, .int .i64 t1969, .int .i64 t1970, .slice Ao15 t1971.length co15, .int .i64 0]) ?_ 7 _ rfl; (with_reducible repeat (first | refine blk_drewN ?_ _ | refine kD ?_ | refine kA ?_ _)); refine blk_put (cs := #[.int .i64 t1963, .int .i64 t1964, .int .i64 t1965, .slice Ao14 t1966.length co14, .int .i64 t1969, .int .i64 t1970, .slice none 0 0, .int .i64 0]) ?_ 6 _ rfl; (with_reducible repeat (first | refine blk_drewN ?_ _ | refine kD ?_ | refine kA ?_ _)); refine blk_put (cs := #[.int .i64 t1963, .int .i64 t1964, .int .i64 t1965, .slice Ao14 t1966.length co14, .int .i64 t1969, .int .i64 0, .slice none 0 0, .int .i64 0]) ?_ 5 _ rfl; (with_reducible repeat (first | refine blk_drewN ?_ _ | refine kD ?_ | refine kA ?_ _)); refine blk_put (cs := #[.int .i64 t1963, .int .i64 t1964, .int .i64 t1965, .slice Ao14 t1966.length co14, .int .i64 0, .int .i64 0, .slice none 0 0, .int .i64 0]) ?_ 4 _ rfl; (with_reducible repeat (first | refine blk_drewN ?_ _ | refine kD ?_ | refine kA ?_ _)); refine blk_put (cs := #[.int .i64 t1963, .int .i64 t1964, .int .i64 t1965, .slice none 0 0, .int .i64 0, .int .i64 0, .slice none 0 0, .int .i64 0]) ?_ 3 _ rfl; (with_reducible repeat (first | refine blk_drewN ?_ _ | refine kD ?_ | refine kA ?_ _)); refine blk_put (cs := #[.int .i64 t1963, .int .i64 t1964, .int .i64 0, .slice none 0 0, .int .i64 0, .int .i64 0, .slice none 0 0, .int .i64 0]) ?_ 2 _ rfl; (with_reducible repeat (first | refine blk_drewN ?_ _ | refine kD ?_ | refine kA ?_ _)); refine blk_put (cs := #[.int .i64 t1963, .int .i64 0, .int .i64 0, .slice none 0 0, .int .i64 0, .int .i64 0, .slice none 0 0, .int .i64 0]) ?_ 1 _ rfl; (with_reducible repeat (first | refine blk_drewN ?_ _ | refine kD ?_ | refine kA ?_ _)); refine blk_put (cs := #[.int .i64 0, .int .i64 0, .int .i64 0, .slice none 0 0, .int .i64 0, .int .i64 0, .slice none 0 0, .int .i64 0]) ?_ 0 _ rfl; (with_reducible repeat (first | refine blk_drewN ?_ _ | refine kD ?_ | refine kA ?_ _)); exact BK1975.out) hb); replace HB := aK (bSp (zH3 HB GE1961 GE1962 GE1975) hb); (try clear hb); (try clear hb2); (try clear hk); (try clear hi)))
   go_meet
   case rel => exact ⟨_, (decide ((l1.length : Int) > 40)), (by first | rfl | (simp; done) | (simp [*]; done)), H', ⟨by first | omega | exact Nat.le_refl _⟩, ⟨zA HO1968⟩, ⟨zA HO1973⟩, ⟨zK BK1961⟩, ⟨zK BK1962⟩, ⟨zK BK1975⟩, ⟨zH3 HB GE1961 GE1962 GE1975⟩⟩
  ·replace c17 := Bool.eq_false_iff.mpr c17
   subst c17
   have H1 : (impl_RunActs.j0 k l1 true t1963 t1964 t1965 t1966 t1969 t1970 t1971 t1974) = some (r1, r2, r3, r4, r5, r6, r7, r8, r9) := by rw [if_neg (show ¬ (false = true) by decide)] at H; exact H
   clear H
   have H := H1
   clear H1
   have H' := aK H
   clear H
   have hnb22 := NB1961_1962.out
   have hnc22 := NB1962_1961.out
   have hnb23 := NB1961_1975.out
   have hnc23 := NB1975_1961.out
   obtain ⟨hcz24_0, hcz24_1, hcz24_2, hcz24_3, hcz24_4, hcz24_5, hcz24_6, hcz24_7, hfz24_0, hfz24_1, hfz24_2, hfz24_3, hfz24_4, hfz24_5, hfz24_6, hfz24_7⟩ := cl8 BK1961.out
   go_wp2_with (first | ((with_reducible refine gate_callee (f := 48) rfl ?_); refine goesL_ (some 15) rfl rfl Tryz.func48 (by kernel_rfl) rfl #[.agg #[.int .i64 a0_0, .int .i64 a0_1, .int .i64 a0_2, .slice A0_3 l0_3.length c0_3, .int .i64 a0_4, .int .i64 a0_5, .slice A0_6 l0_6.length c0_6, .int .i64 a0_7]] rfl zD ?_; (with_reducible refine (impl_GardenOk.calls k a0_0 a0_1 a0_2 _ _ l0_3 a0_4 a0_5 _ _ l0_6 a0_7 false _ ?side1 ?side2 ?side3 ?side4 A16.out).mono ?_); (case side1 => exact Kd.C_below HR0_3.out (zH3 HB GE1961 GE1962 GE1975)); (case side2 => exact HC0_3.out); (case side3 => exact Kd.C_below HR0_6.out (zH3 HB GE1961 GE1962 GE1975)); (case side4 => exact HC0_6.out); rintro e w25 ⟨rfl, hb⟩; refine ⟨_, rfl, ?_⟩; replace HO1968 := aK (Kd.R_below (zF8 HO1968 BK1975) hb); replace HO1973 := aK (Kd.R_below (zF8 HO1973 BK1975) hb); replace BK1961 := zG8 BK1961 NB1961_1975 hb; replace BK1962 := zG8 BK1962 NB1962_1975 hb; replace BK1975 := aK (blk_below (g := gb1975) (o := .cells #[.int .i64 t1963, .int .i64 t1964, .int .i64 t1965, .slice Ao14 t1966.length co14, .int .i64 t1969, .int .i64 t1970, .slice Ao15 t1971.length co15, .int .i64 t1974] 38 (0, 0)) (by (with_reducible repeat (first | refine blk_drewN ?_ _ | refine kD ?_ | refine kA ?_ _)); refine blk_put (cs := #[.int .i64 t1963, .int .i64 t1964, .int .i64 t1965, .slice Ao14 t1966.length co14, .int .i64 t1969, .int .i64 t1970, .slice Ao15 t1971.length co15, .int .i64 0]) ?_ 7 _ rfl; (with_reducible repeat (first | refine blk_drewN ?_ _ | refine kD ?_ | refine kA ?_ _)); refine blk_put (cs := #[.int .i64 t1963, .int .i64 t1964, .int .i64 t1965, .slice Ao14 t1966.length co14, .int .i64 t1969, .int .i64 t1970, .slice none 0 0, .int .i64 0]) ?_ 6 _ rfl; (with_reducible repeat (first | refine blk_drewN ?_ _ | refine kD ?_ | refine kA ?_ _)); refine blk_put (cs := #[.int .i64 t1963, .int .i64 t1964, .int .i64 t1965, .slice Ao14 t1966.length co14, .int .i64 t1969, .int .i64 0, .slice none 0 0, .int .i64 0]) ?_ 5 _ rfl; (with_reducible repeat (first | refine blk_drewN ?_ _ | refine kD ?_ | refine kA ?_ _)); refine blk_put (cs := #[.int .i64 t1963, .int .i64 t1964, .int .i64 t1965, .slice Ao14 t1966.length co14, .int .i64 0, .int .i64 0, .slice none 0 0, .int .i64 0]) ?_ 4 _ rfl; (with_reducible repeat (first | refine blk_drewN ?_ _ | refine kD ?_ | refine kA ?_ _)); refine blk_put (cs := #[.int .i64 t1963, .int .i64 t1964, .int .i64 t1965, .slice none 0 0, .int .i64 0, .int .i64 0, .slice none 0 0, .int .i64 0]) ?_ 3 _ rfl; (with_reducible repeat (first | refine blk_drewN ?_ _ | refine kD ?_ | refine kA ?_ _)); refine blk_put (cs := #[.int .i64 t1963, .int .i64 t1964, .int .i64 0, .slice none 0 0, .int .i64 0, .int .i64 0, .slice none 0 0, .int .i64 0]) ?_ 2 _ rfl; (with_reducible repeat (first | refine blk_drewN ?_ _ | refine kD ?_ | refine kA ?_ _)); refine blk_put (cs := #[.int .i64 t1963, .int .i64 0, .int .i64 0, .slice none 0 0, .int .i64 0, .int .i64 0, .slice none 0 0, .int .i64 0]) ?_ 1 _ rfl; (with_reducible repeat (first | refine blk_drewN ?_ _ | refine kD ?_ | refine kA ?_ _)); refine blk_put (cs := #[.int .i64 0, .int .i64 0, .int .i64 0, .slice none 0 0, .int .i64 0, .int .i64 0, .slice none 0 0, .int .i64 0]) ?_ 0 _ rfl; (with_reducible repeat (first | refine blk_drewN ?_ _ | refine kD ?_ | refine kA ?_ _)); exact BK1975.out) hb); replace HB := aK (bSp (zH3 HB GE1961 GE1962 GE1975) hb); (try clear hb); (try clear hb2); (try clear hk); (try clear hi)))
   go_meet
   case rel => exact ⟨_, (true), (by first | rfl | (simp; done) | (simp [*]; done)), H', ⟨by first | omega | exact Nat.le_refl _⟩, ⟨zA HO1968⟩, ⟨zA HO1973⟩, ⟨zK BK1961⟩, ⟨zK BK1962⟩, ⟨zK BK1975⟩, ⟨zH3 HB GE1961 GE1962 GE1975⟩⟩
 case rest =>
  clear HC4
  try clear c1
  try clear c2
  try clear p2
  try clear c3
  try clear c4
  try clear c6
  try clear c7
  try clear c11
  try clear c12
  try clear c17
  try clear c18
  try clear c19
  try clear c22
  try clear c23
  try clear hcz13_0
  try clear hcz13_1
  try clear hcz13_2
  try clear hcz13_3
  try clear hcz13_4
  try clear hcz13_5
  try clear hcz13_6
  try clear hcz13_7
  try clear hcz20_0
  try clear hcz20_1
  try clear hcz20_2
  try clear hcz20_3
  try clear hcz20_4
  try clear hcz20_5
  try clear hcz20_6
  try clear hcz20_7
  try clear hcz24_0
  try clear hcz24_1
  try clear hcz24_2
  try clear hcz24_3
  try clear hcz24_4
  try clear hcz24_5
  try clear hcz24_6
  try clear hcz24_7
  try clear hcz8_0
  try clear hcz8_1
  try clear hcz8_2
  try clear hcz8_3
  try clear hcz8_4
  try clear hcz8_5
  try clear hcz8_6
  try clear hcz8_7
  try clear hfz13_0
  try clear hfz13_1
  try clear hfz13_2
  try clear hfz13_3
  try clear hfz13_4
  try clear hfz13_5
  try clear hfz13_6
  try clear hfz13_7
  try clear hfz20_0
  try clear hfz20_1
  try clear hfz20_2
  try clear hfz20_3
  try clear hfz20_4
  try clear hfz20_5
  try clear hfz20_6
  try clear hfz20_7
  try clear hfz24_0
  try clear hfz24_1
  try clear hfz24_2
  try clear hfz24_3
  try clear hfz24_4
  try clear hfz24_5
  try clear hfz24_6
  try clear hfz24_7
  try clear hfz8_0
  try clear hfz8_1
  try clear hfz8_2
  try clear hfz8_3
  try clear hfz8_4
  try clear hfz8_5
  try clear hfz8_6
  try clear hfz8_7
  obtain ⟨kq, x21_3, rfl, HA, HJ3, HO_1976003, HO_1976006, BK1961, BK1962, BK1975, HB⟩ := hcut
  cases kq with
  | zero => exact absurd HA.out (by simp [impl_RunActs.j0])
  | succ kj3 =>
   have H := HA.out
   clear HA
   simp only [impl_RunActs.j0] at H
   by_cases c26 : x21_3 = true
   ·subst c26
    have H1 : (some (t1963, t1964, t1965, t1966, t1969, t1970, t1971, t1974, ([] : List Int))) = some (r1, r2, r3, r4, r5, r6, r7, r8, r9) := by rw [if_pos rfl] at H; exact H
    clear H
    have H := H1
    clear H1
    simp only [Option.some.injEq, Prod.mk.injEq] at H
    obtain ⟨rfl, rfl, rfl, rfl, rfl, rfl, rfl, rfl, rfl⟩ := H
    have hnb27 := NB1975_1961.out
    have hnc27 := NB1961_1975.out
    have hnb28 := NB1975_1962.out
    have hnc28 := NB1962_1975.out
    obtain ⟨hcz29_0, hcz29_1, hcz29_2, hcz29_3, hcz29_4, hcz29_5, hcz29_6, hcz29_7, hfz29_0, hfz29_1, hfz29_2, hfz29_3, hfz29_4, hfz29_5, hfz29_6, hfz29_7⟩ := cl8 BK1975.out
    have hnb30 := NB1962_1961.out
    have hnc30 := NB1961_1962.out
    obtain ⟨hcz31_0, hcz31_1, hcz31_2, hcz31_3, hcz31_4, hcz31_5, hcz31_6, hcz31_7, hfz31_0, hfz31_1, hfz31_2, hfz31_3, hfz31_4, hfz31_5, hfz31_6, hfz31_7⟩ := cl8 BK1962.out
    go_wp2
    refine bodyPost_ret (results_ct rfl _ _ gb1962 38 #[.int .i64 t1963, .int .i64 t1964, .int .i64 t1965, .slice Ao14 t1966.length co14, .int .i64 t1969, .int .i64 t1970, .slice Ao15 t1971.length co15, .int .i64 t1974] (0, 0) _ rfl (by (with_reducible repeat (first | refine blk_drewN ?_ _ | refine kD ?_ | refine kA ?_ _)); refine blk_put (cs := #[.int .i64 t1963, .int .i64 t1964, .int .i64 t1965, .slice Ao14 t1966.length co14, .int .i64 t1969, .int .i64 t1970, .slice Ao15 t1971.length co15, .int .i64 0]) ?_ 7 _ rfl; (with_reducible repeat (first | refine blk_drewN ?_ _ | refine kD ?_ | refine kA ?_ _)); refine blk_put (cs := #[.int .i64 t1963, .int .i64 t1964, .int .i64 t1965, .slice Ao14 t1966.length co14, .int .i64 t1969, .int .i64 t1970, .slice none 0 0, .int .i64 0]) ?_ 6 _ rfl; (with_reducible repeat (first | refine blk_drewN ?_ _ | refine kD ?_ | refine kA ?_ _)); refine blk_put (cs := #[.int .i64 t1963, .int .i64 t1964, .int .i64 t1965, .slice Ao14 t1966.length co14, .int .i64 t1969, .int .i64 0, .slice none 0 0, .int .i64 0]) ?_ 5 _ rfl; (with_reducible repeat (first | refine blk_drewN ?_ _ | refine kD ?_ | refine kA ?_ _)); refine blk_put (cs := #[.int .i64 t1963, .int .i64 t1964, .int .i64 t1965, .slice Ao14 t1966.length co14, .int .i64 0, .int .i64 0, .slice none 0 0, .int .i64 0]) ?_ 4 _ rfl; (with_reducible repeat (first | refine blk_drewN ?_ _ | refine kD ?_ | refine kA ?_ _)); refine blk_put (cs := #[.int .i64 t1963, .int .i64 t1964, .int .i64 t1965, .slice none 0 0, .int .i64 0, .int .i64 0, .slice none 0 0, .int .i64 0]) ?_ 3 _ rfl; (with_reducible repeat (first | refine blk_drewN ?_ _ | refine kD ?_ | refine kA ?_ _)); refine blk_put (cs := #[.int .i64 t1963, .int .i64 t1964, .int .i64 0, .slice none 0 0, .int .i64 0, .int .i64 0, .slice none 0 0, .int .i64 0]) ?_ 2 _ rfl; (with_reducible repeat (first | refine blk_drewN ?_ _ | refine kD ?_ | refine kA ?_ _)); refine blk_put (cs := #[.int .i64 t1963, .int .i64 0, .int .i64 0, .slice none 0 0, .int .i64 0, .int .i64 0, .slice none 0 0, .int .i64 0]) ?_ 1 _ rfl; (with_reducible repeat (first | refine blk_drewN ?_ _ | refine kD ?_ | refine kA ?_ _)); refine blk_put (cs := #[.int .i64 0, .int .i64 0, .int .i64 0, .slice none 0 0, .int .i64 0, .int .i64 0, .slice none 0 0, .int .i64 0]) ?_ 0 _ rfl; (with_reducible repeat (first | refine blk_drewN ?_ _ | refine kD ?_ | refine kA ?_ _)); exact BK1962.out) Tryz.underlying38 rfl (by kernel_rfl)) rfl ?_
    exact ⟨_, _, _, by first | rfl | (simp [errW_none, errW_some] <;> rfl) | (simp [*, errW_none, errW_some] <;> rfl), by (with_reducible repeat (first | apply Kd.R_alloc | apply Kd.R_drewN | apply Kd.R_drew)); exact Kd.R_mono (zT8 HO_1976003 BK1962 (.int .i64 t1963) (.int .i64 t1964) (.int .i64 t1965) (.slice Ao14 t1966.length co14) (.int .i64 t1969) (.int .i64 t1970) (.slice Ao15 t1971.length co15) (.int .i64 t1974)) (fun _ hk => ⟨hk.1, (by simp [Value.ownBlock])⟩), by (with_reducible repeat (first | apply Kd.R_alloc | apply Kd.R_drewN | apply Kd.R_drew)); exact Kd.R_mono (zT8 HO_1976006 BK1962 (.int .i64 t1963) (.int .i64 t1964) (.int .i64 t1965) (.slice Ao14 t1966.length co14) (.int .i64 t1969) (.int .i64 t1970) (.slice Ao15 t1971.length co15) (.int .i64 t1974)) (fun _ hk => ⟨hk.1, (by simp [Value.ownBlock])⟩), by first | exact Kd.R_nil _ _ _ _ _ | exact Kd.N_nil _ _ _ _ _ | exact Kd.V_nil _ _ _ _ _ | exact Kd.Q_nil _ _ _ _ _ | exact Kd.S_nil _ _ _ _ _, by repeat (first | (with_reducible first | exact HB.out | apply bAl | apply bDN | apply bD1 | refine bSt ?_ GE1961.out | refine bSt ?_ GE1962.out | refine bSt ?_ GE1975.out) | exact HB.out)⟩
   ·replace c26 := Bool.eq_false_iff.mpr c26
    subst c26
    have H1 : (impl_RunActs.l0 kj3 ([] : List Int) l1 (l1.length : Int) 0 t1963 t1964 t1965 t1966 t1969 t1970 t1971 t1974) = some (r1, r2, r3, r4, r5, r6, r7, r8, r9) := by rw [if_neg (show ¬ (false = true) by decide)] at H; exact H
    clear H
    have H := H1
    clear H1
    have H' := aK H
    clear H
    go_wp2
    go_loopg [7, 25] kj3 (fun kq v7 v25 w' => ∃ (x7_2 : List Int) (x25_2 : Int) (x1976000_2 : Int) (x1976001_2 : Int) (x1976002_2 : Int) (x1976003_2 : List Int) (x1976004_2 : Int) (x1976005_2 : Int) (x1976006_2 : List Int) (x1976007_2 : Int) (u1976003 : Value) (u1976006 : Value), v25 = .int .i64 x25_2 ∧ Aside0 (impl_RunActs.l0 kq x7_2 l1 (l1.length : Int) x25_2 x1976000_2 x1976001_2 x1976002_2 x1976003_2 x1976004_2 x1976005_2 x1976006_2 x1976007_2 = some (r1, r2, r3, r4, r5, r6, r7, r8, r9)) ∧ Aside0 (kq ≤ kj3) ∧ Aside0 (Kd.R (Kd.int .i64) 3 w' w.heap.size (fun k_ => some k_ ≠ (u1976003 : Value).ownBlock ∧ some k_ ≠ (u1976006 : Value).ownBlock) v7 x7_2) ∧ Aside0 (Kd.R (Kd.int .i64) 3 w' w.heap.size (fun k_ => some k_ ≠ (v7 : Value).ownBlock ∧ some k_ ≠ (u1976006 : Value).ownBlock) u1976003 x1976003_2) ∧ Aside0 (Kd.R (Kd.int .i64) 3 w' w.heap.size (fun k_ => some k_ ≠ (v7 : Value).ownBlock ∧ some k_ ≠ (u1976003 : Value).ownBlock) u1976006 x1976006_2) ∧ Aside0 (w'.heap[gb1961]? = some (.cells #[.int .i64 a0_0, .int .i64 a0_1, .int .i64 a0_2, (.slice A0_3 l0_3.length c0_3), .int .i64 a0_4, .int .i64 a0_5, (.slice A0_6 l0_6.length c0_6), .int .i64 a0_7] 38 (0, 0))) ∧ Aside0 (w'.heap[gb1962]? = some (.cells #[.int .i64 0, .int .i64 0, .int .i64 0, (.slice none 0 0), .int .i64 0, .int .i64 0, (.slice none 0 0), .int .i64 0] 38 (0, 0))) ∧ Aside0 (w'.heap[gb1975]? = some (.cells #[.int .i64 x1976000_2, .int .i64 x1976001_2, .int .i64 x1976002_2, u1976003, .int .i64 x1976004_2, .int .i64 x1976005_2, u1976006, .int .i64 x1976007_2] 38 (0, 0))) ∧ Aside0 (Below w.heap.size w w'))
    case atStart => exact ⟨(([] : List Int)), (0), (t1963), (t1964), (t1965), (t1966), (t1969), (t1970), (t1971), (t1974), (.slice Ao14 t1966.length co14), (.slice Ao15 t1971.length co15), (by first | rfl | (simp; done) | (simp [*]; done)), H', ⟨Nat.le_refl _⟩, ⟨by first | exact Kd.R_nil _ _ _ _ _ | exact Kd.N_nil _ _ _ _ _ | exact Kd.V_nil _ _ _ _ _ | exact Kd.Q_nil _ _ _ _ _ | exact Kd.S_nil _ _ _ _ _⟩, ⟨by (with_reducible repeat (first | apply Kd.R_alloc | apply Kd.R_drewN | apply Kd.R_drew)); exact Kd.R_mono HO_1976003.out (fun _ hk => ⟨(by simp [Value.ownBlock]), hk⟩)⟩, ⟨by (with_reducible repeat (first | apply Kd.R_alloc | apply Kd.R_drewN | apply Kd.R_drew)); exact Kd.R_mono HO_1976006.out (fun _ hk => ⟨(by simp [Value.ownBlock]), hk⟩)⟩, ⟨zK BK1961⟩, ⟨zK BK1962⟩, ⟨zK BK1975⟩, ⟨zH3 HB GE1961 GE1962 GE1975⟩⟩
    case round =>
     clear H'
     try clear c1
     try clear c2
     try clear p2
     try clear c3
     try clear c4
     try clear c6
     try clear c7
     try clear c11
     try clear c12
     try clear c17
     try clear c18
     try clear c19
     try clear c22
     try clear c23
     try clear c26
     try clear c27
     try clear c28
     try clear c30
     try clear hcz13_0
     try clear hcz13_1
     try clear hcz13_2
     try clear hcz13_3
     try clear hcz13_4
     try clear hcz13_5
     try clear hcz13_6
     try clear hcz13_7
     try clear hcz20_0
     try clear hcz20_1
     try clear hcz20_2
     try clear hcz20_3
     try clear hcz20_4
     try clear hcz20_5
     try clear hcz20_6
     try clear hcz20_7
     try clear hcz24_0
     try clear hcz24_1
     try clear hcz24_2
     try clear hcz24_3
     try clear hcz24_4
     try clear hcz24_5
     try clear hcz24_6
     try clear hcz24_7
     try clear hcz29_0
     try clear hcz29_1
     try clear hcz29_2
     try clear hcz29_3
     try clear hcz29_4
     try clear hcz29_5
     try clear hcz29_6
     try clear hcz29_7
     try clear hcz31_0
     try clear hcz31_1
     try clear hcz31_2
     try clear hcz31_3
     try clear hcz31_4
     try clear hcz31_5
     try clear hcz31_6
     try clear hcz31_7
     try clear hcz8_0
     try clear hcz8_1
     try clear hcz8_2
     try clear hcz8_3
     try clear hcz8_4
     try clear hcz8_5
     try clear hcz8_6
     try clear hcz8_7
     try clear hfz13_0
     try clear hfz13_1
     try clear hfz13_2
     try clear hfz13_3
     try clear hfz13_4
     try clear hfz13_5
     try clear hfz13_6
     try clear hfz13_7
     try clear hfz20_0
     try clear hfz20_1
     try clear hfz20_2
     try clear hfz20_3
     try clear hfz20_4
     try clear hfz20_5
     try clear hfz20_6
     try clear hfz20_7
     try clear hfz24_0
     try clear hfz24_1
     try clear hfz24_2
     try clear hfz24_3
     try clear hfz24_4
     try clear hfz24_5
     try clear hfz24_6
     try clear hfz24_7
     try clear hfz29_0
     try clear hfz29_1
     try clear hfz29_2
     try clear hfz29_3
     try clear hfz29_4
     try clear hfz29_5
     try clear hfz29_6
     try clear hfz29_7
     try clear hfz31_0
     try clear hfz31_1
     try clear hfz31_2
     try clear hfz31_3
     try clear hfz31_4
     try clear hfz31_5
     try clear hfz31_6
     try clear hfz31_7
     try clear hfz8_0
     try clear hfz8_1
     try clear hfz8_2
     try clear hfz8_3
     try clear hfz8_4
     try clear hfz8_5
     try clear hfz8_6
     try clear hfz8_7
     try clear p2
     obtain ⟨x7_2, x25_2, x1976000_2, x1976001_2, x1976002_2, x1976003_2, x1976004_2, x1976005_2, x1976006_2, x1976007_2, u1976003, u1976006, rfl, HA, HK2, HO_7, HO_1976003, HO_1976006, BK1961, BK1962, BK1975, HB⟩ := hrel
     cases gk with
     | zero => exact absurd HA.out (by simp [impl_RunActs.l0])
     | succ k2 =>
      have H := HA.out
      clear HA
      simp only [impl_RunActs.l0] at H
      by_cases c32 : x25_2 < (l1.length : Int)
      ·rw [if_pos c32] at H
       have c32b0 : decide (x25_2 < (l1.length : Int)) = true := decide_eq_true c32
       clear c32
       by_cases c33 : 0 ≤ x25_2
       ·rw [if_pos c33] at H
        have c33b0 : decide (0 ≤ x25_2) = true := decide_eq_true c33
        clear c33
        by_cases c34 : x25_2 < (l1.length : Int)
        ·rw [if_pos c34] at H
         have c34b0 : decide (x25_2 < (l1.length : Int)) = true := decide_eq_true c34
         clear c34
         replace H := Option.bind_eq_some_iff.mp H
         obtain ⟨⟨t1979, t1980, t1981, t1982, t1985, t1986, t1987, t1990, t1991⟩, A350, H⟩ := H
         replace H : (if x7_2.length < 17592186044416 then (impl_RunActs.l0 k2 (x7_2 ++ [t1991]) l1 (l1.length : Int) (wrap64 (x25_2 + 1)) t1979 t1980 t1981 t1982 t1985 t1986 t1987 t1990) else (none)) = some (r1, r2, r3, r4, r5, r6, r7, r8, r9) := H
         have A35 := aK A350
         clear A350
         by_cases c36 : x7_2.length < 17592186044416
         ·rw [if_pos c36] at H
          have LMc36 := aK c36
          clear c36
          obtain ⟨y1993, hy1993⟩ : ∃ y_ : List Int, y_ = (x7_2 ++ [t1991]) := ⟨_, rfl⟩
          replace H : (impl_RunActs.l0 k2 y1993 l1 (l1.length : Int) (wrap64 (x25_2 + 1)) t1979 t1980 t1981 t1982 t1985 t1986 t1987 t1990) = some (r1, r2, r3, r4, r5, r6, r7, r8, r9) := by first | (rw [hy1993]; with_reducible exact H) | (have H2_ := (Option.bind_some _ _).symm.trans H; rw [hy1993]; with_reducible exact H2_) | (have H2_ := (Option.bind_some _ _).symm.trans H; with_reducible exact H2_) | with_reducible exact H | (rw [hy1993]; exact H) | exact H
          have Ny1993 := aK hy1993
          clear hy1993
          have H' := aK H
          clear H
          have p1977 : 0 ≤ (x25_2 : Int) := of_decide_eq_true (by first | (with_reducible assumption) | assumption)
          have q1977 : x25_2 < (l1.length : Int) := of_decide_eq_true (by first | (with_reducible assumption) | assumption)
          obtain ⟨ad1977, e1977, hx1977_0, hx1977_1, hx1977_2⟩ := at_T53 HR1.out x25_2 p1977 q1977
          cases e1977
          replace hx1977_0 := (HB.out.cell (World.block_lt_of_cell? w _ hx1977_0)).trans hx1977_0
          replace hx1977_1 := (HB.out.cell (World.block_lt_of_cell? w _ hx1977_1)).trans hx1977_1
          replace hx1977_2 := (HB.out.cell (World.block_lt_of_cell? w _ hx1977_2)).trans hx1977_2
          replace p1977 := eq_true p1977
          replace q1977 := eq_true q1977
          try go_wp2_with (first | ((with_reducible refine gate_dst (N := 9) rfl ?_); (try (refine gate_guard (by rfl) ?_; dsimp only)); refine box_event ?hg (N := 9) ?hd (cs := #[.int .i64 0, .int .i64 0, .int .i64 0]) (t := 53) ?hr ?_; (case hd => rfl); (case hg => rfl); (case hr => first | (go_simp; done) | (go_simp; rfl)); intro gb1978 hg w37 hbox hb; replace HO_7 := aK (Kd.R_below (zA HO_7) hb); replace HO_1976003 := aK (Kd.R_below (zA HO_1976003) hb); replace HO_1976006 := aK (Kd.R_below (zA HO_1976006) hb); have BK1978 := aK (hbox); have GW1978 := aK ((by rw [hg]; exact (bSz (zH3 HB GE1961 GE1962 GE1975)) : w.heap.size ≤ gb1978)); replace HB := aK (bSp (zH3 HB GE1961 GE1962 GE1975) hb); have GE1978 := GW1978; have NB1961_1978 := nbl BK1961 hg (by intro z_; (with_reducible repeat (first | refine blk_drewN ?_ _ | refine kD ?_ | refine kA ?_ _)); exact z_); replace BK1961 := zB BK1961 hb; have NB1978_1961 := nbs NB1961_1978; have NB1962_1978 := nbl BK1962 hg (by intro z_; (with_reducible repeat (first | refine blk_drewN ?_ _ | refine kD ?_ | refine kA ?_ _)); exact z_); replace BK1962 := zB BK1962 hb; have NB1978_1962 := nbs NB1962_1978; have NB1975_1978 := nbl BK1975 hg (by intro z_; (with_reducible repeat (first | refine blk_drewN ?_ _ | refine kD ?_ | refine kA ?_ _)); exact z_); replace BK1975 := zB BK1975 hb; have NB1978_1975 := nbs NB1975_1978; clear hb hbox hg; have hnb38 := NB1978_1961.out; have hnc38 := NB1961_1978.out; have hnb39 := NB1978_1962.out; have hnc39 := NB1962_1978.out; have hnb40 := NB1978_1975.out; have hnc40 := NB1975_1978.out; obtain ⟨hcz41_0, hcz41_1, hcz41_2, hfz41_0, hfz41_1, hfz41_2⟩ := cl3 BK1978.out; have hnb42 := NB1975_1961.out; have hnc42 := NB1961_1975.out; have hnb43 := NB1975_1962.out; have hnc43 := NB1962_1975.out; obtain ⟨hcz44_0, hcz44_1, hcz44_2, hcz44_3, hcz44_4, hcz44_5, hcz44_6, hcz44_7, hfz44_0, hfz44_1, hfz44_2, hfz44_3, hfz44_4, hfz44_5, hfz44_6, hfz44_7⟩ := cl8 BK1975.out; obtain ⟨Ao45, co45, eo45⟩ := Kd.R_slice HO_1976003.out; subst eo45; obtain ⟨Ao46, co46, eo46⟩ := Kd.R_slice HO_1976006.out; subst eo46) | ((with_reducible refine gate_callee (f := 32) rfl ?_); refine goesL_ (some 32) rfl rfl Tryz.func32 (by kernel_rfl) rfl #[.agg #[.int .i64 x1976000_2, .int .i64 x1976001_2, .int .i64 x1976002_2, .slice Ao45 x1976003_2.length co45, .int .i64 x1976004_2, .int .i64 x1976005_2, .slice Ao46 x1976006_2.length co46, .int .i64 x1976007_2], .agg #[.int .i64 ((rd_Act l1 x25_2).f0), .int .i64 ((rd_Act l1 x25_2).f1), .int .i64 ((rd_Act l1 x25_2).f2)]] rfl zD ?_; (with_reducible refine (impl_DoAct.calls k2 x1976000_2 x1976001_2 x1976002_2 _ _ x1976003_2 x1976004_2 x1976005_2 _ _ x1976006_2 x1976007_2 ((rd_Act l1 x25_2).f0) ((rd_Act l1 x25_2).f1) ((rd_Act l1 x25_2).f2) t1979 t1980 t1981 t1982 t1985 t1986 t1987 t1990 t1991 _ ?side1 ?side2 ?side3 ?side4 A35.out).mono ?_); (case side1 => refine (Kd.R_reads' (e := 3) (base := w.heap.size) (ok := fun k_ => (some k_ ≠ (u7 : Value).ownBlock ∧ some k_ ≠ (.slice Ao46 x1976006_2.length co46 : Value).ownBlock)) (n := x1976003_2.length) (c := co45) ?_).2.2; exact (zF3 HO_1976003 BK1978)); (case side2 => exact (Kd.R_reads' HO_1976003.out).2.1); (case side3 => refine (Kd.R_reads' (e := 3) (base := w.heap.size) (ok := fun k_ => (some k_ ≠ (u7 : Value).ownBlock ∧ some k_ ≠ (.slice Ao45 x1976003_2.length co45 : Value).ownBlock)) (n := x1976006_2.length) (c := co46) ?_).2.2; exact (zF3 HO_1976006 BK1978)); (case side4 => exact (Kd.R_reads' HO_1976006.out).2.1); rintro e w47 ⟨v1983, v1988, rfl, ho0, ho1, hb⟩; refine ⟨_, rfl, ?_⟩; have HO1984 := aK (Kd.R_lower (Kd.R_new' (Kd.R_new' (Kd.R_new' ho0 (Kd.R_lt (zF3 HO_7 BK1978))) (Kd.R_lt (zF3 HO_1976003 BK1978))) (Kd.R_lt (zF3 HO_1976006 BK1978))) (bSz (zH4 HB GE1961 GE1962 GE1975 GE1978))); have HO1989 := aK (Kd.R_lower (Kd.R_new' (Kd.R_new' (Kd.R_new' ho1 (Kd.R_lt (zF3 HO_7 BK1978))) (Kd.R_lt (zF3 HO_1976003 BK1978))) (Kd.R_lt (zF3 HO_1976006 BK1978))) (bSz (zH4 HB GE1961 GE1962 GE1975 GE1978))); replace HO_7 := aK (Kd.R_mono (Kd.R_told (Kd.R_told (Kd.R_old (zF3 HO_7 BK1978) hb) (Kd.R_base ho0)) (Kd.R_base ho1)) (fun _ h_ => h_.1)); replace HO_1976003 := aK (Kd.R_mono (Kd.R_told (Kd.R_told (Kd.R_old (zF3 HO_1976003 BK1978) hb) (Kd.R_base ho0)) (Kd.R_base ho1)) (fun _ h_ => h_.1)); replace HO_1976006 := aK (Kd.R_mono (Kd.R_told (Kd.R_told (Kd.R_old (zF3 HO_1976006 BK1978) hb) (Kd.R_base ho0)) (Kd.R_base ho1)) (fun _ h_ => h_.1)); replace BK1961 := zG3 BK1961 NB1961_1978 hb; replace BK1962 := zG3 BK1962 NB1962_1978 hb; replace BK1975 := zG3 BK1975 NB1975_1978 hb; replace BK1978 := aK (blk_below (g := gb1978) (o := .cells #[.int .i64 ((rd_Act l1 x25_2).f0), .int .i64 ((rd_Act l1 x25_2).f1), .int .i64 ((rd_Act l1 x25_2).f2)] 53 (0, 0)) (by (with_reducible repeat (first | refine blk_drewN ?_ _ | refine kD ?_ | refine kA ?_ _)); refine blk_put (cs := #[.int .i64 ((rd_Act l1 x25_2).f0), .int .i64 ((rd_Act l1 x25_2).f1), .int .i64 0]) ?_ 2 _ rfl; (with_reducible repeat (first | refine blk_drewN ?_ _ | refine kD ?_ | refine kA ?_ _)); refine blk_put (cs := #[.int .i64 ((rd_Act l1 x25_2).f0), .int .i64 0, .int .i64 0]) ?_ 1 _ rfl; (with_reducible repeat (first | refine blk_drewN ?_ _ | refine kD ?_ | refine kA ?_ _)); refine blk_put (cs := #[.int .i64 0, .int .i64 0, .int .i64 0]) ?_ 0 _ rfl; (with_reducible repeat (first | refine blk_drewN ?_ _ | refine kD ?_ | refine kA ?_ _)); exact BK1978.out) hb); replace HB := aK (bSp (zH4 HB GE1961 GE1962 GE1975 GE1978) hb); (try clear hb); (try clear hb2); (try clear hk); (try clear hi); (try clear ho0); (try clear ho1)) | ((with_reducible refine gate_dst (N := 10) rfl ?_); (try (refine gate_guard (by rfl) ?_; dsimp only)); refine box_event ?hg (N := 10) ?hd (cs := #[.int .i64 0, .int .i64 0, .int .i64 0, .slice none 0 0, .int .i64 0, .int .i64 0, .slice none 0 0, .int .i64 0]) (t := 38) ?hr ?_; (case hd => rfl); (case hg => rfl); (case hr => first | (go_simp; done) | (go_simp; rfl)); intro gb1992 hg w48 hbox hb; replace HO_7 := aK (Kd.R_below (zA HO_7) hb); replace HO_1976003 := aK (Kd.R_below (zA HO_1976003) hb); replace HO_1976006 := aK (Kd.R_below (zA HO_1976006) hb); replace HO1984 := aK (Kd.R_below (zA HO1984) hb); replace HO1989 := aK (Kd.R_below (zA HO1989) hb); have BK1992 := aK (hbox); have GW1992 := aK ((by rw [hg]; exact (bSz (zH4 HB GE1961 GE1962 GE1975 GE1978)) : w.heap.size ≤ gb1992)); replace HB := aK (bSp (zH4 HB GE1961 GE1962 GE1975 GE1978) hb); have GE1992 := GW1992; have NB1961_1992 := nbl BK1961 hg (by intro z_; (with_reducible repeat (first | refine blk_drewN ?_ _ | refine kD ?_ | refine kA ?_ _)); exact z_); replace BK1961 := zB BK1961 hb; have NB1992_1961 := nbs NB1961_1992; have NB1962_1992 := nbl BK1962 hg (by intro z_; (with_reducible repeat (first | refine blk_drewN ?_ _ | refine kD ?_ | refine kA ?_ _)); exact z_); replace BK1962 := zB BK1962 hb; have NB1992_1962 := nbs NB1962_1992; have NB1975_1992 := nbl BK1975 hg (by intro z_; (with_reducible repeat (first | refine blk_drewN ?_ _ | refine kD ?_ | refine kA ?_ _)); exact z_); replace BK1975 := zB BK1975 hb; have NB1992_1975 := nbs NB1975_1992; have NB1978_1992 := nbl BK1978 hg (by intro z_; (with_reducible repeat (first | refine blk_drewN ?_ _ | refine kD ?_ | refine kA ?_ _)); exact z_); replace BK1978 := zB BK1978 hb; have NB1992_1978 := nbs NB1978_1992; clear hb hbox hg; have hnb49 := NB1992_1961.out; have hnc49 := NB1961_1992.out; have hnb50 := NB1992_1962.out; have hnc50 := NB1962_1992.out; have hnb51 := NB1992_1975.out; have hnc51 := NB1975_1992.out; have hnb52 := NB1992_1978.out; have hnc52 := NB1978_1992.out; obtain ⟨hcz53_0, hcz53_1, hcz53_2, hcz53_3, hcz53_4, hcz53_5, hcz53_6, hcz53_7, hfz53_0, hfz53_1, hfz53_2, hfz53_3, hfz53_4, hfz53_5, hfz53_6, hfz53_7⟩ := cl8 BK1992.out; obtain ⟨Ao54, co54, eo54⟩ := Kd.R_slice HO1984.out; subst eo54; obtain ⟨Ao55, co55, eo55⟩ := Kd.R_slice HO1989.out; subst eo55))
          have n0_ : Aside0 (Kd.R (Kd.int .i64) 3 ((((((((w48.setCell ⟨gb1992, 0, none⟩ (.int .i64 t1979)).setCell ⟨gb1992, 1, none⟩ (.int .i64 t1980)).setCell ⟨gb1992, 2, none⟩ (.int .i64 t1981)).setCell ⟨gb1992, 3, none⟩ (.slice Ao54 t1982.length co54)).setCell ⟨gb1992, 4, none⟩ (.int .i64 t1985)).setCell ⟨gb1992, 5, none⟩ (.int .i64 t1986)).setCell ⟨gb1992, 6, none⟩ (.slice Ao55 t1987.length co55)).setCell ⟨gb1992, 7, none⟩ (.int .i64 t1990)) w.heap.size (fun k_ => some k_ ≠ (.slice Ao45 x1976003_2.length co45 : Value).ownBlock ∧ some k_ ≠ (.slice Ao46 x1976006_2.length co46 : Value).ownBlock ∧ some k_ ≠ (.slice Ao54 t1982.length co54 : Value).ownBlock ∧ some k_ ≠ (.slice Ao55 t1987.length co55 : Value).ownBlock) u7 x7_2) := ⟨by (with_reducible repeat (first | apply Kd.R_alloc | apply Kd.R_drewN | apply Kd.R_drew)); exact Kd.R_mono (zT8 HO_7 BK1992 (.int .i64 t1979) (.int .i64 t1980) (.int .i64 t1981) (.slice Ao54 t1982.length co54) (.int .i64 t1985) (.int .i64 t1986) (.slice Ao55 t1987.length co55) (.int .i64 t1990)) (fun _ hk => ⟨hk.1.1.1.1, ⟨hk.1.1.1.2, ⟨hk.1.1.2, hk.1.2⟩⟩⟩)⟩
          have n1_ : Aside0 (Kd.R (Kd.int .i64) 3 ((((((((w48.setCell ⟨gb1992, 0, none⟩ (.int .i64 t1979)).setCell ⟨gb1992, 1, none⟩ (.int .i64 t1980)).setCell ⟨gb1992, 2, none⟩ (.int .i64 t1981)).setCell ⟨gb1992, 3, none⟩ (.slice Ao54 t1982.length co54)).setCell ⟨gb1992, 4, none⟩ (.int .i64 t1985)).setCell ⟨gb1992, 5, none⟩ (.int .i64 t1986)).setCell ⟨gb1992, 6, none⟩ (.slice Ao55 t1987.length co55)).setCell ⟨gb1992, 7, none⟩ (.int .i64 t1990)) w.heap.size (fun k_ => some k_ ≠ (u7 : Value).ownBlock ∧ some k_ ≠ (.slice Ao46 x1976006_2.length co46 : Value).ownBlock ∧ some k_ ≠ (.slice Ao54 t1982.length co54 : Value).ownBlock ∧ some k_ ≠ (.slice Ao55 t1987.length co55 : Value).ownBlock) (.slice Ao45 x1976003_2.length co45) x1976003_2) := ⟨by (with_reducible repeat (first | apply Kd.R_alloc | apply Kd.R_drewN | apply Kd.R_drew)); exact Kd.R_mono (zT8 HO_1976003 BK1992 (.int .i64 t1979) (.int .i64 t1980) (.int .i64 t1981) (.slice Ao54 t1982.length co54) (.int .i64 t1985) (.int .i64 t1986) (.slice Ao55 t1987.length co55) (.int .i64 t1990)) (fun _ hk => ⟨hk.1.1.1.1, ⟨hk.1.1.1.2, ⟨hk.1.1.2, hk.1.2⟩⟩⟩)⟩
          have n2_ : Aside0 (Kd.R (Kd.int .i64) 3 ((((((((w48.setCell ⟨gb1992, 0, none⟩ (.int .i64 t1979)).setCell ⟨gb1992, 1, none⟩ (.int .i64 t1980)).setCell ⟨gb1992, 2, none⟩ (.int .i64 t1981)).setCell ⟨gb1992, 3, none⟩ (.slice Ao54 t1982.length co54)).setCell ⟨gb1992, 4, none⟩ (.int .i64 t1985)).setCell ⟨gb1992, 5, none⟩ (.int .i64 t1986)).setCell ⟨gb1992, 6, none⟩ (.slice Ao55 t1987.length co55)).setCell ⟨gb1992, 7, none⟩ (.int .i64 t1990)) w.heap.size (fun k_ => some k_ ≠ (u7 : Value).ownBlock ∧ some k_ ≠ (.slice Ao45 x1976003_2.length co45 : Value).ownBlock ∧ some k_ ≠ (.slice Ao54 t1982.length co54 : Value).ownBlock ∧ some k_ ≠ (.slice Ao55 t1987.length co55 : Value).ownBlock) (.slice Ao46 x1976006_2.length co46) x1976006_2) := ⟨by (with_reducible repeat (first | apply Kd.R_alloc | apply Kd.R_drewN | apply Kd.R_drew)); exact Kd.R_mono (zT8 HO_1976006 BK1992 (.int .i64 t1979) (.int .i64 t1980) (.int .i64 t1981) (.slice Ao54 t1982.length co54) (.int .i64 t1985) (.int .i64 t1986) (.slice Ao55 t1987.length co55) (.int .i64 t1990)) (fun _ hk => ⟨hk.1.1.1.1, ⟨hk.1.1.1.2, ⟨hk.1.1.2, hk.1.2⟩⟩⟩)⟩
          have n3_ : Aside0 (Kd.R (Kd.int .i64) 3 ((((((((w48.setCell ⟨gb1992, 0, none⟩ (.int .i64 t1979)).setCell ⟨gb1992, 1, none⟩ (.int .i64 t1980)).setCell ⟨gb1992, 2, none⟩ (.int .i64 t1981)).setCell ⟨gb1992, 3, none⟩ (.slice Ao54 t1982.length co54)).setCell ⟨gb1992, 4, none⟩ (.int .i64 t1985)).setCell ⟨gb1992, 5, none⟩ (.int .i64 t1986)).setCell ⟨gb1992, 6, none⟩ (.slice Ao55 t1987.length co55)).setCell ⟨gb1992, 7, none⟩ (.int .i64 t1990)) w.heap.size (fun k_ => some k_ ≠ (u7 : Value).ownBlock ∧ some k_ ≠ (.slice Ao45 x1976003_2.length co45 : Value).ownBlock ∧ some k_ ≠ (.slice Ao46 x1976006_2.length co46 : Value).ownBlock ∧ some k_ ≠ (.slice Ao55 t1987.length co55 : Value).ownBlock) (.slice Ao54 t1982.length co54) t1982) := ⟨by (with_reducible repeat (first | apply Kd.R_alloc | apply Kd.R_drewN | apply Kd.R_drew)); exact Kd.R_mono (zT8 HO1984 BK1992 (.int .i64 t1979) (.int .i64 t1980) (.int .i64 t1981) (.slice Ao54 t1982.length co54) (.int .i64 t1985) (.int .i64 t1986) (.slice Ao55 t1987.length co55) (.int .i64 t1990)) (fun _ hk => ⟨hk.1.1.1.2, ⟨hk.1.1.2, ⟨hk.1.2, hk.1.1.1.1⟩⟩⟩)⟩
          have n4_ : Aside0 (Kd.R (Kd.int .i64) 3 ((((((((w48.setCell ⟨gb1992, 0, none⟩ (.int .i64 t1979)).setCell ⟨gb1992, 1, none⟩ (.int .i64 t1980)).setCell ⟨gb1992, 2, none⟩ (.int .i64 t1981)).setCell ⟨gb1992, 3, none⟩ (.slice Ao54 t1982.length co54)).setCell ⟨gb1992, 4, none⟩ (.int .i64 t1985)).setCell ⟨gb1992, 5, none⟩ (.int .i64 t1986)).setCell ⟨gb1992, 6, none⟩ (.slice Ao55 t1987.length co55)).setCell ⟨gb1992, 7, none⟩ (.int .i64 t1990)) w.heap.size (fun k_ => some k_ ≠ (u7 : Value).ownBlock ∧ some k_ ≠ (.slice Ao45 x1976003_2.length co45 : Value).ownBlock ∧ some k_ ≠ (.slice Ao46 x1976006_2.length co46 : Value).ownBlock ∧ some k_ ≠ (.slice Ao54 t1982.length co54 : Value).ownBlock) (.slice Ao55 t1987.length co55) t1987) := ⟨by (with_reducible repeat (first | apply Kd.R_alloc | apply Kd.R_drewN | apply Kd.R_drew)); exact Kd.R_mono (zT8 HO1989 BK1992 (.int .i64 t1979) (.int .i64 t1980) (.int .i64 t1981) (.slice Ao54 t1982.length co54) (.int .i64 t1985) (.int .i64 t1986) (.slice Ao55 t1987.length co55) (.int .i64 t1990)) (fun _ hk => ⟨hk.1.1.1.2, ⟨hk.1.1.2, ⟨hk.1.2, hk.1.1.1.1⟩⟩⟩)⟩
          have n5_ : Aside0 (((((((((w48.setCell ⟨gb1992, 0, none⟩ (.int .i64 t1979)).setCell ⟨gb1992, 1, none⟩ (.int .i64 t1980)).setCell ⟨gb1992, 2, none⟩ (.int .i64 t1981)).setCell ⟨gb1992, 3, none⟩ (.slice Ao54 t1982.length co54)).setCell ⟨gb1992, 4, none⟩ (.int .i64 t1985)).setCell ⟨gb1992, 5, none⟩ (.int .i64 t1986)).setCell ⟨gb1992, 6, none⟩ (.slice Ao55 t1987.length co55)).setCell ⟨gb1992, 7, none⟩ (.int .i64 t1990)).heap[gb1961]? = some (.cells #[.int .i64 a0_0, .int .i64 a0_1, .int .i64 a0_2, .slice A0_3 l0_3.length c0_3, .int .i64 a0_4, .int .i64 a0_5, .slice A0_6 l0_6.length c0_6, .int .i64 a0_7] 38 (0, 0))) := ⟨by (with_reducible repeat (first | refine blk_drewN ?_ _ | refine kD ?_ | refine kA ?_ _)); refine blk_far ?_ NB1961_1992.out _; (with_reducible repeat (first | refine blk_drewN ?_ _ | refine kD ?_ | refine kA ?_ _)); refine blk_far ?_ NB1961_1992.out _; (with_reducible repeat (first | refine blk_drewN ?_ _ | refine kD ?_ | refine kA ?_ _)); refine blk_far ?_ NB1961_1992.out _; (with_reducible repeat (first | refine blk_drewN ?_ _ | refine kD ?_ | refine kA ?_ _)); refine blk_far ?_ NB1961_1992.out _; (with_reducible repeat (first | refine blk_drewN ?_ _ | refine kD ?_ | refine kA ?_ _)); refine blk_far ?_ NB1961_1992.out _; (with_reducible repeat (first | refine blk_drewN ?_ _ | refine kD ?_ | refine kA ?_ _)); refine blk_far ?_ NB1961_1992.out _; (with_reducible repeat (first | refine blk_drewN ?_ _ | refine kD ?_ | refine kA ?_ _)); refine blk_far ?_ NB1961_1992.out _; (with_reducible repeat (first | refine blk_drewN ?_ _ | refine kD ?_ | refine kA ?_ _)); refine blk_far ?_ NB1961_1992.out _; (with_reducible repeat (first | refine blk_drewN ?_ _ | refine kD ?_ | refine kA ?_ _)); exact BK1961.out⟩
          have n6_ : Aside0 (((((((((w48.setCell ⟨gb1992, 0, none⟩ (.int .i64 t1979)).setCell ⟨gb1992, 1, none⟩ (.int .i64 t1980)).setCell ⟨gb1992, 2, none⟩ (.int .i64 t1981)).setCell ⟨gb1992, 3, none⟩ (.slice Ao54 t1982.length co54)).setCell ⟨gb1992, 4, none⟩ (.int .i64 t1985)).setCell ⟨gb1992, 5, none⟩ (.int .i64 t1986)).setCell ⟨gb1992, 6, none⟩ (.slice Ao55 t1987.length co55)).setCell ⟨gb1992, 7, none⟩ (.int .i64 t1990)).heap[gb1962]? = some (.cells #[.int .i64 0, .int .i64 0, .int .i64 0, .slice none 0 0, .int .i64 0, .int .i64 0, .slice none 0 0, .int .i64 0] 38 (0, 0))) := ⟨by (with_reducible repeat (first | refine blk_drewN ?_ _ | refine kD ?_ | refine kA ?_ _)); refine blk_far ?_ NB1962_1992.out _; (with_reducible repeat (first | refine blk_drewN ?_ _ | refine kD ?_ | refine kA ?_ _)); refine blk_far ?_ NB1962_1992.out _; (with_reducible repeat (first | refine blk_drewN ?_ _ | refine kD ?_ | refine kA ?_ _)); refine blk_far ?_ NB1962_1992.out _; (with_reducible repeat (first | refine blk_drewN ?_ _ | refine kD ?_ | refine kA ?_ _)); refine blk_far ?_ NB1962_1992.out _; (with_reducible repeat (first | refine blk_drewN ?_ _ | refine kD ?_ | refine kA ?_ _)); refine blk_far ?_ NB1962_1992.out _; (with_reducible repeat (first | refine blk_drewN ?_ _ | refine kD ?_ | refine kA ?_ _)); refine blk_far ?_ NB1962_1992.out _; (with_reducible repeat (first | refine blk_drewN ?_ _ | refine kD ?_ | refine kA ?_ _)); refine blk_far ?_ NB1962_1992.out _; (with_reducible repeat (first | refine blk_drewN ?_ _ | refine kD ?_ | refine kA ?_ _)); refine blk_far ?_ NB1962_1992.out _; (with_reducible repeat (first | refine blk_drewN ?_ _ | refine kD ?_ | refine kA ?_ _)); exact BK1962.out⟩
          have n7_ : Aside0 (((((((((w48.setCell ⟨gb1992, 0, none⟩ (.int .i64 t1979)).setCell ⟨gb1992, 1, none⟩ (.int .i64 t1980)).setCell ⟨gb1992, 2, none⟩ (.int .i64 t1981)).setCell ⟨gb1992, 3, none⟩ (.slice Ao54 t1982.length co54)).setCell ⟨gb1992, 4, none⟩ (.int .i64 t1985)).setCell ⟨gb1992, 5, none⟩ (.int .i64 t1986)).setCell ⟨gb1992, 6, none⟩ (.slice Ao55 t1987.length co55)).setCell ⟨gb1992, 7, none⟩ (.int .i64 t1990)).heap[gb1975]? = some (.cells #[.int .i64 x1976000_2, .int .i64 x1976001_2, .int .i64 x1976002_2, .slice Ao45 x1976003_2.length co45, .int .i64 x1976004_2, .int .i64 x1976005_2, .slice Ao46 x1976006_2.length co46, .int .i64 x1976007_2] 38 (0, 0))) := ⟨by (with_reducible repeat (first | refine blk_drewN ?_ _ | refine kD ?_ | refine kA ?_ _)); refine blk_far ?_ NB1975_1992.out _; (with_reducible repeat (first | refine blk_drewN ?_ _ | refine kD ?_ | refine kA ?_ _)); refine blk_far ?_ NB1975_1992.out _; (with_reducible repeat (first | refine blk_drewN ?_ _ | refine kD ?_ | refine kA ?_ _)); refine blk_far ?_ NB1975_1992.out _; (with_reducible repeat (first | refine blk_drewN ?_ _ | refine kD ?_ | refine kA ?_ _)); refine blk_far ?_ NB1975_1992.out _; (with_reducible repeat (first | refine blk_drewN ?_ _ | refine kD ?_ | refine kA ?_ _)); refine blk_far ?_ NB1975_1992.out _; (with_reducible repeat (first | refine blk_drewN ?_ _ | refine kD ?_ | refine kA ?_ _)); refine blk_far ?_ NB1975_1992.out _; (with_reducible repeat (first | refine blk_drewN ?_ _ | refine kD ?_ | refine kA ?_ _)); refine blk_far ?_ NB1975_1992.out _; (with_reducible repeat (first | refine blk_drewN ?_ _ | refine kD ?_ | refine kA ?_ _)); refine blk_far ?_ NB1975_1992.out _; (with_reducible repeat (first | refine blk_drewN ?_ _ | refine kD ?_ | refine kA ?_ _)); exact BK1975.out⟩
          have n8_ : Aside0 (((((((((w48.setCell ⟨gb1992, 0, none⟩ (.int .i64 t1979)).setCell ⟨gb1992, 1, none⟩ (.int .i64 t1980)).setCell ⟨gb1992, 2, none⟩ (.int .i64 t1981)).setCell ⟨gb1992, 3, none⟩ (.slice Ao54 t1982.length co54)).setCell ⟨gb1992, 4, none⟩ (.int .i64 t1985)).setCell ⟨gb1992, 5, none⟩ (.int .i64 t1986)).setCell ⟨gb1992, 6, none⟩ (.slice Ao55 t1987.length co55)).setCell ⟨gb1992, 7, none⟩ (.int .i64 t1990)).heap[gb1978]? = some (.cells #[.int .i64 ((rd_Act l1 x25_2).f0), .int .i64 ((rd_Act l1 x25_2).f1), .int .i64 ((rd_Act l1 x25_2).f2)] 53 (0, 0))) := ⟨by (with_reducible repeat (first | refine blk_drewN ?_ _ | refine kD ?_ | refine kA ?_ _)); refine blk_far ?_ NB1978_1992.out _; (with_reducible repeat (first | refine blk_drewN ?_ _ | refine kD ?_ | refine kA ?_ _)); refine blk_far ?_ NB1978_1992.out _; (with_reducible repeat (first | refine blk_drewN ?_ _ | refine kD ?_ | refine kA ?_ _)); refine blk_far ?_ NB1978_1992.out _; (with_reducible repeat (first | refine blk_drewN ?_ _ | refine kD ?_ | refine kA ?_ _)); refine blk_far ?_ NB1978_1992.out _; (with_reducible repeat (first | refine blk_drewN ?_ _ | refine kD ?_ | refine kA ?_ _)); refine blk_far ?_ NB1978_1992.out _; (with_reducible repeat (first | refine blk_drewN ?_ _ | refine kD ?_ | refine kA ?_ _)); refine blk_far ?_ NB1978_1992.out _; (with_reducible repeat (first | refine blk_drewN ?_ _ | refine kD ?_ | refine kA ?_ _)); refine blk_far ?_ NB1978_1992.out _; (with_reducible repeat (first | refine blk_drewN ?_ _ | refine kD ?_ | refine kA ?_ _)); refine blk_far ?_ NB1978_1992.out _; (with_reducible repeat (first | refine blk_drewN ?_ _ | refine kD ?_ | refine kA ?_ _)); exact BK1978.out⟩
          have n9_ := zP8 BK1992 (.int .i64 t1979) (.int .i64 t1980) (.int .i64 t1981) (.slice Ao54 t1982.length co54) (.int .i64 t1985) (.int .i64 t1986) (.slice Ao55 t1987.length co55) (.int .i64 t1990)
          have n10_ : Aside0 (Below w.heap.size w ((((((((w48.setCell ⟨gb1992, 0, none⟩ (.int .i64 t1979)).setCell ⟨gb1992, 1, none⟩ (.int .i64 t1980)).setCell ⟨gb1992, 2, none⟩ (.int .i64 t1981)).setCell ⟨gb1992, 3, none⟩ (.slice Ao54 t1982.length co54)).setCell ⟨gb1992, 4, none⟩ (.int .i64 t1985)).setCell ⟨gb1992, 5, none⟩ (.int .i64 t1986)).setCell ⟨gb1992, 6, none⟩ (.slice Ao55 t1987.length co55)).setCell ⟨gb1992, 7, none⟩ (.int .i64 t1990))) := ⟨zH5 HB GE1961 GE1962 GE1975 GE1978 GE1992⟩
          (try clear HO_7)
          (try clear HO_1976003)
          (try clear HO_1976006)
          (try clear HO1984)
          (try clear HO1989)
          (try clear BK1961)
          (try clear BK1962)
          (try clear BK1975)
          (try clear BK1978)
          (try clear BK1992)
          (try clear HB)
          generalize ((((((((w48.setCell ⟨gb1992, 0, none⟩ (.int .i64 t1979)).setCell ⟨gb1992, 1, none⟩ (.int .i64 t1980)).setCell ⟨gb1992, 2, none⟩ (.int .i64 t1981)).setCell ⟨gb1992, 3, none⟩ (.slice Ao54 t1982.length co54)).setCell ⟨gb1992, 4, none⟩ (.int .i64 t1985)).setCell ⟨gb1992, 5, none⟩ (.int .i64 t1986)).setCell ⟨gb1992, 6, none⟩ (.slice Ao55 t1987.length co55)).setCell ⟨gb1992, 7, none⟩ (.int .i64 t1990)) = w56 at n0_ n1_ n2_ n3_ n4_ n5_ n6_ n7_ n8_ n9_ n10_ ⊢
          have HO_7 := n0_
          have HO_1976003 := n1_
          have HO_1976006 := n2_
          have HO1984 := n3_
          have HO1989 := n4_
          have BK1961 := n5_
          have BK1962 := n6_
          have BK1975 := n7_
          have BK1978 := n8_
          have BK1992 := n9_
          have HB := n10_
          clear n0_ n1_ n2_ n3_ n4_ n5_ n6_ n7_ n8_ n9_ n10_
          have n0_ := aK (Kd.R_drew HO_7.out)
          have n1_ := aK (Kd.R_drew HO_1976003.out)
          have n2_ := aK (Kd.R_drew HO_1976006.out)
          have n3_ := aK (Kd.R_drew HO1984.out)
          have n4_ := aK (Kd.R_drew HO1989.out)
          have n5_ := aK (kD BK1961.out)
          have n6_ := aK (kD BK1962.out)
          have n7_ := aK (kD BK1975.out)
          have n8_ := aK (kD BK1978.out)
          have n9_ := aK (kD BK1992.out)
          have n10_ := aK (bD1 HB.out)
          clear HO_7
          clear HO_1976003
          clear HO_1976006
          clear HO1984
          clear HO1989
          clear BK1961
          clear BK1962
          clear BK1975
          clear BK1978
          clear BK1992
          clear HB
          have HO_7 := n0_
          have HO_1976003 := n1_
          have HO_1976006 := n2_
          have HO1984 := n3_
          have HO1989 := n4_
          have BK1961 := n5_
          have BK1962 := n6_
          have BK1975 := n7_
          have BK1978 := n8_
          have BK1992 := n9_
          have HB := n10_
          clear n0_ n1_ n2_ n3_ n4_ n5_ n6_ n7_ n8_ n9_ n10_
          refine start_ (n := 7) (S := fun w' => w'.cell? ⟨gb1992, 0, none⟩ = some (.int .i64 t1979) ∧ w'.cell? ⟨gb1992, 1, none⟩ = some (.int .i64 t1980) ∧ w'.cell? ⟨gb1992, 2, none⟩ = some (.int .i64 t1981) ∧ w'.cell? ⟨gb1992, 3, none⟩ = some (.slice Ao54 t1982.length co54) ∧ w'.cell? ⟨gb1992, 4, none⟩ = some (.int .i64 t1985) ∧ w'.cell? ⟨gb1992, 5, none⟩ = some (.int .i64 t1986) ∧ w'.cell? ⟨gb1992, 6, none⟩ = some (.slice Ao55 t1987.length co55) ∧ w'.cell? ⟨gb1992, 7, none⟩ = some (.int .i64 t1990)) (ds := []) #[bN,bN,bN,bN,bN,bN,bN] (by kernel_rfl) rfl rfl ⟨zQ BK1992 0, zQ BK1992 1, zQ BK1992 2, zQ BK1992 3, zQ BK1992 4, zQ BK1992 5, zQ BK1992 6, zQ BK1992 7⟩ (fun hHeld => ?_)
          generalize w56.drew = w57 at HO_7 HO_1976003 HO_1976006 HO1984 HO1989 BK1961 BK1962 BK1975 BK1978 BK1992 HB hHeld ⊢
          refine pure_ (i := 1) (N := some 36) (v := ?_) (a' := ?_) #[bN,bY,bN,bN,bN,bN,bN] rfl rfl (by kernel_rfl) (fun _ _ _ h => h) (Or.inl ⟨by rfl, ?_⟩) ?_ ?_
          rotate_left
          ·intro w'
           go_simp
           with_reducible rfl
          rotate_left
          ·simp only [Act.put, sTA, sZ, sS, i64_w, i32_w]
           rfl
          refine pure_ (i := 2) (N := some 37) (v := ?_) (a' := ?_) #[bN,bY,bY,bN,bN,bN,bN] rfl rfl (by kernel_rfl) (fun _ _ _ h => h) (Or.inl ⟨by rfl, ?_⟩) ?_ ?_
          rotate_left
          ·intro w'
           go_simp
           with_reducible rfl
          rotate_left
          ·simp only [Act.put, sTA, sZ, sS, i64_w, i32_w]
           rfl
          refine take_ (i := 0) (N := some 35) (v := ?_) (a' := ?_) #[bY,bY,bY,bN,bN,bN,bN] rfl rfl (by kernel_rfl) (fun _ _ _ h => h) (Or.inl ⟨by rfl, ?_⟩) hHeld ?_ ?_
          rotate_left
          ·rintro w' ⟨s0, s1, s2, s3, s4, s5, s6, s7⟩
           go_simp
           with_reducible rfl
          rotate_left
          ·simp only [Act.put, sTA, sZ, sS, i64_w, i32_w]
           rfl
          refine one_ (i := 3) (N := some 38) #[bY,bY,bY,bY,bN,bN,bN] rfl rfl (by kernel_rfl) (by decide) (fun K hK => ?_)
          refine value_ (w1 := ?_) (v := ?_) (by rfl) rfl ?_ ?_
          rotate_left 2
          ·go_simp
           constructor
           ·rfl
           ·rfl
          refine hK.out _ _ ⟨(kC (kA BK1992.out _) 0).trans rfl, (kC (kA BK1992.out _) 1).trans rfl, (kC (kA BK1992.out _) 2).trans rfl, (kC (kA BK1992.out _) 3).trans rfl, (kC (kA BK1992.out _) 4).trans rfl, (kC (kA BK1992.out _) 5).trans rfl, (kC (kA BK1992.out _) 6).trans rfl, (kC (kA BK1992.out _) 7).trans rfl⟩ (fun hHeld => ?_)
          clear hK K
          refine norm_ (a' := ?_) ?_ ?_
          rotate_left
          ·show Act.put _ (some 38) _ = _
           simp only [Act.put, sTA, sZ, sS, i64_w, i32_w]
           rfl
          refine one_ (i := 4) (N := some 39) #[bY,bY,bY,bY,bY,bN,bN] rfl rfl (by kernel_rfl) (by decide) (fun K hK => ?_)
          refine Kd.R_append_step (Kd.int .i64) (w0 := w) w.heap.size (by rfl) (.tmp 36) (.tmp 38) 26 3 (.int .i64 0) 8 rfl Tryz.underlying26 info3 rfl (by decide) (by omega) u7 x7_2 t1991 [.int .i64 t1991] (fun k_ => some k_ ≠ (.slice Ao45 x1976003_2.length co45 : Value).ownBlock ∧ some k_ ≠ (.slice Ao46 x1976006_2.length co46 : Value).ownBlock ∧ some k_ ≠ (.slice Ao54 t1982.length co54 : Value).ownBlock ∧ some k_ ≠ (.slice Ao55 t1987.length co55 : Value).ownBlock) (fun _ => False) rfl rfl ?aP (fun _ hk => hk.elim) ?aF ?aO ?aB ?aS ?aL ?_
          (case aP => exact rfl)
          (case aB => exact (zH5 HB GE1961 GE1962 GE1975 GE1978 GE1992))
          (case aF => exact (fun k_ hk => ⟨Kd.fresh' (Kd.R_lt (zA HO_1976003)) k_ hk, Kd.fresh' (Kd.R_lt (zA HO_1976006)) k_ hk, Kd.fresh' (Kd.R_lt (zA HO1984)) k_ hk, Kd.fresh' (Kd.R_lt (zA HO1989)) k_ hk⟩))
          (case aO => exact (zA HO_7))
          (case aS => exact (bSz (zH5 HB GE1961 GE1962 GE1975 GE1978 GE1992)))
          (case aL => have := LMc36.out; omega)
          intro v1994 w58 ho hb hg hat
          rw [← Ny1993.out] at ho
          have n0_ := aK (Kd.R_after (ok := (fun k_ => some k_ ≠ (.slice Ao46 x1976006_2.length co46 : Value).ownBlock ∧ some k_ ≠ (.slice Ao54 t1982.length co54 : Value).ownBlock ∧ some k_ ≠ (.slice Ao55 t1987.length co55 : Value).ownBlock)) (by (with_reducible repeat (first | apply Kd.R_alloc | apply Kd.R_drewN | apply Kd.R_drew)); exact Kd.R_mono HO_1976003.out (fun _ hk => ⟨⟨hk.2.1, ⟨hk.2.2.1, hk.2.2.2⟩⟩, hk.1⟩)) hg hat)
          have n1_ := aK (Kd.R_after (ok := (fun k_ => some k_ ≠ (.slice Ao45 x1976003_2.length co45 : Value).ownBlock ∧ some k_ ≠ (.slice Ao54 t1982.length co54 : Value).ownBlock ∧ some k_ ≠ (.slice Ao55 t1987.length co55 : Value).ownBlock)) (by (with_reducible repeat (first | apply Kd.R_alloc | apply Kd.R_drewN | apply Kd.R_drew)); exact Kd.R_mono HO_1976006.out (fun _ hk => ⟨⟨hk.2.1, ⟨hk.2.2.1, hk.2.2.2⟩⟩, hk.1⟩)) hg hat)
          have n2_ := aK (blk_grown (g := gb1961) (o := .cells #[.int .i64 a0_0, .int .i64 a0_1, .int .i64 a0_2, .slice A0_3 l0_3.length c0_3, .int .i64 a0_4, .int .i64 a0_5, .slice A0_6 l0_6.length c0_6, .int .i64 a0_7] 38 (0, 0)) (zK BK1961) hg (Kd.R_ne HO_7.out BK1961.out (by decide)))
          have n3_ := aK (blk_grown (g := gb1962) (o := .cells #[.int .i64 0, .int .i64 0, .int .i64 0, .slice none 0 0, .int .i64 0, .int .i64 0, .slice none 0 0, .int .i64 0] 38 (0, 0)) (zK BK1962) hg (Kd.R_ne HO_7.out BK1962.out (by decide)))
          have n4_ := aK (blk_grown (g := gb1975) (o := .cells #[.int .i64 x1976000_2, .int .i64 x1976001_2, .int .i64 x1976002_2, .slice Ao45 x1976003_2.length co45, .int .i64 x1976004_2, .int .i64 x1976005_2, .slice Ao46 x1976006_2.length co46, .int .i64 x1976007_2] 38 (0, 0)) (zK BK1975) hg (Kd.R_ne HO_7.out BK1975.out (by decide)))
          have n5_ := aK (blk_grown (g := gb1978) (o := .cells #[.int .i64 ((rd_Act l1 x25_2).f0), .int .i64 ((rd_Act l1 x25_2).f1), .int .i64 ((rd_Act l1 x25_2).f2)] 53 (0, 0)) (zK BK1978) hg (Kd.R_ne HO_7.out BK1978.out (by decide)))
          have n6_ := aK (Kd.R_after (ok := (fun k_ => some k_ ≠ (.slice Ao45 x1976003_2.length co45 : Value).ownBlock ∧ some k_ ≠ (.slice Ao46 x1976006_2.length co46 : Value).ownBlock ∧ some k_ ≠ (.slice Ao55 t1987.length co55 : Value).ownBlock)) (by (with_reducible repeat (first | apply Kd.R_alloc | apply Kd.R_drewN | apply Kd.R_drew)); exact Kd.R_mono HO1984.out (fun _ hk => ⟨⟨hk.2.1, ⟨hk.2.2.1, hk.2.2.2⟩⟩, hk.1⟩)) hg hat)
          have n7_ := aK (Kd.R_after (ok := (fun k_ => some k_ ≠ (.slice Ao45 x1976003_2.length co45 : Value).ownBlock ∧ some k_ ≠ (.slice Ao46 x1976006_2.length co46 : Value).ownBlock ∧ some k_ ≠ (.slice Ao54 t1982.length co54 : Value).ownBlock)) (by (with_reducible repeat (first | apply Kd.R_alloc | apply Kd.R_drewN | apply Kd.R_drew)); exact Kd.R_mono HO1989.out (fun _ hk => ⟨⟨hk.2.1, ⟨hk.2.2.1, hk.2.2.2⟩⟩, hk.1⟩)) hg hat)
          have n8_ := aK (blk_grown (g := gb1992) (o := .cells #[.int .i64 t1979, .int .i64 t1980, .int .i64 t1981, .slice Ao54 t1982.length co54, .int .i64 t1985, .int .i64 t1986, .slice Ao55 t1987.length co55, .int .i64 t1990] 38 (0, 0)) (zK BK1992) hg (Kd.R_ne HO_7.out BK1992.out (by decide)))
          have n9_ := aK (hb)
          have n10_ := aK (ho)
          clear HO_1976003
          clear HO_1976006
          clear BK1961
          clear BK1962
          clear BK1975
          clear BK1978
          clear HO1984
          clear HO1989
          clear BK1992
          clear HB
          clear HO_7
          have HO_1976003 := n0_
          have HO_1976006 := n1_
          have BK1961 := n2_
          have BK1962 := n3_
          have BK1975 := n4_
          have BK1978 := n5_
          have HO1984 := n6_
          have HO1989 := n7_
          have BK1992 := n8_
          have HB := n9_
          have HO1995 := n10_
          clear n0_ n1_ n2_ n3_ n4_ n5_ n6_ n7_ n8_ n9_ n10_
          clear ho hb hg hat
          refine hK.out _ _ ⟨zQ BK1992 0, zQ BK1992 1, zQ BK1992 2, zQ BK1992 3, zQ BK1992 4, zQ BK1992 5, zQ BK1992 6, zQ BK1992 7⟩ (fun hHeld => ?_)
          clear hK K
          refine norm_ (a' := ?_) ?_ ?_
          rotate_left
          ·show Act.put _ (some 39) _ = _
           simp only [Act.put, sTA, sZ, sS, i64_w, i32_w]
           rfl
          refine one_ (i := 5) (N := none) #[bY,bY,bY,bY,bY,bY,bN] rfl rfl (by kernel_rfl) (by decide) (fun K hK => ?_)
          have hs59 : w58.cell? ⟨gb1975, 0, none⟩ = some (.int .i64 x1976000_2) := (kC BK1975.out 0).trans rfl
          have hfs59 := kF BK1975.out 0
          have hns59_0 := NB1961_1975.out
          have hns59_1 := NB1962_1975.out
          have hns59_3 := NB1978_1975.out
          have hns59_4 := NB1992_1975.out
          have hms59_0 := NB1975_1961.out
          have hms59_1 := NB1975_1962.out
          have hms59_3 := NB1975_1978.out
          have hms59_4 := NB1975_1992.out
          have hs60 : w58.cell? ⟨gb1975, 1, none⟩ = some (.int .i64 x1976001_2) := (kC BK1975.out 1).trans rfl
          have hfs60 := kF BK1975.out 1
          have hns60_0 := NB1961_1975.out
          have hns60_1 := NB1962_1975.out
          have hns60_3 := NB1978_1975.out
          have hns60_4 := NB1992_1975.out
          have hms60_0 := NB1975_1961.out
          have hms60_1 := NB1975_1962.out
          have hms60_3 := NB1975_1978.out
          have hms60_4 := NB1975_1992.out
          have hs61 : w58.cell? ⟨gb1975, 2, none⟩ = some (.int .i64 x1976002_2) := (kC BK1975.out 2).trans rfl
          have hfs61 := kF BK1975.out 2
          have hns61_0 := NB1961_1975.out
          have hns61_1 := NB1962_1975.out
          have hns61_3 := NB1978_1975.out
          have hns61_4 := NB1992_1975.out
          have hms61_0 := NB1975_1961.out
          have hms61_1 := NB1975_1962.out
          have hms61_3 := NB1975_1978.out
          have hms61_4 := NB1975_1992.out
          have hs62 : w58.cell? ⟨gb1975, 3, none⟩ = some (.slice Ao45 x1976003_2.length co45) := (kC BK1975.out 3).trans rfl
          have hfs62 := kF BK1975.out 3
          have hns62_0 := NB1961_1975.out
          have hns62_1 := NB1962_1975.out
          have hns62_3 := NB1978_1975.out
          have hns62_4 := NB1992_1975.out
          have hms62_0 := NB1975_1961.out
          have hms62_1 := NB1975_1962.out
          have hms62_3 := NB1975_1978.out
          have hms62_4 := NB1975_1992.out
          have hs63 : w58.cell? ⟨gb1975, 4, none⟩ = some (.int .i64 x1976004_2) := (kC BK1975.out 4).trans rfl
          have hfs63 := kF BK1975.out 4
          have hns63_0 := NB1961_1975.out
          have hns63_1 := NB1962_1975.out
          have hns63_3 := NB1978_1975.out
          have hns63_4 := NB1992_1975.out
          have hms63_0 := NB1975_1961.out
          have hms63_1 := NB1975_1962.out
          have hms63_3 := NB1975_1978.out
          have hms63_4 := NB1975_1992.out
          have hs64 : w58.cell? ⟨gb1975, 5, none⟩ = some (.int .i64 x1976005_2) := (kC BK1975.out 5).trans rfl
          have hfs64 := kF BK1975.out 5
          have hns64_0 := NB1961_1975.out
          have hns64_1 := NB1962_1975.out
          have hns64_3 := NB1978_1975.out
          have hns64_4 := NB1992_1975.out
          have hms64_0 := NB1975_1961.out
          have hms64_1 := NB1975_1962.out
          have hms64_3 := NB1975_1978.out
          have hms64_4 := NB1975_1992.out
          have hs65 : w58.cell? ⟨gb1975, 6, none⟩ = some (.slice Ao46 x1976006_2.length co46) := (kC BK1975.out 6).trans rfl
          have hfs65 := kF BK1975.out 6
          have hns65_0 := NB1961_1975.out
          have hns65_1 := NB1962_1975.out
          have hns65_3 := NB1978_1975.out
          have hns65_4 := NB1992_1975.out
          have hms65_0 := NB1975_1961.out
          have hms65_1 := NB1975_1962.out
          have hms65_3 := NB1975_1978.out
          have hms65_4 := NB1975_1992.out
          have hs66 : w58.cell? ⟨gb1975, 7, none⟩ = some (.int .i64 x1976007_2) := (kC BK1975.out 7).trans rfl
          have hfs66 := kF BK1975.out 7
          have hns66_0 := NB1961_1975.out
          have hns66_1 := NB1962_1975.out
          have hns66_3 := NB1978_1975.out
          have hns66_4 := NB1992_1975.out
          have hms66_0 := NB1975_1961.out
          have hms66_1 := NB1975_1962.out
          have hms66_3 := NB1975_1978.out
          have hms66_4 := NB1975_1992.out
          refine skip_ (w1 := ?_) (by rfl) rfl ?_ ?_
          rotate_left
          ·go_simp
           rfl
          refine hK.out _ _ ⟨((cell_far (p := ⟨gb1975, _, none⟩) NB1992_1975.out _).trans (((cell_far (p := ⟨gb1975, _, none⟩) NB1992_1975.out _).trans (((cell_far (p := ⟨gb1975, _, none⟩) NB1992_1975.out _).trans (((cell_far (p := ⟨gb1975, _, none⟩) NB1992_1975.out _).trans (((cell_far (p := ⟨gb1975, _, none⟩) NB1992_1975.out _).trans (((cell_far (p := ⟨gb1975, _, none⟩) NB1992_1975.out _).trans (((cell_far (p := ⟨gb1975, _, none⟩) NB1992_1975.out _).trans (((cell_far (p := ⟨gb1975, _, none⟩) NB1992_1975.out _).trans (hHeld.1)))))))))))))))), ((cell_far (p := ⟨gb1975, _, none⟩) NB1992_1975.out _).trans (((cell_far (p := ⟨gb1975, _, none⟩) NB1992_1975.out _).trans (((cell_far (p := ⟨gb1975, _, none⟩) NB1992_1975.out _).trans (((cell_far (p := ⟨gb1975, _, none⟩) NB1992_1975.out _).trans (((cell_far (p := ⟨gb1975, _, none⟩) NB1992_1975.out _).trans (((cell_far (p := ⟨gb1975, _, none⟩) NB1992_1975.out _).trans (((cell_far (p := ⟨gb1975, _, none⟩) NB1992_1975.out _).trans (((cell_far (p := ⟨gb1975, _, none⟩) NB1992_1975.out _).trans (hHeld.2.1)))))))))))))))), ((cell_far (p := ⟨gb1975, _, none⟩) NB1992_1975.out _).trans (((cell_far (p := ⟨gb1975, _, none⟩) NB1992_1975.out _).trans (((cell_far (p := ⟨gb1975, _, none⟩) NB1992_1975.out _).trans (((cell_far (p := ⟨gb1975, _, none⟩) NB1992_1975.out _).trans (((cell_far (p := ⟨gb1975, _, none⟩) NB1992_1975.out _).trans (((cell_far (p := ⟨gb1975, _, none⟩) NB1992_1975.out _).trans (((cell_far (p := ⟨gb1975, _, none⟩) NB1992_1975.out _).trans (((cell_far (p := ⟨gb1975, _, none⟩) NB1992_1975.out _).trans (hHeld.2.2.1)))))))))))))))), ((cell_far (p := ⟨gb1975, _, none⟩) NB1992_1975.out _).trans (((cell_far (p := ⟨gb1975, _, none⟩) NB1992_1975.out _).trans (((cell_far (p := ⟨gb1975, _, none⟩) NB1992_1975.out _).trans (((cell_far (p := ⟨gb1975, _, none⟩) NB1992_1975.out _).trans (((cell_far (p := ⟨gb1975, _, none⟩) NB1992_1975.out _).trans (((cell_far (p := ⟨gb1975, _, none⟩) NB1992_1975.out _).trans (((cell_far (p := ⟨gb1975, _, none⟩) NB1992_1975.out _).trans (((cell_far (p := ⟨gb1975, _, none⟩) NB1992_1975.out _).trans (hHeld.2.2.2.1)))))))))))))))), ((cell_far (p := ⟨gb1975, _, none⟩) NB1992_1975.out _).trans (((cell_far (p := ⟨gb1975, _, none⟩) NB1992_1975.out _).trans (((cell_far (p := ⟨gb1975, _, none⟩) NB1992_1975.out _).trans (((cell_far (p := ⟨gb1975, _, none⟩) NB1992_1975.out _).trans (((cell_far (p := ⟨gb1975, _, none⟩) NB1992_1975.out _).trans (((cell_far (p := ⟨gb1975, _, none⟩) NB1992_1975.out _).trans (((cell_far (p := ⟨gb1975, _, none⟩) NB1992_1975.out _).trans (((cell_far (p := ⟨gb1975, _, none⟩) NB1992_1975.out _).trans (hHeld.2.2.2.2.1)))))))))))))))), ((cell_far (p := ⟨gb1975, _, none⟩) NB1992_1975.out _).trans (((cell_far (p := ⟨gb1975, _, none⟩) NB1992_1975.out _).trans (((cell_far (p := ⟨gb1975, _, none⟩) NB1992_1975.out _).trans (((cell_far (p := ⟨gb1975, _, none⟩) NB1992_1975.out _).trans (((cell_far (p := ⟨gb1975, _, none⟩) NB1992_1975.out _).trans (((cell_far (p := ⟨gb1975, _, none⟩) NB1992_1975.out _).trans (((cell_far (p := ⟨gb1975, _, none⟩) NB1992_1975.out _).trans (((cell_far (p := ⟨gb1975, _, none⟩) NB1992_1975.out _).trans (hHeld.2.2.2.2.2.1)))))))))))))))), ((cell_far (p := ⟨gb1975, _, none⟩) NB1992_1975.out _).trans (((cell_far (p := ⟨gb1975, _, none⟩) NB1992_1975.out _).trans (((cell_far (p := ⟨gb1975, _, none⟩) NB1992_1975.out _).trans (((cell_far (p := ⟨gb1975, _, none⟩) NB1992_1975.out _).trans (((cell_far (p := ⟨gb1975, _, none⟩) NB1992_1975.out _).trans (((cell_far (p := ⟨gb1975, _, none⟩) NB1992_1975.out _).trans (((cell_far (p := ⟨gb1975, _, none⟩) NB1992_1975.out _).trans (((cell_far (p := ⟨gb1975, _, none⟩) NB1992_1975.out _).trans (hHeld.2.2.2.2.2.2.1)))))))))))))))), ((cell_far (p := ⟨gb1975, _, none⟩) NB1992_1975.out _).trans (((cell_far (p := ⟨gb1975, _, none⟩) NB1992_1975.out _).trans (((cell_far (p := ⟨gb1975, _, none⟩) NB1992_1975.out _).trans (((cell_far (p := ⟨gb1975, _, none⟩) NB1992_1975.out _).trans (((cell_far (p := ⟨gb1975, _, none⟩) NB1992_1975.out _).trans (((cell_far (p := ⟨gb1975, _, none⟩) NB1992_1975.out _).trans (((cell_far (p := ⟨gb1975, _, none⟩) NB1992_1975.out _).trans (((cell_far (p := ⟨gb1975, _, none⟩) NB1992_1975.out _).trans (hHeld.2.2.2.2.2.2.2))))))))))))))))⟩ (fun hHeld => ?_)
          clear hK K
          refine pure_ (i := 6) (N := some 7) (v := ?_) (a' := ?_) #[bY,bY,bY,bY,bY,bY,bY] rfl rfl (by kernel_rfl) (fun _ _ _ h => h) (Or.inl ⟨by rfl, ?_⟩) ?_ ?_
          rotate_left
          ·intro w'
           go_simp
           with_reducible rfl
          rotate_left
          ·simp only [Act.put, sTA, sZ, sS, i64_w, i32_w]
           rfl
          refine done_ (by kernel_rfl) ?_
          try go_wp2
          go_roundg k2
          case measure => have := HJ3.out; have := HK2.out; omega
          case rel => exact ⟨(y1993), (wrap64 (x25_2 + 1)), (t1979), (t1980), (t1981), (t1982), (t1985), (t1986), (t1987), (t1990), (.slice Ao54 t1982.length co54), (.slice Ao55 t1987.length co55), (by first | rfl | (simp; done) | (simp [*]; done)), H', ⟨by have := HJ3.out; have := HK2.out; omega⟩, ⟨by (with_reducible repeat (first | apply Kd.R_alloc | apply Kd.R_drewN | apply Kd.R_drew)); exact Kd.R_mono (zT8 HO1995 BK1975 (.int .i64 t1979) (.int .i64 t1980) (.int .i64 t1981) (.slice Ao54 t1982.length co54) (.int .i64 t1985) (.int .i64 t1986) (.slice Ao55 t1987.length co55) (.int .i64 t1990)) (fun _ hk => ⟨hk.1.2.2.1, hk.1.2.2.2⟩)⟩, ⟨by (with_reducible repeat (first | apply Kd.R_alloc | apply Kd.R_drewN | apply Kd.R_drew)); exact Kd.R_mono (zT8 HO1984 BK1975 (.int .i64 t1979) (.int .i64 t1980) (.int .i64 t1981) (.slice Ao54 t1982.length co54) (.int .i64 t1985) (.int .i64 t1986) (.slice Ao55 t1987.length co55) (.int .i64 t1990)) (fun _ hk => ⟨hk.1.2, hk.1.1.2.2⟩)⟩, ⟨by (with_reducible repeat (first | apply Kd.R_alloc | apply Kd.R_drewN | apply Kd.R_drew)); exact Kd.R_mono (zT8 HO1989 BK1975 (.int .i64 t1979) (.int .i64 t1980) (.int .i64 t1981) (.slice Ao54 t1982.length co54) (.int .i64 t1985) (.int .i64 t1986) (.slice Ao55 t1987.length co55) (.int .i64 t1990)) (fun _ hk => ⟨hk.1.2, hk.1.1.2.2⟩)⟩, ⟨by (with_reducible repeat (first | refine blk_drewN ?_ _ | refine kD ?_ | refine kA ?_ _)); refine blk_far ?_ NB1961_1975.out _; (with_reducible repeat (first | refine blk_drewN ?_ _ | refine kD ?_ | refine kA ?_ _)); refine blk_far ?_ NB1961_1975.out _; (with_reducible repeat (first | refine blk_drewN ?_ _ | refine kD ?_ | refine kA ?_ _)); refine blk_far ?_ NB1961_1975.out _; (with_reducible repeat (first | refine blk_drewN ?_ _ | refine kD ?_ | refine kA ?_ _)); refine blk_far ?_ NB1961_1975.out _; (with_reducible repeat (first | refine blk_drewN ?_ _ | refine kD ?_ | refine kA ?_ _)); refine blk_far ?_ NB1961_1975.out _; (with_reducible repeat (first | refine blk_drewN ?_ _ | refine kD ?_ | refine kA ?_ _)); refine blk_far ?_ NB1961_1975.out _; (with_reducible repeat (first | refine blk_drewN ?_ _ | refine kD ?_ | refine kA ?_ _)); refine blk_far ?_ NB1961_1975.out _; (with_reducible repeat (first | refine blk_drewN ?_ _ | refine kD ?_ | refine kA ?_ _)); refine blk_far ?_ NB1961_1975.out _; (with_reducible repeat (first | refine blk_drewN ?_ _ | refine kD ?_ | refine kA ?_ _)); exact BK1961.out⟩, ⟨by (with_reducible repeat (first | refine blk_drewN ?_ _ | refine kD ?_ | refine kA ?_ _)); refine blk_far ?_ NB1962_1975.out _; (with_reducible repeat (first | refine blk_drewN ?_ _ | refine kD ?_ | refine kA ?_ _)); refine blk_far ?_ NB1962_1975.out _; (with_reducible repeat (first | refine blk_drewN ?_ _ | refine kD ?_ | refine kA ?_ _)); refine blk_far ?_ NB1962_1975.out _; (with_reducible repeat (first | refine blk_drewN ?_ _ | refine kD ?_ | refine kA ?_ _)); refine blk_far ?_ NB1962_1975.out _; (with_reducible repeat (first | refine blk_drewN ?_ _ | refine kD ?_ | refine kA ?_ _)); refine blk_far ?_ NB1962_1975.out _; (with_reducible repeat (first | refine blk_drewN ?_ _ | refine kD ?_ | refine kA ?_ _)); refine blk_far ?_ NB1962_1975.out _; (with_reducible repeat (first | refine blk_drewN ?_ _ | refine kD ?_ | refine kA ?_ _)); refine blk_far ?_ NB1962_1975.out _; (with_reducible repeat (first | refine blk_drewN ?_ _ | refine kD ?_ | refine kA ?_ _)); refine blk_far ?_ NB1962_1975.out _; (with_reducible repeat (first | refine blk_drewN ?_ _ | refine kD ?_ | refine kA ?_ _)); exact BK1962.out⟩, ⟨by (with_reducible repeat (first | refine blk_drewN ?_ _ | refine kD ?_ | refine kA ?_ _)); refine blk_put (cs := #[.int .i64 t1979, .int .i64 t1980, .int .i64 t1981, .slice Ao54 t1982.length co54, .int .i64 t1985, .int .i64 t1986, .slice Ao55 t1987.length co55, .int .i64 x1976007_2]) ?_ 7 _ rfl; (with_reducible repeat (first | refine blk_drewN ?_ _ | refine kD ?_ | refine kA ?_ _)); refine blk_put (cs := #[.int .i64 t1979, .int .i64 t1980, .int .i64 t1981, .slice Ao54 t1982.length co54, .int .i64 t1985, .int .i64 t1986, .slice Ao46 x1976006_2.length co46, .int .i64 x1976007_2]) ?_ 6 _ rfl; (with_reducible repeat (first | refine blk_drewN ?_ _ | refine kD ?_ | refine kA ?_ _)); refine blk_put (cs := #[.int .i64 t1979, .int .i64 t1980, .int .i64 t1981, .slice Ao54 t1982.length co54, .int .i64 t1985, .int .i64 x1976005_2, .slice Ao46 x1976006_2.length co46, .int .i64 x1976007_2]) ?_ 5 _ rfl; (with_reducible repeat (first | refine blk_drewN ?_ _ | refine kD ?_ | refine kA ?_ _)); refine blk_put (cs := #[.int .i64 t1979, .int .i64 t1980, .int .i64 t1981, .slice Ao54 t1982.length co54, .int .i64 x1976004_2, .int .i64 x1976005_2, .slice Ao46 x1976006_2.length co46, .int .i64 x1976007_2]) ?_ 4 _ rfl; (with_reducible repeat (first | refine blk_drewN ?_ _ | refine kD ?_ | refine kA ?_ _)); refine blk_put (cs := #[.int .i64 t1979, .int .i64 t1980, .int .i64 t1981, .slice Ao45 x1976003_2.length co45, .int .i64 x1976004_2, .int .i64 x1976005_2, .slice Ao46 x1976006_2.length co46, .int .i64 x1976007_2]) ?_ 3 _ rfl; (with_reducible repeat (first | refine blk_drewN ?_ _ | refine kD ?_ | refine kA ?_ _)); refine blk_put (cs := #[.int .i64 t1979, .int .i64 t1980, .int .i64 x1976002_2, .slice Ao45 x1976003_2.length co45, .int .i64 x1976004_2, .int .i64 x1976005_2, .slice Ao46 x1976006_2.length co46, .int .i64 x1976007_2]) ?_ 2 _ rfl; (with_reducible repeat (first | refine blk_drewN ?_ _ | refine kD ?_ | refine kA ?_ _)); refine blk_put (cs := #[.int .i64 t1979, .int .i64 x1976001_2, .int .i64 x1976002_2, .slice Ao45 x1976003_2.length co45, .int .i64 x1976004_2, .int .i64 x1976005_2, .slice Ao46 x1976006_2.length co46, .int .i64 x1976007_2]) ?_ 1 _ rfl; (with_reducible repeat (first | refine blk_drewN ?_ _ | refine kD ?_ | refine kA ?_ _)); refine blk_put (cs := #[.int .i64 x1976000_2, .int .i64 x1976001_2, .int .i64 x1976002_2, .slice Ao45 x1976003_2.length co45, .int .i64 x1976004_2, .int .i64 x1976005_2, .slice Ao46 x1976006_2.length co46, .int .i64 x1976007_2]) ?_ 0 _ rfl; (with_reducible repeat (first | refine blk_drewN ?_ _ | refine kD ?_ | refine kA ?_ _)); exact BK1975.out⟩, ⟨zH5 HB GE1961 GE1962 GE1975 GE1978 GE1992⟩⟩
         ·rw [if_neg c36] at H
          exact absurd H (by simp)
        ·rw [if_neg c34] at H
         exact absurd H (by simp)
       ·rw [if_neg c33] at H
        exact absurd H (by simp)
      ·rw [if_neg c32] at H
       have c32b0 : decide (x25_2 < (l1.length : Int)) = false := decide_eq_false c32
       clear c32
       simp only [Option.some.injEq, Prod.mk.injEq] at H
       obtain ⟨rfl, rfl, rfl, rfl, rfl, rfl, rfl, rfl, rfl⟩ := H
       have hnb67 := NB1975_1961.out
       have hnc67 := NB1961_1975.out
       have hnb68 := NB1975_1962.out
       have hnc68 := NB1962_1975.out
       obtain ⟨hcz69_0, hcz69_1, hcz69_2, hcz69_3, hcz69_4, hcz69_5, hcz69_6, hcz69_7, hfz69_0, hfz69_1, hfz69_2, hfz69_3, hfz69_4, hfz69_5, hfz69_6, hfz69_7⟩ := cl8 BK1975.out
       have hnb70 := NB1962_1961.out
       have hnc70 := NB1961_1962.out
       obtain ⟨hcz71_0, hcz71_1, hcz71_2, hcz71_3, hcz71_4, hcz71_5, hcz71_6, hcz71_7, hfz71_0, hfz71_1, hfz71_2, hfz71_3, hfz71_4, hfz71_5, hfz71_6, hfz71_7⟩ := cl8 BK1962.out
       obtain ⟨Ao72, co72, eo72⟩ := Kd.R_slice HO_1976003.out
       subst eo72
       obtain ⟨Ao73, co73, eo73⟩ := Kd.R_slice HO_1976006.out
       subst eo73
       go_wp2
       refine bodyPost_ret (results_ct rfl _ _ gb1962 38 #[.int .i64 x1976000_2, .int .i64 x1976001_2, .int .i64 x1976002_2, .slice Ao72 x1976003_2.length co72, .int .i64 x1976004_2, .int .i64 x1976005_2, .slice Ao73 x1976006_2.length co73, .int .i64 x1976007_2] (0, 0) _ rfl (by (with_reducible repeat (first | refine blk_drewN ?_ _ | refine kD ?_ | refine kA ?_ _)); refine blk_put (cs := #[.int .i64 x1976000_2, .int .i64 x1976001_2, .int .i64 x1976002_2, .slice Ao72 x1976003_2.length co72, .int .i64 x1976004_2, .int .i64 x1976005_2, .slice Ao73 x1976006_2.length co73, .int .i64 0]) ?_ 7 _ rfl; (with_reducible repeat (first | refine blk_drewN ?_ _ | refine kD ?_ | refine kA ?_ _)); refine blk_put (cs := #[.int .i64 x1976000_2, .int .i64 x1976001_2, .int .i64 x1976002_2, .slice Ao72 x1976003_2.length co72, .int .i64 x1976004_2, .int .i64 x1976005_2, .slice none 0 0, .int .i64 0]) ?_ 6 _ rfl; (with_reducible repeat (first | refine blk_drewN ?_ _ | refine kD ?_ | refine kA ?_ _)); refine blk_put (cs := #[.int .i64 x1976000_2, .int .i64 x1976001_2, .int .i64 x1976002_2, .slice Ao72 x1976003_2.length co72, .int .i64 x1976004_2, .int .i64 0, .slice none 0 0, .int .i64 0]) ?_ 5 _ rfl; (with_reducible repeat (first | refine blk_drewN ?_ _ | refine kD ?_ | refine kA ?_ _)); refine blk_put (cs := #[.int .i64 x1976000_2, .int .i64 x1976001_2, .int .i64 x1976002_2, .slice Ao72 x1976003_2.length co72, .int .i64 0, .int .i64 0, .slice none 0 0, .int .i64 0]) ?_ 4 _ rfl; (with_reducible repeat (first | refine blk_drewN ?_ _ | refine kD ?_ | refine kA ?_ _)); refine blk_put (cs := #[.int .i64 x1976000_2, .int .i64 x1976001_2, .int .i64 x1976002_2, .slice none 0 0, .int .i64 0, .int .i64 0, .slice none 0 0, .int .i64 0]) ?_ 3 _ rfl; (with_reducible repeat (first | refine blk_drewN ?_ _ | refine kD ?_ | refine kA ?_ _)); refine blk_put (cs := #[.int .i64 x1976000_2, .int .i64 x1976001_2, .int .i64 0, .slice none 0 0, .int .i64 0, .int .i64 0, .slice none 0 0, .int .i64 0]) ?_ 2 _ rfl; (with_reducible repeat (first | refine blk_drewN ?_ _ | refine kD ?_ | refine kA ?_ _)); refine blk_put (cs := #[.int .i64 x1976000_2, .int .i64 0, .int .i64 0, .slice none 0 0, .int .i64 0, .int .i64 0, .slice none 0 0, .int .i64 0]) ?_ 1 _ rfl; (with_reducible repeat (first | refine blk_drewN ?_ _ | refine kD ?_ | refine kA ?_ _)); refine blk_put (cs := #[.int .i64 0, .int .i64 0, .int .i64 0, .slice none 0 0, .int .i64 0, .int .i64 0, .slice none 0 0, .int .i64 0]) ?_ 0 _ rfl; (with_reducible repeat (first | refine blk_drewN ?_ _ | refine kD ?_ | refine kA ?_ _)); exact BK1962.out) Tryz.underlying38 rfl (by kernel_rfl)) rfl ?_
       exact ⟨_, _, _, by first | rfl | (simp [errW_none, errW_some] <;> rfl) | (simp [*, errW_none, errW_some] <;> rfl), by (with_reducible repeat (first | apply Kd.R_alloc | apply Kd.R_drewN | apply Kd.R_drew)); exact Kd.R_mono (zT8 HO_1976003 BK1962 (.int .i64 x1976000_2) (.int .i64 x1976001_2) (.int .i64 x1976002_2) (.slice Ao72 x1976003_2.length co72) (.int .i64 x1976004_2) (.int .i64 x1976005_2) (.slice Ao73 x1976006_2.length co73) (.int .i64 x1976007_2)) (fun _ hk => ⟨hk.1.2, hk.1.1⟩), by (with_reducible repeat (first | apply Kd.R_alloc | apply Kd.R_drewN | apply Kd.R_drew)); exact Kd.R_mono (zT8 HO_1976006 BK1962 (.int .i64 x1976000_2) (.int .i64 x1976001_2) (.int .i64 x1976002_2) (.slice Ao72 x1976003_2.length co72) (.int .i64 x1976004_2) (.int .i64 x1976005_2) (.slice Ao73 x1976006_2.length co73) (.int .i64 x1976007_2)) (fun _ hk => ⟨hk.1.2, hk.1.1⟩), by (with_reducible repeat (first | apply Kd.R_alloc | apply Kd.R_drewN | apply Kd.R_drew)); exact Kd.R_mono (zT8 HO_7 BK1962 (.int .i64 x1976000_2) (.int .i64 x1976001_2) (.int .i64 x1976002_2) (.slice Ao72 x1976003_2.length co72) (.int .i64 x1976004_2) (.int .i64 x1976005_2) (.slice Ao73 x1976006_2.length co73) (.int .i64 x1976007_2)) (fun _ hk => ⟨hk.1.1, hk.1.2⟩), by repeat (first | (with_reducible first | exact HB.out | apply bAl | apply bDN | apply bD1 | refine bSt ?_ GE1961.out | refine bSt ?_ GE1962.out | refine bSt ?_ GE1975.out) | exact HB.out)⟩
theorem impl_RunActs.ctr {k : Nat} {a0_0 : Int} {a0_1 : Int} {a0_2 : Int} {l0_3 : List Int} {a0_4 : Int} {a0_5 : Int} {l0_6 : List Int} {a0_7 : Int} {l1 : List (SAct)} {r1 : Int} {r2 : Int} {r3 : Int} {r4 : List Int} {r5 : Int} {r6 : Int} {r7 : List Int} {r8 : Int} {r9 : List Int} (h : impl_RunActs.f k a0_0 a0_1 a0_2 l0_3 a0_4 a0_5 l0_6 a0_7 l1 = some (r1, r2, r3, r4, r5, r6, r7, r8, r9)) : Ctr Tryz.prog 36 [.ag [.v (.int .i64 a0_0), .v (.int .i64 a0_1), .v (.int .i64 a0_2), .pr 1 (l0_3.map eI), .v (.int .i64 a0_4), .v (.int .i64 a0_5), .pr 1 (l0_6.map eI), .v (.int .i64 a0_7)], .pr 3 (l1.map eAct)] (.tu [.ag [.v (.int .i64 r1), .v (.int .i64 r2), .v (.int .i64 r3), .ow 3 1 (r4.map eI), .v (.int .i64 r5), .v (.int .i64 r6), .ow 3 1 (r7.map eI), .v (.int .i64 r8)], .ow 3 1 (r9.map eI)]) := by
  refine ⟨enters_of Tryz.func36 rfl rfl, fun w ys hys => ?_⟩
  simp only [RepL, Rep] at hys
  obtain ⟨_, _, rfl, ⟨_, rfl, _, _, rfl, rfl, _, _, rfl, rfl, _, _, rfl, rfl, _, _, rfl, q1, _, _, rfl, rfl, _, _, rfl, rfl, _, _, rfl, q2, _, _, rfl, rfl, rfl⟩, _, _, rfl, q3, rfl⟩ := hys
  obtain ⟨_, _, rfl, hr1, hc1⟩ := C_of_at E_eI q1
  obtain ⟨_, _, rfl, hr2, hc2⟩ := C_of_at E_eI q2
  obtain ⟨_, _, rfl, hr3, hc3⟩ := C_of_at E_eAct q3
  refine (impl_RunActs.calls _ _ _ _ _ _ _ _ _ _ _ _ _ _ _ _ _ _ _ _ _ _ _ _ _ w hr1 hc1 hr2 hc2 hr3 hc3 h).mono ?_
  rintro _ w' ⟨v1, v2, v3, rfl, h1, h2, h3, hb⟩
  have o1 := row_of_R E_eI h1
  have o2 := row_of_R E_eI h2
  have o3 := row_of_R E_eI h3
  refine ⟨_, (bk v1).toList ++ (bk v2).toList ++ (bk v3).toList, rfl, ?_, nd3 (nd_own o1 o2 (fun k hk => by have q_ := h1.1 k hk; first | exact q_ | exact q_.1 | exact q_.2)) (nd_own o1 o3 (fun k hk => by have q_ := h1.1 k hk; first | exact q_ | exact q_.1 | exact q_.2)) (nd_own o2 o3 (fun k hk => by have q_ := h2.1 k hk; first | exact q_ | exact q_.1 | exact q_.2)), hb⟩
  simp only [RepR, RepRL]
  exact ⟨_, rfl, _, _, (bk v1).toList ++ (bk v2).toList, (bk v3).toList, rfl, by simp, ⟨_, rfl, _, _, [], (bk v1).toList ++ (bk v2).toList, rfl, by simp, ⟨rfl, rfl⟩, _, _, [], (bk v1).toList ++ (bk v2).toList, rfl, by simp, ⟨rfl, rfl⟩, _, _, [], (bk v1).toList ++ (bk v2).toList, rfl, by simp, ⟨rfl, rfl⟩, _, _, (bk v1).toList, (bk v2).toList, rfl, by simp, ⟨o1, E_eI.row _, E_eI.pos, rfl⟩, _, _, [], (bk v2).toList, rfl, by simp, ⟨rfl, rfl⟩, _, _, [], (bk v2).toList, rfl, by simp, ⟨rfl, rfl⟩, _, _, (bk v2).toList, [], rfl, by simp, ⟨o2, E_eI.row _, E_eI.pos, rfl⟩, _, _, [], [], rfl, by simp, ⟨rfl, rfl⟩, rfl, rfl⟩, _, _, (bk v3).toList, [], rfl, by simp, ⟨o3, E_eI.row _, E_eI.pos, rfl⟩, rfl, rfl⟩
end Go.Proofs.YtkindoepnganmaaGreat.F
end

section
namespace Go.Proofs.YtkindoepnganmaaGreat.F
open Go.RowKit Go.Proofs.YtkindoepnganmaaGreatW.PrintWords Go.Proofs.YtkindoepnganmaaGreatW.PrintLast Go.Proofs.YtkindoepnganmaaGreatW.PrintMore
set_option linter.unusedVariables false
set_option linter.unusedSimpArgs false
attribute [local go_sem] max2_int min2_int max_two min_two
set_option maxRecDepth 20000 in set_option maxHeartbeats 4000000 in open Nat renaming reduceAdd → p1, reduceSub → p2, reduceMul → p3, reduceDiv → p4, reduceBNe → p5, reduceBEq → p6, reduceEqDiff → p7, reduceLeDiff → p8, reduceLT → p9 in open Int renaming reduceLE → p10, reduceLT → p11, reduceEq → p12 in
theorem spec_Enter.ctr {k : Nat} {a0_0 : Int} {a0_1 : Int} {a0_2 : Int} {l0_3 : List Int} {a0_4 : Int} {a0_5 : Int} {l0_6 : List Int} {a0_7 : Int} {r1 : Int} {r2 : Int} {r3 : Int} {r4 : List Int} {r5 : Int} {r6 : Int} {r7 : List Int} {r8 : Int} {r9 : Bool} (h : spec_Enter.f k a0_0 a0_1 a0_2 l0_3 a0_4 a0_5 l0_6 a0_7 = some (r1, r2, r3, r4, r5, r6, r7, r8, r9)) : Ctr Tryz.prog 16 [.ag [.v (.int .i64 a0_0), .v (.int .i64 a0_1), .v (.int .i64 a0_2), .pr 1 (l0_3.map eI), .v (.int .i64 a0_4), .v (.int .i64 a0_5), .pr 1 (l0_6.map eI), .v (.int .i64 a0_7)]] (.tu [.ag [.v (.int .i64 r1), .v (.int .i64 r2), .v (.int .i64 r3), .ow 3 1 (r4.map eI), .v (.int .i64 r5), .v (.int .i64 r6), .ow 3 1 (r7.map eI), .v (.int .i64 r8)], .v (.bool r9)]) := by
  refine Ctr_of tyOk hm Tryz.func16 rfl rfl (by kernel_rfl) (n := 24) (rv := [.cell 2 38, .tmp 3]) rfl rfl ?_
  simp only [W, List.replicate]
  unfold spec_Enter.f at h
  replace h := bnd h; obtain ⟨⟨t1_1, t1_2, t1_3, t1_4, t1_5, t1_6, t1_7, t1_8⟩, A, h⟩ := h
  dsimp only at h
  try simp only [W, p1, p2, p3, p4, p5, p6, p7, p8, p9, p10, p11, p12]
  refine callR (spec_l38Copy.ctr A) ?_
  replace h := ifN h; obtain ⟨c2, h⟩ := h
  rw [Option.bind_some] at h
  replace h := bnd h; obtain ⟨t3, A, h⟩ := h
  try simp only [W, c2, p1, p2, p3, p4, p5, p6, p7, p8, p9, p10, p11, p12]
  refine callR (spec_GardenOk.ctr A) ?_
  replace h := ifT h; rcases h with ⟨rfl, h⟩ | ⟨rfl, h⟩
  · replace h := bnd h; obtain ⟨t5, A, h⟩ := h
    try simp only [W, c2, p1, p2, p3, p4, p5, p6, p7, p8, p9, p10, p11, p12]
    refine callR (spec_GardenOk.ctr A) ?_
    replace h := ifT h; rcases h with ⟨rfl, h⟩ | ⟨rfl, h⟩
    · cases h
      try simp only [W, c2, p1, p2, p3, p4, p5, p6, p7, p8, p9, p10, p11, p12]
    · replace h := bnd h; obtain ⟨⟨t7_1, t7_2, t7_3, t7_4, t7_5, t7_6, t7_7, t7_8⟩, A, h⟩ := h
      dsimp only at h
      try simp only [W, c2, p1, p2, p3, p4, p5, p6, p7, p8, p9, p10, p11, p12]
      refine callR (spec_l38Copy.ctr A) ?_
      cases h
      try simp only [W, c2, p1, p2, p3, p4, p5, p6, p7, p8, p9, p10, p11, p12]
  · replace h := bnd h; obtain ⟨⟨t8_1, t8_2, t8_3, t8_4, t8_5, t8_6, t8_7, t8_8⟩, A, h⟩ := h
    dsimp only at h
    try simp only [W, c2, p1, p2, p3, p4, p5, p6, p7, p8, p9, p10, p11, p12]
    refine callR (spec_l38Copy.ctr A) ?_
    cases h
    try simp only [W, c2, p1, p2, p3, p4, p5, p6, p7, p8, p9, p10, p11, p12]
end Go.Proofs.YtkindoepnganmaaGreat.F
end

section
namespace Go.Proofs.YtkindoepnganmaaGreat.F
open Go.RowKit Go.Proofs.YtkindoepnganmaaGreatW.PrintWords Go.Proofs.YtkindoepnganmaaGreatW.PrintLast Go.Proofs.YtkindoepnganmaaGreatW.PrintMore
set_option linter.unusedVariables false
set_option linter.unusedSimpArgs false
attribute [local go_sem] max2_int min2_int max_two min_two
set_option maxRecDepth 20000 in set_option maxHeartbeats 4000000 in open Nat renaming reduceAdd → p1, reduceSub → p2, reduceMul → p3, reduceDiv → p4, reduceBNe → p5, reduceBEq → p6, reduceEqDiff → p7, reduceLeDiff → p8, reduceLT → p9 in open Int renaming reduceLE → p10, reduceLT → p11, reduceEq → p12 in
theorem spec_GrowHedge.ctr {k : Nat} {a0_0 : Int} {a0_1 : Int} {a0_2 : Int} {l0_3 : List Int} {a0_4 : Int} {a1 : Int} {r1 : Int} {r2 : Int} {r3 : Int} {r4 : List Int} {r5 : Int} {r6 : Bool} (h : spec_GrowHedge.f k a0_0 a0_1 a0_2 l0_3 a0_4 a1 = some (r1, r2, r3, r4, r5, r6)) : Ctr Tryz.prog 74 [.ag [.v (.int .i64 a0_0), .v (.int .i64 a0_1), .v (.int .i64 a0_2), .pr 1 (l0_3.map eI), .v (.int .i64 a0_4)], .v (.int .i64 a1)] (.tu [.ag [.v (.int .i64 r1), .v (.int .i64 r2), .v (.int .i64 r3), .ow 3 1 (r4.map eI), .v (.int .i64 r5)], .v (.bool r6)]) := by
  refine Ctr_of tyOk hm Tryz.func74 rfl rfl (by kernel_rfl) (n := 37) (rv := [.cell 4 36, .tmp 5]) rfl rfl ?_
  simp only [W, List.replicate]
  unfold spec_GrowHedge.f at h
  replace h := bnd h; obtain ⟨⟨t1_1, t1_2, t1_3, t1_4, t1_5⟩, A, h⟩ := h
  dsimp only at h
  try simp only [W, p1, p2, p3, p4, p5, p6, p7, p8, p9, p10, p11, p12]
  refine callR (spec_l30Copy.ctr A) ?_
  replace h := bnd h; obtain ⟨t2, A, h⟩ := h
  try simp only [W, p1, p2, p3, p4, p5, p6, p7, p8, p9, p10, p11, p12]
  refine callR (spec_HedgeOk.ctr A) ?_
  replace h := ifT h; rcases h with ⟨rfl, h⟩ | ⟨rfl, h⟩
  · replace h := bnd h; obtain ⟨t4, A, h⟩ := h
    try simp only [W, p1, p2, p3, p4, p5, p6, p7, p8, p9, p10, p11, p12]
    refine callR (spec_l01In.ctr A) ?_
    rcases k with _ | m5; · cases h
    rw [spec_GrowHedge.j0] at h
    replace h := ifT h; rcases h with ⟨c6, h⟩ | ⟨c6, h⟩
    · cases h
      try simp only [W, c6, p1, p2, p3, p4, p5, p6, p7, p8, p9, p10, p11, p12]
    · try simp only [W, c6, p1, p2, p3, p4, p5, p6, p7, p8, p9, p10, p11, p12]
      refine loopN (fun x : Int × Int × Int × Int × Int × List Int × Int × Int × Int × Int × List Int × Int × Int × Int × Int × Int => [.u, .v (.int .i64 x.1), .bp 32 0, .u, .bp 64 0, .u, .bp 96 0, .v (.int .i64 x.2.1), .u, .u, .u, .u, .u, .u, .u, .u, .u, .u, .u, .u, .u, .u, .u, .u, .u, .u, .u, .u, .u, .u, .u, .u, .u, .u, .u, .u, .u, .u, .u]) (fun x => [(32, .box 36 [.v (.int .i64 x.2.2.2.2.2.2.2.1), .v (.int .i64 x.2.2.2.2.2.2.2.2.1), .v (.int .i64 x.2.2.2.2.2.2.2.2.2.1), .pr 1 (List.map eI x.2.2.2.2.2.2.2.2.2.2.1), .v (.int .i64 x.2.2.2.2.2.2.2.2.2.2.2.1)]), (64, .box 36 [.v (.int .i64 x.2.2.2.2.2.2.2.2.2.2.2.2.1), .v (.int .i64 x.2.2.2.2.2.2.2.2.2.2.2.2.2.1), .v (.int .i64 x.2.2.2.2.2.2.2.2.2.2.2.2.2.2.1), .v (Value.slice none 0 0), .v (.int .i64 x.2.2.2.2.2.2.2.2.2.2.2.2.2.2.2)]), (96, .box 36 [.v (.int .i64 x.2.2.1), .v (.int .i64 x.2.2.2.1), .v (.int .i64 x.2.2.2.2.1), .lo 144, .v (.int .i64 x.2.2.2.2.2.2.1)]), (144, .row 3 1 (List.map eI x.2.2.2.2.2.1))]) (fun n x => spec_GrowHedge.l0 n x.1 x.2.1 x.2.2.1 x.2.2.2.1 x.2.2.2.2.1 x.2.2.2.2.2.1 x.2.2.2.2.2.2.1 = some (r1, r2, r3, r4, r5, r6)) (a1, 0, t1_1, t1_2, t1_3, t1_4, t1_5, a0_0, a0_1, a0_2, (l0_3), a0_4, 0, 0, 0, 0) [] h (by simp only [W, p1, p2, p3, p4, p5, p6, p7, p8, p9, p10, p11, p12] <;> trivial) (by simp only [W, p1, p2, p3, p4, p5, p6, p7, p8, p9, p10, p11, p12] <;> trivial) rfl (fun _ h => by cases h) ?_
      intro n1 ⟨x7, x8, x9, x10, x11, x12, x13, y14, y15, y16, y17, y18, y19, y20, y21, y22⟩ _ h
      simp only [spec_GrowHedge.l0] at h
      replace h := ifS h; rcases h with ⟨c23, h⟩ | ⟨c23, h⟩
      · replace h := ifN h; obtain ⟨c24, h⟩ := h
        try simp only [W, c23, c24, p1, p2, p3, p4, p5, p6, p7, p8, p9, p10, p11, p12]
        exact nextN (x7, (wrap64 (x8 + 1)), x9, x10, x11, (x12.set (x8 : Int).toNat (mn 1000 (wrap64 ((rd x12 x8) + x7)))), x13, y14, y15, y16, (y17), y18, y19, y20, y21, y22) [] n1 (by omega) h (by simp only [W, p1, p2, p3, p4, p5, p6, p7, p8, p9, p10, p11, p12] <;> trivial) (by simp only [W, p1, p2, p3, p4, p5, p6, p7, p8, p9, p10, p11, p12] <;> trivial) rfl
      · cases h
        try simp only [W, c23, p1, p2, p3, p4, p5, p6, p7, p8, p9, p10, p11, p12]
  · rcases k with _ | m25; · cases h
    rw [spec_GrowHedge.j0] at h
    rw [if_pos rfl] at h
    cases h
    try simp only [W, p1, p2, p3, p4, p5, p6, p7, p8, p9, p10, p11, p12]
end Go.Proofs.YtkindoepnganmaaGreat.F
end

section
namespace Go.Proofs.YtkindoepnganmaaGreat.F
open Go.RowKit Go.Proofs.YtkindoepnganmaaGreatW.PrintWords Go.Proofs.YtkindoepnganmaaGreatW.PrintLast Go.Proofs.YtkindoepnganmaaGreatW.PrintMore
set_option linter.unusedVariables false
set_option linter.unusedSimpArgs false
attribute [local go_sem] max2_int min2_int max_two min_two
set_option maxRecDepth 20000
set_option maxHeartbeats 4000000
open Nat renaming reduceAdd → p1, reduceSub → p2, reduceMul → p3, reduceDiv → p4, reduceBNe → p5, reduceBEq → p6, reduceEqDiff → p7, reduceLeDiff → p8, reduceLT → p9
open Int renaming reduceLE → p10, reduceLT → p11, reduceEq → p12
theorem spec_CutHedge.ctr {k : Nat} {a0_0 : Int} {a0_1 : Int} {a0_2 : Int} {l0_3 : List Int} {a0_4 : Int} {a1 : Int} {r1 : Int} {r2 : Int} {r3 : Int} {r4 : List Int} {r5 : Int} {r6 : Bool} (h : spec_CutHedge.f k a0_0 a0_1 a0_2 l0_3 a0_4 a1 = some (r1, r2, r3, r4, r5, r6)) : Ctr Tryz.prog 76 [.ag [.v (.int .i64 a0_0), .v (.int .i64 a0_1), .v (.int .i64 a0_2), .pr 1 (l0_3.map eI), .v (.int .i64 a0_4)], .v (.int .i64 a1)] (.tu [.ag [.v (.int .i64 r1), .v (.int .i64 r2), .v (.int .i64 r3), .ow 3 1 (r4.map eI), .v (.int .i64 r5)], .v (.bool r6)]) := by
  refine Ctr_of tyOk hm Tryz.func76 rfl rfl (by kernel_rfl) (n := 25) (rv := [.cell 4 36, .tmp 5]) rfl rfl ?_
  simp only [W, List.replicate]
  unfold spec_CutHedge.f at h
  replace h := bnd h; obtain ⟨⟨t1_1, t1_2, t1_3, t1_4, t1_5⟩, A, h⟩ := h
  dsimp only at h
  try simp only [W, p1, p2, p3, p4, p5, p6, p7, p8, p9, p10, p11, p12]
  refine callR (spec_l30Copy.ctr A) ?_
  replace h := bnd h; obtain ⟨t2, A, h⟩ := h
  try simp only [W, p1, p2, p3, p4, p5, p6, p7, p8, p9, p10, p11, p12]
  refine callR (spec_HedgeOk.ctr A) ?_
  replace h := ifT h; rcases h with ⟨rfl, h⟩ | ⟨rfl, h⟩
  · replace h := bnd h; obtain ⟨t4, A, h⟩ := h
    try simp only [W, p1, p2, p3, p4, p5, p6, p7, p8, p9, p10, p11, p12]
    refine callR (spec_l01In.ctr A) ?_
    replace h := ifT h; rcases h with ⟨rfl, h⟩ | ⟨rfl, h⟩
    · replace h := ifN h; obtain ⟨c6, h⟩ := h
      replace h := ifN h; obtain ⟨c7, h⟩ := h
      cases h
      try simp only [W, c6, c7, p1, p2, p3, p4, p5, p6, p7, p8, p9, p10, p11, p12]
    · cases h
      try simp only [W, p1, p2, p3, p4, p5, p6, p7, p8, p9, p10, p11, p12]
  · cases h
    try simp only [W, p1, p2, p3, p4, p5, p6, p7, p8, p9, p10, p11, p12]
theorem spec_NextToCut.ctr {k : Nat} {a0_0 : Int} {a0_1 : Int} {a0_2 : Int} {l0_3 : List Int} {a0_4 : Int} {r : Int} (h : spec_NextToCut.f k a0_0 a0_1 a0_2 l0_3 a0_4 = some r) : Ctr Tryz.prog 77 [.ag [.v (.int .i64 a0_0), .v (.int .i64 a0_1), .v (.int .i64 a0_2), .pr 1 (l0_3.map eI), .v (.int .i64 a0_4)]] (.v (.int .i64 r)) := by
  refine Ctr_of tyOk hm Tryz.func77 rfl rfl (by kernel_rfl) (n := 39) (rv := [.tmp 2]) rfl rfl ?_
  simp only [W, List.replicate]
  unfold spec_NextToCut.f at h
  try simp only [W, p1, p2, p3, p4, p5, p6, p7, p8, p9, p10, p11, p12]
  refine loopN (fun x : Int × Int × Int × Int × Int × List Int × Int => [.u, .bp 16 0, .u, .v (.int .i64 x.1), .v (.int .i64 x.2.1), .u, .u, .u, .u, .u, .u, .u, .u, .u, .u, .u, .u, .u, .u, .u, .u, .u, .u, .u, .u, .u, .u, .u, .u, .u, .u, .u, .u, .u, .u, .u, .u, .u, .u, .u]) (fun x => [(16, .box 36 [.v (.int .i64 x.2.2.1), .v (.int .i64 x.2.2.2.1), .v (.int .i64 x.2.2.2.2.1), .pr 1 (List.map eI x.2.2.2.2.2.1), .v (.int .i64 x.2.2.2.2.2.2)])]) (fun n x => spec_NextToCut.l0 n x.1 x.2.1 x.2.2.1 x.2.2.2.1 x.2.2.2.2.1 x.2.2.2.2.2.1 x.2.2.2.2.2.2 = some r) ((-1), 0, a0_0, a0_1, a0_2, l0_3, a0_4) [] h (by simp only [W, p1, p2, p3, p4, p5, p6, p7, p8, p9, p10, p11, p12] <;> trivial) (by simp only [W, p1, p2, p3, p4, p5, p6, p7, p8, p9, p10, p11, p12] <;> trivial) rfl (fun _ h => by cases h) ?_
  intro n1 ⟨x1, x2, x3, x4, x5, x6, x7⟩ _ h
  simp only [spec_NextToCut.l0] at h
  replace h := ifS h; rcases h with ⟨c8, h⟩ | ⟨c8, h⟩
  · replace h := bnd h; obtain ⟨t9, A, h⟩ := h
    try simp only [W, c8, p1, p2, p3, p4, p5, p6, p7, p8, p9, p10, p11, p12]
    refine callR (spec_HedgeOk.ctr A) ?_
    rcases n1 with _ | m10; · cases h
    rw [spec_NextToCut.j1] at h
    replace h := ifT h; rcases h with ⟨rfl, h⟩ | ⟨rfl, h⟩
    · replace h := bnd h; obtain ⟨t12, A, h⟩ := h
      try simp only [W, c8, p1, p2, p3, p4, p5, p6, p7, p8, p9, p10, p11, p12]
      refine callR (spec_l03Bit.ctr A) ?_
      replace h := ifT h; rcases h with ⟨rfl, h⟩ | ⟨rfl, h⟩
      · replace h := ifS h; rcases h with ⟨c14, h⟩ | ⟨c14, h⟩
        · try simp only [W, c8, c14, p1, p2, p3, p4, p5, p6, p7, p8, p9, p10, p11, p12]
          exact nextN (x2, (wrap64 (x2 + 1)), x3, x4, x5, x6, x7) [] m10 (by omega) h (by simp only [W, p1, p2, p3, p4, p5, p6, p7, p8, p9, p10, p11, p12] <;> trivial) (by simp only [W, p1, p2, p3, p4, p5, p6, p7, p8, p9, p10, p11, p12] <;> trivial) rfl
        · replace h := ifN h; obtain ⟨c15, h⟩ := h
          replace h := ifN h; obtain ⟨c16, h⟩ := h
          replace h := ifN h; obtain ⟨c17, h⟩ := h
          replace h := ifN h; obtain ⟨c18, h⟩ := h
          replace h := ifS h; rcases h with ⟨c19, h⟩ | ⟨c19, h⟩
          · try simp only [W, c8, c14, c15, c16, c17, c18, c19, p1, p2, p3, p4, p5, p6, p7, p8, p9, p10, p11, p12]
            exact nextN (x2, (wrap64 (x2 + 1)), x3, x4, x5, x6, x7) [] m10 (by omega) h (by simp only [W, p1, p2, p3, p4, p5, p6, p7, p8, p9, p10, p11, p12] <;> trivial) (by simp only [W, p1, p2, p3, p4, p5, p6, p7, p8, p9, p10, p11, p12] <;> trivial) rfl
          · try simp only [W, c8, c14, c15, c16, c17, c18, c19, p1, p2, p3, p4, p5, p6, p7, p8, p9, p10, p11, p12]
            exact nextN (x1, (wrap64 (x2 + 1)), x3, x4, x5, x6, x7) [] m10 (by omega) h (by simp only [W, p1, p2, p3, p4, p5, p6, p7, p8, p9, p10, p11, p12] <;> trivial) (by simp only [W, p1, p2, p3, p4, p5, p6, p7, p8, p9, p10, p11, p12] <;> trivial) rfl
      · try simp only [W, c8, p1, p2, p3, p4, p5, p6, p7, p8, p9, p10, p11, p12]
        exact nextN (x1, (wrap64 (x2 + 1)), x3, x4, x5, x6, x7) [] m10 (by omega) h (by simp only [W, p1, p2, p3, p4, p5, p6, p7, p8, p9, p10, p11, p12] <;> trivial) (by simp only [W, p1, p2, p3, p4, p5, p6, p7, p8, p9, p10, p11, p12] <;> trivial) rfl
    · cases h
      try simp only [W, c8, p1, p2, p3, p4, p5, p6, p7, p8, p9, p10, p11, p12]
  · rcases n1 with _ | m20; · cases h
    rw [spec_NextToCut.j1] at h
    rw [if_neg (by decide)] at h
    cases h
    try simp only [W, c8, p1, p2, p3, p4, p5, p6, p7, p8, p9, p10, p11, p12]
end Go.Proofs.YtkindoepnganmaaGreat.F
end
