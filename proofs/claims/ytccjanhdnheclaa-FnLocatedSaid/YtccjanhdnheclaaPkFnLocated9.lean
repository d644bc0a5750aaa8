/- Packed by a program of the session (wip/tools/pack.py): what the claim's theorem reaches, of the texts that wip/ and the kit's printer lay. -/
import Derived.Test.YtccjanhdnheclaaPkFnLocated8
import Derived.Deep.QuietTactic
import Derived.BigQuiet
import Derived.StillTailTactics
section
namespace Go.Proofs.Ytccjanhdnheclaa.F
open Go.RowKit Go.Proofs.YtccjanhdnheclaaW.PrintWords Go.Proofs.YtccjanhdnheclaaW.PrintLast Go.Proofs.YtccjanhdnheclaaW.PrintMore
set_option linter.unusedVariables false
set_option linter.unusedSimpArgs false
attribute [local go_sem] max2_int min2_int max_two min_two
set_option maxHeartbeats 8000000 in
set_option maxRecDepth 100000 in
theorem spec_l33Walk.calls (k : Nat) (g : Nat) (s0_0 : List Int) (s0_1 : Int) (s0_2 : Int) (a1_0 : Int) (a1_1 : Int) (a1_2 : Int) (a2_0 : Int) (a2_1 : Int) (r1 : List Int) (r2 : Int) (r3 : Int) (w0 w : World) (hI : IsS94 w0 w g s0_0 s0_1 s0_2) (hB : Below w0.heap.size w0 w) (h : spec_l33Walk.f k s0_0 s0_1 s0_2 a1_0 a1_1 a1_2 a2_0 a2_1 = some (r1, r2, r3)) :
  Calls Try.prog 49 #[.pointer (some ⟨g, 0, none⟩), .agg #[.int .i64 a1_0, .int .i64 a1_1, .int .i64 a1_2], .agg #[.int .i64 a2_0, .int .i64 a2_1]] w fun e w' => ∃ v0_ : Value, e = .returned (v0_) ∧ Kd.R (Kd.int .i64) 3 w' w.heap.size (fun _ => True) v0_ r1 ∧ IsS94 w0 w' g s0_0 r2 r3 ∧ Below w0.heap.size w0 w' ∧ KeepBut w w' g none := by
 have hu30 := Try.underlying30
 have hu43 := Try.underlying43
 have HI0 := aK hI
 have HK := aK (KeepBut.refl w g none)
 have HL := aK hB.size
 clear hI
 have HW0 := aK hB.size
 have HB := aK hB
 clear hB
 have H : ((spec_l01Below.f s0_0 s0_1 s0_2 8).bind fun bt459 => (spec_l33Walk.l0 k (([] : List Int)) bt459.1 0 s0_0 bt459.2.1 bt459.2.2 a1_0 a1_1 a1_2 a2_0 a2_1)) = some (r1, r2, r3) := h
 clear h
 obtain ⟨y456, hy456⟩ : ∃ y_ : List Int, y_ = (([] : List Int)) := ⟨_, rfl⟩
 replace H : ((spec_l01Below.f s0_0 s0_1 s0_2 8).bind fun bt459 => (spec_l33Walk.l0 k y456 bt459.1 0 s0_0 bt459.2.1 bt459.2.2 a1_0 a1_1 a1_2 a2_0 a2_1)) = some (r1, r2, r3) := by first | (rw [hy456]; with_reducible exact H) | (have H2_ := (Option.bind_some _ _).symm.trans H; rw [hy456]; with_reducible exact H2_) | (have H2_ := (Option.bind_some _ _).symm.trans H; with_reducible exact H2_) | with_reducible exact H | (rw [hy456]; exact H) | exact H
 have Ny456 := aK hy456
 clear hy456
 replace H := Option.bind_eq_some_iff.mp H
 obtain ⟨⟨t459, t460, t461⟩, A40, H⟩ := H
 replace H : (spec_l33Walk.l0 k y456 t459 0 s0_0 t460 t461 a1_0 a1_1 a1_2 a2_0 a2_1) = some (r1, r2, r3) := H
 have A4 := aK A40
 clear A40
 have H' := aK H
 clear H
 go_enter Try.func49, Try.ntmps49
 go_wp2_with (first | ((with_reducible refine gate_dst (N := 4) rfl ?_); refine box_event ?hg (N := 4) ?hd (cs := #[.int .i64 a1_0, .int .i64 a1_1, .int .i64 a1_2]) (t := 30) ?hr ?_; (case hd => rfl); (case hg => rfl); (case hr => first | (go_simp; done) | (go_simp; rfl)); intro gb454 hg w5 hbox hb; replace HB := aK (bSp (by repeat (first | (with_reducible first | exact HB.out | apply bAl | apply bDN | apply bD1 | refine bSt ?_ (IsS94.ge HI0.out)) | exact HB.out)) hb); have BK454 := aK (hbox); have GW454 := aK ((by rw [hg]; exact (keep_size (w := w) (g := g) (row := none) (by repeat (first | (with_reducible first | exact HK.out | apply KeepBut.set_ | apply keep_drewN | apply keep_drew | apply keep_alloc) | exact HK.out))) : w.heap.size ≤ gb454)); have GE454 := aK ((Nat.le_trans HW0.out (by rw [hg]; exact (keep_size (w := w) (g := g) (row := none) (by repeat (first | (with_reducible first | exact HK.out | apply KeepBut.set_ | apply keep_drewN | apply keep_drew | apply keep_alloc) | exact HK.out))) : w.heap.size ≤ gb454) : w0.heap.size ≤ gb454)); replace HK := aK (KeepBut.trans (by repeat (first | (with_reducible first | exact HK.out | apply KeepBut.set_ | apply keep_drewN | apply keep_drew | apply keep_alloc) | exact HK.out)) (KeepBut.of_below hb g none) (.inl rfl)); have NB0_454 := aK ((by rw [hg]; exact Nat.ne_of_lt (IsS94.lt (show IsS94 w0 _ g s0_0 s0_1 s0_2 from by repeat (first | (with_reducible first | exact HI0.out | apply IsS94.alloc | apply IsS94.drewN | apply IsS94.drew | apply IsS94.set_1 | apply IsS94.set_2) | exact HI0.out))) : g ≠ gb454)); have NB454_0 := aK ((by rw [hg]; exact Nat.ne_of_gt (IsS94.lt (show IsS94 w0 _ g s0_0 s0_1 s0_2 from by repeat (first | (with_reducible first | exact HI0.out | apply IsS94.alloc | apply IsS94.drewN | apply IsS94.drew | apply IsS94.set_1 | apply IsS94.set_2) | exact HI0.out))) : gb454 ≠ g)); replace HI0 := aK (IsS94.below (by repeat (first | (with_reducible first | exact HI0.out | apply IsS94.alloc | apply IsS94.drewN | apply IsS94.drew | apply IsS94.set_1 | apply IsS94.set_2) | exact HI0.out)) hb); clear hb hbox hg) | ((with_reducible refine gate_dst (N := 5) rfl ?_); refine box_event ?hg (N := 5) ?hd (cs := #[.int .i64 a2_0, .int .i64 a2_1]) (t := 43) ?hr ?_; (case hd => rfl); (case hg => rfl); (case hr => first | (go_simp; done) | (go_simp; rfl)); intro gb455 hg w6 hbox hb; replace HB := aK (bSp (by repeat (first | (with_reducible first | exact HB.out | apply bAl | apply bDN | apply bD1 | refine bSt ?_ (IsS94.ge HI0.out) | refine bSt ?_ GE454.out) | exact HB.out)) hb); have BK455 := aK (hbox); have GW455 := aK ((by rw [hg]; exact (keep_size (w := w) (g := g) (row := none) (by repeat (first | (with_reducible first | exact HK.out | apply KeepBut.set_ | apply keep_drewN | apply keep_drew | apply keep_alloc | refine keep_far ?_ GW454.out _) | exact HK.out))) : w.heap.size ≤ gb455)); have GE455 := aK ((Nat.le_trans HW0.out (by rw [hg]; exact (keep_size (w := w) (g := g) (row := none) (by repeat (first | (with_reducible first | exact HK.out | apply KeepBut.set_ | apply keep_drewN | apply keep_drew | apply keep_alloc | refine keep_far ?_ GW454.out _) | exact HK.out))) : w.heap.size ≤ gb455) : w0.heap.size ≤ gb455)); replace HK := aK (KeepBut.trans (by repeat (first | (with_reducible first | exact HK.out | apply KeepBut.set_ | apply keep_drewN | apply keep_drew | apply keep_alloc | refine keep_far ?_ GW454.out _) | exact HK.out)) (KeepBut.of_below hb g none) (.inl rfl)); have NB454_455 := nbl BK454 hg (by intro z_; (with_reducible repeat (first | refine kDN ?_ _ | refine kD ?_ | refine blk_alloc ?_ _)); exact z_); replace BK454 := zB BK454 hb; have NB455_454 := nbs NB454_455; have NB0_455 := aK ((by rw [hg]; exact Nat.ne_of_lt (IsS94.lt (show IsS94 w0 _ g s0_0 s0_1 s0_2 from by repeat (first | (with_reducible first | exact HI0.out | apply IsS94.alloc | apply IsS94.drewN | apply IsS94.drew | apply IsS94.set_1 | apply IsS94.set_2 | refine IsS94.far ?_ NB0_454.out _) | exact HI0.out))) : g ≠ gb455)); have NB455_0 := aK ((by rw [hg]; exact Nat.ne_of_gt (IsS94.lt (show IsS94 w0 _ g s0_0 s0_1 s0_2 from by repeat (first | (with_reducible first | exact HI0.out | apply IsS94.alloc | apply IsS94.drewN | apply IsS94.drew | apply IsS94.set_1 | apply IsS94.set_2 | refine IsS94.far ?_ NB0_454.out _) | exact HI0.out))) : gb455 ≠ g)); replace HI0 := aK (IsS94.below (by repeat (first | (with_reducible first | exact HI0.out | apply IsS94.alloc | apply IsS94.drewN | apply IsS94.drew | apply IsS94.set_1 | apply IsS94.set_2 | refine IsS94.far ?_ NB0_454.out _) | exact HI0.out)) hb); clear hb hbox hg) | ((with_reducible refine gate_dst (N := 13) rfl ?_); refine Kd.R_lit (Kd.int .i64) _ 3 ?hg (N := 13) ?hd (xs := ([] : List Int)) (inner := []) (ok := fun _ => True) (okp := fun _ => True) ?hr ?hp (fun _ hk => hk) trivial (Below.refl _ _) (Nat.le_refl _) (by simp) ?_; (case hd => rfl); (case hg => rfl); (case hr => first | (go_simp; done) | (go_simp; rfl)); (case hp => exact (Reps.none _ _)); intro v457 w7 ho8 hb hg_ hnew_; clear hg_ hnew_; (first | rw [← Ny456.out] at ho8 | (simp only [Int.reduceToNat] at ho8; rw [← Ny456.out] at ho8)); have HO458 := aK (Kd.R_lower ho8 (keep_size (w := w) (g := g) (row := none) (by repeat (first | (with_reducible first | exact HK.out | apply KeepBut.set_ | apply keep_drewN | apply keep_drew | apply keep_alloc | refine keep_far ?_ GW454.out _ | refine keep_far ?_ GW455.out _) | exact HK.out)))); replace BK454 := zB BK454 hb; replace BK455 := zB BK455 hb; replace HK := aK (KeepBut.trans (by repeat (first | (with_reducible first | exact HK.out | apply KeepBut.set_ | apply keep_drewN | apply keep_drew | apply keep_alloc | refine keep_far ?_ GW454.out _ | refine keep_far ?_ GW455.out _) | exact HK.out)) (KeepBut.of_below hb g none) (.inl rfl)); replace HB := aK (bSp (by repeat (first | (with_reducible first | exact HB.out | apply bAl | apply bDN | apply bD1 | refine bSt ?_ (IsS94.ge HI0.out) | refine bSt ?_ GE454.out | refine bSt ?_ GE455.out) | exact HB.out)) hb); replace HI0 := aK (IsS94.below (by repeat (first | (with_reducible first | exact HI0.out | apply IsS94.alloc | apply IsS94.drewN | apply IsS94.drew | apply IsS94.set_1 | apply IsS94.set_2 | refine IsS94.far ?_ NB0_454.out _ | refine IsS94.far ?_ NB0_455.out _) | exact HI0.out)) hb); clear hb ho8) | ((with_reducible refine gate_callee (f := 58) rfl ?_); refine goesL_ (some 15) rfl rfl Try.func58 (by kernel_rfl) rfl #[.pointer (some ⟨g, 0, none⟩), .int .i64 8] rfl zD ?_; (with_reducible refine (spec_l01Below.calls g s0_0 s0_1 s0_2 8 t459 t460 t461 w0 _ ?side1 ?side2 A4.out).mono ?_); (case side1 => repeat (first | (with_reducible first | exact HI0.out | apply IsS94.alloc | apply IsS94.drewN | apply IsS94.drew | apply IsS94.set_1 | apply IsS94.set_2 | refine IsS94.far ?_ NB0_454.out _ | refine IsS94.far ?_ NB0_455.out _) | exact HI0.out)); (case side2 => repeat (first | (with_reducible first | exact HB.out | apply bAl | apply bDN | apply bD1 | refine bSt ?_ (IsS94.ge HI0.out) | refine bSt ?_ GE454.out | refine bSt ?_ GE455.out) | exact HB.out)); rintro e w9 ⟨rfl, hi, hb, hk⟩; refine ⟨_, rfl, ?_⟩; replace BK454 := aK (KeepBut.blk hk (g' := gb454) (o := .cells #[.int .i64 a1_0, .int .i64 a1_1, .int .i64 a1_2] 30 (0, 0)) (zK BK454) NB454_0.out (by simp)); replace BK455 := aK (KeepBut.blk hk (g' := gb455) (o := .cells #[.int .i64 a2_0, .int .i64 a2_1] 43 (0, 0)) (zK BK455) NB455_0.out (by simp)); replace HO458 := aK (Kd.R_mono (Kd.R_keep (IsS94.apart (show IsS94 w0 _ g s0_0 s0_1 s0_2 from by repeat (first | (with_reducible first | exact HI0.out | apply IsS94.alloc | apply IsS94.drewN | apply IsS94.drew | apply IsS94.set_1 | apply IsS94.set_2 | refine IsS94.far ?_ NB0_454.out _ | refine IsS94.far ?_ NB0_455.out _) | exact HI0.out)) (zA HO458) (by decide)) hk (fun _ h => h.2)) (fun _ h => h.1)); replace HK := aK (KeepBut.trans (by repeat (first | (with_reducible first | exact HK.out | apply KeepBut.set_ | apply keep_drewN | apply keep_drew | apply keep_alloc | refine keep_far ?_ GW454.out _ | refine keep_far ?_ GW455.out _) | exact HK.out)) hk (.inl rfl)); replace HB := aK (hb); replace HI0 := aK (hi); (try clear hb); (try clear hb2); (try clear hk); (try clear hi)))
 go_loopg [7, 9] k (fun kq v7 v9 w' => ∃ (x7_1 : List Int) (x9_1 : Int) (x1001_1 : Int) (x1002_1 : Int) (x456000_1 : Int) (x456001_1 : Int), v9 = .int .i64 x9_1 ∧ Aside0 (spec_l33Walk.l0 kq x7_1 t459 x9_1 s0_0 x1001_1 x1002_1 a1_0 a1_1 a1_2 x456000_1 x456001_1 = some (r1, r2, r3)) ∧ Aside0 (kq ≤ k) ∧ Aside0 (Kd.R (Kd.int .i64) 3 w' w.heap.size (fun _ => True) v7 x7_1) ∧ Aside0 (w'.heap[gb454]? = some (.cells #[.int .i64 a1_0, .int .i64 a1_1, .int .i64 a1_2] 30 (0, 0))) ∧ Aside0 (w'.heap[gb455]? = some (.cells #[.int .i64 x456000_1, .int .i64 x456001_1] 43 (0, 0))) ∧ Aside0 (IsS94 w0 w' g s0_0 x1001_1 x1002_1) ∧ Aside0 (KeepBut w w' g none) ∧ Aside0 (Below w0.heap.size w0 w'))
 case atStart => exact ⟨(y456), (0), (t460), (t461), (a2_0), (a2_1), (by first | rfl | (simp; done) | (simp [*]; done)), H', ⟨Nat.le_refl _⟩, ⟨zA HO458⟩, ⟨zK BK454⟩, ⟨zK BK455⟩, ⟨by repeat (first | (with_reducible first | exact HI0.out | apply IsS94.alloc | apply IsS94.drewN | apply IsS94.drew | apply IsS94.set_1 | apply IsS94.set_2 | refine IsS94.far ?_ NB0_454.out _ | refine IsS94.far ?_ NB0_455.out _) | exact HI0.out)⟩, ⟨by repeat (first | (with_reducible first | exact HK.out | apply KeepBut.set_ | apply keep_drewN | apply keep_drew | apply keep_alloc | refine keep_far ?_ GW454.out _ | refine keep_far ?_ GW455.out _) | exact HK.out)⟩, ⟨by repeat (first | (with_reducible first | exact HB.out | apply bAl | apply bDN | apply bD1 | refine bSt ?_ (IsS94.ge HI0.out) | refine bSt ?_ GE454.out | refine bSt ?_ GE455.out) | exact HB.out)⟩⟩
 case round =>
  clear H'
  try clear p2
  try clear c4
  try clear c5
  obtain ⟨x7_1, x9_1, x1001_1, x1002_1, x456000_1, x456001_1, rfl, HA, HK1, HO_7, BK454, BK455, HI0, HK, HB⟩ := hrel
  cases gk with
  | zero => exact absurd HA.out (by simp [spec_l33Walk.l0])
  | succ k1 =>
   have H := HA.out
   clear HA
   simp only [spec_l33Walk.l0] at H
   by_cases c10 : x9_1 < t459
   ·rw [if_pos c10] at H
    have c10b0 : decide (x9_1 < t459) = true := decide_eq_true c10
    clear c10
    replace H := Option.bind_eq_some_iff.mp H
    obtain ⟨t462, A110, H⟩ := H
    replace H : (if (t462.length : Int) = 0 then (some (x7_1, x1001_1, x1002_1)) else ((spec_l01Below.f s0_0 x1001_1 x1002_1 (t462.length : Int)).bind fun bt465 => (if 0 ≤ bt465.1 then (if bt465.1 < (t462.length : Int) then (if x7_1.length < 17592186044416 then ((spec_l33Turned.f k1 a1_0 a1_1 a1_2 x456000_1 x456001_1 (Int.tmod (wrap64 ((wrap64 ((rd t462 bt465.1) - x456001_1)) + 4)) 4)).bind fun bt472 => (spec_l33Walk.l0 k1 (x7_1 ++ [Int.tmod (wrap64 ((wrap64 ((rd t462 bt465.1) - x456001_1)) + 4)) 4]) t459 (wrap64 (x9_1 + 1)) s0_0 bt465.2.1 bt465.2.2 a1_0 a1_1 a1_2 bt472.1 bt472.2.1)) else (none)) else (none)) else (none)))) = some (r1, r2, r3) := H
    have A11 := aK A110
    clear A110
    by_cases c12 : (t462.length : Int) = 0
    ·rw [if_pos c12] at H
     have c12b0 : ((t462.length : Int) == 0) = true := beq_iff_eq.mpr c12
     have c12b1 : ((t462.length : Int) != 0) = false := bne_eq_false_iff_eq.mpr c12
     clear c12
     simp only [Option.some.injEq, Prod.mk.injEq] at H
     obtain ⟨rfl, rfl, rfl⟩ := H
     have hnb13 := NB454_455.out
     have hnc13 := NB455_454.out
     have hnb14 := NB454_0.out
     have hnc14 := NB0_454.out
     obtain ⟨hcz15_0, hcz15_1, hcz15_2, hfz15_0, hfz15_1, hfz15_2⟩ := cl3 BK454.out
     have hnb16 := NB455_0.out
     have hnc16 := NB0_455.out
     obtain ⟨hcz17_0, hcz17_1, hfz17_0, hfz17_1⟩ := cl2 BK455.out
     go_wp2_with (first | ((with_reducible refine gate_callee (f := 82) rfl ?_); refine goesL_ (some 24) rfl rfl Try.func82 (by kernel_rfl) rfl #[.agg #[.int .i64 a1_0, .int .i64 a1_1, .int .i64 a1_2], .int .i64 x456000_1] rfl zD ?_; (with_reducible refine (spec_WaysFrom.calls k1 a1_0 a1_1 a1_2 x456000_1 t462 _ A11.out).mono ?_); rintro e w18 ⟨v463, rfl, ho0, hb⟩; refine ⟨_, rfl, ?_⟩; have HO464 := aK (Kd.R_lower (Kd.R_new' ho0 (Kd.R_lt (zA HO_7))) (keep_size (w := w) (g := g) (row := none) (by repeat (first | (with_reducible first | exact HK.out | apply KeepBut.set_ | apply keep_drewN | apply keep_drew | apply keep_alloc | refine keep_far ?_ GW454.out _ | refine keep_far ?_ GW455.out _) | exact HK.out)))); replace HO_7 := aK (Kd.R_elder' (zA HO_7) (Kd.R_base ho0) hb); replace BK454 := zB BK454 hb; replace BK455 := zB BK455 hb; replace HK := aK (KeepBut.trans (by repeat (first | (with_reducible first | exact HK.out | apply KeepBut.set_ | apply keep_drewN | apply keep_drew | apply keep_alloc | refine keep_far ?_ GW454.out _ | refine keep_far ?_ GW455.out _) | exact HK.out)) (KeepBut.of_below hb g none) (.inl rfl)); replace HB := aK (bSp (by repeat (first | (with_reducible first | exact HB.out | apply bAl | apply bDN | apply bD1 | refine bSt ?_ (IsS94.ge HI0.out) | refine bSt ?_ GE454.out | refine bSt ?_ GE455.out) | exact HB.out)) hb); replace HI0 := aK (IsS94.below (by repeat (first | (with_reducible first | exact HI0.out | apply IsS94.alloc | apply IsS94.drewN | apply IsS94.drew | apply IsS94.set_1 | apply IsS94.set_2 | refine IsS94.far ?_ NB0_454.out _ | refine IsS94.far ?_ NB0_455.out _) | exact HI0.out)) hb); (try clear hb); (try clear hb2); (try clear hk); (try clear hi); (try clear ho0); obtain ⟨Ao19, co19, eo19⟩ := Kd.R_slice HO464.out; subst eo19))
     go_ret
     exact ⟨_, by first | rfl | (simp [errW_none, errW_some] <;> rfl) | (simp [*, errW_none, errW_some] <;> rfl), by (with_reducible repeat (first | apply Kd.R_alloc | apply Kd.R_drewN | apply Kd.R_drew)); exact Kd.R_mono HO_7.out (fun _ hk => trivial), by repeat (first | (with_reducible first | exact HI0.out | apply IsS94.alloc | apply IsS94.drewN | apply IsS94.drew | apply IsS94.set_1 | apply IsS94.set_2 | refine IsS94.far ?_ NB0_454.out _ | refine IsS94.far ?_ NB0_455.out _) | exact HI0.out), by repeat (first | (with_reducible first | exact HB.out | apply bAl | apply bDN | apply bD1 | refine bSt ?_ (IsS94.ge HI0.out) | refine bSt ?_ GE454.out | refine bSt ?_ GE455.out) | exact HB.out), by repeat (first | (with_reducible first | exact HK.out | apply KeepBut.set_ | apply keep_drewN | apply keep_drew | apply keep_alloc | refine keep_far ?_ GW454.out _ | refine keep_far ?_ GW455.out _) | exact HK.out)⟩
    ·rw [if_neg c12] at H
     have c12b0 : ((t462.length : Int) == 0) = false := beq_eq_false_iff_ne.mpr c12
     have c12b1 : ((t462.length : Int) != 0) = true := bne_iff_ne.mpr c12
     have c12b2 : ¬ (t462 = []) := fun h_ => c12 (by rw [h_]; rfl)
     replace H := Option.bind_eq_some_iff.mp H
     obtain ⟨⟨t465, t466, t467⟩, A200, H⟩ := H
     replace H : (if 0 ≤ t465 then (if t465 < (t462.length : Int) then (if x7_1.length < 17592186044416 then ((spec_l33Turned.f k1 a1_0 a1_1 a1_2 x456000_1 x456001_1 (Int.tmod (wrap64 ((wrap64 ((rd t462 t465) - x456001_1)) + 4)) 4)).bind fun bt472 => (spec_l33Walk.l0 k1 (x7_1 ++ [Int.tmod (wrap64 ((wrap64 ((rd t462 t465) - x456001_1)) + 4)) 4]) t459 (wrap64 (x9_1 + 1)) s0_0 t466 t467 a1_0 a1_1 a1_2 bt472.1 bt472.2.1)) else (none)) else (none)) else (none)) = some (r1, r2, r3) := H
     have A20 := aK A200
     clear A200
     by_cases c21 : 0 ≤ t465
     ·rw [if_pos c21] at H
      have c21b0 : decide (0 ≤ t465) = true := decide_eq_true c21
      clear c21
      by_cases c22 : t465 < (t462.length : Int)
      ·rw [if_pos c22] at H
       have c22b0 : decide (t465 < (t462.length : Int)) = true := decide_eq_true c22
       clear c22
       by_cases c23 : x7_1.length < 17592186044416
       ·rw [if_pos c23] at H
        have LMc23 := aK c23
        clear c23
        obtain ⟨y469, hy469⟩ : ∃ y_ : List Int, y_ = (x7_1 ++ [Int.tmod (wrap64 ((wrap64 ((rd t462 t465) - x456001_1)) + 4)) 4]) := ⟨_, rfl⟩
        replace H : ((spec_l33Turned.f k1 a1_0 a1_1 a1_2 x456000_1 x456001_1 (Int.tmod (wrap64 ((wrap64 ((rd t462 t465) - x456001_1)) + 4)) 4)).bind fun bt472 => (spec_l33Walk.l0 k1 y469 t459 (wrap64 (x9_1 + 1)) s0_0 t466 t467 a1_0 a1_1 a1_2 bt472.1 bt472.2.1)) = some (r1, r2, r3) := by first | (rw [hy469]; with_reducible exact H) | (have H2_ := (Option.bind_some _ _).symm.trans H; rw [hy469]; with_reducible exact H2_) | (have H2_ := (Option.bind_some _ _).symm.trans H; with_reducible exact H2_) | with_reducible exact H | (rw [hy469]; exact H) | exact H
        have Ny469 := aK hy469
        clear hy469
        replace H := Option.bind_eq_some_iff.mp H
        obtain ⟨⟨t472, t473, t474⟩, A240, H⟩ := H
        replace H : (spec_l33Walk.l0 k1 y469 t459 (wrap64 (x9_1 + 1)) s0_0 t466 t467 a1_0 a1_1 a1_2 t472 t473) = some (r1, r2, r3) := H
        have A24 := aK A240
        clear A240
        have H' := aK H
        clear H
        have hnb25 := NB454_455.out
        have hnc25 := NB455_454.out
        have hnb26 := NB454_0.out
        have hnc26 := NB0_454.out
        obtain ⟨hcz27_0, hcz27_1, hcz27_2, hfz27_0, hfz27_1, hfz27_2⟩ := cl3 BK454.out
        have hnb28 := NB455_0.out
        have hnc28 := NB0_455.out
        obtain ⟨hcz29_0, hcz29_1, hfz29_0, hfz29_1⟩ := cl2 BK455.out
        go_wp2_with (first | ((with_reducible refine gate_callee (f := 82) rfl ?_); refine goesL_ (some 24) rfl rfl Try.func82 (by kernel_rfl) rfl #[.agg #[.int .i64 a1_0, .int .i64 a1_1, .int .i64 a1_2], .int .i64 x456000_1] rfl zD ?_; (with_reducible refine (spec_WaysFrom.calls k1 a1_0 a1_1 a1_2 x456000_1 t462 _ A11.out).mono ?_); rintro e w30 ⟨v463, rfl, ho0, hb⟩; refine ⟨_, rfl, ?_⟩; have HO464 := aK (Kd.R_lower (Kd.R_new' ho0 (Kd.R_lt (zA HO_7))) (keep_size (w := w) (g := g) (row := none) (by repeat (first | (with_reducible first | exact HK.out | apply KeepBut.set_ | apply keep_drewN | apply keep_drew | apply keep_alloc | refine keep_far ?_ GW454.out _ | refine keep_far ?_ GW455.out _) | exact HK.out)))); replace HO_7 := aK (Kd.R_elder' (zA HO_7) (Kd.R_base ho0) hb); replace BK454 := zB BK454 hb; replace BK455 := zB BK455 hb; replace HK := aK (KeepBut.trans (by repeat (first | (with_reducible first | exact HK.out | apply KeepBut.set_ | apply keep_drewN | apply keep_drew | apply keep_alloc | refine keep_far ?_ GW454.out _ | refine keep_far ?_ GW455.out _) | exact HK.out)) (KeepBut.of_below hb g none) (.inl rfl)); replace HB := aK (bSp (by repeat (first | (with_reducible first | exact HB.out | apply bAl | apply bDN | apply bD1 | refine bSt ?_ (IsS94.ge HI0.out) | refine bSt ?_ GE454.out | refine bSt ?_ GE455.out) | exact HB.out)) hb); replace HI0 := aK (IsS94.below (by repeat (first | (with_reducible first | exact HI0.out | apply IsS94.alloc | apply IsS94.drewN | apply IsS94.drew | apply IsS94.set_1 | apply IsS94.set_2 | refine IsS94.far ?_ NB0_454.out _ | refine IsS94.far ?_ NB0_455.out _) | exact HI0.out)) hb); (try clear hb); (try clear hb2); (try clear hk); (try clear hi); (try clear ho0); obtain ⟨Ao31, co31, eo31⟩ := Kd.R_slice HO464.out; subst eo31) | ((with_reducible refine gate_callee (f := 58) rfl ?_); refine goesL_ (some 32) rfl rfl Try.func58 (by kernel_rfl) rfl #[.pointer (some ⟨g, 0, none⟩), .int .i64 (t462.length : Int)] rfl zD ?_; (with_reducible refine (spec_l01Below.calls g s0_0 x1001_1 x1002_1 (t462.length : Int) t465 t466 t467 w0 _ ?side1 ?side2 A20.out).mono ?_); (case side1 => repeat (first | (with_reducible first | exact HI0.out | apply IsS94.alloc | apply IsS94.drewN | apply IsS94.drew | apply IsS94.set_1 | apply IsS94.set_2 | refine IsS94.far ?_ NB0_454.out _ | refine IsS94.far ?_ NB0_455.out _) | exact HI0.out)); (case side2 => repeat (first | (with_reducible first | exact HB.out | apply bAl | apply bDN | apply bD1 | refine bSt ?_ (IsS94.ge HI0.out) | refine bSt ?_ GE454.out | refine bSt ?_ GE455.out) | exact HB.out)); rintro e w32 ⟨rfl, hi, hb, hk⟩; refine ⟨_, rfl, ?_⟩; replace HO_7 := aK (Kd.R_mono (Kd.R_keep (IsS94.apart (show IsS94 w0 _ g s0_0 x1001_1 x1002_1 from by repeat (first | (with_reducible first | exact HI0.out | apply IsS94.alloc | apply IsS94.drewN | apply IsS94.drew | apply IsS94.set_1 | apply IsS94.set_2 | refine IsS94.far ?_ NB0_454.out _ | refine IsS94.far ?_ NB0_455.out _) | exact HI0.out)) (zA HO_7) (by decide)) hk (fun _ h => h.2)) (fun _ h => h.1)); replace BK454 := aK (KeepBut.blk hk (g' := gb454) (o := .cells #[.int .i64 a1_0, .int .i64 a1_1, .int .i64 a1_2] 30 (0, 0)) (zK BK454) NB454_0.out (by simp)); replace BK455 := aK (KeepBut.blk hk (g' := gb455) (o := .cells #[.int .i64 x456000_1, .int .i64 x456001_1] 43 (0, 0)) (zK BK455) NB455_0.out (by simp)); replace HO464 := aK (Kd.R_mono (Kd.R_keep (IsS94.apart (show IsS94 w0 _ g s0_0 x1001_1 x1002_1 from by repeat (first | (with_reducible first | exact HI0.out | apply IsS94.alloc | apply IsS94.drewN | apply IsS94.drew | apply IsS94.set_1 | apply IsS94.set_2 | refine IsS94.far ?_ NB0_454.out _ | refine IsS94.far ?_ NB0_455.out _) | exact HI0.out)) (zA HO464) (by decide)) hk (fun _ h => h.2)) (fun _ h => h.1)); replace HK := aK (KeepBut.trans (by repeat (first | (with_reducible first | exact HK.out | apply KeepBut.set_ | apply keep_drewN | apply keep_drew | apply keep_alloc | refine keep_far ?_ GW454.out _ | refine keep_far ?_ GW455.out _) | exact HK.out)) hk (.inl rfl)); replace HB := aK (hb); replace HI0 := aK (hi); (try clear hb); (try clear hb2); (try clear hk); (try clear hi); have p468 : 0 ≤ (t465 : Int) := of_decide_eq_true (by first | (with_reducible assumption) | assumption); have q468 : t465 < (t462.length : Int) := of_decide_eq_true (by first | (with_reducible assumption) | assumption); obtain ⟨ad468, e468, hx468_0⟩ := Kd.at_int (Kd.R_reads' HO464.out).2.2 t465 p468 q468; cases e468; replace p468 := eq_true p468; replace q468 := eq_true q468; obtain ⟨hcz33_0, hcz33_1, hfz33_0, hfz33_1⟩ := cl2 BK455.out) | ((with_reducible refine gate_builtin (b := .append) (xs := #[.tmp 41, .tmp 43]) rfl ?_); at_builtin; refine Kd.R_append (Kd.int .i64) w.heap.size rfl (.tmp 41) (.tmp 43) 26 3 (.int .i64 0) 8 rfl Try.underlying26 info3 rfl (by decide) (by omega) u7 x7_1 (Int.tmod (wrap64 ((wrap64 ((rd t462 t465) - x456001_1)) + 4)) 4) [.int .i64 (Int.tmod (wrap64 ((wrap64 ((rd t462 t465) - x456001_1)) + 4)) 4)] (fun k_ => some k_ ≠ (.slice (some ad468) t462.length co31 : Value).ownBlock) (fun _ => False) rfl rfl ?aP (fun _ hk => hk.elim) ?aF ?aO (Below.refl _ _) ?aS ?aL ?_; (case aP => exact rfl); (case aF => exact (fun k_ hk => Kd.fresh' (Kd.R_lt (zA HO464)) k_ hk)); (case aO => exact (by (with_reducible repeat (first | apply Kd.R_alloc | apply Kd.R_drewN | apply Kd.R_drew)); exact Kd.R_mono HO_7.out (fun _ hk => hk.2))); (case aS => exact (keep_size (w := w) (g := g) (row := none) (by repeat (first | (with_reducible first | exact HK.out | apply KeepBut.set_ | apply keep_drewN | apply keep_drew | apply keep_alloc | refine keep_far ?_ GW454.out _ | refine keep_far ?_ GW455.out _) | exact HK.out)))); (case aL => have := LMc23.out; omega); intro v470 w34 ho hb hg hat; rw [← Ny469.out] at ho; have n0_ := aK (blk_grown (g := gb454) (o := .cells #[.int .i64 a1_0, .int .i64 a1_1, .int .i64 a1_2] 30 (0, 0)) (zK BK454) hg (Kd.R_ne HO_7.out BK454.out (by decide))); have n1_ := aK (blk_grown (g := gb455) (o := .cells #[.int .i64 x456000_1, .int .i64 x456001_1] 43 (0, 0)) (zK BK455) hg (Kd.R_ne HO_7.out BK455.out (by decide))); have n2_ := aK (IsS94.grown (show IsS94 w0 _ g s0_0 t466 t467 from by repeat (first | (with_reducible first | exact HI0.out | apply IsS94.alloc | apply IsS94.drewN | apply IsS94.drew | apply IsS94.set_1 | apply IsS94.set_2 | refine IsS94.far ?_ NB0_454.out _ | refine IsS94.far ?_ NB0_455.out _) | exact HI0.out)) hg (IsS94.own_ne HI0.out HO_7.out (by decide))); have n3_ := aK (Kd.R_after (ok := (fun _ => True)) (zA HO464) hg hat); have n4_ := aK (below_weaken (by repeat (first | (with_reducible first | exact HB.out | apply bAl | apply bDN | apply bD1 | refine bSt ?_ (IsS94.ge HI0.out) | refine bSt ?_ GE454.out | refine bSt ?_ GE455.out) | exact HB.out)) HL.out hb); have n5_ := aK (KeepBut.trans (by repeat (first | (with_reducible first | exact HK.out | apply KeepBut.set_ | apply keep_drewN | apply keep_drew | apply keep_alloc | refine keep_far ?_ GW454.out _ | refine keep_far ?_ GW455.out _) | exact HK.out)) (KeepBut.of_grown hg g) (Kd.R_base2 HO_7.out)); have n6_ := aK (ho); clear BK454; clear BK455; clear HI0; clear HO464; clear HB; clear HK; clear HO_7; have BK454 := n0_; have BK455 := n1_; have HI0 := n2_; have HO464 := n3_; have HB := n4_; have HK := n5_; have HO471 := n6_; clear n0_ n1_ n2_ n3_ n4_ n5_ n6_; clear ho hb hg hat; obtain ⟨hcz35_0, hcz35_1, hcz35_2, hfz35_0, hfz35_1, hfz35_2⟩ := cl3 BK454.out; obtain ⟨hcz36_0, hcz36_1, hfz36_0, hfz36_1⟩ := cl2 BK455.out) | ((with_reducible refine gate_callee (f := 37) rfl ?_); refine goesL_ (some 49) rfl rfl Try.func37 (by kernel_rfl) rfl #[.agg #[.int .i64 a1_0, .int .i64 a1_1, .int .i64 a1_2], .agg #[.int .i64 x456000_1, .int .i64 x456001_1], .int .i64 (Int.tmod (wrap64 ((wrap64 ((rd t462 t465) - x456001_1)) + 4)) 4)] rfl zD ?_; (with_reducible refine (spec_l33Turned.calls k1 a1_0 a1_1 a1_2 x456000_1 x456001_1 (Int.tmod (wrap64 ((wrap64 ((rd t462 t465) - x456001_1)) + 4)) 4) t472 t473 t474 _ A24.out).mono ?_); rintro e w37 ⟨rfl, hb⟩; refine ⟨_, rfl, ?_⟩; replace HO464 := aK (Kd.R_below (zA HO464) hb); replace HO471 := aK (Kd.R_below (zA HO471) hb); replace BK454 := zB BK454 hb; replace BK455 := zB BK455 hb; replace HK := aK (KeepBut.trans (by repeat (first | (with_reducible first | exact HK.out | apply KeepBut.set_ | apply keep_drewN | apply keep_drew | apply keep_alloc | refine keep_far ?_ GW454.out _ | refine keep_far ?_ GW455.out _) | exact HK.out)) (KeepBut.of_below hb g none) (.inl rfl)); replace HB := aK (bSp (by repeat (first | (with_reducible first | exact HB.out | apply bAl | apply bDN | apply bD1 | refine bSt ?_ (IsS94.ge HI0.out) | refine bSt ?_ GE454.out | refine bSt ?_ GE455.out) | exact HB.out)) hb); replace HI0 := aK (IsS94.below (by repeat (first | (with_reducible first | exact HI0.out | apply IsS94.alloc | apply IsS94.drewN | apply IsS94.drew | apply IsS94.set_1 | apply IsS94.set_2 | refine IsS94.far ?_ NB0_454.out _ | refine IsS94.far ?_ NB0_455.out _) | exact HI0.out)) hb); (try clear hb); (try clear hb2); (try clear hk); (try clear hi); obtain ⟨hcz38_0, hcz38_1, hfz38_0, hfz38_1⟩ := cl2 BK455.out))
        go_roundg k1
        case measure => have := HK1.out; omega
        case rel => exact ⟨(y469), (wrap64 (x9_1 + 1)), (t466), (t467), (t472), (t473), (by first | rfl | (simp; done) | (simp [*]; done)), H', ⟨by have := HK1.out; omega⟩, ⟨by (with_reducible repeat (first | apply Kd.R_alloc | apply Kd.R_drewN | apply Kd.R_drew)); exact Kd.R_mono (zT2 HO471 BK455 (.int .i64 t472) (.int .i64 t473)) (fun _ hk => trivial)⟩, ⟨by (with_reducible repeat (first | refine kDN ?_ _ | refine kD ?_ | refine blk_alloc ?_ _)); refine blk_far ?_ NB454_455.out _; (with_reducible repeat (first | refine kDN ?_ _ | refine kD ?_ | refine blk_alloc ?_ _)); refine blk_far ?_ NB454_455.out _; (with_reducible repeat (first | refine kDN ?_ _ | refine kD ?_ | refine blk_alloc ?_ _)); exact BK454.out⟩, ⟨by (with_reducible repeat (first | refine kDN ?_ _ | refine kD ?_ | refine blk_alloc ?_ _)); refine blk_put (cs := #[.int .i64 t472, .int .i64 x456001_1]) ?_ 1 _ rfl; (with_reducible repeat (first | refine kDN ?_ _ | refine kD ?_ | refine blk_alloc ?_ _)); refine blk_put (cs := #[.int .i64 x456000_1, .int .i64 x456001_1]) ?_ 0 _ rfl; (with_reducible repeat (first | refine kDN ?_ _ | refine kD ?_ | refine blk_alloc ?_ _)); exact BK455.out⟩, ⟨by repeat (first | (with_reducible first | exact HI0.out | apply IsS94.alloc | apply IsS94.drewN | apply IsS94.drew | apply IsS94.set_1 | apply IsS94.set_2 | refine IsS94.far ?_ NB0_454.out _ | refine IsS94.far ?_ NB0_455.out _) | exact HI0.out)⟩, ⟨by repeat (first | (with_reducible first | exact HK.out | apply KeepBut.set_ | apply keep_drewN | apply keep_drew | apply keep_alloc | refine keep_far ?_ GW454.out _ | refine keep_far ?_ GW455.out _) | exact HK.out)⟩, ⟨by repeat (first | (with_reducible first | exact HB.out | apply bAl | apply bDN | apply bD1 | refine bSt ?_ (IsS94.ge HI0.out) | refine bSt ?_ GE454.out | refine bSt ?_ GE455.out) | exact HB.out)⟩⟩
       ·rw [if_neg c23] at H
        exact absurd H (by simp)
      ·rw [if_neg c22] at H
       exact absurd H (by simp)
     ·rw [if_neg c21] at H
      exact absurd H (by simp)
   ·rw [if_neg c10] at H
    have c10b0 : decide (x9_1 < t459) = false := decide_eq_false c10
    clear c10
    simp only [Option.some.injEq, Prod.mk.injEq] at H
    obtain ⟨rfl, rfl, rfl⟩ := H
    go_wp2
    go_ret
    exact ⟨_, by first | rfl | (simp [errW_none, errW_some] <;> rfl) | (simp [*, errW_none, errW_some] <;> rfl), by (with_reducible repeat (first | apply Kd.R_alloc | apply Kd.R_drewN | apply Kd.R_drew)); exact HO_7.out, by repeat (first | (with_reducible first | exact HI0.out | apply IsS94.alloc | apply IsS94.drewN | apply IsS94.drew | apply IsS94.set_1 | apply IsS94.set_2 | refine IsS94.far ?_ NB0_454.out _ | refine IsS94.far ?_ NB0_455.out _) | exact HI0.out), by repeat (first | (with_reducible first | exact HB.out | apply bAl | apply bDN | apply bD1 | refine bSt ?_ (IsS94.ge HI0.out) | refine bSt ?_ GE454.out | refine bSt ?_ GE455.out) | exact HB.out), by repeat (first | (with_reducible first | exact HK.out | apply KeepBut.set_ | apply keep_drewN | apply keep_drew | apply keep_alloc | refine keep_far ?_ GW454.out _ | refine keep_far ?_ GW455.out _) | exact HK.out)⟩
def spec_DrawReport.T4 : Bool × List (List Nat × List Nat) := (true, [([], []), ([], []), ([], []), ([], []), ([], []), ([2, 3, 4], [2, 3, 4]), ([0, 5, 0], [0]), ([1, 6, 0, 1, 6], [1]), ([5, 7, 0, 1, 2, 3, 4, 5, 6, 7], [5])])
def spec_DrawReport.B4 : List Nat := [0, 0, 0, 0, 0, 28, 61, 127, 255]
theorem spec_DrawReport.tab4 : rtab .any (opsOf Try.f19 4) = spec_DrawReport.T4 := by kernel_rfl
theorem spec_DrawReport.bits4 : waitsOk spec_DrawReport.T4.2 spec_DrawReport.B4 = true := by kernel_rfl
set_option maxHeartbeats 8000000 in
set_option maxRecDepth 100000 in
theorem spec_DrawReport.calls (k : Nat) (A0 : Option Addr) (c0 : Nat) (l0 : List Int) (r1 : Int) (r2 : Int) (r3 : Int) (r4 : Int) (r5 : Int) (r6 : List Int) (w : World) (hr0 : Kd.C (Kd.int .u8) w A0 l0.length l0) (hc0 : l0.length ≤ c0) (h : spec_DrawReport.f k l0 = some (r1, r2, r3, r4, r5, r6)) :
  Calls Try.prog 19 #[.slice A0 l0.length c0] w fun e w' => ∃ v5_ : Value, e = .returned (.tuple #[.agg #[.int .i64 r1, .int .i64 r2, .int .i64 r3], .agg #[.int .i64 r4, .int .i64 r5], v5_]) ∧ Kd.R (Kd.int .i64) 3 w' w.heap.size (fun _ => True) v5_ r6 ∧ Below w.heap.size w w' := by
 have hu30 := Try.underlying30
 have hu43 := Try.underlying43
 have HR0 := aK hr0
 have HC0 := aK hc0
 clear hr0 hc0
 have HB := aK (Below.refl w.heap.size w)
 have H : ((spec_l01New.f k l0).bind fun bt477 => ((spec_l03Maze.f k bt477.1 bt477.2.1 bt477.2.2).bind fun bt481 => ((spec_l10Walker.f bt477.1 bt481.2.2.2.1 bt481.2.2.2.2 bt481.1 bt481.2.1 bt481.2.2.1).bind fun bt487 => ((spec_l33Walk.f k bt477.1 bt487.2.2.1 bt487.2.2.2 bt481.1 bt481.2.1 bt481.2.2.1 bt487.1 bt487.2.1).bind fun bt492 => (some (bt481.1, bt481.2.1, bt481.2.2.1, bt487.1, bt487.2.1, bt492.1)))))) = some (r1, r2, r3, r4, r5, r6) := h
 clear h
 replace H := Option.bind_eq_some_iff.mp H
 obtain ⟨⟨t477, t478, t479⟩, A20, H⟩ := H
 replace H : ((spec_l03Maze.f k t477 t478 t479).bind fun bt481 => ((spec_l10Walker.f t477 bt481.2.2.2.1 bt481.2.2.2.2 bt481.1 bt481.2.1 bt481.2.2.1).bind fun bt487 => ((spec_l33Walk.f k t477 bt487.2.2.1 bt487.2.2.2 bt481.1 bt481.2.1 bt481.2.2.1 bt487.1 bt487.2.1).bind fun bt492 => (some (bt481.1, bt481.2.1, bt481.2.2.1, bt487.1, bt487.2.1, bt492.1))))) = some (r1, r2, r3, r4, r5, r6) := H
 have A2 := aK A20
 clear A20
 replace H := Option.bind_eq_some_iff.mp H
 obtain ⟨⟨t481, t482, t483, t484, t485⟩, A30, H⟩ := H
 replace H : ((spec_l10Walker.f t477 t484 t485 t481 t482 t483).bind fun bt487 => ((spec_l33Walk.f k t477 bt487.2.2.1 bt487.2.2.2 t481 t482 t483 bt487.1 bt487.2.1).bind fun bt492 => (some (t481, t482, t483, bt487.1, bt487.2.1, bt492.1)))) = some (r1, r2, r3, r4, r5, r6) := H
 have A3 := aK A30
 clear A30
 replace H := Option.bind_eq_some_iff.mp H
 obtain ⟨⟨t487, t488, t489, t490⟩, A40, H⟩ := H
 replace H : ((spec_l33Walk.f k t477 t489 t490 t481 t482 t483 t487 t488).bind fun bt492 => (some (t481, t482, t483, t487, t488, bt492.1))) = some (r1, r2, r3, r4, r5, r6) := H
 have A4 := aK A40
 clear A40
 replace H := Option.bind_eq_some_iff.mp H
 obtain ⟨⟨t492, t495, t496⟩, A50, H⟩ := H
 replace H : (some (t481, t482, t483, t487, t488, t492)) = some (r1, r2, r3, r4, r5, r6) := H
 have A5 := aK A50
 clear A50
 simp only [Option.some.injEq, Prod.mk.injEq] at H
 obtain ⟨rfl, rfl, rfl, rfl, rfl, rfl⟩ := H
 go_enter Try.func19, Try.ntmps19
 try go_wp2_with (first | ((with_reducible refine gate_dst (N := 2) rfl ?_); refine box_event ?hg (N := 2) ?hd (cs := #[.int .i64 0, .int .i64 0, .int .i64 0]) (t := 30) ?hr ?_; (case hd => rfl); (case hg => rfl); (case hr => first | (go_simp; done) | (go_simp; rfl)); intro gb475 hg w6 hbox hb; have BK475 := aK (hbox); have GW475 := aK ((by rw [hg]; exact (bSz (zH0 HB)) : w.heap.size ≤ gb475)); replace HB := aK (bSp (zH0 HB) hb); have GE475 := GW475; clear hb hbox hg) | ((with_reducible refine gate_dst (N := 3) rfl ?_); refine box_event ?hg (N := 3) ?hd (cs := #[.int .i64 0, .int .i64 0]) (t := 43) ?hr ?_; (case hd => rfl); (case hg => rfl); (case hr => first | (go_simp; done) | (go_simp; rfl)); intro gb476 hg w7 hbox hb; have BK476 := aK (hbox); have GW476 := aK ((by rw [hg]; exact (bSz (zH1 HB GE475)) : w.heap.size ≤ gb476)); replace HB := aK (bSp (zH1 HB GE475) hb); have GE476 := GW476; have NB475_476 := nbl BK475 hg (by intro z_; (with_reducible repeat (first | refine kDN ?_ _ | refine kD ?_ | refine blk_alloc ?_ _)); exact z_); replace BK475 := zB BK475 hb; have NB476_475 := nbs NB475_476; clear hb hbox hg) | ((with_reducible refine gate_callee (f := 46) rfl ?_); refine goesL_ (some 9) rfl rfl Try.func46 (by kernel_rfl) rfl #[.slice A0 l0.length c0] rfl zD ?_; (with_reducible refine (spec_l01New.calls k _ _ l0 t477 t478 t479 w _ ?side1 ?side2 ?side3 A2.out).mono ?_); (case side1 => exact (zH2 HB GE475 GE476)); (case side2 => exact HR0.out); (case side3 => exact HC0.out); rintro e w8 ⟨g480, rfl, hi, hb, hb2⟩; refine ⟨_, rfl, ?_⟩; replace HB := aK (hb); have HI480 := aK (hi); have NB480_475 := aK (IsS94.ne_blk hi (blk_below (g := gb475) (o := .cells #[.int .i64 0, .int .i64 0, .int .i64 0] 30 (0, 0)) (zK BK475) hb2) (by decide)); have NB475_480 := aK (Ne.symm (IsS94.ne_blk hi (blk_below (g := gb475) (o := .cells #[.int .i64 0, .int .i64 0, .int .i64 0] 30 (0, 0)) (zK BK475) hb2) (by decide))); replace BK475 := aK (blk_below (g := gb475) (o := .cells #[.int .i64 0, .int .i64 0, .int .i64 0] 30 (0, 0)) (zK BK475) hb2); have NB480_476 := aK (IsS94.ne_blk hi (blk_below (g := gb476) (o := .cells #[.int .i64 0, .int .i64 0] 43 (0, 0)) (zK BK476) hb2) (by decide)); have NB476_480 := aK (Ne.symm (IsS94.ne_blk hi (blk_below (g := gb476) (o := .cells #[.int .i64 0, .int .i64 0] 43 (0, 0)) (zK BK476) hb2) (by decide))); replace BK476 := aK (blk_below (g := gb476) (o := .cells #[.int .i64 0, .int .i64 0] 43 (0, 0)) (zK BK476) hb2); (try clear hb); (try clear hb2); (try clear hk); (try clear hi)) | ((with_reducible refine gate_callee (f := 47) rfl ?_); refine goesL_ (some 11) rfl rfl Try.func47 (by kernel_rfl) rfl #[.pointer (some ⟨g480, 0, none⟩)] rfl zD ?_; (with_reducible refine (spec_l03Maze.calls k g480 t477 t478 t479 t481 t482 t483 t484 t485 w _ ?side1 ?side2 A3.out).mono ?_); (case side1 => repeat (first | (with_reducible first | exact HI480.out | apply IsS94.alloc | apply IsS94.drewN | apply IsS94.drew | apply IsS94.set_1 | apply IsS94.set_2 | refine IsS94.far ?_ NB480_475.out _ | refine IsS94.far ?_ NB480_476.out _) | exact HI480.out)); (case side2 => repeat (first | (with_reducible first | exact HB.out | apply bAl | apply bDN | apply bD1 | refine bSt ?_ (IsS94.ge HI480.out) | refine bSt ?_ GE475.out | refine bSt ?_ GE476.out) | exact HB.out)); rintro e w9 ⟨rfl, hi, hb, hk⟩; refine ⟨_, rfl, ?_⟩; replace BK475 := aK (KeepBut.blk hk (g' := gb475) (o := .cells #[.int .i64 0, .int .i64 0, .int .i64 0] 30 (0, 0)) (zK BK475) NB475_480.out (by simp)); replace BK476 := aK (KeepBut.blk hk (g' := gb476) (o := .cells #[.int .i64 0, .int .i64 0] 43 (0, 0)) (zK BK476) NB476_480.out (by simp)); replace HB := aK (hb); replace HI480 := aK (hi); (try clear hb); (try clear hb2); (try clear hk); (try clear hi)) | ((with_reducible refine gate_dst (N := 6) rfl ?_); refine box_event ?hg (N := 6) ?hd (cs := #[.int .i64 0, .int .i64 0, .int .i64 0]) (t := 30) ?hr ?_; (case hd => rfl); (case hg => rfl); (case hr => first | (go_simp; done) | (go_simp; rfl)); intro gb486 hg w10 hbox hb; have BK486 := aK (hbox); have GW486 := aK ((by rw [hg]; exact (bSz (by repeat (first | (with_reducible first | exact HB.out | apply bAl | apply bDN | apply bD1 | refine bSt ?_ (IsS94.ge HI480.out) | refine bSt ?_ GE475.out | refine bSt ?_ GE476.out) | exact HB.out))) : w.heap.size ≤ gb486)); replace HB := aK (bSp (by repeat (first | (with_reducible first | exact HB.out | apply bAl | apply bDN | apply bD1 | refine bSt ?_ (IsS94.ge HI480.out) | refine bSt ?_ GE475.out | refine bSt ?_ GE476.out) | exact HB.out)) hb); have GE486 := GW486; have NB475_486 := nbl BK475 hg (by intro z_; (with_reducible repeat (first | refine kDN ?_ _ | refine kD ?_ | refine blk_alloc ?_ _)); exact z_); replace BK475 := zB BK475 hb; have NB486_475 := nbs NB475_486; have NB476_486 := nbl BK476 hg (by intro z_; (with_reducible repeat (first | refine kDN ?_ _ | refine kD ?_ | refine blk_alloc ?_ _)); exact z_); replace BK476 := zB BK476 hb; have NB486_476 := nbs NB476_486; have NB480_486 := aK ((by rw [hg]; exact Nat.ne_of_lt (IsS94.lt (show IsS94 w _ g480 t477 t484 t485 from by repeat (first | (with_reducible first | exact HI480.out | apply IsS94.alloc | apply IsS94.drewN | apply IsS94.drew | apply IsS94.set_1 | apply IsS94.set_2 | refine IsS94.far ?_ NB480_475.out _ | refine IsS94.far ?_ NB480_476.out _) | exact HI480.out))) : g480 ≠ gb486)); have NB486_480 := aK ((by rw [hg]; exact Nat.ne_of_gt (IsS94.lt (show IsS94 w _ g480 t477 t484 t485 from by repeat (first | (with_reducible first | exact HI480.out | apply IsS94.alloc | apply IsS94.drewN | apply IsS94.drew | apply IsS94.set_1 | apply IsS94.set_2 | refine IsS94.far ?_ NB480_475.out _ | refine IsS94.far ?_ NB480_476.out _) | exact HI480.out))) : gb486 ≠ g480)); replace HI480 := aK (IsS94.below (by repeat (first | (with_reducible first | exact HI480.out | apply IsS94.alloc | apply IsS94.drewN | apply IsS94.drew | apply IsS94.set_1 | apply IsS94.set_2 | refine IsS94.far ?_ NB480_475.out _ | refine IsS94.far ?_ NB480_476.out _) | exact HI480.out)) hb); clear hb hbox hg; have hnb11 := NB486_475.out; have hnc11 := NB475_486.out; have hnb12 := NB486_476.out; have hnc12 := NB476_486.out; have hnb13 := NB486_480.out; have hnc13 := NB480_486.out; obtain ⟨hcz14_0, hcz14_1, hcz14_2, hfz14_0, hfz14_1, hfz14_2⟩ := cl3 BK486.out) | ((with_reducible refine gate_callee (f := 48) rfl ?_); refine goesL_ (some 14) rfl rfl Try.func48 (by kernel_rfl) rfl #[.pointer (some ⟨g480, 0, none⟩), .agg #[.int .i64 t481, .int .i64 t482, .int .i64 t483]] rfl zD ?_; (with_reducible refine (spec_l10Walker.calls g480 t477 t484 t485 t481 t482 t483 t487 t488 t489 t490 w _ ?side1 ?side2 A4.out).mono ?_); (case side1 => repeat (first | (with_reducible first | exact HI480.out | apply IsS94.alloc | apply IsS94.drewN | apply IsS94.drew | apply IsS94.set_1 | apply IsS94.set_2 | refine IsS94.far ?_ NB480_475.out _ | refine IsS94.far ?_ NB480_476.out _ | refine IsS94.far ?_ NB480_486.out _) | exact HI480.out)); (case side2 => repeat (first | (with_reducible first | exact HB.out | apply bAl | apply bDN | apply bD1 | refine bSt ?_ (IsS94.ge HI480.out) | refine bSt ?_ GE475.out | refine bSt ?_ GE476.out | refine bSt ?_ GE486.out) | exact HB.out)); rintro e w15 ⟨rfl, hi, hb, hk⟩; refine ⟨_, rfl, ?_⟩; replace BK475 := aK (KeepBut.blk hk (g' := gb475) (o := .cells #[.int .i64 0, .int .i64 0, .int .i64 0] 30 (0, 0)) (by (with_reducible repeat (first | refine kDN ?_ _ | refine kD ?_ | refine blk_alloc ?_ _)); refine blk_far ?_ NB475_486.out _; (with_reducible repeat (first | refine kDN ?_ _ | refine kD ?_ | refine blk_alloc ?_ _)); refine blk_far ?_ NB475_486.out _; (with_reducible repeat (first | refine kDN ?_ _ | refine kD ?_ | refine blk_alloc ?_ _)); refine blk_far ?_ NB475_486.out _; (with_reducible repeat (first | refine kDN ?_ _ | refine kD ?_ | refine blk_alloc ?_ _)); exact BK475.out) NB475_480.out (by simp)); replace BK476 := aK (KeepBut.blk hk (g' := gb476) (o := .cells #[.int .i64 0, .int .i64 0] 43 (0, 0)) (by (with_reducible repeat (first | refine kDN ?_ _ | refine kD ?_ | refine blk_alloc ?_ _)); refine blk_far ?_ NB476_486.out _; (with_reducible repeat (first | refine kDN ?_ _ | refine kD ?_ | refine blk_alloc ?_ _)); refine blk_far ?_ NB476_486.out _; (with_reducible repeat (first | refine kDN ?_ _ | refine kD ?_ | refine blk_alloc ?_ _)); refine blk_far ?_ NB476_486.out _; (with_reducible repeat (first | refine kDN ?_ _ | refine kD ?_ | refine blk_alloc ?_ _)); exact BK476.out) NB476_480.out (by simp)); replace BK486 := aK (KeepBut.blk hk (g' := gb486) (o := .cells #[.int .i64 t481, .int .i64 t482, .int .i64 t483] 30 (0, 0)) (by (with_reducible repeat (first | refine kDN ?_ _ | refine kD ?_ | refine blk_alloc ?_ _)); refine blk_put (cs := #[.int .i64 t481, .int .i64 t482, .int .i64 0]) ?_ 2 _ rfl; (with_reducible repeat (first | refine kDN ?_ _ | refine kD ?_ | refine blk_alloc ?_ _)); refine blk_put (cs := #[.int .i64 t481, .int .i64 0, .int .i64 0]) ?_ 1 _ rfl; (with_reducible repeat (first | refine kDN ?_ _ | refine kD ?_ | refine blk_alloc ?_ _)); refine blk_put (cs := #[.int .i64 0, .int .i64 0, .int .i64 0]) ?_ 0 _ rfl; (with_reducible repeat (first | refine kDN ?_ _ | refine kD ?_ | refine blk_alloc ?_ _)); exact BK486.out) NB486_480.out (by simp)); replace HB := aK (hb); replace HI480 := aK (hi); (try clear hb); (try clear hb2); (try clear hk); (try clear hi)) | ((with_reducible refine gate_dst (N := 7) rfl ?_); refine box_event ?hg (N := 7) ?hd (cs := #[.int .i64 0, .int .i64 0]) (t := 43) ?hr ?_; (case hd => rfl); (case hg => rfl); (case hr => first | (go_simp; done) | (go_simp; rfl)); intro gb491 hg w16 hbox hb; have BK491 := aK (hbox); have GW491 := aK ((by rw [hg]; exact (bSz (by repeat (first | (with_reducible first | exact HB.out | apply bAl | apply bDN | apply bD1 | refine bSt ?_ (IsS94.ge HI480.out) | refine bSt ?_ GE475.out | refine bSt ?_ GE476.out | refine bSt ?_ GE486.out) | exact HB.out))) : w.heap.size ≤ gb491)); replace HB := aK (bSp (by repeat (first | (with_reducible first | exact HB.out | apply bAl | apply bDN | apply bD1 | refine bSt ?_ (IsS94.ge HI480.out) | refine bSt ?_ GE475.out | refine bSt ?_ GE476.out | refine bSt ?_ GE486.out) | exact HB.out)) hb); have GE491 := GW491; have NB475_491 := nbl BK475 hg (by intro z_; (with_reducible repeat (first | refine kDN ?_ _ | refine kD ?_ | refine blk_alloc ?_ _)); exact z_); replace BK475 := zB BK475 hb; have NB491_475 := nbs NB475_491; have NB476_491 := nbl BK476 hg (by intro z_; (with_reducible repeat (first | refine kDN ?_ _ | refine kD ?_ | refine blk_alloc ?_ _)); exact z_); replace BK476 := zB BK476 hb; have NB491_476 := nbs NB476_491; have NB486_491 := nbl BK486 hg (by intro z_; (with_reducible repeat (first | refine kDN ?_ _ | refine kD ?_ | refine blk_alloc ?_ _)); exact z_); replace BK486 := zB BK486 hb; have NB491_486 := nbs NB486_491; have NB480_491 := aK ((by rw [hg]; exact Nat.ne_of_lt (IsS94.lt (show IsS94 w _ g480 t477 t489 t490 from by repeat (first | (with_reducible first | exact HI480.out | apply IsS94.alloc | apply IsS94.drewN | apply IsS94.drew | apply IsS94.set_1 | apply IsS94.set_2 | refine IsS94.far ?_ NB480_475.out _ | refine IsS94.far ?_ NB480_476.out _ | refine IsS94.far ?_ NB480_486.out _) | exact HI480.out))) : g480 ≠ gb491)); have NB491_480 := aK ((by rw [hg]; exact Nat.ne_of_gt (IsS94.lt (show IsS94 w _ g480 t477 t489 t490 from by repeat (first | (with_reducible first | exact HI480.out | apply IsS94.alloc | apply IsS94.drewN | apply IsS94.drew | apply IsS94.set_1 | apply IsS94.set_2 | refine IsS94.far ?_ NB480_475.out _ | refine IsS94.far ?_ NB480_476.out _ | refine IsS94.far ?_ NB480_486.out _) | exact HI480.out))) : gb491 ≠ g480)); replace HI480 := aK (IsS94.below (by repeat (first | (with_reducible first | exact HI480.out | apply IsS94.alloc | apply IsS94.drewN | apply IsS94.drew | apply IsS94.set_1 | apply IsS94.set_2 | refine IsS94.far ?_ NB480_475.out _ | refine IsS94.far ?_ NB480_476.out _ | refine IsS94.far ?_ NB480_486.out _) | exact HI480.out)) hb); clear hb hbox hg; have hnb17 := NB491_475.out; have hnc17 := NB475_491.out; have hnb18 := NB491_476.out; have hnc18 := NB476_491.out; have hnb19 := NB491_486.out; have hnc19 := NB486_491.out; have hnb20 := NB491_480.out; have hnc20 := NB480_491.out; obtain ⟨hcz21_0, hcz21_1, hfz21_0, hfz21_1⟩ := cl2 BK491.out))
 have n0_ : Aside0 (((w16.setCell ⟨gb491, 0, none⟩ (.int .i64 t487)).setCell ⟨gb491, 1, none⟩ (.int .i64 t488)).heap[gb475]? = some (.cells #[.int .i64 0, .int .i64 0, .int .i64 0] 30 (0, 0))) := ⟨by (with_reducible repeat (first | refine kDN ?_ _ | refine kD ?_ | refine blk_alloc ?_ _)); refine blk_far ?_ NB475_491.out _; (with_reducible repeat (first | refine kDN ?_ _ | refine kD ?_ | refine blk_alloc ?_ _)); refine blk_far ?_ NB475_491.out _; (with_reducible repeat (first | refine kDN ?_ _ | refine kD ?_ | refine blk_alloc ?_ _)); exact BK475.out⟩
 have n1_ : Aside0 (((w16.setCell ⟨gb491, 0, none⟩ (.int .i64 t487)).setCell ⟨gb491, 1, none⟩ (.int .i64 t488)).heap[gb476]? = some (.cells #[.int .i64 0, .int .i64 0] 43 (0, 0))) := ⟨by (with_reducible repeat (first | refine kDN ?_ _ | refine kD ?_ | refine blk_alloc ?_ _)); refine blk_far ?_ NB476_491.out _; (with_reducible repeat (first | refine kDN ?_ _ | refine kD ?_ | refine blk_alloc ?_ _)); refine blk_far ?_ NB476_491.out _; (with_reducible repeat (first | refine kDN ?_ _ | refine kD ?_ | refine blk_alloc ?_ _)); exact BK476.out⟩
 have n2_ : Aside0 (((w16.setCell ⟨gb491, 0, none⟩ (.int .i64 t487)).setCell ⟨gb491, 1, none⟩ (.int .i64 t488)).heap[gb486]? = some (.cells #[.int .i64 t481, .int .i64 t482, .int .i64 t483] 30 (0, 0))) := ⟨by (with_reducible repeat (first | refine kDN ?_ _ | refine kD ?_ | refine blk_alloc ?_ _)); refine blk_far ?_ NB486_491.out _; (with_reducible repeat (first | refine kDN ?_ _ | refine kD ?_ | refine blk_alloc ?_ _)); refine blk_far ?_ NB486_491.out _; (with_reducible repeat (first | refine kDN ?_ _ | refine kD ?_ | refine blk_alloc ?_ _)); exact BK486.out⟩
 have n3_ := zP2 BK491 (.int .i64 t487) (.int .i64 t488)
 have n4_ : Aside0 (IsS94 w ((w16.setCell ⟨gb491, 0, none⟩ (.int .i64 t487)).setCell ⟨gb491, 1, none⟩ (.int .i64 t488)) g480 t477 t489 t490) := ⟨by repeat (first | (with_reducible first | exact HI480.out | apply IsS94.alloc | apply IsS94.drewN | apply IsS94.drew | apply IsS94.set_1 | apply IsS94.set_2 | refine IsS94.far ?_ NB480_475.out _ | refine IsS94.far ?_ NB480_476.out _ | refine IsS94.far ?_ NB480_486.out _ | refine IsS94.far ?_ NB480_491.out _) | exact HI480.out)⟩
 have n5_ : Aside0 (Below w.heap.size w ((w16.setCell ⟨gb491, 0, none⟩ (.int .i64 t487)).setCell ⟨gb491, 1, none⟩ (.int .i64 t488))) := ⟨by repeat (first | (with_reducible first | exact HB.out | apply bAl | apply bDN | apply bD1 | refine bSt ?_ (IsS94.ge HI480.out) | refine bSt ?_ GE475.out | refine bSt ?_ GE476.out | refine bSt ?_ GE486.out | refine bSt ?_ GE491.out) | exact HB.out)⟩
 (try clear BK475)
 (try clear BK476)
 (try clear BK486)
 (try clear BK491)
 (try clear HI480)
 (try clear HB)
 generalize ((w16.setCell ⟨gb491, 0, none⟩ (.int .i64 t487)).setCell ⟨gb491, 1, none⟩ (.int .i64 t488)) = w22 at n0_ n1_ n2_ n3_ n4_ n5_ ⊢
 have BK475 := n0_
 have BK476 := n1_
 have BK486 := n2_
 have BK491 := n3_
 have HI480 := n4_
 have HB := n5_
 clear n0_ n1_ n2_ n3_ n4_ n5_
 have n0_ := aK (kD BK475.out)
 have n1_ := aK (kD BK476.out)
 have n2_ := aK (kD BK486.out)
 have n3_ := aK (kD BK491.out)
 have n4_ := aK (IsS94.drew HI480.out)
 have n5_ := aK (bD1 HB.out)
 clear BK475
 clear BK476
 clear BK486
 clear BK491
 clear HI480
 clear HB
 have BK475 := n0_
 have BK476 := n1_
 have BK486 := n2_
 have BK491 := n3_
 have HI480 := n4_
 have HB := n5_
 clear n0_ n1_ n2_ n3_ n4_ n5_
 refine start_ (n := 9) (S := fun w' => w'.cell? ⟨gb486, 0, none⟩ = some (.int .i64 t481) ∧ w'.cell? ⟨gb486, 1, none⟩ = some (.int .i64 t482) ∧ w'.cell? ⟨gb486, 2, none⟩ = some (.int .i64 t483) ∧ w'.cell? ⟨gb491, 0, none⟩ = some (.int .i64 t487) ∧ w'.cell? ⟨gb491, 1, none⟩ = some (.int .i64 t488)) (ds := []) #[bN,bN,bN,bN,bN,bN,bN,bN,bN] (by kernel_rfl) rfl rfl ⟨zQ BK486 0, zQ BK486 1, zQ BK486 2, zQ BK491 0, zQ BK491 1⟩ (fun hHeld => ?_); refine with_tabW spec_DrawReport.tab4 spec_DrawReport.bits4 (fun HT_ HW_ => ?_)
 generalize w22.drew = w23 at BK475 BK476 BK486 BK491 HI480 HB hHeld ⊢
 refine pure_ (i := 2) (N := some 17) (v := ?_) (a' := ?_) #[bN,bN,bY,bN,bN,bN,bN,bN,bN] rfl rfl (any_of HT_.out (by kernel_rfl)) (fun _ _ _ h => h) (Or.inl ⟨by rfl, ?_⟩) ?_ ?_
 rotate_left
 ·intro w'
  go_simp
  with_reducible rfl
 rotate_left
 ·simp only [Act.put, sTA, sZ, sS, i64_w, i32_w]
  rfl
 refine take_ (i := 0) (N := some 15) (v := ?_) (a' := ?_) #[bY,bN,bY,bN,bN,bN,bN,bN,bN] rfl rfl (take_ofW HT_.out HW_.out (by kernel_rfl)) (fun _ _ _ h => h) (Or.inl ⟨by rfl, ?_⟩) hHeld ?_ ?_
 rotate_left
 ·rintro w' ⟨s0, s1, s2, s3, s4⟩
  go_simp
  with_reducible rfl
 rotate_left
 ·simp only [Act.put, sTA, sZ, sS, i64_w, i32_w]
  rfl
 refine take_ (i := 1) (N := some 16) (v := ?_) (a' := ?_) #[bY,bY,bY,bN,bN,bN,bN,bN,bN] rfl rfl (take_ofW HT_.out HW_.out (by kernel_rfl)) (fun _ _ _ h => h) (Or.inl ⟨by rfl, ?_⟩) hHeld ?_ ?_
 rotate_left
 ·rintro w' ⟨s0, s1, s2, s3, s4⟩
  go_simp
  with_reducible rfl
 rotate_left
 ·simp only [Act.put, sTA, sZ, sS, i64_w, i32_w]
  rfl
 refine take_ (i := 3) (N := some 18) (v := ?_) (a' := ?_) #[bY,bY,bY,bY,bN,bN,bN,bN,bN] rfl rfl (take_ofW HT_.out HW_.out (by kernel_rfl)) (fun _ _ _ h => h) (Or.inl ⟨by rfl, ?_⟩) hHeld ?_ ?_
 rotate_left
 ·rintro w' ⟨s0, s1, s2, s3, s4⟩
  go_simp
  with_reducible rfl
 rotate_left
 ·simp only [Act.put, sTA, sZ, sS, i64_w, i32_w]
  rfl
 refine take_ (i := 4) (N := some 19) (v := ?_) (a' := ?_) #[bY,bY,bY,bY,bY,bN,bN,bN,bN] rfl rfl (take_ofW HT_.out HW_.out (by kernel_rfl)) (fun _ _ _ h => h) (Or.inl ⟨by rfl, ?_⟩) hHeld ?_ ?_
 rotate_left
 ·rintro w' ⟨s0, s1, s2, s3, s4⟩
  go_simp
  with_reducible rfl
 rotate_left
 ·simp only [Act.put, sTA, sZ, sS, i64_w, i32_w]
  rfl
 refine one_ (i := 5) (N := some 20) #[bY,bY,bY,bY,bY,bY,bN,bN,bN] rfl rfl (one_of HT_.out (by kernel_rfl)) (by decide) (fun K hK => ?_)
 refine goes_ Try.func49 (by kernel_rfl) rfl #[.pointer (some ⟨g480, 0, none⟩), .agg #[.int .i64 t481, .int .i64 t482, .int .i64 t483], .agg #[.int .i64 t487, .int .i64 t488]] (by rfl) rfl rfl zD ?_
 with_reducible refine (spec_l33Walk.calls k g480 t477 t489 t490 t481 t482 t483 t487 t488 t492 t495 t496 w _ ?side1 ?side2 A5.out).mono ?_
 (case side1 => repeat (first | (with_reducible first | exact HI480.out | apply IsS94.alloc | apply IsS94.drewN | apply IsS94.drew | apply IsS94.set_1 | apply IsS94.set_2 | refine IsS94.far ?_ NB480_475.out _ | refine IsS94.far ?_ NB480_476.out _ | refine IsS94.far ?_ NB480_486.out _ | refine IsS94.far ?_ NB480_491.out _) | exact HI480.out))
 (case side2 => repeat (first | (with_reducible first | exact HB.out | apply bAl | apply bDN | apply bD1 | refine bSt ?_ (IsS94.ge HI480.out) | refine bSt ?_ GE475.out | refine bSt ?_ GE476.out | refine bSt ?_ GE486.out | refine bSt ?_ GE491.out) | exact HB.out))
 rintro e w24 ⟨v493, rfl, ho0, hi, hb, hk⟩
 refine ⟨_, rfl, ?_⟩
 have n0_ := aK (KeepBut.blk hk (g' := gb475) (o := .cells #[.int .i64 0, .int .i64 0, .int .i64 0] 30 (0, 0)) (zK BK475) NB475_480.out (by simp))
 have n1_ := aK (KeepBut.blk hk (g' := gb476) (o := .cells #[.int .i64 0, .int .i64 0] 43 (0, 0)) (zK BK476) NB476_480.out (by simp))
 have n2_ := aK (KeepBut.blk hk (g' := gb486) (o := .cells #[.int .i64 t481, .int .i64 t482, .int .i64 t483] 30 (0, 0)) (zK BK486) NB486_480.out (by simp))
 have n3_ := aK (KeepBut.blk hk (g' := gb491) (o := .cells #[.int .i64 t487, .int .i64 t488] 43 (0, 0)) (zK BK491) NB491_480.out (by simp))
 have n4_ := aK (Kd.R_lower ho0 (bSz (by repeat (first | (with_reducible first | exact HB.out | apply bAl | apply bDN | apply bD1 | refine bSt ?_ (IsS94.ge HI480.out) | refine bSt ?_ GE475.out | refine bSt ?_ GE476.out | refine bSt ?_ GE486.out | refine bSt ?_ GE491.out) | exact HB.out))))
 have n5_ := aK (hb)
 have n6_ := aK (hi)
 clear BK475
 clear BK476
 clear BK486
 clear BK491
 clear HB
 clear HI480
 have BK475 := n0_
 have BK476 := n1_
 have BK486 := n2_
 have BK491 := n3_
 have HO494 := n4_
 have HB := n5_
 have HI480 := n6_
 clear n0_ n1_ n2_ n3_ n4_ n5_ n6_
 (try clear hb)
 (try clear hb2)
 (try clear hk)
 (try clear hi)
 (try clear ho0)
 refine hK.out _ _ ⟨zQ BK486 0, zQ BK486 1, zQ BK486 2, zQ BK491 0, zQ BK491 1⟩ (fun hHeld => ?_)
 clear hK K
 refine norm_ (a' := ?_) ?_ ?_
 rotate_left
 ·show Act.put _ (some 20) _ = _
  simp only [Act.put, sTA, sZ, sS, i64_w, i32_w]
  rfl
 refine one_ (i := 6) (N := none) #[bY,bY,bY,bY,bY,bY,bY,bN,bN] rfl rfl (one_of HT_.out (by kernel_rfl)) (by decide) (fun K hK => ?_)
 have hs25 : w24.cell? ⟨gb475, 0, none⟩ = some (.int .i64 0) := (kC BK475.out 0).trans rfl
 have hfs25 := kF BK475.out 0
 have hns25_1 := NB476_475.out
 have hns25_2 := NB486_475.out
 have hns25_3 := NB491_475.out
 have hms25_1 := NB475_476.out
 have hms25_2 := NB475_486.out
 have hms25_3 := NB475_491.out
 have hs26 : w24.cell? ⟨gb475, 1, none⟩ = some (.int .i64 0) := (kC BK475.out 1).trans rfl
 have hfs26 := kF BK475.out 1
 have hns26_1 := NB476_475.out
 have hns26_2 := NB486_475.out
 have hns26_3 := NB491_475.out
 have hms26_1 := NB475_476.out
 have hms26_2 := NB475_486.out
 have hms26_3 := NB475_491.out
 have hs27 : w24.cell? ⟨gb475, 2, none⟩ = some (.int .i64 0) := (kC BK475.out 2).trans rfl
 have hfs27 := kF BK475.out 2
 have hns27_1 := NB476_475.out
 have hns27_2 := NB486_475.out
 have hns27_3 := NB491_475.out
 have hms27_1 := NB475_476.out
 have hms27_2 := NB475_486.out
 have hms27_3 := NB475_491.out
 refine skip_ (w1 := ?_) (by rfl) rfl ?_ ?_
 rotate_left
 ·go_simp
  rfl
 refine hK.out _ _ ⟨((cell_far (p := ⟨gb475, _, none⟩) NB486_475.out _).trans (((cell_far (p := ⟨gb475, _, none⟩) NB486_475.out _).trans (((cell_far (p := ⟨gb475, _, none⟩) NB486_475.out _).trans (hHeld.1)))))), ((cell_far (p := ⟨gb475, _, none⟩) NB486_475.out _).trans (((cell_far (p := ⟨gb475, _, none⟩) NB486_475.out _).trans (((cell_far (p := ⟨gb475, _, none⟩) NB486_475.out _).trans (hHeld.2.1)))))), ((cell_far (p := ⟨gb475, _, none⟩) NB486_475.out _).trans (((cell_far (p := ⟨gb475, _, none⟩) NB486_475.out _).trans (((cell_far (p := ⟨gb475, _, none⟩) NB486_475.out _).trans (hHeld.2.2.1)))))), ((cell_far (p := ⟨gb475, _, none⟩) NB491_475.out _).trans (((cell_far (p := ⟨gb475, _, none⟩) NB491_475.out _).trans (((cell_far (p := ⟨gb475, _, none⟩) NB491_475.out _).trans (hHeld.2.2.2.1)))))), ((cell_far (p := ⟨gb475, _, none⟩) NB491_475.out _).trans (((cell_far (p := ⟨gb475, _, none⟩) NB491_475.out _).trans (((cell_far (p := ⟨gb475, _, none⟩) NB491_475.out _).trans (hHeld.2.2.2.2))))))⟩ (fun hHeld => ?_)
 clear hK K
 refine one_ (i := 7) (N := none) #[bY,bY,bY,bY,bY,bY,bY,bY,bN] rfl rfl (one_of HT_.out (by kernel_rfl)) (by decide) (fun K hK => ?_)
 have hs28 : w24.cell? ⟨gb476, 0, none⟩ = some (.int .i64 0) := (kC BK476.out 0).trans rfl
 have hfs28 := kF BK476.out 0
 have hns28_0 := NB475_476.out
 have hns28_2 := NB486_476.out
 have hns28_3 := NB491_476.out
 have hms28_0 := NB476_475.out
 have hms28_2 := NB476_486.out
 have hms28_3 := NB476_491.out
 have hs29 : w24.cell? ⟨gb476, 1, none⟩ = some (.int .i64 0) := (kC BK476.out 1).trans rfl
 have hfs29 := kF BK476.out 1
 have hns29_0 := NB475_476.out
 have hns29_2 := NB486_476.out
 have hns29_3 := NB491_476.out
 have hms29_0 := NB476_475.out
 have hms29_2 := NB476_486.out
 have hms29_3 := NB476_491.out
 refine skip_ (w1 := ?_) (by rfl) rfl ?_ ?_
 rotate_left
 ·go_simp
  rfl
 refine hK.out _ _ ⟨((cell_far (p := ⟨gb476, _, none⟩) NB486_476.out _).trans (((cell_far (p := ⟨gb476, _, none⟩) NB486_476.out _).trans (hHeld.1)))), ((cell_far (p := ⟨gb476, _, none⟩) NB486_476.out _).trans (((cell_far (p := ⟨gb476, _, none⟩) NB486_476.out _).trans (hHeld.2.1)))), ((cell_far (p := ⟨gb476, _, none⟩) NB486_476.out _).trans (((cell_far (p := ⟨gb476, _, none⟩) NB486_476.out _).trans (hHeld.2.2.1)))), ((cell_far (p := ⟨gb476, _, none⟩) NB491_476.out _).trans (((cell_far (p := ⟨gb476, _, none⟩) NB491_476.out _).trans (hHeld.2.2.2.1)))), ((cell_far (p := ⟨gb476, _, none⟩) NB491_476.out _).trans (((cell_far (p := ⟨gb476, _, none⟩) NB491_476.out _).trans (hHeld.2.2.2.2))))⟩ (fun hHeld => ?_)
 clear hK K
 refine pure_ (i := 8) (N := some 4) (v := ?_) (a' := ?_) #[bY,bY,bY,bY,bY,bY,bY,bY,bY] rfl rfl (any_of HT_.out (by kernel_rfl)) (fun _ _ _ h => h) (Or.inl ⟨by rfl, ?_⟩) ?_ ?_
 rotate_left
 ·intro w'
  go_simp
  with_reducible rfl
 rotate_left
 ·simp only [Act.put, sTA, sZ, sS, i64_w, i32_w]
  rfl
 refine done_ (done_of HT_.out (by kernel_rfl)) ?_
 try go_wp2
 refine bodyPost_ret (results_list (rs := [.cell 2 30, .cell 3 43, .tmp 4]) rfl (by simp) (.cell gb475 30 #[.int .i64 t481, .int .i64 t482, .int .i64 t483] (0, 0) _ rfl (by (with_reducible repeat (first | refine kDN ?_ _ | refine kD ?_ | refine blk_alloc ?_ _)); refine blk_far ?_ NB475_476.out _; (with_reducible repeat (first | refine kDN ?_ _ | refine kD ?_ | refine blk_alloc ?_ _)); refine blk_far ?_ NB475_476.out _; (with_reducible repeat (first | refine kDN ?_ _ | refine kD ?_ | refine blk_alloc ?_ _)); refine blk_put (cs := #[.int .i64 t481, .int .i64 t482, .int .i64 0]) ?_ 2 _ rfl; (with_reducible repeat (first | refine kDN ?_ _ | refine kD ?_ | refine blk_alloc ?_ _)); refine blk_put (cs := #[.int .i64 t481, .int .i64 0, .int .i64 0]) ?_ 1 _ rfl; (with_reducible repeat (first | refine kDN ?_ _ | refine kD ?_ | refine blk_alloc ?_ _)); refine blk_put (cs := #[.int .i64 0, .int .i64 0, .int .i64 0]) ?_ 0 _ rfl; (with_reducible repeat (first | refine kDN ?_ _ | refine kD ?_ | refine blk_alloc ?_ _)); exact BK475.out) Try.underlying30 rfl (by kernel_rfl) (.cell gb476 43 #[.int .i64 t487, .int .i64 t488] (0, 0) _ rfl (by (with_reducible repeat (first | refine kDN ?_ _ | refine kD ?_ | refine blk_alloc ?_ _)); refine blk_put (cs := #[.int .i64 t487, .int .i64 0]) ?_ 1 _ rfl; (with_reducible repeat (first | refine kDN ?_ _ | refine kD ?_ | refine blk_alloc ?_ _)); refine blk_put (cs := #[.int .i64 0, .int .i64 0]) ?_ 0 _ rfl; (with_reducible repeat (first | refine kDN ?_ _ | refine kD ?_ | refine blk_alloc ?_ _)); refine blk_far ?_ NB476_475.out _; (with_reducible repeat (first | refine kDN ?_ _ | refine kD ?_ | refine blk_alloc ?_ _)); refine blk_far ?_ NB476_475.out _; (with_reducible repeat (first | refine kDN ?_ _ | refine kD ?_ | refine blk_alloc ?_ _)); refine blk_far ?_ NB476_475.out _; (with_reducible repeat (first | refine kDN ?_ _ | refine kD ?_ | refine blk_alloc ?_ _)); exact BK476.out) Try.underlying43 rfl (by kernel_rfl) (.tmp .nil)))) rfl ?_
 exact ⟨_, by first | rfl | (simp [errW_none, errW_some] <;> rfl) | (simp [*, errW_none, errW_some] <;> rfl), by (with_reducible repeat (first | apply Kd.R_alloc | apply Kd.R_drewN | apply Kd.R_drew)); exact Kd.R_mono (Kd.R_far (p := ⟨gb476, 1, none⟩) (Kd.R_far (p := ⟨gb476, 0, none⟩) (Kd.R_far (p := ⟨gb475, 2, none⟩) (Kd.R_far (p := ⟨gb475, 1, none⟩) (Kd.R_far (p := ⟨gb475, 0, none⟩) (Kd.R_types (Kd.R_types HO494.out BK475.out (by decide)) BK476.out (by decide)) (fun _ hk => hk.1.2) (.int .i64 t481)) (fun _ hk => hk.1.2) (.int .i64 t482)) (fun _ hk => hk.1.2) (.int .i64 t483)) (fun _ hk => hk.2) (.int .i64 t487)) (fun _ hk => hk.2) (.int .i64 t488)) (fun _ hk => trivial), by repeat (first | (with_reducible first | exact HB.out | apply bAl | apply bDN | apply bD1 | refine bSt ?_ (IsS94.ge HI480.out) | refine bSt ?_ GE475.out | refine bSt ?_ GE476.out | refine bSt ?_ GE486.out | refine bSt ?_ GE491.out) | exact HB.out)⟩
theorem spec_DrawReport.ctr {k : Nat} {l0 : List Int} {r1 : Int} {r2 : Int} {r3 : Int} {r4 : Int} {r5 : Int} {r6 : List Int} (h : spec_DrawReport.f k l0 = some (r1, r2, r3, r4, r5, r6)) : Ctr Try.prog 19 [.pr 1 (l0.map eU8)] (.tu [.ag [.v (.int .i64 r1), .v (.int .i64 r2), .v (.int .i64 r3)], .ag [.v (.int .i64 r4), .v (.int .i64 r5)], .ow 3 1 (r6.map eI)]) := by
  refine ⟨enters_of Try.func19 rfl rfl, fun w ys hys => ?_⟩
  simp only [RepL, Rep] at hys
  obtain ⟨_, _, rfl, q1, rfl⟩ := hys
  obtain ⟨_, _, rfl, hr1, hc1⟩ := C_of_at E_eU8 q1
  refine (spec_DrawReport.calls _ _ _ _ _ _ _ _ _ _ w hr1 hc1 h).mono ?_
  rintro _ w' ⟨v1, rfl, h1, hb⟩
  have o1 := row_of_R E_eI h1
  refine ⟨_, (bk v1).toList, rfl, ?_, by cases bk v1 <;> simp, (by first | exact hb | exact hb.below)⟩
  simp only [RepR, RepRL]
  exact ⟨_, rfl, _, _, [], (bk v1).toList, rfl, by simp, ⟨_, rfl, _, _, [], [], rfl, by simp, ⟨rfl, rfl⟩, _, _, [], [], rfl, by simp, ⟨rfl, rfl⟩, _, _, [], [], rfl, by simp, ⟨rfl, rfl⟩, rfl, rfl⟩, _, _, [], (bk v1).toList, rfl, by simp, ⟨_, rfl, _, _, [], [], rfl, by simp, ⟨rfl, rfl⟩, _, _, [], [], rfl, by simp, ⟨rfl, rfl⟩, rfl, rfl⟩, _, _, (bk v1).toList, [], rfl, by simp, ⟨o1, E_eI.row _, E_eI.pos, rfl⟩, rfl, rfl⟩
end Go.Proofs.Ytccjanhdnheclaa.F
end

section
namespace Go.Proofs.Ytccjanhdnheclaa.F
open Go.RowKit Go.Proofs.YtccjanhdnheclaaW.PrintWords Go.Proofs.YtccjanhdnheclaaW.PrintLast Go.Proofs.YtccjanhdnheclaaW.PrintMore
set_option linter.unusedVariables false
set_option linter.unusedSimpArgs false
attribute [local go_sem] max2_int min2_int max_two min_two
set_option maxRecDepth 20000
set_option maxHeartbeats 4000000
open Nat renaming reduceAdd → p1, reduceSub → p2, reduceMul → p3, reduceDiv → p4, reduceBNe → p5, reduceBEq → p6, reduceEqDiff → p7, reduceLeDiff → p8, reduceLT → p9
open Int renaming reduceLE → p10, reduceLT → p11, reduceEq → p12
theorem impl_ReportOf.ctr {k : Nat} {a0_0 : Int} {a0_1 : Int} {a0_2 : Int} {a1_0 : Int} {a1_1 : Int} {l2 : List Int} {r1 : List Int} {r2 : Bool} (h : impl_ReportOf.f k a0_0 a0_1 a0_2 a1_0 a1_1 l2 = some (r1, r2)) : Ctr Try.prog 20 [.ag [.v (.int .i64 a0_0), .v (.int .i64 a0_1), .v (.int .i64 a0_2)], .ag [.v (.int .i64 a1_0), .v (.int .i64 a1_1)], .pr 1 (l2.map eI)] (.tu [.ow 3 1 (r1.map eI), .v (.bool r2)]) := by
  refine Ctr_of tyOk hm Try.func20 rfl rfl (by kernel_rfl) (n := 47) (rv := [.tmp 6, .tmp 7]) rfl rfl ?_
  simp only [W, List.replicate]
  unfold impl_ReportOf.f at h
  replace h := bnd h; obtain ⟨t1, A, h⟩ := h
  try simp only [W, p1, p2, p3, p4, p5, p6, p7, p8, p9, p10, p11, p12]
  refine callR (impl_WalkerOk.ctr A) ?_
  replace h := ifT h; rcases h with ⟨rfl, h⟩ | ⟨rfl, h⟩
  · replace h := bnd h; obtain ⟨t3, A, h⟩ := h
    try simp only [W, p1, p2, p3, p4, p5, p6, p7, p8, p9, p10, p11, p12]
    refine callR (impl_areTurns.ctr A) ?_
    rcases k with _ | m4; · cases h
    rw [impl_ReportOf.j0] at h
    replace h := ifT h; rcases h with ⟨c5, h⟩ | ⟨c5, h⟩
    · cases h
      try simp only [W, c5, p1, p2, p3, p4, p5, p6, p7, p8, p9, p10, p11, p12]
    · replace h := bnd h; obtain ⟨t6, A, h⟩ := h
      try simp only [W, c5, p1, p2, p3, p4, p5, p6, p7, p8, p9, p10, p11, p12]
      refine callR (impl_PatternAt.ctr A) ?_
      try simp only [W, c5, p1, p2, p3, p4, p5, p6, p7, p8, p9, p10, p11, p12]
      refine loopN (fun x : List Int × List Int × Int × Int × Int × Int × Int × Int × Int => [.u, .u, .u, .bp 48 0, .bp 64 0, .u, .u, .u, .lo 400, .u, .u, .u, .u, .u, .u, .u, .u, .u, .u, .u, .u, .u, .u, .u, .u, .u, .pr 1 (List.map eI x.2.1), .v (.int .i64 x.2.2.1), .v (.int .i64 x.2.2.2.1), .u, .u, .u, .u, .u, .u, .u, .u, .u, .u, .u, .u, .u, .u, .u, .u, .u, .u, .u, .u, .u]) (fun x => [(48, .box 30 [.v (.int .i64 x.2.2.2.2.1), .v (.int .i64 x.2.2.2.2.2.1), .v (.int .i64 x.2.2.2.2.2.2.1)]), (64, .box 43 [.v (.int .i64 x.2.2.2.2.2.2.2.1), .v (.int .i64 x.2.2.2.2.2.2.2.2)]), (400, .row 3 1 (List.map eI x.1))]) (fun n x => impl_ReportOf.l0 n x.1 x.2.1 x.2.2.1 x.2.2.2.1 x.2.2.2.2.1 x.2.2.2.2.2.1 x.2.2.2.2.2.2.1 x.2.2.2.2.2.2.2.1 x.2.2.2.2.2.2.2.2 = some (r1, r2)) ((([t6] : List Int)), l2, (l2.length : Int), 0, a0_0, a0_1, a0_2, a1_0, a1_1) [] h (by simp only [W, p1, p2, p3, p4, p5, p6, p7, p8, p9, p10, p11, p12] <;> trivial) (by simp only [W, p1, p2, p3, p4, p5, p6, p7, p8, p9, p10, p11, p12] <;> trivial) rfl (fun _ h => by cases h) ?_
      intro n1 ⟨x7, x8, x9, x10, x11, x12, x13, x14, x15⟩ _ h
      simp only [impl_ReportOf.l0] at h
      replace h := ifS h; rcases h with ⟨c16, h⟩ | ⟨c16, h⟩
      · replace h := ifN h; obtain ⟨c17, h⟩ := h
        replace h := ifN h; obtain ⟨c18, h⟩ := h
        replace h := bnd h; obtain ⟨⟨t19_1, t19_2, t19_3⟩, A, h⟩ := h
        dsimp only at h
        try simp only [W, c16, c17, c18, p1, p2, p3, p4, p5, p6, p7, p8, p9, p10, p11, p12]
        refine callR (impl_went.ctr A) ?_
        replace h := ifT h; rcases h with ⟨rfl, h⟩ | ⟨rfl, h⟩
        · replace h := bnd h; obtain ⟨t21, A, h⟩ := h
          try simp only [W, c16, c17, c18, p1, p2, p3, p4, p5, p6, p7, p8, p9, p10, p11, p12]
          refine callR (impl_PatternAt.ctr A) ?_
          replace h := ifN h; obtain ⟨c22, h⟩ := h
          try simp only [W, c16, c17, c18, c22, p1, p2, p3, p4, p5, p6, p7, p8, p9, p10, p11, p12]
          exact nextN ((x7 ++ [t21]), x8, x9, (wrap64 (x10 + 1)), x11, x12, x13, t19_1, t19_2) [(400, 752)] n1 (by omega) h (by simp only [W, p1, p2, p3, p4, p5, p6, p7, p8, p9, p10, p11, p12] <;> trivial) (by simp only [W, p1, p2, p3, p4, p5, p6, p7, p8, p9, p10, p11, p12] <;> trivial) rfl
        · cases h
          try simp only [W, c16, c17, c18, p1, p2, p3, p4, p5, p6, p7, p8, p9, p10, p11, p12]
      · cases h
        try simp only [W, c16, p1, p2, p3, p4, p5, p6, p7, p8, p9, p10, p11, p12]
  · rcases k with _ | m3; · cases h
    rw [impl_ReportOf.j0] at h
    rw [if_pos rfl] at h
    cases h
    try simp only [W, p1, p2, p3, p4, p5, p6, p7, p8, p9, p10, p11, p12]
theorem laws_at.ctr {l0 : List Int} {a1 : Int} {r : Int} (h : laws_at.f l0 a1 = some r) : Ctr Try.prog 23 [.pr 1 (l0.map eU8), .v (.int .i64 a1)] (.v (.int .i64 r)) := by
  refine Ctr_of tyOk hm Try.func23 rfl rfl (by kernel_rfl) (n := 16) (rv := [.tmp 4]) rfl rfl ?_
  simp only [W, List.replicate]
  unfold laws_at.f at h
  replace h := ifS h; rcases h with ⟨c1, h⟩ | ⟨c1, h⟩
  · cases h
    try simp only [W, eq_true c1, p1, p2, p3, p4, p5, p6, p7, p8, p9, p10, p11, p12]
  · replace h := ifN h; obtain ⟨c2, h⟩ := h
    replace h := ifN h; obtain ⟨c3, h⟩ := h
    cases h
    try simp only [W, c1, c2, c3, p1, p2, p3, p4, p5, p6, p7, p8, p9, p10, p11, p12]
end Go.Proofs.Ytccjanhdnheclaa.F
end

section
namespace Go.Proofs.Ytccjanhdnheclaa.F
open Go.RowKit Go.Proofs.YtccjanhdnheclaaW.PrintWords Go.Proofs.YtccjanhdnheclaaW.PrintLast Go.Proofs.YtccjanhdnheclaaW.PrintMore
set_option linter.unusedVariables false
set_option linter.unusedSimpArgs false
attribute [local go_sem] max2_int min2_int max_two min_two
set_option maxHeartbeats 8000000 in
set_option maxRecDepth 100000 in
theorem impl_alike.calls (k : Nat) : ∀ (a0_0 : Int) (a0_1 : Int) (a0_2 : Int) (a1_0 : Int) (a1_1 : Int) (a2_0 : Int) (a2_1 : Int) (a3 : Int) (r : Bool) (w : World) (h : impl_alike.f k a0_0 a0_1 a0_2 a1_0 a1_1 a2_0 a2_1 a3 = some r),
  Calls Try.prog 55 #[.agg #[.int .i64 a0_0, .int .i64 a0_1, .int .i64 a0_2], .agg #[.int .i64 a1_0, .int .i64 a1_1], .agg #[.int .i64 a2_0, .int .i64 a2_1], .int .i64 a3] w fun e w' => e = .returned (.bool r) ∧ Below w.heap.size w w' := by
 induction k using Nat.strongRecOn with
 | _ k ih =>
 intro a0_0 a0_1 a0_2 a1_0 a1_1 a2_0 a2_1 a3 r w h
 cases k with
 | zero => exact absurd h (by simp [impl_alike.f])
 | succ k =>
 simp only [impl_alike.f] at h
 have hu30 := Try.underlying30
 have hu43 := Try.underlying43
 have HB := aK (Below.refl w.heap.size w)
 have H : ((impl_PatternAt.f k a0_0 a0_1 a0_2 a1_0 a1_1).bind fun t518 => ((impl_PatternAt.f k a0_0 a0_1 a0_2 a2_0 a2_1).bind fun t519 => (if t518 = t519 then (impl_alike.l0 k a3 0 a0_0 a0_1 a0_2 a1_0 a1_1 a2_0 a2_1) else (some false)))) = some r := h
 clear h
 replace H := Option.bind_eq_some_iff.mp H
 obtain ⟨t518, A50, H⟩ := H
 replace H : ((impl_PatternAt.f k a0_0 a0_1 a0_2 a2_0 a2_1).bind fun t519 => (if t518 = t519 then (impl_alike.l0 k a3 0 a0_0 a0_1 a0_2 a1_0 a1_1 a2_0 a2_1) else (some false))) = some r := H
 have A5 := aK A50
 clear A50
 replace H := Option.bind_eq_some_iff.mp H
 obtain ⟨t519, A60, H⟩ := H
 replace H : (if t518 = t519 then (impl_alike.l0 k a3 0 a0_0 a0_1 a0_2 a1_0 a1_1 a2_0 a2_1) else (some false)) = some r := H
 have A6 := aK A60
 clear A60
 by_cases c7 : t518 = t519
 ·rw [if_pos c7] at H
  have c7b0 : (t518 == t519) = true := beq_iff_eq.mpr c7
  have c7b1 : (t518 != t519) = false := bne_eq_false_iff_eq.mpr c7
  clear c7
  have H' := aK H
  clear H
  go_enter Try.func55, Try.ntmps55
  try go_wp2_with (first | ((with_reducible refine gate_dst (N := 4) rfl ?_); refine box_event ?hg (N := 4) ?hd (cs := #[.int .i64 a0_0, .int .i64 a0_1, .int .i64 a0_2]) (t := 30) ?hr ?_; (case hd => rfl); (case hg => rfl); (case hr => first | (go_simp; done) | (go_simp; rfl)); intro gb515 hg w8 hbox hb; have BK515 := aK (hbox); have GW515 := aK ((by rw [hg]; exact (bSz (zH0 HB)) : w.heap.size ≤ gb515)); replace HB := aK (bSp (zH0 HB) hb); have GE515 := GW515; clear hb hbox hg) | ((with_reducible refine gate_dst (N := 5) rfl ?_); refine box_event ?hg (N := 5) ?hd (cs := #[.int .i64 a1_0, .int .i64 a1_1]) (t := 43) ?hr ?_; (case hd => rfl); (case hg => rfl); (case hr => first | (go_simp; done) | (go_simp; rfl)); intro gb516 hg w9 hbox hb; have BK516 := aK (hbox); have GW516 := aK ((by rw [hg]; exact (bSz (zH1 HB GE515)) : w.heap.size ≤ gb516)); replace HB := aK (bSp (zH1 HB GE515) hb); have GE516 := GW516; have NB515_516 := nbl BK515 hg (by intro z_; (with_reducible repeat (first | refine kDN ?_ _ | refine kD ?_ | refine blk_alloc ?_ _)); exact z_); replace BK515 := zB BK515 hb; have NB516_515 := nbs NB515_516; clear hb hbox hg) | ((with_reducible refine gate_dst (N := 6) rfl ?_); refine box_event ?hg (N := 6) ?hd (cs := #[.int .i64 a2_0, .int .i64 a2_1]) (t := 43) ?hr ?_; (case hd => rfl); (case hg => rfl); (case hr => first | (go_simp; done) | (go_simp; rfl)); intro gb517 hg w10 hbox hb; have BK517 := aK (hbox); have GW517 := aK ((by rw [hg]; exact (bSz (zH2 HB GE515 GE516)) : w.heap.size ≤ gb517)); replace HB := aK (bSp (zH2 HB GE515 GE516) hb); have GE517 := GW517; have NB515_517 := nbl BK515 hg (by intro z_; (with_reducible repeat (first | refine kDN ?_ _ | refine kD ?_ | refine blk_alloc ?_ _)); exact z_); replace BK515 := zB BK515 hb; have NB517_515 := nbs NB515_517; have NB516_517 := nbl BK516 hg (by intro z_; (with_reducible repeat (first | refine kDN ?_ _ | refine kD ?_ | refine blk_alloc ?_ _)); exact z_); replace BK516 := zB BK516 hb; have NB517_516 := nbs NB516_517; clear hb hbox hg))
  have n0_ := aK (kD BK515.out)
  have n1_ := aK (kD BK516.out)
  have n2_ := aK (kD BK517.out)
  have n3_ := aK (bD1 HB.out)
  clear BK515
  clear BK516
  clear BK517
  clear HB
  have BK515 := n0_
  have BK516 := n1_
  have BK517 := n2_
  have HB := n3_
  clear n0_ n1_ n2_ n3_
  refine start_ (n := 7) (S := fun w' => w'.cell? ⟨gb515, 0, none⟩ = some (.int .i64 a0_0) ∧ w'.cell? ⟨gb515, 1, none⟩ = some (.int .i64 a0_1) ∧ w'.cell? ⟨gb515, 2, none⟩ = some (.int .i64 a0_2) ∧ w'.cell? ⟨gb516, 0, none⟩ = some (.int .i64 a1_0) ∧ w'.cell? ⟨gb516, 1, none⟩ = some (.int .i64 a1_1) ∧ w'.cell? ⟨gb517, 0, none⟩ = some (.int .i64 a2_0) ∧ w'.cell? ⟨gb517, 1, none⟩ = some (.int .i64 a2_1)) (ds := []) #[bN,bN,bN,bN,bN,bN,bN] (by kernel_rfl) rfl rfl ⟨zQ BK515 0, zQ BK515 1, zQ BK515 2, zQ BK516 0, zQ BK516 1, zQ BK517 0, zQ BK517 1⟩ (fun hHeld => ?_)
  generalize w10.drew = w11 at BK515 BK516 BK517 HB hHeld ⊢
  refine take_ (i := 0) (N := some 14) (v := ?_) (a' := ?_) #[bY,bN,bN,bN,bN,bN,bN] rfl rfl (by kernel_rfl) (fun _ _ _ h => h) (Or.inl ⟨by rfl, ?_⟩) hHeld ?_ ?_
  rotate_left
  ·rintro w' ⟨s0, s1, s2, s3, s4, s5, s6⟩
   go_simp
   with_reducible rfl
  rotate_left
  ·simp only [Act.put, sTA, sZ, sS, i64_w, i32_w]
   rfl
  refine take_ (i := 1) (N := some 15) (v := ?_) (a' := ?_) #[bY,bY,bN,bN,bN,bN,bN] rfl rfl (by kernel_rfl) (fun _ _ _ h => h) (Or.inl ⟨by rfl, ?_⟩) hHeld ?_ ?_
  rotate_left
  ·rintro w' ⟨s0, s1, s2, s3, s4, s5, s6⟩
   go_simp
   with_reducible rfl
  rotate_left
  ·simp only [Act.put, sTA, sZ, sS, i64_w, i32_w]
   rfl
  refine take_ (i := 3) (N := some 17) (v := ?_) (a' := ?_) #[bY,bY,bN,bY,bN,bN,bN] rfl rfl (by kernel_rfl) (fun _ _ _ h => h) (Or.inl ⟨by rfl, ?_⟩) hHeld ?_ ?_
  rotate_left
  ·rintro w' ⟨s0, s1, s2, s3, s4, s5, s6⟩
   go_simp
   with_reducible rfl
  rotate_left
  ·simp only [Act.put, sTA, sZ, sS, i64_w, i32_w]
   rfl
  refine take_ (i := 4) (N := some 18) (v := ?_) (a' := ?_) #[bY,bY,bN,bY,bY,bN,bN] rfl rfl (by kernel_rfl) (fun _ _ _ h => h) (Or.inl ⟨by rfl, ?_⟩) hHeld ?_ ?_
  rotate_left
  ·rintro w' ⟨s0, s1, s2, s3, s4, s5, s6⟩
   go_simp
   with_reducible rfl
  rotate_left
  ·simp only [Act.put, sTA, sZ, sS, i64_w, i32_w]
   rfl
  refine one_ (i := 2) (N := some 16) #[bY,bY,bY,bY,bY,bN,bN] rfl rfl (by kernel_rfl) (by decide) (fun K hK => ?_)
  refine goes_ Try.func25 (by kernel_rfl) rfl #[.agg #[.int .i64 a0_0, .int .i64 a0_1, .int .i64 a0_2], .agg #[.int .i64 a1_0, .int .i64 a1_1]] (by rfl) rfl rfl zD ?_
  with_reducible refine (impl_PatternAt.calls k a0_0 a0_1 a0_2 a1_0 a1_1 t518 _ A5.out).mono ?_
  rintro e w12 ⟨rfl, hb⟩
  refine ⟨_, rfl, ?_⟩
  have n0_ := zB BK515 hb
  have n1_ := zB BK516 hb
  have n2_ := zB BK517 hb
  have n3_ := aK (bSp (zH3 HB GE515 GE516 GE517) hb)
  clear BK515
  clear BK516
  clear BK517
  clear HB
  have BK515 := n0_
  have BK516 := n1_
  have BK517 := n2_
  have HB := n3_
  clear n0_ n1_ n2_ n3_
  (try clear hb)
  (try clear hb2)
  (try clear hk)
  (try clear hi)
  refine hK.out _ _ ⟨zQ BK515 0, zQ BK515 1, zQ BK515 2, zQ BK516 0, zQ BK516 1, zQ BK517 0, zQ BK517 1⟩ (fun hHeld => ?_)
  clear hK K
  refine norm_ (a' := ?_) ?_ ?_
  rotate_left
  ·show Act.put _ (some 16) _ = _
   simp only [Act.put, sTA, sZ, sS, i64_w, i32_w]
   rfl
  refine one_ (i := 5) (N := some 19) #[bY,bY,bY,bY,bY,bY,bN] rfl rfl (by kernel_rfl) (by decide) (fun K hK => ?_)
  refine goes_ Try.func25 (by kernel_rfl) rfl #[.agg #[.int .i64 a0_0, .int .i64 a0_1, .int .i64 a0_2], .agg #[.int .i64 a2_0, .int .i64 a2_1]] (by rfl) rfl rfl zD ?_
  with_reducible refine (impl_PatternAt.calls k a0_0 a0_1 a0_2 a2_0 a2_1 t519 _ A6.out).mono ?_
  rintro e w13 ⟨rfl, hb⟩
  refine ⟨_, rfl, ?_⟩
  have n0_ := zB BK515 hb
  have n1_ := zB BK516 hb
  have n2_ := zB BK517 hb
  have n3_ := aK (bSp (zH3 HB GE515 GE516 GE517) hb)
  clear BK515
  clear BK516
  clear BK517
  clear HB
  have BK515 := n0_
  have BK516 := n1_
  have BK517 := n2_
  have HB := n3_
  clear n0_ n1_ n2_ n3_
  (try clear hb)
  (try clear hb2)
  (try clear hk)
  (try clear hi)
  refine hK.out _ _ ⟨zQ BK515 0, zQ BK515 1, zQ BK515 2, zQ BK516 0, zQ BK516 1, zQ BK517 0, zQ BK517 1⟩ (fun hHeld => ?_)
  clear hK K
  refine norm_ (a' := ?_) ?_ ?_
  rotate_left
  ·show Act.put _ (some 19) _ = _
   simp only [Act.put, sTA, sZ, sS, i64_w, i32_w]
   rfl
  refine pure_ (i := 6) (N := some 20) (v := ?_) (a' := ?_) #[bY,bY,bY,bY,bY,bY,bY] rfl rfl (by kernel_rfl) (fun _ _ _ h => h) (Or.inl ⟨by rfl, ?_⟩) ?_ ?_
  rotate_left
  ·intro w'
   go_simp
   with_reducible rfl
  rotate_left
  ·simp only [Act.put, sTA, sZ, sS, i64_w, i32_w]
   rfl
  refine done_ (by kernel_rfl) ?_
  try go_wp2
  go_loopg [9] k (fun kq v9 w' => ∃ (x9_1 : Int), v9 = .int .i64 x9_1 ∧ Aside0 (impl_alike.l0 kq a3 x9_1 a0_0 a0_1 a0_2 a1_0 a1_1 a2_0 a2_1 = some r) ∧ Aside0 (kq ≤ k) ∧ Aside0 (w'.heap[gb515]? = some (.cells #[.int .i64 a0_0, .int .i64 a0_1, .int .i64 a0_2] 30 (0, 0))) ∧ Aside0 (w'.heap[gb516]? = some (.cells #[.int .i64 a1_0, .int .i64 a1_1] 43 (0, 0))) ∧ Aside0 (w'.heap[gb517]? = some (.cells #[.int .i64 a2_0, .int .i64 a2_1] 43 (0, 0))) ∧ Aside0 (Below w.heap.size w w'))
  case atStart => exact ⟨(0), (by first | rfl | (simp; done) | (simp [*]; done)), H', ⟨Nat.le_refl _⟩, ⟨zK BK515⟩, ⟨zK BK516⟩, ⟨zK BK517⟩, ⟨zH3 HB GE515 GE516 GE517⟩⟩
  case round =>
   clear H'
   try clear c2
   try clear p2
   try clear c5
   try clear c7
   try clear c7b0
   try clear c7b1
   obtain ⟨x9_1, rfl, HA, HK1, BK515, BK516, BK517, HB⟩ := hrel
   cases gk with
   | zero => exact absurd HA.out (by simp [impl_alike.l0])
   | succ k1 =>
    have H := HA.out
    clear HA
    simp only [impl_alike.l0] at H
    have HC14 := aK H
    clear H
    go_upto_region 4 with (fail)
    go_cut [26] (fun v26 wc => ∃ (kq : Nat) (x26_13 : Bool), v26 = .bool x26_13 ∧ Aside0 (impl_alike.j1 kq a3 x9_1 x26_13 a0_0 a0_1 a0_2 a1_0 a1_1 a2_0 a2_1 = some r) ∧ Aside0 (kq ≤ k1) ∧ Aside0 (wc.heap[gb515]? = some (.cells #[.int .i64 a0_0, .int .i64 a0_1, .int .i64 a0_2] 30 (0, 0))) ∧ Aside0 (wc.heap[gb516]? = some (.cells #[.int .i64 a1_0, .int .i64 a1_1] 43 (0, 0))) ∧ Aside0 (wc.heap[gb517]? = some (.cells #[.int .i64 a2_0, .int .i64 a2_1] 43 (0, 0))) ∧ Aside0 (Below w.heap.size w wc))
    case first =>
     have H := HC14.out
     clear HC14
     by_cases c15 : a3 > 0
     ·rw [if_pos c15] at H
      have c15b0 : decide (0 < a3) = true := decide_eq_true c15
      clear c15
      (first | rw [c15b0] | (simp only [i64_w, i32_w]; rw [c15b0]) | skip)
      have H' := aK H
      clear H
      go_wp2
      go_meet
      case rel => exact ⟨_, (decide (x9_1 < 4)), (by first | rfl | (simp; done) | (simp [*]; done)), H', ⟨by have := HK1.out; first | omega | exact Nat.le_refl _⟩, ⟨zK BK515⟩, ⟨zK BK516⟩, ⟨zK BK517⟩, ⟨zH3 HB GE515 GE516 GE517⟩⟩
     ·rw [if_neg c15] at H
      have c15b0 : decide (0 < a3) = false := decide_eq_false c15
      clear c15
      (first | rw [c15b0] | (simp only [i64_w, i32_w]; rw [c15b0]) | skip)
      have H' := aK H
      clear H
      go_wp2
      go_meet
      case rel => exact ⟨_, (false), (by first | rfl | (simp; done) | (simp [*]; done)), H', ⟨by have := HK1.out; first | omega | exact Nat.le_refl _⟩, ⟨zK BK515⟩, ⟨zK BK516⟩, ⟨zK BK517⟩, ⟨zH3 HB GE515 GE516 GE517⟩⟩
    case rest =>
     clear HC14
     try clear c1
     try clear c2
     try clear p2
     try clear c5
     try clear c7
     try clear c7b0
     try clear c7b1
     try clear c15
     try clear c15b0
     try clear p2
     obtain ⟨kq, x26_13, rfl, HA, HJ13, BK515, BK516, BK517, HB⟩ := hcut
     cases kq with
     | zero => exact absurd HA.out (by simp [impl_alike.j1])
     | succ kj13 =>
      have H := HA.out
      clear HA
      simp only [impl_alike.j1] at H
      by_cases c16 : x26_13 = true
      ·subst c16
       have H1 : ((impl_went.f kj13 a0_0 a0_1 a0_2 a1_0 a1_1 x9_1).bind fun bt520 => ((impl_went.f kj13 a0_0 a0_1 a0_2 a2_0 a2_1 x9_1).bind fun bt524 => (if (bt520.2.2 != bt524.2.2) = true then (some false) else (if bt520.2.2 = true then ((impl_alike.f kj13 a0_0 a0_1 a0_2 bt520.1 bt520.2.1 bt524.1 bt524.2.1 (wrap64 (a3 - 1))).bind fun t528 => (if t528 = true then (impl_alike.l0 kj13 a3 (wrap64 (x9_1 + 1)) a0_0 a0_1 a0_2 a1_0 a1_1 a2_0 a2_1) else (some false))) else (impl_alike.l0 kj13 a3 (wrap64 (x9_1 + 1)) a0_0 a0_1 a0_2 a1_0 a1_1 a2_0 a2_1))))) = some r := by rw [if_pos rfl] at H; exact H
       clear H
       have H := H1
       clear H1
       replace H := Option.bind_eq_some_iff.mp H
       obtain ⟨⟨t520, t521, t522⟩, A170, H⟩ := H
       replace H : ((impl_went.f kj13 a0_0 a0_1 a0_2 a2_0 a2_1 x9_1).bind fun bt524 => (if (t522 != bt524.2.2) = true then (some false) else (if t522 = true then ((impl_alike.f kj13 a0_0 a0_1 a0_2 t520 t521 bt524.1 bt524.2.1 (wrap64 (a3 - 1))).bind fun t528 => (if t528 = true then (impl_alike.l0 kj13 a3 (wrap64 (x9_1 + 1)) a0_0 a0_1 a0_2 a1_0 a1_1 a2_0 a2_1) else (some false))) else (impl_alike.l0 kj13 a3 (wrap64 (x9_1 + 1)) a0_0 a0_1 a0_2 a1_0 a1_1 a2_0 a2_1)))) = some r := H
       have A17 := aK A170
       clear A170
       replace H := Option.bind_eq_some_iff.mp H
       obtain ⟨⟨t524, t525, t526⟩, A180, H⟩ := H
       replace H : (if (t522 != t526) = true then (some false) else (if t522 = true then ((impl_alike.f kj13 a0_0 a0_1 a0_2 t520 t521 t524 t525 (wrap64 (a3 - 1))).bind fun t528 => (if t528 = true then (impl_alike.l0 kj13 a3 (wrap64 (x9_1 + 1)) a0_0 a0_1 a0_2 a1_0 a1_1 a2_0 a2_1) else (some false))) else (impl_alike.l0 kj13 a3 (wrap64 (x9_1 + 1)) a0_0 a0_1 a0_2 a1_0 a1_1 a2_0 a2_1))) = some r := H
       have A18 := aK A180
       clear A180
       by_cases c19 : (t522 != t526) = true
       ·rw [if_pos c19] at H
        have c19b0 : (t522 != t526) = true := c19
        (try (have c19b1 : decide (t522 = t526) = false := by simpa using c19))
        (try (have c19b2 : (t522 == t526) = false := by simpa using c19))
        (try (have c19b3 : ¬ (t522 = t526) := by simpa using c19))
        clear c19
        obtain rfl := Option.some.inj H
        have hnb20 := NB515_516.out
        have hnc20 := NB516_515.out
        have hnb21 := NB515_517.out
        have hnc21 := NB517_515.out
        obtain ⟨hcz22_0, hcz22_1, hcz22_2, hfz22_0, hfz22_1, hfz22_2⟩ := cl3 BK515.out
        have hnb23 := NB516_517.out
        have hnc23 := NB517_516.out
        obtain ⟨hcz24_0, hcz24_1, hfz24_0, hfz24_1⟩ := cl2 BK516.out
        go_wp2_with (first | ((with_reducible refine gate_callee (f := 41) rfl ?_); refine goesL_ (some 33) rfl rfl Try.func41 (by kernel_rfl) rfl #[.agg #[.int .i64 a0_0, .int .i64 a0_1, .int .i64 a0_2], .agg #[.int .i64 a1_0, .int .i64 a1_1], .int .i64 x9_1] rfl zD ?_; (with_reducible refine (impl_went.calls kj13 a0_0 a0_1 a0_2 a1_0 a1_1 x9_1 t520 t521 t522 _ A17.out).mono ?_); rintro e w25 ⟨rfl, hb⟩; refine ⟨_, rfl, ?_⟩; replace BK515 := zB BK515 hb; replace BK516 := zB BK516 hb; replace BK517 := zB BK517 hb; replace HB := aK (bSp (zH3 HB GE515 GE516 GE517) hb); (try clear hb); (try clear hb2); (try clear hk); (try clear hi)) | ((with_reducible refine gate_dst (N := 10) rfl ?_); refine box_event ?hg (N := 10) ?hd (cs := #[.int .i64 0, .int .i64 0]) (t := 43) ?hr ?_; (case hd => rfl); (case hg => rfl); (case hr => first | (go_simp; done) | (go_simp; rfl)); intro gb523 hg w26 hbox hb; have BK523 := aK (hbox); have GW523 := aK ((by rw [hg]; exact (bSz (zH3 HB GE515 GE516 GE517)) : w.heap.size ≤ gb523)); replace HB := aK (bSp (zH3 HB GE515 GE516 GE517) hb); have GE523 := GW523; have NB515_523 := nbl BK515 hg (by intro z_; (with_reducible repeat (first | refine kDN ?_ _ | refine kD ?_ | refine blk_alloc ?_ _)); exact z_); replace BK515 := zB BK515 hb; have NB523_515 := nbs NB515_523; have NB516_523 := nbl BK516 hg (by intro z_; (with_reducible repeat (first | refine kDN ?_ _ | refine kD ?_ | refine blk_alloc ?_ _)); exact z_); replace BK516 := zB BK516 hb; have NB523_516 := nbs NB516_523; have NB517_523 := nbl BK517 hg (by intro z_; (with_reducible repeat (first | refine kDN ?_ _ | refine kD ?_ | refine blk_alloc ?_ _)); exact z_); replace BK517 := zB BK517 hb; have NB523_517 := nbs NB517_523; clear hb hbox hg; have hnb27 := NB523_515.out; have hnc27 := NB515_523.out; have hnb28 := NB523_516.out; have hnc28 := NB516_523.out; have hnb29 := NB523_517.out; have hnc29 := NB517_523.out; obtain ⟨hcz30_0, hcz30_1, hfz30_0, hfz30_1⟩ := cl2 BK523.out; obtain ⟨hcz31_0, hcz31_1, hcz31_2, hfz31_0, hfz31_1, hfz31_2⟩ := cl3 BK515.out; obtain ⟨hcz32_0, hcz32_1, hfz32_0, hfz32_1⟩ := cl2 BK517.out) | ((with_reducible refine gate_callee (f := 41) rfl ?_); refine goesL_ (some 40) rfl rfl Try.func41 (by kernel_rfl) rfl #[.agg #[.int .i64 a0_0, .int .i64 a0_1, .int .i64 a0_2], .agg #[.int .i64 a2_0, .int .i64 a2_1], .int .i64 x9_1] rfl zD ?_; (with_reducible refine (impl_went.calls kj13 a0_0 a0_1 a0_2 a2_0 a2_1 x9_1 t524 t525 t526 _ A18.out).mono ?_); rintro e w33 ⟨rfl, hb⟩; refine ⟨_, rfl, ?_⟩; replace BK515 := zG2 BK515 NB515_523 hb; replace BK516 := zG2 BK516 NB516_523 hb; replace BK517 := zG2 BK517 NB517_523 hb; replace BK523 := aK (blk_below (g := gb523) (o := .cells #[.int .i64 t520, .int .i64 t521] 43 (0, 0)) (by (with_reducible repeat (first | refine kDN ?_ _ | refine kD ?_ | refine blk_alloc ?_ _)); refine blk_put (cs := #[.int .i64 t520, .int .i64 0]) ?_ 1 _ rfl; (with_reducible repeat (first | refine kDN ?_ _ | refine kD ?_ | refine blk_alloc ?_ _)); refine blk_put (cs := #[.int .i64 0, .int .i64 0]) ?_ 0 _ rfl; (with_reducible repeat (first | refine kDN ?_ _ | refine kD ?_ | refine blk_alloc ?_ _)); exact BK523.out) hb); replace HB := aK (bSp (zH4 HB GE515 GE516 GE517 GE523) hb); (try clear hb); (try clear hb2); (try clear hk); (try clear hi)) | ((with_reducible refine gate_dst (N := 12) rfl ?_); refine box_event ?hg (N := 12) ?hd (cs := #[.int .i64 0, .int .i64 0]) (t := 43) ?hr ?_; (case hd => rfl); (case hg => rfl); (case hr => first | (go_simp; done) | (go_simp; rfl)); intro gb527 hg w34 hbox hb; have BK527 := aK (hbox); have GW527 := aK ((by rw [hg]; exact (bSz (zH4 HB GE515 GE516 GE517 GE523)) : w.heap.size ≤ gb527)); replace HB := aK (bSp (zH4 HB GE515 GE516 GE517 GE523) hb); have GE527 := GW527; have NB515_527 := nbl BK515 hg (by intro z_; (with_reducible repeat (first | refine kDN ?_ _ | refine kD ?_ | refine blk_alloc ?_ _)); exact z_); replace BK515 := zB BK515 hb; have NB527_515 := nbs NB515_527; have NB516_527 := nbl BK516 hg (by intro z_; (with_reducible repeat (first | refine kDN ?_ _ | refine kD ?_ | refine blk_alloc ?_ _)); exact z_); replace BK516 := zB BK516 hb; have NB527_516 := nbs NB516_527; have NB517_527 := nbl BK517 hg (by intro z_; (with_reducible repeat (first | refine kDN ?_ _ | refine kD ?_ | refine blk_alloc ?_ _)); exact z_); replace BK517 := zB BK517 hb; have NB527_517 := nbs NB517_527; have NB523_527 := nbl BK523 hg (by intro z_; (with_reducible repeat (first | refine kDN ?_ _ | refine kD ?_ | refine blk_alloc ?_ _)); exact z_); replace BK523 := zB BK523 hb; have NB527_523 := nbs NB523_527; clear hb hbox hg; have hnb35 := NB527_515.out; have hnc35 := NB515_527.out; have hnb36 := NB527_516.out; have hnc36 := NB516_527.out; have hnb37 := NB527_517.out; have hnc37 := NB517_527.out; have hnb38 := NB527_523.out; have hnc38 := NB523_527.out; obtain ⟨hcz39_0, hcz39_1, hfz39_0, hfz39_1⟩ := cl2 BK527.out))
        go_ret
        exact ⟨by first | rfl | (simp [errW_none, errW_some] <;> rfl) | (simp [*, errW_none, errW_some] <;> rfl), by repeat (first | (with_reducible first | exact HB.out | apply bAl | apply bDN | apply bD1 | refine bSt ?_ GE515.out | refine bSt ?_ GE516.out | refine bSt ?_ GE517.out | refine bSt ?_ GE523.out | refine bSt ?_ GE527.out) | exact HB.out)⟩
       ·rw [if_neg c19] at H
        have c19b0 : (t522 != t526) = false := by simpa using c19
        (try (have c19b1 : decide (t522 = t526) = true := by simpa using c19))
        (try (have c19b2 : (t522 == t526) = true := by simpa using c19))
        clear c19
        by_cases c40 : t522 = true
        ·subst c40
         have H1 : ((impl_alike.f kj13 a0_0 a0_1 a0_2 t520 t521 t524 t525 (wrap64 (a3 - 1))).bind fun t528 => (if t528 = true then (impl_alike.l0 kj13 a3 (wrap64 (x9_1 + 1)) a0_0 a0_1 a0_2 a1_0 a1_1 a2_0 a2_1) else (some false))) = some r := by rw [if_pos rfl] at H; exact H
         clear H
         have H := H1
         clear H1
         replace H := Option.bind_eq_some_iff.mp H
         obtain ⟨t528, A410, H⟩ := H
         replace H : (if t528 = true then (impl_alike.l0 kj13 a3 (wrap64 (x9_1 + 1)) a0_0 a0_1 a0_2 a1_0 a1_1 a2_0 a2_1) else (some false)) = some r := H
         have A41 := aK A410
         clear A410
         by_cases c42 : t528 = true
         ·subst c42
          have H1 : (impl_alike.l0 kj13 a3 (wrap64 (x9_1 + 1)) a0_0 a0_1 a0_2 a1_0 a1_1 a2_0 a2_1) = some r := by rw [if_pos rfl] at H; exact H
          clear H
          have H := H1
          clear H1
          have H' := aK H
          clear H
          have hnb43 := NB515_516.out
          have hnc43 := NB516_515.out
          have hnb44 := NB515_517.out
          have hnc44 := NB517_515.out
          obtain ⟨hcz45_0, hcz45_1, hcz45_2, hfz45_0, hfz45_1, hfz45_2⟩ := cl3 BK515.out
          have hnb46 := NB516_517.out
          have hnc46 := NB517_516.out
          obtain ⟨hcz47_0, hcz47_1, hfz47_0, hfz47_1⟩ := cl2 BK516.out
          go_wp2_with (first | ((with_reducible refine gate_callee (f := 41) rfl ?_); refine goesL_ (some 33) rfl rfl Try.func41 (by kernel_rfl) rfl #[.agg #[.int .i64 a0_0, .int .i64 a0_1, .int .i64 a0_2], .agg #[.int .i64 a1_0, .int .i64 a1_1], .int .i64 x9_1] rfl zD ?_; (with_reducible refine (impl_went.calls kj13 a0_0 a0_1 a0_2 a1_0 a1_1 x9_1 t520 t521 true _ A17.out).mono ?_); rintro e w48 ⟨rfl, hb⟩; refine ⟨_, rfl, ?_⟩; replace BK515 := zB BK515 hb; replace BK516 := zB BK516 hb; replace BK517 := zB BK517 hb; replace HB := aK (bSp (zH3 HB GE515 GE516 GE517) hb); (try clear hb); (try clear hb2); (try clear hk); (try clear hi)) | ((with_reducible refine gate_dst (N := 10) rfl ?_); refine box_event ?hg (N := 10) ?hd (cs := #[.int .i64 0, .int .i64 0]) (t := 43) ?hr ?_; (case hd => rfl); (case hg => rfl); (case hr => first | (go_simp; done) | (go_simp; rfl)); intro gb523 hg w49 hbox hb; have BK523 := aK (hbox); have GW523 := aK ((by rw [hg]; exact (bSz (zH3 HB GE515 GE516 GE517)) : w.heap.size ≤ gb523)); replace HB := aK (bSp (zH3 HB GE515 GE516 GE517) hb); have GE523 := GW523; have NB515_523 := nbl BK515 hg (by intro z_; (with_reducible repeat (first | refine kDN ?_ _ | refine kD ?_ | refine blk_alloc ?_ _)); exact z_); replace BK515 := zB BK515 hb; have NB523_515 := nbs NB515_523; have NB516_523 := nbl BK516 hg (by intro z_; (with_reducible repeat (first | refine kDN ?_ _ | refine kD ?_ | refine blk_alloc ?_ _)); exact z_); replace BK516 := zB BK516 hb; have NB523_516 := nbs NB516_523; have NB517_523 := nbl BK517 hg (by intro z_; (with_reducible repeat (first | refine kDN ?_ _ | refine kD ?_ | refine blk_alloc ?_ _)); exact z_); replace BK517 := zB BK517 hb; have NB523_517 := nbs NB517_523; clear hb hbox hg; have hnb50 := NB523_515.out; have hnc50 := NB515_523.out; have hnb51 := NB523_516.out; have hnc51 := NB516_523.out; have hnb52 := NB523_517.out; have hnc52 := NB517_523.out; obtain ⟨hcz53_0, hcz53_1, hfz53_0, hfz53_1⟩ := cl2 BK523.out; obtain ⟨hcz54_0, hcz54_1, hcz54_2, hfz54_0, hfz54_1, hfz54_2⟩ := cl3 BK515.out; obtain ⟨hcz55_0, hcz55_1, hfz55_0, hfz55_1⟩ := cl2 BK517.out) | ((with_reducible refine gate_callee (f := 41) rfl ?_); refine goesL_ (some 40) rfl rfl Try.func41 (by kernel_rfl) rfl #[.agg #[.int .i64 a0_0, .int .i64 a0_1, .int .i64 a0_2], .agg #[.int .i64 a2_0, .int .i64 a2_1], .int .i64 x9_1] rfl zD ?_; (with_reducible refine (impl_went.calls kj13 a0_0 a0_1 a0_2 a2_0 a2_1 x9_1 t524 t525 t526 _ A18.out).mono ?_); rintro e w56 ⟨rfl, hb⟩; refine ⟨_, rfl, ?_⟩; replace BK515 := zG2 BK515 NB515_523 hb; replace BK516 := zG2 BK516 NB516_523 hb; replace BK517 := zG2 BK517 NB517_523 hb; replace BK523 := aK (blk_below (g := gb523) (o := .cells #[.int .i64 t520, .int .i64 t521] 43 (0, 0)) (by (with_reducible repeat (first | refine kDN ?_ _ | refine kD ?_ | refine blk_alloc ?_ _)); refine blk_put (cs := #[.int .i64 t520, .int .i64 0]) ?_ 1 _ rfl; (with_reducible repeat (first | refine kDN ?_ _ | refine kD ?_ | refine blk_alloc ?_ _)); refine blk_put (cs := #[.int .i64 0, .int .i64 0]) ?_ 0 _ rfl; (with_reducible repeat (first | refine kDN ?_ _ | refine kD ?_ | refine blk_alloc ?_ _)); exact BK523.out) hb); replace HB := aK (bSp (zH4 HB GE515 GE516 GE517 GE523) hb); (try clear hb); (try clear hb2); (try clear hk); (try clear hi)) | ((with_reducible refine gate_dst (N := 12) rfl ?_); refine box_event ?hg (N := 12) ?hd (cs := #[.int .i64 0, .int .i64 0]) (t := 43) ?hr ?_; (case hd => rfl); (case hg => rfl); (case hr => first | (go_simp; done) | (go_simp; rfl)); intro gb527 hg w57 hbox hb; have BK527 := aK (hbox); have GW527 := aK ((by rw [hg]; exact (bSz (zH4 HB GE515 GE516 GE517 GE523)) : w.heap.size ≤ gb527)); replace HB := aK (bSp (zH4 HB GE515 GE516 GE517 GE523) hb); have GE527 := GW527; have NB515_527 := nbl BK515 hg (by intro z_; (with_reducible repeat (first | refine kDN ?_ _ | refine kD ?_ | refine blk_alloc ?_ _)); exact z_); replace BK515 := zB BK515 hb; have NB527_515 := nbs NB515_527; have NB516_527 := nbl BK516 hg (by intro z_; (with_reducible repeat (first | refine kDN ?_ _ | refine kD ?_ | refine blk_alloc ?_ _)); exact z_); replace BK516 := zB BK516 hb; have NB527_516 := nbs NB516_527; have NB517_527 := nbl BK517 hg (by intro z_; (with_reducible repeat (first | refine kDN ?_ _ | refine kD ?_ | refine blk_alloc ?_ _)); exact z_); replace BK517 := zB BK517 hb; have NB527_517 := nbs NB517_527; have NB523_527 := nbl BK523 hg (by intro z_; (with_reducible repeat (first | refine kDN ?_ _ | refine kD ?_ | refine blk_alloc ?_ _)); exact z_); replace BK523 := zB BK523 hb; have NB527_523 := nbs NB523_527; clear hb hbox hg; have hnb58 := NB527_515.out; have hnc58 := NB515_527.out; have hnb59 := NB527_516.out; have hnc59 := NB516_527.out; have hnb60 := NB527_517.out; have hnc60 := NB517_527.out; have hnb61 := NB527_523.out; have hnc61 := NB523_527.out; obtain ⟨hcz62_0, hcz62_1, hfz62_0, hfz62_1⟩ := cl2 BK527.out; obtain ⟨hcz63_0, hcz63_1, hcz63_2, hfz63_0, hfz63_1, hfz63_2⟩ := cl3 BK515.out; obtain ⟨hcz64_0, hcz64_1, hfz64_0, hfz64_1⟩ := cl2 BK523.out) | (go_at_call 55; (with_reducible refine (ih kj13 (by have := HK1.out; have := HJ13.out; omega) a0_0 a0_1 a0_2 t520 t521 t524 t525 (wrap64 (a3 - 1)) true _ A41.out).mono ?_); rintro e w65 ⟨rfl, hb⟩; replace BK515 := zG2 BK515 NB515_527 hb; replace BK516 := zG2 BK516 NB516_527 hb; replace BK517 := zG2 BK517 NB517_527 hb; replace BK523 := zG2 BK523 NB523_527 hb; replace BK527 := aK (blk_below (g := gb527) (o := .cells #[.int .i64 t524, .int .i64 t525] 43 (0, 0)) (by (with_reducible repeat (first | refine kDN ?_ _ | refine kD ?_ | refine blk_alloc ?_ _)); refine blk_put (cs := #[.int .i64 t524, .int .i64 0]) ?_ 1 _ rfl; (with_reducible repeat (first | refine kDN ?_ _ | refine kD ?_ | refine blk_alloc ?_ _)); refine blk_put (cs := #[.int .i64 0, .int .i64 0]) ?_ 0 _ rfl; (with_reducible repeat (first | refine kDN ?_ _ | refine kD ?_ | refine blk_alloc ?_ _)); exact BK527.out) hb); replace HB := aK (bSp (zH5 HB GE515 GE516 GE517 GE523 GE527) hb); (try clear hb); (try clear hb2); (try clear hk); (try clear hi)))
          go_roundg kj13
          case measure => have := HK1.out; have := HJ13.out; omega
          case rel => exact ⟨(wrap64 (x9_1 + 1)), (by first | rfl | (simp; done) | (simp [*]; done)), H', ⟨by have := HK1.out; have := HJ13.out; omega⟩, ⟨zK BK515⟩, ⟨zK BK516⟩, ⟨zK BK517⟩, ⟨zH5 HB GE515 GE516 GE517 GE523 GE527⟩⟩
         ·replace c42 := Bool.eq_false_iff.mpr c42
          subst c42
          have H1 : (some false) = some r := by rw [if_neg (show ¬ (false = true) by decide)] at H; exact H
          clear H
          have H := H1
          clear H1
          obtain rfl := Option.some.inj H
          have hnb66 := NB515_516.out
          have hnc66 := NB516_515.out
          have hnb67 := NB515_517.out
          have hnc67 := NB517_515.out
          obtain ⟨hcz68_0, hcz68_1, hcz68_2, hfz68_0, hfz68_1, hfz68_2⟩ := cl3 BK515.out
          have hnb69 := NB516_517.out
          have hnc69 := NB517_516.out
          obtain ⟨hcz70_0, hcz70_1, hfz70_0, hfz70_1⟩ := cl2 BK516.out
          go_wp2_with (first | ((with_reducible refine gate_callee (f := 41) rfl ?_); refine goesL_ (some 33) rfl rfl Try.func41 (by kernel_rfl) rfl #[.agg #[.int .i64 a0_0, .int .i64 a0_1, .int .i64 a0_2], .agg #[.int .i64 a1_0, .int .i64 a1_1], .int .i64 x9_1] rfl zD ?_; (with_reducible refine (impl_went.calls kj13 a0_0 a0_1 a0_2 a1_0 a1_1 x9_1 t520 t521 true _ A17.out).mono ?_); rintro e w71 ⟨rfl, hb⟩; refine ⟨_, rfl, ?_⟩; replace BK515 := zB BK515 hb; replace BK516 := zB BK516 hb; replace BK517 := zB BK517 hb; replace HB := aK (bSp (zH3 HB GE515 GE516 GE517) hb); (try clear hb); (try clear hb2); (try clear hk); (try clear hi)) | ((with_reducible refine gate_dst (N := 10) rfl ?_); refine box_event ?hg (N := 10) ?hd (cs := #[.int .i64 0, .int .i64 0]) (t := 43) ?hr ?_; (case hd => rfl); (case hg => rfl); (case hr => first | (go_simp; done) | (go_simp; rfl)); intro gb523 hg w72 hbox hb; have BK523 := aK (hbox); have GW523 := aK ((by rw [hg]; exact (bSz (zH3 HB GE515 GE516 GE517)) : w.heap.size ≤ gb523)); replace HB := aK (bSp (zH3 HB GE515 GE516 GE517) hb); have GE523 := GW523; have NB515_523 := nbl BK515 hg (by intro z_; (with_reducible repeat (first | refine kDN ?_ _ | refine kD ?_ | refine blk_alloc ?_ _)); exact z_); replace BK515 := zB BK515 hb; have NB523_515 := nbs NB515_523; have NB516_523 := nbl BK516 hg (by intro z_; (with_reducible repeat (first | refine kDN ?_ _ | refine kD ?_ | refine blk_alloc ?_ _)); exact z_); replace BK516 := zB BK516 hb; have NB523_516 := nbs NB516_523; have NB517_523 := nbl BK517 hg (by intro z_; (with_reducible repeat (first | refine kDN ?_ _ | refine kD ?_ | refine blk_alloc ?_ _)); exact z_); replace BK517 := zB BK517 hb; have NB523_517 := nbs NB517_523; clear hb hbox hg; have hnb73 := NB523_515.out; have hnc73 := NB515_523.out; have hnb74 := NB523_516.out; have hnc74 := NB516_523.out; have hnb75 := NB523_517.out; have hnc75 := NB517_523.out; obtain ⟨hcz76_0, hcz76_1, hfz76_0, hfz76_1⟩ := cl2 BK523.out; obtain ⟨hcz77_0, hcz77_1, hcz77_2, hfz77_0, hfz77_1, hfz77_2⟩ := cl3 BK515.out; obtain ⟨hcz78_0, hcz78_1, hfz78_0, hfz78_1⟩ := cl2 BK517.out) | ((with_reducible refine gate_callee (f := 41) rfl ?_); refine goesL_ (some 40) rfl rfl Try.func41 (by kernel_rfl) rfl #[.agg #[.int .i64 a0_0, .int .i64 a0_1, .int .i64 a0_2], .agg #[.int .i64 a2_0, .int .i64 a2_1], .int .i64 x9_1] rfl zD ?_; (with_reducible refine (impl_went.calls kj13 a0_0 a0_1 a0_2 a2_0 a2_1 x9_1 t524 t525 t526 _ A18.out).mono ?_); rintro e w79 ⟨rfl, hb⟩; refine ⟨_, rfl, ?_⟩; replace BK515 := zG2 BK515 NB515_523 hb; replace BK516 := zG2 BK516 NB516_523 hb; replace BK517 := zG2 BK517 NB517_523 hb; replace BK523 := aK (blk_below (g := gb523) (o := .cells #[.int .i64 t520, .int .i64 t521] 43 (0, 0)) (by (with_reducible repeat (first | refine kDN ?_ _ | refine kD ?_ | refine blk_alloc ?_ _)); refine blk_put (cs := #[.int .i64 t520, .int .i64 0]) ?_ 1 _ rfl; (with_reducible repeat (first | refine kDN ?_ _ | refine kD ?_ | refine blk_alloc ?_ _)); refine blk_put (cs := #[.int .i64 0, .int .i64 0]) ?_ 0 _ rfl; (with_reducible repeat (first | refine kDN ?_ _ | refine kD ?_ | refine blk_alloc ?_ _)); exact BK523.out) hb); replace HB := aK (bSp (zH4 HB GE515 GE516 GE517 GE523) hb); (try clear hb); (try clear hb2); (try clear hk); (try clear hi)) | ((with_reducible refine gate_dst (N := 12) rfl ?_); refine box_event ?hg (N := 12) ?hd (cs := #[.int .i64 0, .int .i64 0]) (t := 43) ?hr ?_; (case hd => rfl); (case hg => rfl); (case hr => first | (go_simp; done) | (go_simp; rfl)); intro gb527 hg w80 hbox hb; have BK527 := aK (hbox); have GW527 := aK ((by rw [hg]; exact (bSz (zH4 HB GE515 GE516 GE517 GE523)) : w.heap.size ≤ gb527)); replace HB := aK (bSp (zH4 HB GE515 GE516 GE517 GE523) hb); have GE527 := GW527; have NB515_527 := nbl BK515 hg (by intro z_; (with_reducible repeat (first | refine kDN ?_ _ | refine kD ?_ | refine blk_alloc ?_ _)); exact z_); replace BK515 := zB BK515 hb; have NB527_515 := nbs NB515_527; have NB516_527 := nbl BK516 hg (by intro z_; (with_reducible repeat (first | refine kDN ?_ _ | refine kD ?_ | refine blk_alloc ?_ _)); exact z_); replace BK516 := zB BK516 hb; have NB527_516 := nbs NB516_527; have NB517_527 := nbl BK517 hg (by intro z_; (with_reducible repeat (first | refine kDN ?_ _ | refine kD ?_ | refine blk_alloc ?_ _)); exact z_); replace BK517 := zB BK517 hb; have NB527_517 := nbs NB517_527; have NB523_527 := nbl BK523 hg (by intro z_; (with_reducible repeat (first | refine kDN ?_ _ | refine kD ?_ | refine blk_alloc ?_ _)); exact z_); replace BK523 := zB BK523 hb; have NB527_523 := nbs NB523_527; clear hb hbox hg; have hnb81 := NB527_515.out; have hnc81 := NB515_527.out; have hnb82 := NB527_516.out; have hnc82 := NB516_527.out; have hnb83 := NB527_517.out; have hnc83 := NB517_527.out; have hnb84 := NB527_523.out; have hnc84 := NB523_527.out; obtain ⟨hcz85_0, hcz85_1, hfz85_0, hfz85_1⟩ := cl2 BK527.out; obtain ⟨hcz86_0, hcz86_1, hcz86_2, hfz86_0, hfz86_1, hfz86_2⟩ := cl3 BK515.out; obtain ⟨hcz87_0, hcz87_1, hfz87_0, hfz87_1⟩ := cl2 BK523.out) | (go_at_call 55; (with_reducible refine (ih kj13 (by have := HK1.out; have := HJ13.out; omega) a0_0 a0_1 a0_2 t520 t521 t524 t525 (wrap64 (a3 - 1)) false _ A41.out).mono ?_); rintro e w88 ⟨rfl, hb⟩; replace BK515 := zG2 BK515 NB515_527 hb; replace BK516 := zG2 BK516 NB516_527 hb; replace BK517 := zG2 BK517 NB517_527 hb; replace BK523 := zG2 BK523 NB523_527 hb; replace BK527 := aK (blk_below (g := gb527) (o := .cells #[.int .i64 t524, .int .i64 t525] 43 (0, 0)) (by (with_reducible repeat (first | refine kDN ?_ _ | refine kD ?_ | refine blk_alloc ?_ _)); refine blk_put (cs := #[.int .i64 t524, .int .i64 0]) ?_ 1 _ rfl; (with_reducible repeat (first | refine kDN ?_ _ | refine kD ?_ | refine blk_alloc ?_ _)); refine blk_put (cs := #[.int .i64 0, .int .i64 0]) ?_ 0 _ rfl; (with_reducible repeat (first | refine kDN ?_ _ | refine kD ?_ | refine blk_alloc ?_ _)); exact BK527.out) hb); replace HB := aK (bSp (zH5 HB GE515 GE516 GE517 GE523 GE527) hb); (try clear hb); (try clear hb2); (try clear hk); (try clear hi)))
          go_ret
          exact ⟨by first | rfl | (simp [errW_none, errW_some] <;> rfl) | (simp [*, errW_none, errW_some] <;> rfl), by repeat (first | (with_reducible first | exact HB.out | apply bAl | apply bDN | apply bD1 | refine bSt ?_ GE515.out | refine bSt ?_ GE516.out | refine bSt ?_ GE517.out | refine bSt ?_ GE523.out | refine bSt ?_ GE527.out) | exact HB.out)⟩
        ·replace c40 := Bool.eq_false_iff.mpr c40
         subst c40
         have H1 : (impl_alike.l0 kj13 a3 (wrap64 (x9_1 + 1)) a0_0 a0_1 a0_2 a1_0 a1_1 a2_0 a2_1) = some r := by rw [if_neg (show ¬ (false = true) by decide)] at H; exact H
         clear H
         have H := H1
         clear H1
         have H' := aK H
         clear H
         have hnb89 := NB515_516.out
         have hnc89 := NB516_515.out
         have hnb90 := NB515_517.out
         have hnc90 := NB517_515.out
         obtain ⟨hcz91_0, hcz91_1, hcz91_2, hfz91_0, hfz91_1, hfz91_2⟩ := cl3 BK515.out
         have hnb92 := NB516_517.out
         have hnc92 := NB517_516.out
         obtain ⟨hcz93_0, hcz93_1, hfz93_0, hfz93_1⟩ := cl2 BK516.out
         go_wp2_with (first | ((with_reducible refine gate_callee (f := 41) rfl ?_); refine goesL_ (some 33) rfl rfl Try.func41 (by kernel_rfl) rfl #[.agg #[.int .i64 a0_0, .int .i64 a0_1, .int .i64 a0_2], .agg #[.int .i64 a1_0, .int .i64 a1_1], .int .i64 x9_1] rfl zD ?_; (with_reducible refine (impl_went.calls kj13 a0_0 a0_1 a0_2 a1_0 a1_1 x9_1 t520 t521 false _ A17.out).mono ?_); rintro e w94 ⟨rfl, hb⟩; refine ⟨_, rfl, ?_⟩; replace BK515 := zB BK515 hb; replace BK516 := zB BK516 hb; replace BK517 := zB BK517 hb; replace HB := aK (bSp (zH3 HB GE515 GE516 GE517) hb); (try clear hb); (try clear hb2); (try clear hk); (try clear hi)) | ((with_reducible refine gate_dst (N := 10) rfl ?_); refine box_event ?hg (N := 10) ?hd (cs := #[.int .i64 0, .int .i64 0]) (t := 43) ?hr ?_; (case hd => rfl); (case hg => rfl); (case hr => first | (go_simp; done) | (go_simp; rfl)); intro gb523 hg w95 hbox hb; have BK523 := aK (hbox); have GW523 := aK ((by rw [hg]; exact (bSz (zH3 HB GE515 GE516 GE517)) : w.heap.size ≤ gb523)); replace HB := aK (bSp (zH3 HB GE515 GE516 GE517) hb); have GE523 := GW523; have NB515_523 := nbl BK515 hg (by intro z_; (with_reducible repeat (first | refine kDN ?_ _ | refine kD ?_ | refine blk_alloc ?_ _)); exact z_); replace BK515 := zB BK515 hb; have NB523_515 := nbs NB515_523; have NB516_523 := nbl BK516 hg (by intro z_; (with_reducible repeat (first | refine kDN ?_ _ | refine kD ?_ | refine blk_alloc ?_ _)); exact z_); replace BK516 := zB BK516 hb; have NB523_516 := nbs NB516_523; have NB517_523 := nbl BK517 hg (by intro z_; (with_reducible repeat (first | refine kDN ?_ _ | refine kD ?_ | refine blk_alloc ?_ _)); exact z_); replace BK517 := zB BK517 hb; have NB523_517 := nbs NB517_523; clear hb hbox hg; have hnb96 := NB523_515.out; have hnc96 := NB515_523.out; have hnb97 := NB523_516.out; have hnc97 := NB516_523.out; have hnb98 := NB523_517.out; have hnc98 := NB517_523.out; obtain ⟨hcz99_0, hcz99_1, hfz99_0, hfz99_1⟩ := cl2 BK523.out; obtain ⟨hcz100_0, hcz100_1, hcz100_2, hfz100_0, hfz100_1, hfz100_2⟩ := cl3 BK515.out; obtain ⟨hcz101_0, hcz101_1, hfz101_0, hfz101_1⟩ := cl2 BK517.out) | ((with_reducible refine gate_callee (f := 41) rfl ?_); refine goesL_ (some 40) rfl rfl Try.func41 (by kernel_rfl) rfl #[.agg #[.int .i64 a0_0, .int .i64 a0_1, .int .i64 a0_2], .agg #[.int .i64 a2_0, .int .i64 a2_1], .int .i64 x9_1] rfl zD ?_; (with_reducible refine (impl_went.calls kj13 a0_0 a0_1 a0_2 a2_0 a2_1 x9_1 t524 t525 t526 _ A18.out).mono ?_); rintro e w102 ⟨rfl, hb⟩; refine ⟨_, rfl, ?_⟩; replace BK515 := zG2 BK515 NB515_523 hb; replace BK516 := zG2 BK516 NB516_523 hb; replace BK517 := zG2 BK517 NB517_523 hb; replace BK523 := aK (blk_below (g := gb523) (o := .cells #[.int .i64 t520, .int .i64 t521] 43 (0, 0)) (by (with_reducible repeat (first | refine kDN ?_ _ | refine kD ?_ | refine blk_alloc ?_ _)); refine blk_put (cs := #[.int .i64 t520, .int .i64 0]) ?_ 1 _ rfl; (with_reducible repeat (first | refine kDN ?_ _ | refine kD ?_ | refine blk_alloc ?_ _)); refine blk_put (cs := #[.int .i64 0, .int .i64 0]) ?_ 0 _ rfl; (with_reducible repeat (first | refine kDN ?_ _ | refine kD ?_ | refine blk_alloc ?_ _)); exact BK523.out) hb); replace HB := aK (bSp (zH4 HB GE515 GE516 GE517 GE523) hb); (try clear hb); (try clear hb2); (try clear hk); (try clear hi)) | ((with_reducible refine gate_dst (N := 12) rfl ?_); refine box_event ?hg (N := 12) ?hd (cs := #[.int .i64 0, .int .i64 0]) (t := 43) ?hr ?_; (case hd => rfl); (case hg => rfl); (case hr => first | (go_simp; done) | (go_simp; rfl)); intro gb527 hg w103 hbox hb; have BK527 := aK (hbox); have GW527 := aK ((by rw [hg]; exact (bSz (zH4 HB GE515 GE516 GE517 GE523)) : w.heap.size ≤ gb527)); replace HB := aK (bSp (zH4 HB GE515 GE516 GE517 GE523) hb); have GE527 := GW527; have NB515_527 := nbl BK515 hg (by intro z_; (with_reducible repeat (first | refine kDN ?_ _ | refine kD ?_ | refine blk_alloc ?_ _)); exact z_); replace BK515 := zB BK515 hb; have NB527_515 := nbs NB515_527; have NB516_527 := nbl BK516 hg (by intro z_; (with_reducible repeat (first | refine kDN ?_ _ | refine kD ?_ | refine blk_alloc ?_ _)); exact z_); replace BK516 := zB BK516 hb; have NB527_516 := nbs NB516_527; have NB517_527 := nbl BK517 hg (by intro z_; (with_reducible repeat (first | refine kDN ?_ _ | refine kD ?_ | refine blk_alloc ?_ _)); exact z_); replace BK517 := zB BK517 hb; have NB527_517 := nbs NB517_527; have NB523_527 := nbl BK523 hg (by intro z_; (with_reducible repeat (first | refine kDN ?_ _ | refine kD ?_ | refine blk_alloc ?_ _)); exact z_); replace BK523 := zB BK523 hb; have NB527_523 := nbs NB523_527; clear hb hbox hg; have hnb104 := NB527_515.out; have hnc104 := NB515_527.out; have hnb105 := NB527_516.out; have hnc105 := NB516_527.out; have hnb106 := NB527_517.out; have hnc106 := NB517_527.out; have hnb107 := NB527_523.out; have hnc107 := NB523_527.out; obtain ⟨hcz108_0, hcz108_1, hfz108_0, hfz108_1⟩ := cl2 BK527.out))
         go_roundg kj13
         case measure => have := HK1.out; have := HJ13.out; omega
         case rel => exact ⟨(wrap64 (x9_1 + 1)), (by first | rfl | (simp; done) | (simp [*]; done)), H', ⟨by have := HK1.out; have := HJ13.out; omega⟩, ⟨by (with_reducible repeat (first | refine kDN ?_ _ | refine kD ?_ | refine blk_alloc ?_ _)); refine blk_far ?_ NB515_527.out _; (with_reducible repeat (first | refine kDN ?_ _ | refine kD ?_ | refine blk_alloc ?_ _)); refine blk_far ?_ NB515_527.out _; (with_reducible repeat (first | refine kDN ?_ _ | refine kD ?_ | refine blk_alloc ?_ _)); exact BK515.out⟩, ⟨by (with_reducible repeat (first | refine kDN ?_ _ | refine kD ?_ | refine blk_alloc ?_ _)); refine blk_far ?_ NB516_527.out _; (with_reducible repeat (first | refine kDN ?_ _ | refine kD ?_ | refine blk_alloc ?_ _)); refine blk_far ?_ NB516_527.out _; (with_reducible repeat (first | refine kDN ?_ _ | refine kD ?_ | refine blk_alloc ?_ _)); exact BK516.out⟩, ⟨by (with_reducible repeat (first | refine kDN ?_ _ | refine kD ?_ | refine blk_alloc ?_ _)); refine blk_far ?_ NB517_527.out _; (with_reducible repeat (first | refine kDN ?_ _ | refine kD ?_ | refine blk_alloc ?_ _)); refine blk_far ?_ NB517_527.out _; (with_reducible repeat (first | refine kDN ?_ _ | refine kD ?_ | refine blk_alloc ?_ _)); exact BK517.out⟩, ⟨zH5 HB GE515 GE516 GE517 GE523 GE527⟩⟩
      ·replace c16 := Bool.eq_false_iff.mpr c16
       subst c16
       have H1 : (some true) = some r := by rw [if_neg (show ¬ (false = true) by decide)] at H; exact H
       clear H
       have H := H1
       clear H1
       obtain rfl := Option.some.inj H
       go_wp2
       go_ret
       exact ⟨by first | rfl | (simp [errW_none, errW_some] <;> rfl) | (simp [*, errW_none, errW_some] <;> rfl), by repeat (first | (with_reducible first | exact HB.out | apply bAl | apply bDN | apply bD1 | refine bSt ?_ GE515.out | refine bSt ?_ GE516.out | refine bSt ?_ GE517.out) | exact HB.out)⟩
 ·rw [if_neg c7] at H
  have c7b0 : (t518 == t519) = false := beq_eq_false_iff_ne.mpr c7
  have c7b1 : (t518 != t519) = true := bne_iff_ne.mpr c7
  obtain rfl := Option.some.inj H
  go_enter Try.func55, Try.ntmps55
  try go_wp2_with (first | ((with_reducible refine gate_dst (N := 4) rfl ?_); refine box_event ?hg (N := 4) ?hd (cs := #[.int .i64 a0_0, .int .i64 a0_1, .int .i64 a0_2]) (t := 30) ?hr ?_; (case hd => rfl); (case hg => rfl); (case hr => first | (go_simp; done) | (go_simp; rfl)); intro gb515 hg w109 hbox hb; have BK515 := aK (hbox); have GW515 := aK ((by rw [hg]; exact (bSz (zH0 HB)) : w.heap.size ≤ gb515)); replace HB := aK (bSp (zH0 HB) hb); have GE515 := GW515; clear hb hbox hg) | ((with_reducible refine gate_dst (N := 5) rfl ?_); refine box_event ?hg (N := 5) ?hd (cs := #[.int .i64 a1_0, .int .i64 a1_1]) (t := 43) ?hr ?_; (case hd => rfl); (case hg => rfl); (case hr => first | (go_simp; done) | (go_simp; rfl)); intro gb516 hg w110 hbox hb; have BK516 := aK (hbox); have GW516 := aK ((by rw [hg]; exact (bSz (zH1 HB GE515)) : w.heap.size ≤ gb516)); replace HB := aK (bSp (zH1 HB GE515) hb); have GE516 := GW516; have NB515_516 := nbl BK515 hg (by intro z_; (with_reducible repeat (first | refine kDN ?_ _ | refine kD ?_ | refine blk_alloc ?_ _)); exact z_); replace BK515 := zB BK515 hb; have NB516_515 := nbs NB515_516; clear hb hbox hg) | ((with_reducible refine gate_dst (N := 6) rfl ?_); refine box_event ?hg (N := 6) ?hd (cs := #[.int .i64 a2_0, .int .i64 a2_1]) (t := 43) ?hr ?_; (case hd => rfl); (case hg => rfl); (case hr => first | (go_simp; done) | (go_simp; rfl)); intro gb517 hg w111 hbox hb; have BK517 := aK (hbox); have GW517 := aK ((by rw [hg]; exact (bSz (zH2 HB GE515 GE516)) : w.heap.size ≤ gb517)); replace HB := aK (bSp (zH2 HB GE515 GE516) hb); have GE517 := GW517; have NB515_517 := nbl BK515 hg (by intro z_; (with_reducible repeat (first | refine kDN ?_ _ | refine kD ?_ | refine blk_alloc ?_ _)); exact z_); replace BK515 := zB BK515 hb; have NB517_515 := nbs NB515_517; have NB516_517 := nbl BK516 hg (by intro z_; (with_reducible repeat (first | refine kDN ?_ _ | refine kD ?_ | refine blk_alloc ?_ _)); exact z_); replace BK516 := zB BK516 hb; have NB517_516 := nbs NB516_517; clear hb hbox hg))
  have n0_ := aK (kD BK515.out)
  have n1_ := aK (kD BK516.out)
  have n2_ := aK (kD BK517.out)
  have n3_ := aK (bD1 HB.out)
  clear BK515
  clear BK516
  clear BK517
  clear HB
  have BK515 := n0_
  have BK516 := n1_
  have BK517 := n2_
  have HB := n3_
  clear n0_ n1_ n2_ n3_
  refine start_ (n := 7) (S := fun w' => w'.cell? ⟨gb515, 0, none⟩ = some (.int .i64 a0_0) ∧ w'.cell? ⟨gb515, 1, none⟩ = some (.int .i64 a0_1) ∧ w'.cell? ⟨gb515, 2, none⟩ = some (.int .i64 a0_2) ∧ w'.cell? ⟨gb516, 0, none⟩ = some (.int .i64 a1_0) ∧ w'.cell? ⟨gb516, 1, none⟩ = some (.int .i64 a1_1) ∧ w'.cell? ⟨gb517, 0, none⟩ = some (.int .i64 a2_0) ∧ w'.cell? ⟨gb517, 1, none⟩ = some (.int .i64 a2_1)) (ds := []) #[bN,bN,bN,bN,bN,bN,bN] (by kernel_rfl) rfl rfl ⟨zQ BK515 0, zQ BK515 1, zQ BK515 2, zQ BK516 0, zQ BK516 1, zQ BK517 0, zQ BK517 1⟩ (fun hHeld => ?_)
  generalize w111.drew = w112 at BK515 BK516 BK517 HB hHeld ⊢
  refine take_ (i := 0) (N := some 14) (v := ?_) (a' := ?_) #[bY,bN,bN,bN,bN,bN,bN] rfl rfl (by kernel_rfl) (fun _ _ _ h => h) (Or.inl ⟨by rfl, ?_⟩) hHeld ?_ ?_
  rotate_left
  ·rintro w' ⟨s0, s1, s2, s3, s4, s5, s6⟩
   go_simp
   with_reducible rfl
  rotate_left
  ·simp only [Act.put, sTA, sZ, sS, i64_w, i32_w]
   rfl
  refine take_ (i := 1) (N := some 15) (v := ?_) (a' := ?_) #[bY,bY,bN,bN,bN,bN,bN] rfl rfl (by kernel_rfl) (fun _ _ _ h => h) (Or.inl ⟨by rfl, ?_⟩) hHeld ?_ ?_
  rotate_left
  ·rintro w' ⟨s0, s1, s2, s3, s4, s5, s6⟩
   go_simp
   with_reducible rfl
  rotate_left
  ·simp only [Act.put, sTA, sZ, sS, i64_w, i32_w]
   rfl
  refine take_ (i := 3) (N := some 17) (v := ?_) (a' := ?_) #[bY,bY,bN,bY,bN,bN,bN] rfl rfl (by kernel_rfl) (fun _ _ _ h => h) (Or.inl ⟨by rfl, ?_⟩) hHeld ?_ ?_
  rotate_left
  ·rintro w' ⟨s0, s1, s2, s3, s4, s5, s6⟩
   go_simp
   with_reducible rfl
  rotate_left
  ·simp only [Act.put, sTA, sZ, sS, i64_w, i32_w]
   rfl
  refine take_ (i := 4) (N := some 18) (v := ?_) (a' := ?_) #[bY,bY,bN,bY,bY,bN,bN] rfl rfl (by kernel_rfl) (fun _ _ _ h => h) (Or.inl ⟨by rfl, ?_⟩) hHeld ?_ ?_
  rotate_left
  ·rintro w' ⟨s0, s1, s2, s3, s4, s5, s6⟩
   go_simp
   with_reducible rfl
  rotate_left
  ·simp only [Act.put, sTA, sZ, sS, i64_w, i32_w]
   rfl
  refine one_ (i := 2) (N := some 16) #[bY,bY,bY,bY,bY,bN,bN] rfl rfl (by kernel_rfl) (by decide) (fun K hK => ?_)
  refine goes_ Try.func25 (by kernel_rfl) rfl #[.agg #[.int .i64 a0_0, .int .i64 a0_1, .int .i64 a0_2], .agg #[.int .i64 a1_0, .int .i64 a1_1]] (by rfl) rfl rfl zD ?_
  with_reducible refine (impl_PatternAt.calls k a0_0 a0_1 a0_2 a1_0 a1_1 t518 _ A5.out).mono ?_
  rintro e w113 ⟨rfl, hb⟩
  refine ⟨_, rfl, ?_⟩
  have n0_ := zB BK515 hb
  have n1_ := zB BK516 hb
  have n2_ := zB BK517 hb
  have n3_ := aK (bSp (zH3 HB GE515 GE516 GE517) hb)
  clear BK515
  clear BK516
  clear BK517
  clear HB
  have BK515 := n0_
  have BK516 := n1_
  have BK517 := n2_
  have HB := n3_
  clear n0_ n1_ n2_ n3_
  (try clear hb)
  (try clear hb2)
  (try clear hk)
  (try clear hi)
  refine hK.out _ _ ⟨zQ BK515 0, zQ BK515 1, zQ BK515 2, zQ BK516 0, zQ BK516 1, zQ BK517 0, zQ BK517 1⟩ (fun hHeld => ?_)
  clear hK K
  refine norm_ (a' := ?_) ?_ ?_
  rotate_left
  ·show Act.put _ (some 16) _ = _
   simp only [Act.put, sTA, sZ, sS, i64_w, i32_w]
   rfl
  refine one_ (i := 5) (N := some 19) #[bY,bY,bY,bY,bY,bY,bN] rfl rfl (by kernel_rfl) (by decide) (fun K hK => ?_)
  refine goes_ Try.func25 (by kernel_rfl) rfl #[.agg #[.int .i64 a0_0, .int .i64 a0_1, .int .i64 a0_2], .agg #[.int .i64 a2_0, .int .i64 a2_1]] (by rfl) rfl rfl zD ?_
  with_reducible refine (impl_PatternAt.calls k a0_0 a0_1 a0_2 a2_0 a2_1 t519 _ A6.out).mono ?_
  rintro e w114 ⟨rfl, hb⟩
  refine ⟨_, rfl, ?_⟩
  have n0_ := zB BK515 hb
  have n1_ := zB BK516 hb
  have n2_ := zB BK517 hb
  have n3_ := aK (bSp (zH3 HB GE515 GE516 GE517) hb)
  clear BK515
  clear BK516
  clear BK517
  clear HB
  have BK515 := n0_
  have BK516 := n1_
  have BK517 := n2_
  have HB := n3_
  clear n0_ n1_ n2_ n3_
  (try clear hb)
  (try clear hb2)
  (try clear hk)
  (try clear hi)
  refine hK.out _ _ ⟨zQ BK515 0, zQ BK515 1, zQ BK515 2, zQ BK516 0, zQ BK516 1, zQ BK517 0, zQ BK517 1⟩ (fun hHeld => ?_)
  clear hK K
  refine norm_ (a' := ?_) ?_ ?_
  rotate_left
  ·show Act.put _ (some 19) _ = _
   simp only [Act.put, sTA, sZ, sS, i64_w, i32_w]
   rfl
  refine pure_ (i := 6) (N := some 20) (v := ?_) (a' := ?_) #[bY,bY,bY,bY,bY,bY,bY] rfl rfl (by kernel_rfl) (fun _ _ _ h => h) (Or.inl ⟨by rfl, ?_⟩) ?_ ?_
  rotate_left
  ·intro w'
   go_simp
   with_reducible rfl
  rotate_left
  ·simp only [Act.put, sTA, sZ, sS, i64_w, i32_w]
   rfl
  refine done_ (by kernel_rfl) ?_
  try go_wp2
  go_ret
  exact ⟨by first | rfl | (simp [errW_none, errW_some] <;> rfl) | (simp [*, errW_none, errW_some] <;> rfl), by repeat (first | (with_reducible first | exact HB.out | apply bAl | apply bDN | apply bD1 | refine bSt ?_ GE515.out | refine bSt ?_ GE516.out | refine bSt ?_ GE517.out) | exact HB.out)⟩
end Go.Proofs.Ytccjanhdnheclaa.F
end

section
namespace Go.Proofs.Ytccjanhdnheclaa.F
open Go.RowKit Go.Proofs.YtccjanhdnheclaaW.PrintWords Go.Proofs.YtccjanhdnheclaaW.PrintLast Go.Proofs.YtccjanhdnheclaaW.PrintMore
set_option linter.unusedVariables false
set_option linter.unusedSimpArgs false
attribute [local go_sem] max2_int min2_int max_two min_two
set_option maxHeartbeats 8000000 in
set_option maxRecDepth 100000 in
theorem impl_LikeWalkers.calls (k : Nat) (a0_0 : Int) (a0_1 : Int) (a0_2 : Int) (a1_0 : Int) (a1_1 : Int) (a2_0 : Int) (a2_1 : Int) (a3 : Int) (r : Bool) (w : World) (h : impl_LikeWalkers.f k a0_0 a0_1 a0_2 a1_0 a1_1 a2_0 a2_1 a3 = some r) :
  Calls Try.prog 24 #[.agg #[.int .i64 a0_0, .int .i64 a0_1, .int .i64 a0_2], .agg #[.int .i64 a1_0, .int .i64 a1_1], .agg #[.int .i64 a2_0, .int .i64 a2_1], .int .i64 a3] w fun e w' => e = .returned (.bool r) ∧ Below w.heap.size w w' := by
 have hu30 := Try.underlying30
 have hu43 := Try.underlying43
 have HB := aK (Below.refl w.heap.size w)
 have H : ((impl_WalkerOk.f a0_0 a0_1 a0_2 a1_0 a1_1).bind fun t532 => (if t532 = true then ((impl_WalkerOk.f a0_0 a0_1 a0_2 a2_0 a2_1).bind fun t533 => (if t533 = true then (if a3 ≥ 0 then (if a3 ≤ 6 then ((impl_alike.f k a0_0 a0_1 a0_2 a1_0 a1_1 a2_0 a2_1 a3).bind fun t534 => (some t534)) else (some false)) else (some false)) else (some false))) else (some false))) = some r := h
 clear h
 replace H := Option.bind_eq_some_iff.mp H
 obtain ⟨t532, A50, H⟩ := H
 replace H : (if t532 = true then ((impl_WalkerOk.f a0_0 a0_1 a0_2 a2_0 a2_1).bind fun t533 => (if t533 = true then (if a3 ≥ 0 then (if a3 ≤ 6 then ((impl_alike.f k a0_0 a0_1 a0_2 a1_0 a1_1 a2_0 a2_1 a3).bind fun t534 => (some t534)) else (some false)) else (some false)) else (some false))) else (some false)) = some r := H
 have A5 := aK A50
 clear A50
 by_cases c6 : t532 = true
 ·subst c6
  have H1 : ((impl_WalkerOk.f a0_0 a0_1 a0_2 a2_0 a2_1).bind fun t533 => (if t533 = true then (if a3 ≥ 0 then (if a3 ≤ 6 then ((impl_alike.f k a0_0 a0_1 a0_2 a1_0 a1_1 a2_0 a2_1 a3).bind fun t534 => (some t534)) else (some false)) else (some false)) else (some false))) = some r := by rw [if_pos rfl] at H; exact H
  clear H
  have H := H1
  clear H1
  replace H := Option.bind_eq_some_iff.mp H
  obtain ⟨t533, A70, H⟩ := H
  replace H : (if t533 = true then (if a3 ≥ 0 then (if a3 ≤ 6 then ((impl_alike.f k a0_0 a0_1 a0_2 a1_0 a1_1 a2_0 a2_1 a3).bind fun t534 => (some t534)) else (some false)) else (some false)) else (some false)) = some r := H
  have A7 := aK A70
  clear A70
  by_cases c8 : t533 = true
  ·subst c8
   have H1 : (if a3 ≥ 0 then (if a3 ≤ 6 then ((impl_alike.f k a0_0 a0_1 a0_2 a1_0 a1_1 a2_0 a2_1 a3).bind fun t534 => (some t534)) else (some false)) else (some false)) = some r := by rw [if_pos rfl] at H; exact H
   clear H
   have H := H1
   clear H1
   by_cases c9 : a3 ≥ 0
   ·rw [if_pos c9] at H
    have c9b0 : decide (0 ≤ a3) = true := decide_eq_true c9
    clear c9
    by_cases c10 : a3 ≤ 6
    ·rw [if_pos c10] at H
     have c10b0 : decide (a3 ≤ 6) = true := decide_eq_true c10
     clear c10
     replace H := Option.bind_eq_some_iff.mp H
     obtain ⟨t534, A110, H⟩ := H
     replace H : (some t534) = some r := H
     have A11 := aK A110
     clear A110
     obtain rfl := Option.some.inj H
     go_enter Try.func24, Try.ntmps24
     go_wp2_with (first | ((with_reducible refine gate_dst (N := 4) rfl ?_); refine box_event ?hg (N := 4) ?hd (cs := #[.int .i64 a0_0, .int .i64 a0_1, .int .i64 a0_2]) (t := 30) ?hr ?_; (case hd => rfl); (case hg => rfl); (case hr => first | (go_simp; done) | (go_simp; rfl)); intro gb529 hg w12 hbox hb; have BK529 := aK (hbox); have GW529 := aK ((by rw [hg]; exact (bSz (zH0 HB)) : w.heap.size ≤ gb529)); replace HB := aK (bSp (zH0 HB) hb); have GE529 := GW529; clear hb hbox hg) | ((with_reducible refine gate_dst (N := 5) rfl ?_); refine box_event ?hg (N := 5) ?hd (cs := #[.int .i64 a1_0, .int .i64 a1_1]) (t := 43) ?hr ?_; (case hd => rfl); (case hg => rfl); (case hr => first | (go_simp; done) | (go_simp; rfl)); intro gb530 hg w13 hbox hb; have BK530 := aK (hbox); have GW530 := aK ((by rw [hg]; exact (bSz (zH1 HB GE529)) : w.heap.size ≤ gb530)); replace HB := aK (bSp (zH1 HB GE529) hb); have GE530 := GW530; have NB529_530 := nbl BK529 hg (by intro z_; (with_reducible repeat (first | refine kDN ?_ _ | refine kD ?_ | refine blk_alloc ?_ _)); exact z_); replace BK529 := zB BK529 hb; have NB530_529 := nbs NB529_530; clear hb hbox hg) | ((with_reducible refine gate_dst (N := 6) rfl ?_); refine box_event ?hg (N := 6) ?hd (cs := #[.int .i64 a2_0, .int .i64 a2_1]) (t := 43) ?hr ?_; (case hd => rfl); (case hg => rfl); (case hr => first | (go_simp; done) | (go_simp; rfl)); intro gb531 hg w14 hbox hb; have BK531 := aK (hbox); have GW531 := aK ((by rw [hg]; exact (bSz (zH2 HB GE529 GE530)) : w.heap.size ≤ gb531)); replace HB := aK (bSp (zH2 HB GE529 GE530) hb); have GE531 := GW531; have NB529_531 := nbl BK529 hg (by intro z_; (with_reducible repeat (first | refine kDN ?_ _ | refine kD ?_ | refine blk_alloc ?_ _)); exact z_); replace BK529 := zB BK529 hb; have NB531_529 := nbs NB529_531; have NB530_531 := nbl BK530 hg (by intro z_; (with_reducible repeat (first | refine kDN ?_ _ | refine kD ?_ | refine blk_alloc ?_ _)); exact z_); replace BK530 := zB BK530 hb; have NB531_530 := nbs NB530_531; clear hb hbox hg; have hnb15 := NB529_530.out; have hnc15 := NB530_529.out; have hnb16 := NB529_531.out; have hnc16 := NB531_529.out; obtain ⟨hcz17_0, hcz17_1, hcz17_2, hfz17_0, hfz17_1, hfz17_2⟩ := cl3 BK529.out; have hnb18 := NB530_531.out; have hnc18 := NB531_530.out; obtain ⟨hcz19_0, hcz19_1, hfz19_0, hfz19_1⟩ := cl2 BK530.out) | ((with_reducible refine gate_callee (f := 50) rfl ?_); refine goesL_ (some 11) rfl rfl Try.func50 (by kernel_rfl) rfl #[.agg #[.int .i64 a0_0, .int .i64 a0_1, .int .i64 a0_2], .agg #[.int .i64 a1_0, .int .i64 a1_1]] rfl zD ?_; (with_reducible refine (impl_WalkerOk.calls a0_0 a0_1 a0_2 a1_0 a1_1 true _ A5.out).mono ?_); rintro e w20 ⟨rfl, hb⟩; refine ⟨_, rfl, ?_⟩; replace BK529 := zB BK529 hb; replace BK530 := zB BK530 hb; replace BK531 := zB BK531 hb; replace HB := aK (bSp (zH3 HB GE529 GE530 GE531) hb); (try clear hb); (try clear hb2); (try clear hk); (try clear hi); obtain ⟨hcz21_0, hcz21_1, hcz21_2, hfz21_0, hfz21_1, hfz21_2⟩ := cl3 BK529.out; obtain ⟨hcz22_0, hcz22_1, hfz22_0, hfz22_1⟩ := cl2 BK531.out) | (go_at_call 50; (with_reducible refine (impl_WalkerOk.calls a0_0 a0_1 a0_2 a2_0 a2_1 true _ A7.out).mono ?_); rintro e w23 ⟨rfl, hb⟩; replace BK529 := zB BK529 hb; replace BK530 := zB BK530 hb; replace BK531 := zB BK531 hb; replace HB := aK (bSp (zH3 HB GE529 GE530 GE531) hb); (try clear hb); (try clear hb2); (try clear hk); (try clear hi); obtain ⟨hcz24_0, hcz24_1, hcz24_2, hfz24_0, hfz24_1, hfz24_2⟩ := cl3 BK529.out; obtain ⟨hcz25_0, hcz25_1, hfz25_0, hfz25_1⟩ := cl2 BK530.out; obtain ⟨hcz26_0, hcz26_1, hfz26_0, hfz26_1⟩ := cl2 BK531.out) | (go_at_call 55; (with_reducible refine (impl_alike.calls k a0_0 a0_1 a0_2 a1_0 a1_1 a2_0 a2_1 a3 t534 _ A11.out).mono ?_); rintro e w27 ⟨rfl, hb⟩; replace BK529 := zB BK529 hb; replace BK530 := zB BK530 hb; replace BK531 := zB BK531 hb; replace HB := aK (bSp (zH3 HB GE529 GE530 GE531) hb); (try clear hb); (try clear hb2); (try clear hk); (try clear hi)))
     go_ret
     exact ⟨by first | rfl | (simp [errW_none, errW_some] <;> rfl) | (simp [*, errW_none, errW_some] <;> rfl), by repeat (first | (with_reducible first | exact HB.out | apply bAl | apply bDN | apply bD1 | refine bSt ?_ GE529.out | refine bSt ?_ GE530.out | refine bSt ?_ GE531.out) | exact HB.out)⟩
    ·rw [if_neg c10] at H
     have c10b0 : decide (a3 ≤ 6) = false := decide_eq_false c10
     clear c10
     obtain rfl := Option.some.inj H
     go_enter Try.func24, Try.ntmps24
     go_wp2_with (first | ((with_reducible refine gate_dst (N := 4) rfl ?_); refine box_event ?hg (N := 4) ?hd (cs := #[.int .i64 a0_0, .int .i64 a0_1, .int .i64 a0_2]) (t := 30) ?hr ?_; (case hd => rfl); (case hg => rfl); (case hr => first | (go_simp; done) | (go_simp; rfl)); intro gb529 hg w28 hbox hb; have BK529 := aK (hbox); have GW529 := aK ((by rw [hg]; exact (bSz (zH0 HB)) : w.heap.size ≤ gb529)); replace HB := aK (bSp (zH0 HB) hb); have GE529 := GW529; clear hb hbox hg) | ((with_reducible refine gate_dst (N := 5) rfl ?_); refine box_event ?hg (N := 5) ?hd (cs := #[.int .i64 a1_0, .int .i64 a1_1]) (t := 43) ?hr ?_; (case hd => rfl); (case hg => rfl); (case hr => first | (go_simp; done) | (go_simp; rfl)); intro gb530 hg w29 hbox hb; have BK530 := aK (hbox); have GW530 := aK ((by rw [hg]; exact (bSz (zH1 HB GE529)) : w.heap.size ≤ gb530)); replace HB := aK (bSp (zH1 HB GE529) hb); have GE530 := GW530; have NB529_530 := nbl BK529 hg (by intro z_; (with_reducible repeat (first | refine kDN ?_ _ | refine kD ?_ | refine blk_alloc ?_ _)); exact z_); replace BK529 := zB BK529 hb; have NB530_529 := nbs NB529_530; clear hb hbox hg) | ((with_reducible refine gate_dst (N := 6) rfl ?_); refine box_event ?hg (N := 6) ?hd (cs := #[.int .i64 a2_0, .int .i64 a2_1]) (t := 43) ?hr ?_; (case hd => rfl); (case hg => rfl); (case hr => first | (go_simp; done) | (go_simp; rfl)); intro gb531 hg w30 hbox hb; have BK531 := aK (hbox); have GW531 := aK ((by rw [hg]; exact (bSz (zH2 HB GE529 GE530)) : w.heap.size ≤ gb531)); replace HB := aK (bSp (zH2 HB GE529 GE530) hb); have GE531 := GW531; have NB529_531 := nbl BK529 hg (by intro z_; (with_reducible repeat (first | refine kDN ?_ _ | refine kD ?_ | refine blk_alloc ?_ _)); exact z_); replace BK529 := zB BK529 hb; have NB531_529 := nbs NB529_531; have NB530_531 := nbl BK530 hg (by intro z_; (with_reducible repeat (first | refine kDN ?_ _ | refine kD ?_ | refine blk_alloc ?_ _)); exact z_); replace BK530 := zB BK530 hb; have NB531_530 := nbs NB530_531; clear hb hbox hg; have hnb31 := NB529_530.out; have hnc31 := NB530_529.out; have hnb32 := NB529_531.out; have hnc32 := NB531_529.out; obtain ⟨hcz33_0, hcz33_1, hcz33_2, hfz33_0, hfz33_1, hfz33_2⟩ := cl3 BK529.out; have hnb34 := NB530_531.out; have hnc34 := NB531_530.out; obtain ⟨hcz35_0, hcz35_1, hfz35_0, hfz35_1⟩ := cl2 BK530.out) | ((with_reducible refine gate_callee (f := 50) rfl ?_); refine goesL_ (some 11) rfl rfl Try.func50 (by kernel_rfl) rfl #[.agg #[.int .i64 a0_0, .int .i64 a0_1, .int .i64 a0_2], .agg #[.int .i64 a1_0, .int .i64 a1_1]] rfl zD ?_; (with_reducible refine (impl_WalkerOk.calls a0_0 a0_1 a0_2 a1_0 a1_1 true _ A5.out).mono ?_); rintro e w36 ⟨rfl, hb⟩; refine ⟨_, rfl, ?_⟩; replace BK529 := zB BK529 hb; replace BK530 := zB BK530 hb; replace BK531 := zB BK531 hb; replace HB := aK (bSp (zH3 HB GE529 GE530 GE531) hb); (try clear hb); (try clear hb2); (try clear hk); (try clear hi); obtain ⟨hcz37_0, hcz37_1, hcz37_2, hfz37_0, hfz37_1, hfz37_2⟩ := cl3 BK529.out; obtain ⟨hcz38_0, hcz38_1, hfz38_0, hfz38_1⟩ := cl2 BK531.out) | (go_at_call 50; (with_reducible refine (impl_WalkerOk.calls a0_0 a0_1 a0_2 a2_0 a2_1 true _ A7.out).mono ?_); rintro e w39 ⟨rfl, hb⟩; replace BK529 := zB BK529 hb; replace BK530 := zB BK530 hb; replace BK531 := zB BK531 hb; replace HB := aK (bSp (zH3 HB GE529 GE530 GE531) hb); (try clear hb); (try clear hb2); (try clear hk); (try clear hi)))
     go_ret
     exact ⟨by first | rfl | (simp [errW_none, errW_some] <;> rfl) | (simp [*, errW_none, errW_some] <;> rfl), by repeat (first | (with_reducible first | exact HB.out | apply bAl | apply bDN | apply bD1 | refine bSt ?_ GE529.out | refine bSt ?_ GE530.out | refine bSt ?_ GE531.out) | exact HB.out)⟩
   ·rw [if_neg c9] at H
    have c9b0 : decide (0 ≤ a3) = false := decide_eq_false c9
    clear c9
    obtain rfl := Option.some.inj H
    go_enter Try.func24, Try.ntmps24
    go_wp2_with (first | ((with_reducible refine gate_dst (N := 4) rfl ?_); refine box_event ?hg (N := 4) ?hd (cs := #[.int .i64 a0_0, .int .i64 a0_1, .int .i64 a0_2]) (t := 30) ?hr ?_; (case hd => rfl); (case hg => rfl); (case hr => first | (go_simp; done) | (go_simp; rfl)); intro gb529 hg w40 hbox hb; have BK529 := aK (hbox); have GW529 := aK ((by rw [hg]; exact (bSz (zH0 HB)) : w.heap.size ≤ gb529)); replace HB := aK (bSp (zH0 HB) hb); have GE529 := GW529; clear hb hbox hg) | ((with_reducible refine gate_dst (N := 5) rfl ?_); refine box_event ?hg (N := 5) ?hd (cs := #[.int .i64 a1_0, .int .i64 a1_1]) (t := 43) ?hr ?_; (case hd => rfl); (case hg => rfl); (case hr => first | (go_simp; done) | (go_simp; rfl)); intro gb530 hg w41 hbox hb; have BK530 := aK (hbox); have GW530 := aK ((by rw [hg]; exact (bSz (zH1 HB GE529)) : w.heap.size ≤ gb530)); replace HB := aK (bSp (zH1 HB GE529) hb); have GE530 := GW530; have NB529_530 := nbl BK529 hg (by intro z_; (with_reducible repeat (first | refine kDN ?_ _ | refine kD ?_ | refine blk_alloc ?_ _)); exact z_); replace BK529 := zB BK529 hb; have NB530_529 := nbs NB529_530; clear hb hbox hg) | ((with_reducible refine gate_dst (N := 6) rfl ?_); refine box_event ?hg (N := 6) ?hd (cs := #[.int .i64 a2_0, .int .i64 a2_1]) (t := 43) ?hr ?_; (case hd => rfl); (case hg => rfl); (case hr => first | (go_simp; done) | (go_simp; rfl)); intro gb531 hg w42 hbox hb; have BK531 := aK (hbox); have GW531 := aK ((by rw [hg]; exact (bSz (zH2 HB GE529 GE530)) : w.heap.size ≤ gb531)); replace HB := aK (bSp (zH2 HB GE529 GE530) hb); have GE531 := GW531; have NB529_531 := nbl BK529 hg (by intro z_; (with_reducible repeat (first | refine kDN ?_ _ | refine kD ?_ | refine blk_alloc ?_ _)); exact z_); replace BK529 := zB BK529 hb; have NB531_529 := nbs NB529_531; have NB530_531 := nbl BK530 hg (by intro z_; (with_reducible repeat (first | refine kDN ?_ _ | refine kD ?_ | refine blk_alloc ?_ _)); exact z_); replace BK530 := zB BK530 hb; have NB531_530 := nbs NB530_531; clear hb hbox hg; have hnb43 := NB529_530.out; have hnc43 := NB530_529.out; have hnb44 := NB529_531.out; have hnc44 := NB531_529.out; obtain ⟨hcz45_0, hcz45_1, hcz45_2, hfz45_0, hfz45_1, hfz45_2⟩ := cl3 BK529.out; have hnb46 := NB530_531.out; have hnc46 := NB531_530.out; obtain ⟨hcz47_0, hcz47_1, hfz47_0, hfz47_1⟩ := cl2 BK530.out) | ((with_reducible refine gate_callee (f := 50) rfl ?_); refine goesL_ (some 11) rfl rfl Try.func50 (by kernel_rfl) rfl #[.agg #[.int .i64 a0_0, .int .i64 a0_1, .int .i64 a0_2], .agg #[.int .i64 a1_0, .int .i64 a1_1]] rfl zD ?_; (with_reducible refine (impl_WalkerOk.calls a0_0 a0_1 a0_2 a1_0 a1_1 true _ A5.out).mono ?_); rintro e w48 ⟨rfl, hb⟩; refine ⟨_, rfl, ?_⟩; replace BK529 := zB BK529 hb; replace BK530 := zB BK530 hb; replace BK531 := zB BK531 hb; replace HB := aK (bSp (zH3 HB GE529 GE530 GE531) hb); (try clear hb); (try clear hb2); (try clear hk); (try clear hi); obtain ⟨hcz49_0, hcz49_1, hcz49_2, hfz49_0, hfz49_1, hfz49_2⟩ := cl3 BK529.out; obtain ⟨hcz50_0, hcz50_1, hfz50_0, hfz50_1⟩ := cl2 BK531.out) | (go_at_call 50; (with_reducible refine (impl_WalkerOk.calls a0_0 a0_1 a0_2 a2_0 a2_1 true _ A7.out).mono ?_); rintro e w51 ⟨rfl, hb⟩; replace BK529 := zB BK529 hb; replace BK530 := zB BK530 hb; replace BK531 := zB BK531 hb; replace HB := aK (bSp (zH3 HB GE529 GE530 GE531) hb); (try clear hb); (try clear hb2); (try clear hk); (try clear hi)))
    go_ret
    exact ⟨by first | rfl | (simp [errW_none, errW_some] <;> rfl) | (simp [*, errW_none, errW_some] <;> rfl), by repeat (first | (with_reducible first | exact HB.out | apply bAl | apply bDN | apply bD1 | refine bSt ?_ GE529.out | refine bSt ?_ GE530.out | refine bSt ?_ GE531.out) | exact HB.out)⟩
  ·replace c8 := Bool.eq_false_iff.mpr c8
   subst c8
   have H1 : (some false) = some r := by rw [if_neg (show ¬ (false = true) by decide)] at H; exact H
   clear H
   have H := H1
   clear H1
   obtain rfl := Option.some.inj H
   go_enter Try.func24, Try.ntmps24
   go_wp2_with (first | ((with_reducible refine gate_dst (N := 4) rfl ?_); refine box_event ?hg (N := 4) ?hd (cs := #[.int .i64 a0_0, .int .i64 a0_1, .int .i64 a0_2]) (t := 30) ?hr ?_; (case hd => rfl); (case hg => rfl); (case hr => first | (go_simp; done) | (go_simp; rfl)); intro gb529 hg w52 hbox hb; have BK529 := aK (hbox); have GW529 := aK ((by rw [hg]; exact (bSz (zH0 HB)) : w.heap.size ≤ gb529)); replace HB := aK (bSp (zH0 HB) hb); have GE529 := GW529; clear hb hbox hg) | ((with_reducible refine gate_dst (N := 5) rfl ?_); refine box_event ?hg (N := 5) ?hd (cs := #[.int .i64 a1_0, .int .i64 a1_1]) (t := 43) ?hr ?_; (case hd => rfl); (case hg => rfl); (case hr => first | (go_simp; done) | (go_simp; rfl)); intro gb530 hg w53 hbox hb; have BK530 := aK (hbox); have GW530 := aK ((by rw [hg]; exact (bSz (zH1 HB GE529)) : w.heap.size ≤ gb530)); replace HB := aK (bSp (zH1 HB GE529) hb); have GE530 := GW530; have NB529_530 := nbl BK529 hg (by intro z_; (with_reducible repeat (first | refine kDN ?_ _ | refine kD ?_ | refine blk_alloc ?_ _)); exact z_); replace BK529 := zB BK529 hb; have NB530_529 := nbs NB529_530; clear hb hbox hg) | ((with_reducible refine gate_dst (N := 6) rfl ?_); refine box_event ?hg (N := 6) ?hd (cs := #[.int .i64 a2_0, .int .i64 a2_1]) (t := 43) ?hr ?_; (case hd => rfl); (case hg => rfl); (case hr => first | (go_simp; done) | (go_simp; rfl)); intro gb531 hg w54 hbox hb; have BK531 := aK (hbox); have GW531 := aK ((by rw [hg]; exact (bSz (zH2 HB GE529 GE530)) : w.heap.size ≤ gb531)); replace HB := aK (bSp (zH2 HB GE529 GE530) hb); have GE531 := GW531; have NB529_531 := nbl BK529 hg (by intro z_; (with_reducible repeat (first | refine kDN ?_ _ | refine kD ?_ | refine blk_alloc ?_ _)); exact z_); replace BK529 := zB BK529 hb; have NB531_529 := nbs NB529_531; have NB530_531 := nbl BK530 hg (by intro z_; (with_reducible repeat (first | refine kDN ?_ _ | refine kD ?_ | refine blk_alloc ?_ _)); exact z_); replace BK530 := zB BK530 hb; have NB531_530 := nbs NB530_531; clear hb hbox hg; have hnb55 := NB529_530.out; have hnc55 := NB530_529.out; have hnb56 := NB529_531.out; have hnc56 := NB531_529.out; obtain ⟨hcz57_0, hcz57_1, hcz57_2, hfz57_0, hfz57_1, hfz57_2⟩ := cl3 BK529.out; have hnb58 := NB530_531.out; have hnc58 := NB531_530.out; obtain ⟨hcz59_0, hcz59_1, hfz59_0, hfz59_1⟩ := cl2 BK530.out) | ((with_reducible refine gate_callee (f := 50) rfl ?_); refine goesL_ (some 11) rfl rfl Try.func50 (by kernel_rfl) rfl #[.agg #[.int .i64 a0_0, .int .i64 a0_1, .int .i64 a0_2], .agg #[.int .i64 a1_0, .int .i64 a1_1]] rfl zD ?_; (with_reducible refine (impl_WalkerOk.calls a0_0 a0_1 a0_2 a1_0 a1_1 true _ A5.out).mono ?_); rintro e w60 ⟨rfl, hb⟩; refine ⟨_, rfl, ?_⟩; replace BK529 := zB BK529 hb; replace BK530 := zB BK530 hb; replace BK531 := zB BK531 hb; replace HB := aK (bSp (zH3 HB GE529 GE530 GE531) hb); (try clear hb); (try clear hb2); (try clear hk); (try clear hi); obtain ⟨hcz61_0, hcz61_1, hcz61_2, hfz61_0, hfz61_1, hfz61_2⟩ := cl3 BK529.out; obtain ⟨hcz62_0, hcz62_1, hfz62_0, hfz62_1⟩ := cl2 BK531.out) | (go_at_call 50; (with_reducible refine (impl_WalkerOk.calls a0_0 a0_1 a0_2 a2_0 a2_1 false _ A7.out).mono ?_); rintro e w63 ⟨rfl, hb⟩; replace BK529 := zB BK529 hb; replace BK530 := zB BK530 hb; replace BK531 := zB BK531 hb; replace HB := aK (bSp (zH3 HB GE529 GE530 GE531) hb); (try clear hb); (try clear hb2); (try clear hk); (try clear hi)))
   go_ret
   exact ⟨by first | rfl | (simp [errW_none, errW_some] <;> rfl) | (simp [*, errW_none, errW_some] <;> rfl), by repeat (first | (with_reducible first | exact HB.out | apply bAl | apply bDN | apply bD1 | refine bSt ?_ GE529.out | refine bSt ?_ GE530.out | refine bSt ?_ GE531.out) | exact HB.out)⟩
 ·replace c6 := Bool.eq_false_iff.mpr c6
  subst c6
  have H1 : (some false) = some r := by rw [if_neg (show ¬ (false = true) by decide)] at H; exact H
  clear H
  have H := H1
  clear H1
  obtain rfl := Option.some.inj H
  go_enter Try.func24, Try.ntmps24
  go_wp2_with (first | ((with_reducible refine gate_dst (N := 4) rfl ?_); refine box_event ?hg (N := 4) ?hd (cs := #[.int .i64 a0_0, .int .i64 a0_1, .int .i64 a0_2]) (t := 30) ?hr ?_; (case hd => rfl); (case hg => rfl); (case hr => first | (go_simp; done) | (go_simp; rfl)); intro gb529 hg w64 hbox hb; have BK529 := aK (hbox); have GW529 := aK ((by rw [hg]; exact (bSz (zH0 HB)) : w.heap.size ≤ gb529)); replace HB := aK (bSp (zH0 HB) hb); have GE529 := GW529; clear hb hbox hg) | ((with_reducible refine gate_dst (N := 5) rfl ?_); refine box_event ?hg (N := 5) ?hd (cs := #[.int .i64 a1_0, .int .i64 a1_1]) (t := 43) ?hr ?_; (case hd => rfl); (case hg => rfl); (case hr => first | (go_simp; done) | (go_simp; rfl)); intro gb530 hg w65 hbox hb; have BK530 := aK (hbox); have GW530 := aK ((by rw [hg]; exact (bSz (zH1 HB GE529)) : w.heap.size ≤ gb530)); replace HB := aK (bSp (zH1 HB GE529) hb); have GE530 := GW530; have NB529_530 := nbl BK529 hg (by intro z_; (with_reducible repeat (first | refine kDN ?_ _ | refine kD ?_ | refine blk_alloc ?_ _)); exact z_); replace BK529 := zB BK529 hb; have NB530_529 := nbs NB529_530; clear hb hbox hg) | ((with_reducible refine gate_dst (N := 6) rfl ?_); refine box_event ?hg (N := 6) ?hd (cs := #[.int .i64 a2_0, .int .i64 a2_1]) (t := 43) ?hr ?_; (case hd => rfl); (case hg => rfl); (case hr => first | (go_simp; done) | (go_simp; rfl)); intro gb531 hg w66 hbox hb; have BK531 := aK (hbox); have GW531 := aK ((by rw [hg]; exact (bSz (zH2 HB GE529 GE530)) : w.heap.size ≤ gb531)); replace HB := aK (bSp (zH2 HB GE529 GE530) hb); have GE531 := GW531; have NB529_531 := nbl BK529 hg (by intro z_; (with_reducible repeat (first | refine kDN ?_ _ | refine kD ?_ | refine blk_alloc ?_ _)); exact z_); replace BK529 := zB BK529 hb; have NB531_529 := nbs NB529_531; have NB530_531 := nbl BK530 hg (by intro z_; (with_reducible repeat (first | refine kDN ?_ _ | refine kD ?_ | refine blk_alloc ?_ _)); exact z_); replace BK530 := zB BK530 hb; have NB531_530 := nbs NB530_531; clear hb hbox hg; have hnb67 := NB529_530.out; have hnc67 := NB530_529.out; have hnb68 := NB529_531.out; have hnc68 := NB531_529.out; obtain ⟨hcz69_0, hcz69_1, hcz69_2, hfz69_0, hfz69_1, hfz69_2⟩ := cl3 BK529.out; have hnb70 := NB530_531.out; have hnc70 := NB531_530.out; obtain ⟨hcz71_0, hcz71_1, hfz71_0, hfz71_1⟩ := cl2 BK530.out) | ((with_reducible refine gate_callee (f := 50) rfl ?_); refine goesL_ (some 11) rfl rfl Try.func50 (by kernel_rfl) rfl #[.agg #[.int .i64 a0_0, .int .i64 a0_1, .int .i64 a0_2], .agg #[.int .i64 a1_0, .int .i64 a1_1]] rfl zD ?_; (with_reducible refine (impl_WalkerOk.calls a0_0 a0_1 a0_2 a1_0 a1_1 false _ A5.out).mono ?_); rintro e w72 ⟨rfl, hb⟩; refine ⟨_, rfl, ?_⟩; replace BK529 := zB BK529 hb; replace BK530 := zB BK530 hb; replace BK531 := zB BK531 hb; replace HB := aK (bSp (zH3 HB GE529 GE530 GE531) hb); (try clear hb); (try clear hb2); (try clear hk); (try clear hi)))
  go_ret
  exact ⟨by first | rfl | (simp [errW_none, errW_some] <;> rfl) | (simp [*, errW_none, errW_some] <;> rfl), by repeat (first | (with_reducible first | exact HB.out | apply bAl | apply bDN | apply bD1 | refine bSt ?_ GE529.out | refine bSt ?_ GE530.out | refine bSt ?_ GE531.out) | exact HB.out)⟩
theorem impl_LikeWalkers.ctr {k : Nat} {a0_0 : Int} {a0_1 : Int} {a0_2 : Int} {a1_0 : Int} {a1_1 : Int} {a2_0 : Int} {a2_1 : Int} {a3 : Int} {r : Bool} (h : impl_LikeWalkers.f k a0_0 a0_1 a0_2 a1_0 a1_1 a2_0 a2_1 a3 = some r) : Ctr Try.prog 24 [.ag [.v (.int .i64 a0_0), .v (.int .i64 a0_1), .v (.int .i64 a0_2)], .ag [.v (.int .i64 a1_0), .v (.int .i64 a1_1)], .ag [.v (.int .i64 a2_0), .v (.int .i64 a2_1)], .v (.int .i64 a3)] (.v (.bool r)) := by
  refine ⟨enters_of Try.func24 rfl rfl, fun w ys hys => ?_⟩
  simp only [RepL, Rep] at hys
  obtain ⟨_, _, rfl, ⟨_, rfl, _, _, rfl, rfl, _, _, rfl, rfl, _, _, rfl, rfl, rfl⟩, _, _, rfl, ⟨_, rfl, _, _, rfl, rfl, _, _, rfl, rfl, rfl⟩, _, _, rfl, ⟨_, rfl, _, _, rfl, rfl, _, _, rfl, rfl, rfl⟩, _, _, rfl, rfl, rfl⟩ := hys
  refine (impl_LikeWalkers.calls _ _ _ _ _ _ _ _ _ _ w h).mono ?_
  rintro _ _ ⟨rfl, hb⟩
  exact ⟨_, [], rfl, (by first | (simp [RepR, RepRL]; done) | exact repR_vlu _ _ _ rfl), List.nodup_nil, (by first | exact hb | exact hb.below)⟩
end Go.Proofs.Ytccjanhdnheclaa.F
end

section
namespace Go.Proofs.Ytccjanhdnheclaa.F
open Go.RowKit Go.Proofs.YtccjanhdnheclaaW.PrintWords Go.Proofs.YtccjanhdnheclaaW.PrintLast Go.Proofs.YtccjanhdnheclaaW.PrintMore
set_option linter.unusedVariables false
set_option linter.unusedSimpArgs false
mutual
def laws_FnLocated.j0 : Nat → List Int → List Int → List Int → Bool → Int → Int → Int → Int → Int → Option (Bool)
  | 0, _, _, _, _, _, _, _, _, _ => none
  | k + 1, x0, x5, x6, x42, x545000, x545001, x545002, x546000, x546001 => if x42 = true then (some false) else (laws_FnLocated.l0 k x0 x5 x6 0 x545000 x545001 x545002 x546000 x546001 x546000 x546001)
def laws_FnLocated.l0 : Nat → List Int → List Int → List Int → Int → Int → Int → Int → Int → Int → Int → Int → Option (Bool)
  | 0, _, _, _, _, _, _, _, _, _, _, _ => none
  | k + 1, x0, x5, x6, x9, x545000, x545001, x545002, x546000, x546001, x551000, x551001 => if x9 < (x5.length : Int) then (if 0 ≤ x9 then ((spec_Step.f k x545000 x545001 x545002 x551000 (Int.tmod (wrap64 (x551001 + (rd x5 x9))) 4)).bind fun t552 => (laws_FnLocated.l0 k x0 x5 x6 (wrap64 (x9 + 1)) x545000 x545001 x545002 x546000 x546001 t552 (Int.tmod (wrap64 (x551001 + (rd x5 x9))) 4))) else (none)) else ((spec_CountCells.f x545000 x545001).bind fun t553 => (laws_FnLocated.l1 k x0 x5 x6 (wrap64 ((wrap64 (4 * t553)) + 1)) 0 x545000 x545001 x545002 x546000 x546001 x551000 x551001))
def laws_FnLocated.l1 : Nat → List Int → List Int → List Int → Int → Int → Int → Int → Int → Int → Int → Int → Int → Option (Bool)
  | 0, _, _, _, _, _, _, _, _, _, _, _, _ => none
  | k + 1, x0, x5, x6, x11, x12, x545000, x545001, x545002, x546000, x546001, x551000, x551001 => if x12 ≤ (x5.length : Int) then (if 0 ≤ (wrap64 (x12 + 1)) then (if (wrap64 (x12 + 1)) ≤ (x6.length : Int) then (if 0 ≤ x12 then ((impl_PossibleWalkers.f k x545000 x545001 x545002 (x6.take ((wrap64 (x12 + 1)) : Int).toNat) (x5.take (x12 : Int).toNat)).bind fun t562 => (if (t562.length : Int) < 1 then (some false) else (if (t562.length : Int) > x11 then (some false) else (laws_FnLocated.l1 k x0 x5 x6 (t562.length : Int) (wrap64 (x12 + 1)) x545000 x545001 x545002 x546000 x546001 x551000 x551001)))) else (none)) else (none)) else (none)) else ((impl_PossibleWalkers.f k x545000 x545001 x545002 x6 x5).bind fun t565 => (laws_FnLocated.l2 k x0 x5 x6 t565 false 0 x545000 x545001 x545002 x546000 x546001 x551000 x551001))
def laws_FnLocated.l2 : Nat → List Int → List Int → List Int → List (SWalker) → Bool → Int → Int → Int → Int → Int → Int → Int → Int → Option (Bool)
  | 0, _, _, _, _, _, _, _, _, _, _, _, _, _ => none
  | k + 1, x0, x5, x6, x14, x15, x16, x545000, x545001, x545002, x546000, x546001, x551000, x551001 => if x16 < (x14.length : Int) then (if x15 = true then (laws_FnLocated.l2 k x0 x5 x6 x14 true (wrap64 (x16 + 1)) x545000 x545001 x545002 x546000 x546001 x551000 x551001) else (if 0 ≤ x16 then (laws_FnLocated.l2 k x0 x5 x6 x14 (((rd_Walker x14 x16).f0) == x551000 && (((rd_Walker x14 x16).f1) == x551001)) (wrap64 (x16 + 1)) x545000 x545001 x545002 x546000 x546001 x551000 x551001) else (none))) else ((laws_at.f x0 0).bind fun t569 => ((spec_CountCells.f x545000 x545001).bind fun t570 => (if t570 = 0 then (none) else ((laws_at.f x0 1).bind fun t571 => (if x15 = true then ((impl_IsLocated.f k x545000 x545001 x545002 x6 x5).bind fun t573 => (if (t573 == ((x14.length : Int) == 1)) = true then ((impl_LikeWalkers.f k x545000 x545001 x545002 x546000 x546001 x546000 x546001 3).bind fun t574 => (if t574 = true then ((impl_LikeWalkers.f k x545000 x545001 x545002 x546000 x546001 (Int.tmod t569 t570) (Int.tmod t571 4) 2).bind fun t575 => ((impl_LikeWalkers.f k x545000 x545001 x545002 (Int.tmod t569 t570) (Int.tmod t571 4) x546000 x546001 2).bind fun t576 => (if (t575 == t576) = true then ((impl_LikeWalkers.f k x545000 x545001 x545002 x546000 x546001 (Int.tmod t569 t570) (Int.tmod t571 4) 1).bind fun t577 => (if t577 = true then ((impl_PatternAt.f k x545000 x545001 x545002 x546000 x546001).bind fun t578 => ((impl_PatternAt.f k x545000 x545001 x545002 (Int.tmod t569 t570) (Int.tmod t571 4)).bind fun t579 => (some (t578 == t579)))) else (some true))) else (some false)))) else (some false))) else (some false))) else (some false))))))
end
def laws_FnLocated.f (k : Nat) (l0 : List Int) : Option (Bool) := (laws_big.f l0).bind fun t535 => (if t535 = true then (some true) else ((spec_DrawReport.f k l0).bind fun bt536 => ((impl_ReportOf.f k bt536.1 bt536.2.1 bt536.2.2.1 bt536.2.2.2.1 bt536.2.2.2.2.1 bt536.2.2.2.2.2).bind fun bt546 => (if bt546.2 = true then (laws_FnLocated.j0 k l0 bt536.2.2.2.2.2 bt546.1 ((bt546.1.length : Int) != (wrap64 ((bt536.2.2.2.2.2.length : Int) + 1))) bt536.1 bt536.2.1 bt536.2.2.1 bt536.2.2.2.1 bt536.2.2.2.2.1) else (laws_FnLocated.j0 k l0 bt536.2.2.2.2.2 bt546.1 true bt536.1 bt536.2.1 bt536.2.2.1 bt536.2.2.2.1 bt536.2.2.2.2.1)))))
end Go.Proofs.Ytccjanhdnheclaa.F
end

section
namespace Go.Proofs.Ytccjanhdnheclaa.F
open Go.RowKit Go.Proofs.YtccjanhdnheclaaW.PrintWords Go.Proofs.YtccjanhdnheclaaW.PrintLast Go.Proofs.YtccjanhdnheclaaW.PrintMore
set_option linter.unusedVariables false
set_option linter.unusedSimpArgs false
attribute [local go_sem] max2_int min2_int max_two min_two
attribute [local go_sem high] eqA43
set_option maxRecDepth 20000 in set_option maxHeartbeats 4000000 in open Nat renaming reduceAdd → p1, reduceSub → p2, reduceMul → p3, reduceDiv → p4, reduceBNe → p5, reduceBEq → p6, reduceEqDiff → p7, reduceLeDiff → p8, reduceLT → p9 in open Int renaming reduceLE → p10, reduceLT → p11, reduceEq → p12 in
theorem laws_FnLocated.ctr {k : Nat} {l0 : List Int} {r : Bool} (h : laws_FnLocated.f k l0 = some r) : Ctr Try.prog 5 [.pr 1 (l0.map eU8)] (.v (.bool r)) := by
  refine Ctr_of tyOk hm Try.func5 rfl rfl (by kernel_rfl) (n := 166) (rv := [.tmp 2]) rfl rfl ?_
  simp only [W, List.replicate]
  unfold laws_FnLocated.f at h
  replace h := bnd h; obtain ⟨t1, A, h⟩ := h
  try simp only [W, p1, p2, p3, p4, p5, p6, p7, p8, p9, p10, p11, p12]
  refine callR (laws_big.ctr A) ?_
  replace h := ifT h; rcases h with ⟨rfl, h⟩ | ⟨rfl, h⟩
  · cases h
    try simp only [W, p1, p2, p3, p4, p5, p6, p7, p8, p9, p10, p11, p12]
  · replace h := bnd h; obtain ⟨⟨t3_1, t3_2, t3_3, t3_4, t3_5, t3_6⟩, A, h⟩ := h
    dsimp only at h
    try simp only [W, p1, p2, p3, p4, p5, p6, p7, p8, p9, p10, p11, p12]
    refine callR (spec_DrawReport.ctr A) ?_
    replace h := bnd h; obtain ⟨⟨t4_1, t4_2⟩, A, h⟩ := h
    dsimp only at h
    try simp only [W, p1, p2, p3, p4, p5, p6, p7, p8, p9, p10, p11, p12]
    refine callR (impl_ReportOf.ctr A) ?_
    replace h := ifT h; rcases h with ⟨rfl, h⟩ | ⟨rfl, h⟩
    · rcases k with _ | m6; · cases h
      rw [laws_FnLocated.j0] at h
      replace h := ifT h; rcases h with ⟨c7, h⟩ | ⟨c7, h⟩ <;> try simp only [bEq] at c7
      · cases h
        try simp only [W, c7, p1, p2, p3, p4, p5, p6, p7, p8, p9, p10, p11, p12]
      · try simp only [W, c7, p1, p2, p3, p4, p5, p6, p7, p8, p9, p10, p11, p12]
        refine loopN (fun x : List Int × List Int × List Int × Int × Int × Int × Int × Int × Int × Int × Int => [.pr 1 (List.map eU8 x.1), .u, .u, .bp 48 0, .bp 64 0, .lo 352, .lo 480, .u, .bp 128 0, .v (.int .i64 x.2.2.2.1), .u, .u, .u, .u, .u, .u, .u, .u, .u, .u, .u, .u, .u, .u, .u, .u, .u, .u, .u, .u, .u, .u, .u, .u, .u, .u, .u, .u, .u, .u, .u, .u, .u, .u, .u, .u, .u, .u, .u, .u, .u, .u, .u, .u, .u, .u, .u, .u, .u, .u, .u, .u, .u, .u, .u, .u, .u, .u, .u, .u, .u, .u, .u, .u, .u, .u, .u, .u, .u, .u, .u, .u, .u, .u, .u, .u, .u, .u, .u, .u, .u, .u, .u, .u, .u, .u, .u, .u, .u, .u, .u, .u, .u, .u, .u, .u, .u, .u, .u, .u, .u, .u, .u, .u, .u, .u, .u, .u, .u, .u, .u, .u, .u, .u, .u, .u, .u, .u, .u, .u, .u, .u, .u, .u, .u, .u, .u, .u, .u, .u, .u, .u, .u, .u, .u, .u, .u, .u, .u, .u, .u, .u, .u, .u, .u, .u, .u, .u, .u, .u, .u, .u, .u, .u, .u, .u, .u]) (fun x => [(48, .box 30 [.v (.int .i64 x.2.2.2.2.1), .v (.int .i64 x.2.2.2.2.2.1), .v (.int .i64 x.2.2.2.2.2.2.1)]), (64, .box 43 [.v (.int .i64 x.2.2.2.2.2.2.2.1), .v (.int .i64 x.2.2.2.2.2.2.2.2.1)]), (128, .box 43 [.v (.int .i64 x.2.2.2.2.2.2.2.2.2.1), .v (.int .i64 x.2.2.2.2.2.2.2.2.2.2)]), (352, .row 3 1 (List.map eI x.2.1)), (480, .row 3 1 (List.map eI x.2.2.1))]) (fun n x => laws_FnLocated.l0 n x.1 x.2.1 x.2.2.1 x.2.2.2.1 x.2.2.2.2.1 x.2.2.2.2.2.1 x.2.2.2.2.2.2.1 x.2.2.2.2.2.2.2.1 x.2.2.2.2.2.2.2.2.1 x.2.2.2.2.2.2.2.2.2.1 x.2.2.2.2.2.2.2.2.2.2 = some r) (l0, t3_6, t4_1, 0, t3_1, t3_2, t3_3, t3_4, t3_5, t3_4, t3_5) [] h (by simp only [W, p1, p2, p3, p4, p5, p6, p7, p8, p9, p10, p11, p12] <;> trivial) (by simp only [W, p1, p2, p3, p4, p5, p6, p7, p8, p9, p10, p11, p12] <;> trivial) rfl (fun _ h => by cases h) ?_
        intro n1 ⟨x8, x9, x10, x11, x12, x13, x14, x15, x16, x17, x18⟩ _ h
        simp only [laws_FnLocated.l0] at h
        replace h := ifS h; rcases h with ⟨c19, h⟩ | ⟨c19, h⟩
        · replace h := ifN h; obtain ⟨c20, h⟩ := h
          replace h := bnd h; obtain ⟨t21, A, h⟩ := h
          try simp only [W, c19, c20, p1, p2, p3, p4, p5, p6, p7, p8, p9, p10, p11, p12]
          refine callR (spec_Step.ctr A) ?_
          try simp only [W, c19, c20, p1, p2, p3, p4, p5, p6, p7, p8, p9, p10, p11, p12]
          exact nextN (x8, x9, x10, (wrap64 (x11 + 1)), x12, x13, x14, x15, x16, t21, (Int.tmod (wrap64 (x18 + (rd x9 x11))) 4)) [] n1 (by omega) h (by simp only [W, p1, p2, p3, p4, p5, p6, p7, p8, p9, p10, p11, p12] <;> trivial) (by simp only [W, p1, p2, p3, p4, p5, p6, p7, p8, p9, p10, p11, p12] <;> trivial) rfl
        · replace h := bnd h; obtain ⟨t20, A, h⟩ := h
          try simp only [W, c19, p1, p2, p3, p4, p5, p6, p7, p8, p9, p10, p11, p12]
          refine callR (spec_CountCells.ctr A) ?_
          try simp only [W, c19, p1, p2, p3, p4, p5, p6, p7, p8, p9, p10, p11, p12]
          refine loopN (fun x : List Int × List Int × List Int × Int × Int × Int × Int × Int × Int × Int × Int × Int => [.pr 1 (List.map eU8 x.1), .u, .u, .bp 48 0, .bp 64 0, .lo 352, .lo 480, .u, .bp 128 0, .u, .u, .v (.int .i64 x.2.2.2.1), .v (.int .i64 x.2.2.2.2.1), .u, .u, .u, .u, .u, .u, .u, .u, .u, .u, .u, .u, .u, .u, .u, .u, .u, .u, .u, .u, .u, .u, .u, .u, .u, .u, .u, .u, .u, .u, .u, .u, .u, .u, .u, .u, .u, .u, .u, .u, .u, .u, .u, .u, .u, .u, .u, .u, .u, .u, .u, .u, .bp 48 0, .u, .u, .u, .u, .u, .u, .u, .u, .u, .u, .u, .u, .u, .u, .u, .u, .u, .u, .u, .u, .u, .u, .u, .u, .u, .u, .u, .u, .u, .u, .u, .u, .u, .u, .u, .u, .u, .u, .u, .u, .u, .u, .u, .u, .u, .u, .u, .u, .u, .u, .u, .u, .u, .u, .u, .u, .u, .u, .u, .u, .u, .u, .u, .u, .u, .u, .u, .u, .u, .u, .u, .u, .u, .u, .u, .u, .u, .u, .u, .u, .u, .u, .u, .u, .u, .u, .u, .u, .u, .u, .u, .u, .u, .u, .u, .u, .u, .u, .u, .u, .u]) (fun x => [(48, .box 30 [.v (.int .i64 x.2.2.2.2.2.1), .v (.int .i64 x.2.2.2.2.2.2.1), .v (.int .i64 x.2.2.2.2.2.2.2.1)]), (64, .box 43 [.v (.int .i64 x.2.2.2.2.2.2.2.2.1), .v (.int .i64 x.2.2.2.2.2.2.2.2.2.1)]), (128, .box 43 [.v (.int .i64 x.2.2.2.2.2.2.2.2.2.2.1), .v (.int .i64 x.2.2.2.2.2.2.2.2.2.2.2)]), (352, .row 3 1 (List.map eI x.2.1)), (480, .row 3 1 (List.map eI x.2.2.1))]) (fun n x => laws_FnLocated.l1 n x.1 x.2.1 x.2.2.1 x.2.2.2.1 x.2.2.2.2.1 x.2.2.2.2.2.1 x.2.2.2.2.2.2.1 x.2.2.2.2.2.2.2.1 x.2.2.2.2.2.2.2.2.1 x.2.2.2.2.2.2.2.2.2.1 x.2.2.2.2.2.2.2.2.2.2.1 x.2.2.2.2.2.2.2.2.2.2.2 = some r) (x8, x9, x10, (wrap64 ((wrap64 (4 * t20)) + 1)), 0, x12, x13, x14, x15, x16, x17, x18) [] h (by simp only [W, p1, p2, p3, p4, p5, p6, p7, p8, p9, p10, p11, p12] <;> trivial) (by simp only [W, p1, p2, p3, p4, p5, p6, p7, p8, p9, p10, p11, p12] <;> trivial) rfl (fun _ h => by cases h) ?_
          intro n2 ⟨x21, x22, x23, x24, x25, x26, x27, x28, x29, x30, x31, x32⟩ _ h
          simp only [laws_FnLocated.l1] at h
          replace h := ifS h; rcases h with ⟨c33, h⟩ | ⟨c33, h⟩
          · replace h := ifN h; obtain ⟨c34, h⟩ := h
            replace h := ifN h; obtain ⟨c35, h⟩ := h
            replace h := ifN h; obtain ⟨c36, h⟩ := h
            replace h := bnd h; obtain ⟨t37, A, h⟩ := h
            try simp only [W, c33, c34, c35, c36, p1, p2, p3, p4, p5, p6, p7, p8, p9, p10, p11, p12]
            first | refine callR (impl_PossibleWalkers.ctr A) ?_ | refine callRE (impl_PossibleWalkers.ctr A) (by simp only [List.map_take, List.map_drop, List.map_append]; rfl) ?_
            replace h := ifS h; rcases h with ⟨c38, h⟩ | ⟨c38, h⟩
            · cases h
              try simp only [W, c33, c34, c35, c36, c38, p1, p2, p3, p4, p5, p6, p7, p8, p9, p10, p11, p12]
            · replace h := ifS h; rcases h with ⟨c39, h⟩ | ⟨c39, h⟩
              · cases h
                try simp only [W, c33, c34, c35, c36, c38, c39, p1, p2, p3, p4, p5, p6, p7, p8, p9, p10, p11, p12]
              · try simp only [W, c33, c34, c35, c36, c38, c39, p1, p2, p3, p4, p5, p6, p7, p8, p9, p10, p11, p12]
                exact nextN (x21, x22, x23, (t37.length : Int), (wrap64 (x25 + 1)), x26, x27, x28, x29, x30, x31, x32) [] n2 (by omega) h (by simp only [W, p1, p2, p3, p4, p5, p6, p7, p8, p9, p10, p11, p12] <;> trivial) (by simp only [W, p1, p2, p3, p4, p5, p6, p7, p8, p9, p10, p11, p12] <;> trivial) rfl
          · replace h := bnd h; obtain ⟨t34, A, h⟩ := h
            try simp only [W, c33, p1, p2, p3, p4, p5, p6, p7, p8, p9, p10, p11, p12]
            refine callR (impl_PossibleWalkers.ctr A) ?_
            try simp only [W, c33, p1, p2, p3, p4, p5, p6, p7, p8, p9, p10, p11, p12]
            refine loopN (fun x : List Int × List Int × List Int × List (SWalker) × Bool × Int × Int × Int × Int × Int × Int × Int × Int => [.pr 1 (List.map eU8 x.1), .u, .u, .bp 48 0, .bp 64 0, .lo 352, .lo 480, .u, .bp 128 0, .u, .u, .u, .u, .u, .lo 1552, .v (.bool x.2.2.2.2.1), .v (.int .i64 x.2.2.2.2.2.1), .u, .u, .u, .u, .u, .u, .u, .u, .u, .u, .u, .u, .u, .u, .u, .u, .u, .u, .u, .u, .u, .u, .u, .u, .u, .u, .u, .u, .u, .u, .u, .u, .u, .u, .u, .u, .u, .u, .u, .u, .u, .u, .u, .u, .u, .u, .u, .u, .bp 48 0, .u, .u, .u, .u, .u, .u, .u, .u, .u, .u, .u, .u, .u, .u, .u, .u, .u, .u, .u, .u, .u, .u, .u, .u, .u, .u, .u, .u, .u, .u, .u, .u, .u, .u, .u, .u, .u, .u, .u, .u, .u, .u, .u, .u, .u, .u, .u, .u, .u, .u, .u, .u, .u, .u, .u, .u, .u, .u, .u, .u, .u, .u, .u, .u, .u, .u, .u, .u, .u, .u, .u, .u, .u, .u, .u, .u, .u, .u, .u, .u, .u, .u, .u, .u, .u, .u, .u, .u, .u, .u, .u, .u, .u, .u, .u, .u, .u, .u, .u, .u, .u]) (fun x => [(48, .box 30 [.v (.int .i64 x.2.2.2.2.2.2.1), .v (.int .i64 x.2.2.2.2.2.2.2.1), .v (.int .i64 x.2.2.2.2.2.2.2.2.1)]), (64, .box 43 [.v (.int .i64 x.2.2.2.2.2.2.2.2.2.1), .v (.int .i64 x.2.2.2.2.2.2.2.2.2.2.1)]), (128, .box 43 [.v (.int .i64 x.2.2.2.2.2.2.2.2.2.2.2.1), .v (.int .i64 x.2.2.2.2.2.2.2.2.2.2.2.2)]), (352, .row 3 1 (List.map eI x.2.1)), (480, .row 3 1 (List.map eI x.2.2.1)), (1552, .row 43 2 (List.map eWalker x.2.2.2.1))]) (fun n x => laws_FnLocated.l2 n x.1 x.2.1 x.2.2.1 x.2.2.2.1 x.2.2.2.2.1 x.2.2.2.2.2.1 x.2.2.2.2.2.2.1 x.2.2.2.2.2.2.2.1 x.2.2.2.2.2.2.2.2.1 x.2.2.2.2.2.2.2.2.2.1 x.2.2.2.2.2.2.2.2.2.2.1 x.2.2.2.2.2.2.2.2.2.2.2.1 x.2.2.2.2.2.2.2.2.2.2.2.2 = some r) (x21, x22, x23, t34, false, 0, x26, x27, x28, x29, x30, x31, x32) [] h (by simp only [W, p1, p2, p3, p4, p5, p6, p7, p8, p9, p10, p11, p12] <;> trivial) (by simp only [W, p1, p2, p3, p4, p5, p6, p7, p8, p9, p10, p11, p12] <;> trivial) rfl (fun _ h => by cases h) ?_
            intro n3 ⟨x35, x36, x37, x38, x39, x40, x41, x42, x43, x44, x45, x46, x47⟩ _ h
            simp only [laws_FnLocated.l2] at h
            replace h := ifS h; rcases h with ⟨c48, h⟩ | ⟨c48, h⟩
            · replace h := ifT h; rcases h with ⟨rfl, h⟩ | ⟨rfl, h⟩
              · try simp only [W, c48, p1, p2, p3, p4, p5, p6, p7, p8, p9, p10, p11, p12]
                exact nextN (x35, x36, x37, x38, true, (wrap64 (x40 + 1)), x41, x42, x43, x44, x45, x46, x47) [] n3 (by omega) h (by simp only [W, p1, p2, p3, p4, p5, p6, p7, p8, p9, p10, p11, p12] <;> trivial) (by simp only [W, p1, p2, p3, p4, p5, p6, p7, p8, p9, p10, p11, p12] <;> trivial) rfl
              · replace h := ifN h; obtain ⟨c50, h⟩ := h
                try simp only [W, c48, c50, p1, p2, p3, p4, p5, p6, p7, p8, p9, p10, p11, p12]
                exact nextN (x35, x36, x37, x38, (((rd_Walker x38 x40).f0) == x46 && (((rd_Walker x38 x40).f1) == x47)), (wrap64 (x40 + 1)), x41, x42, x43, x44, x45, x46, x47) [] n3 (by omega) h (by simp only [W, p1, p2, p3, p4, p5, p6, p7, p8, p9, p10, p11, p12] <;> trivial) (by simp only [W, p1, p2, p3, p4, p5, p6, p7, p8, p9, p10, p11, p12] <;> trivial) rfl
            · replace h := bnd h; obtain ⟨t49, A, h⟩ := h
              try simp only [W, c48, p1, p2, p3, p4, p5, p6, p7, p8, p9, p10, p11, p12]
              refine callR (laws_at.ctr A) ?_
              replace h := bnd h; obtain ⟨t50, A, h⟩ := h
              try simp only [W, c48, p1, p2, p3, p4, p5, p6, p7, p8, p9, p10, p11, p12]
              refine callR (spec_CountCells.ctr A) ?_
              replace h := ifM h; obtain ⟨c51, h⟩ := h
              replace h := bnd h; obtain ⟨t52, A, h⟩ := h
              try simp only [W, c48, c51, p1, p2, p3, p4, p5, p6, p7, p8, p9, p10, p11, p12]
              refine callR (laws_at.ctr A) ?_
              replace h := ifT h; rcases h with ⟨rfl, h⟩ | ⟨rfl, h⟩
              · replace h := bnd h; obtain ⟨t54, A, h⟩ := h
                try simp only [W, c48, c51, p1, p2, p3, p4, p5, p6, p7, p8, p9, p10, p11, p12]
                refine callR (impl_IsLocated.ctr A) ?_
                replace h := ifT h; rcases h with ⟨c55, h⟩ | ⟨c55, h⟩ <;> try simp only [bEq] at c55
                · replace h := bnd h; obtain ⟨t56, A, h⟩ := h
                  try simp only [W, c48, c51, c55, p1, p2, p3, p4, p5, p6, p7, p8, p9, p10, p11, p12]
                  refine callR (impl_LikeWalkers.ctr A) ?_
                  replace h := ifT h; rcases h with ⟨rfl, h⟩ | ⟨rfl, h⟩
                  · replace h := bnd h; obtain ⟨t58, A, h⟩ := h
                    try simp only [W, c48, c51, c55, p1, p2, p3, p4, p5, p6, p7, p8, p9, p10, p11, p12]
                    refine callR (impl_LikeWalkers.ctr A) ?_
                    replace h := bnd h; obtain ⟨t59, A, h⟩ := h
                    try simp only [W, c48, c51, c55, p1, p2, p3, p4, p5, p6, p7, p8, p9, p10, p11, p12]
                    refine callR (impl_LikeWalkers.ctr A) ?_
                    replace h := ifT h; rcases h with ⟨c60, h⟩ | ⟨c60, h⟩ <;> try simp only [bEq] at c60
                    · replace h := bnd h; obtain ⟨t61, A, h⟩ := h
                      try simp only [W, c48, c51, c55, c60, p1, p2, p3, p4, p5, p6, p7, p8, p9, p10, p11, p12]
                      refine callR (impl_LikeWalkers.ctr A) ?_
                      replace h := ifT h; rcases h with ⟨rfl, h⟩ | ⟨rfl, h⟩
                      · replace h := bnd h; obtain ⟨t63, A, h⟩ := h
                        try simp only [W, c48, c51, c55, c60, p1, p2, p3, p4, p5, p6, p7, p8, p9, p10, p11, p12]
                        refine callR (impl_PatternAt.ctr A) ?_
                        replace h := bnd h; obtain ⟨t64, A, h⟩ := h
                        try simp only [W, c48, c51, c55, c60, p1, p2, p3, p4, p5, p6, p7, p8, p9, p10, p11, p12]
                        refine callR (impl_PatternAt.ctr A) ?_
                        cases h
                        try simp only [W, c48, c51, c55, c60, p1, p2, p3, p4, p5, p6, p7, p8, p9, p10, p11, p12]
                      · cases h
                        try simp only [W, c48, c51, c55, c60, p1, p2, p3, p4, p5, p6, p7, p8, p9, p10, p11, p12]
                    · cases h
                      try simp only [W, c48, c51, c55, c60, p1, p2, p3, p4, p5, p6, p7, p8, p9, p10, p11, p12]
                  · cases h
                    try simp only [W, c48, c51, c55, p1, p2, p3, p4, p5, p6, p7, p8, p9, p10, p11, p12]
                · cases h
                  try simp only [W, c48, c51, c55, p1, p2, p3, p4, p5, p6, p7, p8, p9, p10, p11, p12]
              · cases h
                try simp only [W, c48, c51, p1, p2, p3, p4, p5, p6, p7, p8, p9, p10, p11, p12]
    · rcases k with _ | m6; · cases h
      rw [laws_FnLocated.j0] at h
      rw [if_pos rfl] at h
      cases h
      try simp only [W, p1, p2, p3, p4, p5, p6, p7, p8, p9, p10, p11, p12]
theorem laws_FnLocated.calls (k : Nat) (A0 : Option Addr) (c0 : Nat) (l0 : List Int) (w : World) (hr0 : Kd.C (Kd.int .u8) w A0 l0.length l0) (hc0 : l0.length ≤ c0) (h : laws_FnLocated.f k l0 = some true) :
    Calls Try.prog 5 #[.slice A0 l0.length c0] w fun e w' => e = .returned (.bool true) ∧ Below w.heap.size w w' := by
  refine ((laws_FnLocated.ctr h).2 w [.slice A0 l0.length c0] (by simp only [RepL, Rep]; exact ⟨_, _, rfl, at_of_C E_eU8 hr0 hc0, rfl⟩)).mono ?_
  rintro _ _ ⟨y, L, rfl, hR, _, hb⟩
  exact ⟨congrArg Ending.returned (RepR_pln rfl hR).1, hb⟩
end Go.Proofs.Ytccjanhdnheclaa.F
end

section
namespace Go.Proofs.Ytccjanhdnheclaa.F
open Go.RowKit Go.Proofs.YtccjanhdnheclaaW.PrintWords Go.Proofs.YtccjanhdnheclaaW.PrintLast Go.Proofs.YtccjanhdnheclaaW.PrintMore
set_option linter.unusedVariables false
set_option linter.unusedSimpArgs false
theorem w64 {x : Int} (h1 : -9223372036854775808 ≤ x) (h2 : x ≤ 9223372036854775807) : wrap64 x = x := by unfold wrap64; omega
theorem wrapi_nat {n : Nat} (h : n < 9223372036854775808) : IntKind.i64.wrap (n : Int) = (n : Int) := by rw [IntKind.wrap_i64]; omega
theorem bits_and_i {a b : Nat} (ha : a < 2 ^ 63) (hb : b < 2 ^ 63) : Go.bits .and .i64 (a : Int) (b : Int) = ((a &&& b : Nat) : Int) :=
  (bits_nat .i64 63 (by decide) (fun n h0 h1 => by rw [IntKind.wrap_i64]; omega) a b ha hb).1
theorem bits_or_i {a b : Nat} (ha : a < 2 ^ 63) (hb : b < 2 ^ 63) : Go.bits .or .i64 (a : Int) (b : Int) = ((a ||| b : Nat) : Int) :=
  (bits_nat .i64 63 (by decide) (fun n h0 h1 => by rw [IntKind.wrap_i64]; omega) a b ha hb).2
theorem bits_xor_i {a b : Nat} (ha : a < 2 ^ 63) (hb : b < 2 ^ 63) : Go.bits .xor .i64 (a : Int) (b : Int) = ((a ^^^ b : Nat) : Int) := by
  have ha' : a % 2 ^ 64 = a := Nat.mod_eq_of_lt (by omega)
  have hb' : b % 2 ^ 64 = b := Nat.mod_eq_of_lt (by omega)
  have hx := Nat.xor_lt_two_pow ha hb
  show IntKind.i64.wrap (((BitVec.ofInt 64 (a : Int) ^^^ BitVec.ofInt 64 (b : Int)).toNat : Nat) : Int) = _
  rw [BitVec.ofInt_natCast, BitVec.ofInt_natCast, BitVec.toNat_xor, BitVec.toNat_ofNat, BitVec.toNat_ofNat, ha', hb']
  exact wrapi_nat (by omega)
theorem shl_one {g : Nat} (h : g < 63) : shl .i64 1 (g : Int) = ((2 ^ g : Nat) : Int) := by
  unfold shl
  have : min ((g : Int).toNat) IntKind.i64.bits = g := by simp [IntKind.bits]; omega
  rw [this, Int.one_mul]
  have hp : (2 : Nat) ^ g ≤ 2 ^ 62 := Nat.pow_le_pow_right (by decide) (by omega)
  have : ((2 : Int) ^ g) = ((2 ^ g : Nat) : Int) := by simp
  rw [this]
  exact wrapi_nat (by omega)
theorem shr_nat {a g : Nat} (ha : a < 2 ^ 63) : shr .i64 (a : Int) (g : Int) = ((a >>> g : Nat) : Int) := by
  unfold shr
  rw [Nat.shiftRight_eq_div_pow]
  by_cases hg : g ≤ 64
  · have : min ((g : Int).toNat) IntKind.i64.bits = g := by simp [IntKind.bits]; omega
    rw [this]
    have : ((2 : Int) ^ g) = ((2 ^ g : Nat) : Int) := by simp
    rw [this]
    omega
  · have : min ((g : Int).toNat) IntKind.i64.bits = 64 := by simp [IntKind.bits]; omega
    rw [this]
    have hp : (2 : Nat) ^ 64 ≤ 2 ^ g := Nat.pow_le_pow_right (by decide) (by omega)
    rw [Nat.div_eq_of_lt (by omega)]
    have : (a : Int) / 2 ^ 64 = 0 := by omega
    simpa using this
def opn (o g : Int) : Bool := o.toNat.testBit g.toNat
theorem bit_test {o g : Int} (ho : 0 ≤ o) (ho2 : o < 9223372036854775808) (hg : 0 ≤ g) : (Go.bits .and .i64 (shr .i64 o g) 1 == 1) = opn o g := by
  obtain ⟨a, rfl⟩ := Int.eq_ofNat_of_zero_le ho
  obtain ⟨n, rfl⟩ := Int.eq_ofNat_of_zero_le hg
  have ha : a < 2 ^ 63 := by omega
  rw [shr_nat ha]
  have h2 : a >>> n < 2 ^ 63 := Nat.lt_of_le_of_lt (by rw [Nat.shiftRight_eq_div_pow]; exact Nat.div_le_self _ _) ha
  unfold opn
  simp only [Int.toNat_natCast]
  rw [show ((1 : Int)) = ((1 : Nat) : Int) from rfl, bits_and_i h2 (by decide), Nat.testBit, Nat.and_one_is_mod, Nat.one_and_eq_mod_two]
  rcases Nat.mod_two_eq_zero_or_one (a >>> n) with h | h <;> simp [h]
theorem fold_loop {σ ρ : Type} {F : Nat → σ → Int → Option ρ} {n c : Nat} {step : σ → Nat → σ} {fin : σ → ρ} {I : σ → Nat → Prop}
    (hF : ∀ k s (i : Nat), c ≤ k → i < n → I s i → F (k + 1) s (i : Int) = F k (step s i) ((i : Int) + 1)) (hI : ∀ s i, i < n → I s i → I (step s i) (i + 1))
    (hE : ∀ k s, c ≤ k → I s n → F (k + 1) s (n : Int) = some (fin s)) :
    ∀ (d i : Nat) (k : Nat) (s : σ), i + d = n → d + c + 1 ≤ k → I s i → F k s (i : Int) = some (fin ((List.range' i d).foldl step s))
  | 0, i, k, s, hi, hk, h => by
    obtain ⟨m, rfl⟩ : ∃ m, k = m + 1 := ⟨k - 1, by omega⟩
    obtain rfl : i = n := by omega
    simpa using hE m s (by omega) h
  | d + 1, i, k, s, hi, hk, h => by
    obtain ⟨m, rfl⟩ : ∃ m, k = m + 1 := ⟨k - 1, by omega⟩
    rw [hF m s i (by omega) (by omega) h, List.range'_succ, List.foldl_cons]
    have := fold_loop (c := c) (step := step) (fin := fin) hF hI hE d (i + 1) m (step s i) (by omega) (by omega) (hI s i (by omega) h)
    rwa [Int.natCast_add] at this
theorem inv_loop {σ ρ : Type} {F : Nat → σ → Int → Option ρ} {n c : Nat} {fin : σ → ρ} {I : σ → Nat → Prop}
    (hF : ∀ k s (i : Nat), c ≤ k → i < n → I s i → ∃ s', I s' (i + 1) ∧ F (k + 1) s (i : Int) = F k s' ((i : Int) + 1))
    (hE : ∀ k s, c ≤ k → I s n → F (k + 1) s (n : Int) = some (fin s)) :
    ∀ (d i : Nat) (k : Nat) (s : σ), i + d = n → d + c + 1 ≤ k → I s i → ∃ s', I s' n ∧ F k s (i : Int) = some (fin s')
  | 0, i, k, s, hi, hk, h => by
    obtain ⟨m, rfl⟩ : ∃ m, k = m + 1 := ⟨k - 1, by omega⟩
    obtain rfl : i = n := by omega
    exact ⟨s, h, hE m s (by omega) h⟩
  | d + 1, i, k, s, hi, hk, h => by
    obtain ⟨m, rfl⟩ : ∃ m, k = m + 1 := ⟨k - 1, by omega⟩
    obtain ⟨s', h', e⟩ := hF m s i (by omega) (by omega) h
    obtain ⟨s2, h2, e2⟩ := inv_loop (c := c) (fin := fin) hF hE d (i + 1) m s' (by omega) (by omega) h'
    rw [Int.natCast_add] at e2
    exact ⟨s2, h2, e.trans e2⟩
theorem all_loop {α : Type} (z : α) {F : Nat → Int → Option Bool} {l : List α} {p : α → Bool} {c : Nat} {b : Bool}
    (hF : ∀ k (i : Nat), c ≤ k → i < l.length → F (k + 1) (i : Int) = if p (l.getD i z) = true then F k ((i : Int) + 1) else some false) (hE : ∀ k, c ≤ k → F (k + 1) (l.length : Int) = some b) {k : Nat} (hk : l.length + c + 1 ≤ k) :
    F k 0 = some (l.all p && b) := by
  have key : ∀ (d i : Nat) (k : Nat), i + d = l.length → d + c + 1 ≤ k → F k (i : Int) = some ((l.drop i).all p && b) := by
    intro d
    induction d with
    | zero =>
      intro i k hi hk
      obtain ⟨m, rfl⟩ : ∃ m, k = m + 1 := ⟨k - 1, by omega⟩
      obtain rfl : i = l.length := by omega
      rw [hE m (by omega), List.drop_of_length_le (by omega)]
      simp
    | succ d ih =>
      intro i k hi hk
      obtain ⟨m, rfl⟩ : ∃ m, k = m + 1 := ⟨k - 1, by omega⟩
      have hil : i < l.length := by omega
      rw [hF m i (by omega) hil, List.drop_eq_getElem_cons hil, List.all_cons]
      have e : l.getD i z = l[i] := by rw [List.getD_eq_getElem?_getD, List.getElem?_eq_getElem hil]; rfl
      rw [e]
      have := ih (i + 1) m (by omega) (by omega)
      rw [Int.natCast_add] at this
      by_cases h : p l[i] = true
      · rw [if_pos h, h]
        simpa using this
      · rw [if_neg h]
        simp at h
        simp [h]
  have := key l.length 0 k (by omega) (by omega)
  simpa using this
theorem w64_succ {i n : Nat} (h : i < n) (hn : n ≤ 9223372036854775807) : wrap64 ((i : Int) + 1) = (i : Int) + 1 := w64 (by omega) (by omega)
end Go.Proofs.Ytccjanhdnheclaa.F
end

section
namespace Go.Proofs.Ytccjanhdnheclaa.F
open Go.RowKit Go.Proofs.YtccjanhdnheclaaW.PrintWords Go.Proofs.YtccjanhdnheclaaW.PrintLast Go.Proofs.YtccjanhdnheclaaW.PrintMore
set_option linter.unusedVariables false
set_option linter.unusedSimpArgs false
def gok (w h : Int) : Bool := decide (1 ≤ w ∧ w ≤ 4 ∧ 1 ≤ h ∧ h ≤ 4)
theorem gok_iff {w h : Int} : gok w h = true ↔ 1 ≤ w ∧ w ≤ 4 ∧ 1 ≤ h ∧ h ≤ 4 := by simp [gok]
theorem gok_wide {w h : Int} (H : gok w h = true) : w = 1 ∨ w = 2 ∨ w = 3 ∨ w = 4 := by rw [gok_iff] at H; omega
theorem gok_high {w h : Int} (H : gok w h = true) : h = 1 ∨ h = 2 ∨ h = 3 ∨ h = 4 := by rw [gok_iff] at H; omega
def cells (w h : Int) : Int := if gok w h then w * h else 0
def gaps (w h : Int) : Int := if gok w h then (w - 1) * h + w * (h - 1) else 0
theorem cells_bd (w h : Int) : 0 ≤ cells w h ∧ cells w h ≤ 16 := by
  unfold cells
  by_cases H : gok w h = true
  · rw [if_pos H]
    rcases gok_wide H with rfl | rfl | rfl | rfl <;> rcases gok_high H with rfl | rfl | rfl | rfl <;> omega
  · rw [if_neg H]; omega
theorem gaps_bd (w h : Int) : 0 ≤ gaps w h ∧ gaps w h ≤ 24 := by
  unfold gaps
  by_cases H : gok w h = true
  · rw [if_pos H]
    rcases gok_wide H with rfl | rfl | rfl | rfl <;> rcases gok_high H with rfl | rfl | rfl | rfl <;> omega
  · rw [if_neg H]; omega
theorem impl_GridOk_eq (w h : Int) : impl_GridOk.f w h = some (gok w h) := by
  unfold impl_GridOk.f gok
  by_cases h1 : w ≥ 1 <;> by_cases h2 : w ≤ 4 <;> by_cases h3 : h ≥ 1 <;> simp [*] <;> omega
theorem spec_l01In_eq (x a b : Int) : spec_l01In.f x a b = some (decide (a ≤ x ∧ x ≤ b)) := by
  unfold spec_l01In.f
  by_cases h1 : x ≥ a
  · simp [h1]
  · rw [if_neg h1]; simp; omega
theorem spec_GridOk_eq (w h : Int) : spec_GridOk.f w h = some (gok w h) := by
  unfold spec_GridOk.f
  simp only [spec_l01In_eq, Option.bind_some]
  unfold gok
  by_cases h1 : 1 ≤ w ∧ w ≤ 4
  · simp [h1]
  · rw [if_neg (by simpa using h1)]; simp; omega
theorem gok_mul {w h : Int} (H : gok w h = true) : 1 ≤ w * h ∧ w * h ≤ 16 ∧ 0 ≤ (w - 1) * h ∧ (w - 1) * h ≤ 12 ∧ 0 ≤ w * (h - 1) ∧ w * (h - 1) ≤ 12 := by
  rcases gok_wide H with rfl | rfl | rfl | rfl <;> rcases gok_high H with rfl | rfl | rfl | rfl <;> omega
theorem impl_CountCells_eq (w h : Int) : impl_CountCells.f w h = some (cells w h) := by
  unfold impl_CountCells.f cells
  rw [impl_GridOk_eq, Option.bind_some]
  by_cases H : gok w h = true
  · have := gok_mul H
    rw [if_pos H, if_pos H, w64 (by omega) (by omega)]
  · rw [if_neg H, if_neg H]
theorem spec_CountCells_eq (w h : Int) : spec_CountCells.f w h = some (cells w h) := by
  unfold spec_CountCells.f cells
  rw [spec_GridOk_eq, Option.bind_some]
  by_cases H : gok w h = true
  · have := gok_mul H
    rw [if_pos H, if_pos H, w64 (by omega) (by omega)]
  · rw [if_neg H, if_neg H]
theorem impl_CountGaps_eq (w h : Int) : impl_CountGaps.f w h = some (gaps w h) := by
  unfold impl_CountGaps.f gaps
  rw [impl_GridOk_eq, Option.bind_some]
  by_cases H : gok w h = true
  · have := gok_mul H
    have b := gok_iff.1 H
    rw [if_pos H, if_pos H, w64 (x := w - 1) (by omega) (by omega), w64 (x := h - 1) (by omega) (by omega), w64 (x := (w - 1) * h) (by omega) (by omega), w64 (x := w * (h - 1)) (by omega) (by omega), w64 (by omega) (by omega)]
  · rw [if_neg H, if_neg H]
theorem spec_CountGaps_eq (w h : Int) : spec_CountGaps.f w h = some (gaps w h) := by
  unfold spec_CountGaps.f spec_l02East.f gaps
  rw [spec_GridOk_eq, Option.bind_some]
  by_cases H : gok w h = true
  · have := gok_mul H
    have b := gok_iff.1 H
    rw [if_pos H, if_pos H, Option.bind_some, w64 (x := w - 1) (by omega) (by omega), w64 (x := h - 1) (by omega) (by omega), Int.mul_comm h (w - 1), w64 (x := (w - 1) * h) (by omega) (by omega), w64 (x := w * (h - 1)) (by omega) (by omega), w64 (by omega) (by omega)]
  · rw [if_neg H, if_neg H]
def icell (w h c : Int) : Bool := decide (0 ≤ c ∧ c < cells w h)
def igap (w h g : Int) : Bool := decide (0 ≤ g ∧ g < gaps w h)
theorem icell_iff {w h c : Int} : icell w h c = true ↔ 0 ≤ c ∧ c < cells w h := by simp [icell]
theorem igap_iff {w h c : Int} : igap w h c = true ↔ 0 ≤ c ∧ c < gaps w h := by simp [igap]
theorem impl_isCell_eq (w h c : Int) : impl_isCell.f w h c = some (icell w h c) := by
  unfold impl_isCell.f icell
  rw [impl_CountCells_eq]
  by_cases h1 : c ≥ 0
  · rw [if_pos h1]; simp [h1]
  · rw [if_neg h1]; simp; omega
theorem in_cells (w h c : Int) : decide (0 ≤ c ∧ c ≤ wrap64 (cells w h - 1)) = icell w h c := by
  have := cells_bd w h
  rw [w64 (by omega) (by omega)]
  unfold icell
  rw [Bool.eq_iff_iff]; simp; omega
theorem in_gaps (w h c : Int) : decide (0 ≤ c ∧ c ≤ wrap64 (gaps w h - 1)) = igap w h c := by
  have := gaps_bd w h
  rw [w64 (by omega) (by omega)]
  unfold igap
  rw [Bool.eq_iff_iff]; simp; omega
theorem icell_gok {w h c : Int} (H : icell w h c = true) : gok w h = true := by
  rw [icell_iff] at H
  unfold cells at H
  by_cases G : gok w h = true
  · exact G
  · rw [if_neg G] at H; omega
theorem icell_mul {w h c : Int} (H : icell w h c = true) : 0 ≤ c ∧ c < w * h := by
  have G := icell_gok H
  rw [icell_iff] at H
  unfold cells at H
  rwa [if_pos G] at H
def nb (w h c d : Int) : Int :=
  if icell w h c then
    (if d = 0 then (if c / w > 0 then c - w else -1) else if d = 1 then (if c % w < w - 1 then c + 1 else -1) else if d = 2 then (if c / w < h - 1 then c + w else -1) else if d = 3 then (if c % w > 0 then c - 1 else -1) else -1)
  else -1
theorem div_facts {w h c : Int} (G : gok w h = true) (H : 0 ≤ c ∧ c < w * h) : Int.tdiv c w = c / w ∧ Int.tmod c w = c % w ∧ wrap64 (c / w) = c / w ∧ 0 ≤ c / w ∧ c / w < h ∧ 0 ≤ c % w ∧ c % w < w ∧ w * (c / w) + c % w = c := by
  have b := gok_iff.1 G
  have e1 : Int.tdiv c w = c / w := Int.tdiv_eq_ediv_of_nonneg H.1
  have e2 : Int.tmod c w = c % w := Int.tmod_eq_emod_of_nonneg H.1
  have e3 : 0 ≤ c / w := Int.ediv_nonneg H.1 (by omega)
  have e4 : c / w < h := by
    apply Int.ediv_lt_of_lt_mul (by omega)
    rw [Int.mul_comm]; exact H.2
  exact ⟨e1, e2, w64 (by omega) (by omega), e3, e4, Int.emod_nonneg _ (by omega), Int.emod_lt_of_pos _ (by omega), Int.mul_ediv_add_emod c w⟩
theorem impl_Neighbor_eq {k : Nat} (hk : 3 ≤ k) (w h c d : Int) : impl_Neighbor.f k w h c d = some (nb w h c d) := by
  obtain ⟨m, rfl⟩ : ∃ m, k = m + 3 := ⟨k - 3, by omega⟩
  unfold impl_Neighbor.f nb
  rw [impl_isCell_eq, Option.bind_some]
  by_cases H : icell w h c = true
  · have G := icell_gok H
    have b := gok_iff.1 G
    have hc := icell_mul H
    have hm := gok_mul G
    obtain ⟨e1, e2, e3, y0, y1, x0, x1, hq⟩ := div_facts G hc
    rw [if_pos H, if_pos H, if_neg (by omega), e1, e2, e3]
    simp only [impl_Neighbor.j0, impl_Neighbor.j1, impl_Neighbor.j2]
    rw [w64 (x := w - 1) (by omega) (by omega), w64 (x := h - 1) (by omega) (by omega)]
    by_cases d0 : d = 0
    · subst d0
      by_cases t : c / w > 0 <;> simp [t, w64 (x := c - w) (by omega) (by omega)]
    by_cases d1 : d = 1
    · subst d1
      by_cases t : c % w < w - 1 <;> simp [t, w64 (x := c + 1) (by omega) (by omega)]
    by_cases d2 : d = 2
    · subst d2
      by_cases t : c / w < h - 1 <;> simp [t, w64 (x := c + w) (by omega) (by omega)]
    by_cases d3 : d = 3
    · subst d3
      by_cases t : c % w > 0 <;> simp [t, w64 (x := c - 1) (by omega) (by omega)]
    simp [d0, d1, d2, d3]
  · rw [if_neg H, if_neg H]
theorem spec_j0_eq {w h : Int} (G : gok w h = true) (m : Nat) {x y : Int} : spec_Neighbor.j0 (m + 1) x y w h = some (if 0 ≤ x ∧ x ≤ w - 1 ∧ 0 ≤ y ∧ y ≤ h - 1 then y * w + x else -1) := by
  have b := gok_iff.1 G
  simp only [spec_Neighbor.j0, spec_l01In_eq, Option.bind_some, decide_eq_true_eq]
  rw [w64 (x := w - 1) (by omega) (by omega), w64 (x := h - 1) (by omega) (by omega)]
  by_cases h1 : 0 ≤ x ∧ x ≤ w - 1
  · rw [if_pos h1]
    by_cases h2 : 0 ≤ y ∧ y ≤ h - 1
    · have l1 : y * w ≤ 3 * 4 := Int.mul_le_mul (by omega) (by omega) (by omega) (by omega)
      have l0 : 0 ≤ y * w := Int.mul_nonneg (by omega) (by omega)
      rw [if_pos h2, if_pos ⟨h1.1, h1.2, h2.1, h2.2⟩, w64 (x := y * w) (by omega) (by omega), w64 (by omega) (by omega)]
    · rw [if_neg h2, if_neg (fun h => h2 ⟨h.2.2.1, h.2.2.2⟩)]
  · rw [if_neg h1, if_neg (fun h => h1 ⟨h.1, h.2.1⟩)]
theorem spec_Neighbor_eq {k : Nat} (hk : 1 ≤ k) (w h c d : Int) : spec_Neighbor.f k w h c d = some (nb w h c d) := by
  obtain ⟨m, rfl⟩ : ∃ m, k = m + 1 := ⟨k - 1, by omega⟩
  unfold spec_Neighbor.f nb
  rw [spec_CountCells_eq, Option.bind_some, spec_l01In_eq, Option.bind_some, in_cells]
  by_cases H : icell w h c = true
  · have G := icell_gok H
    have b := gok_iff.1 G
    have hc := icell_mul H
    have hm := gok_mul G
    obtain ⟨e1, e2, e3, y0, y1, x0, x1, hq⟩ := div_facts G hc
    rw [if_pos H, if_pos H, if_neg (by omega), e1, e2, e3, w64 (x := c / w - 1) (by omega) (by omega), w64 (x := c / w + 1) (by omega) (by omega), w64 (x := c % w - 1) (by omega) (by omega), w64 (x := c % w + 1) (by omega) (by omega)]
    simp only [spec_j0_eq G]
    have p1 : (c / w - 1) * w = w * (c / w) - w := by rw [Int.sub_mul, Int.one_mul, Int.mul_comm]
    have p2 : (c / w + 1) * w = w * (c / w) + w := by rw [Int.add_mul, Int.one_mul, Int.mul_comm]
    have p3 : (c / w) * w = w * (c / w) := Int.mul_comm _ _
    rw [p1, p2, p3]
    by_cases d0 : d = 0
    · rw [if_pos d0, if_pos d0]
      by_cases t : c / w > 0
      · rw [if_pos (by omega), if_pos t]; congr 1; omega
      · rw [if_neg (by omega), if_neg t]
    rw [if_neg d0, if_neg d0]
    by_cases d1 : d = 1
    · rw [if_pos d1, if_pos d1]
      by_cases t : c % w < w - 1
      · rw [if_pos (by omega), if_pos t]; congr 1; omega
      · rw [if_neg (by omega), if_neg t]
    rw [if_neg d1, if_neg d1]
    by_cases d2 : d = 2
    · rw [if_pos d2, if_pos d2]
      by_cases t : c / w < h - 1
      · rw [if_pos (by omega), if_pos t]; congr 1; omega
      · rw [if_neg (by omega), if_neg t]
    rw [if_neg d2, if_neg d2]
    by_cases d3 : d = 3
    · rw [if_pos d3, if_pos d3]
      by_cases t : c % w > 0
      · rw [if_pos (by omega), if_pos t]; congr 1; omega
      · rw [if_neg (by omega), if_neg t]
    rw [if_neg d3, if_neg d3]
  · rw [if_neg H, if_neg H]
end Go.Proofs.Ytccjanhdnheclaa.F
end

section
namespace Go.Proofs.Ytccjanhdnheclaa.F
open Go.RowKit Go.Proofs.YtccjanhdnheclaaW.PrintWords Go.Proofs.YtccjanhdnheclaaW.PrintLast Go.Proofs.YtccjanhdnheclaaW.PrintMore
set_option linter.unusedVariables false
set_option linter.unusedSimpArgs false
theorem mn_min (a b : Int) : mn a b = min a b := by unfold mn; omega
theorem mx_max (a b : Int) : mx a b = max a b := by unfold mx; omega
theorem nb_facts {w h c d : Int} (H : 0 ≤ nb w h c d) : icell w h c = true ∧ icell w h (nb w h c d) = true ∧ 0 ≤ d ∧ d ≤ 3 := by
  unfold nb at H ⊢
  by_cases hc : icell w h c = true
  · have G := icell_gok hc
    have b := gok_iff.1 G
    have hm := icell_mul hc
    obtain ⟨_, _, _, y0, y1, x0, x1, hq⟩ := div_facts G hm
    rw [if_pos hc] at H ⊢
    have m1 : w * (c / w) ≤ w * (h - 1) := Int.mul_le_mul_of_nonneg_left (by omega) (by omega)
    have m2 : w * (h - 1) = w * h - w := by rw [Int.mul_sub, Int.mul_one]
    have ce : cells w h = w * h := by unfold cells; rw [if_pos G]
    refine ⟨hc, ?_, ?_⟩
    · rw [icell_iff, ce]
      by_cases d0 : d = 0
      · subst d0
        by_cases t : c / w > 0
        · have m3 : w * 1 ≤ w * (c / w) := Int.mul_le_mul_of_nonneg_left (by omega) (by omega)
          simp [t]; omega
        · simp [t] at H
      by_cases d1 : d = 1
      · subst d1
        by_cases t : c % w < w - 1
        · simp [t]; omega
        · simp [t] at H
      by_cases d2 : d = 2
      · subst d2
        by_cases t : c / w < h - 1
        · have m4 : w * (c / w + 1) ≤ w * (h - 1) := Int.mul_le_mul_of_nonneg_left (by omega) (by omega)
          rw [Int.mul_add, Int.mul_one] at m4
          simp [t]; omega
        · simp [t] at H
      by_cases d3 : d = 3
      · subst d3
        by_cases t : c % w > 0
        · simp [t]; omega
        · simp [t] at H
      simp [d0, d1, d2, d3] at H
    · by_cases d0 : d = 0
      · omega
      by_cases d1 : d = 1
      · omega
      by_cases d2 : d = 2
      · omega
      by_cases d3 : d = 3
      · omega
      simp [d0, d1, d2, d3] at H
  · rw [if_neg hc] at H; omega
def gp (w h c d : Int) : Int :=
  if nb w h c d < 0 then -1 else if d = 1 ∨ d = 3 then min c (nb w h c d) / w * (w - 1) + min c (nb w h c d) % w else (w - 1) * h + min c (nb w h c d)
theorem gp_neg {w h c d : Int} (H : nb w h c d < 0) : gp w h c d = -1 := by unfold gp; rw [if_pos H]
theorem min_facts {w h c d : Int} (H : 0 ≤ nb w h c d) : 0 ≤ min c (nb w h c d) ∧ min c (nb w h c d) < w * h ∧ gok w h = true := by
  obtain ⟨h1, h2, _, _⟩ := nb_facts H
  have a := icell_mul h1
  have b := icell_mul h2
  exact ⟨by omega, by omega, icell_gok h1⟩
theorem impl_GapAt_eq {k : Nat} (hk : 3 ≤ k) (w h c d : Int) : impl_GapAt.f k w h c d = some (gp w h c d) := by
  unfold impl_GapAt.f gp
  rw [impl_Neighbor_eq hk, Option.bind_some]
  by_cases H : nb w h c d < 0
  · rw [if_pos H, if_pos H]
  · have H' : 0 ≤ nb w h c d := by omega
    obtain ⟨m0, m1, G⟩ := min_facts H'
    have b := gok_iff.1 G
    have hm := gok_mul G
    rw [if_neg H, if_neg H, mn_min]
    obtain ⟨e1, e2, e3, y0, y1, x0, x1, hq⟩ := div_facts G ⟨m0, m1⟩
    have l1 : min c (nb w h c d) / w * (w - 1) ≤ 3 * 3 := Int.mul_le_mul (by omega) (by omega) (by omega) (by omega)
    have l0 : 0 ≤ min c (nb w h c d) / w * (w - 1) := Int.mul_nonneg y0 (by omega)
    have t1 : wrap64 (wrap64 (wrap64 (Int.tdiv (min c (nb w h c d)) w) * wrap64 (w - 1)) + Int.tmod (min c (nb w h c d)) w) = min c (nb w h c d) / w * (w - 1) + min c (nb w h c d) % w := by
      rw [e1, e2, e3, w64 (x := w - 1) (by omega) (by omega), w64 (x := _ * _) (by omega) (by omega), w64 (by omega) (by omega)]
    have t2 : wrap64 (wrap64 (wrap64 (w - 1) * h) + min c (nb w h c d)) = (w - 1) * h + min c (nb w h c d) := by
      rw [w64 (x := w - 1) (by omega) (by omega), w64 (x := (w - 1) * h) (by omega) (by omega), w64 (by omega) (by omega)]
    rw [t1, t2]
    by_cases d1 : d = 1
    · simp [d1]; omega
    · by_cases d3 : d = 3
      · simp [d3]; omega
      · simp [d1, d3]
theorem spec_GapAt_eq {k : Nat} (hk : 1 ≤ k) (w h c d : Int) : spec_GapAt.f k w h c d = some (gp w h c d) := by
  unfold spec_GapAt.f gp
  rw [spec_Neighbor_eq hk, Option.bind_some]
  by_cases H : nb w h c d < 0
  · rw [if_pos H, if_pos H]
  · have H' : 0 ≤ nb w h c d := by omega
    obtain ⟨m0, m1, G⟩ := min_facts H'
    have b := gok_iff.1 G
    have hm := gok_mul G
    rw [if_neg H, if_neg H, mn_min]
    obtain ⟨e1, e2, e3, y0, y1, x0, x1, hq⟩ := div_facts G ⟨m0, m1⟩
    have l1 : min c (nb w h c d) / w * (w - 1) ≤ 3 * 3 := Int.mul_le_mul (by omega) (by omega) (by omega) (by omega)
    have l0 : 0 ≤ min c (nb w h c d) / w * (w - 1) := Int.mul_nonneg y0 (by omega)
    have t1 : wrap64 (wrap64 (wrap64 (Int.tdiv (min c (nb w h c d)) w) * wrap64 (w - 1)) + Int.tmod (min c (nb w h c d)) w) = min c (nb w h c d) / w * (w - 1) + min c (nb w h c d) % w := by
      rw [e1, e2, e3, w64 (x := w - 1) (by omega) (by omega), w64 (x := _ * _) (by omega) (by omega), w64 (by omega) (by omega)]
    have t2 : wrap64 (wrap64 (h * wrap64 (w - 1)) + min c (nb w h c d)) = (w - 1) * h + min c (nb w h c d) := by
      rw [w64 (x := w - 1) (by omega) (by omega), Int.mul_comm h, w64 (x := (w - 1) * h) (by omega) (by omega), w64 (by omega) (by omega)]
    simp only [spec_l02East.f, Option.bind_some]
    rw [t1, t2]
    by_cases d1 : d = 1
    · simp [d1]; omega
    · by_cases d3 : d = 3
      · simp [d3]; omega
      · simp [d1, d3]
def mok (w h o : Int) : Bool := gok w h && decide (0 ≤ o ∧ o < 2 ^ (gaps w h).toNat)
theorem mok_iff {w h o : Int} : mok w h o = true ↔ gok w h = true ∧ 0 ≤ o ∧ o < 2 ^ (gaps w h).toNat := by simp [mok]
theorem gpow (w h : Int) : (2 : Int) ^ (gaps w h).toNat ≤ 16777216 ∧ (1 : Int) ≤ 2 ^ (gaps w h).toNat := by
  have b := gaps_bd w h
  have p : (2 : Nat) ^ (gaps w h).toNat ≤ 2 ^ 24 := Nat.pow_le_pow_right (by decide) (by omega)
  have q : 0 < (2 : Nat) ^ (gaps w h).toNat := Nat.two_pow_pos _
  have e : ((2 : Int) ^ (gaps w h).toNat) = ((2 ^ (gaps w h).toNat : Nat) : Int) := by simp
  omega
theorem mok_small {w h o : Int} (H : mok w h o = true) : 0 ≤ o ∧ o < 16777216 := by
  have := mok_iff.1 H
  have := gpow w h
  omega
theorem shl_gaps (w h : Int) : shl .i64 1 (gaps w h) = 2 ^ (gaps w h).toNat := by
  have b := gaps_bd w h
  have := shl_one (g := (gaps w h).toNat) (by omega)
  rw [show (((gaps w h).toNat : Nat) : Int) = gaps w h from Int.toNat_of_nonneg b.1] at this
  rw [this]
  simp
theorem impl_MazeOk_eq (w h o : Int) : impl_MazeOk.f w h o = some (mok w h o) := by
  unfold impl_MazeOk.f mok
  have b := gaps_bd w h
  rw [impl_GridOk_eq, impl_CountGaps_eq]
  simp only [Option.bind_some, shl_gaps]
  by_cases G : gok w h = true
  · simp only [G, if_true, Bool.true_and]
    by_cases h0 : o ≥ 0
    · rw [if_pos h0, if_pos b.1]
      simp; omega
    · rw [if_neg h0]; simp; omega
  · simp [G]
theorem spec_MazeOk_eq (w h o : Int) : spec_MazeOk.f w h o = some (mok w h o) := by
  unfold spec_MazeOk.f mok
  have b := gaps_bd w h
  have p := gpow w h
  rw [spec_GridOk_eq, spec_CountGaps_eq]
  simp only [Option.bind_some, shl_gaps, w64 (x := (2 : Int) ^ (gaps w h).toNat - 1) (by omega) (by omega)]
  by_cases G : gok w h = true
  · simp only [Option.bind_some, G, if_true, Bool.true_and, spec_l01In_eq, if_pos b.1]
    congr 2
    exact propext ⟨fun h => ⟨h.1, by omega⟩, fun h => ⟨h.1, by omega⟩⟩
  · simp [G]
theorem impl_isOpen_eq {w h o : Int} (h0 : 0 ≤ o) (h1 : o < 9223372036854775808) (g : Int) : impl_isOpen.f w h o g = some (decide (0 ≤ g) && opn o g) := by
  unfold impl_isOpen.f
  by_cases hg : g ≥ 0
  · rw [if_pos hg, if_pos (by omega), bit_test h0 h1 (by omega)]
    simp; omega
  · rw [if_neg hg]
    simp; omega
theorem spec_l03Bit_eq {o : Int} (h0 : 0 ≤ o) (h1 : o < 9223372036854775808) {g : Int} (hg : 0 ≤ g) : spec_l03Bit.f o g = some (opn o g) := by
  unfold spec_l03Bit.f
  rw [if_pos hg, bit_test h0 h1 hg]
def psg (w h o g : Int) : Bool := mok w h o && igap w h g && opn o g
theorem spec_IsPassage_eq (w h o g : Int) : spec_IsPassage.f w h o g = some (psg w h o g) := by
  unfold spec_IsPassage.f psg
  rw [spec_MazeOk_eq, spec_CountGaps_eq]
  by_cases M : mok w h o = true
  · have s := mok_small M
    simp only [Option.bind_some, M, if_true, Bool.true_and, spec_l01In_eq, in_gaps]
    by_cases g1 : igap w h g = true
    · rw [if_pos g1, spec_l03Bit_eq s.1 (by omega) (igap_iff.1 g1).1]
      simp [g1]
    · rw [if_neg g1]; simp [g1]
  · simp [M]
theorem gp_range {w h c d : Int} (H : 0 ≤ nb w h c d) : igap w h (gp w h c d) = true := by
  obtain ⟨h1, h2, d0, d3⟩ := nb_facts H
  have G := icell_gok h1
  have a := icell_mul h1
  rw [igap_iff]
  unfold gp gaps
  rw [if_neg (by omega), if_pos G]
  have hd : d = 0 ∨ d = 1 ∨ d = 2 ∨ d = 3 := by omega
  revert H
  unfold nb
  rw [if_pos h1]
  rcases gok_wide G with rfl | rfl | rfl | rfl <;> rcases gok_high G with rfl | rfl | rfl | rfl <;> rcases hd with rfl | rfl | rfl | rfl <;> simp <;> split <;> omega
def st (w h o c d : Int) : Int := if psg w h o (gp w h c d) then nb w h c d else -1
theorem st_nb {w h o c d : Int} (H : 0 ≤ st w h o c d) : st w h o c d = nb w h c d ∧ psg w h o (gp w h c d) = true := by
  unfold st at H ⊢
  by_cases p : psg w h o (gp w h c d) = true
  · rw [if_pos p]; exact ⟨rfl, p⟩
  · rw [if_neg p] at H; omega
theorem impl_Step_eq {k : Nat} (hk : 3 ≤ k) (w h o c d : Int) : impl_Step.f k w h o c d = some (st w h o c d) := by
  unfold impl_Step.f st psg
  rw [impl_MazeOk_eq]
  by_cases M : mok w h o = true
  · have s := mok_small M
    simp only [Option.bind_some, M, if_true, Bool.true_and, impl_GapAt_eq hk, impl_isOpen_eq s.1 (show o < 9223372036854775808 by omega), impl_Neighbor_eq hk]
    by_cases H : 0 ≤ nb w h c d
    · have r := gp_range H
      have := (igap_iff.1 r).1
      simp [r, this]
      split <;> rfl
    · rw [gp_neg (by omega)]
      simp [igap]
  · simp [M]
theorem spec_Step_eq {k : Nat} (hk : 1 ≤ k) (w h o c d : Int) : spec_Step.f k w h o c d = some (st w h o c d) := by
  unfold spec_Step.f st
  rw [spec_MazeOk_eq]
  by_cases M : mok w h o = true
  · simp only [Option.bind_some, M, if_true, spec_GapAt_eq hk, spec_IsPassage_eq, spec_Neighbor_eq hk]
    split <;> rfl
  · simp [M, psg]
theorem st_facts {w h o c d : Int} (H : 0 ≤ st w h o c d) : mok w h o = true ∧ icell w h c = true ∧ icell w h (st w h o c d) = true ∧ 0 ≤ d ∧ d ≤ 3 := by
  obtain ⟨e, p⟩ := st_nb H
  rw [e] at H ⊢
  obtain ⟨h1, h2, h3, h4⟩ := nb_facts H
  unfold psg at p
  simp at p
  exact ⟨p.1.1, h1, h2, h3, h4⟩
end Go.Proofs.Ytccjanhdnheclaa.F
end

section
namespace Go.Proofs.Ytccjanhdnheclaa.F
open Go.RowKit Go.Proofs.YtccjanhdnheclaaW.PrintWords Go.Proofs.YtccjanhdnheclaaW.PrintLast Go.Proofs.YtccjanhdnheclaaW.PrintMore
set_option linter.unusedVariables false
set_option linter.unusedSimpArgs false
def flip (o g : Int) : Int := ((o.toNat ^^^ 2 ^ g.toNat : Nat) : Int)
def setb (o g : Int) (b : Bool) : Int := if b then ((o.toNat ||| 2 ^ g.toNat : Nat) : Int) else ((o.toNat ^^^ (o.toNat &&& 2 ^ g.toNat) : Nat) : Int)
theorem testBit_two_pow' (g i : Nat) : (2 ^ g).testBit i = decide (g = i) := by rw [Nat.testBit_two_pow]
theorem opn_setb {o g i : Int} (b : Bool) (hg : 0 ≤ g) (hi : 0 ≤ i) : opn (setb o g b) i = if i = g then b else opn o i := by
  unfold opn setb
  cases b with
  | true =>
    rw [if_pos rfl, Int.toNat_natCast, Nat.testBit_or, testBit_two_pow']
    by_cases h : i = g
    · subst h; simp
    · rw [if_neg h]
      have : ¬ g.toNat = i.toNat := by omega
      simp [this]
  | false =>
    rw [if_neg Bool.false_ne_true, Int.toNat_natCast, Nat.testBit_xor, Nat.testBit_and, testBit_two_pow']
    by_cases h : i = g
    · subst h; simp
    · rw [if_neg h]
      have : ¬ g.toNat = i.toNat := by omega
      simp [this]
theorem flip_lt {o g : Int} {n : Nat} (ho : 0 ≤ o) (h1 : o < 2 ^ n) (hg : 0 ≤ g) (h2 : g < n) : 0 ≤ flip o g ∧ flip o g < 2 ^ n := by
  unfold flip
  have e : ((2 : Int) ^ n) = ((2 ^ n : Nat) : Int) := by simp
  rw [e] at h1 ⊢
  have := Nat.xor_lt_two_pow (n := n) (x := o.toNat) (y := 2 ^ g.toNat) (by omega) (Nat.pow_lt_pow_right (by decide) (by omega))
  omega
theorem setb_lt {o g : Int} {n : Nat} (b : Bool) (ho : 0 ≤ o) (h1 : o < 2 ^ n) (hg : 0 ≤ g) (h2 : g < n) : 0 ≤ setb o g b ∧ setb o g b < 2 ^ n := by
  unfold setb
  have e : ((2 : Int) ^ n) = ((2 ^ n : Nat) : Int) := by simp
  rw [e] at h1 ⊢
  have ha : o.toNat < 2 ^ n := by omega
  have hp : 2 ^ g.toNat < 2 ^ n := Nat.pow_lt_pow_right (by decide) (by omega)
  have := Nat.or_lt_two_pow ha hp
  have := Nat.xor_lt_two_pow (n := n) (x := o.toNat) (y := o.toNat &&& 2 ^ g.toNat) ha (Nat.lt_of_le_of_lt Nat.and_le_left ha)
  split <;> omega
theorem xor_shl_eq {o g : Int} (ho : 0 ≤ o) (h1 : o < 2 ^ 62) (hg : 0 ≤ g) (h2 : g < 62) : Go.bits .xor .i64 o (shl .i64 1 g) = flip o g := by
  obtain ⟨a, rfl⟩ := Int.eq_ofNat_of_zero_le ho
  obtain ⟨n, rfl⟩ := Int.eq_ofNat_of_zero_le hg
  have hp : (2 : Nat) ^ n < 2 ^ 62 := Nat.pow_lt_pow_right (by decide) (by omega)

  rw [shl_one (by omega), bits_xor_i (by omega) (by omega)]
  rfl
theorem mok_flip {w h o g : Int} (M : mok w h o = true) (hg : igap w h g = true) : mok w h (flip o g) = true := by
  rw [mok_iff] at M ⊢
  have a := igap_iff.1 hg
  have := flip_lt (n := (gaps w h).toNat) M.2.1 M.2.2 a.1 (by omega)
  exact ⟨M.1, this.1, this.2⟩
theorem mok_setb {w h o g : Int} (b : Bool) (M : mok w h o = true) (hg : igap w h g = true) : mok w h (setb o g b) = true := by
  rw [mok_iff] at M ⊢
  have a := igap_iff.1 hg
  have := setb_lt (n := (gaps w h).toNat) b M.2.1 M.2.2 a.1 (by omega)
  exact ⟨M.1, this.1, this.2⟩
end Go.Proofs.Ytccjanhdnheclaa.F
end

section
namespace Go.Proofs.Ytccjanhdnheclaa.F
open Go.RowKit Go.Proofs.YtccjanhdnheclaaW.PrintWords Go.Proofs.YtccjanhdnheclaaW.PrintLast Go.Proofs.YtccjanhdnheclaaW.PrintMore
set_option linter.unusedVariables false
set_option linter.unusedSimpArgs false
theorem impl_isDirection_eq (d : Int) : impl_isDirection.f d = some (decide (0 ≤ d ∧ d ≤ 3)) := by
  unfold impl_isDirection.f
  by_cases h1 : d ≥ 0 <;> simp [h1] <;> omega
end Go.Proofs.Ytccjanhdnheclaa.F
end

section
namespace Go.Proofs.Ytccjanhdnheclaa.F
open Go.RowKit Go.Proofs.YtccjanhdnheclaaW.PrintWords Go.Proofs.YtccjanhdnheclaaW.PrintLast Go.Proofs.YtccjanhdnheclaaW.PrintMore
set_option linter.unusedVariables false
set_option linter.unusedSimpArgs false
theorem impl_isIn_eq (w h o : Int) (l : List Int) : impl_isIn.f w h o l = some (mok w h o && l.all (icell w h)) := by
  unfold impl_isIn.f
  rw [impl_MazeOk_eq, Option.bind_some, allO_of (p := icell w h) (fun x _ => impl_isCell_eq w h x)]
  cases mok w h o <;> simp
def wok (w h o c f : Int) : Bool := mok w h o && icell w h c && decide (0 ≤ f ∧ f ≤ 3)
theorem impl_WalkerOk_eq (w h o c f : Int) : impl_WalkerOk.f w h o c f = some (wok w h o c f) := by
  unfold impl_WalkerOk.f wok
  rw [impl_isIn_eq]
  simp only [Option.bind_some, impl_isDirection_eq, List.all_cons, List.all_nil, Bool.and_true]
  cases mok w h o && icell w h c <;> simp
def patStep (w h o c f : Int) (s : Int) (i : Nat) : Int := if st w h o c (Int.tmod (wrap64 (f + i)) 4) ≥ 0 then Go.bits .or .i64 s (shl .i64 1 i) else s
def pat (w h o c f : Int) : Int := if wok w h o c f then (List.range' 0 4).foldl (patStep w h o c f) 0 else -1
theorem impl_PatternAt_eq {k : Nat} (hk : 8 ≤ k) (w h o c f : Int) : impl_PatternAt.f k w h o c f = some (pat w h o c f) := by
  unfold impl_PatternAt.f pat
  rw [impl_WalkerOk_eq, Option.bind_some]
  cases wok w h o c f with
  | false => simp
  | true =>
    simp only [if_true]
    have := fold_loop (n := 4) (c := 3) (F := fun k s i => impl_PatternAt.l0 k s i w h o c f) (step := patStep w h o c f) (fin := id) (I := fun _ _ => True)
      (fun k s i hk hi _ => by
        simp only [impl_PatternAt.l0]
        rw [if_pos (by omega), impl_Step_eq (by omega), Option.bind_some, w64 (x := (i : Int) + 1) (by omega) (by omega)]
        unfold patStep
        by_cases g : st w h o c (Int.tmod (wrap64 (f + i)) 4) ≥ 0
        · rw [if_pos g, if_pos (by omega), if_pos g]
        · rw [if_neg g, if_neg g])
      (fun _ _ _ _ => trivial) (fun k s _ _ => by simp only [impl_PatternAt.l0]; rw [if_neg (by omega)]; rfl) 4 0 k 0 (by omega) (by omega) trivial
    exact this
end Go.Proofs.Ytccjanhdnheclaa.F
end
