/- Packed by a program of the session (wip/tools/pack.py): what the claim's theorem reaches, of the texts that wip/ and the kit's printer lay. -/
import Derived.Test.YtpeehicekddjhaaPkFnSigns7
import Derived.Laws.StructEq
import Derived.Shelf.Sort.Plain
import Derived.Shelf.Slices.CompactI
import Derived.Shelf.Slices.In.SortNone
import Derived.Sort.OwnSortedInts
import Derived.Test.YtpeehicekddjhaaProg
section
namespace Go.Proofs.Ytpeehicekddjhaa.F
open Go.RowKit Go.Proofs.YtpeehicekddjhaaW.PrintWords Go.Proofs.YtpeehicekddjhaaW.PrintLast Go.Proofs.YtpeehicekddjhaaW.PrintMore
set_option linter.unusedVariables false
set_option linter.unusedSimpArgs false
attribute [local go_sem] max2_int min2_int max_two min_two
set_option maxHeartbeats 8000000 in
set_option maxRecDepth 100000 in
theorem spec_l32List.calls (k : Nat) (g : Nat) (s0_0 : List Int) (s0_1 : Int) (s0_2 : Int) (a1_0 : Int) (a1_1 : Int) (a1_2 : Int) (a2 : Int) (r1 : List (SSign)) (r2 : Int) (r3 : Int) (w0 w : World) (hI : IsS146 w0 w g s0_0 s0_1 s0_2) (hB : Below w0.heap.size w0 w) (h : spec_l32List.f k s0_0 s0_1 s0_2 a1_0 a1_1 a1_2 a2 = some (r1, r2, r3)) :
  Calls Try.prog 73 #[.pointer (some ⟨g, 0, none⟩), .agg #[.int .i64 a1_0, .int .i64 a1_1, .int .i64 a1_2], .int .i64 a2] w fun e w' => ∃ v0_ : Value, e = .returned (v0_) ∧ Kd.R k49 49 w' w.heap.size (fun _ => True) v0_ r1 ∧ IsS146 w0 w' g s0_0 r2 r3 ∧ Below w0.heap.size w0 w' ∧ KeepBut w w' g none := by
 have hu27 := Try.underlying27
 have hu25 := Try.underlying25
 have hu49 := Try.underlying49
 have HI0 := aK hI
 have HK := aK (KeepBut.refl w g none)
 have HL := aK hB.size
 clear hI
 have HW0 := aK hB.size
 have HB := aK hB
 clear hB
 have H : (spec_l32List.l0 k a2 (([] : List (SSign))) 0 s0_0 s0_1 s0_2 a1_0 a1_1 a1_2) = some (r1, r2, r3) := h
 clear h
 obtain ⟨y480, hy480⟩ : ∃ y_ : List (SSign), y_ = (([] : List (SSign))) := ⟨_, rfl⟩
 replace H : (spec_l32List.l0 k a2 y480 0 s0_0 s0_1 s0_2 a1_0 a1_1 a1_2) = some (r1, r2, r3) := by first | (rw [hy480]; with_reducible exact H) | (have H2_ := (Option.bind_some _ _).symm.trans H; rw [hy480]; with_reducible exact H2_) | (have H2_ := (Option.bind_some _ _).symm.trans H; with_reducible exact H2_) | with_reducible exact H | (rw [hy480]; exact H) | exact H
 have Ny480 := aK hy480
 clear hy480
 have H' := aK H
 clear H
 go_enter Try.func73, Try.ntmps73
 go_wp2_with (first | ((with_reducible refine gate_dst (N := 4) rfl ?_); (try (refine gate_guard (by rfl) ?_; dsimp only)); refine box_event ?hg (N := 4) ?hd (cs := #[.int .i64 a1_0, .int .i64 a1_1, .int .i64 a1_2]) (t := 27) ?hr ?_; (case hd => rfl); (case hg => rfl); (case hr => first | (go_simp; done) | (go_simp; rfl)); intro gb479 hg w4 hbox hb; have n0_ := aK (IsS146.below (by repeat (first | (with_reducible first | exact HI0.out | apply IsS146.alloc | apply IsS146.drewN | apply IsS146.drew | apply IsS146.set_1 | apply IsS146.set_2) | exact HI0.out)) hb); have n1_ := aK (KeepBut.trans (by repeat (first | (with_reducible first | exact HK.out | apply KeepBut.set_ | apply keep_drewN | apply keep_drew | apply keep_alloc) | exact HK.out)) (KeepBut.of_below hb g none) (.inl rfl)); have n2_ := aK (bSp (by repeat (first | (with_reducible first | exact HB.out | apply bAl | apply bDN | apply bD1 | refine bSt ?_ (IsS146.ge HI0.out)) | exact HB.out)) hb); have n3_ := aK (hbox); have n4_ := aK ((by rw [hg]; exact (keep_size (w := w) (g := g) (row := none) (by repeat (first | (with_reducible first | exact HK.out | apply KeepBut.set_ | apply keep_drewN | apply keep_drew | apply keep_alloc) | exact HK.out))) : w.heap.size ≤ gb479)); have n5_ := aK ((Nat.le_trans HW0.out (by rw [hg]; exact (keep_size (w := w) (g := g) (row := none) (by repeat (first | (with_reducible first | exact HK.out | apply KeepBut.set_ | apply keep_drewN | apply keep_drew | apply keep_alloc) | exact HK.out))) : w.heap.size ≤ gb479) : w0.heap.size ≤ gb479)); have n6_ := aK ((by rw [hg]; exact Nat.ne_of_lt (IsS146.lt (show IsS146 w0 _ g s0_0 s0_1 s0_2 from by repeat (first | (with_reducible first | exact HI0.out | apply IsS146.alloc | apply IsS146.drewN | apply IsS146.drew | apply IsS146.set_1 | apply IsS146.set_2) | exact HI0.out))) : g ≠ gb479)); have n7_ := aK ((by rw [hg]; exact Nat.ne_of_gt (IsS146.lt (show IsS146 w0 _ g s0_0 s0_1 s0_2 from by repeat (first | (with_reducible first | exact HI0.out | apply IsS146.alloc | apply IsS146.drewN | apply IsS146.drew | apply IsS146.set_1 | apply IsS146.set_2) | exact HI0.out))) : gb479 ≠ g)); clear HI0; clear HK; clear HB; have HI0 := n0_; have HK := n1_; have HB := n2_; have BK479 := n3_; have GW479 := n4_; have GE479 := n5_; have NB0_479 := n6_; have NB479_0 := n7_; clear n0_ n1_ n2_ n3_ n4_ n5_ n6_ n7_; clear hb hbox hg) | ((with_reducible refine gate_dst (N := 13) rfl ?_); (try (refine gate_guard (by rfl) ?_; dsimp only)); refine Kd.R_lit k49 _ 49 ?hg (N := 13) ?hd (xs := ([] : List (SSign))) (inner := []) (ok := fun _ => True) (okp := fun _ => True) ?hr ?hp (fun _ hk => hk) trivial (Below.refl _ _) (Nat.le_refl _) (by simp) ?_; (case hd => rfl); (case hg => rfl); (case hr => first | (go_simp; done) | (go_simp; rfl)); (case hp => exact (Reps.none _ _)); intro v481 w5 ho6 hb hg_ hnew_; clear hg_ hnew_; (first | rw [← Ny480.out] at ho6 | (simp only [Int.reduceToNat] at ho6; rw [← Ny480.out] at ho6)); have n0_ := aK (Kd.R_lower ho6 (keep_size (w := w) (g := g) (row := none) (by repeat (first | (with_reducible first | exact HK.out | apply KeepBut.set_ | apply keep_drewN | apply keep_drew | apply keep_alloc | refine keep_far ?_ GW479.out _) | exact HK.out)))); have n1_ := aK (IsS146.below (by repeat (first | (with_reducible first | exact HI0.out | apply IsS146.alloc | apply IsS146.drewN | apply IsS146.drew | apply IsS146.set_1 | apply IsS146.set_2 | refine IsS146.far ?_ NB0_479.out _) | exact HI0.out)) hb); have n2_ := bkb BK479 hb (by intro z_; (with_reducible repeat (first | refine kDN ?_ _ | refine kD ?_ | refine kA ?_ _)); exact z_); have n3_ := aK (KeepBut.trans (by repeat (first | (with_reducible first | exact HK.out | apply KeepBut.set_ | apply keep_drewN | apply keep_drew | apply keep_alloc | refine keep_far ?_ GW479.out _) | exact HK.out)) (KeepBut.of_below hb g none) (.inl rfl)); have n4_ := aK (bSp (by repeat (first | (with_reducible first | exact HB.out | apply bAl | apply bDN | apply bD1 | refine bSt ?_ (IsS146.ge HI0.out) | refine bSt ?_ GE479.out) | exact HB.out)) hb); clear HI0; clear BK479; clear HK; clear HB; have HO482 := n0_; have HI0 := n1_; have BK479 := n2_; have HK := n3_; have HB := n4_; clear n0_ n1_ n2_ n3_ n4_; clear hb ho6))
 go_loopg [7, 8] k (fun kq v7 v8 w' => ∃ (x7_1 : List (SSign)) (x8_1 : Int) (x1001_1 : Int) (x1002_1 : Int), v8 = .int .i64 x8_1 ∧ Aside0 (spec_l32List.l0 kq a2 x7_1 x8_1 s0_0 x1001_1 x1002_1 a1_0 a1_1 a1_2 = some (r1, r2, r3)) ∧ Aside0 (kq ≤ k) ∧ Aside0 (Kd.R k49 49 w' w.heap.size (fun _ => True) v7 x7_1) ∧ Aside0 (w'.heap[gb479]? = some (.cells #[.int .i64 a1_0, .int .i64 a1_1, .int .i64 a1_2] 27 (0, 0))) ∧ Aside0 (IsS146 w0 w' g s0_0 x1001_1 x1002_1) ∧ Aside0 (KeepBut w w' g none) ∧ Aside0 (Below w0.heap.size w0 w'))
 case atStart => exact ⟨(y480), (0), (s0_1), (s0_2), (by first | rfl | (simp; done) | (simp [*]; done)), H', ⟨Nat.le_refl _⟩, ⟨by (with_reducible repeat (first | apply Kd.R_alloc | apply Kd.R_drewN | apply Kd.R_drew)); exact HO482.out⟩, ⟨by (with_reducible repeat (first | refine kDN ?_ _ | refine kD ?_ | refine kA ?_ _)); exact BK479.out⟩, ⟨by repeat (first | (with_reducible first | exact HI0.out | apply IsS146.alloc | apply IsS146.drewN | apply IsS146.drew | apply IsS146.set_1 | apply IsS146.set_2 | refine IsS146.far ?_ NB0_479.out _) | exact HI0.out)⟩, ⟨by repeat (first | (with_reducible first | exact HK.out | apply KeepBut.set_ | apply keep_drewN | apply keep_drew | apply keep_alloc | refine keep_far ?_ GW479.out _) | exact HK.out)⟩, ⟨by repeat (first | (with_reducible first | exact HB.out | apply bAl | apply bDN | apply bD1 | refine bSt ?_ (IsS146.ge HI0.out) | refine bSt ?_ GE479.out) | exact HB.out)⟩⟩
 case round =>
  clear H'
  try clear p2
  obtain ⟨x7_1, x8_1, x1001_1, x1002_1, rfl, HA, HK1, HO_7, BK479, HI0, HK, HB⟩ := hrel
  cases gk with
  | zero => exact absurd HA.out (by simp [spec_l32List.l0])
  | succ k1 =>
   have H := HA.out
   clear HA
   simp only [spec_l32List.l0] at H
   replace H := Option.bind_eq_some_iff.mp H
   obtain ⟨t483, A70, H⟩ := H
   replace H : (if x8_1 < t483 then ((spec_WaysFrom.f k1 a1_0 a1_1 a1_2 x8_1).bind fun t484 => (if (t484.length : Int) = 0 then (spec_l32List.j1 k1 a2 x7_1 x8_1 t484 true s0_0 x1001_1 x1002_1 a1_0 a1_1 a1_2) else ((spec_l01Once.f s0_0 x1001_1 x1002_1 2).bind fun bt487 => (spec_l32List.j1 k1 a2 x7_1 x8_1 t484 bt487.1 s0_0 bt487.2.1 bt487.2.2 a1_0 a1_1 a1_2)))) else (some (x7_1, x1001_1, x1002_1))) = some (r1, r2, r3) := H
   have A7 := aK A70
   clear A70
   by_cases c8 : x8_1 < t483
   ·rw [if_pos c8] at H
    have c8b0 : decide (x8_1 < t483) = true := decide_eq_true c8
    clear c8
    replace H := Option.bind_eq_some_iff.mp H
    obtain ⟨t484, A90, H⟩ := H
    replace H : (if (t484.length : Int) = 0 then (spec_l32List.j1 k1 a2 x7_1 x8_1 t484 true s0_0 x1001_1 x1002_1 a1_0 a1_1 a1_2) else ((spec_l01Once.f s0_0 x1001_1 x1002_1 2).bind fun bt487 => (spec_l32List.j1 k1 a2 x7_1 x8_1 t484 bt487.1 s0_0 bt487.2.1 bt487.2.2 a1_0 a1_1 a1_2))) = some (r1, r2, r3) := H
    have A9 := aK A90
    clear A90
    have HC10 := aK H
    clear H
    have hnb11 := NB479_0.out
    have hnc11 := NB0_479.out
    obtain ⟨hcz12_0, hcz12_1, hcz12_2, hfz12_0, hfz12_1, hfz12_2⟩ := cl3 BK479.out
    go_upto_region 6 with (first | ((with_reducible refine gate_callee (f := 30) rfl ?_); refine goesL_ (some 17) rfl rfl Try.func30 (by kernel_rfl) rfl #[.agg #[.int .i64 a1_0, .int .i64 a1_1]] rfl (by (try simp only [List.map_toArray, List.map_cons, List.map_nil]); first | done | rfl | (simp only [List.length_drop, List.length_take]; rfl)) ?_; (with_reducible refine (spec_CountCells.calls a1_0 a1_1 t483 _ A7.out).mono ?_); rintro e w13 ⟨rfl, hb⟩; refine ⟨_, rfl, ?_⟩; have n0_ := aK (Kd.R_below (by (with_reducible repeat (first | apply Kd.R_alloc | apply Kd.R_drewN | apply Kd.R_drew)); exact HO_7.out) hb); have n1_ := bkb BK479 hb (by intro z_; (with_reducible repeat (first | refine kDN ?_ _ | refine kD ?_ | refine kA ?_ _)); exact z_); have n2_ := aK (IsS146.below (by repeat (first | (with_reducible first | exact HI0.out | apply IsS146.alloc | apply IsS146.drewN | apply IsS146.drew | apply IsS146.set_1 | apply IsS146.set_2 | refine IsS146.far ?_ NB0_479.out _) | exact HI0.out)) hb); have n3_ := aK (KeepBut.trans (by repeat (first | (with_reducible first | exact HK.out | apply KeepBut.set_ | apply keep_drewN | apply keep_drew | apply keep_alloc | refine keep_far ?_ GW479.out _) | exact HK.out)) (KeepBut.of_below hb g none) (.inl rfl)); have n4_ := aK (bSp (by repeat (first | (with_reducible first | exact HB.out | apply bAl | apply bDN | apply bD1 | refine bSt ?_ (IsS146.ge HI0.out) | refine bSt ?_ GE479.out) | exact HB.out)) hb); clear HO_7; clear BK479; clear HI0; clear HK; clear HB; have HO_7 := n0_; have BK479 := n1_; have HI0 := n2_; have HK := n3_; have HB := n4_; clear n0_ n1_ n2_ n3_ n4_; (try clear hb); (try clear hb2); (try clear hk); (try clear hi); obtain ⟨hcz14_0, hcz14_1, hcz14_2, hfz14_0, hfz14_1, hfz14_2⟩ := cl3 BK479.out) | ((with_reducible refine gate_callee (f := 145) rfl ?_); refine goesL_ (some 23) rfl rfl Try.func145 (by kernel_rfl) rfl #[.agg #[.int .i64 a1_0, .int .i64 a1_1, .int .i64 a1_2], .int .i64 x8_1] rfl (by (try simp only [List.map_toArray, List.map_cons, List.map_nil]); first | done | rfl | (simp only [List.length_drop, List.length_take]; rfl)) ?_; (with_reducible refine (spec_WaysFrom.calls k1 a1_0 a1_1 a1_2 x8_1 t484 _ A9.out).mono ?_); rintro e w15 ⟨v485, rfl, ho0, hb⟩; refine ⟨_, rfl, ?_⟩; have n0_ := aK (Kd.R_below (by (with_reducible repeat (first | apply Kd.R_alloc | apply Kd.R_drewN | apply Kd.R_drew)); exact HO_7.out) hb); have n1_ := aK (Kd.R_lower ho0 (keep_size (w := w) (g := g) (row := none) (by repeat (first | (with_reducible first | exact HK.out | apply KeepBut.set_ | apply keep_drewN | apply keep_drew | apply keep_alloc | refine keep_far ?_ GW479.out _) | exact HK.out)))); have n2_ := bkb BK479 hb (by intro z_; (with_reducible repeat (first | refine kDN ?_ _ | refine kD ?_ | refine kA ?_ _)); exact z_); have n3_ := aK (IsS146.below (by repeat (first | (with_reducible first | exact HI0.out | apply IsS146.alloc | apply IsS146.drewN | apply IsS146.drew | apply IsS146.set_1 | apply IsS146.set_2 | refine IsS146.far ?_ NB0_479.out _) | exact HI0.out)) hb); have n4_ := aK (KeepBut.trans (by repeat (first | (with_reducible first | exact HK.out | apply KeepBut.set_ | apply keep_drewN | apply keep_drew | apply keep_alloc | refine keep_far ?_ GW479.out _) | exact HK.out)) (KeepBut.of_below hb g none) (.inl rfl)); have n5_ := aK (bSp (by repeat (first | (with_reducible first | exact HB.out | apply bAl | apply bDN | apply bD1 | refine bSt ?_ (IsS146.ge HI0.out) | refine bSt ?_ GE479.out) | exact HB.out)) hb); clear HO_7; clear BK479; clear HI0; clear HK; clear HB; have HO_7 := n0_; have HO486 := n1_; have BK479 := n2_; have HI0 := n3_; have HK := n4_; have HB := n5_; clear n0_ n1_ n2_ n3_ n4_ n5_; (try clear hb); (try clear hb2); (try clear hk); (try clear hi); (try clear ho0)))
    (try simp only [Act.put, sTA, sZ, sS])
    go_cut [30] (fun v30 wc => ∃ (kq : Nat) (x30_9 : Bool) (x1001_9 : Int) (x1002_9 : Int), v30 = .bool x30_9 ∧ Aside0 (spec_l32List.j1 kq a2 x7_1 x8_1 t484 x30_9 s0_0 x1001_9 x1002_9 a1_0 a1_1 a1_2 = some (r1, r2, r3)) ∧ Aside0 (kq ≤ k1) ∧ Aside0 (Kd.R k49 49 wc w.heap.size (fun _ => True) u7 x7_1) ∧ Aside0 (Kd.R (Kd.int .i64) 3 wc w.heap.size (fun _ => True) v485 t484) ∧ Aside0 (wc.heap[gb479]? = some (.cells #[.int .i64 a1_0, .int .i64 a1_1, .int .i64 a1_2] 27 (0, 0))) ∧ Aside0 (IsS146 w0 wc g s0_0 x1001_9 x1002_9) ∧ Aside0 (KeepBut w wc g none) ∧ Aside0 (Below w0.heap.size w0 wc))
    case first =>
     have H := HC10.out
     clear HC10
     by_cases c16 : (t484.length : Int) = 0
     ·rw [if_pos c16] at H
      have c16b0 : ((t484.length : Int) == 0) = true := beq_iff_eq.mpr c16
      have c16b1 : ((t484.length : Int) != 0) = false := bne_eq_false_iff_eq.mpr c16
      clear c16
      (first | rw [c16b0] | (simp only [i64_w, i32_w]; rw [c16b0]) | skip)
      have H' := aK H
      clear H
      obtain ⟨Ao17, co17, eo17⟩ := Kd.R_slice HO486.out
      subst eo17
      go_wp2
      go_meet
      case rel => exact ⟨_, (true), (x1001_1), (x1002_1), (by first | rfl | (simp; done) | (simp [*]; done)), H', ⟨by have := HK1.out; first | omega | exact Nat.le_refl _⟩, ⟨by (with_reducible repeat (first | apply Kd.R_alloc | apply Kd.R_drewN | apply Kd.R_drew)); exact HO_7.out⟩, ⟨by (with_reducible repeat (first | apply Kd.R_alloc | apply Kd.R_drewN | apply Kd.R_drew)); exact HO486.out⟩, ⟨by (with_reducible repeat (first | refine kDN ?_ _ | refine kD ?_ | refine kA ?_ _)); exact BK479.out⟩, ⟨by repeat (first | (with_reducible first | exact HI0.out | apply IsS146.alloc | apply IsS146.drewN | apply IsS146.drew | apply IsS146.set_1 | apply IsS146.set_2 | refine IsS146.far ?_ NB0_479.out _) | exact HI0.out)⟩, ⟨by repeat (first | (with_reducible first | exact HK.out | apply KeepBut.set_ | apply keep_drewN | apply keep_drew | apply keep_alloc | refine keep_far ?_ GW479.out _) | exact HK.out)⟩, ⟨by repeat (first | (with_reducible first | exact HB.out | apply bAl | apply bDN | apply bD1 | refine bSt ?_ (IsS146.ge HI0.out) | refine bSt ?_ GE479.out) | exact HB.out)⟩⟩
     ·rw [if_neg c16] at H
      have c16b0 : ((t484.length : Int) == 0) = false := beq_eq_false_iff_ne.mpr c16
      have c16b1 : ((t484.length : Int) != 0) = true := bne_iff_ne.mpr c16
      have c16b2 : ¬ (t484 = []) := fun h_ => c16 (by rw [h_]; rfl)
      (first | rw [c16b0] | (simp only [i64_w, i32_w]; rw [c16b0]) | skip)
      replace H := Option.bind_eq_some_iff.mp H
      obtain ⟨⟨t487, t488, t489⟩, A180, H⟩ := H
      replace H : (spec_l32List.j1 k1 a2 x7_1 x8_1 t484 t487 s0_0 t488 t489 a1_0 a1_1 a1_2) = some (r1, r2, r3) := H
      have A18 := aK A180
      clear A180
      have H' := aK H
      clear H
      obtain ⟨Ao19, co19, eo19⟩ := Kd.R_slice HO486.out
      subst eo19
      go_wp2_with (first | (go_at_call 134; (with_reducible refine (spec_l01Once.calls g s0_0 x1001_1 x1002_1 2 t487 t488 t489 w0 _ ?side1 ?side2 A18.out).mono ?_); (case side1 => repeat (first | (with_reducible first | exact HI0.out | apply IsS146.alloc | apply IsS146.drewN | apply IsS146.drew | apply IsS146.set_1 | apply IsS146.set_2 | refine IsS146.far ?_ NB0_479.out _) | exact HI0.out)); (case side2 => repeat (first | (with_reducible first | exact HB.out | apply bAl | apply bDN | apply bD1 | refine bSt ?_ (IsS146.ge HI0.out) | refine bSt ?_ GE479.out) | exact HB.out)); rintro e w20 ⟨rfl, hi, hb, hk⟩; have n0_ := aK (Kd.R_mono (Kd.R_keep (IsS146.apart (show IsS146 w0 _ g s0_0 x1001_1 x1002_1 from by repeat (first | (with_reducible first | exact HI0.out | apply IsS146.alloc | apply IsS146.drewN | apply IsS146.drew | apply IsS146.set_1 | apply IsS146.set_2 | refine IsS146.far ?_ NB0_479.out _) | exact HI0.out)) (by (with_reducible repeat (first | apply Kd.R_alloc | apply Kd.R_drewN | apply Kd.R_drew)); exact HO_7.out) (by decide)) hk (fun _ h => h.2)) (fun _ h => h.1)); have n1_ := aK (KeepBut.blk hk (g' := gb479) (o := .cells #[.int .i64 a1_0, .int .i64 a1_1, .int .i64 a1_2] 27 (0, 0)) (by (with_reducible repeat (first | refine kDN ?_ _ | refine kD ?_ | refine kA ?_ _)); exact BK479.out) NB479_0.out (by simp)); have n2_ := aK (Kd.R_mono (Kd.R_keep (IsS146.apart (show IsS146 w0 _ g s0_0 x1001_1 x1002_1 from by repeat (first | (with_reducible first | exact HI0.out | apply IsS146.alloc | apply IsS146.drewN | apply IsS146.drew | apply IsS146.set_1 | apply IsS146.set_2 | refine IsS146.far ?_ NB0_479.out _) | exact HI0.out)) (by (with_reducible repeat (first | apply Kd.R_alloc | apply Kd.R_drewN | apply Kd.R_drew)); exact HO486.out) (by decide)) hk (fun _ h => h.2)) (fun _ h => h.1)); have n3_ := aK (KeepBut.trans (by repeat (first | (with_reducible first | exact HK.out | apply KeepBut.set_ | apply keep_drewN | apply keep_drew | apply keep_alloc | refine keep_far ?_ GW479.out _) | exact HK.out)) hk (.inl rfl)); have n4_ := aK (hb); have n5_ := aK (hi); clear HO_7; clear BK479; clear HO486; clear HK; clear HB; clear HI0; have HO_7 := n0_; have BK479 := n1_; have HO486 := n2_; have HK := n3_; have HB := n4_; have HI0 := n5_; clear n0_ n1_ n2_ n3_ n4_ n5_; (try clear hb); (try clear hb2); (try clear hk); (try clear hi)))
      go_meet
      case rel => exact ⟨_, (t487), (t488), (t489), (by first | rfl | (simp; done) | (simp [*]; done)), H', ⟨by have := HK1.out; first | omega | exact Nat.le_refl _⟩, ⟨by (with_reducible repeat (first | apply Kd.R_alloc | apply Kd.R_drewN | apply Kd.R_drew)); exact HO_7.out⟩, ⟨by (with_reducible repeat (first | apply Kd.R_alloc | apply Kd.R_drewN | apply Kd.R_drew)); exact HO486.out⟩, ⟨by (with_reducible repeat (first | refine kDN ?_ _ | refine kD ?_ | refine kA ?_ _)); exact BK479.out⟩, ⟨by repeat (first | (with_reducible first | exact HI0.out | apply IsS146.alloc | apply IsS146.drewN | apply IsS146.drew | apply IsS146.set_1 | apply IsS146.set_2 | refine IsS146.far ?_ NB0_479.out _) | exact HI0.out)⟩, ⟨by repeat (first | (with_reducible first | exact HK.out | apply KeepBut.set_ | apply keep_drewN | apply keep_drew | apply keep_alloc | refine keep_far ?_ GW479.out _) | exact HK.out)⟩, ⟨by repeat (first | (with_reducible first | exact HB.out | apply bAl | apply bDN | apply bD1 | refine bSt ?_ (IsS146.ge HI0.out) | refine bSt ?_ GE479.out) | exact HB.out)⟩⟩
    case rest =>
     clear HC10
     try clear c1
     try clear p2
     try clear c3
     try clear c7
     try clear c8
     try clear c8b0
     try clear c11
     try clear c14
     try clear c16
     try clear c16b0
     try clear c16b1
     try clear c16b2
     try clear hcz12_0
     try clear hcz12_1
     try clear hcz12_2
     try clear hcz14_0
     try clear hcz14_1
     try clear hcz14_2
     try clear hfz12_0
     try clear hfz12_1
     try clear hfz12_2
     try clear hfz14_0
     try clear hfz14_1
     try clear hfz14_2
     try clear p2
     obtain ⟨kq, x30_9, x1001_9, x1002_9, rfl, HA, HJ9, HO_7, HO_9, BK479, HI0, HK, HB⟩ := hcut
     cases kq with
     | zero => exact absurd HA.out (by simp [spec_l32List.j1])
     | succ kj9 =>
      have H := HA.out
      clear HA
      simp only [spec_l32List.j1] at H
      by_cases c21 : x30_9 = true
      ·subst c21
       have H1 : (spec_l32List.l0 kj9 a2 x7_1 (wrap64 (x8_1 + 1)) s0_0 x1001_9 x1002_9 a1_0 a1_1 a1_2) = some (r1, r2, r3) := by rw [if_pos rfl] at H; exact H
       clear H
       have H := H1
       clear H1
       have H' := aK H
       clear H
       go_wp2
       go_roundg kj9
       case measure => have := HK1.out; have := HJ9.out; omega
       case rel => exact ⟨(x7_1), (wrap64 (x8_1 + 1)), (x1001_9), (x1002_9), (by first | rfl | (simp; done) | (simp [*]; done)), H', ⟨by have := HK1.out; have := HJ9.out; omega⟩, ⟨by (with_reducible repeat (first | apply Kd.R_alloc | apply Kd.R_drewN | apply Kd.R_drew)); exact HO_7.out⟩, ⟨by (with_reducible repeat (first | refine kDN ?_ _ | refine kD ?_ | refine kA ?_ _)); exact BK479.out⟩, ⟨by repeat (first | (with_reducible first | exact HI0.out | apply IsS146.alloc | apply IsS146.drewN | apply IsS146.drew | apply IsS146.set_1 | apply IsS146.set_2 | refine IsS146.far ?_ NB0_479.out _) | exact HI0.out)⟩, ⟨by repeat (first | (with_reducible first | exact HK.out | apply KeepBut.set_ | apply keep_drewN | apply keep_drew | apply keep_alloc | refine keep_far ?_ GW479.out _) | exact HK.out)⟩, ⟨by repeat (first | (with_reducible first | exact HB.out | apply bAl | apply bDN | apply bD1 | refine bSt ?_ (IsS146.ge HI0.out) | refine bSt ?_ GE479.out) | exact HB.out)⟩⟩
      ·replace c21 := Bool.eq_false_iff.mpr c21
       subst c21
       have H1 : ((spec_l01Below.f s0_0 x1001_9 x1002_9 (t484.length : Int)).bind fun bt490 => (if 0 ≤ bt490.1 then (if bt490.1 < (t484.length : Int) then ((spec_WayBetween.f kj9 a1_0 a1_1 a1_2 x8_1 a2).bind fun bt495 => (if bt495.2 = true then (if (bt495.1.length : Int) > 0 then ((spec_l01Below.f s0_0 bt490.2.1 bt490.2.2 5).bind fun bt499 => (if bt499.1 > 0 then (if 0 < (bt495.1.length : Int) then (if x7_1.length < 8796093022208 then (spec_l32List.l0 kj9 a2 (x7_1 ++ [(⟨x8_1, rd bt495.1 0⟩ : SSign)]) (wrap64 (x8_1 + 1)) s0_0 bt499.2.1 bt499.2.2 a1_0 a1_1 a1_2) else (none)) else (none)) else (if x7_1.length < 8796093022208 then (spec_l32List.l0 kj9 a2 (x7_1 ++ [(⟨x8_1, rd t484 bt490.1⟩ : SSign)]) (wrap64 (x8_1 + 1)) s0_0 bt499.2.1 bt499.2.2 a1_0 a1_1 a1_2) else (none)))) else (if x7_1.length < 8796093022208 then (spec_l32List.l0 kj9 a2 (x7_1 ++ [(⟨x8_1, rd t484 bt490.1⟩ : SSign)]) (wrap64 (x8_1 + 1)) s0_0 bt490.2.1 bt490.2.2 a1_0 a1_1 a1_2) else (none))) else (if x7_1.length < 8796093022208 then (spec_l32List.l0 kj9 a2 (x7_1 ++ [(⟨x8_1, rd t484 bt490.1⟩ : SSign)]) (wrap64 (x8_1 + 1)) s0_0 bt490.2.1 bt490.2.2 a1_0 a1_1 a1_2) else (none)))) else (none)) else (none))) = some (r1, r2, r3) := by rw [if_neg (show ¬ (false = true) by decide)] at H; exact H
       clear H
       have H := H1
       clear H1
       replace H := Option.bind_eq_some_iff.mp H
       obtain ⟨⟨t490, t491, t492⟩, A220, H⟩ := H
       replace H : (if 0 ≤ t490 then (if t490 < (t484.length : Int) then ((spec_WayBetween.f kj9 a1_0 a1_1 a1_2 x8_1 a2).bind fun bt495 => (if bt495.2 = true then (if (bt495.1.length : Int) > 0 then ((spec_l01Below.f s0_0 t491 t492 5).bind fun bt499 => (if bt499.1 > 0 then (if 0 < (bt495.1.length : Int) then (if x7_1.length < 8796093022208 then (spec_l32List.l0 kj9 a2 (x7_1 ++ [(⟨x8_1, rd bt495.1 0⟩ : SSign)]) (wrap64 (x8_1 + 1)) s0_0 bt499.2.1 bt499.2.2 a1_0 a1_1 a1_2) else (none)) else (none)) else (if x7_1.length < 8796093022208 then (spec_l32List.l0 kj9 a2 (x7_1 ++ [(⟨x8_1, rd t484 t490⟩ : SSign)]) (wrap64 (x8_1 + 1)) s0_0 bt499.2.1 bt499.2.2 a1_0 a1_1 a1_2) else (none)))) else (if x7_1.length < 8796093022208 then (spec_l32List.l0 kj9 a2 (x7_1 ++ [(⟨x8_1, rd t484 t490⟩ : SSign)]) (wrap64 (x8_1 + 1)) s0_0 t491 t492 a1_0 a1_1 a1_2) else (none))) else (if x7_1.length < 8796093022208 then (spec_l32List.l0 kj9 a2 (x7_1 ++ [(⟨x8_1, rd t484 t490⟩ : SSign)]) (wrap64 (x8_1 + 1)) s0_0 t491 t492 a1_0 a1_1 a1_2) else (none)))) else (none)) else (none)) = some (r1, r2, r3) := H
       have A22 := aK A220
       clear A220
       by_cases c23 : 0 ≤ t490
       ·rw [if_pos c23] at H
        have c23b0 : decide (0 ≤ t490) = true := decide_eq_true c23
        clear c23
        by_cases c24 : t490 < (t484.length : Int)
        ·rw [if_pos c24] at H
         have c24b0 : decide (t490 < (t484.length : Int)) = true := decide_eq_true c24
         clear c24
         replace H := Option.bind_eq_some_iff.mp H
         obtain ⟨⟨t495, t498⟩, A250, H⟩ := H
         replace H : (if t498 = true then (if (t495.length : Int) > 0 then ((spec_l01Below.f s0_0 t491 t492 5).bind fun bt499 => (if bt499.1 > 0 then (if 0 < (t495.length : Int) then (if x7_1.length < 8796093022208 then (spec_l32List.l0 kj9 a2 (x7_1 ++ [(⟨x8_1, rd t495 0⟩ : SSign)]) (wrap64 (x8_1 + 1)) s0_0 bt499.2.1 bt499.2.2 a1_0 a1_1 a1_2) else (none)) else (none)) else (if x7_1.length < 8796093022208 then (spec_l32List.l0 kj9 a2 (x7_1 ++ [(⟨x8_1, rd t484 t490⟩ : SSign)]) (wrap64 (x8_1 + 1)) s0_0 bt499.2.1 bt499.2.2 a1_0 a1_1 a1_2) else (none)))) else (if x7_1.length < 8796093022208 then (spec_l32List.l0 kj9 a2 (x7_1 ++ [(⟨x8_1, rd t484 t490⟩ : SSign)]) (wrap64 (x8_1 + 1)) s0_0 t491 t492 a1_0 a1_1 a1_2) else (none))) else (if x7_1.length < 8796093022208 then (spec_l32List.l0 kj9 a2 (x7_1 ++ [(⟨x8_1, rd t484 t490⟩ : SSign)]) (wrap64 (x8_1 + 1)) s0_0 t491 t492 a1_0 a1_1 a1_2) else (none))) = some (r1, r2, r3) := H
         have A25 := aK A250
         clear A250
         by_cases c26 : t498 = true
         ·subst c26
          have H1 : (if (t495.length : Int) > 0 then ((spec_l01Below.f s0_0 t491 t492 5).bind fun bt499 => (if bt499.1 > 0 then (if 0 < (t495.length : Int) then (if x7_1.length < 8796093022208 then (spec_l32List.l0 kj9 a2 (x7_1 ++ [(⟨x8_1, rd t495 0⟩ : SSign)]) (wrap64 (x8_1 + 1)) s0_0 bt499.2.1 bt499.2.2 a1_0 a1_1 a1_2) else (none)) else (none)) else (if x7_1.length < 8796093022208 then (spec_l32List.l0 kj9 a2 (x7_1 ++ [(⟨x8_1, rd t484 t490⟩ : SSign)]) (wrap64 (x8_1 + 1)) s0_0 bt499.2.1 bt499.2.2 a1_0 a1_1 a1_2) else (none)))) else (if x7_1.length < 8796093022208 then (spec_l32List.l0 kj9 a2 (x7_1 ++ [(⟨x8_1, rd t484 t490⟩ : SSign)]) (wrap64 (x8_1 + 1)) s0_0 t491 t492 a1_0 a1_1 a1_2) else (none))) = some (r1, r2, r3) := by rw [if_pos rfl] at H; exact H
          clear H
          have H := H1
          clear H1
          by_cases c27 : (t495.length : Int) > 0
          ·rw [if_pos c27] at H
           have c27b0 : decide (0 < (t495.length : Int)) = true := decide_eq_true c27
           have c27b1 : decide (0 < t495.length) = true := decide_eq_true (by omega)
           clear c27
           replace H := Option.bind_eq_some_iff.mp H
           obtain ⟨⟨t499, t500, t501⟩, A280, H⟩ := H
           replace H : (if t499 > 0 then (if 0 < (t495.length : Int) then (if x7_1.length < 8796093022208 then (spec_l32List.l0 kj9 a2 (x7_1 ++ [(⟨x8_1, rd t495 0⟩ : SSign)]) (wrap64 (x8_1 + 1)) s0_0 t500 t501 a1_0 a1_1 a1_2) else (none)) else (none)) else (if x7_1.length < 8796093022208 then (spec_l32List.l0 kj9 a2 (x7_1 ++ [(⟨x8_1, rd t484 t490⟩ : SSign)]) (wrap64 (x8_1 + 1)) s0_0 t500 t501 a1_0 a1_1 a1_2) else (none))) = some (r1, r2, r3) := H
           have A28 := aK A280
           clear A280
           by_cases c29 : t499 > 0
           ·rw [if_pos c29] at H
            have c29b0 : decide (0 < t499) = true := decide_eq_true c29
            clear c29
            by_cases c30 : 0 < (t495.length : Int)
            ·rw [if_pos c30] at H
             have c30b0 : decide (0 < (t495.length : Int)) = true := decide_eq_true c30
             have c30b1 : decide (0 < t495.length) = true := decide_eq_true (by omega)
             clear c30
             by_cases c31 : x7_1.length < 8796093022208
             ·rw [if_pos c31] at H
              have LMc31 := aK c31
              clear c31
              obtain ⟨y503, hy503⟩ : ∃ y_ : List (SSign), y_ = (x7_1 ++ [(⟨x8_1, rd t495 0⟩ : SSign)]) := ⟨_, rfl⟩
              replace H : (spec_l32List.l0 kj9 a2 y503 (wrap64 (x8_1 + 1)) s0_0 t500 t501 a1_0 a1_1 a1_2) = some (r1, r2, r3) := by first | (rw [hy503]; with_reducible exact H) | (have H2_ := (Option.bind_some _ _).symm.trans H; rw [hy503]; with_reducible exact H2_) | (have H2_ := (Option.bind_some _ _).symm.trans H; with_reducible exact H2_) | with_reducible exact H | (rw [hy503]; exact H) | exact H
              have Ny503 := aK hy503
              clear hy503
              have H' := aK H
              clear H
              obtain ⟨Ao32, co32, eo32⟩ := Kd.R_slice HO_9.out
              subst eo32
              go_wp2_with (first | ((with_reducible refine gate_callee (f := 72) rfl ?_); refine goesL_ (some 36) rfl rfl Try.func72 (by kernel_rfl) rfl #[.pointer (some ⟨g, 0, none⟩), .int .i64 (t484.length : Int)] rfl (by (try simp only [List.map_toArray, List.map_cons, List.map_nil]); first | done | rfl | (simp only [List.length_drop, List.length_take]; rfl)) ?_; (with_reducible refine (spec_l01Below.calls g s0_0 x1001_9 x1002_9 (t484.length : Int) t490 t491 t492 w0 _ ?side1 ?side2 A22.out).mono ?_); (case side1 => repeat (first | (with_reducible first | exact HI0.out | apply IsS146.alloc | apply IsS146.drewN | apply IsS146.drew | apply IsS146.set_1 | apply IsS146.set_2 | refine IsS146.far ?_ NB0_479.out _) | exact HI0.out)); (case side2 => repeat (first | (with_reducible first | exact HB.out | apply bAl | apply bDN | apply bD1 | refine bSt ?_ (IsS146.ge HI0.out) | refine bSt ?_ GE479.out) | exact HB.out)); rintro e w33 ⟨rfl, hi, hb, hk⟩; refine ⟨_, rfl, ?_⟩; have n0_ := aK (Kd.R_mono (Kd.R_keep (IsS146.apart (show IsS146 w0 _ g s0_0 x1001_9 x1002_9 from by repeat (first | (with_reducible first | exact HI0.out | apply IsS146.alloc | apply IsS146.drewN | apply IsS146.drew | apply IsS146.set_1 | apply IsS146.set_2 | refine IsS146.far ?_ NB0_479.out _) | exact HI0.out)) (by (with_reducible repeat (first | apply Kd.R_alloc | apply Kd.R_drewN | apply Kd.R_drew)); exact HO_7.out) (by decide)) hk (fun _ h => h.2)) (fun _ h => h.1)); have n1_ := aK (Kd.R_mono (Kd.R_keep (IsS146.apart (show IsS146 w0 _ g s0_0 x1001_9 x1002_9 from by repeat (first | (with_reducible first | exact HI0.out | apply IsS146.alloc | apply IsS146.drewN | apply IsS146.drew | apply IsS146.set_1 | apply IsS146.set_2 | refine IsS146.far ?_ NB0_479.out _) | exact HI0.out)) (by (with_reducible repeat (first | apply Kd.R_alloc | apply Kd.R_drewN | apply Kd.R_drew)); exact HO_9.out) (by decide)) hk (fun _ h => h.2)) (fun _ h => h.1)); have n2_ := aK (KeepBut.blk hk (g' := gb479) (o := .cells #[.int .i64 a1_0, .int .i64 a1_1, .int .i64 a1_2] 27 (0, 0)) (by (with_reducible repeat (first | refine kDN ?_ _ | refine kD ?_ | refine kA ?_ _)); exact BK479.out) NB479_0.out (by simp)); have n3_ := aK (KeepBut.trans (by repeat (first | (with_reducible first | exact HK.out | apply KeepBut.set_ | apply keep_drewN | apply keep_drew | apply keep_alloc | refine keep_far ?_ GW479.out _) | exact HK.out)) hk (.inl rfl)); have n4_ := aK (hb); have n5_ := aK (hi); clear HO_7; clear HO_9; clear BK479; clear HK; clear HB; clear HI0; have HO_7 := n0_; have HO_9 := n1_; have BK479 := n2_; have HK := n3_; have HB := n4_; have HI0 := n5_; clear n0_ n1_ n2_ n3_ n4_ n5_; (try clear hb); (try clear hb2); (try clear hk); (try clear hi); have p493 : 0 ≤ (t490 : Int) := of_decide_eq_true (by first | (with_reducible assumption) | assumption); have q493 : t490 < (t484.length : Int) := of_decide_eq_true (by first | (with_reducible assumption) | assumption); obtain ⟨ad493, e493, hx493_0⟩ := Kd.at_int (Kd.R_reads' HO_9.out).2.2 t490 p493 q493; cases e493; replace p493 := eq_true p493; replace q493 := eq_true q493) | ((with_reducible refine gate_dst (N := 10) rfl ?_); (try (refine gate_guard (by rfl) ?_; dsimp only)); refine box_event ?hg (N := 10) ?hd (cs := #[.int .i64 0, .int .i64 0]) (t := 49) ?hr ?_; (case hd => rfl); (case hg => rfl); (case hr => first | (go_simp; done) | (go_simp; rfl)); intro gb494 hg w34 hbox hb; have n0_ := aK (Kd.R_below (Kd.R_elderB (by (with_reducible repeat (first | apply Kd.R_alloc | apply Kd.R_drewN | apply Kd.R_drew)); exact HO_7.out) gb494 (Nat.le_of_eq hg.symm)) hb); have n1_ := aK (Kd.R_below (by (with_reducible repeat (first | apply Kd.R_alloc | apply Kd.R_drewN | apply Kd.R_drew)); exact HO_9.out) hb); have n2_ := bkb BK479 hb (by intro z_; (with_reducible repeat (first | refine kDN ?_ _ | refine kD ?_ | refine kA ?_ _)); exact z_); have n3_ := aK (IsS146.below (by repeat (first | (with_reducible first | exact HI0.out | apply IsS146.alloc | apply IsS146.drewN | apply IsS146.drew | apply IsS146.set_1 | apply IsS146.set_2 | refine IsS146.far ?_ NB0_479.out _) | exact HI0.out)) hb); have n4_ := aK (KeepBut.trans (by repeat (first | (with_reducible first | exact HK.out | apply KeepBut.set_ | apply keep_drewN | apply keep_drew | apply keep_alloc | refine keep_far ?_ GW479.out _) | exact HK.out)) (KeepBut.of_below hb g none) (.inl rfl)); have n5_ := aK (bSp (by repeat (first | (with_reducible first | exact HB.out | apply bAl | apply bDN | apply bD1 | refine bSt ?_ (IsS146.ge HI0.out) | refine bSt ?_ GE479.out) | exact HB.out)) hb); have n6_ := aK (hbox); have n7_ := aK ((by rw [hg]; exact (keep_size (w := w) (g := g) (row := none) (by repeat (first | (with_reducible first | exact HK.out | apply KeepBut.set_ | apply keep_drewN | apply keep_drew | apply keep_alloc | refine keep_far ?_ GW479.out _) | exact HK.out))) : w.heap.size ≤ gb494)); have n8_ := aK ((Nat.le_trans HW0.out (by rw [hg]; exact (keep_size (w := w) (g := g) (row := none) (by repeat (first | (with_reducible first | exact HK.out | apply KeepBut.set_ | apply keep_drewN | apply keep_drew | apply keep_alloc | refine keep_far ?_ GW479.out _) | exact HK.out))) : w.heap.size ≤ gb494) : w0.heap.size ≤ gb494)); have n9_ := nbl BK479 hg (by intro z_; (with_reducible repeat (first | refine kDN ?_ _ | refine kD ?_ | refine kA ?_ _)); exact z_); have n10_ := nbs n9_; have n11_ := aK ((by rw [hg]; exact Nat.ne_of_lt (IsS146.lt (show IsS146 w0 _ g s0_0 t491 t492 from by repeat (first | (with_reducible first | exact HI0.out | apply IsS146.alloc | apply IsS146.drewN | apply IsS146.drew | apply IsS146.set_1 | apply IsS146.set_2 | refine IsS146.far ?_ NB0_479.out _) | exact HI0.out))) : g ≠ gb494)); have n12_ := aK ((by rw [hg]; exact Nat.ne_of_gt (IsS146.lt (show IsS146 w0 _ g s0_0 t491 t492 from by repeat (first | (with_reducible first | exact HI0.out | apply IsS146.alloc | apply IsS146.drewN | apply IsS146.drew | apply IsS146.set_1 | apply IsS146.set_2 | refine IsS146.far ?_ NB0_479.out _) | exact HI0.out))) : gb494 ≠ g)); clear HO_7; clear HO_9; clear BK479; clear HI0; clear HK; clear HB; have HO_7 := n0_; have HO_9 := n1_; have BK479 := n2_; have HI0 := n3_; have HK := n4_; have HB := n5_; have BK494 := n6_; have GW494 := n7_; have GE494 := n8_; have NB479_494 := n9_; have NB494_479 := n10_; have NB0_494 := n11_; have NB494_0 := n12_; clear n0_ n1_ n2_ n3_ n4_ n5_ n6_ n7_ n8_ n9_ n10_ n11_ n12_; clear hb hbox hg; have hnb35 := NB494_479.out; have hnc35 := NB479_494.out; have hnb36 := NB494_0.out; have hnc36 := NB0_494.out; obtain ⟨hcz37_0, hcz37_1, hfz37_0, hfz37_1⟩ := cl2 BK494.out; have hnb38 := NB479_0.out; have hnc38 := NB0_479.out; obtain ⟨hcz39_0, hcz39_1, hcz39_2, hfz39_0, hfz39_1, hfz39_2⟩ := cl3 BK479.out) | ((with_reducible refine gate_callee (f := 146) rfl ?_); refine goesL_ (some 44) rfl rfl Try.func146 (by kernel_rfl) rfl #[.agg #[.int .i64 a1_0, .int .i64 a1_1, .int .i64 a1_2], .int .i64 x8_1, .int .i64 a2] rfl (by (try simp only [List.map_toArray, List.map_cons, List.map_nil]); first | done | rfl | (simp only [List.length_drop, List.length_take]; rfl)) ?_; (with_reducible refine (spec_WayBetween.calls kj9 a1_0 a1_1 a1_2 x8_1 a2 t495 true _ A25.out).mono ?_); rintro e w40 ⟨v496, rfl, ho0, hb⟩; refine ⟨_, rfl, ?_⟩; have n0_ := aK (Kd.R_below (by (with_reducible repeat (first | apply Kd.R_alloc | apply Kd.R_drewN | apply Kd.R_drew)); exact (Kd.R_mono (Kd.R_far (p := ⟨gb494, 1, none⟩) (Kd.R_far (p := ⟨gb494, 0, none⟩) (Kd.R_mono HO_7.out (fun k_ hk => (⟨hk, hk.2⟩ : _ ∧ k_ ≠ gb494))) (fun _ hk => hk.2) (.int .i64 x8_1)) (fun _ hk => hk.2) (.int .i64 (rd t484 t490))) (fun _ h_ => h_.1))) hb); have n1_ := aK (Kd.R_elder' (by (with_reducible repeat (first | apply Kd.R_alloc | apply Kd.R_drewN | apply Kd.R_drew)); exact (Kd.R_mono (Kd.R_far (p := ⟨gb494, 1, none⟩) (Kd.R_far (p := ⟨gb494, 0, none⟩) (Kd.R_types HO_9.out BK494.out (by decide)) (fun _ hk => hk.2) (.int .i64 x8_1)) (fun _ hk => hk.2) (.int .i64 (rd t484 t490))) (fun _ h_ => h_.1))) (Kd.R_base ho0) hb); have n2_ := aK (Kd.R_lower (Kd.R_new' ho0 (Kd.R_lt (by (with_reducible repeat (first | apply Kd.R_alloc | apply Kd.R_drewN | apply Kd.R_drew)); exact (Kd.R_mono (Kd.R_far (p := ⟨gb494, 1, none⟩) (Kd.R_far (p := ⟨gb494, 0, none⟩) (Kd.R_types HO_9.out BK494.out (by decide)) (fun _ hk => hk.2) (.int .i64 x8_1)) (fun _ hk => hk.2) (.int .i64 (rd t484 t490))) (fun _ h_ => h_.1))))) (keep_size (w := w) (g := g) (row := none) (by repeat (first | (with_reducible first | exact HK.out | apply KeepBut.set_ | apply keep_drewN | apply keep_drew | apply keep_alloc | refine keep_far ?_ GW479.out _ | refine keep_far ?_ GW494.out _) | exact HK.out)))); have n3_ := bkb BK479 hb (by intro z_; (with_reducible repeat (first | refine kDN ?_ _ | refine kD ?_ | refine kA ?_ _)); refine blk_far ?_ NB479_494.out _; (with_reducible repeat (first | refine kDN ?_ _ | refine kD ?_ | refine kA ?_ _)); refine blk_far ?_ NB479_494.out _; (with_reducible repeat (first | refine kDN ?_ _ | refine kD ?_ | refine kA ?_ _)); exact z_); have n4_ := aK (IsS146.below (show IsS146 w0 ((w34.setCell ⟨gb494, 0, none⟩ (.int .i64 x8_1)).setCell ⟨gb494, 1, none⟩ (.int .i64 (rd t484 t490))) g s0_0 t491 t492 from by repeat (first | (with_reducible first | exact HI0.out | apply IsS146.alloc | apply IsS146.drewN | apply IsS146.drew | apply IsS146.set_1 | apply IsS146.set_2 | refine IsS146.far ?_ NB0_479.out _ | refine IsS146.far ?_ NB0_494.out _) | exact HI0.out)) hb); have n5_ := aK (blk_below (g := gb494) (o := .cells #[.int .i64 x8_1, .int .i64 (rd t484 t490)] 49 (0, 0)) (by (with_reducible repeat (first | refine kDN ?_ _ | refine kD ?_ | refine kA ?_ _)); refine blk_put (cs := #[.int .i64 x8_1, .int .i64 0]) ?_ 1 _ rfl; (with_reducible repeat (first | refine kDN ?_ _ | refine kD ?_ | refine kA ?_ _)); refine blk_put (cs := #[.int .i64 0, .int .i64 0]) ?_ 0 _ rfl; (with_reducible repeat (first | refine kDN ?_ _ | refine kD ?_ | refine kA ?_ _)); exact BK494.out) hb); have n6_ := aK (KeepBut.trans (by repeat (first | (with_reducible first | exact HK.out | apply KeepBut.set_ | apply keep_drewN | apply keep_drew | apply keep_alloc | refine keep_far ?_ GW479.out _ | refine keep_far ?_ GW494.out _) | exact HK.out)) (KeepBut.of_below hb g none) (.inl rfl)); have n7_ := aK (bSp (by repeat (first | (with_reducible first | exact HB.out | apply bAl | apply bDN | apply bD1 | refine bSt ?_ (IsS146.ge HI0.out) | refine bSt ?_ GE479.out | refine bSt ?_ GE494.out) | exact HB.out)) hb); clear HO_7; clear HO_9; clear BK479; clear HI0; clear BK494; clear HK; clear HB; have HO_7 := n0_; have HO_9 := n1_; have HO497 := n2_; have BK479 := n3_; have HI0 := n4_; have BK494 := n5_; have HK := n6_; have HB := n7_; clear n0_ n1_ n2_ n3_ n4_ n5_ n6_ n7_; (try clear hb); (try clear hb2); (try clear hk); (try clear hi); (try clear ho0); obtain ⟨Ao41, co41, eo41⟩ := Kd.R_slice HO497.out; subst eo41) | (go_at_call 72; (with_reducible refine (spec_l01Below.calls g s0_0 t491 t492 5 t499 t500 t501 w0 _ ?side1 ?side2 A28.out).mono ?_); (case side1 => repeat (first | (with_reducible first | exact HI0.out | apply IsS146.alloc | apply IsS146.drewN | apply IsS146.drew | apply IsS146.set_1 | apply IsS146.set_2 | refine IsS146.far ?_ NB0_479.out _ | refine IsS146.far ?_ NB0_494.out _) | exact HI0.out)); (case side2 => repeat (first | (with_reducible first | exact HB.out | apply bAl | apply bDN | apply bD1 | refine bSt ?_ (IsS146.ge HI0.out) | refine bSt ?_ GE479.out | refine bSt ?_ GE494.out) | exact HB.out)); rintro e w42 ⟨rfl, hi, hb, hk⟩; have n0_ := aK (Kd.R_mono (Kd.R_keep (IsS146.apart (show IsS146 w0 _ g s0_0 t491 t492 from by repeat (first | (with_reducible first | exact HI0.out | apply IsS146.alloc | apply IsS146.drewN | apply IsS146.drew | apply IsS146.set_1 | apply IsS146.set_2 | refine IsS146.far ?_ NB0_479.out _ | refine IsS146.far ?_ NB0_494.out _) | exact HI0.out)) (by (with_reducible repeat (first | apply Kd.R_alloc | apply Kd.R_drewN | apply Kd.R_drew)); exact HO_7.out) (by decide)) hk (fun _ h => h.2)) (fun _ h => h.1)); have n1_ := aK (Kd.R_mono (Kd.R_keep (IsS146.apart (show IsS146 w0 _ g s0_0 t491 t492 from by repeat (first | (with_reducible first | exact HI0.out | apply IsS146.alloc | apply IsS146.drewN | apply IsS146.drew | apply IsS146.set_1 | apply IsS146.set_2 | refine IsS146.far ?_ NB0_479.out _ | refine IsS146.far ?_ NB0_494.out _) | exact HI0.out)) (by (with_reducible repeat (first | apply Kd.R_alloc | apply Kd.R_drewN | apply Kd.R_drew)); exact HO_9.out) (by decide)) hk (fun _ h => h.2)) (fun _ h => h.1)); have n2_ := aK (KeepBut.blk hk (g' := gb479) (o := .cells #[.int .i64 a1_0, .int .i64 a1_1, .int .i64 a1_2] 27 (0, 0)) (by (with_reducible repeat (first | refine kDN ?_ _ | refine kD ?_ | refine kA ?_ _)); exact BK479.out) NB479_0.out (by simp)); have n3_ := aK (KeepBut.blk hk (g' := gb494) (o := .cells #[.int .i64 x8_1, .int .i64 (rd t484 t490)] 49 (0, 0)) (by (with_reducible repeat (first | refine kDN ?_ _ | refine kD ?_ | refine kA ?_ _)); exact BK494.out) NB494_0.out (by simp)); have n4_ := aK (Kd.R_mono (Kd.R_keep (IsS146.apart (show IsS146 w0 _ g s0_0 t491 t492 from by repeat (first | (with_reducible first | exact HI0.out | apply IsS146.alloc | apply IsS146.drewN | apply IsS146.drew | apply IsS146.set_1 | apply IsS146.set_2 | refine IsS146.far ?_ NB0_479.out _ | refine IsS146.far ?_ NB0_494.out _) | exact HI0.out)) (by (with_reducible repeat (first | apply Kd.R_alloc | apply Kd.R_drewN | apply Kd.R_drew)); exact HO497.out) (by decide)) hk (fun _ h => h.2)) (fun _ h => h.1)); have n5_ := aK (KeepBut.trans (by repeat (first | (with_reducible first | exact HK.out | apply KeepBut.set_ | apply keep_drewN | apply keep_drew | apply keep_alloc | refine keep_far ?_ GW479.out _ | refine keep_far ?_ GW494.out _) | exact HK.out)) hk (.inl rfl)); have n6_ := aK (hb); have n7_ := aK (hi); clear HO_7; clear HO_9; clear BK479; clear BK494; clear HO497; clear HK; clear HB; clear HI0; have HO_7 := n0_; have HO_9 := n1_; have BK479 := n2_; have BK494 := n3_; have HO497 := n4_; have HK := n5_; have HB := n6_; have HI0 := n7_; clear n0_ n1_ n2_ n3_ n4_ n5_ n6_ n7_; (try clear hb); (try clear hb2); (try clear hk); (try clear hi); have p502 : 0 ≤ (0 : Int) := (by omega); have q502 : 0 < (t495.length : Int) := of_decide_eq_true (by first | (with_reducible assumption) | assumption); obtain ⟨ad502, e502, hx502_0⟩ := Kd.at_int (Kd.R_reads' HO497.out).2.2 0 p502 q502; cases e502; have qi502 : (0 < t495.length) = True := eq_true (by omega); (try rw [show ((0 : Int)).toNat = 0 from rfl] at hx502_0); (try rw [Addr.add_zero'] at hx502_0); replace p502 := eq_true p502; replace q502 := eq_true q502; obtain ⟨hcz43_0, hcz43_1, hfz43_0, hfz43_1⟩ := cl2 BK494.out) | ((with_reducible refine gate_builtin (b := .append) (xs := #[.tmp 62, .tmp 64]) rfl ?_); (try (refine gate_guard (by rfl) ?_; dsimp only)); at_builtin; refine Kd.R_append k49 w.heap.size rfl (.tmp 62) (.tmp 64) 41 49 (.agg #[(.int .i64 0), (.int .i64 0)]) 16 rfl Try.underlying41 info49 rfl (by decide) (by omega) u7 x7_1 (⟨x8_1, rd t495 0⟩ : SSign) [.int .i64 x8_1, .int .i64 (rd t495 0)] (fun k_ => k_ ≠ gb494) (fun _ => False) rfl (by first | (go_simp; done) | (go_simp; rfl)) ?aP (fun _ hk => hk.elim) ?aF ?aO (Below.refl _ _) ?aS ?aL ?_; (case aP => exact k49_mkM _ _ _ (⟨x8_1, rd t495 0⟩ : SSign)); (case aF => exact (fun k_ hk => Kd.freshB (g := gb494) (o := .cells #[.int .i64 x8_1, .int .i64 (rd t495 0)] 49 (0, 0)) (by (with_reducible repeat (first | refine kDN ?_ _ | refine kD ?_ | refine kA ?_ _)); refine blk_put (cs := #[.int .i64 x8_1, .int .i64 (rd t484 t490)]) ?_ 1 _ rfl; (with_reducible repeat (first | refine kDN ?_ _ | refine kD ?_ | refine kA ?_ _)); exact BK494.out) k_ hk)); (case aO => exact (by (with_reducible repeat (first | apply Kd.R_alloc | apply Kd.R_drewN | apply Kd.R_drew)); exact Kd.R_mono (Kd.R_far (p := ⟨gb494, 1, none⟩) (Kd.R_mono HO_7.out (fun k_ hk => (⟨hk, hk.2⟩ : _ ∧ k_ ≠ gb494))) (fun _ hk => hk.2) (.int .i64 (rd t495 0))) (fun _ hk => hk.1.2))); (case aS => exact (keep_size (w := w) (g := g) (row := none) (by repeat (first | (with_reducible first | exact HK.out | apply KeepBut.set_ | apply keep_drewN | apply keep_drew | apply keep_alloc | refine keep_far ?_ GW479.out _ | refine keep_far ?_ GW494.out _) | exact HK.out)))); (case aL => have := LMc31.out; omega); intro v504 w44 ho hb hg hat; rw [← Ny503.out] at ho; have n0_ := aK (Kd.R_over' (by (with_reducible repeat (first | apply Kd.R_alloc | apply Kd.R_drewN | apply Kd.R_drew)); exact (Kd.R_mono (Kd.R_far (p := ⟨gb494, 1, none⟩) (Kd.R_types HO_9.out BK494.out (by decide)) (fun _ hk => hk.2) (.int .i64 (rd t495 0))) (fun _ h_ => h_.1))) (Kd.R_typed (by (with_reducible repeat (first | apply Kd.R_alloc | apply Kd.R_drewN | apply Kd.R_drew)); exact (Kd.R_mono (Kd.R_far (p := ⟨gb494, 1, none⟩) (Kd.R_mono HO_7.out (fun k_ hk => (⟨hk, hk.2⟩ : _ ∧ k_ ≠ gb494))) (fun _ hk => hk.2) (.int .i64 (rd t495 0))) (fun _ h_ => h_.1)))) (by decide) hg); have n1_ := aK (blk_grown (g := gb479) (o := .cells #[.int .i64 a1_0, .int .i64 a1_1, .int .i64 a1_2] 27 (0, 0)) (by (with_reducible repeat (first | refine kDN ?_ _ | refine kD ?_ | refine kA ?_ _)); refine blk_far ?_ NB479_494.out _; (with_reducible repeat (first | refine kDN ?_ _ | refine kD ?_ | refine kA ?_ _)); exact BK479.out) hg (Kd.R_ne HO_7.out BK479.out (by decide))); have n2_ := aK (IsS146.grown (show IsS146 w0 _ g s0_0 t500 t501 from by repeat (first | (with_reducible first | exact HI0.out | apply IsS146.alloc | apply IsS146.drewN | apply IsS146.drew | apply IsS146.set_1 | apply IsS146.set_2 | refine IsS146.far ?_ NB0_479.out _ | refine IsS146.far ?_ NB0_494.out _) | exact HI0.out)) hg (IsS146.own_ne HI0.out HO_7.out (by decide))); have n3_ := aK (blk_grown (g := gb494) (o := .cells #[.int .i64 x8_1, .int .i64 (rd t495 0)] 49 (0, 0)) (by (with_reducible repeat (first | refine kDN ?_ _ | refine kD ?_ | refine kA ?_ _)); refine blk_put (cs := #[.int .i64 x8_1, .int .i64 (rd t484 t490)]) ?_ 1 _ rfl; (with_reducible repeat (first | refine kDN ?_ _ | refine kD ?_ | refine kA ?_ _)); exact BK494.out) hg (Kd.R_away HO_7.out (fun _ hk => hk.2))); have n4_ := aK (Kd.R_over' (by (with_reducible repeat (first | apply Kd.R_alloc | apply Kd.R_drewN | apply Kd.R_drew)); exact (Kd.R_mono (Kd.R_far (p := ⟨gb494, 1, none⟩) (Kd.R_types HO497.out BK494.out (by decide)) (fun _ hk => hk.2) (.int .i64 (rd t495 0))) (fun _ h_ => h_.1))) (Kd.R_typed (by (with_reducible repeat (first | apply Kd.R_alloc | apply Kd.R_drewN | apply Kd.R_drew)); exact (Kd.R_mono (Kd.R_far (p := ⟨gb494, 1, none⟩) (Kd.R_mono HO_7.out (fun k_ hk => (⟨hk, hk.2⟩ : _ ∧ k_ ≠ gb494))) (fun _ hk => hk.2) (.int .i64 (rd t495 0))) (fun _ h_ => h_.1)))) (by decide) hg); have n5_ := aK (below_weaken (by repeat (first | (with_reducible first | exact HB.out | apply bAl | apply bDN | apply bD1 | refine bSt ?_ (IsS146.ge HI0.out) | refine bSt ?_ GE479.out | refine bSt ?_ GE494.out) | exact HB.out)) HL.out hb); have n6_ := aK (KeepBut.trans (by repeat (first | (with_reducible first | exact HK.out | apply KeepBut.set_ | apply keep_drewN | apply keep_drew | apply keep_alloc | refine keep_far ?_ GW479.out _ | refine keep_far ?_ GW494.out _) | exact HK.out)) (KeepBut.of_grown hg g) (Kd.R_base2 HO_7.out)); have n7_ := aK (ho); clear HO_9; clear BK479; clear HI0; clear BK494; clear HO497; clear HB; clear HK; clear HO_7; have HO_9 := n0_; have BK479 := n1_; have HI0 := n2_; have BK494 := n3_; have HO497 := n4_; have HB := n5_; have HK := n6_; have HO505 := n7_; clear n0_ n1_ n2_ n3_ n4_ n5_ n6_ n7_; clear ho hb hg hat))
              go_roundg kj9
              case measure => have := HK1.out; have := HJ9.out; omega
              case rel => exact ⟨(y503), (wrap64 (x8_1 + 1)), (t500), (t501), (by first | rfl | (simp; done) | (simp [*]; done)), H', ⟨by have := HK1.out; have := HJ9.out; omega⟩, ⟨by (with_reducible repeat (first | apply Kd.R_alloc | apply Kd.R_drewN | apply Kd.R_drew)); exact Kd.R_mono HO505.out (fun _ hk => trivial)⟩, ⟨by (with_reducible repeat (first | refine kDN ?_ _ | refine kD ?_ | refine kA ?_ _)); exact BK479.out⟩, ⟨by repeat (first | (with_reducible first | exact HI0.out | apply IsS146.alloc | apply IsS146.drewN | apply IsS146.drew | apply IsS146.set_1 | apply IsS146.set_2 | refine IsS146.far ?_ NB0_479.out _ | refine IsS146.far ?_ NB0_494.out _) | exact HI0.out)⟩, ⟨by repeat (first | (with_reducible first | exact HK.out | apply KeepBut.set_ | apply keep_drewN | apply keep_drew | apply keep_alloc | refine keep_far ?_ GW479.out _ | refine keep_far ?_ GW494.out _) | exact HK.out)⟩, ⟨by repeat (first | (with_reducible first | exact HB.out | apply bAl | apply bDN | apply bD1 | refine bSt ?_ (IsS146.ge HI0.out) | refine bSt ?_ GE479.out | refine bSt ?_ GE494.out) | exact HB.out)⟩⟩
             ·rw [if_neg c31] at H
              exact absurd H (by simp)
            ·rw [if_neg c30] at H
             exact absurd H (by simp)
           ·rw [if_neg c29] at H
            have c29b0 : decide (0 < t499) = false := decide_eq_false c29
            clear c29
            by_cases c45 : x7_1.length < 8796093022208
            ·rw [if_pos c45] at H
             have LMc45 := aK c45
             clear c45
             obtain ⟨y506, hy506⟩ : ∃ y_ : List (SSign), y_ = (x7_1 ++ [(⟨x8_1, rd t484 t490⟩ : SSign)]) := ⟨_, rfl⟩
             replace H : (spec_l32List.l0 kj9 a2 y506 (wrap64 (x8_1 + 1)) s0_0 t500 t501 a1_0 a1_1 a1_2) = some (r1, r2, r3) := by first | (rw [hy506]; with_reducible exact H) | (have H2_ := (Option.bind_some _ _).symm.trans H; rw [hy506]; with_reducible exact H2_) | (have H2_ := (Option.bind_some _ _).symm.trans H; with_reducible exact H2_) | with_reducible exact H | (rw [hy506]; exact H) | exact H
             have Ny506 := aK hy506
             clear hy506
             have H' := aK H
             clear H
             obtain ⟨Ao46, co46, eo46⟩ := Kd.R_slice HO_9.out
             subst eo46
             go_wp2_with (first | ((with_reducible refine gate_callee (f := 72) rfl ?_); refine goesL_ (some 36) rfl rfl Try.func72 (by kernel_rfl) rfl #[.pointer (some ⟨g, 0, none⟩), .int .i64 (t484.length : Int)] rfl (by (try simp only [List.map_toArray, List.map_cons, List.map_nil]); first | done | rfl | (simp only [List.length_drop, List.length_take]; rfl)) ?_; (with_reducible refine (spec_l01Below.calls g s0_0 x1001_9 x1002_9 (t484.length : Int) t490 t491 t492 w0 _ ?side1 ?side2 A22.out).mono ?_); (case side1 => repeat (first | (with_reducible first | exact HI0.out | apply IsS146.alloc | apply IsS146.drewN | apply IsS146.drew | apply IsS146.set_1 | apply IsS146.set_2 | refine IsS146.far ?_ NB0_479.out _) | exact HI0.out)); (case side2 => repeat (first | (with_reducible first | exact HB.out | apply bAl | apply bDN | apply bD1 | refine bSt ?_ (IsS146.ge HI0.out) | refine bSt ?_ GE479.out) | exact HB.out)); rintro e w47 ⟨rfl, hi, hb, hk⟩; refine ⟨_, rfl, ?_⟩; have n0_ := aK (Kd.R_mono (Kd.R_keep (IsS146.apart (show IsS146 w0 _ g s0_0 x1001_9 x1002_9 from by repeat (first | (with_reducible first | exact HI0.out | apply IsS146.alloc | apply IsS146.drewN | apply IsS146.drew | apply IsS146.set_1 | apply IsS146.set_2 | refine IsS146.far ?_ NB0_479.out _) | exact HI0.out)) (by (with_reducible repeat (first | apply Kd.R_alloc | apply Kd.R_drewN | apply Kd.R_drew)); exact HO_7.out) (by decide)) hk (fun _ h => h.2)) (fun _ h => h.1)); have n1_ := aK (Kd.R_mono (Kd.R_keep (IsS146.apart (show IsS146 w0 _ g s0_0 x1001_9 x1002_9 from by repeat (first | (with_reducible first | exact HI0.out | apply IsS146.alloc | apply IsS146.drewN | apply IsS146.drew | apply IsS146.set_1 | apply IsS146.set_2 | refine IsS146.far ?_ NB0_479.out _) | exact HI0.out)) (by (with_reducible repeat (first | apply Kd.R_alloc | apply Kd.R_drewN | apply Kd.R_drew)); exact HO_9.out) (by decide)) hk (fun _ h => h.2)) (fun _ h => h.1)); have n2_ := aK (KeepBut.blk hk (g' := gb479) (o := .cells #[.int .i64 a1_0, .int .i64 a1_1, .int .i64 a1_2] 27 (0, 0)) (by (with_reducible repeat (first | refine kDN ?_ _ | refine kD ?_ | refine kA ?_ _)); exact BK479.out) NB479_0.out (by simp)); have n3_ := aK (KeepBut.trans (by repeat (first | (with_reducible first | exact HK.out | apply KeepBut.set_ | apply keep_drewN | apply keep_drew | apply keep_alloc | refine keep_far ?_ GW479.out _) | exact HK.out)) hk (.inl rfl)); have n4_ := aK (hb); have n5_ := aK (hi); clear HO_7; clear HO_9; clear BK479; clear HK; clear HB; clear HI0; have HO_7 := n0_; have HO_9 := n1_; have BK479 := n2_; have HK := n3_; have HB := n4_; have HI0 := n5_; clear n0_ n1_ n2_ n3_ n4_ n5_; (try clear hb); (try clear hb2); (try clear hk); (try clear hi); have p493 : 0 ≤ (t490 : Int) := of_decide_eq_true (by first | (with_reducible assumption) | assumption); have q493 : t490 < (t484.length : Int) := of_decide_eq_true (by first | (with_reducible assumption) | assumption); obtain ⟨ad493, e493, hx493_0⟩ := Kd.at_int (Kd.R_reads' HO_9.out).2.2 t490 p493 q493; cases e493; replace p493 := eq_true p493; replace q493 := eq_true q493) | ((with_reducible refine gate_dst (N := 10) rfl ?_); (try (refine gate_guard (by rfl) ?_; dsimp only)); refine box_event ?hg (N := 10) ?hd (cs := #[.int .i64 0, .int .i64 0]) (t := 49) ?hr ?_; (case hd => rfl); (case hg => rfl); (case hr => first | (go_simp; done) | (go_simp; rfl)); intro gb494 hg w48 hbox hb; have n0_ := aK (Kd.R_below (Kd.R_elderB (by (with_reducible repeat (first | apply Kd.R_alloc | apply Kd.R_drewN | apply Kd.R_drew)); exact HO_7.out) gb494 (Nat.le_of_eq hg.symm)) hb); have n1_ := aK (Kd.R_below (by (with_reducible repeat (first | apply Kd.R_alloc | apply Kd.R_drewN | apply Kd.R_drew)); exact HO_9.out) hb); have n2_ := bkb BK479 hb (by intro z_; (with_reducible repeat (first | refine kDN ?_ _ | refine kD ?_ | refine kA ?_ _)); exact z_); have n3_ := aK (IsS146.below (by repeat (first | (with_reducible first | exact HI0.out | apply IsS146.alloc | apply IsS146.drewN | apply IsS146.drew | apply IsS146.set_1 | apply IsS146.set_2 | refine IsS146.far ?_ NB0_479.out _) | exact HI0.out)) hb); have n4_ := aK (KeepBut.trans (by repeat (first | (with_reducible first | exact HK.out | apply KeepBut.set_ | apply keep_drewN | apply keep_drew | apply keep_alloc | refine keep_far ?_ GW479.out _) | exact HK.out)) (KeepBut.of_below hb g none) (.inl rfl)); have n5_ := aK (bSp (by repeat (first | (with_reducible first | exact HB.out | apply bAl | apply bDN | apply bD1 | refine bSt ?_ (IsS146.ge HI0.out) | refine bSt ?_ GE479.out) | exact HB.out)) hb); have n6_ := aK (hbox); have n7_ := aK ((by rw [hg]; exact (keep_size (w := w) (g := g) (row := none) (by repeat (first | (with_reducible first | exact HK.out | apply KeepBut.set_ | apply keep_drewN | apply keep_drew | apply keep_alloc | refine keep_far ?_ GW479.out _) | exact HK.out))) : w.heap.size ≤ gb494)); have n8_ := aK ((Nat.le_trans HW0.out (by rw [hg]; exact (keep_size (w := w) (g := g) (row := none) (by repeat (first | (with_reducible first | exact HK.out | apply KeepBut.set_ | apply keep_drewN | apply keep_drew | apply keep_alloc | refine keep_far ?_ GW479.out _) | exact HK.out))) : w.heap.size ≤ gb494) : w0.heap.size ≤ gb494)); have n9_ := nbl BK479 hg (by intro z_; (with_reducible repeat (first | refine kDN ?_ _ | refine kD ?_ | refine kA ?_ _)); exact z_); have n10_ := nbs n9_; have n11_ := aK ((by rw [hg]; exact Nat.ne_of_lt (IsS146.lt (show IsS146 w0 _ g s0_0 t491 t492 from by repeat (first | (with_reducible first | exact HI0.out | apply IsS146.alloc | apply IsS146.drewN | apply IsS146.drew | apply IsS146.set_1 | apply IsS146.set_2 | refine IsS146.far ?_ NB0_479.out _) | exact HI0.out))) : g ≠ gb494)); have n12_ := aK ((by rw [hg]; exact Nat.ne_of_gt (IsS146.lt (show IsS146 w0 _ g s0_0 t491 t492 from by repeat (first | (with_reducible first | exact HI0.out | apply IsS146.alloc | apply IsS146.drewN | apply IsS146.drew | apply IsS146.set_1 | apply IsS146.set_2 | refine IsS146.far ?_ NB0_479.out _) | exact HI0.out))) : gb494 ≠ g)); clear HO_7; clear HO_9; clear BK479; clear HI0; clear HK; clear HB; have HO_7 := n0_; have HO_9 := n1_; have BK479 := n2_; have HI0 := n3_; have HK := n4_; have HB := n5_; have BK494 := n6_; have GW494 := n7_; have GE494 := n8_; have NB479_494 := n9_; have NB494_479 := n10_; have NB0_494 := n11_; have NB494_0 := n12_; clear n0_ n1_ n2_ n3_ n4_ n5_ n6_ n7_ n8_ n9_ n10_ n11_ n12_; clear hb hbox hg; have hnb49 := NB494_479.out; have hnc49 := NB479_494.out; have hnb50 := NB494_0.out; have hnc50 := NB0_494.out; obtain ⟨hcz51_0, hcz51_1, hfz51_0, hfz51_1⟩ := cl2 BK494.out; have hnb52 := NB479_0.out; have hnc52 := NB0_479.out; obtain ⟨hcz53_0, hcz53_1, hcz53_2, hfz53_0, hfz53_1, hfz53_2⟩ := cl3 BK479.out) | ((with_reducible refine gate_callee (f := 146) rfl ?_); refine goesL_ (some 44) rfl rfl Try.func146 (by kernel_rfl) rfl #[.agg #[.int .i64 a1_0, .int .i64 a1_1, .int .i64 a1_2], .int .i64 x8_1, .int .i64 a2] rfl (by (try simp only [List.map_toArray, List.map_cons, List.map_nil]); first | done | rfl | (simp only [List.length_drop, List.length_take]; rfl)) ?_; (with_reducible refine (spec_WayBetween.calls kj9 a1_0 a1_1 a1_2 x8_1 a2 t495 true _ A25.out).mono ?_); rintro e w54 ⟨v496, rfl, ho0, hb⟩; refine ⟨_, rfl, ?_⟩; have n0_ := aK (Kd.R_below (by (with_reducible repeat (first | apply Kd.R_alloc | apply Kd.R_drewN | apply Kd.R_drew)); exact (Kd.R_mono (Kd.R_far (p := ⟨gb494, 1, none⟩) (Kd.R_far (p := ⟨gb494, 0, none⟩) (Kd.R_mono HO_7.out (fun k_ hk => (⟨hk, hk.2⟩ : _ ∧ k_ ≠ gb494))) (fun _ hk => hk.2) (.int .i64 x8_1)) (fun _ hk => hk.2) (.int .i64 (rd t484 t490))) (fun _ h_ => h_.1))) hb); have n1_ := aK (Kd.R_elder' (by (with_reducible repeat (first | apply Kd.R_alloc | apply Kd.R_drewN | apply Kd.R_drew)); exact (Kd.R_mono (Kd.R_far (p := ⟨gb494, 1, none⟩) (Kd.R_far (p := ⟨gb494, 0, none⟩) (Kd.R_types HO_9.out BK494.out (by decide)) (fun _ hk => hk.2) (.int .i64 x8_1)) (fun _ hk => hk.2) (.int .i64 (rd t484 t490))) (fun _ h_ => h_.1))) (Kd.R_base ho0) hb); have n2_ := aK (Kd.R_lower (Kd.R_new' ho0 (Kd.R_lt (by (with_reducible repeat (first | apply Kd.R_alloc | apply Kd.R_drewN | apply Kd.R_drew)); exact (Kd.R_mono (Kd.R_far (p := ⟨gb494, 1, none⟩) (Kd.R_far (p := ⟨gb494, 0, none⟩) (Kd.R_types HO_9.out BK494.out (by decide)) (fun _ hk => hk.2) (.int .i64 x8_1)) (fun _ hk => hk.2) (.int .i64 (rd t484 t490))) (fun _ h_ => h_.1))))) (keep_size (w := w) (g := g) (row := none) (by repeat (first | (with_reducible first | exact HK.out | apply KeepBut.set_ | apply keep_drewN | apply keep_drew | apply keep_alloc | refine keep_far ?_ GW479.out _ | refine keep_far ?_ GW494.out _) | exact HK.out)))); have n3_ := bkb BK479 hb (by intro z_; (with_reducible repeat (first | refine kDN ?_ _ | refine kD ?_ | refine kA ?_ _)); refine blk_far ?_ NB479_494.out _; (with_reducible repeat (first | refine kDN ?_ _ | refine kD ?_ | refine kA ?_ _)); refine blk_far ?_ NB479_494.out _; (with_reducible repeat (first | refine kDN ?_ _ | refine kD ?_ | refine kA ?_ _)); exact z_); have n4_ := aK (IsS146.below (show IsS146 w0 ((w48.setCell ⟨gb494, 0, none⟩ (.int .i64 x8_1)).setCell ⟨gb494, 1, none⟩ (.int .i64 (rd t484 t490))) g s0_0 t491 t492 from by repeat (first | (with_reducible first | exact HI0.out | apply IsS146.alloc | apply IsS146.drewN | apply IsS146.drew | apply IsS146.set_1 | apply IsS146.set_2 | refine IsS146.far ?_ NB0_479.out _ | refine IsS146.far ?_ NB0_494.out _) | exact HI0.out)) hb); have n5_ := aK (blk_below (g := gb494) (o := .cells #[.int .i64 x8_1, .int .i64 (rd t484 t490)] 49 (0, 0)) (by (with_reducible repeat (first | refine kDN ?_ _ | refine kD ?_ | refine kA ?_ _)); refine blk_put (cs := #[.int .i64 x8_1, .int .i64 0]) ?_ 1 _ rfl; (with_reducible repeat (first | refine kDN ?_ _ | refine kD ?_ | refine kA ?_ _)); refine blk_put (cs := #[.int .i64 0, .int .i64 0]) ?_ 0 _ rfl; (with_reducible repeat (first | refine kDN ?_ _ | refine kD ?_ | refine kA ?_ _)); exact BK494.out) hb); have n6_ := aK (KeepBut.trans (by repeat (first | (with_reducible first | exact HK.out | apply KeepBut.set_ | apply keep_drewN | apply keep_drew | apply keep_alloc | refine keep_far ?_ GW479.out _ | refine keep_far ?_ GW494.out _) | exact HK.out)) (KeepBut.of_below hb g none) (.inl rfl)); have n7_ := aK (bSp (by repeat (first | (with_reducible first | exact HB.out | apply bAl | apply bDN | apply bD1 | refine bSt ?_ (IsS146.ge HI0.out) | refine bSt ?_ GE479.out | refine bSt ?_ GE494.out) | exact HB.out)) hb); clear HO_7; clear HO_9; clear BK479; clear HI0; clear BK494; clear HK; clear HB; have HO_7 := n0_; have HO_9 := n1_; have HO497 := n2_; have BK479 := n3_; have HI0 := n4_; have BK494 := n5_; have HK := n6_; have HB := n7_; clear n0_ n1_ n2_ n3_ n4_ n5_ n6_ n7_; (try clear hb); (try clear hb2); (try clear hk); (try clear hi); (try clear ho0); obtain ⟨Ao55, co55, eo55⟩ := Kd.R_slice HO497.out; subst eo55) | (go_at_call 72; (with_reducible refine (spec_l01Below.calls g s0_0 t491 t492 5 t499 t500 t501 w0 _ ?side1 ?side2 A28.out).mono ?_); (case side1 => repeat (first | (with_reducible first | exact HI0.out | apply IsS146.alloc | apply IsS146.drewN | apply IsS146.drew | apply IsS146.set_1 | apply IsS146.set_2 | refine IsS146.far ?_ NB0_479.out _ | refine IsS146.far ?_ NB0_494.out _) | exact HI0.out)); (case side2 => repeat (first | (with_reducible first | exact HB.out | apply bAl | apply bDN | apply bD1 | refine bSt ?_ (IsS146.ge HI0.out) | refine bSt ?_ GE479.out | refine bSt ?_ GE494.out) | exact HB.out)); rintro e w56 ⟨rfl, hi, hb, hk⟩; have n0_ := aK (Kd.R_mono (Kd.R_keep (IsS146.apart (show IsS146 w0 _ g s0_0 t491 t492 from by repeat (first | (with_reducible first | exact HI0.out | apply IsS146.alloc | apply IsS146.drewN | apply IsS146.drew | apply IsS146.set_1 | apply IsS146.set_2 | refine IsS146.far ?_ NB0_479.out _ | refine IsS146.far ?_ NB0_494.out _) | exact HI0.out)) (by (with_reducible repeat (first | apply Kd.R_alloc | apply Kd.R_drewN | apply Kd.R_drew)); exact HO_7.out) (by decide)) hk (fun _ h => h.2)) (fun _ h => h.1)); have n1_ := aK (Kd.R_mono (Kd.R_keep (IsS146.apart (show IsS146 w0 _ g s0_0 t491 t492 from by repeat (first | (with_reducible first | exact HI0.out | apply IsS146.alloc | apply IsS146.drewN | apply IsS146.drew | apply IsS146.set_1 | apply IsS146.set_2 | refine IsS146.far ?_ NB0_479.out _ | refine IsS146.far ?_ NB0_494.out _) | exact HI0.out)) (by (with_reducible repeat (first | apply Kd.R_alloc | apply Kd.R_drewN | apply Kd.R_drew)); exact HO_9.out) (by decide)) hk (fun _ h => h.2)) (fun _ h => h.1)); have n2_ := aK (KeepBut.blk hk (g' := gb479) (o := .cells #[.int .i64 a1_0, .int .i64 a1_1, .int .i64 a1_2] 27 (0, 0)) (by (with_reducible repeat (first | refine kDN ?_ _ | refine kD ?_ | refine kA ?_ _)); exact BK479.out) NB479_0.out (by simp)); have n3_ := aK (KeepBut.blk hk (g' := gb494) (o := .cells #[.int .i64 x8_1, .int .i64 (rd t484 t490)] 49 (0, 0)) (by (with_reducible repeat (first | refine kDN ?_ _ | refine kD ?_ | refine kA ?_ _)); exact BK494.out) NB494_0.out (by simp)); have n4_ := aK (Kd.R_mono (Kd.R_keep (IsS146.apart (show IsS146 w0 _ g s0_0 t491 t492 from by repeat (first | (with_reducible first | exact HI0.out | apply IsS146.alloc | apply IsS146.drewN | apply IsS146.drew | apply IsS146.set_1 | apply IsS146.set_2 | refine IsS146.far ?_ NB0_479.out _ | refine IsS146.far ?_ NB0_494.out _) | exact HI0.out)) (by (with_reducible repeat (first | apply Kd.R_alloc | apply Kd.R_drewN | apply Kd.R_drew)); exact HO497.out) (by decide)) hk (fun _ h => h.2)) (fun _ h => h.1)); have n5_ := aK (KeepBut.trans (by repeat (first | (with_reducible first | exact HK.out | apply KeepBut.set_ | apply keep_drewN | apply keep_drew | apply keep_alloc | refine keep_far ?_ GW479.out _ | refine keep_far ?_ GW494.out _) | exact HK.out)) hk (.inl rfl)); have n6_ := aK (hb); have n7_ := aK (hi); clear HO_7; clear HO_9; clear BK479; clear BK494; clear HO497; clear HK; clear HB; clear HI0; have HO_7 := n0_; have HO_9 := n1_; have BK479 := n2_; have BK494 := n3_; have HO497 := n4_; have HK := n5_; have HB := n6_; have HI0 := n7_; clear n0_ n1_ n2_ n3_ n4_ n5_ n6_ n7_; (try clear hb); (try clear hb2); (try clear hk); (try clear hi); obtain ⟨hcz57_0, hcz57_1, hfz57_0, hfz57_1⟩ := cl2 BK494.out) | ((with_reducible refine gate_builtin (b := .append) (xs := #[.tmp 62, .tmp 64]) rfl ?_); (try (refine gate_guard (by rfl) ?_; dsimp only)); at_builtin; refine Kd.R_append k49 w.heap.size rfl (.tmp 62) (.tmp 64) 41 49 (.agg #[(.int .i64 0), (.int .i64 0)]) 16 rfl Try.underlying41 info49 rfl (by decide) (by omega) u7 x7_1 (⟨x8_1, rd t484 t490⟩ : SSign) [.int .i64 x8_1, .int .i64 (rd t484 t490)] (fun k_ => k_ ≠ gb494) (fun _ => False) rfl rfl ?aP (fun _ hk => hk.elim) ?aF ?aO (Below.refl _ _) ?aS ?aL ?_; (case aP => exact k49_mkM _ _ _ (⟨x8_1, rd t484 t490⟩ : SSign)); (case aF => exact (fun k_ hk => Kd.freshB (g := gb494) (o := .cells #[.int .i64 x8_1, .int .i64 (rd t484 t490)] 49 (0, 0)) (by (with_reducible repeat (first | refine kDN ?_ _ | refine kD ?_ | refine kA ?_ _)); exact BK494.out) k_ hk)); (case aO => exact (by (with_reducible repeat (first | apply Kd.R_alloc | apply Kd.R_drewN | apply Kd.R_drew)); exact Kd.R_mono HO_7.out (fun _ hk => hk.2))); (case aS => exact (keep_size (w := w) (g := g) (row := none) (by repeat (first | (with_reducible first | exact HK.out | apply KeepBut.set_ | apply keep_drewN | apply keep_drew | apply keep_alloc | refine keep_far ?_ GW479.out _ | refine keep_far ?_ GW494.out _) | exact HK.out)))); (case aL => have := LMc45.out; omega); intro v507 w58 ho hb hg hat; rw [← Ny506.out] at ho; have n0_ := aK (Kd.R_over' (by (with_reducible repeat (first | apply Kd.R_alloc | apply Kd.R_drewN | apply Kd.R_drew)); exact HO_9.out) (Kd.R_typed (by (with_reducible repeat (first | apply Kd.R_alloc | apply Kd.R_drewN | apply Kd.R_drew)); exact HO_7.out)) (by decide) hg); have n1_ := aK (blk_grown (g := gb479) (o := .cells #[.int .i64 a1_0, .int .i64 a1_1, .int .i64 a1_2] 27 (0, 0)) (by (with_reducible repeat (first | refine kDN ?_ _ | refine kD ?_ | refine kA ?_ _)); exact BK479.out) hg (Kd.R_ne HO_7.out BK479.out (by decide))); have n2_ := aK (IsS146.grown (show IsS146 w0 _ g s0_0 t500 t501 from by repeat (first | (with_reducible first | exact HI0.out | apply IsS146.alloc | apply IsS146.drewN | apply IsS146.drew | apply IsS146.set_1 | apply IsS146.set_2 | refine IsS146.far ?_ NB0_479.out _ | refine IsS146.far ?_ NB0_494.out _) | exact HI0.out)) hg (IsS146.own_ne HI0.out HO_7.out (by decide))); have n3_ := aK (blk_grown (g := gb494) (o := .cells #[.int .i64 x8_1, .int .i64 (rd t484 t490)] 49 (0, 0)) (by (with_reducible repeat (first | refine kDN ?_ _ | refine kD ?_ | refine kA ?_ _)); exact BK494.out) hg (Kd.R_away HO_7.out (fun _ hk => hk.2))); have n4_ := aK (Kd.R_over' (by (with_reducible repeat (first | apply Kd.R_alloc | apply Kd.R_drewN | apply Kd.R_drew)); exact HO497.out) (Kd.R_typed (by (with_reducible repeat (first | apply Kd.R_alloc | apply Kd.R_drewN | apply Kd.R_drew)); exact HO_7.out)) (by decide) hg); have n5_ := aK (below_weaken (by repeat (first | (with_reducible first | exact HB.out | apply bAl | apply bDN | apply bD1 | refine bSt ?_ (IsS146.ge HI0.out) | refine bSt ?_ GE479.out | refine bSt ?_ GE494.out) | exact HB.out)) HL.out hb); have n6_ := aK (KeepBut.trans (by repeat (first | (with_reducible first | exact HK.out | apply KeepBut.set_ | apply keep_drewN | apply keep_drew | apply keep_alloc | refine keep_far ?_ GW479.out _ | refine keep_far ?_ GW494.out _) | exact HK.out)) (KeepBut.of_grown hg g) (Kd.R_base2 HO_7.out)); have n7_ := aK (ho); clear HO_9; clear BK479; clear HI0; clear BK494; clear HO497; clear HB; clear HK; clear HO_7; have HO_9 := n0_; have BK479 := n1_; have HI0 := n2_; have BK494 := n3_; have HO497 := n4_; have HB := n5_; have HK := n6_; have HO508 := n7_; clear n0_ n1_ n2_ n3_ n4_ n5_ n6_ n7_; clear ho hb hg hat))
             go_roundg kj9
             case measure => have := HK1.out; have := HJ9.out; omega
             case rel => exact ⟨(y506), (wrap64 (x8_1 + 1)), (t500), (t501), (by first | rfl | (simp; done) | (simp [*]; done)), H', ⟨by have := HK1.out; have := HJ9.out; omega⟩, ⟨by (with_reducible repeat (first | apply Kd.R_alloc | apply Kd.R_drewN | apply Kd.R_drew)); exact Kd.R_mono HO508.out (fun _ hk => trivial)⟩, ⟨by (with_reducible repeat (first | refine kDN ?_ _ | refine kD ?_ | refine kA ?_ _)); exact BK479.out⟩, ⟨by repeat (first | (with_reducible first | exact HI0.out | apply IsS146.alloc | apply IsS146.drewN | apply IsS146.drew | apply IsS146.set_1 | apply IsS146.set_2 | refine IsS146.far ?_ NB0_479.out _ | refine IsS146.far ?_ NB0_494.out _) | exact HI0.out)⟩, ⟨by repeat (first | (with_reducible first | exact HK.out | apply KeepBut.set_ | apply keep_drewN | apply keep_drew | apply keep_alloc | refine keep_far ?_ GW479.out _ | refine keep_far ?_ GW494.out _) | exact HK.out)⟩, ⟨by repeat (first | (with_reducible first | exact HB.out | apply bAl | apply bDN | apply bD1 | refine bSt ?_ (IsS146.ge HI0.out) | refine bSt ?_ GE479.out | refine bSt ?_ GE494.out) | exact HB.out)⟩⟩
            ·rw [if_neg c45] at H
             exact absurd H (by simp)
          ·rw [if_neg c27] at H
           have c27b0 : decide (0 < (t495.length : Int)) = false := decide_eq_false c27
           have c27b1 : decide (0 < t495.length) = false := decide_eq_false (by omega)
           clear c27
           by_cases c59 : x7_1.length < 8796093022208
           ·rw [if_pos c59] at H
            have LMc59 := aK c59
            clear c59
            obtain ⟨y509, hy509⟩ : ∃ y_ : List (SSign), y_ = (x7_1 ++ [(⟨x8_1, rd t484 t490⟩ : SSign)]) := ⟨_, rfl⟩
            replace H : (spec_l32List.l0 kj9 a2 y509 (wrap64 (x8_1 + 1)) s0_0 t491 t492 a1_0 a1_1 a1_2) = some (r1, r2, r3) := by first | (rw [hy509]; with_reducible exact H) | (have H2_ := (Option.bind_some _ _).symm.trans H; rw [hy509]; with_reducible exact H2_) | (have H2_ := (Option.bind_some _ _).symm.trans H; with_reducible exact H2_) | with_reducible exact H | (rw [hy509]; exact H) | exact H
            have Ny509 := aK hy509
            clear hy509
            have H' := aK H
            clear H
            obtain ⟨Ao60, co60, eo60⟩ := Kd.R_slice HO_9.out
            subst eo60
            go_wp2_with (first | ((with_reducible refine gate_callee (f := 72) rfl ?_); refine goesL_ (some 36) rfl rfl Try.func72 (by kernel_rfl) rfl #[.pointer (some ⟨g, 0, none⟩), .int .i64 (t484.length : Int)] rfl (by (try simp only [List.map_toArray, List.map_cons, List.map_nil]); first | done | rfl | (simp only [List.length_drop, List.length_take]; rfl)) ?_; (with_reducible refine (spec_l01Below.calls g s0_0 x1001_9 x1002_9 (t484.length : Int) t490 t491 t492 w0 _ ?side1 ?side2 A22.out).mono ?_); (case side1 => repeat (first | (with_reducible first | exact HI0.out | apply IsS146.alloc | apply IsS146.drewN | apply IsS146.drew | apply IsS146.set_1 | apply IsS146.set_2 | refine IsS146.far ?_ NB0_479.out _) | exact HI0.out)); (case side2 => repeat (first | (with_reducible first | exact HB.out | apply bAl | apply bDN | apply bD1 | refine bSt ?_ (IsS146.ge HI0.out) | refine bSt ?_ GE479.out) | exact HB.out)); rintro e w61 ⟨rfl, hi, hb, hk⟩; refine ⟨_, rfl, ?_⟩; have n0_ := aK (Kd.R_mono (Kd.R_keep (IsS146.apart (show IsS146 w0 _ g s0_0 x1001_9 x1002_9 from by repeat (first | (with_reducible first | exact HI0.out | apply IsS146.alloc | apply IsS146.drewN | apply IsS146.drew | apply IsS146.set_1 | apply IsS146.set_2 | refine IsS146.far ?_ NB0_479.out _) | exact HI0.out)) (by (with_reducible repeat (first | apply Kd.R_alloc | apply Kd.R_drewN | apply Kd.R_drew)); exact HO_7.out) (by decide)) hk (fun _ h => h.2)) (fun _ h => h.1)); have n1_ := aK (Kd.R_mono (Kd.R_keep (IsS146.apart (show IsS146 w0 _ g s0_0 x1001_9 x1002_9 from by repeat (first | (with_reducible first | exact HI0.out | apply IsS146.alloc | apply IsS146.drewN | apply IsS146.drew | apply IsS146.set_1 | apply IsS146.set_2 | refine IsS146.far ?_ NB0_479.out _) | exact HI0.out)) (by (with_reducible repeat (first | apply Kd.R_alloc | apply Kd.R_drewN | apply Kd.R_drew)); exact HO_9.out) (by decide)) hk (fun _ h => h.2)) (fun _ h => h.1)); have n2_ := aK (KeepBut.blk hk (g' := gb479) (o := .cells #[.int .i64 a1_0, .int .i64 a1_1, .int .i64 a1_2] 27 (0, 0)) (by (with_reducible repeat (first | refine kDN ?_ _ | refine kD ?_ | refine kA ?_ _)); exact BK479.out) NB479_0.out (by simp)); have n3_ := aK (KeepBut.trans (by repeat (first | (with_reducible first | exact HK.out | apply KeepBut.set_ | apply keep_drewN | apply keep_drew | apply keep_alloc | refine keep_far ?_ GW479.out _) | exact HK.out)) hk (.inl rfl)); have n4_ := aK (hb); have n5_ := aK (hi); clear HO_7; clear HO_9; clear BK479; clear HK; clear HB; clear HI0; have HO_7 := n0_; have HO_9 := n1_; have BK479 := n2_; have HK := n3_; have HB := n4_; have HI0 := n5_; clear n0_ n1_ n2_ n3_ n4_ n5_; (try clear hb); (try clear hb2); (try clear hk); (try clear hi); have p493 : 0 ≤ (t490 : Int) := of_decide_eq_true (by first | (with_reducible assumption) | assumption); have q493 : t490 < (t484.length : Int) := of_decide_eq_true (by first | (with_reducible assumption) | assumption); obtain ⟨ad493, e493, hx493_0⟩ := Kd.at_int (Kd.R_reads' HO_9.out).2.2 t490 p493 q493; cases e493; replace p493 := eq_true p493; replace q493 := eq_true q493) | ((with_reducible refine gate_dst (N := 10) rfl ?_); (try (refine gate_guard (by rfl) ?_; dsimp only)); refine box_event ?hg (N := 10) ?hd (cs := #[.int .i64 0, .int .i64 0]) (t := 49) ?hr ?_; (case hd => rfl); (case hg => rfl); (case hr => first | (go_simp; done) | (go_simp; rfl)); intro gb494 hg w62 hbox hb; have n0_ := aK (Kd.R_below (Kd.R_elderB (by (with_reducible repeat (first | apply Kd.R_alloc | apply Kd.R_drewN | apply Kd.R_drew)); exact HO_7.out) gb494 (Nat.le_of_eq hg.symm)) hb); have n1_ := aK (Kd.R_below (by (with_reducible repeat (first | apply Kd.R_alloc | apply Kd.R_drewN | apply Kd.R_drew)); exact HO_9.out) hb); have n2_ := bkb BK479 hb (by intro z_; (with_reducible repeat (first | refine kDN ?_ _ | refine kD ?_ | refine kA ?_ _)); exact z_); have n3_ := aK (IsS146.below (by repeat (first | (with_reducible first | exact HI0.out | apply IsS146.alloc | apply IsS146.drewN | apply IsS146.drew | apply IsS146.set_1 | apply IsS146.set_2 | refine IsS146.far ?_ NB0_479.out _) | exact HI0.out)) hb); have n4_ := aK (KeepBut.trans (by repeat (first | (with_reducible first | exact HK.out | apply KeepBut.set_ | apply keep_drewN | apply keep_drew | apply keep_alloc | refine keep_far ?_ GW479.out _) | exact HK.out)) (KeepBut.of_below hb g none) (.inl rfl)); have n5_ := aK (bSp (by repeat (first | (with_reducible first | exact HB.out | apply bAl | apply bDN | apply bD1 | refine bSt ?_ (IsS146.ge HI0.out) | refine bSt ?_ GE479.out) | exact HB.out)) hb); have n6_ := aK (hbox); have n7_ := aK ((by rw [hg]; exact (keep_size (w := w) (g := g) (row := none) (by repeat (first | (with_reducible first | exact HK.out | apply KeepBut.set_ | apply keep_drewN | apply keep_drew | apply keep_alloc | refine keep_far ?_ GW479.out _) | exact HK.out))) : w.heap.size ≤ gb494)); have n8_ := aK ((Nat.le_trans HW0.out (by rw [hg]; exact (keep_size (w := w) (g := g) (row := none) (by repeat (first | (with_reducible first | exact HK.out | apply KeepBut.set_ | apply keep_drewN | apply keep_drew | apply keep_alloc | refine keep_far ?_ GW479.out _) | exact HK.out))) : w.heap.size ≤ gb494) : w0.heap.size ≤ gb494)); have n9_ := nbl BK479 hg (by intro z_; (with_reducible repeat (first | refine kDN ?_ _ | refine kD ?_ | refine kA ?_ _)); exact z_); have n10_ := nbs n9_; have n11_ := aK ((by rw [hg]; exact Nat.ne_of_lt (IsS146.lt (show IsS146 w0 _ g s0_0 t491 t492 from by repeat (first | (with_reducible first | exact HI0.out | apply IsS146.alloc | apply IsS146.drewN | apply IsS146.drew | apply IsS146.set_1 | apply IsS146.set_2 | refine IsS146.far ?_ NB0_479.out _) | exact HI0.out))) : g ≠ gb494)); have n12_ := aK ((by rw [hg]; exact Nat.ne_of_gt (IsS146.lt (show IsS146 w0 _ g s0_0 t491 t492 from by repeat (first | (with_reducible first | exact HI0.out | apply IsS146.alloc | apply IsS146.drewN | apply IsS146.drew | apply IsS146.set_1 | apply IsS146.set_2 | refine IsS146.far ?_ NB0_479.out _) | exact HI0.out))) : gb494 ≠ g)); clear HO_7; clear HO_9; clear BK479; clear HI0; clear HK; clear HB; have HO_7 := n0_; have HO_9 := n1_; have BK479 := n2_; have HI0 := n3_; have HK := n4_; have HB := n5_; have BK494 := n6_; have GW494 := n7_; have GE494 := n8_; have NB479_494 := n9_; have NB494_479 := n10_; have NB0_494 := n11_; have NB494_0 := n12_; clear n0_ n1_ n2_ n3_ n4_ n5_ n6_ n7_ n8_ n9_ n10_ n11_ n12_; clear hb hbox hg; have hnb63 := NB494_479.out; have hnc63 := NB479_494.out; have hnb64 := NB494_0.out; have hnc64 := NB0_494.out; obtain ⟨hcz65_0, hcz65_1, hfz65_0, hfz65_1⟩ := cl2 BK494.out; have hnb66 := NB479_0.out; have hnc66 := NB0_479.out; obtain ⟨hcz67_0, hcz67_1, hcz67_2, hfz67_0, hfz67_1, hfz67_2⟩ := cl3 BK479.out) | ((with_reducible refine gate_callee (f := 146) rfl ?_); refine goesL_ (some 44) rfl rfl Try.func146 (by kernel_rfl) rfl #[.agg #[.int .i64 a1_0, .int .i64 a1_1, .int .i64 a1_2], .int .i64 x8_1, .int .i64 a2] rfl (by (try simp only [List.map_toArray, List.map_cons, List.map_nil]); first | done | rfl | (simp only [List.length_drop, List.length_take]; rfl)) ?_; (with_reducible refine (spec_WayBetween.calls kj9 a1_0 a1_1 a1_2 x8_1 a2 t495 true _ A25.out).mono ?_); rintro e w68 ⟨v496, rfl, ho0, hb⟩; refine ⟨_, rfl, ?_⟩; have n0_ := aK (Kd.R_below (by (with_reducible repeat (first | apply Kd.R_alloc | apply Kd.R_drewN | apply Kd.R_drew)); exact (Kd.R_mono (Kd.R_far (p := ⟨gb494, 1, none⟩) (Kd.R_far (p := ⟨gb494, 0, none⟩) (Kd.R_mono HO_7.out (fun k_ hk => (⟨hk, hk.2⟩ : _ ∧ k_ ≠ gb494))) (fun _ hk => hk.2) (.int .i64 x8_1)) (fun _ hk => hk.2) (.int .i64 (rd t484 t490))) (fun _ h_ => h_.1))) hb); have n1_ := aK (Kd.R_elder' (by (with_reducible repeat (first | apply Kd.R_alloc | apply Kd.R_drewN | apply Kd.R_drew)); exact (Kd.R_mono (Kd.R_far (p := ⟨gb494, 1, none⟩) (Kd.R_far (p := ⟨gb494, 0, none⟩) (Kd.R_types HO_9.out BK494.out (by decide)) (fun _ hk => hk.2) (.int .i64 x8_1)) (fun _ hk => hk.2) (.int .i64 (rd t484 t490))) (fun _ h_ => h_.1))) (Kd.R_base ho0) hb); have n2_ := aK (Kd.R_lower (Kd.R_new' ho0 (Kd.R_lt (by (with_reducible repeat (first | apply Kd.R_alloc | apply Kd.R_drewN | apply Kd.R_drew)); exact (Kd.R_mono (Kd.R_far (p := ⟨gb494, 1, none⟩) (Kd.R_far (p := ⟨gb494, 0, none⟩) (Kd.R_types HO_9.out BK494.out (by decide)) (fun _ hk => hk.2) (.int .i64 x8_1)) (fun _ hk => hk.2) (.int .i64 (rd t484 t490))) (fun _ h_ => h_.1))))) (keep_size (w := w) (g := g) (row := none) (by repeat (first | (with_reducible first | exact HK.out | apply KeepBut.set_ | apply keep_drewN | apply keep_drew | apply keep_alloc | refine keep_far ?_ GW479.out _ | refine keep_far ?_ GW494.out _) | exact HK.out)))); have n3_ := bkb BK479 hb (by intro z_; (with_reducible repeat (first | refine kDN ?_ _ | refine kD ?_ | refine kA ?_ _)); refine blk_far ?_ NB479_494.out _; (with_reducible repeat (first | refine kDN ?_ _ | refine kD ?_ | refine kA ?_ _)); refine blk_far ?_ NB479_494.out _; (with_reducible repeat (first | refine kDN ?_ _ | refine kD ?_ | refine kA ?_ _)); exact z_); have n4_ := aK (IsS146.below (show IsS146 w0 ((w62.setCell ⟨gb494, 0, none⟩ (.int .i64 x8_1)).setCell ⟨gb494, 1, none⟩ (.int .i64 (rd t484 t490))) g s0_0 t491 t492 from by repeat (first | (with_reducible first | exact HI0.out | apply IsS146.alloc | apply IsS146.drewN | apply IsS146.drew | apply IsS146.set_1 | apply IsS146.set_2 | refine IsS146.far ?_ NB0_479.out _ | refine IsS146.far ?_ NB0_494.out _) | exact HI0.out)) hb); have n5_ := aK (blk_below (g := gb494) (o := .cells #[.int .i64 x8_1, .int .i64 (rd t484 t490)] 49 (0, 0)) (by (with_reducible repeat (first | refine kDN ?_ _ | refine kD ?_ | refine kA ?_ _)); refine blk_put (cs := #[.int .i64 x8_1, .int .i64 0]) ?_ 1 _ rfl; (with_reducible repeat (first | refine kDN ?_ _ | refine kD ?_ | refine kA ?_ _)); refine blk_put (cs := #[.int .i64 0, .int .i64 0]) ?_ 0 _ rfl; (with_reducible repeat (first | refine kDN ?_ _ | refine kD ?_ | refine kA ?_ _)); exact BK494.out) hb); have n6_ := aK (KeepBut.trans (by repeat (first | (with_reducible first | exact HK.out | apply KeepBut.set_ | apply keep_drewN | apply keep_drew | apply keep_alloc | refine keep_far ?_ GW479.out _ | refine keep_far ?_ GW494.out _) | exact HK.out)) (KeepBut.of_below hb g none) (.inl rfl)); have n7_ := aK (bSp (by repeat (first | (with_reducible first | exact HB.out | apply bAl | apply bDN | apply bD1 | refine bSt ?_ (IsS146.ge HI0.out) | refine bSt ?_ GE479.out | refine bSt ?_ GE494.out) | exact HB.out)) hb); clear HO_7; clear HO_9; clear BK479; clear HI0; clear BK494; clear HK; clear HB; have HO_7 := n0_; have HO_9 := n1_; have HO497 := n2_; have BK479 := n3_; have HI0 := n4_; have BK494 := n5_; have HK := n6_; have HB := n7_; clear n0_ n1_ n2_ n3_ n4_ n5_ n6_ n7_; (try clear hb); (try clear hb2); (try clear hk); (try clear hi); (try clear ho0); obtain ⟨Ao69, co69, eo69⟩ := Kd.R_slice HO497.out; subst eo69; obtain ⟨hcz70_0, hcz70_1, hfz70_0, hfz70_1⟩ := cl2 BK494.out) | ((with_reducible refine gate_builtin (b := .append) (xs := #[.tmp 62, .tmp 64]) rfl ?_); (try (refine gate_guard (by rfl) ?_; dsimp only)); at_builtin; refine Kd.R_append k49 w.heap.size rfl (.tmp 62) (.tmp 64) 41 49 (.agg #[(.int .i64 0), (.int .i64 0)]) 16 rfl Try.underlying41 info49 rfl (by decide) (by omega) u7 x7_1 (⟨x8_1, rd t484 t490⟩ : SSign) [.int .i64 x8_1, .int .i64 (rd t484 t490)] (fun k_ => k_ ≠ gb494) (fun _ => False) rfl rfl ?aP (fun _ hk => hk.elim) ?aF ?aO (Below.refl _ _) ?aS ?aL ?_; (case aP => exact k49_mkM _ _ _ (⟨x8_1, rd t484 t490⟩ : SSign)); (case aF => exact (fun k_ hk => Kd.freshB (g := gb494) (o := .cells #[.int .i64 x8_1, .int .i64 (rd t484 t490)] 49 (0, 0)) (by (with_reducible repeat (first | refine kDN ?_ _ | refine kD ?_ | refine kA ?_ _)); exact BK494.out) k_ hk)); (case aO => exact (by (with_reducible repeat (first | apply Kd.R_alloc | apply Kd.R_drewN | apply Kd.R_drew)); exact Kd.R_mono HO_7.out (fun _ hk => hk.2))); (case aS => exact (keep_size (w := w) (g := g) (row := none) (by repeat (first | (with_reducible first | exact HK.out | apply KeepBut.set_ | apply keep_drewN | apply keep_drew | apply keep_alloc | refine keep_far ?_ GW479.out _ | refine keep_far ?_ GW494.out _) | exact HK.out)))); (case aL => have := LMc59.out; omega); intro v510 w71 ho hb hg hat; rw [← Ny509.out] at ho; have n0_ := aK (Kd.R_over' (by (with_reducible repeat (first | apply Kd.R_alloc | apply Kd.R_drewN | apply Kd.R_drew)); exact HO_9.out) (Kd.R_typed (by (with_reducible repeat (first | apply Kd.R_alloc | apply Kd.R_drewN | apply Kd.R_drew)); exact HO_7.out)) (by decide) hg); have n1_ := aK (blk_grown (g := gb479) (o := .cells #[.int .i64 a1_0, .int .i64 a1_1, .int .i64 a1_2] 27 (0, 0)) (by (with_reducible repeat (first | refine kDN ?_ _ | refine kD ?_ | refine kA ?_ _)); exact BK479.out) hg (Kd.R_ne HO_7.out BK479.out (by decide))); have n2_ := aK (IsS146.grown (show IsS146 w0 _ g s0_0 t491 t492 from by repeat (first | (with_reducible first | exact HI0.out | apply IsS146.alloc | apply IsS146.drewN | apply IsS146.drew | apply IsS146.set_1 | apply IsS146.set_2 | refine IsS146.far ?_ NB0_479.out _ | refine IsS146.far ?_ NB0_494.out _) | exact HI0.out)) hg (IsS146.own_ne HI0.out HO_7.out (by decide))); have n3_ := aK (blk_grown (g := gb494) (o := .cells #[.int .i64 x8_1, .int .i64 (rd t484 t490)] 49 (0, 0)) (by (with_reducible repeat (first | refine kDN ?_ _ | refine kD ?_ | refine kA ?_ _)); exact BK494.out) hg (Kd.R_away HO_7.out (fun _ hk => hk.2))); have n4_ := aK (Kd.R_over' (by (with_reducible repeat (first | apply Kd.R_alloc | apply Kd.R_drewN | apply Kd.R_drew)); exact HO497.out) (Kd.R_typed (by (with_reducible repeat (first | apply Kd.R_alloc | apply Kd.R_drewN | apply Kd.R_drew)); exact HO_7.out)) (by decide) hg); have n5_ := aK (below_weaken (by repeat (first | (with_reducible first | exact HB.out | apply bAl | apply bDN | apply bD1 | refine bSt ?_ (IsS146.ge HI0.out) | refine bSt ?_ GE479.out | refine bSt ?_ GE494.out) | exact HB.out)) HL.out hb); have n6_ := aK (KeepBut.trans (by repeat (first | (with_reducible first | exact HK.out | apply KeepBut.set_ | apply keep_drewN | apply keep_drew | apply keep_alloc | refine keep_far ?_ GW479.out _ | refine keep_far ?_ GW494.out _) | exact HK.out)) (KeepBut.of_grown hg g) (Kd.R_base2 HO_7.out)); have n7_ := aK (ho); clear HO_9; clear BK479; clear HI0; clear BK494; clear HO497; clear HB; clear HK; clear HO_7; have HO_9 := n0_; have BK479 := n1_; have HI0 := n2_; have BK494 := n3_; have HO497 := n4_; have HB := n5_; have HK := n6_; have HO511 := n7_; clear n0_ n1_ n2_ n3_ n4_ n5_ n6_ n7_; clear ho hb hg hat))
            go_roundg kj9
            case measure => have := HK1.out; have := HJ9.out; omega
            case rel => exact ⟨(y509), (wrap64 (x8_1 + 1)), (t491), (t492), (by first | rfl | (simp; done) | (simp [*]; done)), H', ⟨by have := HK1.out; have := HJ9.out; omega⟩, ⟨by (with_reducible repeat (first | apply Kd.R_alloc | apply Kd.R_drewN | apply Kd.R_drew)); exact Kd.R_mono HO511.out (fun _ hk => trivial)⟩, ⟨by (with_reducible repeat (first | refine kDN ?_ _ | refine kD ?_ | refine kA ?_ _)); exact BK479.out⟩, ⟨by repeat (first | (with_reducible first | exact HI0.out | apply IsS146.alloc | apply IsS146.drewN | apply IsS146.drew | apply IsS146.set_1 | apply IsS146.set_2 | refine IsS146.far ?_ NB0_479.out _ | refine IsS146.far ?_ NB0_494.out _) | exact HI0.out)⟩, ⟨by repeat (first | (with_reducible first | exact HK.out | apply KeepBut.set_ | apply keep_drewN | apply keep_drew | apply keep_alloc | refine keep_far ?_ GW479.out _ | refine keep_far ?_ GW494.out _) | exact HK.out)⟩, ⟨by repeat (first | (with_reducible first | exact HB.out | apply bAl | apply bDN | apply bD1 | refine bSt ?_ (IsS146.ge HI0.out) | refine bSt ?_ GE479.out | refine bSt ?_ GE494.out) | exact HB.out)⟩⟩
           ·rw [if_neg c59] at H
            exact absurd H (by simp)
         ·replace c26 := Bool.eq_false_iff.mpr c26
          subst c26
          have H1 : (if x7_1.length < 8796093022208 then (spec_l32List.l0 kj9 a2 (x7_1 ++ [(⟨x8_1, rd t484 t490⟩ : SSign)]) (wrap64 (x8_1 + 1)) s0_0 t491 t492 a1_0 a1_1 a1_2) else (none)) = some (r1, r2, r3) := by rw [if_neg (show ¬ (false = true) by decide)] at H; exact H
          clear H
          have H := H1
          clear H1
          by_cases c72 : x7_1.length < 8796093022208
          ·rw [if_pos c72] at H
           have LMc72 := aK c72
           clear c72
           obtain ⟨y512, hy512⟩ : ∃ y_ : List (SSign), y_ = (x7_1 ++ [(⟨x8_1, rd t484 t490⟩ : SSign)]) := ⟨_, rfl⟩
           replace H : (spec_l32List.l0 kj9 a2 y512 (wrap64 (x8_1 + 1)) s0_0 t491 t492 a1_0 a1_1 a1_2) = some (r1, r2, r3) := by first | (rw [hy512]; with_reducible exact H) | (have H2_ := (Option.bind_some _ _).symm.trans H; rw [hy512]; with_reducible exact H2_) | (have H2_ := (Option.bind_some _ _).symm.trans H; with_reducible exact H2_) | with_reducible exact H | (rw [hy512]; exact H) | exact H
           have Ny512 := aK hy512
           clear hy512
           have H' := aK H
           clear H
           obtain ⟨Ao73, co73, eo73⟩ := Kd.R_slice HO_9.out
           subst eo73
           go_wp2_with (first | ((with_reducible refine gate_callee (f := 72) rfl ?_); refine goesL_ (some 36) rfl rfl Try.func72 (by kernel_rfl) rfl #[.pointer (some ⟨g, 0, none⟩), .int .i64 (t484.length : Int)] rfl (by (try simp only [List.map_toArray, List.map_cons, List.map_nil]); first | done | rfl | (simp only [List.length_drop, List.length_take]; rfl)) ?_; (with_reducible refine (spec_l01Below.calls g s0_0 x1001_9 x1002_9 (t484.length : Int) t490 t491 t492 w0 _ ?side1 ?side2 A22.out).mono ?_); (case side1 => repeat (first | (with_reducible first | exact HI0.out | apply IsS146.alloc | apply IsS146.drewN | apply IsS146.drew | apply IsS146.set_1 | apply IsS146.set_2 | refine IsS146.far ?_ NB0_479.out _) | exact HI0.out)); (case side2 => repeat (first | (with_reducible first | exact HB.out | apply bAl | apply bDN | apply bD1 | refine bSt ?_ (IsS146.ge HI0.out) | refine bSt ?_ GE479.out) | exact HB.out)); rintro e w74 ⟨rfl, hi, hb, hk⟩; refine ⟨_, rfl, ?_⟩; have n0_ := aK (Kd.R_mono (Kd.R_keep (IsS146.apart (show IsS146 w0 _ g s0_0 x1001_9 x1002_9 from by repeat (first | (with_reducible first | exact HI0.out | apply IsS146.alloc | apply IsS146.drewN | apply IsS146.drew | apply IsS146.set_1 | apply IsS146.set_2 | refine IsS146.far ?_ NB0_479.out _) | exact HI0.out)) (by (with_reducible repeat (first | apply Kd.R_alloc | apply Kd.R_drewN | apply Kd.R_drew)); exact HO_7.out) (by decide)) hk (fun _ h => h.2)) (fun _ h => h.1)); have n1_ := aK (Kd.R_mono (Kd.R_keep (IsS146.apart (show IsS146 w0 _ g s0_0 x1001_9 x1002_9 from by repeat (first | (with_reducible first | exact HI0.out | apply IsS146.alloc | apply IsS146.drewN | apply IsS146.drew | apply IsS146.set_1 | apply IsS146.set_2 | refine IsS146.far ?_ NB0_479.out _) | exact HI0.out)) (by (with_reducible repeat (first | apply Kd.R_alloc | apply Kd.R_drewN | apply Kd.R_drew)); exact HO_9.out) (by decide)) hk (fun _ h => h.2)) (fun _ h => h.1)); have n2_ := aK (KeepBut.blk hk (g' := gb479) (o := .cells #[.int .i64 a1_0, .int .i64 a1_1, .int .i64 a1_2] 27 (0, 0)) (by (with_reducible repeat (first | refine kDN ?_ _ | refine kD ?_ | refine kA ?_ _)); exact BK479.out) NB479_0.out (by simp)); have n3_ := aK (KeepBut.trans (by repeat (first | (with_reducible first | exact HK.out | apply KeepBut.set_ | apply keep_drewN | apply keep_drew | apply keep_alloc | refine keep_far ?_ GW479.out _) | exact HK.out)) hk (.inl rfl)); have n4_ := aK (hb); have n5_ := aK (hi); clear HO_7; clear HO_9; clear BK479; clear HK; clear HB; clear HI0; have HO_7 := n0_; have HO_9 := n1_; have BK479 := n2_; have HK := n3_; have HB := n4_; have HI0 := n5_; clear n0_ n1_ n2_ n3_ n4_ n5_; (try clear hb); (try clear hb2); (try clear hk); (try clear hi); have p493 : 0 ≤ (t490 : Int) := of_decide_eq_true (by first | (with_reducible assumption) | assumption); have q493 : t490 < (t484.length : Int) := of_decide_eq_true (by first | (with_reducible assumption) | assumption); obtain ⟨ad493, e493, hx493_0⟩ := Kd.at_int (Kd.R_reads' HO_9.out).2.2 t490 p493 q493; cases e493; replace p493 := eq_true p493; replace q493 := eq_true q493) | ((with_reducible refine gate_dst (N := 10) rfl ?_); (try (refine gate_guard (by rfl) ?_; dsimp only)); refine box_event ?hg (N := 10) ?hd (cs := #[.int .i64 0, .int .i64 0]) (t := 49) ?hr ?_; (case hd => rfl); (case hg => rfl); (case hr => first | (go_simp; done) | (go_simp; rfl)); intro gb494 hg w75 hbox hb; have n0_ := aK (Kd.R_below (Kd.R_elderB (by (with_reducible repeat (first | apply Kd.R_alloc | apply Kd.R_drewN | apply Kd.R_drew)); exact HO_7.out) gb494 (Nat.le_of_eq hg.symm)) hb); have n1_ := aK (Kd.R_below (by (with_reducible repeat (first | apply Kd.R_alloc | apply Kd.R_drewN | apply Kd.R_drew)); exact HO_9.out) hb); have n2_ := bkb BK479 hb (by intro z_; (with_reducible repeat (first | refine kDN ?_ _ | refine kD ?_ | refine kA ?_ _)); exact z_); have n3_ := aK (IsS146.below (by repeat (first | (with_reducible first | exact HI0.out | apply IsS146.alloc | apply IsS146.drewN | apply IsS146.drew | apply IsS146.set_1 | apply IsS146.set_2 | refine IsS146.far ?_ NB0_479.out _) | exact HI0.out)) hb); have n4_ := aK (KeepBut.trans (by repeat (first | (with_reducible first | exact HK.out | apply KeepBut.set_ | apply keep_drewN | apply keep_drew | apply keep_alloc | refine keep_far ?_ GW479.out _) | exact HK.out)) (KeepBut.of_below hb g none) (.inl rfl)); have n5_ := aK (bSp (by repeat (first | (with_reducible first | exact HB.out | apply bAl | apply bDN | apply bD1 | refine bSt ?_ (IsS146.ge HI0.out) | refine bSt ?_ GE479.out) | exact HB.out)) hb); have n6_ := aK (hbox); have n7_ := aK ((by rw [hg]; exact (keep_size (w := w) (g := g) (row := none) (by repeat (first | (with_reducible first | exact HK.out | apply KeepBut.set_ | apply keep_drewN | apply keep_drew | apply keep_alloc | refine keep_far ?_ GW479.out _) | exact HK.out))) : w.heap.size ≤ gb494)); have n8_ := aK ((Nat.le_trans HW0.out (by rw [hg]; exact (keep_size (w := w) (g := g) (row := none) (by repeat (first | (with_reducible first | exact HK.out | apply KeepBut.set_ | apply keep_drewN | apply keep_drew | apply keep_alloc | refine keep_far ?_ GW479.out _) | exact HK.out))) : w.heap.size ≤ gb494) : w0.heap.size ≤ gb494)); have n9_ := nbl BK479 hg (by intro z_; (with_reducible repeat (first | refine kDN ?_ _ | refine kD ?_ | refine kA ?_ _)); exact z_); have n10_ := nbs n9_; have n11_ := aK ((by rw [hg]; exact Nat.ne_of_lt (IsS146.lt (show IsS146 w0 _ g s0_0 t491 t492 from by repeat (first | (with_reducible first | exact HI0.out | apply IsS146.alloc | apply IsS146.drewN | apply IsS146.drew | apply IsS146.set_1 | apply IsS146.set_2 | refine IsS146.far ?_ NB0_479.out _) | exact HI0.out))) : g ≠ gb494)); have n12_ := aK ((by rw [hg]; exact Nat.ne_of_gt (IsS146.lt (show IsS146 w0 _ g s0_0 t491 t492 from by repeat (first | (with_reducible first | exact HI0.out | apply IsS146.alloc | apply IsS146.drewN | apply IsS146.drew | apply IsS146.set_1 | apply IsS146.set_2 | refine IsS146.far ?_ NB0_479.out _) | exact HI0.out))) : gb494 ≠ g)); clear HO_7; clear HO_9; clear BK479; clear HI0; clear HK; clear HB; have HO_7 := n0_; have HO_9 := n1_; have BK479 := n2_; have HI0 := n3_; have HK := n4_; have HB := n5_; have BK494 := n6_; have GW494 := n7_; have GE494 := n8_; have NB479_494 := n9_; have NB494_479 := n10_; have NB0_494 := n11_; have NB494_0 := n12_; clear n0_ n1_ n2_ n3_ n4_ n5_ n6_ n7_ n8_ n9_ n10_ n11_ n12_; clear hb hbox hg; have hnb76 := NB494_479.out; have hnc76 := NB479_494.out; have hnb77 := NB494_0.out; have hnc77 := NB0_494.out; obtain ⟨hcz78_0, hcz78_1, hfz78_0, hfz78_1⟩ := cl2 BK494.out; have hnb79 := NB479_0.out; have hnc79 := NB0_479.out; obtain ⟨hcz80_0, hcz80_1, hcz80_2, hfz80_0, hfz80_1, hfz80_2⟩ := cl3 BK479.out) | ((with_reducible refine gate_callee (f := 146) rfl ?_); refine goesL_ (some 44) rfl rfl Try.func146 (by kernel_rfl) rfl #[.agg #[.int .i64 a1_0, .int .i64 a1_1, .int .i64 a1_2], .int .i64 x8_1, .int .i64 a2] rfl (by (try simp only [List.map_toArray, List.map_cons, List.map_nil]); first | done | rfl | (simp only [List.length_drop, List.length_take]; rfl)) ?_; (with_reducible refine (spec_WayBetween.calls kj9 a1_0 a1_1 a1_2 x8_1 a2 t495 false _ A25.out).mono ?_); rintro e w81 ⟨v496, rfl, ho0, hb⟩; refine ⟨_, rfl, ?_⟩; have n0_ := aK (Kd.R_below (by (with_reducible repeat (first | apply Kd.R_alloc | apply Kd.R_drewN | apply Kd.R_drew)); exact (Kd.R_mono (Kd.R_far (p := ⟨gb494, 1, none⟩) (Kd.R_far (p := ⟨gb494, 0, none⟩) (Kd.R_mono HO_7.out (fun k_ hk => (⟨hk, hk.2⟩ : _ ∧ k_ ≠ gb494))) (fun _ hk => hk.2) (.int .i64 x8_1)) (fun _ hk => hk.2) (.int .i64 (rd t484 t490))) (fun _ h_ => h_.1))) hb); have n1_ := aK (Kd.R_elder' (by (with_reducible repeat (first | apply Kd.R_alloc | apply Kd.R_drewN | apply Kd.R_drew)); exact (Kd.R_mono (Kd.R_far (p := ⟨gb494, 1, none⟩) (Kd.R_far (p := ⟨gb494, 0, none⟩) (Kd.R_types HO_9.out BK494.out (by decide)) (fun _ hk => hk.2) (.int .i64 x8_1)) (fun _ hk => hk.2) (.int .i64 (rd t484 t490))) (fun _ h_ => h_.1))) (Kd.R_base ho0) hb); have n2_ := aK (Kd.R_lower (Kd.R_new' ho0 (Kd.R_lt (by (with_reducible repeat (first | apply Kd.R_alloc | apply Kd.R_drewN | apply Kd.R_drew)); exact (Kd.R_mono (Kd.R_far (p := ⟨gb494, 1, none⟩) (Kd.R_far (p := ⟨gb494, 0, none⟩) (Kd.R_types HO_9.out BK494.out (by decide)) (fun _ hk => hk.2) (.int .i64 x8_1)) (fun _ hk => hk.2) (.int .i64 (rd t484 t490))) (fun _ h_ => h_.1))))) (keep_size (w := w) (g := g) (row := none) (by repeat (first | (with_reducible first | exact HK.out | apply KeepBut.set_ | apply keep_drewN | apply keep_drew | apply keep_alloc | refine keep_far ?_ GW479.out _ | refine keep_far ?_ GW494.out _) | exact HK.out)))); have n3_ := bkb BK479 hb (by intro z_; (with_reducible repeat (first | refine kDN ?_ _ | refine kD ?_ | refine kA ?_ _)); refine blk_far ?_ NB479_494.out _; (with_reducible repeat (first | refine kDN ?_ _ | refine kD ?_ | refine kA ?_ _)); refine blk_far ?_ NB479_494.out _; (with_reducible repeat (first | refine kDN ?_ _ | refine kD ?_ | refine kA ?_ _)); exact z_); have n4_ := aK (IsS146.below (show IsS146 w0 ((w75.setCell ⟨gb494, 0, none⟩ (.int .i64 x8_1)).setCell ⟨gb494, 1, none⟩ (.int .i64 (rd t484 t490))) g s0_0 t491 t492 from by repeat (first | (with_reducible first | exact HI0.out | apply IsS146.alloc | apply IsS146.drewN | apply IsS146.drew | apply IsS146.set_1 | apply IsS146.set_2 | refine IsS146.far ?_ NB0_479.out _ | refine IsS146.far ?_ NB0_494.out _) | exact HI0.out)) hb); have n5_ := aK (blk_below (g := gb494) (o := .cells #[.int .i64 x8_1, .int .i64 (rd t484 t490)] 49 (0, 0)) (by (with_reducible repeat (first | refine kDN ?_ _ | refine kD ?_ | refine kA ?_ _)); refine blk_put (cs := #[.int .i64 x8_1, .int .i64 0]) ?_ 1 _ rfl; (with_reducible repeat (first | refine kDN ?_ _ | refine kD ?_ | refine kA ?_ _)); refine blk_put (cs := #[.int .i64 0, .int .i64 0]) ?_ 0 _ rfl; (with_reducible repeat (first | refine kDN ?_ _ | refine kD ?_ | refine kA ?_ _)); exact BK494.out) hb); have n6_ := aK (KeepBut.trans (by repeat (first | (with_reducible first | exact HK.out | apply KeepBut.set_ | apply keep_drewN | apply keep_drew | apply keep_alloc | refine keep_far ?_ GW479.out _ | refine keep_far ?_ GW494.out _) | exact HK.out)) (KeepBut.of_below hb g none) (.inl rfl)); have n7_ := aK (bSp (by repeat (first | (with_reducible first | exact HB.out | apply bAl | apply bDN | apply bD1 | refine bSt ?_ (IsS146.ge HI0.out) | refine bSt ?_ GE479.out | refine bSt ?_ GE494.out) | exact HB.out)) hb); clear HO_7; clear HO_9; clear BK479; clear HI0; clear BK494; clear HK; clear HB; have HO_7 := n0_; have HO_9 := n1_; have HO497 := n2_; have BK479 := n3_; have HI0 := n4_; have BK494 := n5_; have HK := n6_; have HB := n7_; clear n0_ n1_ n2_ n3_ n4_ n5_ n6_ n7_; (try clear hb); (try clear hb2); (try clear hk); (try clear hi); (try clear ho0); obtain ⟨hcz82_0, hcz82_1, hfz82_0, hfz82_1⟩ := cl2 BK494.out) | ((with_reducible refine gate_builtin (b := .append) (xs := #[.tmp 62, .tmp 64]) rfl ?_); (try (refine gate_guard (by rfl) ?_; dsimp only)); at_builtin; refine Kd.R_append k49 w.heap.size rfl (.tmp 62) (.tmp 64) 41 49 (.agg #[(.int .i64 0), (.int .i64 0)]) 16 rfl Try.underlying41 info49 rfl (by decide) (by omega) u7 x7_1 (⟨x8_1, rd t484 t490⟩ : SSign) [.int .i64 x8_1, .int .i64 (rd t484 t490)] (fun k_ => k_ ≠ gb494) (fun _ => False) rfl rfl ?aP (fun _ hk => hk.elim) ?aF ?aO (Below.refl _ _) ?aS ?aL ?_; (case aP => exact k49_mkM _ _ _ (⟨x8_1, rd t484 t490⟩ : SSign)); (case aF => exact (fun k_ hk => Kd.freshB (g := gb494) (o := .cells #[.int .i64 x8_1, .int .i64 (rd t484 t490)] 49 (0, 0)) (by (with_reducible repeat (first | refine kDN ?_ _ | refine kD ?_ | refine kA ?_ _)); exact BK494.out) k_ hk)); (case aO => exact (by (with_reducible repeat (first | apply Kd.R_alloc | apply Kd.R_drewN | apply Kd.R_drew)); exact Kd.R_mono HO_7.out (fun _ hk => hk.2))); (case aS => exact (keep_size (w := w) (g := g) (row := none) (by repeat (first | (with_reducible first | exact HK.out | apply KeepBut.set_ | apply keep_drewN | apply keep_drew | apply keep_alloc | refine keep_far ?_ GW479.out _ | refine keep_far ?_ GW494.out _) | exact HK.out)))); (case aL => have := LMc72.out; omega); intro v513 w83 ho hb hg hat; rw [← Ny512.out] at ho; have n0_ := aK (Kd.R_over' (by (with_reducible repeat (first | apply Kd.R_alloc | apply Kd.R_drewN | apply Kd.R_drew)); exact HO_9.out) (Kd.R_typed (by (with_reducible repeat (first | apply Kd.R_alloc | apply Kd.R_drewN | apply Kd.R_drew)); exact HO_7.out)) (by decide) hg); have n1_ := aK (blk_grown (g := gb479) (o := .cells #[.int .i64 a1_0, .int .i64 a1_1, .int .i64 a1_2] 27 (0, 0)) (by (with_reducible repeat (first | refine kDN ?_ _ | refine kD ?_ | refine kA ?_ _)); exact BK479.out) hg (Kd.R_ne HO_7.out BK479.out (by decide))); have n2_ := aK (IsS146.grown (show IsS146 w0 _ g s0_0 t491 t492 from by repeat (first | (with_reducible first | exact HI0.out | apply IsS146.alloc | apply IsS146.drewN | apply IsS146.drew | apply IsS146.set_1 | apply IsS146.set_2 | refine IsS146.far ?_ NB0_479.out _ | refine IsS146.far ?_ NB0_494.out _) | exact HI0.out)) hg (IsS146.own_ne HI0.out HO_7.out (by decide))); have n3_ := aK (blk_grown (g := gb494) (o := .cells #[.int .i64 x8_1, .int .i64 (rd t484 t490)] 49 (0, 0)) (by (with_reducible repeat (first | refine kDN ?_ _ | refine kD ?_ | refine kA ?_ _)); exact BK494.out) hg (Kd.R_away HO_7.out (fun _ hk => hk.2))); have n4_ := aK (Kd.R_over' (by (with_reducible repeat (first | apply Kd.R_alloc | apply Kd.R_drewN | apply Kd.R_drew)); exact HO497.out) (Kd.R_typed (by (with_reducible repeat (first | apply Kd.R_alloc | apply Kd.R_drewN | apply Kd.R_drew)); exact HO_7.out)) (by decide) hg); have n5_ := aK (below_weaken (by repeat (first | (with_reducible first | exact HB.out | apply bAl | apply bDN | apply bD1 | refine bSt ?_ (IsS146.ge HI0.out) | refine bSt ?_ GE479.out | refine bSt ?_ GE494.out) | exact HB.out)) HL.out hb); have n6_ := aK (KeepBut.trans (by repeat (first | (with_reducible first | exact HK.out | apply KeepBut.set_ | apply keep_drewN | apply keep_drew | apply keep_alloc | refine keep_far ?_ GW479.out _ | refine keep_far ?_ GW494.out _) | exact HK.out)) (KeepBut.of_grown hg g) (Kd.R_base2 HO_7.out)); have n7_ := aK (ho); clear HO_9; clear BK479; clear HI0; clear BK494; clear HO497; clear HB; clear HK; clear HO_7; have HO_9 := n0_; have BK479 := n1_; have HI0 := n2_; have BK494 := n3_; have HO497 := n4_; have HB := n5_; have HK := n6_; have HO514 := n7_; clear n0_ n1_ n2_ n3_ n4_ n5_ n6_ n7_; clear ho hb hg hat))
           go_roundg kj9
           case measure => have := HK1.out; have := HJ9.out; omega
           case rel => exact ⟨(y512), (wrap64 (x8_1 + 1)), (t491), (t492), (by first | rfl | (simp; done) | (simp [*]; done)), H', ⟨by have := HK1.out; have := HJ9.out; omega⟩, ⟨by (with_reducible repeat (first | apply Kd.R_alloc | apply Kd.R_drewN | apply Kd.R_drew)); exact Kd.R_mono HO514.out (fun _ hk => trivial)⟩, ⟨by (with_reducible repeat (first | refine kDN ?_ _ | refine kD ?_ | refine kA ?_ _)); exact BK479.out⟩, ⟨by repeat (first | (with_reducible first | exact HI0.out | apply IsS146.alloc | apply IsS146.drewN | apply IsS146.drew | apply IsS146.set_1 | apply IsS146.set_2 | refine IsS146.far ?_ NB0_479.out _ | refine IsS146.far ?_ NB0_494.out _) | exact HI0.out)⟩, ⟨by repeat (first | (with_reducible first | exact HK.out | apply KeepBut.set_ | apply keep_drewN | apply keep_drew | apply keep_alloc | refine keep_far ?_ GW479.out _ | refine keep_far ?_ GW494.out _) | exact HK.out)⟩, ⟨by repeat (first | (with_reducible first | exact HB.out | apply bAl | apply bDN | apply bD1 | refine bSt ?_ (IsS146.ge HI0.out) | refine bSt ?_ GE479.out | refine bSt ?_ GE494.out) | exact HB.out)⟩⟩
          ·rw [if_neg c72] at H
           exact absurd H (by simp)
        ·rw [if_neg c24] at H
         exact absurd H (by simp)
       ·rw [if_neg c23] at H
        exact absurd H (by simp)
   ·rw [if_neg c8] at H
    have c8b0 : decide (x8_1 < t483) = false := decide_eq_false c8
    clear c8
    simp only [Option.some.injEq, Prod.mk.injEq] at H
    obtain ⟨rfl, rfl, rfl⟩ := H
    have hnb84 := NB479_0.out
    have hnc84 := NB0_479.out
    obtain ⟨hcz85_0, hcz85_1, hcz85_2, hfz85_0, hfz85_1, hfz85_2⟩ := cl3 BK479.out
    go_wp2_with (first | ((with_reducible refine gate_callee (f := 30) rfl ?_); refine goesL_ (some 17) rfl rfl Try.func30 (by kernel_rfl) rfl #[.agg #[.int .i64 a1_0, .int .i64 a1_1]] rfl (by (try simp only [List.map_toArray, List.map_cons, List.map_nil]); first | done | rfl | (simp only [List.length_drop, List.length_take]; rfl)) ?_; (with_reducible refine (spec_CountCells.calls a1_0 a1_1 t483 _ A7.out).mono ?_); rintro e w86 ⟨rfl, hb⟩; refine ⟨_, rfl, ?_⟩; have n0_ := aK (Kd.R_below (by (with_reducible repeat (first | apply Kd.R_alloc | apply Kd.R_drewN | apply Kd.R_drew)); exact HO_7.out) hb); have n1_ := bkb BK479 hb (by intro z_; (with_reducible repeat (first | refine kDN ?_ _ | refine kD ?_ | refine kA ?_ _)); exact z_); have n2_ := aK (IsS146.below (by repeat (first | (with_reducible first | exact HI0.out | apply IsS146.alloc | apply IsS146.drewN | apply IsS146.drew | apply IsS146.set_1 | apply IsS146.set_2 | refine IsS146.far ?_ NB0_479.out _) | exact HI0.out)) hb); have n3_ := aK (KeepBut.trans (by repeat (first | (with_reducible first | exact HK.out | apply KeepBut.set_ | apply keep_drewN | apply keep_drew | apply keep_alloc | refine keep_far ?_ GW479.out _) | exact HK.out)) (KeepBut.of_below hb g none) (.inl rfl)); have n4_ := aK (bSp (by repeat (first | (with_reducible first | exact HB.out | apply bAl | apply bDN | apply bD1 | refine bSt ?_ (IsS146.ge HI0.out) | refine bSt ?_ GE479.out) | exact HB.out)) hb); clear HO_7; clear BK479; clear HI0; clear HK; clear HB; have HO_7 := n0_; have BK479 := n1_; have HI0 := n2_; have HK := n3_; have HB := n4_; clear n0_ n1_ n2_ n3_ n4_; (try clear hb); (try clear hb2); (try clear hk); (try clear hi)))
    go_ret
    exact ⟨_, by first | rfl | (simp [errW_none, errW_some] <;> rfl) | (simp [*, errW_none, errW_some] <;> rfl), by (with_reducible repeat (first | apply Kd.R_alloc | apply Kd.R_drewN | apply Kd.R_drew)); exact HO_7.out, by repeat (first | (with_reducible first | exact HI0.out | apply IsS146.alloc | apply IsS146.drewN | apply IsS146.drew | apply IsS146.set_1 | apply IsS146.set_2 | refine IsS146.far ?_ NB0_479.out _) | exact HI0.out), by repeat (first | (with_reducible first | exact HB.out | apply bAl | apply bDN | apply bD1 | refine bSt ?_ (IsS146.ge HI0.out) | refine bSt ?_ GE479.out) | exact HB.out), by repeat (first | (with_reducible first | exact HK.out | apply KeepBut.set_ | apply keep_drewN | apply keep_drew | apply keep_alloc | refine keep_far ?_ GW479.out _) | exact HK.out)⟩
end Go.Proofs.Ytpeehicekddjhaa.F
end

section
namespace Go.Proofs.Ytpeehicekddjhaa.F
open Go.RowKit Go.Proofs.YtpeehicekddjhaaW.PrintWords Go.Proofs.YtpeehicekddjhaaW.PrintLast Go.Proofs.YtpeehicekddjhaaW.PrintMore
set_option linter.unusedVariables false
set_option linter.unusedSimpArgs false
attribute [local go_sem] max2_int min2_int max_two min_two
set_option maxRecDepth 20000 in set_option maxHeartbeats 4000000 in open Nat renaming reduceAdd → p1, reduceSub → p2, reduceMul → p3, reduceDiv → p4, reduceBNe → p5, reduceBEq → p6, reduceEqDiff → p7, reduceLeDiff → p8, reduceLT → p9 in open Int renaming reduceLE → p10, reduceLT → p11, reduceEq → p12 in
theorem impl_DistanceOf.ctr {k : Nat} {a0_0 : Int} {a0_1 : Int} {a0_2 : Int} {a1 : Int} {a2 : Int} {r : Int} (h : impl_DistanceOf.f k a0_0 a0_1 a0_2 a1 a2 = some r) : Ctr Try.prog 28 [.ag [.v (.int .i64 a0_0), .v (.int .i64 a0_1), .v (.int .i64 a0_2)], .v (.int .i64 a1), .v (.int .i64 a2)] (.v (.int .i64 r)) := by
  refine Ctr_of tyOk hm Try.func28 rfl rfl (by kernel_rfl) (n := 16) (rv := [.tmp 6]) rfl rfl ?_
  simp only [W, List.replicate]
  unfold impl_DistanceOf.f at h
  replace h := bnd h; obtain ⟨t1, A, h⟩ := h
  try simp only [W, p1, p2, p3, p4, p5, p6, p7, p8, p9, p10, p11]
  refine callR (impl_isIn.ctr A) ?_
  replace h := ifT h; rcases h with ⟨rfl, h⟩ | ⟨rfl, h⟩
  · replace h := bnd h; obtain ⟨t3, A, h⟩ := h
    try simp only [W, p1, p2, p3, p4, p5, p6, p7, p8, p9, p10, p11]
    refine callR (impl_distances.ctr A) ?_
    replace h := ifN h; obtain ⟨c4, h⟩ := h
    replace h := ifN h; obtain ⟨c5, h⟩ := h
    cases h
    try simp only [W, c4, c5, p1, p2, p3, p4, p5, p6, p7, p8, p9, p10, p11]
  · cases h
    try simp only [W, p1, p2, p3, p4, p5, p6, p7, p8, p9, p10, p11]
theorem impl_DistanceOf.calls (k : Nat) (a0_0 : Int) (a0_1 : Int) (a0_2 : Int) (a1 : Int) (a2 : Int) (r : Int) (w : World) (h : impl_DistanceOf.f k a0_0 a0_1 a0_2 a1 a2 = some r) :
    Calls Try.prog 28 #[.agg #[.int .i64 a0_0, .int .i64 a0_1, .int .i64 a0_2], .int .i64 a1, .int .i64 a2] w fun e w' => e = .returned (.int .i64 r) ∧ Below w.heap.size w w' := by
  refine ((impl_DistanceOf.ctr h).2 w [.agg #[.int .i64 a0_0, .int .i64 a0_1, .int .i64 a0_2], .int .i64 a1, .int .i64 a2] (by simp only [RepL, Rep]; exact ⟨_, _, rfl, ⟨_, rfl, _, _, rfl, rfl, _, _, rfl, rfl, _, _, rfl, rfl, rfl⟩, _, _, rfl, rfl, _, _, rfl, rfl, rfl⟩)).mono ?_
  rintro _ _ ⟨y, L, rfl, hR, _, hb⟩
  exact ⟨congrArg Ending.returned (RepR_pln rfl hR).1, hb⟩
set_option maxRecDepth 20000 in set_option maxHeartbeats 4000000 in open Nat renaming reduceAdd → p1, reduceSub → p2, reduceMul → p3, reduceDiv → p4, reduceBNe → p5, reduceBEq → p6, reduceEqDiff → p7, reduceLeDiff → p8, reduceLT → p9 in open Int renaming reduceLE → p10, reduceLT → p11, reduceEq → p12 in
theorem impl_WayBetween.ctr {k : Nat} {a0_0 : Int} {a0_1 : Int} {a0_2 : Int} {a1 : Int} {a2 : Int} {r1 : List Int} {r2 : Bool} (h : impl_WayBetween.f k a0_0 a0_1 a0_2 a1 a2 = some (r1, r2)) : Ctr Try.prog 76 [.ag [.v (.int .i64 a0_0), .v (.int .i64 a0_1), .v (.int .i64 a0_2)], .v (.int .i64 a1), .v (.int .i64 a2)] (.tu [.ow 3 1 (r1.map eI), .v (.bool r2)]) := by
  refine Ctr_of tyOk hm Try.func76 rfl rfl (by kernel_rfl) (n := 51) (rv := [.tmp 6, .tmp 7]) rfl rfl ?_
  simp only [W, List.replicate]
  unfold impl_WayBetween.f at h
  replace h := bnd h; obtain ⟨t1, A, h⟩ := h
  try simp only [W, p1, p2, p3, p4, p5, p6, p7, p8, p9, p10, p11]
  refine callR (impl_DistanceOf.ctr A) ?_
  replace h := ifS h; rcases h with ⟨c2, h⟩ | ⟨c2, h⟩
  · cases h
    try simp only [W, c2, p1, p2, p3, p4, p5, p6, p7, p8, p9, p10, p11]
  · replace h := bnd h; obtain ⟨t3, A, h⟩ := h
    try simp only [W, c2, p1, p2, p3, p4, p5, p6, p7, p8, p9, p10, p11]
    refine callR (impl_distances.ctr A) ?_
    try simp only [W, c2, p1, p2, p3, p4, p5, p6, p7, p8, p9, p10, p11]
    refine loopN (fun x : Int × List Int × List Int × Int × Int × Int × Int => [.u, .u, .v (.int .i64 x.1), .bp 48 0, .u, .u, .u, .u, .lo 336, .lo 144, .v (.int .i64 x.2.2.2.1), .u, .u, .u, .u, .u, .u, .u, .u, .u, .u, .u, .u, .u, .u, .u, .u, .u, .u, .u, .u, .u, .u, .u, .u, .u, .u, .u, .u, .u, .u, .u, .u, .u, .u, .u, .u, .u, .u, .u, .u, .u, .u, .u]) (fun x => [(48, .box 27 [.v (.int .i64 x.2.2.2.2.1), .v (.int .i64 x.2.2.2.2.2.1), .v (.int .i64 x.2.2.2.2.2.2)]), (144, .row 3 1 (List.map eI x.2.2.1)), (336, .row 3 1 (List.map eI x.2.1))]) (fun n x => impl_WayBetween.l0 n x.1 x.2.1 x.2.2.1 x.2.2.2.1 x.2.2.2.2.1 x.2.2.2.2.2.1 x.2.2.2.2.2.2 = some (r1, r2)) (a2, t3, ([] : List Int), a1, a0_0, a0_1, a0_2) [] h (by simp only [W, p1, p2, p3, p4, p5, p6, p7, p8, p9, p10, p11] <;> trivial) (by simp only [W, p1, p2, p3, p4, p5, p6, p7, p8, p9, p10, p11] <;> trivial) rfl (fun _ h => by cases h) ?_
    intro n1 ⟨x4, x5, x6, x7, x8, x9, x10⟩ _ h
    simp only [impl_WayBetween.l0] at h
    replace h := ifS h; rcases h with ⟨c11, h⟩ | ⟨c11, h⟩
    · cases h
      try simp only [W, eq_true c11, p1, p2, p3, p4, p5, p6, p7, p8, p9, p10, p11]
    · replace h := bnd h; obtain ⟨t12, A, h⟩ := h
      try simp only [W, c11, p1, p2, p3, p4, p5, p6, p7, p8, p9, p10, p11]
      refine callR (impl_WaysFrom.ctr A) ?_
      try simp only [W, c11, p1, p2, p3, p4, p5, p6, p7, p8, p9, p10, p11]
      refine loopN (fun x : Int × List Int × List Int × Int × List Int × Int × Int × Int × Int × Int => [.u, .u, .v (.int .i64 x.1), .bp 48 0, .u, .u, .u, .u, .lo 336, .lo 144, .v (.int .i64 x.2.2.2.1), .u, .u, .u, .u, .u, .u, .u, .u, .u, .u, .u, .u, .u, .u, .u, .u, .u, .lo 448, .v (.int .i64 x.2.2.2.2.2.1), .v (.int .i64 x.2.2.2.2.2.2.1), .u, .u, .u, .u, .u, .u, .u, .u, .u, .u, .u, .u, .u, .u, .u, .u, .u, .u, .u, .u, .u, .u, .u]) (fun x => [(48, .box 27 [.v (.int .i64 x.2.2.2.2.2.2.2.1), .v (.int .i64 x.2.2.2.2.2.2.2.2.1), .v (.int .i64 x.2.2.2.2.2.2.2.2.2)]), (144, .row 3 1 (List.map eI x.2.2.1)), (336, .row 3 1 (List.map eI x.2.1)), (448, .row 3 1 (List.map eI x.2.2.2.2.1))]) (fun n x => impl_WayBetween.l1 n x.1 x.2.1 x.2.2.1 x.2.2.2.1 x.2.2.2.2.1 x.2.2.2.2.2.1 x.2.2.2.2.2.2.1 x.2.2.2.2.2.2.2.1 x.2.2.2.2.2.2.2.2.1 x.2.2.2.2.2.2.2.2.2 = some (r1, r2)) (x4, x5, x6, x7, t12, (t12.length : Int), 0, x8, x9, x10) [] h (by simp only [W, p1, p2, p3, p4, p5, p6, p7, p8, p9, p10, p11] <;> trivial) (by simp only [W, p1, p2, p3, p4, p5, p6, p7, p8, p9, p10, p11] <;> trivial) rfl (fun _ h => by cases h) ?_
      intro n2 ⟨x13, x14, x15, x16, x17, x18, x19, x20, x21, x22⟩ _ h
      simp only [impl_WayBetween.l1] at h
      replace h := ifS h; rcases h with ⟨c23, h⟩ | ⟨c23, h⟩
      · replace h := ifN h; obtain ⟨c24, h⟩ := h
        replace h := ifN h; obtain ⟨c25, h⟩ := h
        replace h := bnd h; obtain ⟨t26, A, h⟩ := h
        try simp only [W, c23, c24, c25, p1, p2, p3, p4, p5, p6, p7, p8, p9, p10, p11]
        refine callR (impl_Step.ctr A) ?_
        replace h := ifN h; obtain ⟨c27, h⟩ := h
        replace h := ifN h; obtain ⟨c28, h⟩ := h
        replace h := ifN h; obtain ⟨c29, h⟩ := h
        replace h := ifN h; obtain ⟨c30, h⟩ := h
        replace h := ifS h; rcases h with ⟨c31, h⟩ | ⟨c31, h⟩
        · replace h := ifN h; obtain ⟨c32, h⟩ := h
          try simp only [W, c23, c24, c25, c27, c28, c29, c30, c31, c32, p1, p2, p3, p4, p5, p6, p7, p8, p9, p10, p11]
          exact nextN (x13, x14, (x15 ++ [rd x17 x19]), t26, x20, x21, x22) [(144, 800)] n2 (by omega) h (by simp only [W, p1, p2, p3, p4, p5, p6, p7, p8, p9, p10, p11] <;> trivial) (by simp only [W, p1, p2, p3, p4, p5, p6, p7, p8, p9, p10, p11] <;> trivial) rfl
        · try simp only [W, c23, c24, c25, c27, c28, c29, c30, c31, p1, p2, p3, p4, p5, p6, p7, p8, p9, p10, p11]
          exact nextN (x13, x14, x15, x16, x17, x18, (wrap64 (x19 + 1)), x20, x21, x22) [] n2 (by omega) h (by simp only [W, p1, p2, p3, p4, p5, p6, p7, p8, p9, p10, p11] <;> trivial) (by simp only [W, p1, p2, p3, p4, p5, p6, p7, p8, p9, p10, p11] <;> trivial) rfl
      · try simp only [W, c23, p1, p2, p3, p4, p5, p6, p7, p8, p9, p10, p11]
        exact nextN (x13, x14, x15, x16, x20, x21, x22) [] n2 (by omega) h (by simp only [W, p1, p2, p3, p4, p5, p6, p7, p8, p9, p10, p11] <;> trivial) (by simp only [W, p1, p2, p3, p4, p5, p6, p7, p8, p9, p10, p11] <;> trivial) rfl
end Go.Proofs.Ytpeehicekddjhaa.F
end

section
namespace Go.Proofs.Ytpeehicekddjhaa.F
open Go.RowKit Go.Proofs.YtpeehicekddjhaaW.PrintWords Go.Proofs.YtpeehicekddjhaaW.PrintLast Go.Proofs.YtpeehicekddjhaaW.PrintMore
set_option linter.unusedVariables false
set_option linter.unusedSimpArgs false
attribute [local go_sem] max2_int min2_int max_two min_two
def spec_DrawSigns.T4 : Bool × List (List Nat × List Nat) := (true, [([], []), ([], []), ([], []), ([], []), ([1, 2, 3], [1, 2, 3]), ([], []), ([0, 4, 0], [0]), ([4, 6, 0, 1, 2, 3, 4, 6], [4]), ([5, 7, 0, 1, 2, 3, 4, 5, 6, 7], [5])])
def spec_DrawSigns.B4 : List Nat := [0, 0, 0, 0, 14, 0, 31, 95, 255]
theorem spec_DrawSigns.tab4 : rtab .any (opsOf Try.f20 4) = spec_DrawSigns.T4 := by kernel_rfl
theorem spec_DrawSigns.bits4 : waitsOk spec_DrawSigns.T4.2 spec_DrawSigns.B4 = true := by kernel_rfl
set_option maxHeartbeats 8000000 in
set_option maxRecDepth 100000 in
theorem spec_DrawSigns.calls (k : Nat) (A0 : Option Addr) (c0 : Nat) (l0 : List Int) (r1 : Int) (r2 : Int) (r3 : Int) (r4 : List (SSign)) (r5 : Int) (w : World) (hr0 : Kd.C (Kd.int .u8) w A0 l0.length l0) (hc0 : l0.length ≤ c0) (h : spec_DrawSigns.f k l0 = some (r1, r2, r3, r4, r5)) :
  Calls Try.prog 20 #[.slice A0 l0.length c0] w fun e w' => ∃ v3_ : Value, e = .returned (.tuple #[.agg #[.int .i64 r1, .int .i64 r2, .int .i64 r3], v3_, .int .i64 r5]) ∧ Kd.R k49 49 w' w.heap.size (fun _ => True) v3_ r4 ∧ Below w.heap.size w w' := by
 have hu27 := Try.underlying27
 have hu25 := Try.underlying25
 have HR0 := aK hr0
 have HC0 := aK hc0
 clear hr0 hc0
 have HB := aK (Below.refl w.heap.size w)
 have H : ((spec_l01New.f k l0).bind fun bt516 => ((spec_l12Maze.f k bt516.1 bt516.2.1 bt516.2.2).bind fun bt520 => ((spec_CountCells.f bt520.1 bt520.2.1).bind fun t526 => ((spec_l01Below.f bt516.1 bt520.2.2.2.1 bt520.2.2.2.2 t526).bind fun bt527 => ((spec_l32List.f k bt516.1 bt527.2.1 bt527.2.2 bt520.1 bt520.2.1 bt520.2.2.1 bt527.1).bind fun bt530 => (some (bt520.1, bt520.2.1, bt520.2.2.1, bt530.1, bt527.1))))))) = some (r1, r2, r3, r4, r5) := h
 clear h
 replace H := Option.bind_eq_some_iff.mp H
 obtain ⟨⟨t516, t517, t518⟩, A20, H⟩ := H
 replace H : ((spec_l12Maze.f k t516 t517 t518).bind fun bt520 => ((spec_CountCells.f bt520.1 bt520.2.1).bind fun t526 => ((spec_l01Below.f t516 bt520.2.2.2.1 bt520.2.2.2.2 t526).bind fun bt527 => ((spec_l32List.f k t516 bt527.2.1 bt527.2.2 bt520.1 bt520.2.1 bt520.2.2.1 bt527.1).bind fun bt530 => (some (bt520.1, bt520.2.1, bt520.2.2.1, bt530.1, bt527.1)))))) = some (r1, r2, r3, r4, r5) := H
 have A2 := aK A20
 clear A20
 replace H := Option.bind_eq_some_iff.mp H
 obtain ⟨⟨t520, t521, t522, t523, t524⟩, A30, H⟩ := H
 replace H : ((spec_CountCells.f t520 t521).bind fun t526 => ((spec_l01Below.f t516 t523 t524 t526).bind fun bt527 => ((spec_l32List.f k t516 bt527.2.1 bt527.2.2 t520 t521 t522 bt527.1).bind fun bt530 => (some (t520, t521, t522, bt530.1, bt527.1))))) = some (r1, r2, r3, r4, r5) := H
 have A3 := aK A30
 clear A30
 replace H := Option.bind_eq_some_iff.mp H
 obtain ⟨t526, A40, H⟩ := H
 replace H : ((spec_l01Below.f t516 t523 t524 t526).bind fun bt527 => ((spec_l32List.f k t516 bt527.2.1 bt527.2.2 t520 t521 t522 bt527.1).bind fun bt530 => (some (t520, t521, t522, bt530.1, bt527.1)))) = some (r1, r2, r3, r4, r5) := H
 have A4 := aK A40
 clear A40
 replace H := Option.bind_eq_some_iff.mp H
 obtain ⟨⟨t527, t528, t529⟩, A50, H⟩ := H
 replace H : ((spec_l32List.f k t516 t528 t529 t520 t521 t522 t527).bind fun bt530 => (some (t520, t521, t522, bt530.1, t527))) = some (r1, r2, r3, r4, r5) := H
 have A5 := aK A50
 clear A50
 replace H := Option.bind_eq_some_iff.mp H
 obtain ⟨⟨t530, t533, t534⟩, A60, H⟩ := H
 replace H : (some (t520, t521, t522, t530, t527)) = some (r1, r2, r3, r4, r5) := H
 have A6 := aK A60
 clear A60
 simp only [Option.some.injEq, Prod.mk.injEq] at H
 obtain ⟨rfl, rfl, rfl, rfl, rfl⟩ := H
 go_enter Try.func20, Try.ntmps20
 try go_wp2_with (first | ((with_reducible refine gate_dst (N := 2) rfl ?_); refine box_event ?hg (N := 2) ?hd (cs := #[.int .i64 0, .int .i64 0, .int .i64 0]) (t := 27) ?hr ?_; (case hd => rfl); (case hg => rfl); (case hr => first | (go_simp; done) | (go_simp; rfl)); intro gb515 hg w7 hbox hb; have n0_ := aK (bSp (by repeat (first | (with_reducible first | exact HB.out | apply bAl | apply bDN | apply bD1) | exact HB.out)) hb); have n1_ := aK (hbox); have n2_ := aK ((by rw [hg]; exact (bSz (by repeat (first | (with_reducible first | exact HB.out | apply bAl | apply bDN | apply bD1) | exact HB.out))) : w.heap.size ≤ gb515)); have n3_ := n2_; clear HB; have HB := n0_; have BK515 := n1_; have GW515 := n2_; have GE515 := n3_; clear n0_ n1_ n2_ n3_; clear hb hbox hg) | ((with_reducible refine gate_callee (f := 60) rfl ?_); refine goesL_ (some 9) rfl rfl Try.func60 (by kernel_rfl) rfl #[.slice A0 l0.length c0] rfl (by (try simp only [List.map_toArray, List.map_cons, List.map_nil]); first | done | rfl | (simp only [List.length_drop, List.length_take]; rfl)) ?_; (with_reducible refine (spec_l01New.calls k _ _ l0 t516 t517 t518 w _ ?side1 ?side2 ?side3 A2.out).mono ?_); (case side1 => repeat (first | (with_reducible first | exact HB.out | apply bAl | apply bDN | apply bD1 | refine bSt ?_ GE515.out) | exact HB.out)); (case side2 => exact HR0.out); (case side3 => exact HC0.out); rintro e w8 ⟨g519, rfl, hi, hb, hb2⟩; refine ⟨_, rfl, ?_⟩; have n0_ := aK (blk_below (g := gb515) (o := .cells #[.int .i64 0, .int .i64 0, .int .i64 0] 27 (0, 0)) (by (with_reducible repeat (first | refine kDN ?_ _ | refine kD ?_ | refine kA ?_ _)); exact BK515.out) hb2); have n1_ := aK (hb); have n2_ := aK (hi); have n3_ := aK (IsS146.ne_blk hi (blk_below (g := gb515) (o := .cells #[.int .i64 0, .int .i64 0, .int .i64 0] 27 (0, 0)) (by (with_reducible repeat (first | refine kDN ?_ _ | refine kD ?_ | refine kA ?_ _)); exact BK515.out) hb2) (by decide)); have n4_ := aK (Ne.symm (IsS146.ne_blk hi (blk_below (g := gb515) (o := .cells #[.int .i64 0, .int .i64 0, .int .i64 0] 27 (0, 0)) (by (with_reducible repeat (first | refine kDN ?_ _ | refine kD ?_ | refine kA ?_ _)); exact BK515.out) hb2) (by decide))); clear BK515; clear HB; have BK515 := n0_; have HB := n1_; have HI519 := n2_; have NB519_515 := n3_; have NB515_519 := n4_; clear n0_ n1_ n2_ n3_ n4_; (try clear hb); (try clear hb2); (try clear hk); (try clear hi)) | ((with_reducible refine gate_callee (f := 71) rfl ?_); refine goesL_ (some 11) rfl rfl Try.func71 (by kernel_rfl) rfl #[.pointer (some ⟨g519, 0, none⟩)] rfl (by (try simp only [List.map_toArray, List.map_cons, List.map_nil]); first | done | rfl | (simp only [List.length_drop, List.length_take]; rfl)) ?_; (with_reducible refine (spec_l12Maze.calls k g519 t516 t517 t518 t520 t521 t522 t523 t524 w _ ?side1 ?side2 A3.out).mono ?_); (case side1 => repeat (first | (with_reducible first | exact HI519.out | apply IsS146.alloc | apply IsS146.drewN | apply IsS146.drew | apply IsS146.set_1 | apply IsS146.set_2 | refine IsS146.far ?_ NB519_515.out _) | exact HI519.out)); (case side2 => repeat (first | (with_reducible first | exact HB.out | apply bAl | apply bDN | apply bD1 | refine bSt ?_ (IsS146.ge HI519.out) | refine bSt ?_ GE515.out) | exact HB.out)); rintro e w9 ⟨rfl, hi, hb, hk⟩; refine ⟨_, rfl, ?_⟩; have n0_ := aK (KeepBut.blk hk (g' := gb515) (o := .cells #[.int .i64 0, .int .i64 0, .int .i64 0] 27 (0, 0)) (by (with_reducible repeat (first | refine kDN ?_ _ | refine kD ?_ | refine kA ?_ _)); exact BK515.out) NB515_519.out (by simp)); have n1_ := aK (hb); have n2_ := aK (hi); clear BK515; clear HB; clear HI519; have BK515 := n0_; have HB := n1_; have HI519 := n2_; clear n0_ n1_ n2_; (try clear hb); (try clear hb2); (try clear hk); (try clear hi)) | ((with_reducible refine gate_dst (N := 6) rfl ?_); refine box_event ?hg (N := 6) ?hd (cs := #[.int .i64 0, .int .i64 0, .int .i64 0]) (t := 27) ?hr ?_; (case hd => rfl); (case hg => rfl); (case hr => first | (go_simp; done) | (go_simp; rfl)); intro gb525 hg w10 hbox hb; have n0_ := bkb BK515 hb (by intro z_; (with_reducible repeat (first | refine kDN ?_ _ | refine kD ?_ | refine kA ?_ _)); exact z_); have n1_ := aK (IsS146.below (by repeat (first | (with_reducible first | exact HI519.out | apply IsS146.alloc | apply IsS146.drewN | apply IsS146.drew | apply IsS146.set_1 | apply IsS146.set_2 | refine IsS146.far ?_ NB519_515.out _) | exact HI519.out)) hb); have n2_ := aK (bSp (by repeat (first | (with_reducible first | exact HB.out | apply bAl | apply bDN | apply bD1 | refine bSt ?_ (IsS146.ge HI519.out) | refine bSt ?_ GE515.out) | exact HB.out)) hb); have n3_ := aK (hbox); have n4_ := aK ((by rw [hg]; exact (bSz (by repeat (first | (with_reducible first | exact HB.out | apply bAl | apply bDN | apply bD1 | refine bSt ?_ (IsS146.ge HI519.out) | refine bSt ?_ GE515.out) | exact HB.out))) : w.heap.size ≤ gb525)); have n5_ := n4_; have n6_ := nbl BK515 hg (by intro z_; (with_reducible repeat (first | refine kDN ?_ _ | refine kD ?_ | refine kA ?_ _)); exact z_); have n7_ := nbs n6_; have n8_ := aK ((by rw [hg]; exact Nat.ne_of_lt (IsS146.lt (show IsS146 w _ g519 t516 t523 t524 from by repeat (first | (with_reducible first | exact HI519.out | apply IsS146.alloc | apply IsS146.drewN | apply IsS146.drew | apply IsS146.set_1 | apply IsS146.set_2 | refine IsS146.far ?_ NB519_515.out _) | exact HI519.out))) : g519 ≠ gb525)); have n9_ := aK ((by rw [hg]; exact Nat.ne_of_gt (IsS146.lt (show IsS146 w _ g519 t516 t523 t524 from by repeat (first | (with_reducible first | exact HI519.out | apply IsS146.alloc | apply IsS146.drewN | apply IsS146.drew | apply IsS146.set_1 | apply IsS146.set_2 | refine IsS146.far ?_ NB519_515.out _) | exact HI519.out))) : gb525 ≠ g519)); clear BK515; clear HI519; clear HB; have BK515 := n0_; have HI519 := n1_; have HB := n2_; have BK525 := n3_; have GW525 := n4_; have GE525 := n5_; have NB515_525 := n6_; have NB525_515 := n7_; have NB519_525 := n8_; have NB525_519 := n9_; clear n0_ n1_ n2_ n3_ n4_ n5_ n6_ n7_ n8_ n9_; clear hb hbox hg; have hnb11 := NB525_515.out; have hnc11 := NB515_525.out; have hnb12 := NB525_519.out; have hnc12 := NB519_525.out; obtain ⟨hcz13_0, hcz13_1, hcz13_2, hfz13_0, hfz13_1, hfz13_2⟩ := cl3 BK525.out) | ((with_reducible refine gate_callee (f := 30) rfl ?_); refine goesL_ (some 15) rfl rfl Try.func30 (by kernel_rfl) rfl #[.agg #[.int .i64 t520, .int .i64 t521]] rfl (by (try simp only [List.map_toArray, List.map_cons, List.map_nil]); first | done | rfl | (simp only [List.length_drop, List.length_take]; rfl)) ?_; (with_reducible refine (spec_CountCells.calls t520 t521 t526 _ A4.out).mono ?_); rintro e w14 ⟨rfl, hb⟩; refine ⟨_, rfl, ?_⟩; have n0_ := bkb BK515 hb (by intro z_; (with_reducible repeat (first | refine kDN ?_ _ | refine kD ?_ | refine kA ?_ _)); refine blk_far ?_ NB515_525.out _; (with_reducible repeat (first | refine kDN ?_ _ | refine kD ?_ | refine kA ?_ _)); refine blk_far ?_ NB515_525.out _; (with_reducible repeat (first | refine kDN ?_ _ | refine kD ?_ | refine kA ?_ _)); refine blk_far ?_ NB515_525.out _; (with_reducible repeat (first | refine kDN ?_ _ | refine kD ?_ | refine kA ?_ _)); exact z_); have n1_ := aK (IsS146.below (show IsS146 w (((w10.setCell ⟨gb525, 0, none⟩ (.int .i64 t520)).setCell ⟨gb525, 1, none⟩ (.int .i64 t521)).setCell ⟨gb525, 2, none⟩ (.int .i64 t522)) g519 t516 t523 t524 from by repeat (first | (with_reducible first | exact HI519.out | apply IsS146.alloc | apply IsS146.drewN | apply IsS146.drew | apply IsS146.set_1 | apply IsS146.set_2 | refine IsS146.far ?_ NB519_515.out _ | refine IsS146.far ?_ NB519_525.out _) | exact HI519.out)) hb); have n2_ := aK (blk_below (g := gb525) (o := .cells #[.int .i64 t520, .int .i64 t521, .int .i64 t522] 27 (0, 0)) (by (with_reducible repeat (first | refine kDN ?_ _ | refine kD ?_ | refine kA ?_ _)); refine blk_put (cs := #[.int .i64 t520, .int .i64 t521, .int .i64 0]) ?_ 2 _ rfl; (with_reducible repeat (first | refine kDN ?_ _ | refine kD ?_ | refine kA ?_ _)); refine blk_put (cs := #[.int .i64 t520, .int .i64 0, .int .i64 0]) ?_ 1 _ rfl; (with_reducible repeat (first | refine kDN ?_ _ | refine kD ?_ | refine kA ?_ _)); refine blk_put (cs := #[.int .i64 0, .int .i64 0, .int .i64 0]) ?_ 0 _ rfl; (with_reducible repeat (first | refine kDN ?_ _ | refine kD ?_ | refine kA ?_ _)); exact BK525.out) hb); have n3_ := aK (bSp (by repeat (first | (with_reducible first | exact HB.out | apply bAl | apply bDN | apply bD1 | refine bSt ?_ (IsS146.ge HI519.out) | refine bSt ?_ GE515.out | refine bSt ?_ GE525.out) | exact HB.out)) hb); clear BK515; clear HI519; clear BK525; clear HB; have BK515 := n0_; have HI519 := n1_; have BK525 := n2_; have HB := n3_; clear n0_ n1_ n2_ n3_; (try clear hb); (try clear hb2); (try clear hk); (try clear hi)) | ((with_reducible refine gate_callee (f := 72) rfl ?_); refine goesL_ (some 16) rfl rfl Try.func72 (by kernel_rfl) rfl #[.pointer (some ⟨g519, 0, none⟩), .int .i64 t526] rfl (by (try simp only [List.map_toArray, List.map_cons, List.map_nil]); first | done | rfl | (simp only [List.length_drop, List.length_take]; rfl)) ?_; (with_reducible refine (spec_l01Below.calls g519 t516 t523 t524 t526 t527 t528 t529 w _ ?side1 ?side2 A5.out).mono ?_); (case side1 => repeat (first | (with_reducible first | exact HI519.out | apply IsS146.alloc | apply IsS146.drewN | apply IsS146.drew | apply IsS146.set_1 | apply IsS146.set_2 | refine IsS146.far ?_ NB519_515.out _ | refine IsS146.far ?_ NB519_525.out _) | exact HI519.out)); (case side2 => repeat (first | (with_reducible first | exact HB.out | apply bAl | apply bDN | apply bD1 | refine bSt ?_ (IsS146.ge HI519.out) | refine bSt ?_ GE515.out | refine bSt ?_ GE525.out) | exact HB.out)); rintro e w15 ⟨rfl, hi, hb, hk⟩; refine ⟨_, rfl, ?_⟩; have n0_ := aK (KeepBut.blk hk (g' := gb515) (o := .cells #[.int .i64 0, .int .i64 0, .int .i64 0] 27 (0, 0)) (by (with_reducible repeat (first | refine kDN ?_ _ | refine kD ?_ | refine kA ?_ _)); exact BK515.out) NB515_519.out (by simp)); have n1_ := aK (KeepBut.blk hk (g' := gb525) (o := .cells #[.int .i64 t520, .int .i64 t521, .int .i64 t522] 27 (0, 0)) (by (with_reducible repeat (first | refine kDN ?_ _ | refine kD ?_ | refine kA ?_ _)); exact BK525.out) NB525_519.out (by simp)); have n2_ := aK (hb); have n3_ := aK (hi); clear BK515; clear BK525; clear HB; clear HI519; have BK515 := n0_; have BK525 := n1_; have HB := n2_; have HI519 := n3_; clear n0_ n1_ n2_ n3_; (try clear hb); (try clear hb2); (try clear hk); (try clear hi)))
 have n0_ := aK (kD BK515.out)
 have n1_ := aK (kD BK525.out)
 have n2_ := aK (IsS146.drew HI519.out)
 have n3_ := aK (bD1 HB.out)
 clear BK515
 clear BK525
 clear HI519
 clear HB
 have BK515 := n0_
 have BK525 := n1_
 have HI519 := n2_
 have HB := n3_
 clear n0_ n1_ n2_ n3_
 refine start_ (n := 9) (S := fun w' => w'.cell? ⟨gb525, 0, none⟩ = some (.int .i64 t520) ∧ w'.cell? ⟨gb525, 1, none⟩ = some (.int .i64 t521) ∧ w'.cell? ⟨gb525, 2, none⟩ = some (.int .i64 t522)) (ds := []) #[bN,bN,bN,bN,bN,bN,bN,bN,bN] (by kernel_rfl) rfl rfl ⟨(kC BK525.out 0).trans rfl, (kC BK525.out 1).trans rfl, (kC BK525.out 2).trans rfl⟩ (fun hHeld => ?_); refine with_tabW spec_DrawSigns.tab4 spec_DrawSigns.bits4 (fun HT_ HW_ => ?_)
 generalize w15.drew = w16 at BK515 BK525 HI519 HB hHeld ⊢
 refine pure_ (i := 1) (N := some 18) (v := ?_) (a' := ?_) #[bN,bY,bN,bN,bN,bN,bN,bN,bN] rfl rfl (any_of HT_.out (by kernel_rfl)) (fun _ _ _ h => h) (Or.inl ⟨by rfl, ?_⟩) ?_ ?_
 rotate_left
 ·intro w'
  go_simp
  with_reducible rfl
 rotate_left
 ·simp only [Act.put, sTA, sZ, sS, i64_w, i32_w]
  rfl
 refine pure_ (i := 3) (N := some 20) (v := ?_) (a' := ?_) #[bN,bY,bN,bY,bN,bN,bN,bN,bN] rfl rfl (any_of HT_.out (by kernel_rfl)) (fun _ _ _ h => h) (Or.inl ⟨by rfl, ?_⟩) ?_ ?_
 rotate_left
 ·intro w'
  go_simp
  with_reducible rfl
 rotate_left
 ·simp only [Act.put, sTA, sZ, sS, i64_w, i32_w]
  rfl
 refine pure_ (i := 5) (N := some 22) (v := ?_) (a' := ?_) #[bN,bY,bN,bY,bN,bY,bN,bN,bN] rfl rfl (any_of HT_.out (by kernel_rfl)) (fun _ _ _ h => h) (Or.inl ⟨by rfl, ?_⟩) ?_ ?_
 rotate_left
 ·intro w'
  go_simp
  with_reducible rfl
 rotate_left
 ·simp only [Act.put, sTA, sZ, sS, i64_w, i32_w]
  rfl
 refine take_ (i := 0) (N := some 17) (v := ?_) (a' := ?_) #[bY,bY,bN,bY,bN,bY,bN,bN,bN] rfl rfl (take_ofW HT_.out HW_.out (by kernel_rfl)) (fun _ _ _ h => h) (Or.inl ⟨by rfl, ?_⟩) hHeld ?_ ?_
 rotate_left
 ·rintro w' ⟨s0, s1, s2⟩
  go_simp
  with_reducible rfl
 rotate_left
 ·simp only [Act.put, sTA, sZ, sS, i64_w, i32_w]
  rfl
 refine take_ (i := 2) (N := some 19) (v := ?_) (a' := ?_) #[bY,bY,bY,bY,bN,bY,bN,bN,bN] rfl rfl (take_ofW HT_.out HW_.out (by kernel_rfl)) (fun _ _ _ h => h) (Or.inl ⟨by rfl, ?_⟩) hHeld ?_ ?_
 rotate_left
 ·rintro w' ⟨s0, s1, s2⟩
  go_simp
  with_reducible rfl
 rotate_left
 ·simp only [Act.put, sTA, sZ, sS, i64_w, i32_w]
  rfl
 refine one_ (i := 4) (N := some 21) #[bY,bY,bY,bY,bY,bY,bN,bN,bN] rfl rfl (one_of HT_.out (by kernel_rfl)) (by decide) (fun K hK => ?_)
 refine goes_ Try.func73 (by kernel_rfl) rfl #[.pointer (some ⟨g519, 0, none⟩), .agg #[.int .i64 t520, .int .i64 t521, .int .i64 t522], .int .i64 t527] (by rfl) rfl rfl (by (try simp only [List.map_toArray, List.map_cons, List.map_nil]); first | done | rfl | (simp only [List.length_drop, List.length_take]; rfl)) ?_
 with_reducible refine (spec_l32List.calls k g519 t516 t528 t529 t520 t521 t522 t527 t530 t533 t534 w _ ?side1 ?side2 A6.out).mono ?_
 (case side1 => repeat (first | (with_reducible first | exact HI519.out | apply IsS146.alloc | apply IsS146.drewN | apply IsS146.drew | apply IsS146.set_1 | apply IsS146.set_2 | refine IsS146.far ?_ NB519_515.out _ | refine IsS146.far ?_ NB519_525.out _) | exact HI519.out))
 (case side2 => repeat (first | (with_reducible first | exact HB.out | apply bAl | apply bDN | apply bD1 | refine bSt ?_ (IsS146.ge HI519.out) | refine bSt ?_ GE515.out | refine bSt ?_ GE525.out) | exact HB.out))
 rintro e w17 ⟨v531, rfl, ho0, hi, hb, hk⟩
 refine ⟨_, rfl, ?_⟩
 have n0_ := aK (KeepBut.blk hk (g' := gb515) (o := .cells #[.int .i64 0, .int .i64 0, .int .i64 0] 27 (0, 0)) (by (with_reducible repeat (first | refine kDN ?_ _ | refine kD ?_ | refine kA ?_ _)); exact BK515.out) NB515_519.out (by simp))
 have n1_ := aK (KeepBut.blk hk (g' := gb525) (o := .cells #[.int .i64 t520, .int .i64 t521, .int .i64 t522] 27 (0, 0)) (by (with_reducible repeat (first | refine kDN ?_ _ | refine kD ?_ | refine kA ?_ _)); exact BK525.out) NB525_519.out (by simp))
 have n2_ := aK (Kd.R_lower ho0 (bSz (by repeat (first | (with_reducible first | exact HB.out | apply bAl | apply bDN | apply bD1 | refine bSt ?_ (IsS146.ge HI519.out) | refine bSt ?_ GE515.out | refine bSt ?_ GE525.out) | exact HB.out))))
 have n3_ := aK (hb)
 have n4_ := aK (hi)
 clear BK515
 clear BK525
 clear HB
 clear HI519
 have BK515 := n0_
 have BK525 := n1_
 have HO532 := n2_
 have HB := n3_
 have HI519 := n4_
 clear n0_ n1_ n2_ n3_ n4_
 (try clear hb)
 (try clear hb2)
 (try clear hk)
 (try clear hi)
 (try clear ho0)
 refine hK.out _ _ ⟨(kC BK525.out 0).trans rfl, (kC BK525.out 1).trans rfl, (kC BK525.out 2).trans rfl⟩ (fun hHeld => ?_)
 clear hK K
 refine norm_ (a' := ?_) ?_ ?_
 rotate_left
 ·show Act.put _ (some 21) _ = _
  simp only [Act.put, sTA, sZ, sS, i64_w, i32_w]
  rfl
 refine one_ (i := 6) (N := none) #[bY,bY,bY,bY,bY,bY,bY,bN,bN] rfl rfl (one_of HT_.out (by kernel_rfl)) (by decide) (fun K hK => ?_)
 have hs18 : w17.cell? ⟨gb515, 0, none⟩ = some (.int .i64 0) := (kC BK515.out 0).trans rfl
 have hfs18 := kF BK515.out 0
 have hns18_1 := NB525_515.out
 have hms18_1 := NB515_525.out
 have hs19 : w17.cell? ⟨gb515, 1, none⟩ = some (.int .i64 0) := (kC BK515.out 1).trans rfl
 have hfs19 := kF BK515.out 1
 have hns19_1 := NB525_515.out
 have hms19_1 := NB515_525.out
 have hs20 : w17.cell? ⟨gb515, 2, none⟩ = some (.int .i64 0) := (kC BK515.out 2).trans rfl
 have hfs20 := kF BK515.out 2
 have hns20_1 := NB525_515.out
 have hms20_1 := NB515_525.out
 refine skip_ (w1 := ?_) (by rfl) rfl ?_ ?_
 rotate_left
 ·go_simp
  rfl
 refine hK.out _ _ ⟨((cell_far (p := ⟨gb515, _, none⟩) NB525_515.out _).trans (((cell_far (p := ⟨gb515, _, none⟩) NB525_515.out _).trans (((cell_far (p := ⟨gb515, _, none⟩) NB525_515.out _).trans (hHeld.1)))))), ((cell_far (p := ⟨gb515, _, none⟩) NB525_515.out _).trans (((cell_far (p := ⟨gb515, _, none⟩) NB525_515.out _).trans (((cell_far (p := ⟨gb515, _, none⟩) NB525_515.out _).trans (hHeld.2.1)))))), ((cell_far (p := ⟨gb515, _, none⟩) NB525_515.out _).trans (((cell_far (p := ⟨gb515, _, none⟩) NB525_515.out _).trans (((cell_far (p := ⟨gb515, _, none⟩) NB525_515.out _).trans (hHeld.2.2))))))⟩ (fun hHeld => ?_)
 clear hK K
 refine pure_ (i := 7) (N := some 3) (v := ?_) (a' := ?_) #[bY,bY,bY,bY,bY,bY,bY,bY,bN] rfl rfl (any_of HT_.out (by kernel_rfl)) (fun _ _ _ h => h) (Or.inl ⟨by rfl, ?_⟩) ?_ ?_
 rotate_left
 ·intro w'
  go_simp
  with_reducible rfl
 rotate_left
 ·simp only [Act.put, sTA, sZ, sS, i64_w, i32_w]
  rfl
 refine pure_ (i := 8) (N := some 4) (v := ?_) (a' := ?_) #[bY,bY,bY,bY,bY,bY,bY,bY,bY] rfl rfl (any_of HT_.out (by kernel_rfl)) (fun _ _ _ h => h) (Or.inl ⟨by rfl, ?_⟩) ?_ ?_
 rotate_left
 ·intro w'
  go_simp
  with_reducible rfl
 rotate_left
 ·simp only [Act.put, sTA, sZ, sS, i64_w, i32_w]
  rfl
 refine done_ (done_of HT_.out (by kernel_rfl)) ?_
 try go_wp2
 refine bodyPost_ret (results_ctt rfl _ _ gb515 27 #[.int .i64 t520, .int .i64 t521, .int .i64 t522] (0, 0) _ rfl (by (with_reducible repeat (first | refine kDN ?_ _ | refine kD ?_ | refine kA ?_ _)); refine blk_put (cs := #[.int .i64 t520, .int .i64 t521, .int .i64 0]) ?_ 2 _ rfl; (with_reducible repeat (first | refine kDN ?_ _ | refine kD ?_ | refine kA ?_ _)); refine blk_put (cs := #[.int .i64 t520, .int .i64 0, .int .i64 0]) ?_ 1 _ rfl; (with_reducible repeat (first | refine kDN ?_ _ | refine kD ?_ | refine kA ?_ _)); refine blk_put (cs := #[.int .i64 0, .int .i64 0, .int .i64 0]) ?_ 0 _ rfl; (with_reducible repeat (first | refine kDN ?_ _ | refine kD ?_ | refine kA ?_ _)); exact BK515.out) Try.underlying27 rfl (by kernel_rfl)) rfl ?_
 exact ⟨_, by first | rfl | (simp [errW_none, errW_some] <;> rfl) | (simp [*, errW_none, errW_some] <;> rfl), by (with_reducible repeat (first | apply Kd.R_alloc | apply Kd.R_drewN | apply Kd.R_drew)); exact Kd.R_mono (Kd.R_far (p := ⟨gb515, 2, none⟩) (Kd.R_far (p := ⟨gb515, 1, none⟩) (Kd.R_far (p := ⟨gb515, 0, none⟩) (Kd.R_types HO532.out BK515.out (by decide)) (fun _ hk => hk.2) (.int .i64 t520)) (fun _ hk => hk.2) (.int .i64 t521)) (fun _ hk => hk.2) (.int .i64 t522)) (fun _ hk => trivial), by repeat (first | (with_reducible first | exact HB.out | apply bAl | apply bDN | apply bD1 | refine bSt ?_ (IsS146.ge HI519.out) | refine bSt ?_ GE515.out | refine bSt ?_ GE525.out) | exact HB.out)⟩
set_option maxRecDepth 20000 in set_option maxHeartbeats 4000000 in open Nat renaming reduceAdd → p1, reduceSub → p2, reduceMul → p3, reduceDiv → p4, reduceBNe → p5, reduceBEq → p6, reduceEqDiff → p7, reduceLeDiff → p8, reduceLT → p9 in open Int renaming reduceLE → p10, reduceLT → p11, reduceEq → p12 in
theorem impl_SignOk.ctr {k : Nat} {a0_0 : Int} {a0_1 : Int} {a0_2 : Int} {a1_0 : Int} {a1_1 : Int} {r : Bool} (h : impl_SignOk.f k a0_0 a0_1 a0_2 a1_0 a1_1 = some r) : Ctr Try.prog 24 [.ag [.v (.int .i64 a0_0), .v (.int .i64 a0_1), .v (.int .i64 a0_2)], .ag [.v (.int .i64 a1_0), .v (.int .i64 a1_1)]] (.v (.bool r)) := by
  refine Ctr_of tyOk hm Try.func24 rfl rfl (by kernel_rfl) (n := 17) (rv := [.tmp 4]) rfl rfl ?_
  simp only [W, List.replicate]
  unfold impl_SignOk.f at h
  replace h := bnd h; obtain ⟨t1, A, h⟩ := h
  try simp only [W, p1, p2, p3, p4, p5, p6, p7, p8, p9, p10, p11]
  refine callR (impl_isIn.ctr A) ?_
  replace h := ifT h; rcases h with ⟨rfl, h⟩ | ⟨rfl, h⟩
  · replace h := bnd h; obtain ⟨t3, A, h⟩ := h
    try simp only [W, p1, p2, p3, p4, p5, p6, p7, p8, p9, p10, p11]
    refine callR (impl_Step.ctr A) ?_
    cases h
    try simp only [W, p1, p2, p3, p4, p5, p6, p7, p8, p9, p10, p11]
  · cases h
    try simp only [W, p1, p2, p3, p4, p5, p6, p7, p8, p9, p10, p11]
theorem impl_SignOk.calls (k : Nat) (a0_0 : Int) (a0_1 : Int) (a0_2 : Int) (a1_0 : Int) (a1_1 : Int) (r : Bool) (w : World) (h : impl_SignOk.f k a0_0 a0_1 a0_2 a1_0 a1_1 = some r) :
    Calls Try.prog 24 #[.agg #[.int .i64 a0_0, .int .i64 a0_1, .int .i64 a0_2], .agg #[.int .i64 a1_0, .int .i64 a1_1]] w fun e w' => e = .returned (.bool r) ∧ Below w.heap.size w w' := by
  refine ((impl_SignOk.ctr h).2 w [.agg #[.int .i64 a0_0, .int .i64 a0_1, .int .i64 a0_2], .agg #[.int .i64 a1_0, .int .i64 a1_1]] (by simp only [RepL, Rep]; exact ⟨_, _, rfl, ⟨_, rfl, _, _, rfl, rfl, _, _, rfl, rfl, _, _, rfl, rfl, rfl⟩, _, _, rfl, ⟨_, rfl, _, _, rfl, rfl, _, _, rfl, rfl, rfl⟩, rfl⟩)).mono ?_
  rintro _ _ ⟨y, L, rfl, hR, _, hb⟩
  exact ⟨congrArg Ending.returned (RepR_pln rfl hR).1, hb⟩
set_option maxRecDepth 20000 in set_option maxHeartbeats 4000000 in open Nat renaming reduceAdd → p1, reduceSub → p2, reduceMul → p3, reduceDiv → p4, reduceBNe → p5, reduceBEq → p6, reduceEqDiff → p7, reduceLeDiff → p8, reduceLT → p9 in open Int renaming reduceLE → p10, reduceLT → p11, reduceEq → p12 in
theorem impl_IsTrue.ctr {k : Nat} {a0_0 : Int} {a0_1 : Int} {a0_2 : Int} {a1_0 : Int} {a1_1 : Int} {a2 : Int} {r : Bool} (h : impl_IsTrue.f k a0_0 a0_1 a0_2 a1_0 a1_1 a2 = some r) : Ctr Try.prog 74 [.ag [.v (.int .i64 a0_0), .v (.int .i64 a0_1), .v (.int .i64 a0_2)], .ag [.v (.int .i64 a1_0), .v (.int .i64 a1_1)], .v (.int .i64 a2)] (.v (.bool r)) := by
  refine Ctr_of tyOk hm Try.func74 rfl rfl (by kernel_rfl) (n := 36) (rv := [.tmp 6]) rfl rfl ?_
  simp only [W, List.replicate]
  unfold impl_IsTrue.f at h
  replace h := bnd h; obtain ⟨t1, A, h⟩ := h
  try simp only [W, p1, p2, p3, p4, p5, p6, p7, p8, p9, p10, p11]
  refine callR (impl_SignOk.ctr A) ?_
  replace h := ifT h; rcases h with ⟨rfl, h⟩ | ⟨rfl, h⟩
  · replace h := bnd h; obtain ⟨t3, A, h⟩ := h
    try simp only [W, p1, p2, p3, p4, p5, p6, p7, p8, p9, p10, p11]
    refine callR (impl_isCell.ctr A) ?_
    replace h := ifT h; rcases h with ⟨rfl, h⟩ | ⟨rfl, h⟩
    · rcases k with _ | m5; · cases h
      rw [impl_IsTrue.j0] at h
      replace h := ifT h; rcases h with ⟨c6, h⟩ | ⟨c6, h⟩
      · cases h
        try simp only [W, c6, p1, p2, p3, p4, p5, p6, p7, p8, p9, p10, p11]
      · replace h := bnd h; obtain ⟨t7, A, h⟩ := h
        try simp only [W, c6, p1, p2, p3, p4, p5, p6, p7, p8, p9, p10, p11]
        refine callR (impl_Step.ctr A) ?_
        replace h := bnd h; obtain ⟨t8, A, h⟩ := h
        try simp only [W, c6, p1, p2, p3, p4, p5, p6, p7, p8, p9, p10, p11]
        refine callR (impl_DistanceOf.ctr A) ?_
        replace h := bnd h; obtain ⟨t9, A, h⟩ := h
        try simp only [W, c6, p1, p2, p3, p4, p5, p6, p7, p8, p9, p10, p11]
        refine callR (impl_DistanceOf.ctr A) ?_
        cases h
        try simp only [W, c6, p1, p2, p3, p4, p5, p6, p7, p8, p9, p10, p11]
    · rcases k with _ | m10; · cases h
      rw [impl_IsTrue.j0] at h
      rw [if_pos rfl] at h
      cases h
      try simp only [W, p1, p2, p3, p4, p5, p6, p7, p8, p9, p10, p11]
  · rcases k with _ | m12; · cases h
    rw [impl_IsTrue.j0] at h
    rw [if_pos rfl] at h
    cases h
    try simp only [W, p1, p2, p3, p4, p5, p6, p7, p8, p9, p10, p11]
set_option maxRecDepth 20000 in set_option maxHeartbeats 4000000 in open Nat renaming reduceAdd → p1, reduceSub → p2, reduceMul → p3, reduceDiv → p4, reduceBNe → p5, reduceBEq → p6, reduceEqDiff → p7, reduceLeDiff → p8, reduceLT → p9 in open Int renaming reduceLE → p10, reduceLT → p11, reduceEq → p12 in
theorem impl_CountLies.ctr {k : Nat} {a0_0 : Int} {a0_1 : Int} {a0_2 : Int} {l1 : List (SSign)} {a2 : Int} {r : Int} (h : impl_CountLies.f k a0_0 a0_1 a0_2 l1 a2 = some r) : Ctr Try.prog 21 [.ag [.v (.int .i64 a0_0), .v (.int .i64 a0_1), .v (.int .i64 a0_2)], .pr 2 (l1.map eSign), .v (.int .i64 a2)] (.v (.int .i64 r)) := by
  refine Ctr_of tyOk hm Try.func21 rfl rfl (by kernel_rfl) (n := 22) (rv := [.tmp 6]) rfl rfl ?_
  simp only [W, List.replicate]
  unfold impl_CountLies.f at h
  try simp only [W, p1, p2, p3, p4, p5, p6, p7, p8, p9, p10, p11]
  refine loopN (fun x : Int × Int × List (SSign) × Int × Int × Int × Int × Int => [.u, .u, .v (.int .i64 x.1), .bp 48 0, .u, .u, .u, .v (.int .i64 x.2.1), .u, .u, .pr 2 (List.map eSign x.2.2.1), .v (.int .i64 x.2.2.2.1), .v (.int .i64 x.2.2.2.2.1), .u, .u, .u, .u, .u, .u, .u, .u, .u, .u, .u, .u]) (fun x => [(48, .box 27 [.v (.int .i64 x.2.2.2.2.2.1), .v (.int .i64 x.2.2.2.2.2.2.1), .v (.int .i64 x.2.2.2.2.2.2.2)])]) (fun n x => impl_CountLies.l0 n x.1 x.2.1 x.2.2.1 x.2.2.2.1 x.2.2.2.2.1 x.2.2.2.2.2.1 x.2.2.2.2.2.2.1 x.2.2.2.2.2.2.2 = some r) (a2, 0, l1, (l1.length : Int), 0, a0_0, a0_1, a0_2) [] h (by simp only [W, p1, p2, p3, p4, p5, p6, p7, p8, p9, p10, p11] <;> trivial) (by simp only [W, p1, p2, p3, p4, p5, p6, p7, p8, p9, p10, p11] <;> trivial) rfl (fun _ h => by cases h) ?_
  intro n1 ⟨x1, x2, x3, x4, x5, x6, x7, x8⟩ _ h
  simp only [impl_CountLies.l0] at h
  replace h := ifS h; rcases h with ⟨c9, h⟩ | ⟨c9, h⟩
  · replace h := ifN h; obtain ⟨c10, h⟩ := h
    replace h := ifN h; obtain ⟨c11, h⟩ := h
    replace h := bnd h; obtain ⟨t12, A, h⟩ := h
    try simp only [W, c9, c10, c11, p1, p2, p3, p4, p5, p6, p7, p8, p9, p10, p11]
    refine callR (impl_IsTrue.ctr A) ?_
    replace h := ifT h; rcases h with ⟨rfl, h⟩ | ⟨rfl, h⟩
    · try simp only [W, c9, c10, c11, p1, p2, p3, p4, p5, p6, p7, p8, p9, p10, p11]
      exact nextN (x1, x2, x3, x4, (wrap64 (x5 + 1)), x6, x7, x8) [] n1 (by omega) h (by simp only [W, p1, p2, p3, p4, p5, p6, p7, p8, p9, p10, p11] <;> trivial) (by simp only [W, p1, p2, p3, p4, p5, p6, p7, p8, p9, p10, p11] <;> trivial) rfl
    · try simp only [W, c9, c10, c11, p1, p2, p3, p4, p5, p6, p7, p8, p9, p10, p11]
      exact nextN (x1, (wrap64 (x2 + 1)), x3, x4, (wrap64 (x5 + 1)), x6, x7, x8) [] n1 (by omega) h (by simp only [W, p1, p2, p3, p4, p5, p6, p7, p8, p9, p10, p11] <;> trivial) (by simp only [W, p1, p2, p3, p4, p5, p6, p7, p8, p9, p10, p11] <;> trivial) rfl
  · cases h
    try simp only [W, c9, p1, p2, p3, p4, p5, p6, p7, p8, p9, p10, p11]
theorem impl_CountLies.calls (k : Nat) (a0_0 : Int) (a0_1 : Int) (a0_2 : Int) (A1 : Option Addr) (c1 : Nat) (l1 : List (SSign)) (a2 : Int) (r : Int) (w : World) (hr1 : Kd.C k49 w A1 l1.length l1) (hc1 : l1.length ≤ c1) (h : impl_CountLies.f k a0_0 a0_1 a0_2 l1 a2 = some r) :
    Calls Try.prog 21 #[.agg #[.int .i64 a0_0, .int .i64 a0_1, .int .i64 a0_2], .slice A1 l1.length c1, .int .i64 a2] w fun e w' => e = .returned (.int .i64 r) ∧ Below w.heap.size w w' := by
  refine ((impl_CountLies.ctr h).2 w [.agg #[.int .i64 a0_0, .int .i64 a0_1, .int .i64 a0_2], .slice A1 l1.length c1, .int .i64 a2] (by simp only [RepL, Rep]; exact ⟨_, _, rfl, ⟨_, rfl, _, _, rfl, rfl, _, _, rfl, rfl, _, _, rfl, rfl, rfl⟩, _, _, rfl, at_of_C E_eSign hr1 hc1, _, _, rfl, rfl, rfl⟩)).mono ?_
  rintro _ _ ⟨y, L, rfl, hR, _, hb⟩
  exact ⟨congrArg Ending.returned (RepR_pln rfl hR).1, hb⟩
end Go.Proofs.Ytpeehicekddjhaa.F
end

section
namespace Go.Proofs.Ytpeehicekddjhaa.F
open Go.RowKit Go.Proofs.YtpeehicekddjhaaW.PrintWords Go.Proofs.YtpeehicekddjhaaW.PrintLast Go.Proofs.YtpeehicekddjhaaW.PrintMore
set_option linter.unusedVariables false
set_option linter.unusedSimpArgs false
attribute [local go_sem] max2_int min2_int max_two min_two
set_option maxRecDepth 20000 in set_option maxHeartbeats 4000000 in open Nat renaming reduceAdd → p1, reduceSub → p2, reduceMul → p3, reduceDiv → p4, reduceBNe → p5, reduceBEq → p6, reduceEqDiff → p7, reduceLeDiff → p8, reduceLT → p9 in open Int renaming reduceLE → p10, reduceLT → p11, reduceEq → p12 in
theorem impl_SignsTo.ctr {k : Nat} {a0_0 : Int} {a0_1 : Int} {a0_2 : Int} {a1 : Int} {r : List SSign} (h : impl_SignsTo.f k a0_0 a0_1 a0_2 a1 = some r) : Ctr Try.prog 22 [.ag [.v (.int .i64 a0_0), .v (.int .i64 a0_1), .v (.int .i64 a0_2)], .v (.int .i64 a1)] (.ow 49 2 (r.map eSign)) := by
  refine Ctr_of tyOk hm Try.func22 rfl rfl (by kernel_rfl) (n := 38) (rv := [.tmp 4]) rfl rfl ?_
  simp only [W, List.replicate]
  unfold impl_SignsTo.f at h
  replace h := bnd h; obtain ⟨t1, A, h⟩ := h
  try simp only [W, p1, p2, p3, p4, p5, p6, p7, p8, p9, p10, p11, p12]
  refine callR (impl_isIn.ctr A) ?_
  replace h := ifT h; rcases h with ⟨rfl, h⟩ | ⟨rfl, h⟩
  · try simp only [W, p1, p2, p3, p4, p5, p6, p7, p8, p9, p10, p11, p12]
    refine loopN (fun x : Int × List (SSign) × Int × Int × Int × Int => [.u, .v (.int .i64 x.1), .bp 32 0, .u, .u, .lo 80, .v (.int .i64 x.2.2.1), .u, .u, .u, .u, .u, .u, .u, .u, .u, .u, .u, .u, .u, .u, .u, .u, .u, .u, .u, .u, .u, .u, .u, .u, .u, .u, .u, .u, .u, .u, .u, .u, .u]) (fun x => [(32, .box 27 [.v (.int .i64 x.2.2.2.1), .v (.int .i64 x.2.2.2.2.1), .v (.int .i64 x.2.2.2.2.2)]), (80, .row 49 2 (List.map eSign x.2.1))]) (fun n x => impl_SignsTo.l0 n x.1 x.2.1 x.2.2.1 x.2.2.2.1 x.2.2.2.2.1 x.2.2.2.2.2 = some r) (a1, ([] : List (SSign)), 0, a0_0, a0_1, a0_2) [] h (by simp only [W, p1, p2, p3, p4, p5, p6, p7, p8, p9, p10, p11, p12] <;> trivial) (by simp only [W, p1, p2, p3, p4, p5, p6, p7, p8, p9, p10, p11, p12] <;> trivial) rfl (fun _ h => by cases h) ?_
    intro n1 ⟨x3, x4, x5, x6, x7, x8⟩ _ h
    simp only [impl_SignsTo.l0] at h
    replace h := bnd h; obtain ⟨t9, A, h⟩ := h
    try simp only [W, p1, p2, p3, p4, p5, p6, p7, p8, p9, p10, p11, p12]
    refine callR (impl_CountCells.ctr A) ?_
    replace h := ifS h; rcases h with ⟨c10, h⟩ | ⟨c10, h⟩
    · replace h := bnd h; obtain ⟨⟨t11_1, t11_2⟩, A, h⟩ := h
      dsimp only at h
      try simp only [W, c10, p1, p2, p3, p4, p5, p6, p7, p8, p9, p10, p11, p12]
      refine callR (impl_WayBetween.ctr A) ?_
      replace h := ifS h; rcases h with ⟨c12, h⟩ | ⟨c12, h⟩
      · replace h := ifN h; obtain ⟨c13, h⟩ := h
        replace h := ifN h; obtain ⟨c14, h⟩ := h
        try simp only [W, c10, c12, c13, c14, p1, p2, p3, p4, p5, p6, p7, p8, p9, p10, p11, p12]
        exact nextN (x3, (x4 ++ [(⟨x5, rd t11_1 0⟩ : SSign)]), (wrap64 (x5 + 1)), x6, x7, x8) [(80, 608)] n1 (by omega) h (by simp only [W, p1, p2, p3, p4, p5, p6, p7, p8, p9, p10, p11, p12] <;> trivial) (by simp only [W, p1, p2, p3, p4, p5, p6, p7, p8, p9, p10, p11, p12] <;> trivial) rfl
      · try simp only [W, c10, c12, p1, p2, p3, p4, p5, p6, p7, p8, p9, p10, p11, p12]
        exact nextN (x3, x4, (wrap64 (x5 + 1)), x6, x7, x8) [] n1 (by omega) h (by simp only [W, p1, p2, p3, p4, p5, p6, p7, p8, p9, p10, p11, p12] <;> trivial) (by simp only [W, p1, p2, p3, p4, p5, p6, p7, p8, p9, p10, p11, p12] <;> trivial) rfl
    · cases h
      try simp only [W, c10, p1, p2, p3, p4, p5, p6, p7, p8, p9, p10, p11, p12]
  · cases h
    try simp only [W, p1, p2, p3, p4, p5, p6, p7, p8, p9, p10, p11, p12]
theorem impl_SignsTo.calls (k : Nat) (a0_0 : Int) (a0_1 : Int) (a0_2 : Int) (a1 : Int) (r : List (SSign)) (w : World) (h : impl_SignsTo.f k a0_0 a0_1 a0_2 a1 = some r) :
    Calls Try.prog 22 #[.agg #[.int .i64 a0_0, .int .i64 a0_1, .int .i64 a0_2], .int .i64 a1] w fun e w' => ∃ v0_ : Value, e = .returned (v0_) ∧ Kd.R k49 49 w' w.heap.size (fun _ => True) v0_ r ∧ Below w.heap.size w w' := by
  refine ((impl_SignsTo.ctr h).2 w [.agg #[.int .i64 a0_0, .int .i64 a0_1, .int .i64 a0_2], .int .i64 a1] (by simp only [RepL, Rep]; exact ⟨_, _, rfl, ⟨_, rfl, _, _, rfl, rfl, _, _, rfl, rfl, _, _, rfl, rfl, rfl⟩, _, _, rfl, rfl, rfl⟩)).mono ?_
  rintro _ _ ⟨y, L, rfl, hR, _, hb⟩
  simp only [RepR] at hR
  exact ⟨y, rfl, R_of_row E_eSign hR.1, hb⟩
theorem rdT_nat49 (l : List SSign) (j : Nat) : rd_Sign l (j : Int) = l.getD j zSign := rfl
theorem rdT_mem49 {l : List SSign} {j : Nat} (h : j < l.length) : rd_Sign l (j : Int) ∈ l := by
  rw [rdT_nat49, List.getD_eq_getElem?_getD, List.getElem?_eq_getElem h]; exact List.getElem_mem h
set_option maxHeartbeats 2000000 in
theorem slices_IndexFunc_impl_Sign.calls (p : SSign → Bool) (g : Nat) (lb : Array Value) (eg : ∀ args w, (callFunc g args).run Try.prog w = .ok (.enter g args) w) (A0 : Option Addr) (c0 : Nat) (l0 : List SSign) (w : World) (hr0 : Kd.C k49 w A0 l0.length l0)
  (hp : ∀ (W : World) (x : SSign), x ∈ l0 → Below w.heap.size w W → Calls Try.prog g (#[.agg #[.int .i64 x.f0, .int .i64 x.f1]] ++ lb) W fun e w' => e = .returned (.bool (p x)) ∧ Below w.heap.size w w') :
  Calls Try.prog 81 #[.slice A0 l0.length c0, .func (.func g) #[] lb] w fun e w' => e = .returned (.int .i64 (idxF p l0)) ∧ Below w.heap.size w w' := by
 have hn : l0.length ≤ 9223372036854775807 := hr0.2.1
 have hu := Try.underlying49
 go_enter Try.func81, Try.ntmps81
 go_wp2
 go_loopg [5, 8] l0.length (fun gg _ s8 wr => ∃ kk : Nat, kk ≤ l0.length ∧ l0.length - kk ≤ gg ∧ s8 = .int .i64 kk ∧ Aside0 (Below w.heap.size w wr) ∧ Aside0 (∀ j, j < kk → p (rd_Sign l0 (j : Int)) = false))
 case atStart => exact ⟨0, Nat.zero_le _, by omega, rfl, ⟨Below.refl _ w⟩, ⟨fun j hj => absurd hj (Nat.not_lt_zero _)⟩⟩
 case round =>
  obtain ⟨kk, hkk, hg, rfl, BW, Av⟩ := hrel
  by_cases hlt : kk < l0.length
  ·have hltz : (kk : Int) < (l0.length : Int) := by omega
   have hz : (0 : Int) ≤ (kk : Int) := by omega
   obtain ⟨ad, rfl, hx0, hx1⟩ := at_T49 (Kd.C_below hr0 BW.out) (kk : Int) hz hltz
   rw [Int.toNat_natCast] at hx0 hx1
   have hmem : rd_Sign l0 (kk : Int) ∈ l0 := rdT_mem49 hlt
   have hcall := hp wr (rd_Sign l0 (kk : Int)) hmem BW.out
   have HM := aK hmem
   clear hmem hp
   generalize hy : rd_Sign l0 (kk : Int) = y at hx0 hx1 hcall
   have HY := aK hy
   clear hy
   cases hq : p y with
   | true =>
    rw [hq] at hcall
    have HQ := aK hq
    clear hq
    go_wp2_with (go_at_fn g; refine hcall.mono ?_; rintro e w' ⟨rfl, hb'⟩)
    go_ret
    refine ⟨?_, hb'⟩
    rw [idxF_hit p l0 kk hlt (by rw [rdT_nat49 l0 kk] at HY; rw [HY.out]; exact HQ.out) (fun j hj => by have := Av.out j hj; rwa [rdT_nat49 l0 j] at this)]
    all_goals rfl
   | false =>
    rw [hq] at hcall
    have HQ := aK hq
    clear hq
    go_wp2_with (go_at_fn g; refine hcall.mono ?_; rintro e w' ⟨rfl, hb'⟩)
    go_roundg (l0.length - (kk + 1))
    case measure => omega
    case rel =>
     refine ⟨kk + 1, by omega, by omega, by go_num, ⟨hb'⟩, ⟨fun j hj => ?_⟩⟩
     by_cases e : j = kk
     ·subst e
      rw [HY.out]; exact HQ.out
     ·exact Av.out j (by omega)
  ·have hltz : ¬ (kk : Int) < (l0.length : Int) := by omega
   have : kk = l0.length := by omega
   subst this
   go_wp2
   go_ret
   refine ⟨?_, BW.out⟩
   rw [idxF_miss p l0 (fun j hj => by have := Av.out j hj; rwa [rdT_nat49 l0 j] at this)]
   all_goals rfl
set_option maxHeartbeats 2000000 in
theorem slices_ContainsFunc_impl_Sign.calls (p : SSign → Bool) (g : Nat) (lb : Array Value) (eg : ∀ args w, (callFunc g args).run Try.prog w = .ok (.enter g args) w) (A0 : Option Addr) (c0 : Nat) (l0 : List SSign) (w : World) (hr0 : Kd.C k49 w A0 l0.length l0)
  (hp : ∀ (W : World) (x : SSign), x ∈ l0 → Below w.heap.size w W → Calls Try.prog g (#[.agg #[.int .i64 x.f0, .int .i64 x.f1]] ++ lb) W fun e w' => e = .returned (.bool (p x)) ∧ Below w.heap.size w w') :
  Calls Try.prog 152 #[.slice A0 l0.length c0, .func (.func g) #[] lb] w fun e w' => e = .returned (.bool (l0.any p)) ∧ Below w.heap.size w w' := by
 rw [show l0.any p = decide (0 ≤ idxF p l0) from (idxF_any p l0).symm]
 go_enter Try.func152, Try.ntmps152
 go_wp2_with (go_at_call 81; refine (slices_IndexFunc_impl_Sign.calls p g lb eg A0 c0 l0 _ hr0 hp).mono ?_; rintro e w' ⟨rfl, hb'⟩)
 go_ret
 exact ⟨rfl, hb'⟩
set_option maxHeartbeats 2000000 in
theorem impl_areSigns_1.calls (a b o : Int) (B : Nat) (W : World) (hB : W.heap[B]? = some (.cells #[.int .i64 a, .int .i64 b, .int .i64 o] 27 (0, 0))) (k : Nat) (x0 x1 : Int) (r : Bool) (h : impl_SignOk.f k a b o x0 x1 = some r) :
  Calls Try.prog 153 #[.agg #[.int .i64 x0, .int .i64 x1], .pointer (some ⟨B, 0, none⟩)] W fun e w' => e = .returned (.bool (!r)) ∧ Below W.heap.size W w' := by
 have hu := Try.underlying27
 have hus := Try.underlying49
 have h0 : W.cell? ⟨B, 0, none⟩ = some (.int .i64 a) := (kC hB 0).trans rfl
 have h1 : W.cell? ⟨B, 1, none⟩ = some (.int .i64 b) := (kC hB 1).trans rfl
 have h2 : W.cell? ⟨B, 2, none⟩ = some (.int .i64 o) := (kC hB 2).trans rfl
 have hlt : B < W.heap.size := by
  rw [Array.getElem?_eq_some_iff] at hB
  exact hB.1
 have hne : (W.heap.size = B) = False := eq_false (by omega)
 have hne2 : (B = W.heap.size) = False := eq_false (by omega)
 clear hB
 go_enter Try.func153, Try.ntmps153
 go_wp2_with (go_at_call 24; refine (impl_SignOk.calls k a b o x0 x1 r _ h).mono ?_; rintro e w' ⟨rfl, hb⟩)
 go_ret
 exact ⟨rfl, ((Below.refl _ W).alloc (Nat.le_refl _) _).trans (hb.mono (by simp))⟩
set_option maxHeartbeats 4000000 in
theorem impl_areSigns.calls (k : Nat) (a0_0 : Int) (a0_1 : Int) (a0_2 : Int) (A1 : Option Addr) (c1 : Nat) (l1 : List SSign) (r : Bool) (w : World) (hr1 : Kd.C k49 w A1 l1.length l1) (hc1 : l1.length ≤ c1) (h : impl_areSigns.f k a0_0 a0_1 a0_2 l1 = some r) :
  Calls Try.prog 80 #[.agg #[.int .i64 a0_0, .int .i64 a0_1, .int .i64 a0_2], .slice A1 l1.length c1] w fun e w' => e = .returned (.bool r) ∧ Below w.heap.size w w' := by
 have hu := Try.underlying27
 obtain ⟨hx, hv⟩ := allO_some h
 clear h
 have eg : ∀ args w, (callFunc 153 args).run Try.prog w = .ok (.enter 153 args) w := enters_of Try.func153 (by kernel_rfl) rfl
 have hcon := fun (W : World) (hb : Below (w.heap.size + 1) (w.alloc (.cells #[.int .i64 a0_0, .int .i64 a0_1, .int .i64 a0_2] 27)) W) =>
  slices_ContainsFunc_impl_Sign.calls (fun x => !((impl_SignOk.f k a0_0 a0_1 a0_2 x.f0 x.f1).getD false)) 153 #[.pointer (some ⟨w.heap.size, 0, none⟩)] eg A1 c1 l1 W (Kd.C_below hr1 (((Below.refl _ w).alloc (Nat.le_refl _) _).trans (hb.mono (by simp)))) (fun W' x hxm hb' => by
   have hW := hb.trans (hb'.mono (by have := hb.size; simpa using this))
   obtain ⟨v, hv'⟩ := hx x hxm
   have hB : W'.heap[w.heap.size]? = some (.cells #[.int .i64 a0_0, .int .i64 a0_1, .int .i64 a0_2] 27 (0, 0)) := (hW.block w.heap.size (by omega)).trans (heap_alloc_new w _)
   refine (impl_areSigns_1.calls a0_0 a0_1 a0_2 w.heap.size W' hB k x.f0 x.f1 v hv').mono ?_
   rintro e w' ⟨rfl, hb2⟩
   exact ⟨by rw [hv']; rfl, hb'.trans (hb2.mono hb'.size)⟩)
 clear hr1
 rw [hv]
 clear hv
 generalize hg : (l1.any fun x => !((impl_SignOk.f k a0_0 a0_1 a0_2 x.f0 x.f1).getD false)) = q at hcon ⊢
 clear hg hx eg
 go_enter Try.func80, Try.ntmps80
 go_wp2_with (go_at_call 152; refine (hcon _ (by first | exact Below.refl _ _ | simp)).mono ?_; rintro e w2 ⟨rfl, hb2⟩)
 go_ret
 exact ⟨rfl, ((Below.refl _ w).alloc (Nat.le_refl _) _).trans (hb2.mono (by simp))⟩
set_option maxHeartbeats 2000000 in
theorem impl_FollowSigns_1.calls (B : Nat) (c : Int) (W : World) (hB : W.heap[B]? = some (.cells #[.int .i64 c] 3 (0, 0))) (x0 x1 : Int) :
  Calls Try.prog 82 #[.agg #[.int .i64 x0, .int .i64 x1], .pointer (some ⟨B, 0, none⟩)] W fun e w' => e = .returned (.bool (decide (x0 = c))) ∧ Below W.heap.size W w' := by
 have hus := Try.underlying49
 have h0 : W.cell? ⟨B, 0, none⟩ = some (.int .i64 c) := (kC hB 0).trans rfl
 have hlt : B < W.heap.size := blk_lt hB
 have hne : (W.heap.size = B) = False := eq_false (by omega)
 have hne2 : (B = W.heap.size) = False := eq_false (by omega)
 clear hB
 go_enter Try.func82, Try.ntmps82
 go_wp2
 go_ret
 exact ⟨rfl, (Below.refl _ W).alloc (Nat.le_refl _) _⟩
set_option maxHeartbeats 8000000 in
set_option maxRecDepth 100000 in
theorem slices_Index_int.calls (k : Nat) (A0 : Option Addr) (c0 : Nat) (l0 : List Int) (a1 : Int) (r : Int) (w : World) (hr0 : Kd.C (Kd.int .i64) w A0 l0.length l0) (hc0 : l0.length ≤ c0) (h : slices_Index_int.f k l0 a1 = some r) :
  Calls Try.prog 154 #[.slice A0 l0.length c0, .int .i64 a1] w fun e w' => e = .returned (.int .i64 r) ∧ Drawn0 w w' := by
 have HR0 := aK hr0
 have HC0 := aK hc0
 clear hr0 hc0
 have H : (slices_Index_int.l0 k l0 a1 (l0.length : Int) 0) = some r := h
 clear h
 have H' := aK H
 clear H
 go_enter Try.func154, Try.ntmps154
 go_wp2
 go_loopg [8] k (fun kq v8 w' => ∃ (x8_1 : Int), v8 = .int .i64 x8_1 ∧ Aside0 (slices_Index_int.l0 kq l0 a1 (l0.length : Int) x8_1 = some r) ∧ Aside0 (kq ≤ k) ∧ Drawn0 w w')
 case atStart => exact ⟨(0), (by first | rfl | (simp; done) | (simp [*]; done)), H', ⟨Nat.le_refl _⟩, by repeat (first | exact Drawn0.refl _ | apply Drawn0.step)⟩
 case round =>
  clear H'
  try clear c1
  try clear p2
  obtain ⟨x8_1, rfl, HA, HK1, ⟨m1, rfl⟩⟩ := hrel
  cases gk with
  | zero => exact absurd HA.out (by simp [slices_Index_int.l0])
  | succ k1 =>
   have H := HA.out
   clear HA
   simp only [slices_Index_int.l0] at H
   by_cases c3 : x8_1 < (l0.length : Int)
   ·rw [if_pos c3] at H
    have c3b0 : decide (x8_1 < (l0.length : Int)) = true := decide_eq_true c3
    clear c3
    by_cases c4 : 0 ≤ x8_1
    ·rw [if_pos c4] at H
     have c4b0 : decide (0 ≤ x8_1) = true := decide_eq_true c4
     clear c4
     by_cases c5 : x8_1 < (l0.length : Int)
     ·rw [if_pos c5] at H
      have c5b0 : decide (x8_1 < (l0.length : Int)) = true := decide_eq_true c5
      clear c5
      by_cases c6 : a1 = (rd l0 x8_1)
      ·rw [if_pos c6] at H
       have c6b0 : (a1 == (rd l0 x8_1)) = true := beq_iff_eq.mpr c6
       have c6b1 : (a1 != (rd l0 x8_1)) = false := bne_eq_false_iff_eq.mpr c6
       clear c6
       obtain rfl := Option.some.inj H
       have p632 : 0 ≤ (x8_1 : Int) := of_decide_eq_true (by first | (with_reducible assumption) | assumption)
       have q632 : x8_1 < (l0.length : Int) := of_decide_eq_true (by first | (with_reducible assumption) | assumption)
       obtain ⟨ad632, e632, hx632_0⟩ := Kd.at_int HR0.out x8_1 p632 q632
       cases e632
       replace p632 := eq_true p632
       replace q632 := eq_true q632
       go_wp2
       go_ret
       exact ⟨by first | rfl | (simp; done) | (simp [*]; done), by repeat (first | exact Drawn0.refl _ | apply Drawn0.step)⟩
      ·rw [if_neg c6] at H
       have c6b0 : (a1 == (rd l0 x8_1)) = false := beq_eq_false_iff_ne.mpr c6
       have c6b1 : (a1 != (rd l0 x8_1)) = true := bne_iff_ne.mpr c6
       have H' := aK H
       clear H
       have p632 : 0 ≤ (x8_1 : Int) := of_decide_eq_true (by first | (with_reducible assumption) | assumption)
       have q632 : x8_1 < (l0.length : Int) := of_decide_eq_true (by first | (with_reducible assumption) | assumption)
       obtain ⟨ad632, e632, hx632_0⟩ := Kd.at_int HR0.out x8_1 p632 q632
       cases e632
       replace p632 := eq_true p632
       replace q632 := eq_true q632
       go_wp2
       go_roundg k1
       case measure => have := HK1.out; omega
       case rel => exact ⟨(wrap64 (x8_1 + 1)), (by first | rfl | (simp; done) | (simp [*]; done)), H', ⟨by have := HK1.out; omega⟩, by repeat (first | exact Drawn0.refl _ | apply Drawn0.step)⟩
     ·rw [if_neg c5] at H
      exact absurd H (by simp)
    ·rw [if_neg c4] at H
     exact absurd H (by simp)
   ·rw [if_neg c3] at H
    have c3b0 : decide (x8_1 < (l0.length : Int)) = false := decide_eq_false c3
    clear c3
    obtain rfl := Option.some.inj H
    go_wp2
    go_ret
    exact ⟨by first | rfl | (simp; done) | (simp [*]; done), by repeat (first | exact Drawn0.refl _ | apply Drawn0.step)⟩
set_option maxHeartbeats 8000000 in
set_option maxRecDepth 100000 in
theorem slices_Contains_int.calls (k : Nat) (A0 : Option Addr) (c0 : Nat) (l0 : List Int) (a1 : Int) (r : Bool) (w : World) (hr0 : Kd.C (Kd.int .i64) w A0 l0.length l0) (hc0 : l0.length ≤ c0) (h : slices_Contains_int.f k l0 a1 = some r) :
  Calls Try.prog 83 #[.slice A0 l0.length c0, .int .i64 a1] w fun e w' => e = .returned (.bool r) ∧ Drawn0 w w' := by
 have HR0 := aK hr0
 have HC0 := aK hc0
 clear hr0 hc0
 have H : ((slices_Index_int.f k l0 a1).bind fun t633 => (some (decide (t633 ≥ 0)))) = some r := h
 clear h
 replace H := Option.bind_eq_some_iff.mp H
 obtain ⟨t633, A30, H⟩ := H
 replace H : (some (decide (t633 ≥ 0))) = some r := H
 have A3 := aK A30
 clear A30
 obtain rfl := Option.some.inj H
 go_enter Try.func83, Try.ntmps83
 go_wp2_with (first | ((with_reducible refine gate_callee (f := 154) rfl ?_); refine goesL_ (some 7) rfl rfl Try.func154 (by kernel_rfl) rfl #[.slice A0 l0.length c0, .int .i64 a1] rfl (by (try simp only [List.map_toArray, List.map_cons, List.map_nil]); first | done | rfl | (simp only [List.length_drop, List.length_take]; rfl)) ?_; (with_reducible refine (slices_Index_int.calls k _ _ l0 a1 t633 _ ?side1 ?side2 A3.out).mono ?_); (case side1 => repeat (first | exact HR0.out | (with_reducible refine Kd.C_alloc ?_ _) | (with_reducible refine Kd.C_drewN ?_ _) | (with_reducible refine Kd.C_drew ?_))); (case side2 => exact HC0.out); rintro e w' ⟨rfl, ⟨nd, rfl⟩⟩; refine ⟨_, rfl, ?_⟩))
 go_ret
 exact ⟨by first | rfl | (simp; done) | (simp [*]; done), by repeat (first | exact Drawn0.refl _ | apply Drawn0.step)⟩
theorem idxF_lt {α : Type} (p : α → Bool) (l : List α) (h : ¬ idxF p l < 0) : idxF p l < l.length := by
  unfold idxF at h ⊢
  cases e : l.findIdx? p with
  | none => rw [e] at h; exact absurd (by decide) h
  | some i =>
    obtain ⟨hi, _⟩ := List.findIdx?_eq_some_iff_getElem.1 e
    simp only
    omega
set_option maxHeartbeats 4000000 in
set_option maxRecDepth 100000 in
theorem impl_FollowSigns.calls (a0_0 a0_1 a0_2 : Int) (A1 : Option Addr) (c1 : Nat) (l1 : List SSign) (a2 : Int) (r : List Int) (w : World) (hr1 : Kd.C k49 w A1 l1.length l1) (hc1 : l1.length ≤ c1) (h : impl_FollowSigns.f a0_0 a0_1 a0_2 l1 a2 = some r) :
  Calls Try.prog 26 #[.agg #[.int .i64 a0_0, .int .i64 a0_1, .int .i64 a0_2], .slice A1 l1.length c1, .int .i64 a2] w fun e w' => ∃ v0_ : Value, e = .returned (v0_) ∧ Kd.R (Kd.int .i64) 3 w' w.heap.size (fun _ => True) v0_ r ∧ Below w.heap.size w w' := by
 have hu := Try.underlying27
 have hus := Try.underlying49
 obtain ⟨b, hm, H⟩ := Option.bind_eq_some_iff.mp h
 clear h
 have HI := fun (W : World) (A : Addr) (hA : W.cell? A = some (.int .i64 a2)) => impl_isIn.calls a0_0 a0_1 a0_2 (some A) 1 [a2] b W (Kd.C_of_reads (d := (0 : Int)) (h1 := fun _ => rfl) ⟨rfl, by simp, fun _ => ⟨A, rfl, fun j hj => by
  obtain rfl : j = 0 := by simpa using hj
  rw [show A.add 0 = A from by unfold Addr.add; split <;> simp_all]
  exact hA⟩⟩) (Nat.le_refl 1) hm
 simp only [List.length_singleton] at HI
 have HR1 := aK hr1
 have HC1 := aK hc1
 clear hr1 hc1
 cases b with
 | false =>
  rw [if_neg Bool.false_ne_true] at H
  obtain rfl := Option.some.inj H
  go_enter Try.func26, Try.ntmps26
  go_wp2_with (go_at_call 75; refine (HI _ _ ?hA).mono ?_; (case hA => exact (kC (heap_new3 _ _ _ _) 0).trans rfl); rintro e w' ⟨rfl, hb⟩; have HB := aK hb; clear hb)
  go_ret
  exact ⟨_, rfl, Kd.R_nil _ _ _ _ _, ((((Below.refl _ w).alloc (Nat.le_refl _) _).alloc (by simp) _).alloc (by simp; omega) _).trans (HB.out.mono (by simp; omega))⟩
 | true =>
  rw [if_pos rfl] at H
  obtain ⟨c, hs, H2⟩ := Option.bind_eq_some_iff.mp H
  clear H
  have HS := fun (W : World) (hb : Below w.heap.size w W) => impl_areSigns.calls 1000 a0_0 a0_1 a0_2 A1 c1 l1 c W (Kd.C_below HR1.out hb) HC1.out hs
  cases c with
  | false =>
   rw [if_neg Bool.false_ne_true] at H2
   obtain rfl := Option.some.inj H2
   go_enter Try.func26, Try.ntmps26
   go_wp2_with (first | (go_at_call 75; refine (HI _ _ ?hA).mono ?_; (case hA => exact (kC (heap_new3 _ _ _ _) 0).trans rfl); rintro e w1 ⟨rfl, hb⟩; have HB1 := aK (((((Below.refl _ w).alloc (Nat.le_refl _) _).alloc (by simp) _).alloc (by simp; omega) _).trans (hb.mono (by simp; omega))); have c0 : w1.cell? ⟨w.heap.size, 0, none⟩ = some (.int .i64 a0_0) := (kC ((hb.block w.heap.size (by simp; omega)).trans (kA (kA (heap_alloc_new w _) _) _)) 0).trans rfl; have c1 : w1.cell? ⟨w.heap.size, 1, none⟩ = some (.int .i64 a0_1) := (kC ((hb.block w.heap.size (by simp; omega)).trans (kA (kA (heap_alloc_new w _) _) _)) 1).trans rfl; have c2 : w1.cell? ⟨w.heap.size, 2, none⟩ = some (.int .i64 a0_2) := (kC ((hb.block w.heap.size (by simp; omega)).trans (kA (kA (heap_alloc_new w _) _) _)) 2).trans rfl; clear hb) | (go_at_call 80; refine (HS _ HB1.out).mono ?_; rintro e w2 ⟨rfl, hb⟩; have HB2 := aK hb; clear hb))
   go_ret
   exact ⟨_, rfl, Kd.R_nil _ _ _ _ _, HB1.out.trans (HB2.out.mono HB1.out.size)⟩
  | true =>
   rw [if_pos rfl] at H2
   have H' := aK H2
   clear H2
   go_enter Try.func26, Try.ntmps26
   go_wp2_with (first | (go_at_call 75; refine (HI _ _ ?hA).mono ?_; (case hA => exact (kC (heap_new3 _ _ _ _) 0).trans rfl); rintro e w1 ⟨rfl, hb⟩; have HB1 := aK (((((Below.refl _ w).alloc (Nat.le_refl _) _).alloc (by simp) _).alloc (by simp; omega) _).trans (hb.mono (by simp; omega))); have BK0 := aK ((hb.block w.heap.size (by simp; omega)).trans (kA (kA (heap_alloc_new w _) _) _)); have BK1 := aK ((hb.block (w.heap.size + 1) (by simp)).trans (kA (heap_new2 w _ _) _)); have SZ1 := aK (show w.heap.size + 2 ≤ w1.heap.size by have := hb.size; simp at this; omega); have c0 : w1.cell? ⟨w.heap.size, 0, none⟩ = some (.int .i64 a0_0) := (kC BK0.out 0).trans rfl; have c1 : w1.cell? ⟨w.heap.size, 1, none⟩ = some (.int .i64 a0_1) := (kC BK0.out 1).trans rfl; have c2 : w1.cell? ⟨w.heap.size, 2, none⟩ = some (.int .i64 a0_2) := (kC BK0.out 2).trans rfl; clear hb) | (go_at_call 80; refine (HS _ HB1.out).mono ?_; rintro e w2 ⟨rfl, hb⟩; have HB2 := aK hb; clear hb; have d0 : w2.cell? ⟨w.heap.size + 1, 0, none⟩ = some (.int .i64 a2) := (kC ((HB2.out.block _ (by have := SZ1.out; omega)).trans BK1.out) 0).trans rfl))
   have OUT0 := aK (row_close (w := w2.alloc (Obj.cells #[.int .i64 a2] 3)) (base := w.heap.size + 2) (g := w2.heap.size) (cap := 1) (e := 3) (cur := [.int .i64 a2]) (xs := [a2]) (by have h1 := SZ1.out; have h2 := HB2.out.size; omega) (heap_alloc_new w2 _) (by simp) (by decide) rfl (fun j hj => by have hj' : j < 1 := hj; obtain rfl : j = 0 := (by omega); rfl))
   have HB3 := aK ((HB1.out.trans (HB2.out.mono HB1.out.size)).alloc (by have h1 := SZ1.out; have h2 := HB2.out.size; omega) (Obj.cells #[.int .i64 a2] 3))
   have K0 := aK (kA ((HB2.out.block _ (by have h1 := SZ1.out; omega)).trans BK0.out) (Obj.cells #[.int .i64 a2] 3))
   have K1 := aK (kA ((HB2.out.block _ (by have h1 := SZ1.out; omega)).trans BK1.out) (Obj.cells #[.int .i64 a2] 3))
   have SZ2 := aK (show w.heap.size + 2 ≤ (w2.alloc (Obj.cells #[.int .i64 a2] 3)).heap.size by have h1 := SZ1.out; have h2 := HB2.out.size; simp; omega)
   clear c0 c1 c2 d0 BK0 BK1 SZ1 HB1 HB2 hm HI hs HS
   go_loopg [7] 900 (fun kq v7 wr => ∃ (x7 : List Int) (cell : Int), Aside0 (impl_FollowSigns.l0 a0_0 a0_1 a0_2 l1 kq x7 cell = some r) ∧ Aside0 (kq ≤ 900) ∧ Aside0 (0 < x7.length) ∧ Aside0 (Kd.R (Kd.int .i64) 3 wr (w.heap.size + 2) (fun _ => True) v7 x7) ∧ Aside0 (wr.heap[w.heap.size]? = some (.cells #[.int .i64 a0_0, .int .i64 a0_1, .int .i64 a0_2] 27 (0, 0))) ∧ Aside0 (wr.heap[w.heap.size + 1]? = some (.cells #[.int .i64 cell] 3 (0, 0))) ∧ Aside0 (w.heap.size + 2 ≤ wr.heap.size) ∧ Aside0 (Below w.heap.size w wr))
   case atStart => exact ⟨[a2], a2, H', ⟨Nat.le_refl _⟩, ⟨by simp⟩, OUT0, K0, K1, SZ2, HB3⟩
   case round =>
    clear H' OUT0 K0 K1 HB3 SZ2
    obtain ⟨x7, cell, HA, HK, HL, HO, K0, K1, SZ, HB⟩ := hrel
    cases gk with
    | zero => exact absurd HA.out (by simp [impl_FollowSigns.l0])
    | succ k1 =>
     have H := HA.out
     clear HA
     simp only [impl_FollowSigns.l0] at H
     have eg : ∀ args w, (callFunc 82 args).run Try.prog w = .ok (.enter 82 args) w := enters_of Try.func82 (by kernel_rfl) rfl
     have HIDX := slices_IndexFunc_impl_Sign.calls (fun s => decide (s.f0 = cell)) 82 #[.pointer (some ⟨w.heap.size + 1, 0, none⟩)] eg A1 c1 l1 wr (Kd.C_below HR1.out HB.out) (fun W x _ hb => (impl_FollowSigns_1.calls (w.heap.size + 1) cell W ((hb.block _ (by have := SZ.out; omega)).trans K1.out) x.f0 x.f1).mono (by rintro e w' ⟨rfl, h2⟩; exact ⟨rfl, hb.trans (h2.mono hb.size)⟩))
     obtain ⟨ix, hix⟩ : ∃ ix, ix = idxF (fun s : SSign => decide (s.f0 = cell)) l1 := ⟨_, rfl⟩
     rw [← hix] at H HIDX
     have HIX := aK hix
     clear hix eg
     by_cases q1 : ix < 0
     ·rw [if_pos q1] at H
      obtain rfl := Option.some.inj H
      have q1b : decide (ix < 0) = true := decide_eq_true q1
      clear q1
      go_wp2_with (go_at_call 81; refine HIDX.mono ?_; rintro e w3 ⟨rfl, hb⟩; have HB3 := aK hb; clear hb)
      go_quiet (fail)
      go_wp2
      go_ret
      exact ⟨_, rfl, Kd.R_lower (Kd.R_below HO.out (bDN HB3.out _)) (by omega), HB.out.trans (Below.mono (bDN HB3.out _) HB.out.size)⟩
     ·rw [if_neg q1] at H
      have q1b : decide (ix < 0) = false := decide_eq_false q1
      have HQ1 := aK q1
      clear q1
      obtain ⟨b, hcon, H2⟩ := Option.bind_eq_some_iff.mp H
      clear H
      obtain ⟨g, cap, cur, rfl, hcap, hg0, hgh, hcl, hcm, hcx⟩ := row_open HO.out HL.out
      have HC0 := aK hcap; have HG0 := aK hg0; have HGH := aK hgh; have HCL := aK hcl; have HCM := aK hcm; have HCX := aK hcx
      clear hcap hg0 hgh hcl hcm hcx
      have tl : (x7.take (x7.length - 1)).length = x7.length - 1 := by rw [List.length_take]; omega
      have HCON := fun (W : World) (hb : Below wr.heap.size wr W) => slices_Contains_int.calls 1000 (some ⟨g, 0, none⟩) cap (x7.take (x7.length - 1)) cell b W (row_C ((hb.block _ (blk_lt HGH.out)).trans HGH.out) (by rw [tl]; have h1 := HC0.out; have h2 := HCM.out; have h3 : maxLen = 9223372036854775807 := rfl; omega) (fun j hj => by rw [tl] at hj; rw [take_getD hj]; exact HCX.out j (by omega))) (by rw [tl]; have h1 := HC0.out; omega) hcon
      rw [tl] at HCON
      have z1 : (x7.length - 1 ≤ cap) = True := eq_true (by have h1 := HC0.out; omega)
      have z2 : ((x7.length : Int) - 1 : Int) = ((x7.length - 1 : Nat) : Int) := by have := HL.out; omega
      have z3 : IntKind.i64.wrap ((x7.length - 1 : Nat) : Int) = ((x7.length - 1 : Nat) : Int) := by have h1 := HC0.out; have h2 := HCM.out; have h3 : maxLen = 9223372036854775807 := rfl; rw [IntKind.wrap_i64]; omega
      go_wp2_with (first | (go_at_call 81; refine HIDX.mono ?_; rintro e w3 ⟨rfl, hb⟩; have HB3 := aK hb; clear hb; have d0 : w3.cell? ⟨w.heap.size + 1, 0, none⟩ = some (.int .i64 cell) := (kC ((HB3.out.block _ (by have := SZ.out; omega)).trans K1.out) 0).trans rfl))
      cases b with
      | true =>
       rw [if_pos rfl] at H2
       obtain rfl := Option.some.inj H2
       go_quiet ((go_at_call 83; exact Calls.quiet_of ((HCON _ (bDN HB3.out _)).mono (fun _ _ hh => ⟨hh.1, hh.2.out⟩))))
       go_wp2
       go_ret
       exact ⟨_, rfl, Kd.R_lower (Kd.R_below HO.out (bDN HB3.out _)) (by omega), HB.out.trans (Below.mono (bDN HB3.out _) HB.out.size)⟩
      | false =>
       rw [if_neg Bool.false_ne_true] at H2
       by_cases q2 : x7.length < 1000
       ·rw [if_pos q2] at H2
        obtain ⟨c2, hst, H3⟩ := Option.bind_eq_some_iff.mp H2
        clear H2
        have H' := aK H3
        clear H3
        have HQ2 := aK q2
        clear q2
        have hix0 : 0 ≤ ix := by have := HQ1.out; omega
        have hix1 : ix < (l1.length : Int) := by have h1 := HIX.out; have h2 := HQ1.out; rw [h1] at h2 ⊢; exact idxF_lt _ _ (by omega)
        obtain ⟨ad, rfl, hx0, hx1⟩ := at_T49 (Kd.C_below HR1.out HB.out) ix hix0 hix1
        clear hx0 hx1
        generalize hdd : (rd_Sign l1 ix).f1 = dd at hst
        have HDD := aK hdd
        clear hdd
        have HSTEP := fun (W : World) => impl_Step.calls 1000 a0_0 a0_1 a0_2 cell dd c2 W hst
        go_quiet ((go_at_call 83; exact Calls.quiet_of ((HCON _ (bDN HB3.out _)).mono (fun _ _ hh => ⟨hh.1, hh.2.out⟩))))
        clear z1 z2 z3
        go_wp2
        refine wp_region_still_tail 7 (by kernel_rfl) (by kernel_rfl) ?_
        obtain ⟨w4, hw4⟩ : ∃ w4 : World, w4 = { w3.drewN nq with drawn := (w3.drewN nq).drawn + 1 } := ⟨_, rfl⟩
        have HB5 := aK (show Below wr.heap.size wr w4 by rw [hw4]; exact bD1 (bDN HB3.out nq))
        rw [← hw4]
        clear hw4 HCON d0
        have HB4 := aK (HB.out.trans (Below.mono HB5.out HB.out.size))
        obtain ⟨ad', ead, hx0, hx1⟩ := at_T49 (Kd.C_below HR1.out HB4.out) ix hix0 hix1
        obtain rfl := Option.some.inj ead
        clear ead
        rw [HDD.out] at hx1
        have c0 : w4.cell? ⟨w.heap.size, 0, none⟩ = some (.int .i64 a0_0) := (kC ((HB5.out.block _ (by have := SZ.out; omega)).trans K0.out) 0).trans rfl
        have c1' : w4.cell? ⟨w.heap.size, 1, none⟩ = some (.int .i64 a0_1) := (kC ((HB5.out.block _ (by have := SZ.out; omega)).trans K0.out) 1).trans rfl
        have c2' : w4.cell? ⟨w.heap.size, 2, none⟩ = some (.int .i64 a0_2) := (kC ((HB5.out.block _ (by have := SZ.out; omega)).trans K0.out) 2).trans rfl
        have d0 : w4.cell? ⟨w.heap.size + 1, 0, none⟩ = some (.int .i64 cell) := (kC ((HB5.out.block _ (by have := SZ.out; omega)).trans K1.out) 0).trans rfl
        simp only [List.take_succ_cons, List.take_zero, List.drop_succ_cons, List.drop_zero]
        repeat still_step
        try refine wpStill_nil ?_
        clear c0 c1' c2' d0 hx0 hx1
        go_wp2_with (first | (go_at_call 79; refine (HSTEP _).mono ?_; rintro e w5 ⟨rfl, hb5⟩; have HB6 := aK (show Below wr.heap.size wr w5 from HB5.out.trans (hb5.mono HB5.out.size)); clear hb5; have K15 := aK ((HB6.out.block _ (by have := SZ.out; omega)).trans K1.out); have d1 : w5.cell? ⟨w.heap.size + 1, 0, none⟩ = some (.int .i64 cell) := (kC K15.out 0).trans rfl; have f1 : w5.frozen? ⟨w.heap.size + 1, 0, none⟩ = false := kF K15.out 0; have HO5 := aK (R_set_far (B := w.heap.size + 1) (i := 0) (Kd.R_below HO.out HB6.out) (by omega) (.int .i64 c2)) ; have SZ5 := aK (show w.heap.size + 2 ≤ w5.heap.size by have h1 := HB6.out.size; have h2 := SZ.out; omega)) | (at_builtin; go_loud (refine Kd.R_append (Kd.int .i64) (w0 := w5.setCell ⟨w.heap.size + 1, 0, none⟩ (.int .i64 c2)) (w.heap.size + 2) rfl (.tmp 45) (.tmp 47) 39 3 (.int .i64 0) 8 rfl Try.underlying39 info3 rfl (by decide) (by omega) (.slice (some ⟨g, 0, none⟩) x7.length cap) x7 c2 [.int .i64 c2] (fun _ => True) (fun _ => False) rfl (by show Value.slice (some ⟨w5.heap.size, 0, none⟩) 1 1 = _; simp) ?aP (fun _ hk => hk.elim) ?aF ?aO ?aB ?aS ?aL ?_; (case aP => exact rfl); (case aB => exact Below.refl _ _); (case aF => exact (fun _ _ => trivial)); (case aO => exact HO5.out); (case aS => have := SZ5.out; simp; omega); (case aL => have := HQ2.out; omega); intro v6 w6 ho hb6 hg6 hat6; have HO6 := aK ho; have HB7 := aK hb6; clear ho hb6 hg6 hat6)))
        go_roundg k1
        case measure => have := HK.out; omega
        case rel =>
         refine ⟨x7 ++ [c2], c2, H', ⟨by have := HK.out; omega⟩, ⟨by simp⟩, HO6, ⟨?_⟩, ⟨?_⟩, ⟨?_⟩, ⟨?_⟩⟩
         ·exact (HB7.out.block _ (by omega)).trans ((Below.heap_setCell w5 _ _ _ (by show w.heap.size ≠ w.heap.size + 1; omega)).trans ((HB6.out.block _ (by have := SZ.out; omega)).trans K0.out))
         ·exact (HB7.out.block _ (by omega)).trans (blk_put (cs := #[.int .i64 cell]) K15.out 0 (.int .i64 c2) rfl)
         ·have h1 := HB7.out.size; have h2 := SZ5.out; simp at h1; omega
         ·exact (bSt (HB.out.trans (HB6.out.mono HB.out.size)) (by show w.heap.size ≤ w.heap.size + 1; omega)).trans (HB7.out.mono (by omega))
       ·rw [if_neg q2] at H2; exact absurd H2 (by simp)
set_option maxHeartbeats 4000000 in
theorem impl_GoalsFor_1.calls (B0 B1 B2 : Nat) (a0_0 a0_1 a0_2 : Int) (A1 : Option Addr) (c1 : Nat) (l1 : List SSign) (lies : Int) (W : World)
  (hB0 : W.heap[B0]? = some (.cells #[.int .i64 a0_0, .int .i64 a0_1, .int .i64 a0_2] 27 (0, 0))) (hB1 : W.heap[B1]? = some (.cells #[.slice A1 l1.length c1] 41 (0, 0))) (hB2 : W.heap[B2]? = some (.cells #[.int .i64 lies] 3 (0, 0)))
  (hr1 : Kd.C k49 W A1 l1.length l1) (hc1 : l1.length ≤ c1) (x n : Int) (h : impl_CountLies.f 1000 a0_0 a0_1 a0_2 l1 x = some n) :
  Calls Try.prog 85 #[.int .i64 x, .pointer (some ⟨B0, 0, none⟩), .pointer (some ⟨B1, 0, none⟩), .pointer (some ⟨B2, 0, none⟩)] W fun e w' => e = .returned (.bool (decide (n > lies))) ∧ Below W.heap.size W w' := by
 have hu := Try.underlying27
 have hus := Try.underlying41
 have HC := fun (w : World) (hb : Below W.heap.size W w) => impl_CountLies.calls 1000 a0_0 a0_1 a0_2 A1 c1 l1 x n w (Kd.C_below hr1 hb) hc1 h
 have HB0 := aK hB0
 have HB1 := aK hB1
 have HB2 := aK hB2
 have m0 : W.cell? ⟨B0, 0, none⟩ = some (.int .i64 a0_0) := (kC hB0 0).trans rfl
 have m1 : W.cell? ⟨B0, 1, none⟩ = some (.int .i64 a0_1) := (kC hB0 1).trans rfl
 have m2 : W.cell? ⟨B0, 2, none⟩ = some (.int .i64 a0_2) := (kC hB0 2).trans rfl
 have s0 : W.cell? ⟨B1, 0, none⟩ = some (.slice A1 l1.length c1) := (kC hB1 0).trans rfl
 have i0 : W.cell? ⟨B2, 0, none⟩ = some (.int .i64 lies) := (kC hB2 0).trans rfl
 clear hB0 hB1 hB2 hr1 hc1 h
 go_enter Try.func85, Try.ntmps85
 go_wp2
 go_region_with (first | (go_at_call 21; refine (HC _ ?hb).mono ?_; (case hb => first | exact Below.refl _ _ | exact bDN (Below.refl _ _) _ | exact bD1 (Below.refl _ _)); rintro e w' ⟨rfl, hb⟩; have HBW := aK hb; clear hb; have i1 : w'.cell? ⟨B2, 0, none⟩ = some (.int .i64 lies) := (kC ((HBW.out.block _ (blk_lt HB2.out)).trans HB2.out) 0).trans rfl))
 all_goals
  go_wp2
  go_ret
  exact ⟨rfl, ⟨HBW.out.os, HBW.out.tape, HBW.out.output, HBW.out.size, HBW.out.block⟩⟩
set_option maxHeartbeats 4000000 in
set_option maxRecDepth 100000 in
theorem impl_GoalsFor.calls (a0_0 a0_1 a0_2 : Int) (A1 : Option Addr) (c1 : Nat) (l1 : List SSign) (a2 : Int) (r : List Int) (w : World) (hr1 : Kd.C k49 w A1 l1.length l1) (hc1 : l1.length ≤ c1) (h : impl_GoalsFor.f a0_0 a0_1 a0_2 l1 a2 = some r) :
  Calls Try.prog 27 #[.agg #[.int .i64 a0_0, .int .i64 a0_1, .int .i64 a0_2], .slice A1 l1.length c1, .int .i64 a2] w fun e w' => ∃ v0_ : Value, e = .returned (v0_) ∧ Kd.R (Kd.int .i64) 3 w' w.heap.size (fun _ => True) v0_ r ∧ Below w.heap.size w w' := by
 have hu := Try.underlying27
 have hug := Try.underlying25
 have hus := Try.underlying41
 have HR1 := aK hr1
 have HC1 := aK hc1
 clear hr1 hc1
 obtain ⟨b, hm, H⟩ := Option.bind_eq_some_iff.mp h
 clear h
 obtain ⟨w0, hw0⟩ : ∃ w0 : World, w0 = ((w.alloc (.cells #[.int .i64 a0_0, .int .i64 a0_1, .int .i64 a0_2] 27)).alloc (.cells #[.slice A1 l1.length c1] 41)).alloc (.cells #[.int .i64 a2] 3) := ⟨_, rfl⟩
 have HB0 := aK (show Below w.heap.size w w0 by rw [hw0]; exact (((Below.refl _ w).alloc (Nat.le_refl _) _).alloc (by simp) _).alloc (by simp; omega) _)
 have K0 := aK (show w0.heap[w.heap.size]? = some (.cells #[.int .i64 a0_0, .int .i64 a0_1, .int .i64 a0_2] 27 (0, 0)) by rw [hw0]; exact kA (kA (heap_alloc_new w _) _) _)
 have K1 := aK (show w0.heap[w.heap.size + 1]? = some (.cells #[.slice A1 l1.length c1] 41 (0, 0)) by rw [hw0]; exact kA (heap_new2 w _ _) _)
 have K2 := aK (show w0.heap[w.heap.size + 1 + 1]? = some (.cells #[.int .i64 a2] 3 (0, 0)) by rw [hw0]; exact heap_new3 w _ _ _)
 have SZ := aK (show w0.heap.size = w.heap.size + 3 by rw [hw0]; simp)
 have HW := aK hw0
 clear hw0
 have CELLS : ∀ W : World, Below w0.heap.size w0 W → W.cell? ⟨w.heap.size, 0, none⟩ = some (.int .i64 a0_0) ∧ W.cell? ⟨w.heap.size, 1, none⟩ = some (.int .i64 a0_1) ∧ W.cell? ⟨w.heap.size, 2, none⟩ = some (.int .i64 a0_2) ∧ W.cell? ⟨w.heap.size + 1, 0, none⟩ = some (.slice A1 l1.length c1) := fun W hb =>
  ⟨(kC ((hb.block _ (by have := SZ.out; omega)).trans K0.out) 0).trans rfl, (kC ((hb.block _ (by have := SZ.out; omega)).trans K0.out) 1).trans rfl, (kC ((hb.block _ (by have := SZ.out; omega)).trans K0.out) 2).trans rfl, (kC ((hb.block _ (by have := SZ.out; omega)).trans K1.out) 0).trans rfl⟩
 have HCL := aK CELLS
 clear CELLS
 cases b with
 | false =>
  rw [if_neg Bool.false_ne_true] at H
  obtain rfl := Option.some.inj H
  go_enter Try.func27, Try.ntmps27
  go_wp2_with (go_at_call 84; rw [← HW.out]; refine (impl_MazeOk.calls a0_0 a0_1 a0_2 false _ hm).mono ?_; rintro e w1 ⟨rfl, hb⟩; have HB1 := aK hb; clear hb)
  go_ret
  exact ⟨_, rfl, Kd.R_nil _ _ _ _ _, HB0.out.trans (HB1.out.mono HB0.out.size)⟩
 | true =>
  rw [if_pos rfl] at H
  by_cases q : l1.length ≤ 20
  ·rw [if_pos q] at H
   have q1 : decide ((l1.length : Int) > 20) = false := decide_eq_false (by omega)
   clear q
   obtain ⟨c, hs, H2⟩ := Option.bind_eq_some_iff.mp H
   clear H
   have HS := fun (W : World) (hb : Below w.heap.size w W) => impl_areSigns.calls 1000 a0_0 a0_1 a0_2 A1 c1 l1 c W (Kd.C_below HR1.out hb) HC1.out hs
   cases c with
   | false =>
    rw [if_neg Bool.false_ne_true] at H2
    obtain rfl := Option.some.inj H2
    go_enter Try.func27, Try.ntmps27
    go_wp2_with (first | (go_at_call 84; rw [← HW.out]; refine (impl_MazeOk.calls a0_0 a0_1 a0_2 true _ hm).mono ?_; rintro e w1 ⟨rfl, hb⟩; obtain ⟨c0, c1_, c2, c3⟩ := HCL.out _ hb; have HB1 := aK hb; clear hb) | (go_at_call 80; refine (HS _ (HB0.out.trans (HB1.out.mono HB0.out.size))).mono ?_; rintro e w2 ⟨rfl, hb⟩; have HB2 := aK hb; clear hb))
    go_ret
    exact ⟨_, rfl, Kd.R_nil _ _ _ _ _, (HB0.out.trans (HB1.out.mono HB0.out.size)).trans (HB2.out.mono (Nat.le_trans HB0.out.size HB1.out.size))⟩
   | true =>
    rw [if_pos rfl] at H2
    obtain ⟨n, hn, H3⟩ := Option.bind_eq_some_iff.mp H2
    clear H2
    obtain ⟨u, hup, H4⟩ := Option.bind_eq_some_iff.mp H3
    clear H3
    by_cases hall : (u.all fun x => (impl_CountLies.f 1000 a0_0 a0_1 a0_2 l1 x).isSome) = true ∧ 0 < u.length
    ·rw [if_pos hall] at H4
     obtain rfl := Option.some.inj H4
     have eg : ∀ args w, (callFunc 85 args).run Try.prog w = .ok (.enter 85 args) w := enters_of Try.func85 (by kernel_rfl) rfl
     have HP : ∀ (w3 : World) (gu : Nat), Below w0.heap.size w0 w3 → w0.heap.size ≤ gu → ∀ (W : World) (x : Int), x ∈ u → w3.grownBy W (some gu) → Calls Try.prog 85 (#[.int .i64 x] ++ #[.pointer (some ⟨w.heap.size, 0, none⟩), .pointer (some ⟨w.heap.size + 1, 0, none⟩), .pointer (some ⟨w.heap.size + 1 + 1, 0, none⟩)]) W fun e w' => e = .returned (.bool (decide ((impl_CountLies.f 1000 a0_0 a0_1 a0_2 l1 x).getD 0 > a2))) ∧ Below W.heap.size W w' := by
      intro w3 gu h3 hg W x hx hG
      have s1 := SZ.out
      have s3 := h3.size
      have hx2 := List.all_eq_true.1 hall.1 x hx
      obtain ⟨n1, hn1⟩ := Option.isSome_iff_exists.1 hx2
      have keep : ∀ i, i < w0.heap.size → W.heap[i]? = w0.heap[i]? := fun i hi => (hG.block i (by omega) (fun e => by have := Option.some.inj e; omega)).trans (h3.block i hi)
      have hBW : Below w0.heap.size w0 W := ⟨hG.os.trans h3.os, hG.tape.trans h3.tape, hG.output.trans h3.output, Nat.le_trans h3.size hG.size, keep⟩
      rw [hn1]
      exact impl_GoalsFor_1.calls w.heap.size (w.heap.size + 1) (w.heap.size + 1 + 1) a0_0 a0_1 a0_2 A1 c1 l1 a2 W ((keep _ (by omega)).trans K0.out) ((keep _ (by omega)).trans K1.out) ((keep _ (by omega)).trans K2.out) (Kd.C_below HR1.out (HB0.out.trans (hBW.mono HB0.out.size))) HC1.out x n1 hn1
     have HALL := aK hall
     clear H4 hall
     go_enter Try.func27, Try.ntmps27
     go_wp2_with (first | (go_at_call 84; rw [← HW.out]; refine (impl_MazeOk.calls a0_0 a0_1 a0_2 true _ hm).mono ?_; rintro e w1 ⟨rfl, hb⟩; obtain ⟨c0, c1_, c2, c3⟩ := HCL.out _ hb; have HB1 := aK hb; clear hb) | (go_at_call 80; refine (HS _ (HB0.out.trans (HB1.out.mono HB0.out.size))).mono ?_; rintro e w2 ⟨rfl, hb⟩; have HB2 := aK (HB1.out.trans (hb.mono HB1.out.size)); clear hb; obtain ⟨d0, d1, d2, d3⟩ := HCL.out _ HB2.out) | (go_at_call 68; refine (impl_CountCells.calls a0_0 a0_1 n _ hn).mono ?_; rintro e w3 ⟨rfl, hb⟩; have HB3 := aK (HB2.out.trans (hb.mono HB2.out.size)); clear hb) | (go_at_call 67; refine (impl_upTo.calls 1000 _ u _ hup).mono ?_; rintro e w4 ⟨v, rfl, hR, hB4⟩; have HB4 := aK (HB3.out.trans (hB4.mono HB3.out.size)); have HS3 := aK HB3.out.size; have HR4 := aK hR; clear hR hB4; obtain ⟨gu, capu, curu, rfl, hcapu, hgu0, hguh, hul2, hum, hux⟩ := row_open HR4.out HALL.out.2; have HCU := aK hcapu; have HU0 := aK (Nat.le_trans HS3.out hgu0); have HUH := aK hguh; have HUL := aK hul2; have HUM := aK hum; have HUX := aK hux; clear hcapu hgu0 hguh hul2 hum hux) | (go_at_call 66; refine (slices_DeleteFunc_int.calls (fun x => decide ((impl_CountLies.f 1000 a0_0 a0_1 a0_2 l1 x).getD 0 > a2)) 85 #[.pointer (some ⟨w.heap.size, 0, none⟩), .pointer (some ⟨w.heap.size + 1, 0, none⟩), .pointer (some ⟨w.heap.size + 1 + 1, 0, none⟩)] eg gu capu u curu _ HUH.out HUL.out HCU.out HUM.out HUX.out (HP w4 gu HB4.out HU0.out)).mono ?_; rintro e w5 ⟨cur4, rfl, h41, h42, h43, h44⟩; have H41 := aK h41; have H42 := aK h42; have H43 := aK h43; have H44 := aK h44; clear h41 h42 h43 h44))
     go_ret
     refine ⟨_, rfl, row_close (cur := cur4) ?_ H41.out ?_ HUM.out H42.out H43.out, ?_⟩
     ·have h1 := HU0.out; have h2 := SZ.out; omega
     ·exact Nat.le_trans (List.length_filter_le _ _) HCU.out
     ·refine (HB0.out.trans (HB4.out.mono HB0.out.size)).grown H44.out ?_ ?_
      ·exact Nat.le_trans HB0.out.size HB4.out.size
      ·intro j hj; cases hj; have h1 := HU0.out; have h2 := SZ.out; omega
    ·rw [if_neg hall] at H4; exact absurd H4 (by simp)
  ·rw [if_neg q] at H
   have q1 : decide ((l1.length : Int) > 20) = true := decide_eq_true (by omega)
   clear q
   obtain rfl := Option.some.inj H
   go_enter Try.func27, Try.ntmps27
   go_wp2_with (go_at_call 84; rw [← HW.out]; refine (impl_MazeOk.calls a0_0 a0_1 a0_2 true _ hm).mono ?_; rintro e w1 ⟨rfl, hb⟩; obtain ⟨c0, c1_, c2, c3⟩ := HCL.out _ hb; have HB1 := aK hb; clear hb)
   go_ret
   exact ⟨_, rfl, Kd.R_nil _ _ _ _ _, HB0.out.trans (HB1.out.mono HB0.out.size)⟩
set_option maxHeartbeats 8000000 in
set_option maxRecDepth 100000 in
theorem laws_has.calls (k : Nat) (A0 : Option Addr) (c0 : Nat) (l0 : List Int) (a1 : Int) (r : Bool) (w : World) (hr0 : Kd.C (Kd.int .i64) w A0 l0.length l0) (hc0 : l0.length ≤ c0) (h : laws_has.f k l0 a1 = some r) :
  Calls Try.prog 29 #[.slice A0 l0.length c0, .int .i64 a1] w fun e w' => e = .returned (.bool r) ∧ Drawn0 w w' := by
 have HR0 := aK hr0
 have HC0 := aK hc0
 clear hr0 hc0
 have H : (laws_has.l0 k l0 a1 0) = some r := h
 clear h
 have H' := aK H
 clear H
 go_enter Try.func29, Try.ntmps29
 go_wp2
 go_loopg [5] k (fun kq v5 w' => ∃ (x5_1 : Int), v5 = .int .i64 x5_1 ∧ Aside0 (laws_has.l0 kq l0 a1 x5_1 = some r) ∧ Aside0 (kq ≤ k) ∧ Drawn0 w w')
 case atStart => exact ⟨(0), (by first | rfl | (simp; done) | (simp [*]; done)), H', ⟨Nat.le_refl _⟩, by repeat (first | exact Drawn0.refl _ | apply Drawn0.step)⟩
 case round =>
  clear H'
  try clear c2
  try clear p2
  obtain ⟨x5_1, rfl, HA, HK1, ⟨m1, rfl⟩⟩ := hrel
  cases gk with
  | zero => exact absurd HA.out (by simp [laws_has.l0])
  | succ k1 =>
   have H := HA.out
   clear HA
   simp only [laws_has.l0] at H
   by_cases c3 : x5_1 < (l0.length : Int)
   ·rw [if_pos c3] at H
    have c3b0 : decide (x5_1 < (l0.length : Int)) = true := decide_eq_true c3
    clear c3
    by_cases c4 : 0 ≤ x5_1
    ·rw [if_pos c4] at H
     have c4b0 : decide (0 ≤ x5_1) = true := decide_eq_true c4
     clear c4
     by_cases c5 : (rd l0 x5_1) = a1
     ·rw [if_pos c5] at H
      have c5b0 : ((rd l0 x5_1) == a1) = true := beq_iff_eq.mpr c5
      have c5b1 : ((rd l0 x5_1) != a1) = false := bne_eq_false_iff_eq.mpr c5
      clear c5
      obtain rfl := Option.some.inj H
      have p634 : 0 ≤ (x5_1 : Int) := of_decide_eq_true (by first | (with_reducible assumption) | assumption)
      have q634 : x5_1 < (l0.length : Int) := of_decide_eq_true (by first | (with_reducible assumption) | assumption)
      obtain ⟨ad634, e634, hx634_0⟩ := Kd.at_int HR0.out x5_1 p634 q634
      cases e634
      replace p634 := eq_true p634
      replace q634 := eq_true q634
      go_wp2
      go_ret
      exact ⟨by first | rfl | (simp; done) | (simp [*]; done), by repeat (first | exact Drawn0.refl _ | apply Drawn0.step)⟩
     ·rw [if_neg c5] at H
      have c5b0 : ((rd l0 x5_1) == a1) = false := beq_eq_false_iff_ne.mpr c5
      have c5b1 : ((rd l0 x5_1) != a1) = true := bne_iff_ne.mpr c5
      have H' := aK H
      clear H
      have p634 : 0 ≤ (x5_1 : Int) := of_decide_eq_true (by first | (with_reducible assumption) | assumption)
      have q634 : x5_1 < (l0.length : Int) := of_decide_eq_true (by first | (with_reducible assumption) | assumption)
      obtain ⟨ad634, e634, hx634_0⟩ := Kd.at_int HR0.out x5_1 p634 q634
      cases e634
      replace p634 := eq_true p634
      replace q634 := eq_true q634
      go_wp2
      go_roundg k1
      case measure => have := HK1.out; omega
      case rel => exact ⟨(wrap64 (x5_1 + 1)), (by first | rfl | (simp; done) | (simp [*]; done)), H', ⟨by have := HK1.out; omega⟩, by repeat (first | exact Drawn0.refl _ | apply Drawn0.step)⟩
    ·rw [if_neg c4] at H
     exact absurd H (by simp)
   ·rw [if_neg c3] at H
    have c3b0 : decide (x5_1 < (l0.length : Int)) = false := decide_eq_false c3
    clear c3
    obtain rfl := Option.some.inj H
    go_wp2
    go_ret
    exact ⟨by first | rfl | (simp; done) | (simp [*]; done), by repeat (first | exact Drawn0.refl _ | apply Drawn0.step)⟩
end Go.Proofs.Ytpeehicekddjhaa.F
end

section
namespace Go.Proofs.Ytpeehicekddjhaa.F
open Go.RowKit Go.Proofs.YtpeehicekddjhaaW.PrintWords Go.Proofs.YtpeehicekddjhaaW.PrintLast Go.Proofs.YtpeehicekddjhaaW.PrintMore
set_option linter.unusedVariables false
set_option linter.unusedSimpArgs false
mutual
def laws_FnSigns.j0 : Nat → List Int → List (SSign) → Int → Int → List (SSign) → List Int → Bool → Int → Int → Int → Option (Bool)
  | 0, _, _, _, _, _, _, _, _, _, _ => none
  | k + 1, x0, x4, x5, x6, x7, x8, x44, x644000, x644001, x644002 => if x44 = true then (some false) else (laws_FnSigns.l0 k x0 x4 x5 x6 x7 x8 0 x644000 x644001 x644002)
def laws_FnSigns.l0 : Nat → List Int → List (SSign) → Int → Int → List (SSign) → List Int → Int → Int → Int → Int → Option (Bool)
  | 0, _, _, _, _, _, _, _, _, _, _ => none
  | k + 1, x0, x4, x5, x6, x7, x8, x9, x644000, x644001, x644002 => if x9 < (x7.length : Int) then (if 0 ≤ x9 then ((impl_SignOk.f k x644000 x644001 x644002 ((rd_Sign x7 x9).f0) ((rd_Sign x7 x9).f1)).bind fun t653 => (if t653 = true then (laws_FnSigns.l0 k x0 x4 x5 x6 x7 x8 (wrap64 (x9 + 1)) x644000 x644001 x644002) else (some false))) else (none)) else ((laws_at.f x0 0).bind fun t654 => (if (x8.length : Int) = 0 then (none) else (if 0 ≤ (Int.tmod t654 (x8.length : Int)) then (if (Int.tmod t654 (x8.length : Int)) < (x8.length : Int) then ((impl_FollowSigns.f x644000 x644001 x644002 x7 (rd x8 (Int.tmod t654 (x8.length : Int)))).bind fun t656 => ((impl_GoalsFor.f x644000 x644001 x644002 x4 x6).bind fun t659 => ((impl_GoalsFor.f x644000 x644001 x644002 x4 (wrap64 (x6 - 1))).bind fun t662 => ((impl_DistanceOf.f k x644000 x644001 x644002 (rd x8 (Int.tmod t654 (x8.length : Int))) x5).bind fun t665 => (if (t656.length : Int) = (wrap64 (t665 + 1)) then (if 0 ≤ (wrap64 ((t656.length : Int) - 1)) then (if (wrap64 ((t656.length : Int) - 1)) < (t656.length : Int) then (if (rd t656 (wrap64 ((t656.length : Int) - 1))) = x5 then ((laws_has.f k t659 x5).bind fun t667 => (if t667 = true then ((laws_has.f k t662 x5).bind fun t668 => (if t668 = true then (some false) else (if (t662.length : Int) ≤ (t659.length : Int) then ((impl_GoalsFor.f x644000 x644001 x644002 x4 (x4.length : Int)).bind fun t669 => ((spec_CountCells.f x644000 x644001).bind fun t672 => (some ((t669.length : Int) == t672)))) else (some false)))) else (some false))) else (some false)) else (none)) else (none)) else (some false)))))) else (none)) else (none))))
end
def laws_FnSigns.f (k : Nat) (l0 : List Int) : Option (Bool) := (laws_big.f l0).bind fun t635 => (if t635 = true then (some true) else ((spec_DrawSigns.f k l0).bind fun bt636 => ((impl_CountLies.f k bt636.1 bt636.2.1 bt636.2.2.1 bt636.2.2.2.1 bt636.2.2.2.2).bind fun t644 => ((impl_SignsTo.f k bt636.1 bt636.2.1 bt636.2.2.1 bt636.2.2.2.2).bind fun t645 => ((spec_Reached.f k bt636.1 bt636.2.1 bt636.2.2.1 bt636.2.2.2.2).bind fun t648 => (if (t645.length : Int) = (wrap64 ((t648.length : Int) - 1)) then ((impl_CountLies.f k bt636.1 bt636.2.1 bt636.2.2.1 t645 bt636.2.2.2.2).bind fun t651 => (laws_FnSigns.j0 k l0 bt636.2.2.2.1 bt636.2.2.2.2 t644 t645 t648 (t651 != 0) bt636.1 bt636.2.1 bt636.2.2.1)) else (laws_FnSigns.j0 k l0 bt636.2.2.2.1 bt636.2.2.2.2 t644 t645 t648 true bt636.1 bt636.2.1 bt636.2.2.1)))))))
end Go.Proofs.Ytpeehicekddjhaa.F
end
