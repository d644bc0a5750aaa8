/- Packed by a program of the session (wip/tools/pack.py): what the claim's theorem reaches, of the texts that wip/ and the kit's printer lay. -/
import Derived.Test.YtpeehicekddjhaaPkFnRecords7
import Derived.Laws.StructEq
section
namespace Go.Proofs.Ytpeehicekddjhaa.F
open Go.RowKit Go.Proofs.YtpeehicekddjhaaW.PrintWords Go.Proofs.YtpeehicekddjhaaW.PrintLast Go.Proofs.YtpeehicekddjhaaW.PrintMore
set_option linter.unusedVariables false
set_option linter.unusedSimpArgs false
attribute [local go_sem] max2_int min2_int max_two min_two
set_option maxHeartbeats 8000000 in
set_option maxRecDepth 100000 in
theorem spec_l36List.calls (k : Nat) (g : Nat) (s0_0 : List Int) (s0_1 : Int) (s0_2 : Int) (a1_0 : Int) (a1_1 : Int) (a1_2 : Int) (a1_3 : Int) (A1_4 : Option Addr) (c1_4 : Nat) (l1_4 : List (SGate)) (r1 : List (SEntry)) (r2 : Int) (r3 : Int) (w0 w : World) (hI : IsS146 w0 w g s0_0 s0_1 s0_2) (hB : Below w0.heap.size w0 w) (hr1_4 : ∀ W_, KeepBut w W_ g none → Kd.C k150 W_ A1_4 l1_4.length l1_4) (hc1_4 : l1_4.length ≤ c1_4) (h : spec_l36List.f k s0_0 s0_1 s0_2 a1_0 a1_1 a1_2 a1_3 l1_4 = some (r1, r2, r3)) :
  Calls Try.prog 62 #[.pointer (some ⟨g, 0, none⟩), .agg #[.int .i64 a1_0, .int .i64 a1_1, .int .i64 a1_2, .int .i64 a1_3, .slice A1_4 l1_4.length c1_4]] w fun e w' => ∃ v0_ : Value, e = .returned (v0_) ∧ Kd.R k37 37 w' w.heap.size (fun _ => True) v0_ r1 ∧ IsS146 w0 w' g s0_0 r2 r3 ∧ Below w0.heap.size w0 w' ∧ KeepBut w w' g none := by
 have hu30 := Try.underlying30
 have hu25 := Try.underlying25
 have hu37 := Try.underlying37
 have HR1_4 := aK hr1_4
 have HC1_4 := aK hc1_4
 clear hr1_4 hc1_4
 have HI0 := aK hI
 have HK := aK (KeepBut.refl w g none)
 have HL := aK hB.size
 clear hI
 have HW0 := aK hB.size
 have HB := aK hB
 clear hB
 have H : ((spec_l01Below.f s0_0 s0_1 s0_2 6).bind fun bt214 => ((spec_l01Below.f s0_0 bt214.2.1 bt214.2.2 4).bind fun bt217 => (spec_l36List.l0 k (([] : List (SEntry))) bt214.1 bt217.1 0 s0_0 bt217.2.1 bt217.2.2 a1_0 a1_1 a1_2 a1_3 l1_4))) = some (r1, r2, r3) := h
 clear h
 obtain ⟨y211, hy211⟩ : ∃ y_ : List (SEntry), y_ = (([] : List (SEntry))) := ⟨_, rfl⟩
 replace H : ((spec_l01Below.f s0_0 s0_1 s0_2 6).bind fun bt214 => ((spec_l01Below.f s0_0 bt214.2.1 bt214.2.2 4).bind fun bt217 => (spec_l36List.l0 k y211 bt214.1 bt217.1 0 s0_0 bt217.2.1 bt217.2.2 a1_0 a1_1 a1_2 a1_3 l1_4))) = some (r1, r2, r3) := by first | (rw [hy211]; with_reducible exact H) | (have H2_ := (Option.bind_some _ _).symm.trans H; rw [hy211]; with_reducible exact H2_) | (have H2_ := (Option.bind_some _ _).symm.trans H; with_reducible exact H2_) | with_reducible exact H | (rw [hy211]; exact H) | exact H
 have Ny211 := aK hy211
 clear hy211
 replace H := Option.bind_eq_some_iff.mp H
 obtain ⟨⟨t214, t215, t216⟩, A30, H⟩ := H
 replace H : ((spec_l01Below.f s0_0 t215 t216 4).bind fun bt217 => (spec_l36List.l0 k y211 t214 bt217.1 0 s0_0 bt217.2.1 bt217.2.2 a1_0 a1_1 a1_2 a1_3 l1_4)) = some (r1, r2, r3) := H
 have A3 := aK A30
 clear A30
 replace H := Option.bind_eq_some_iff.mp H
 obtain ⟨⟨t217, t218, t219⟩, A40, H⟩ := H
 replace H : (spec_l36List.l0 k y211 t214 t217 0 s0_0 t218 t219 a1_0 a1_1 a1_2 a1_3 l1_4) = some (r1, r2, r3) := H
 have A4 := aK A40
 clear A40
 have H' := aK H
 clear H
 go_enter Try.func62, Try.ntmps62
 go_wp2_with (first | ((with_reducible refine gate_dst (N := 3) rfl ?_); refine box_event ?hg (N := 3) ?hd (cs := #[.int .i64 a1_0, .int .i64 a1_1, .int .i64 a1_2, .int .i64 a1_3, .slice A1_4 l1_4.length c1_4]) (t := 30) ?hr ?_; (case hd => rfl); (case hg => rfl); (case hr => first | (go_simp; done) | (go_simp; rfl)); intro gb210 hg w5 hbox hb; have n0_ := aK (IsS146.below (by repeat (first | (with_reducible first | exact HI0.out | apply IsS146.alloc | apply IsS146.drewN | apply IsS146.drew | apply IsS146.set_1 | apply IsS146.set_2) | exact HI0.out)) hb); have n1_ := aK (KeepBut.trans (by repeat (first | (with_reducible first | exact HK.out | apply KeepBut.set_ | apply keep_drewN | apply keep_drew | apply keep_alloc) | exact HK.out)) (KeepBut.of_below hb g none) (.inl rfl)); have n2_ := aK (bSp (by repeat (first | (with_reducible first | exact HB.out | apply bAl | apply bDN | apply bD1 | refine bSt ?_ (IsS146.ge HI0.out)) | exact HB.out)) hb); have n3_ := aK (hbox); have n4_ := aK ((by rw [hg]; exact (keep_size (w := w) (g := g) (row := none) (by repeat (first | (with_reducible first | exact HK.out | apply KeepBut.set_ | apply keep_drewN | apply keep_drew | apply keep_alloc) | exact HK.out))) : w.heap.size ≤ gb210)); have n5_ := aK ((Nat.le_trans HW0.out (by rw [hg]; exact (keep_size (w := w) (g := g) (row := none) (by repeat (first | (with_reducible first | exact HK.out | apply KeepBut.set_ | apply keep_drewN | apply keep_drew | apply keep_alloc) | exact HK.out))) : w.heap.size ≤ gb210) : w0.heap.size ≤ gb210)); have n6_ := aK ((by rw [hg]; exact Nat.ne_of_lt (IsS146.lt (show IsS146 w0 _ g s0_0 s0_1 s0_2 from by repeat (first | (with_reducible first | exact HI0.out | apply IsS146.alloc | apply IsS146.drewN | apply IsS146.drew | apply IsS146.set_1 | apply IsS146.set_2) | exact HI0.out))) : g ≠ gb210)); have n7_ := aK ((by rw [hg]; exact Nat.ne_of_gt (IsS146.lt (show IsS146 w0 _ g s0_0 s0_1 s0_2 from by repeat (first | (with_reducible first | exact HI0.out | apply IsS146.alloc | apply IsS146.drewN | apply IsS146.drew | apply IsS146.set_1 | apply IsS146.set_2) | exact HI0.out))) : gb210 ≠ g)); clear HI0; clear HK; clear HB; have HI0 := n0_; have HK := n1_; have HB := n2_; have BK210 := n3_; have GW210 := n4_; have GE210 := n5_; have NB0_210 := n6_; have NB210_0 := n7_; clear n0_ n1_ n2_ n3_ n4_ n5_ n6_ n7_; clear hb hbox hg) | ((with_reducible refine gate_dst (N := 9) rfl ?_); refine Kd.R_lit k37 _ 37 ?hg (N := 9) ?hd (xs := ([] : List (SEntry))) (inner := []) (ok := fun _ => True) (okp := fun _ => True) ?hr ?hp (fun _ hk => hk) trivial (Below.refl _ _) (Nat.le_refl _) (by simp) ?_; (case hd => rfl); (case hg => rfl); (case hr => first | (go_simp; done) | (go_simp; rfl)); (case hp => exact (Reps.none _ _)); intro v212 w6 ho7 hb hg_ hnew_; clear hg_ hnew_; (first | rw [← Ny211.out] at ho7 | (simp only [Int.reduceToNat] at ho7; rw [← Ny211.out] at ho7)); have n0_ := aK (Kd.R_lower ho7 (keep_size (w := w) (g := g) (row := none) (by repeat (first | (with_reducible first | exact HK.out | apply KeepBut.set_ | apply keep_drewN | apply keep_drew | apply keep_alloc | refine keep_far ?_ GW210.out _) | exact HK.out)))); have n1_ := aK (IsS146.below (by repeat (first | (with_reducible first | exact HI0.out | apply IsS146.alloc | apply IsS146.drewN | apply IsS146.drew | apply IsS146.set_1 | apply IsS146.set_2 | refine IsS146.far ?_ NB0_210.out _) | exact HI0.out)) hb); have n2_ := bkb BK210 hb (by intro z_; (with_reducible repeat (first | refine kDN ?_ _ | refine kD ?_ | refine kA ?_ _)); exact z_); have n3_ := aK (KeepBut.trans (by repeat (first | (with_reducible first | exact HK.out | apply KeepBut.set_ | apply keep_drewN | apply keep_drew | apply keep_alloc | refine keep_far ?_ GW210.out _) | exact HK.out)) (KeepBut.of_below hb g none) (.inl rfl)); have n4_ := aK (bSp (by repeat (first | (with_reducible first | exact HB.out | apply bAl | apply bDN | apply bD1 | refine bSt ?_ (IsS146.ge HI0.out) | refine bSt ?_ GE210.out) | exact HB.out)) hb); clear HI0; clear BK210; clear HK; clear HB; have HO213 := n0_; have HI0 := n1_; have BK210 := n2_; have HK := n3_; have HB := n4_; clear n0_ n1_ n2_ n3_ n4_; clear hb ho7) | ((with_reducible refine gate_callee (f := 72) rfl ?_); refine goesL_ (some 11) rfl rfl Try.func72 (by kernel_rfl) rfl #[.pointer (some ⟨g, 0, none⟩), .int .i64 6] rfl (by (try simp only [List.map_toArray, List.map_cons, List.map_nil]); first | done | rfl | (simp only [List.length_drop, List.length_take]; rfl)) ?_; (with_reducible refine (spec_l01Below.calls g s0_0 s0_1 s0_2 6 t214 t215 t216 w0 _ ?side1 ?side2 A3.out).mono ?_); (case side1 => repeat (first | (with_reducible first | exact HI0.out | apply IsS146.alloc | apply IsS146.drewN | apply IsS146.drew | apply IsS146.set_1 | apply IsS146.set_2 | refine IsS146.far ?_ NB0_210.out _) | exact HI0.out)); (case side2 => repeat (first | (with_reducible first | exact HB.out | apply bAl | apply bDN | apply bD1 | refine bSt ?_ (IsS146.ge HI0.out) | refine bSt ?_ GE210.out) | exact HB.out)); rintro e w8 ⟨rfl, hi, hb, hk⟩; refine ⟨_, rfl, ?_⟩; have n0_ := aK (KeepBut.blk hk (g' := gb210) (o := .cells #[.int .i64 a1_0, .int .i64 a1_1, .int .i64 a1_2, .int .i64 a1_3, .slice A1_4 l1_4.length c1_4] 30 (0, 0)) (by (with_reducible repeat (first | refine kDN ?_ _ | refine kD ?_ | refine kA ?_ _)); exact BK210.out) NB210_0.out (by simp)); have n1_ := aK (Kd.R_mono (Kd.R_keep (IsS146.apart (show IsS146 w0 _ g s0_0 s0_1 s0_2 from by repeat (first | (with_reducible first | exact HI0.out | apply IsS146.alloc | apply IsS146.drewN | apply IsS146.drew | apply IsS146.set_1 | apply IsS146.set_2 | refine IsS146.far ?_ NB0_210.out _) | exact HI0.out)) (by (with_reducible repeat (first | apply Kd.R_alloc | apply Kd.R_drewN | apply Kd.R_drew)); exact HO213.out) (by decide)) hk (fun _ h => h.2)) (fun _ h => h.1)); have n2_ := aK (KeepBut.trans (by repeat (first | (with_reducible first | exact HK.out | apply KeepBut.set_ | apply keep_drewN | apply keep_drew | apply keep_alloc | refine keep_far ?_ GW210.out _) | exact HK.out)) hk (.inl rfl)); have n3_ := aK (hb); have n4_ := aK (hi); clear BK210; clear HO213; clear HK; clear HB; clear HI0; have BK210 := n0_; have HO213 := n1_; have HK := n2_; have HB := n3_; have HI0 := n4_; clear n0_ n1_ n2_ n3_ n4_; (try clear hb); (try clear hb2); (try clear hk); (try clear hi)) | ((with_reducible refine gate_callee (f := 72) rfl ?_); refine goesL_ (some 13) rfl rfl Try.func72 (by kernel_rfl) rfl #[.pointer (some ⟨g, 0, none⟩), .int .i64 4] rfl (by (try simp only [List.map_toArray, List.map_cons, List.map_nil]); first | done | rfl | (simp only [List.length_drop, List.length_take]; rfl)) ?_; (with_reducible refine (spec_l01Below.calls g s0_0 t215 t216 4 t217 t218 t219 w0 _ ?side1 ?side2 A4.out).mono ?_); (case side1 => repeat (first | (with_reducible first | exact HI0.out | apply IsS146.alloc | apply IsS146.drewN | apply IsS146.drew | apply IsS146.set_1 | apply IsS146.set_2 | refine IsS146.far ?_ NB0_210.out _) | exact HI0.out)); (case side2 => repeat (first | (with_reducible first | exact HB.out | apply bAl | apply bDN | apply bD1 | refine bSt ?_ (IsS146.ge HI0.out) | refine bSt ?_ GE210.out) | exact HB.out)); rintro e w9 ⟨rfl, hi, hb, hk⟩; refine ⟨_, rfl, ?_⟩; have n0_ := aK (KeepBut.blk hk (g' := gb210) (o := .cells #[.int .i64 a1_0, .int .i64 a1_1, .int .i64 a1_2, .int .i64 a1_3, .slice A1_4 l1_4.length c1_4] 30 (0, 0)) (by (with_reducible repeat (first | refine kDN ?_ _ | refine kD ?_ | refine kA ?_ _)); exact BK210.out) NB210_0.out (by simp)); have n1_ := aK (Kd.R_mono (Kd.R_keep (IsS146.apart (show IsS146 w0 _ g s0_0 t215 t216 from by repeat (first | (with_reducible first | exact HI0.out | apply IsS146.alloc | apply IsS146.drewN | apply IsS146.drew | apply IsS146.set_1 | apply IsS146.set_2 | refine IsS146.far ?_ NB0_210.out _) | exact HI0.out)) (by (with_reducible repeat (first | apply Kd.R_alloc | apply Kd.R_drewN | apply Kd.R_drew)); exact HO213.out) (by decide)) hk (fun _ h => h.2)) (fun _ h => h.1)); have n2_ := aK (KeepBut.trans (by repeat (first | (with_reducible first | exact HK.out | apply KeepBut.set_ | apply keep_drewN | apply keep_drew | apply keep_alloc | refine keep_far ?_ GW210.out _) | exact HK.out)) hk (.inl rfl)); have n3_ := aK (hb); have n4_ := aK (hi); clear BK210; clear HO213; clear HK; clear HB; clear HI0; have BK210 := n0_; have HO213 := n1_; have HK := n2_; have HB := n3_; have HI0 := n4_; clear n0_ n1_ n2_ n3_ n4_; (try clear hb); (try clear hb2); (try clear hk); (try clear hi)))
 go_loopg [5, 7, 8] k (fun kq v5 v7 v8 w' => ∃ (x5_1 : List (SEntry)) (x7_1 : Int) (x8_1 : Int) (x1001_1 : Int) (x1002_1 : Int), v7 = .int .i64 x7_1 ∧ v8 = .int .i64 x8_1 ∧ Aside0 (spec_l36List.l0 kq x5_1 t214 x7_1 x8_1 s0_0 x1001_1 x1002_1 a1_0 a1_1 a1_2 a1_3 l1_4 = some (r1, r2, r3)) ∧ Aside0 (kq ≤ k) ∧ Aside0 (Kd.R k37 37 w' w.heap.size (fun _ => True) v5 x5_1) ∧ Aside0 (w'.heap[gb210]? = some (.cells #[.int .i64 a1_0, .int .i64 a1_1, .int .i64 a1_2, .int .i64 a1_3, (.slice A1_4 l1_4.length c1_4)] 30 (0, 0))) ∧ Aside0 (IsS146 w0 w' g s0_0 x1001_1 x1002_1) ∧ Aside0 (KeepBut w w' g none) ∧ Aside0 (Below w0.heap.size w0 w'))
 case atStart => exact ⟨(y211), (t217), (0), (t218), (t219), (by first | rfl | (simp; done) | (simp [*]; done)), (by first | rfl | (simp; done) | (simp [*]; done)), H', ⟨Nat.le_refl _⟩, ⟨by (with_reducible repeat (first | apply Kd.R_alloc | apply Kd.R_drewN | apply Kd.R_drew)); exact HO213.out⟩, ⟨by (with_reducible repeat (first | refine kDN ?_ _ | refine kD ?_ | refine kA ?_ _)); exact BK210.out⟩, ⟨by repeat (first | (with_reducible first | exact HI0.out | apply IsS146.alloc | apply IsS146.drewN | apply IsS146.drew | apply IsS146.set_1 | apply IsS146.set_2 | refine IsS146.far ?_ NB0_210.out _) | exact HI0.out)⟩, ⟨by repeat (first | (with_reducible first | exact HK.out | apply KeepBut.set_ | apply keep_drewN | apply keep_drew | apply keep_alloc | refine keep_far ?_ GW210.out _) | exact HK.out)⟩, ⟨by repeat (first | (with_reducible first | exact HB.out | apply bAl | apply bDN | apply bD1 | refine bSt ?_ (IsS146.ge HI0.out) | refine bSt ?_ GE210.out) | exact HB.out)⟩⟩
 case round =>
  clear H'
  try clear c1
  try clear p2
  try clear c6
  try clear c7
  obtain ⟨x5_1, x7_1, x8_1, x1001_1, x1002_1, rfl, rfl, HA, HK1, HO_5, BK210, HI0, HK, HB⟩ := hrel
  cases gk with
  | zero => exact absurd HA.out (by simp [spec_l36List.l0])
  | succ k1 =>
   have H := HA.out
   clear HA
   simp only [spec_l36List.l0] at H
   by_cases c10 : x8_1 < t214
   ·rw [if_pos c10] at H
    have c10b0 : decide (x8_1 < t214) = true := decide_eq_true c10
    clear c10
    replace H := Option.bind_eq_some_iff.mp H
    obtain ⟨t220, A110, H⟩ := H
    replace H : ((spec_l01Below.f s0_0 x1001_1 x1002_1 (mx 1 t220)).bind fun bt221 => (if x5_1.length < 8796093022208 then ((spec_l01Below.f s0_0 bt221.2.1 bt221.2.2 7).bind fun bt227 => (spec_l36List.l0 k1 (x5_1 ++ [(⟨x7_1, bt221.1⟩ : SEntry)]) t214 (wrap64 ((wrap64 (x7_1 + 1)) + bt227.1)) (wrap64 (x8_1 + 1)) s0_0 bt227.2.1 bt227.2.2 a1_0 a1_1 a1_2 a1_3 l1_4)) else (none))) = some (r1, r2, r3) := H
    have A11 := aK A110
    clear A110
    obtain ⟨ji12, hji12⟩ : ∃ j_ : Int, (mx 1 t220) = j_ := ⟨_, rfl⟩
    replace H : ((spec_l01Below.f s0_0 x1001_1 x1002_1 (ji12)).bind fun bt221 => (if x5_1.length < 8796093022208 then ((spec_l01Below.f s0_0 bt221.2.1 bt221.2.2 7).bind fun bt227 => (spec_l36List.l0 k1 (x5_1 ++ [(⟨x7_1, bt221.1⟩ : SEntry)]) t214 (wrap64 ((wrap64 (x7_1 + 1)) + bt227.1)) (wrap64 (x8_1 + 1)) s0_0 bt227.2.1 bt227.2.2 a1_0 a1_1 a1_2 a1_3 l1_4)) else (none))) = some (r1, r2, r3) := by first | (rw [hji12] at H; exact H) | (simp only [hji12] at H ⊢; exact H)
    (try rw [hji12] at A11)
    (try (have hji12l : 1 ≤ ji12 := by (rw [← hji12]; unfold mx; (repeat' split) <;> omega)))
    (try (have hji12m : 0 ≤ ji12 := by omega))
    have hji12_ : (if 1 < t220 then t220 else 1) = ji12 := hji12
    replace H := Option.bind_eq_some_iff.mp H
    obtain ⟨⟨t221, t222, t223⟩, A130, H⟩ := H
    replace H : (if x5_1.length < 8796093022208 then ((spec_l01Below.f s0_0 t222 t223 7).bind fun bt227 => (spec_l36List.l0 k1 (x5_1 ++ [(⟨x7_1, t221⟩ : SEntry)]) t214 (wrap64 ((wrap64 (x7_1 + 1)) + bt227.1)) (wrap64 (x8_1 + 1)) s0_0 bt227.2.1 bt227.2.2 a1_0 a1_1 a1_2 a1_3 l1_4)) else (none)) = some (r1, r2, r3) := H
    have A13 := aK A130
    clear A130
    by_cases c14 : x5_1.length < 8796093022208
    ·rw [if_pos c14] at H
     have LMc14 := aK c14
     clear c14
     obtain ⟨y224, hy224⟩ : ∃ y_ : List (SEntry), y_ = (x5_1 ++ [(⟨x7_1, t221⟩ : SEntry)]) := ⟨_, rfl⟩
     replace H : ((spec_l01Below.f s0_0 t222 t223 7).bind fun bt227 => (spec_l36List.l0 k1 y224 t214 (wrap64 ((wrap64 (x7_1 + 1)) + bt227.1)) (wrap64 (x8_1 + 1)) s0_0 bt227.2.1 bt227.2.2 a1_0 a1_1 a1_2 a1_3 l1_4)) = some (r1, r2, r3) := by first | (rw [hy224]; with_reducible exact H) | (have H2_ := (Option.bind_some _ _).symm.trans H; rw [hy224]; with_reducible exact H2_) | (have H2_ := (Option.bind_some _ _).symm.trans H; with_reducible exact H2_) | with_reducible exact H | (rw [hy224]; exact H) | exact H
     have Ny224 := aK hy224
     clear hy224
     replace H := Option.bind_eq_some_iff.mp H
     obtain ⟨⟨t227, t228, t229⟩, A150, H⟩ := H
     replace H : (spec_l36List.l0 k1 y224 t214 (wrap64 ((wrap64 (x7_1 + 1)) + t227)) (wrap64 (x8_1 + 1)) s0_0 t228 t229 a1_0 a1_1 a1_2 a1_3 l1_4) = some (r1, r2, r3) := H
     have A15 := aK A150
     clear A150
     have H' := aK H
     clear H
     have hnb16 := NB210_0.out
     have hnc16 := NB0_210.out
     obtain ⟨hcz17_0, hcz17_1, hcz17_2, hcz17_3, hcz17_4, hfz17_0, hfz17_1, hfz17_2, hfz17_3, hfz17_4⟩ := cl5 BK210.out
     go_wp2_with (first | ((with_reducible refine gate_callee (f := 30) rfl ?_); refine goesL_ (some 25) rfl rfl Try.func30 (by kernel_rfl) rfl #[.agg #[.int .i64 a1_0, .int .i64 a1_1]] rfl (by (try simp only [List.map_toArray, List.map_cons, List.map_nil]); first | done | rfl | (simp only [List.length_drop, List.length_take]; rfl)) ?_; (with_reducible refine (spec_CountCells.calls a1_0 a1_1 t220 _ A11.out).mono ?_); rintro e w18 ⟨rfl, hb⟩; refine ⟨_, rfl, ?_⟩; have n0_ := aK (Kd.R_below (by (with_reducible repeat (first | apply Kd.R_alloc | apply Kd.R_drewN | apply Kd.R_drew)); exact HO_5.out) hb); have n1_ := bkb BK210 hb (by intro z_; (with_reducible repeat (first | refine kDN ?_ _ | refine kD ?_ | refine kA ?_ _)); exact z_); have n2_ := aK (IsS146.below (by repeat (first | (with_reducible first | exact HI0.out | apply IsS146.alloc | apply IsS146.drewN | apply IsS146.drew | apply IsS146.set_1 | apply IsS146.set_2 | refine IsS146.far ?_ NB0_210.out _) | exact HI0.out)) hb); have n3_ := aK (KeepBut.trans (by repeat (first | (with_reducible first | exact HK.out | apply KeepBut.set_ | apply keep_drewN | apply keep_drew | apply keep_alloc | refine keep_far ?_ GW210.out _) | exact HK.out)) (KeepBut.of_below hb g none) (.inl rfl)); have n4_ := aK (bSp (by repeat (first | (with_reducible first | exact HB.out | apply bAl | apply bDN | apply bD1 | refine bSt ?_ (IsS146.ge HI0.out) | refine bSt ?_ GE210.out) | exact HB.out)) hb); clear HO_5; clear BK210; clear HI0; clear HK; clear HB; have HO_5 := n0_; have BK210 := n1_; have HI0 := n2_; have HK := n3_; have HB := n4_; clear n0_ n1_ n2_ n3_ n4_; (try clear hb); (try clear hb2); (try clear hk); (try clear hi)) | ((with_reducible refine gate_callee (f := 72) rfl ?_); refine goesL_ (some 27) rfl rfl Try.func72 (by kernel_rfl) rfl #[.pointer (some ⟨g, 0, none⟩), .int .i64 ji12] rfl (by (try simp only [List.map_toArray, List.map_cons, List.map_nil]); first | done | (simp only [hji12]; rfl) | rfl | (simp only [List.length_drop, List.length_take]; rfl)) ?_; (with_reducible refine (spec_l01Below.calls g s0_0 x1001_1 x1002_1 ji12 t221 t222 t223 w0 _ ?side1 ?side2 A13.out).mono ?_); (case side1 => repeat (first | (with_reducible first | exact HI0.out | apply IsS146.alloc | apply IsS146.drewN | apply IsS146.drew | apply IsS146.set_1 | apply IsS146.set_2 | refine IsS146.far ?_ NB0_210.out _) | exact HI0.out)); (case side2 => repeat (first | (with_reducible first | exact HB.out | apply bAl | apply bDN | apply bD1 | refine bSt ?_ (IsS146.ge HI0.out) | refine bSt ?_ GE210.out) | exact HB.out)); rintro e w19 ⟨rfl, hi, hb, hk⟩; refine ⟨_, rfl, ?_⟩; have n0_ := aK (Kd.R_mono (Kd.R_keep (IsS146.apart (show IsS146 w0 _ g s0_0 x1001_1 x1002_1 from by repeat (first | (with_reducible first | exact HI0.out | apply IsS146.alloc | apply IsS146.drewN | apply IsS146.drew | apply IsS146.set_1 | apply IsS146.set_2 | refine IsS146.far ?_ NB0_210.out _) | exact HI0.out)) (by (with_reducible repeat (first | apply Kd.R_alloc | apply Kd.R_drewN | apply Kd.R_drew)); exact HO_5.out) (by decide)) hk (fun _ h => h.2)) (fun _ h => h.1)); have n1_ := aK (KeepBut.blk hk (g' := gb210) (o := .cells #[.int .i64 a1_0, .int .i64 a1_1, .int .i64 a1_2, .int .i64 a1_3, .slice A1_4 l1_4.length c1_4] 30 (0, 0)) (by (with_reducible repeat (first | refine kDN ?_ _ | refine kD ?_ | refine kA ?_ _)); exact BK210.out) NB210_0.out (by simp)); have n2_ := aK (KeepBut.trans (by repeat (first | (with_reducible first | exact HK.out | apply KeepBut.set_ | apply keep_drewN | apply keep_drew | apply keep_alloc | refine keep_far ?_ GW210.out _) | exact HK.out)) hk (.inl rfl)); have n3_ := aK (hb); have n4_ := aK (hi); clear HO_5; clear BK210; clear HK; clear HB; clear HI0; have HO_5 := n0_; have BK210 := n1_; have HK := n2_; have HB := n3_; have HI0 := n4_; clear n0_ n1_ n2_ n3_ n4_; (try clear hb); (try clear hb2); (try clear hk); (try clear hi)) | ((with_reducible refine gate_builtin (b := .append) (xs := #[.tmp 19, .tmp 29]) rfl ?_); at_builtin; refine Kd.R_append k37 w.heap.size rfl (.tmp 19) (.tmp 29) 31 37 (.agg #[(.int .i64 0), (.int .i64 0)]) 16 rfl Try.underlying31 info37 rfl (by decide) (by omega) u5 x5_1 (⟨x7_1, t221⟩ : SEntry) [.int .i64 x7_1, .int .i64 t221] (fun _ => True) (fun _ => False) rfl rfl ?aP (fun _ hk => hk.elim) ?aF ?aO (Below.refl _ _) ?aS ?aL ?_; (case aP => exact k37_mkM _ _ _ (⟨x7_1, t221⟩ : SEntry)); (case aF => exact (fun _ _ => trivial)); (case aO => exact (by (with_reducible repeat (first | apply Kd.R_alloc | apply Kd.R_drewN | apply Kd.R_drew)); exact HO_5.out)); (case aS => exact (keep_size (w := w) (g := g) (row := none) (by repeat (first | (with_reducible first | exact HK.out | apply KeepBut.set_ | apply keep_drewN | apply keep_drew | apply keep_alloc | refine keep_far ?_ GW210.out _) | exact HK.out)))); (case aL => have := LMc14.out; omega); intro v225 w20 ho hb hg hat; rw [← Ny224.out] at ho; have n0_ := aK (blk_grown (g := gb210) (o := .cells #[.int .i64 a1_0, .int .i64 a1_1, .int .i64 a1_2, .int .i64 a1_3, .slice A1_4 l1_4.length c1_4] 30 (0, 0)) (by (with_reducible repeat (first | refine kDN ?_ _ | refine kD ?_ | refine kA ?_ _)); exact BK210.out) hg (Kd.R_ne HO_5.out BK210.out (by decide))); have n1_ := aK (IsS146.grown (show IsS146 w0 _ g s0_0 t222 t223 from by repeat (first | (with_reducible first | exact HI0.out | apply IsS146.alloc | apply IsS146.drewN | apply IsS146.drew | apply IsS146.set_1 | apply IsS146.set_2 | refine IsS146.far ?_ NB0_210.out _) | exact HI0.out)) hg (IsS146.own_ne HI0.out HO_5.out (by decide))); have n2_ := aK (below_weaken (by repeat (first | (with_reducible first | exact HB.out | apply bAl | apply bDN | apply bD1 | refine bSt ?_ (IsS146.ge HI0.out) | refine bSt ?_ GE210.out) | exact HB.out)) HL.out hb); have n3_ := aK (KeepBut.trans (by repeat (first | (with_reducible first | exact HK.out | apply KeepBut.set_ | apply keep_drewN | apply keep_drew | apply keep_alloc | refine keep_far ?_ GW210.out _) | exact HK.out)) (KeepBut.of_grown hg g) (Kd.R_base2 HO_5.out)); have n4_ := aK (ho); clear BK210; clear HI0; clear HB; clear HK; clear HO_5; have BK210 := n0_; have HI0 := n1_; have HB := n2_; have HK := n3_; have HO226 := n4_; clear n0_ n1_ n2_ n3_ n4_; clear ho hb hg hat) | ((with_reducible refine gate_callee (f := 72) rfl ?_); refine goesL_ (some 34) rfl rfl Try.func72 (by kernel_rfl) rfl #[.pointer (some ⟨g, 0, none⟩), .int .i64 7] rfl (by (try simp only [List.map_toArray, List.map_cons, List.map_nil]); first | done | rfl | (simp only [List.length_drop, List.length_take]; rfl)) ?_; (with_reducible refine (spec_l01Below.calls g s0_0 t222 t223 7 t227 t228 t229 w0 _ ?side1 ?side2 A15.out).mono ?_); (case side1 => repeat (first | (with_reducible first | exact HI0.out | apply IsS146.alloc | apply IsS146.drewN | apply IsS146.drew | apply IsS146.set_1 | apply IsS146.set_2 | refine IsS146.far ?_ NB0_210.out _) | exact HI0.out)); (case side2 => repeat (first | (with_reducible first | exact HB.out | apply bAl | apply bDN | apply bD1 | refine bSt ?_ (IsS146.ge HI0.out) | refine bSt ?_ GE210.out) | exact HB.out)); rintro e w21 ⟨rfl, hi, hb, hk⟩; refine ⟨_, rfl, ?_⟩; have n0_ := aK (KeepBut.blk hk (g' := gb210) (o := .cells #[.int .i64 a1_0, .int .i64 a1_1, .int .i64 a1_2, .int .i64 a1_3, .slice A1_4 l1_4.length c1_4] 30 (0, 0)) (by (with_reducible repeat (first | refine kDN ?_ _ | refine kD ?_ | refine kA ?_ _)); exact BK210.out) NB210_0.out (by simp)); have n1_ := aK (Kd.R_mono (Kd.R_keep (IsS146.apart (show IsS146 w0 _ g s0_0 t222 t223 from by repeat (first | (with_reducible first | exact HI0.out | apply IsS146.alloc | apply IsS146.drewN | apply IsS146.drew | apply IsS146.set_1 | apply IsS146.set_2 | refine IsS146.far ?_ NB0_210.out _) | exact HI0.out)) (by (with_reducible repeat (first | apply Kd.R_alloc | apply Kd.R_drewN | apply Kd.R_drew)); exact HO226.out) (by decide)) hk (fun _ h => h.2)) (fun _ h => h.1)); have n2_ := aK (KeepBut.trans (by repeat (first | (with_reducible first | exact HK.out | apply KeepBut.set_ | apply keep_drewN | apply keep_drew | apply keep_alloc | refine keep_far ?_ GW210.out _) | exact HK.out)) hk (.inl rfl)); have n3_ := aK (hb); have n4_ := aK (hi); clear BK210; clear HO226; clear HK; clear HB; clear HI0; have BK210 := n0_; have HO226 := n1_; have HK := n2_; have HB := n3_; have HI0 := n4_; clear n0_ n1_ n2_ n3_ n4_; (try clear hb); (try clear hb2); (try clear hk); (try clear hi)))
     go_roundg k1
     case measure => have := HK1.out; omega
     case rel => exact ⟨(y224), (wrap64 ((wrap64 (x7_1 + 1)) + t227)), (wrap64 (x8_1 + 1)), (t228), (t229), (by first | rfl | (simp; done) | (simp [*]; done)), (by first | rfl | (simp; done) | (simp [*]; done)), H', ⟨by have := HK1.out; omega⟩, ⟨by (with_reducible repeat (first | apply Kd.R_alloc | apply Kd.R_drewN | apply Kd.R_drew)); exact HO226.out⟩, ⟨by (with_reducible repeat (first | refine kDN ?_ _ | refine kD ?_ | refine kA ?_ _)); exact BK210.out⟩, ⟨by repeat (first | (with_reducible first | exact HI0.out | apply IsS146.alloc | apply IsS146.drewN | apply IsS146.drew | apply IsS146.set_1 | apply IsS146.set_2 | refine IsS146.far ?_ NB0_210.out _) | exact HI0.out)⟩, ⟨by repeat (first | (with_reducible first | exact HK.out | apply KeepBut.set_ | apply keep_drewN | apply keep_drew | apply keep_alloc | refine keep_far ?_ GW210.out _) | exact HK.out)⟩, ⟨by repeat (first | (with_reducible first | exact HB.out | apply bAl | apply bDN | apply bD1 | refine bSt ?_ (IsS146.ge HI0.out) | refine bSt ?_ GE210.out) | exact HB.out)⟩⟩
    ·rw [if_neg c14] at H
     exact absurd H (by simp)
   ·rw [if_neg c10] at H
    have c10b0 : decide (x8_1 < t214) = false := decide_eq_false c10
    clear c10
    simp only [Option.some.injEq, Prod.mk.injEq] at H
    obtain ⟨rfl, rfl, rfl⟩ := H
    go_wp2
    go_ret
    exact ⟨_, by first | rfl | (simp [errW_none, errW_some] <;> rfl) | (simp [*, errW_none, errW_some] <;> rfl), by (with_reducible repeat (first | apply Kd.R_alloc | apply Kd.R_drewN | apply Kd.R_drew)); exact HO_5.out, by repeat (first | (with_reducible first | exact HI0.out | apply IsS146.alloc | apply IsS146.drewN | apply IsS146.drew | apply IsS146.set_1 | apply IsS146.set_2 | refine IsS146.far ?_ NB0_210.out _) | exact HI0.out), by repeat (first | (with_reducible first | exact HB.out | apply bAl | apply bDN | apply bD1 | refine bSt ?_ (IsS146.ge HI0.out) | refine bSt ?_ GE210.out) | exact HB.out), by repeat (first | (with_reducible first | exact HK.out | apply KeepBut.set_ | apply keep_drewN | apply keep_drew | apply keep_alloc | refine keep_far ?_ GW210.out _) | exact HK.out)⟩
set_option maxHeartbeats 8000000 in
set_option maxRecDepth 100000 in
theorem spec_DrawRecord.calls (k : Nat) (A0 : Option Addr) (c0 : Nat) (l0 : List Int) (r1 : Int) (r2 : Int) (r3 : Int) (r4 : Int) (r5 : List (SGate)) (r6 : List (SEntry)) (w : World) (hr0 : Kd.C (Kd.int .u8) w A0 l0.length l0) (hc0 : l0.length ≤ c0) (h : spec_DrawRecord.f k l0 = some (r1, r2, r3, r4, r5, r6)) :
  Calls Try.prog 13 #[.slice A0 l0.length c0] w fun e w' => ∃ v4_ v5_ : Value, e = .returned (.tuple #[.agg #[.int .i64 r1, .int .i64 r2, .int .i64 r3, .int .i64 r4, v4_], v5_]) ∧ Kd.R k150 150 w' w.heap.size (fun _ => True) v4_ r5 ∧ Kd.R k37 37 w' w.heap.size (fun _ => True) v5_ r6 ∧ Below w.heap.size w w' := by
 have hu30 := Try.underlying30
 have HR0 := aK hr0
 have HC0 := aK hc0
 clear hr0 hc0
 have HB := aK (Below.refl w.heap.size w)
 have H : ((spec_l01New.f k l0).bind fun bt231 => ((spec_l29Timed.f k bt231.1 bt231.2.1 bt231.2.2).bind fun bt235 => ((spec_l36List.f k bt231.1 bt235.2.2.2.2.2.1 bt235.2.2.2.2.2.2 bt235.1 bt235.2.1 bt235.2.2.1 bt235.2.2.2.1 bt235.2.2.2.2.1).bind fun bt245 => (some (bt235.1, bt235.2.1, bt235.2.2.1, bt235.2.2.2.1, bt235.2.2.2.2.1, bt245.1))))) = some (r1, r2, r3, r4, r5, r6) := h
 clear h
 replace H := Option.bind_eq_some_iff.mp H
 obtain ⟨⟨t231, t232, t233⟩, A20, H⟩ := H
 replace H : ((spec_l29Timed.f k t231 t232 t233).bind fun bt235 => ((spec_l36List.f k t231 bt235.2.2.2.2.2.1 bt235.2.2.2.2.2.2 bt235.1 bt235.2.1 bt235.2.2.1 bt235.2.2.2.1 bt235.2.2.2.2.1).bind fun bt245 => (some (bt235.1, bt235.2.1, bt235.2.2.1, bt235.2.2.2.1, bt235.2.2.2.2.1, bt245.1)))) = some (r1, r2, r3, r4, r5, r6) := H
 have A2 := aK A20
 clear A20
 replace H := Option.bind_eq_some_iff.mp H
 obtain ⟨⟨t235, t236, t237, t238, t239, t242, t243⟩, A30, H⟩ := H
 replace H : ((spec_l36List.f k t231 t242 t243 t235 t236 t237 t238 t239).bind fun bt245 => (some (t235, t236, t237, t238, t239, bt245.1))) = some (r1, r2, r3, r4, r5, r6) := H
 have A3 := aK A30
 clear A30
 replace H := Option.bind_eq_some_iff.mp H
 obtain ⟨⟨t245, t248, t249⟩, A40, H⟩ := H
 replace H : (some (t235, t236, t237, t238, t239, t245)) = some (r1, r2, r3, r4, r5, r6) := H
 have A4 := aK A40
 clear A40
 simp only [Option.some.injEq, Prod.mk.injEq] at H
 obtain ⟨rfl, rfl, rfl, rfl, rfl, rfl⟩ := H
 go_enter Try.func13, Try.ntmps13
 try go_wp2_with (first | ((with_reducible refine gate_dst (N := 2) rfl ?_); refine box_event ?hg (N := 2) ?hd (cs := #[.int .i64 0, .int .i64 0, .int .i64 0, .int .i64 0, .slice none 0 0]) (t := 30) ?hr ?_; (case hd => rfl); (case hg => rfl); (case hr => first | (go_simp; done) | (go_simp; rfl)); intro gb230 hg w5 hbox hb; have n0_ := aK (bSp (by repeat (first | (with_reducible first | exact HB.out | apply bAl | apply bDN | apply bD1) | exact HB.out)) hb); have n1_ := aK (hbox); have n2_ := aK ((by rw [hg]; exact (bSz (by repeat (first | (with_reducible first | exact HB.out | apply bAl | apply bDN | apply bD1) | exact HB.out))) : w.heap.size ≤ gb230)); have n3_ := n2_; clear HB; have HB := n0_; have BK230 := n1_; have GW230 := n2_; have GE230 := n3_; clear n0_ n1_ n2_ n3_; clear hb hbox hg) | ((with_reducible refine gate_callee (f := 60) rfl ?_); refine goesL_ (some 7) rfl rfl Try.func60 (by kernel_rfl) rfl #[.slice A0 l0.length c0] rfl (by (try simp only [List.map_toArray, List.map_cons, List.map_nil]); first | done | rfl | (simp only [List.length_drop, List.length_take]; rfl)) ?_; (with_reducible refine (spec_l01New.calls k _ _ l0 t231 t232 t233 w _ ?side1 ?side2 ?side3 A2.out).mono ?_); (case side1 => repeat (first | (with_reducible first | exact HB.out | apply bAl | apply bDN | apply bD1 | refine bSt ?_ GE230.out) | exact HB.out)); (case side2 => exact HR0.out); (case side3 => exact HC0.out); rintro e w6 ⟨g234, rfl, hi, hb, hb2⟩; refine ⟨_, rfl, ?_⟩; have n0_ := aK (blk_below (g := gb230) (o := .cells #[.int .i64 0, .int .i64 0, .int .i64 0, .int .i64 0, .slice none 0 0] 30 (0, 0)) (by (with_reducible repeat (first | refine kDN ?_ _ | refine kD ?_ | refine kA ?_ _)); exact BK230.out) hb2); have n1_ := aK (hb); have n2_ := aK (hi); have n3_ := aK (IsS146.ne_blk hi (blk_below (g := gb230) (o := .cells #[.int .i64 0, .int .i64 0, .int .i64 0, .int .i64 0, .slice none 0 0] 30 (0, 0)) (by (with_reducible repeat (first | refine kDN ?_ _ | refine kD ?_ | refine kA ?_ _)); exact BK230.out) hb2) (by decide)); have n4_ := aK (Ne.symm (IsS146.ne_blk hi (blk_below (g := gb230) (o := .cells #[.int .i64 0, .int .i64 0, .int .i64 0, .int .i64 0, .slice none 0 0] 30 (0, 0)) (by (with_reducible repeat (first | refine kDN ?_ _ | refine kD ?_ | refine kA ?_ _)); exact BK230.out) hb2) (by decide))); clear BK230; clear HB; have BK230 := n0_; have HB := n1_; have HI234 := n2_; have NB234_230 := n3_; have NB230_234 := n4_; clear n0_ n1_ n2_ n3_ n4_; (try clear hb); (try clear hb2); (try clear hk); (try clear hi)) | ((with_reducible refine gate_callee (f := 61) rfl ?_); refine goesL_ (some 9) rfl rfl Try.func61 (by kernel_rfl) rfl #[.pointer (some ⟨g234, 0, none⟩)] rfl (by (try simp only [List.map_toArray, List.map_cons, List.map_nil]); first | done | rfl | (simp only [List.length_drop, List.length_take]; rfl)) ?_; (with_reducible refine (spec_l29Timed.calls k g234 t231 t232 t233 t235 t236 t237 t238 t239 t242 t243 w _ ?side1 ?side2 A3.out).mono ?_); (case side1 => repeat (first | (with_reducible first | exact HI234.out | apply IsS146.alloc | apply IsS146.drewN | apply IsS146.drew | apply IsS146.set_1 | apply IsS146.set_2 | refine IsS146.far ?_ NB234_230.out _) | exact HI234.out)); (case side2 => repeat (first | (with_reducible first | exact HB.out | apply bAl | apply bDN | apply bD1 | refine bSt ?_ (IsS146.ge HI234.out) | refine bSt ?_ GE230.out) | exact HB.out)); rintro e w7 ⟨v240, rfl, ho0, hi, hb, hk⟩; refine ⟨_, rfl, ?_⟩; have n0_ := aK (KeepBut.blk hk (g' := gb230) (o := .cells #[.int .i64 0, .int .i64 0, .int .i64 0, .int .i64 0, .slice none 0 0] 30 (0, 0)) (by (with_reducible repeat (first | refine kDN ?_ _ | refine kD ?_ | refine kA ?_ _)); exact BK230.out) NB230_234.out (by simp)); have n1_ := aK (Kd.R_lower ho0 (bSz (by repeat (first | (with_reducible first | exact HB.out | apply bAl | apply bDN | apply bD1 | refine bSt ?_ (IsS146.ge HI234.out) | refine bSt ?_ GE230.out) | exact HB.out)))); have n2_ := aK (hb); have n3_ := aK (hi); clear BK230; clear HB; clear HI234; have BK230 := n0_; have HO241 := n1_; have HB := n2_; have HI234 := n3_; clear n0_ n1_ n2_ n3_; (try clear hb); (try clear hb2); (try clear hk); (try clear hi); (try clear ho0)) | ((with_reducible refine gate_dst (N := 5) rfl ?_); refine box_event ?hg (N := 5) ?hd (cs := #[.int .i64 0, .int .i64 0, .int .i64 0, .int .i64 0, .slice none 0 0]) (t := 30) ?hr ?_; (case hd => rfl); (case hg => rfl); (case hr => first | (go_simp; done) | (go_simp; rfl)); intro gb244 hg w8 hbox hb; have n0_ := aK (Kd.R_below (by (with_reducible repeat (first | apply Kd.R_alloc | apply Kd.R_drewN | apply Kd.R_drew)); exact HO241.out) hb); have n1_ := bkb BK230 hb (by intro z_; (with_reducible repeat (first | refine kDN ?_ _ | refine kD ?_ | refine kA ?_ _)); exact z_); have n2_ := aK (IsS146.below (by repeat (first | (with_reducible first | exact HI234.out | apply IsS146.alloc | apply IsS146.drewN | apply IsS146.drew | apply IsS146.set_1 | apply IsS146.set_2 | refine IsS146.far ?_ NB234_230.out _) | exact HI234.out)) hb); have n3_ := aK (bSp (by repeat (first | (with_reducible first | exact HB.out | apply bAl | apply bDN | apply bD1 | refine bSt ?_ (IsS146.ge HI234.out) | refine bSt ?_ GE230.out) | exact HB.out)) hb); have n4_ := aK (hbox); have n5_ := aK ((by rw [hg]; exact (bSz (by repeat (first | (with_reducible first | exact HB.out | apply bAl | apply bDN | apply bD1 | refine bSt ?_ (IsS146.ge HI234.out) | refine bSt ?_ GE230.out) | exact HB.out))) : w.heap.size ≤ gb244)); have n6_ := n5_; have n7_ := nbl BK230 hg (by intro z_; (with_reducible repeat (first | refine kDN ?_ _ | refine kD ?_ | refine kA ?_ _)); exact z_); have n8_ := nbs n7_; have n9_ := aK ((by rw [hg]; exact Nat.ne_of_lt (IsS146.lt (show IsS146 w _ g234 t231 t242 t243 from by repeat (first | (with_reducible first | exact HI234.out | apply IsS146.alloc | apply IsS146.drewN | apply IsS146.drew | apply IsS146.set_1 | apply IsS146.set_2 | refine IsS146.far ?_ NB234_230.out _) | exact HI234.out))) : g234 ≠ gb244)); have n10_ := aK ((by rw [hg]; exact Nat.ne_of_gt (IsS146.lt (show IsS146 w _ g234 t231 t242 t243 from by repeat (first | (with_reducible first | exact HI234.out | apply IsS146.alloc | apply IsS146.drewN | apply IsS146.drew | apply IsS146.set_1 | apply IsS146.set_2 | refine IsS146.far ?_ NB234_230.out _) | exact HI234.out))) : gb244 ≠ g234)); clear HO241; clear BK230; clear HI234; clear HB; have HO241 := n0_; have BK230 := n1_; have HI234 := n2_; have HB := n3_; have BK244 := n4_; have GW244 := n5_; have GE244 := n6_; have NB230_244 := n7_; have NB244_230 := n8_; have NB234_244 := n9_; have NB244_234 := n10_; clear n0_ n1_ n2_ n3_ n4_ n5_ n6_ n7_ n8_ n9_ n10_; clear hb hbox hg; have hnb9 := NB244_230.out; have hnc9 := NB230_244.out; have hnb10 := NB244_234.out; have hnc10 := NB234_244.out; obtain ⟨hcz11_0, hcz11_1, hcz11_2, hcz11_3, hcz11_4, hfz11_0, hfz11_1, hfz11_2, hfz11_3, hfz11_4⟩ := cl5 BK244.out; obtain ⟨Ao12, co12, eo12⟩ := Kd.R_slice HO241.out; subst eo12))
 have n0_ : Aside0 (Kd.R k150 150 (((((w8.setCell ⟨gb244, 0, none⟩ (.int .i64 t235)).setCell ⟨gb244, 1, none⟩ (.int .i64 t236)).setCell ⟨gb244, 2, none⟩ (.int .i64 t237)).setCell ⟨gb244, 3, none⟩ (.int .i64 t238)).setCell ⟨gb244, 4, none⟩ (.slice Ao12 t239.length co12)) w.heap.size (fun _ => True) (.slice Ao12 t239.length co12) t239) := ⟨by (with_reducible repeat (first | apply Kd.R_alloc | apply Kd.R_drewN | apply Kd.R_drew)); exact Kd.R_mono (Kd.R_far (p := ⟨gb244, 4, none⟩) (Kd.R_far (p := ⟨gb244, 3, none⟩) (Kd.R_far (p := ⟨gb244, 2, none⟩) (Kd.R_far (p := ⟨gb244, 1, none⟩) (Kd.R_far (p := ⟨gb244, 0, none⟩) (Kd.R_types HO241.out BK244.out (by decide)) (fun _ hk => hk.2) (.int .i64 t235)) (fun _ hk => hk.2) (.int .i64 t236)) (fun _ hk => hk.2) (.int .i64 t237)) (fun _ hk => hk.2) (.int .i64 t238)) (fun _ hk => hk.2) (.slice Ao12 t239.length co12)) (fun _ hk => trivial)⟩
 have n1_ : Aside0 ((((((w8.setCell ⟨gb244, 0, none⟩ (.int .i64 t235)).setCell ⟨gb244, 1, none⟩ (.int .i64 t236)).setCell ⟨gb244, 2, none⟩ (.int .i64 t237)).setCell ⟨gb244, 3, none⟩ (.int .i64 t238)).setCell ⟨gb244, 4, none⟩ (.slice Ao12 t239.length co12)).heap[gb230]? = some (.cells #[.int .i64 0, .int .i64 0, .int .i64 0, .int .i64 0, .slice none 0 0] 30 (0, 0))) := ⟨by (with_reducible repeat (first | refine kDN ?_ _ | refine kD ?_ | refine kA ?_ _)); refine blk_far ?_ NB230_244.out _; (with_reducible repeat (first | refine kDN ?_ _ | refine kD ?_ | refine kA ?_ _)); refine blk_far ?_ NB230_244.out _; (with_reducible repeat (first | refine kDN ?_ _ | refine kD ?_ | refine kA ?_ _)); refine blk_far ?_ NB230_244.out _; (with_reducible repeat (first | refine kDN ?_ _ | refine kD ?_ | refine kA ?_ _)); refine blk_far ?_ NB230_244.out _; (with_reducible repeat (first | refine kDN ?_ _ | refine kD ?_ | refine kA ?_ _)); refine blk_far ?_ NB230_244.out _; (with_reducible repeat (first | refine kDN ?_ _ | refine kD ?_ | refine kA ?_ _)); exact BK230.out⟩
 have n2_ : Aside0 ((((((w8.setCell ⟨gb244, 0, none⟩ (.int .i64 t235)).setCell ⟨gb244, 1, none⟩ (.int .i64 t236)).setCell ⟨gb244, 2, none⟩ (.int .i64 t237)).setCell ⟨gb244, 3, none⟩ (.int .i64 t238)).setCell ⟨gb244, 4, none⟩ (.slice Ao12 t239.length co12)).heap[gb244]? = some (.cells #[.int .i64 t235, .int .i64 t236, .int .i64 t237, .int .i64 t238, .slice Ao12 t239.length co12] 30 (0, 0))) := ⟨by (with_reducible repeat (first | refine kDN ?_ _ | refine kD ?_ | refine kA ?_ _)); refine blk_put (cs := #[.int .i64 t235, .int .i64 t236, .int .i64 t237, .int .i64 t238, .slice none 0 0]) ?_ 4 _ rfl; (with_reducible repeat (first | refine kDN ?_ _ | refine kD ?_ | refine kA ?_ _)); refine blk_put (cs := #[.int .i64 t235, .int .i64 t236, .int .i64 t237, .int .i64 0, .slice none 0 0]) ?_ 3 _ rfl; (with_reducible repeat (first | refine kDN ?_ _ | refine kD ?_ | refine kA ?_ _)); refine blk_put (cs := #[.int .i64 t235, .int .i64 t236, .int .i64 0, .int .i64 0, .slice none 0 0]) ?_ 2 _ rfl; (with_reducible repeat (first | refine kDN ?_ _ | refine kD ?_ | refine kA ?_ _)); refine blk_put (cs := #[.int .i64 t235, .int .i64 0, .int .i64 0, .int .i64 0, .slice none 0 0]) ?_ 1 _ rfl; (with_reducible repeat (first | refine kDN ?_ _ | refine kD ?_ | refine kA ?_ _)); refine blk_put (cs := #[.int .i64 0, .int .i64 0, .int .i64 0, .int .i64 0, .slice none 0 0]) ?_ 0 _ rfl; (with_reducible repeat (first | refine kDN ?_ _ | refine kD ?_ | refine kA ?_ _)); exact BK244.out⟩
 have n3_ : Aside0 (IsS146 w (((((w8.setCell ⟨gb244, 0, none⟩ (.int .i64 t235)).setCell ⟨gb244, 1, none⟩ (.int .i64 t236)).setCell ⟨gb244, 2, none⟩ (.int .i64 t237)).setCell ⟨gb244, 3, none⟩ (.int .i64 t238)).setCell ⟨gb244, 4, none⟩ (.slice Ao12 t239.length co12)) g234 t231 t242 t243) := ⟨by repeat (first | (with_reducible first | exact HI234.out | apply IsS146.alloc | apply IsS146.drewN | apply IsS146.drew | apply IsS146.set_1 | apply IsS146.set_2 | refine IsS146.far ?_ NB234_230.out _ | refine IsS146.far ?_ NB234_244.out _) | exact HI234.out)⟩
 have n4_ : Aside0 (Below w.heap.size w (((((w8.setCell ⟨gb244, 0, none⟩ (.int .i64 t235)).setCell ⟨gb244, 1, none⟩ (.int .i64 t236)).setCell ⟨gb244, 2, none⟩ (.int .i64 t237)).setCell ⟨gb244, 3, none⟩ (.int .i64 t238)).setCell ⟨gb244, 4, none⟩ (.slice Ao12 t239.length co12))) := ⟨by repeat (first | (with_reducible first | exact HB.out | apply bAl | apply bDN | apply bD1 | refine bSt ?_ (IsS146.ge HI234.out) | refine bSt ?_ GE230.out | refine bSt ?_ GE244.out) | exact HB.out)⟩
 (try clear HO241)
 (try clear BK230)
 (try clear BK244)
 (try clear HI234)
 (try clear HB)
 generalize (((((w8.setCell ⟨gb244, 0, none⟩ (.int .i64 t235)).setCell ⟨gb244, 1, none⟩ (.int .i64 t236)).setCell ⟨gb244, 2, none⟩ (.int .i64 t237)).setCell ⟨gb244, 3, none⟩ (.int .i64 t238)).setCell ⟨gb244, 4, none⟩ (.slice Ao12 t239.length co12)) = w13 at n0_ n1_ n2_ n3_ n4_ ⊢
 have HO241 := n0_
 have BK230 := n1_
 have BK244 := n2_
 have HI234 := n3_
 have HB := n4_
 clear n0_ n1_ n2_ n3_ n4_
 have n0_ := aK (Kd.R_drew HO241.out)
 have n1_ := aK (kD BK230.out)
 have n2_ := aK (kD BK244.out)
 have n3_ := aK (IsS146.drew HI234.out)
 have n4_ := aK (bD1 HB.out)
 clear HO241
 clear BK230
 clear BK244
 clear HI234
 clear HB
 have HO241 := n0_
 have BK230 := n1_
 have BK244 := n2_
 have HI234 := n3_
 have HB := n4_
 clear n0_ n1_ n2_ n3_ n4_
 refine start_ (n := 6) (S := fun w' => w'.cell? ⟨gb244, 0, none⟩ = some (.int .i64 t235) ∧ w'.cell? ⟨gb244, 1, none⟩ = some (.int .i64 t236) ∧ w'.cell? ⟨gb244, 2, none⟩ = some (.int .i64 t237) ∧ w'.cell? ⟨gb244, 3, none⟩ = some (.int .i64 t238) ∧ w'.cell? ⟨gb244, 4, none⟩ = some (.slice Ao12 t239.length co12)) (ds := []) #[bN,bN,bN,bN,bN,bN] (by kernel_rfl) rfl rfl ⟨(kC BK244.out 0).trans rfl, (kC BK244.out 1).trans rfl, (kC BK244.out 2).trans rfl, (kC BK244.out 3).trans rfl, (kC BK244.out 4).trans rfl⟩ (fun hHeld => ?_)
 generalize w13.drew = w14 at HO241 BK230 BK244 HI234 HB hHeld ⊢
 refine pure_ (i := 1) (N := some 11) (v := ?_) (a' := ?_) #[bN,bY,bN,bN,bN,bN] rfl rfl (by kernel_rfl) (fun _ _ _ h => h) (Or.inl ⟨by rfl, ?_⟩) ?_ ?_
 rotate_left
 ·intro w'
  go_simp
  with_reducible rfl
 rotate_left
 ·simp only [Act.put, sTA, sZ, sS, i64_w, i32_w]
  rfl
 refine take_ (i := 0) (N := some 10) (v := ?_) (a' := ?_) #[bY,bY,bN,bN,bN,bN] rfl rfl (by kernel_rfl) (fun _ _ _ h => h) (Or.inl ⟨by rfl, ?_⟩) hHeld ?_ ?_
 rotate_left
 ·rintro w' ⟨s0, s1, s2, s3, s4⟩
  go_simp
  with_reducible rfl
 rotate_left
 ·simp only [Act.put, sTA, sZ, sS, i64_w, i32_w]
  rfl
 refine take_ (i := 2) (N := some 12) (v := ?_) (a' := ?_) #[bY,bY,bY,bN,bN,bN] rfl rfl (by kernel_rfl) (fun _ _ _ h => h) (Or.inl ⟨by rfl, ?_⟩) hHeld ?_ ?_
 rotate_left
 ·rintro w' ⟨s0, s1, s2, s3, s4⟩
  go_simp
  with_reducible rfl
 rotate_left
 ·simp only [Act.put, sTA, sZ, sS, i64_w, i32_w]
  rfl
 refine one_ (i := 3) (N := some 13) #[bY,bY,bY,bY,bN,bN] rfl rfl (by kernel_rfl) (by decide) (fun K hK => ?_)
 refine goes_ Try.func62 (by kernel_rfl) rfl #[.pointer (some ⟨g234, 0, none⟩), .agg #[.int .i64 t235, .int .i64 t236, .int .i64 t237, .int .i64 t238, .slice Ao12 t239.length co12]] (by rfl) rfl rfl (by (try simp only [List.map_toArray, List.map_cons, List.map_nil]); first | done | rfl | (simp only [List.length_drop, List.length_take]; rfl)) ?_
 with_reducible refine (spec_l36List.calls k g234 t231 t242 t243 t235 t236 t237 t238 _ _ t239 t245 t248 t249 w _ ?side1 ?side2 ?side3 ?side4 A4.out).mono ?_
 (case side1 => repeat (first | (with_reducible first | exact HI234.out | apply IsS146.alloc | apply IsS146.drewN | apply IsS146.drew | apply IsS146.set_1 | apply IsS146.set_2 | refine IsS146.far ?_ NB234_230.out _ | refine IsS146.far ?_ NB234_244.out _) | exact HI234.out))
 (case side2 => repeat (first | (with_reducible first | exact HB.out | apply bAl | apply bDN | apply bD1 | refine bSt ?_ (IsS146.ge HI234.out) | refine bSt ?_ GE230.out | refine bSt ?_ GE244.out) | exact HB.out))
 (case side3 => exact Kd.C_foot_own (IsS146.apart (show IsS146 w _ g234 t231 t242 t243 from by repeat (first | (with_reducible first | exact HI234.out | apply IsS146.alloc | apply IsS146.drewN | apply IsS146.drew | apply IsS146.set_1 | apply IsS146.set_2 | refine IsS146.far ?_ NB234_230.out _ | refine IsS146.far ?_ NB234_244.out _) | exact HI234.out)) (by (with_reducible repeat (first | apply Kd.R_alloc | apply Kd.R_drewN | apply Kd.R_drew)); exact HO241.out) (by decide)) (fun _ h_ => h_.2))
 (case side4 => exact (Kd.R_reads' HO241.out).2.1)
 rintro e w15 ⟨v246, rfl, ho0, hi, hb, hk⟩
 refine ⟨_, rfl, ?_⟩
 have n0_ := aK (KeepBut.blk hk (g' := gb230) (o := .cells #[.int .i64 0, .int .i64 0, .int .i64 0, .int .i64 0, .slice none 0 0] 30 (0, 0)) (by (with_reducible repeat (first | refine kDN ?_ _ | refine kD ?_ | refine kA ?_ _)); exact BK230.out) NB230_234.out (by simp))
 have n1_ := aK (Kd.R_mono (Kd.R_keep (IsS146.apart (show IsS146 w _ g234 t231 t242 t243 from by repeat (first | (with_reducible first | exact HI234.out | apply IsS146.alloc | apply IsS146.drewN | apply IsS146.drew | apply IsS146.set_1 | apply IsS146.set_2 | refine IsS146.far ?_ NB234_230.out _ | refine IsS146.far ?_ NB234_244.out _) | exact HI234.out)) (by (with_reducible repeat (first | apply Kd.R_alloc | apply Kd.R_drewN | apply Kd.R_drew)); exact HO241.out) (by decide)) hk (fun _ h => h.2)) (fun _ h => h.1))
 have n2_ := aK (KeepBut.blk hk (g' := gb244) (o := .cells #[.int .i64 t235, .int .i64 t236, .int .i64 t237, .int .i64 t238, .slice Ao12 t239.length co12] 30 (0, 0)) (by (with_reducible repeat (first | refine kDN ?_ _ | refine kD ?_ | refine kA ?_ _)); exact BK244.out) NB244_234.out (by simp))
 have n3_ := aK (Kd.R_lower ho0 (bSz (by repeat (first | (with_reducible first | exact HB.out | apply bAl | apply bDN | apply bD1 | refine bSt ?_ (IsS146.ge HI234.out) | refine bSt ?_ GE230.out | refine bSt ?_ GE244.out) | exact HB.out))))
 have n4_ := aK (hb)
 have n5_ := aK (hi)
 clear BK230
 clear HO241
 clear BK244
 clear HB
 clear HI234
 have BK230 := n0_
 have HO241 := n1_
 have BK244 := n2_
 have HO247 := n3_
 have HB := n4_
 have HI234 := n5_
 clear n0_ n1_ n2_ n3_ n4_ n5_
 (try clear hb)
 (try clear hb2)
 (try clear hk)
 (try clear hi)
 (try clear ho0)
 refine hK.out _ _ ⟨(kC BK244.out 0).trans rfl, (kC BK244.out 1).trans rfl, (kC BK244.out 2).trans rfl, (kC BK244.out 3).trans rfl, (kC BK244.out 4).trans rfl⟩ (fun hHeld => ?_)
 clear hK K
 refine norm_ (a' := ?_) ?_ ?_
 rotate_left
 ·show Act.put _ (some 13) _ = _
  simp only [Act.put, sTA, sZ, sS, i64_w, i32_w]
  rfl
 refine one_ (i := 4) (N := none) #[bY,bY,bY,bY,bY,bN] rfl rfl (by kernel_rfl) (by decide) (fun K hK => ?_)
 have hs16 : w15.cell? ⟨gb230, 0, none⟩ = some (.int .i64 0) := (kC BK230.out 0).trans rfl
 have hfs16 := kF BK230.out 0
 have hns16_1 := NB244_230.out
 have hms16_1 := NB230_244.out
 have hs17 : w15.cell? ⟨gb230, 1, none⟩ = some (.int .i64 0) := (kC BK230.out 1).trans rfl
 have hfs17 := kF BK230.out 1
 have hns17_1 := NB244_230.out
 have hms17_1 := NB230_244.out
 have hs18 : w15.cell? ⟨gb230, 2, none⟩ = some (.int .i64 0) := (kC BK230.out 2).trans rfl
 have hfs18 := kF BK230.out 2
 have hns18_1 := NB244_230.out
 have hms18_1 := NB230_244.out
 have hs19 : w15.cell? ⟨gb230, 3, none⟩ = some (.int .i64 0) := (kC BK230.out 3).trans rfl
 have hfs19 := kF BK230.out 3
 have hns19_1 := NB244_230.out
 have hms19_1 := NB230_244.out
 have hs20 : w15.cell? ⟨gb230, 4, none⟩ = some (.slice none 0 0) := (kC BK230.out 4).trans rfl
 have hfs20 := kF BK230.out 4
 have hns20_1 := NB244_230.out
 have hms20_1 := NB230_244.out
 refine skip_ (w1 := ?_) (by rfl) rfl ?_ ?_
 rotate_left
 ·go_simp
  rfl
 refine hK.out _ _ ⟨((cell_far (p := ⟨gb230, _, none⟩) NB244_230.out _).trans (((cell_far (p := ⟨gb230, _, none⟩) NB244_230.out _).trans (((cell_far (p := ⟨gb230, _, none⟩) NB244_230.out _).trans (((cell_far (p := ⟨gb230, _, none⟩) NB244_230.out _).trans (((cell_far (p := ⟨gb230, _, none⟩) NB244_230.out _).trans (hHeld.1)))))))))), ((cell_far (p := ⟨gb230, _, none⟩) NB244_230.out _).trans (((cell_far (p := ⟨gb230, _, none⟩) NB244_230.out _).trans (((cell_far (p := ⟨gb230, _, none⟩) NB244_230.out _).trans (((cell_far (p := ⟨gb230, _, none⟩) NB244_230.out _).trans (((cell_far (p := ⟨gb230, _, none⟩) NB244_230.out _).trans (hHeld.2.1)))))))))), ((cell_far (p := ⟨gb230, _, none⟩) NB244_230.out _).trans (((cell_far (p := ⟨gb230, _, none⟩) NB244_230.out _).trans (((cell_far (p := ⟨gb230, _, none⟩) NB244_230.out _).trans (((cell_far (p := ⟨gb230, _, none⟩) NB244_230.out _).trans (((cell_far (p := ⟨gb230, _, none⟩) NB244_230.out _).trans (hHeld.2.2.1)))))))))), ((cell_far (p := ⟨gb230, _, none⟩) NB244_230.out _).trans (((cell_far (p := ⟨gb230, _, none⟩) NB244_230.out _).trans (((cell_far (p := ⟨gb230, _, none⟩) NB244_230.out _).trans (((cell_far (p := ⟨gb230, _, none⟩) NB244_230.out _).trans (((cell_far (p := ⟨gb230, _, none⟩) NB244_230.out _).trans (hHeld.2.2.2.1)))))))))), ((cell_far (p := ⟨gb230, _, none⟩) NB244_230.out _).trans (((cell_far (p := ⟨gb230, _, none⟩) NB244_230.out _).trans (((cell_far (p := ⟨gb230, _, none⟩) NB244_230.out _).trans (((cell_far (p := ⟨gb230, _, none⟩) NB244_230.out _).trans (((cell_far (p := ⟨gb230, _, none⟩) NB244_230.out _).trans (hHeld.2.2.2.2))))))))))⟩ (fun hHeld => ?_)
 clear hK K
 refine pure_ (i := 5) (N := some 3) (v := ?_) (a' := ?_) #[bY,bY,bY,bY,bY,bY] rfl rfl (by kernel_rfl) (fun _ _ _ h => h) (Or.inl ⟨by rfl, ?_⟩) ?_ ?_
 rotate_left
 ·intro w'
  go_simp
  with_reducible rfl
 rotate_left
 ·simp only [Act.put, sTA, sZ, sS, i64_w, i32_w]
  rfl
 refine done_ (by kernel_rfl) ?_
 try go_wp2
 refine bodyPost_ret (results_ct rfl _ _ gb230 30 #[.int .i64 t235, .int .i64 t236, .int .i64 t237, .int .i64 t238, .slice Ao12 t239.length co12] (0, 0) _ rfl (by (with_reducible repeat (first | refine kDN ?_ _ | refine kD ?_ | refine kA ?_ _)); refine blk_put (cs := #[.int .i64 t235, .int .i64 t236, .int .i64 t237, .int .i64 t238, .slice none 0 0]) ?_ 4 _ rfl; (with_reducible repeat (first | refine kDN ?_ _ | refine kD ?_ | refine kA ?_ _)); refine blk_put (cs := #[.int .i64 t235, .int .i64 t236, .int .i64 t237, .int .i64 0, .slice none 0 0]) ?_ 3 _ rfl; (with_reducible repeat (first | refine kDN ?_ _ | refine kD ?_ | refine kA ?_ _)); refine blk_put (cs := #[.int .i64 t235, .int .i64 t236, .int .i64 0, .int .i64 0, .slice none 0 0]) ?_ 2 _ rfl; (with_reducible repeat (first | refine kDN ?_ _ | refine kD ?_ | refine kA ?_ _)); refine blk_put (cs := #[.int .i64 t235, .int .i64 0, .int .i64 0, .int .i64 0, .slice none 0 0]) ?_ 1 _ rfl; (with_reducible repeat (first | refine kDN ?_ _ | refine kD ?_ | refine kA ?_ _)); refine blk_put (cs := #[.int .i64 0, .int .i64 0, .int .i64 0, .int .i64 0, .slice none 0 0]) ?_ 0 _ rfl; (with_reducible repeat (first | refine kDN ?_ _ | refine kD ?_ | refine kA ?_ _)); exact BK230.out) Try.underlying30 rfl (by kernel_rfl)) rfl ?_
 exact ⟨_, _, by first | rfl | (simp [errW_none, errW_some] <;> rfl) | (simp [*, errW_none, errW_some] <;> rfl), by (with_reducible repeat (first | apply Kd.R_alloc | apply Kd.R_drewN | apply Kd.R_drew)); exact Kd.R_mono (Kd.R_far (p := ⟨gb230, 4, none⟩) (Kd.R_far (p := ⟨gb230, 3, none⟩) (Kd.R_far (p := ⟨gb230, 2, none⟩) (Kd.R_far (p := ⟨gb230, 1, none⟩) (Kd.R_far (p := ⟨gb230, 0, none⟩) (Kd.R_types HO241.out BK230.out (by decide)) (fun _ hk => hk.2) (.int .i64 t235)) (fun _ hk => hk.2) (.int .i64 t236)) (fun _ hk => hk.2) (.int .i64 t237)) (fun _ hk => hk.2) (.int .i64 t238)) (fun _ hk => hk.2) (.slice Ao12 t239.length co12)) (fun _ hk => trivial), by (with_reducible repeat (first | apply Kd.R_alloc | apply Kd.R_drewN | apply Kd.R_drew)); exact Kd.R_mono (Kd.R_far (p := ⟨gb230, 4, none⟩) (Kd.R_far (p := ⟨gb230, 3, none⟩) (Kd.R_far (p := ⟨gb230, 2, none⟩) (Kd.R_far (p := ⟨gb230, 1, none⟩) (Kd.R_far (p := ⟨gb230, 0, none⟩) (Kd.R_types HO247.out BK230.out (by decide)) (fun _ hk => hk.2) (.int .i64 t235)) (fun _ hk => hk.2) (.int .i64 t236)) (fun _ hk => hk.2) (.int .i64 t237)) (fun _ hk => hk.2) (.int .i64 t238)) (fun _ hk => hk.2) (.slice Ao12 t239.length co12)) (fun _ hk => trivial), by repeat (first | (with_reducible first | exact HB.out | apply bAl | apply bDN | apply bD1 | refine bSt ?_ (IsS146.ge HI234.out) | refine bSt ?_ GE230.out | refine bSt ?_ GE244.out) | exact HB.out)⟩
theorem spec_DrawRecord.ctr {k : Nat} {l0 : List Int} {r1 : Int} {r2 : Int} {r3 : Int} {r4 : Int} {r5 : List SGate} {r6 : List SEntry} (h : spec_DrawRecord.f k l0 = some (r1, r2, r3, r4, r5, r6)) : Ctr Try.prog 13 [.pr 1 (l0.map eU8)] (.tu [.ag [.v (.int .i64 r1), .v (.int .i64 r2), .v (.int .i64 r3), .v (.int .i64 r4), .ow 150 2 (r5.map eGate)], .ow 37 2 (r6.map eEntry)]) := by
  refine ⟨enters_of Try.func13 rfl rfl, fun w ys hys => ?_⟩
  simp only [RepL, Rep] at hys
  obtain ⟨_, _, rfl, q1, rfl⟩ := hys
  obtain ⟨_, _, rfl, hr1, hc1⟩ := C_of_at E_eU8 q1
  refine (spec_DrawRecord.calls _ _ _ _ _ _ _ _ _ _ w hr1 hc1 h).mono ?_
  rintro _ w' ⟨v1, v2, rfl, h1, h2, hb⟩
  have o1 := row_of_R E_eGate h1
  have o2 := row_of_R E_eEntry h2
  refine ⟨_, (bk v1).toList ++ (bk v2).toList, rfl, ?_, nd_types o1 o2 (by decide), hb⟩
  simp only [RepR, RepRL]
  exact ⟨_, rfl, _, _, (bk v1).toList, (bk v2).toList, rfl, by simp, ⟨_, rfl, _, _, [], (bk v1).toList, rfl, by simp, ⟨rfl, rfl⟩, _, _, [], (bk v1).toList, rfl, by simp, ⟨rfl, rfl⟩, _, _, [], (bk v1).toList, rfl, by simp, ⟨rfl, rfl⟩, _, _, [], (bk v1).toList, rfl, by simp, ⟨rfl, rfl⟩, _, _, (bk v1).toList, [], rfl, by simp, ⟨o1, E_eGate.row _, E_eGate.pos, rfl⟩, rfl, rfl⟩, _, _, (bk v2).toList, [], rfl, by simp, ⟨o2, E_eEntry.row _, E_eEntry.pos, rfl⟩, rfl, rfl⟩
set_option maxRecDepth 20000 in set_option maxHeartbeats 4000000 in open Nat renaming reduceAdd → p1, reduceSub → p2, reduceMul → p3, reduceDiv → p4, reduceBNe → p5, reduceBEq → p6, reduceEqDiff → p7, reduceLeDiff → p8, reduceLT → p9 in open Int renaming reduceLE → p10, reduceLT → p11, reduceEq → p12 in
theorem impl_isGap.ctr {a0_0 : Int} {a0_1 : Int} {a1 : Int} {r : Bool} (h : impl_isGap.f a0_0 a0_1 a1 = some r) : Ctr Try.prog 178 [.ag [.v (.int .i64 a0_0), .v (.int .i64 a0_1)], .v (.int .i64 a1)] (.v (.bool r)) := by
  refine Ctr_of tyOk hm Try.func178 rfl rfl (by kernel_rfl) (n := 11) (rv := [.tmp 4]) rfl rfl ?_
  simp only [W, List.replicate]
  unfold impl_isGap.f at h
  replace h := ifS h; rcases h with ⟨c1, h⟩ | ⟨c1, h⟩
  · replace h := bnd h; obtain ⟨t2, A, h⟩ := h
    try simp only [W, c1, p1, p2, p3, p4, p5, p6, p7, p8, p9, p10, p11]
    refine callR (impl_CountGaps.ctr A) ?_
    cases h
    try simp only [W, c1, p1, p2, p3, p4, p5, p6, p7, p8, p9, p10, p11]
  · cases h
    try simp only [W, c1, p1, p2, p3, p4, p5, p6, p7, p8, p9, p10, p11]
set_option maxRecDepth 20000 in set_option maxHeartbeats 4000000 in open Nat renaming reduceAdd → p1, reduceSub → p2, reduceMul → p3, reduceDiv → p4, reduceBNe → p5, reduceBEq → p6, reduceEqDiff → p7, reduceLeDiff → p8, reduceLT → p9 in open Int renaming reduceLE → p10, reduceLT → p11, reduceEq → p12 in
theorem impl_IsPassage.ctr {a0_0 : Int} {a0_1 : Int} {a0_2 : Int} {a1 : Int} {r : Bool} (h : impl_IsPassage.f a0_0 a0_1 a0_2 a1 = some r) : Ctr Try.prog 135 [.ag [.v (.int .i64 a0_0), .v (.int .i64 a0_1), .v (.int .i64 a0_2)], .v (.int .i64 a1)] (.v (.bool r)) := by
  refine Ctr_of tyOk hm Try.func135 rfl rfl (by kernel_rfl) (n := 16) (rv := [.tmp 4]) rfl rfl ?_
  simp only [W, List.replicate]
  unfold impl_IsPassage.f at h
  replace h := bnd h; obtain ⟨t1, A, h⟩ := h
  try simp only [W, p1, p2, p3, p4, p5, p6, p7, p8, p9, p10, p11]
  refine callR (impl_MazeOk.ctr A) ?_
  replace h := ifT h; rcases h with ⟨rfl, h⟩ | ⟨rfl, h⟩
  · replace h := bnd h; obtain ⟨t3, A, h⟩ := h
    try simp only [W, p1, p2, p3, p4, p5, p6, p7, p8, p9, p10, p11]
    refine callR (impl_isGap.ctr A) ?_
    replace h := ifT h; rcases h with ⟨rfl, h⟩ | ⟨rfl, h⟩
    · replace h := bnd h; obtain ⟨t5, A, h⟩ := h
      try simp only [W, p1, p2, p3, p4, p5, p6, p7, p8, p9, p10, p11]
      refine callR (impl_isOpen.ctr A) ?_
      cases h
      try simp only [W, p1, p2, p3, p4, p5, p6, p7, p8, p9, p10, p11]
    · cases h
      try simp only [W, p1, p2, p3, p4, p5, p6, p7, p8, p9, p10, p11]
  · cases h
    try simp only [W, p1, p2, p3, p4, p5, p6, p7, p8, p9, p10, p11]
theorem impl_IsPassage.calls (a0_0 : Int) (a0_1 : Int) (a0_2 : Int) (a1 : Int) (r : Bool) (w : World) (h : impl_IsPassage.f a0_0 a0_1 a0_2 a1 = some r) :
    Calls Try.prog 135 #[.agg #[.int .i64 a0_0, .int .i64 a0_1, .int .i64 a0_2], .int .i64 a1] w fun e w' => e = .returned (.bool r) ∧ Below w.heap.size w w' := by
  refine ((impl_IsPassage.ctr h).2 w [.agg #[.int .i64 a0_0, .int .i64 a0_1, .int .i64 a0_2], .int .i64 a1] (by simp only [RepL, Rep]; exact ⟨_, _, rfl, ⟨_, rfl, _, _, rfl, rfl, _, _, rfl, rfl, _, _, rfl, rfl, rfl⟩, _, _, rfl, rfl, rfl⟩)).mono ?_
  rintro _ _ ⟨y, L, rfl, hR, _, hb⟩
  exact ⟨congrArg Ending.returned (RepR_pln rfl hR).1, hb⟩
set_option maxHeartbeats 8000000 in
set_option maxRecDepth 100000 in
theorem impl_TimedOk.calls (k : Nat) (a0_0 : Int) (a0_1 : Int) (a0_2 : Int) (a0_3 : Int) (A0_4 : Option Addr) (c0_4 : Nat) (l0_4 : List SGate) (r : Bool) (w : World) (hr0_4 : Kd.C k150 w A0_4 l0_4.length l0_4) (hc0_4 : l0_4.length ≤ c0_4) (h : impl_TimedOk.f k a0_0 a0_1 a0_2 a0_3 l0_4 = some r) :
  Calls Try.prog 64 #[.agg #[.int .i64 a0_0, .int .i64 a0_1, .int .i64 a0_2, .int .i64 a0_3, .slice A0_4 l0_4.length c0_4]] w fun e w' => e = .returned (.bool r) ∧ Below w.heap.size w w' := by
 have hu := Try.underlying27
 have hut := Try.underlying30
 have hug := Try.underlying150
 have HR1 := aK hr0_4
 have HC1 := aK hc0_4
 clear hr0_4 hc0_4
 obtain ⟨b, hm, H⟩ := Option.bind_eq_some_iff.mp h
 clear h
 obtain ⟨w0, hw0⟩ : ∃ w0 : World, w0 = w.alloc (.cells #[.int .i64 a0_0, .int .i64 a0_1, .int .i64 a0_2, .int .i64 a0_3, .slice A0_4 l0_4.length c0_4] 30) := ⟨_, rfl⟩
 have HB0 := aK (show Below w.heap.size w w0 by rw [hw0]; exact (Below.refl _ w).alloc (Nat.le_refl _) _)
 have K0 := aK (show w0.heap[w.heap.size]? = some (.cells #[.int .i64 a0_0, .int .i64 a0_1, .int .i64 a0_2, .int .i64 a0_3, .slice A0_4 l0_4.length c0_4] 30 (0, 0)) by rw [hw0]; exact heap_alloc_new w _)
 have SZ := aK (show w0.heap.size = w.heap.size + 1 by rw [hw0]; simp)
 have HW := aK hw0
 clear hw0
 have HM := fun (W : World) => impl_MazeOk.calls a0_0 a0_1 a0_2 b W hm
 have HCL := aK (show ∀ W : World, W.heap[w.heap.size]? = some (.cells #[.int .i64 a0_0, .int .i64 a0_1, .int .i64 a0_2, .int .i64 a0_3, .slice A0_4 l0_4.length c0_4] 30 (0, 0)) → W.cell? ⟨w.heap.size, 0, none⟩ = some (.int .i64 a0_0) ∧ W.cell? ⟨w.heap.size, 1, none⟩ = some (.int .i64 a0_1) ∧ W.cell? ⟨w.heap.size, 2, none⟩ = some (.int .i64 a0_2) ∧ W.cell? ⟨w.heap.size, 3, none⟩ = some (.int .i64 a0_3) ∧ W.cell? ⟨w.heap.size, 4, none⟩ = some (.slice A0_4 l0_4.length c0_4) from fun W hb =>
  ⟨(kC hb 0).trans rfl, (kC hb 1).trans rfl, (kC hb 2).trans rfl, (kC hb 3).trans rfl, (kC hb 4).trans rfl⟩)
 have early : (b = false ∨ a0_3 < 1 ∨ a0_3 > 6 ∨ (l0_4.length : Int) > 8) → r = false := by
  intro q
  cases b with
  | false => rw [if_neg Bool.false_ne_true] at H; exact (Option.some.inj H).symm
  | true =>
   rw [if_pos rfl] at H
   rcases q with q | q | q | q
   ·cases q
   ·rw [if_pos q] at H; exact (Option.some.inj H).symm
   ·rw [if_neg (by omega), if_pos q] at H; exact (Option.some.inj H).symm
   ·by_cases h1 : a0_3 < 1
    ·rw [if_pos h1] at H; exact (Option.some.inj H).symm
    ·by_cases h2 : a0_3 > 6
     ·rw [if_neg h1, if_pos h2] at H; exact (Option.some.inj H).symm
     ·rw [if_neg h1, if_neg h2, if_pos q] at H; exact (Option.some.inj H).symm
 by_cases Q : b = false ∨ a0_3 < 1 ∨ a0_3 > 6 ∨ (l0_4.length : Int) > 8
 ·obtain rfl := early Q
  clear H early
  cases b with
  | false =>
   clear Q
   go_enter Try.func64, Try.ntmps64
   go_wp2_with (go_at_call 84; rw [← HW.out]; refine (HM _).mono ?_; rintro e w1 ⟨rfl, hb⟩; have HB1 := aK hb; obtain ⟨k0, k1, k2, k3, k4⟩ := HCL.out w1 ((hb.block _ (by have := SZ.out; omega)).trans K0.out); clear hb)
   go_ret
   exact ⟨rfl, HB0.out.trans (HB1.out.mono HB0.out.size)⟩
  | true =>
   by_cases h1 : a0_3 < 1
   ·have h1b : decide (a0_3 < 1) = true := decide_eq_true h1
    clear h1 Q
    go_enter Try.func64, Try.ntmps64
    go_wp2_with (go_at_call 84; rw [← HW.out]; refine (HM _).mono ?_; rintro e w1 ⟨rfl, hb⟩; have HB1 := aK hb; obtain ⟨k0, k1, k2, k3, k4⟩ := HCL.out w1 ((hb.block _ (by have := SZ.out; omega)).trans K0.out); clear hb)
    go_ret
    exact ⟨rfl, HB0.out.trans (HB1.out.mono HB0.out.size)⟩
   ·have h1b : decide (a0_3 < 1) = false := decide_eq_false h1
    by_cases h2 : a0_3 > 6
    ·have h2b : decide (a0_3 > 6) = true := decide_eq_true h2
     clear h1 h2 Q
     go_enter Try.func64, Try.ntmps64
     go_wp2_with (go_at_call 84; rw [← HW.out]; refine (HM _).mono ?_; rintro e w1 ⟨rfl, hb⟩; have HB1 := aK hb; obtain ⟨k0, k1, k2, k3, k4⟩ := HCL.out w1 ((hb.block _ (by have := SZ.out; omega)).trans K0.out); clear hb)
     go_ret
     exact ⟨rfl, HB0.out.trans (HB1.out.mono HB0.out.size)⟩
    ·have h2b : decide (a0_3 > 6) = false := decide_eq_false h2
     have h3b : decide ((l0_4.length : Int) > 8) = true := decide_eq_true (by rcases Q with q | q | q | q <;> first | cases q | omega)
     clear h1 h2 Q
     go_enter Try.func64, Try.ntmps64
     go_wp2_with (go_at_call 84; rw [← HW.out]; refine (HM _).mono ?_; rintro e w1 ⟨rfl, hb⟩; have HB1 := aK hb; obtain ⟨k0, k1, k2, k3, k4⟩ := HCL.out w1 ((hb.block _ (by have := SZ.out; omega)).trans K0.out); clear hb)
     go_ret
     exact ⟨rfl, HB0.out.trans (HB1.out.mono HB0.out.size)⟩
 ·obtain ⟨q0, q1, q2, q3⟩ : b = true ∧ ¬ a0_3 < 1 ∧ ¬ a0_3 > 6 ∧ ¬ (l0_4.length : Int) > 8 := ⟨by cases b with | true => rfl | false => exact absurd (Or.inl rfl) Q, fun z => Q (Or.inr (Or.inl z)), fun z => Q (Or.inr (Or.inr (Or.inl z))), fun z => Q (Or.inr (Or.inr (Or.inr z)))⟩
  subst q0
  rw [if_pos rfl, if_neg q1, if_neg q2, if_neg q3] at H
  have H' := aK H
  have h1b : decide (a0_3 < 1) = false := decide_eq_false q1
  have h2b : decide (a0_3 > 6) = false := decide_eq_false q2
  have h3b : decide ((l0_4.length : Int) > 8) = false := decide_eq_false q3
  have hp0 : 0 ≤ a0_3 := by omega
  have HP := aK (And.intro q1 (And.intro q2 q3))
  obtain ⟨sh, hsh⟩ : ∃ sh, sh = shl .i64 1 a0_3 := ⟨_, rfl⟩
  have hs2 : wrap64 (2 ^ min a0_3.toNat 64) = sh := by rw [hsh]; unfold shl wrap64; rw [Int.one_mul, IntKind.wrap_i64]; rfl
  have HSH := aK hsh
  clear hsh
  clear H early Q q1 q2 q3
  go_enter Try.func64, Try.ntmps64
  go_wp2_with (go_at_call 84; rw [← HW.out]; refine (HM _).mono ?_; rintro e w1 ⟨rfl, hb⟩; have HB1 := aK (HB0.out.trans (hb.mono HB0.out.size)); have KT := aK ((hb.block _ (by have := SZ.out; omega)).trans K0.out); obtain ⟨k0, k1, k2, k3, k4⟩ := HCL.out w1 KT.out; clear hb)
  clear k0 k1 k2 k3 k4 h1b h2b h3b HB0 K0 SZ HW HM hm
  go_loopg [28] 9 (fun gg v28 wr => ∃ i : Nat, v28 = .int .i64 i ∧ Aside0 (impl_TimedOk.l0 a0_0 a0_1 a0_2 a0_3 l0_4 gg i = some r) ∧ Aside0 (gg ≤ 9) ∧ Aside0 (wr.heap[w.heap.size]? = some (.cells #[.int .i64 a0_0, .int .i64 a0_1, .int .i64 a0_2, .int .i64 a0_3, .slice A0_4 l0_4.length c0_4] 30 (0, 0))) ∧ Aside0 (Below w.heap.size w wr))
  case atStart => exact ⟨0, rfl, H', ⟨Nat.le_refl _⟩, KT, HB1⟩
  case round =>
   clear H' KT HB1
   obtain ⟨i, rfl, HA, HK, KT, HB⟩ := hrel
   cases gk with
   | zero => exact absurd HA.out (by simp [impl_TimedOk.l0])
   | succ k1 =>
    have H := HA.out
    clear HA
    simp only [impl_TimedOk.l0] at H
    rw [← HSH.out] at H
    by_cases hlt : i < l0_4.length
    ·rw [if_pos hlt] at H
     have hltz : (i : Int) < (l0_4.length : Int) := by omega
     have hiz : (0 : Int) ≤ (i : Int) := by omega
     obtain ⟨ad, rfl, hx0, hx1⟩ := at_T150 (Kd.C_below HR1.out HB.out) (i : Int) hiz hltz
     rw [Int.toNat_natCast] at hx0 hx1
     obtain ⟨b, hps, H2⟩ := Option.bind_eq_some_iff.mp H
     clear H
     obtain ⟨y, hy⟩ : ∃ y, y = rd_Gate l0_4 (i : Int) := ⟨_, rfl⟩
     rw [← hy] at hx0 hx1 hps H2
     have HY := aK hy
     clear hy
     obtain ⟨k0, k1_, k2, k3, k4⟩ := HCL.out wr KT.out
     have HPS := fun (W : World) => impl_IsPassage.calls a0_0 a0_1 a0_2 y.f0 b W hps
     cases b with
     | false =>
      rw [if_neg Bool.false_ne_true] at H2
      obtain rfl := Option.some.inj H2
      go_wp2
      obtain ⟨wg, hwg⟩ : ∃ wg : World, wg = wr.alloc (.cells #[.int .i64 y.f0, .int .i64 y.f1] 150) := ⟨_, rfl⟩
      have HCG := aK (show ∀ W : World, Below wg.heap.size wg W → W.cell? ⟨w.heap.size, 0, none⟩ = some (.int .i64 a0_0) ∧ W.cell? ⟨w.heap.size, 1, none⟩ = some (.int .i64 a0_1) ∧ W.cell? ⟨w.heap.size, 2, none⟩ = some (.int .i64 a0_2) ∧ W.cell? ⟨w.heap.size, 3, none⟩ = some (.int .i64 a0_3) ∧ W.cell? ⟨w.heap.size, 4, none⟩ = some (.slice (some ad) l0_4.length c0_4) ∧ W.cell? ⟨wr.heap.size, 0, none⟩ = some (.int .i64 y.f0) ∧ W.cell? ⟨wr.heap.size, 1, none⟩ = some (.int .i64 y.f1) from fun W hb => by
       have hs : wg.heap.size = wr.heap.size + 1 := by rw [hwg]; simp
       have hlt2 := blk_lt KT.out
       have e1 : W.heap[w.heap.size]? = some (.cells #[.int .i64 a0_0, .int .i64 a0_1, .int .i64 a0_2, .int .i64 a0_3, .slice (some ad) l0_4.length c0_4] 30 (0, 0)) := (hb.block _ (by omega)).trans (by rw [hwg]; exact kA KT.out _)
       have e2 : W.heap[wr.heap.size]? = some (.cells #[.int .i64 y.f0, .int .i64 y.f1] 150 (0, 0)) := (hb.block _ (by omega)).trans (by rw [hwg]; exact heap_alloc_new wr _)
       exact ⟨(kC e1 0).trans rfl, (kC e1 1).trans rfl, (kC e1 2).trans rfl, (kC e1 3).trans rfl, (kC e1 4).trans rfl, (kC e2 0).trans rfl, (kC e2 1).trans rfl⟩)
      have HBG := aK (show Below w.heap.size w wg by rw [hwg]; exact HB.out.alloc HB.out.size _)
      rw [← hwg]
      clear hwg
      have G0 := fun x : Cls wg => (HCG.out x.W x.h).1
      have G1 := fun x : Cls wg => (HCG.out x.W x.h).2.1
      have G2 := fun x : Cls wg => (HCG.out x.W x.h).2.2.1
      have G3 := fun x : Cls wg => (HCG.out x.W x.h).2.2.2.1
      have G4 := fun x : Cls wg => (HCG.out x.W x.h).2.2.2.2.1
      have G5 := fun x : Cls wg => (HCG.out x.W x.h).2.2.2.2.2.1
      have G6 := fun x : Cls wg => (HCG.out x.W x.h).2.2.2.2.2.2
      refine wp_region_cls (C := fun W => ∃ x : Cls wg, W = x.W) (by kernel_rfl) (by kernel_rfl) (cls_drew wg) ?_
      repeat (go_big_quiet_step (((go_at_call 135; exact cls_call (HPS _)))))
      refine wpQuiet_nil ?_
      rintro _ ⟨⟨w5, hb5⟩, rfl⟩
      go_wp2
      go_ret
      exact ⟨rfl, HBG.out.trans (hb5.mono HBG.out.size)⟩
     | true =>
      rw [if_pos rfl] at H2
      have HLEN := aK (show i < 9 by have := HP.out.2.2; omega)
      obtain ⟨z, hz⟩ : ∃ z, z = rd_Gate l0_4 ((i : Int) - 1) := ⟨_, rfl⟩
      rw [← hz] at H2
      have HZ := aK hz
      clear hz
      go_wp2
      obtain ⟨wg, hwg⟩ : ∃ wg : World, wg = wr.alloc (.cells #[.int .i64 y.f0, .int .i64 y.f1] 150) := ⟨_, rfl⟩
      have HCG := aK (show ∀ W : World, Below wg.heap.size wg W → W.cell? ⟨w.heap.size, 0, none⟩ = some (.int .i64 a0_0) ∧ W.cell? ⟨w.heap.size, 1, none⟩ = some (.int .i64 a0_1) ∧ W.cell? ⟨w.heap.size, 2, none⟩ = some (.int .i64 a0_2) ∧ W.cell? ⟨w.heap.size, 3, none⟩ = some (.int .i64 a0_3) ∧ W.cell? ⟨w.heap.size, 4, none⟩ = some (.slice (some ad) l0_4.length c0_4) ∧ W.cell? ⟨wr.heap.size, 0, none⟩ = some (.int .i64 y.f0) ∧ W.cell? ⟨wr.heap.size, 1, none⟩ = some (.int .i64 y.f1) from fun W hb => by
       have hs : wg.heap.size = wr.heap.size + 1 := by rw [hwg]; simp
       have hlt2 := blk_lt KT.out
       have e1 : W.heap[w.heap.size]? = some (.cells #[.int .i64 a0_0, .int .i64 a0_1, .int .i64 a0_2, .int .i64 a0_3, .slice (some ad) l0_4.length c0_4] 30 (0, 0)) := (hb.block _ (by omega)).trans (by rw [hwg]; exact kA KT.out _)
       have e2 : W.heap[wr.heap.size]? = some (.cells #[.int .i64 y.f0, .int .i64 y.f1] 150 (0, 0)) := (hb.block _ (by omega)).trans (by rw [hwg]; exact heap_alloc_new wr _)
       exact ⟨(kC e1 0).trans rfl, (kC e1 1).trans rfl, (kC e1 2).trans rfl, (kC e1 3).trans rfl, (kC e1 4).trans rfl, (kC e2 0).trans rfl, (kC e2 1).trans rfl⟩)
      have KTG := aK (show wg.heap[w.heap.size]? = some (.cells #[.int .i64 a0_0, .int .i64 a0_1, .int .i64 a0_2, .int .i64 a0_3, .slice (some ad) l0_4.length c0_4] 30 (0, 0)) by rw [hwg]; exact kA KT.out _)
      have HBG := aK (show Below w.heap.size w wg by rw [hwg]; exact HB.out.alloc HB.out.size _)
      rw [← hwg]
      clear hwg
      have G0 := fun x : Cls wg => (HCG.out x.W x.h).1
      have G1 := fun x : Cls wg => (HCG.out x.W x.h).2.1
      have G2 := fun x : Cls wg => (HCG.out x.W x.h).2.2.1
      have G3 := fun x : Cls wg => (HCG.out x.W x.h).2.2.2.1
      have G4 := fun x : Cls wg => (HCG.out x.W x.h).2.2.2.2.1
      have G5 := fun x : Cls wg => (HCG.out x.W x.h).2.2.2.2.2.1
      have G6 := fun x : Cls wg => (HCG.out x.W x.h).2.2.2.2.2.2
      by_cases ci : 0 < i
      ·have ci2 := ci
       have hi1 : (0 : Int) ≤ (i : Int) - 1 := by omega
       have hi2 : (i : Int) - 1 < (l0_4.length : Int) := by omega
       have PV := aK (show ∀ x : Cls wg, x.W.cell? (ad.add ((i - 1) * 2)) = some (.int .i64 z.f0) from fun x => by
        obtain ⟨ad', e, h0, _⟩ := at_T150 (Kd.C_below HR1.out (HBG.out.trans (x.h.mono HBG.out.size))) ((i : Int) - 1) hi1 hi2
        cases e
        rw [HZ.out, ← show ((i : Int) - 1).toNat = i - 1 by omega]
        exact h0)
       have P0 := PV.out
       have i3 : decide ((i : Int) > 0) = true := decide_eq_true (by omega)
       have i4 : IntKind.i64.wrap ((i : Int) - 1) = (i : Int) - 1 := by have := HLEN.out; rw [IntKind.wrap_i64]; omega
       by_cases c1 : z.f0 ≥ y.f0
       ·rw [if_pos ⟨ci, c1⟩] at H2
        obtain rfl := Option.some.inj H2
        have c1b : decide (z.f0 ≥ y.f0) = true := decide_eq_true c1
        clear c1
        refine wp_region_cls (C := fun W => ∃ x : Cls wg, W = x.W) (by kernel_rfl) (by kernel_rfl) (cls_drew wg) ?_
        repeat (go_big_quiet_step (((go_at_call 135; exact cls_call (HPS _)))))
        refine wpQuiet_nil ?_
        rintro _ ⟨⟨w5, hb5⟩, rfl⟩
        go_wp2
        go_ret
        exact ⟨rfl, HBG.out.trans (hb5.mono HBG.out.size)⟩
       ·rw [if_neg (fun q => c1 q.2)] at H2
        have c1b : decide (z.f0 ≥ y.f0) = false := decide_eq_false c1
        clear c1
        by_cases c2 : y.f1 < 0
        ·rw [if_pos c2] at H2
         obtain rfl := Option.some.inj H2
         have c2b : decide (y.f1 < 0) = true := decide_eq_true c2
         clear c2
         refine wp_region_cls (C := fun W => ∃ x : Cls wg, W = x.W) (by kernel_rfl) (by kernel_rfl) (cls_drew wg) ?_
         repeat (go_big_quiet_step (((go_at_call 135; exact cls_call (HPS _)))))
         refine wpQuiet_nil ?_
         rintro _ ⟨⟨w5, hb5⟩, rfl⟩
         go_wp2
         go_ret
         exact ⟨rfl, HBG.out.trans (hb5.mono HBG.out.size)⟩
        ·rw [if_neg c2, if_pos hp0] at H2
         have c2b : decide (y.f1 < 0) = false := decide_eq_false c2
         clear c2
         by_cases c3 : y.f1 ≥ sh
         ·rw [if_pos c3] at H2
          obtain rfl := Option.some.inj H2
          have c3b : decide (y.f1 ≥ sh) = true := decide_eq_true c3
          clear c3
          refine wp_region_cls (C := fun W => ∃ x : Cls wg, W = x.W) (by kernel_rfl) (by kernel_rfl) (cls_drew wg) ?_
          repeat (go_big_quiet_step (((go_at_call 135; exact cls_call (HPS _)))))
          refine wpQuiet_nil ?_
          rintro _ ⟨⟨w5, hb5⟩, rfl⟩
          go_wp2
          go_ret
          exact ⟨rfl, HBG.out.trans (hb5.mono HBG.out.size)⟩
         ·rw [if_neg c3] at H2
          have H' := aK H2
          have c3b : decide (y.f1 ≥ sh) = false := decide_eq_false c3
          clear c3 H2
          refine wp_region_cls (C := fun W => ∃ x : Cls wg, W = x.W) (by kernel_rfl) (by kernel_rfl) (cls_drew wg) ?_
          repeat (go_big_quiet_step (((go_at_call 135; exact cls_call (HPS _)))))
          refine wpQuiet_nil ?_
          rintro _ ⟨⟨w5, hb5⟩, rfl⟩
          have KT5 := aK ((hb5.block _ (blk_lt KTG.out)).trans KTG.out)
          have HB5 := aK (HBG.out.trans (hb5.mono HBG.out.size))
          clear hb5 P0 i3 i4 hi1 hi2
          go_wp2
          go_roundg k1
          case measure => have := HK.out; omega
          case rel => exact ⟨i + 1, congrArg _ (by have := HLEN.out; first | omega | (unfold wrap64; omega)), H', ⟨by have := HK.out; omega⟩, KT5, HB5⟩
      ·rw [if_neg (fun q => ci q.1)] at H2
       have i3 : decide ((i : Int) > 0) = false := decide_eq_false (by omega)
       by_cases c2 : y.f1 < 0
       ·rw [if_pos c2] at H2
        obtain rfl := Option.some.inj H2
        have c2b : decide (y.f1 < 0) = true := decide_eq_true c2
        clear c2
        refine wp_region_cls (C := fun W => ∃ x : Cls wg, W = x.W) (by kernel_rfl) (by kernel_rfl) (cls_drew wg) ?_
        repeat (go_big_quiet_step (((go_at_call 135; exact cls_call (HPS _)))))
        refine wpQuiet_nil ?_
        rintro _ ⟨⟨w5, hb5⟩, rfl⟩
        go_wp2
        go_ret
        exact ⟨rfl, HBG.out.trans (hb5.mono HBG.out.size)⟩
       ·rw [if_neg c2, if_pos hp0] at H2
        have c2b : decide (y.f1 < 0) = false := decide_eq_false c2
        clear c2
        by_cases c3 : y.f1 ≥ sh
        ·rw [if_pos c3] at H2
         obtain rfl := Option.some.inj H2
         have c3b : decide (y.f1 ≥ sh) = true := decide_eq_true c3
         clear c3
         refine wp_region_cls (C := fun W => ∃ x : Cls wg, W = x.W) (by kernel_rfl) (by kernel_rfl) (cls_drew wg) ?_
         repeat (go_big_quiet_step (((go_at_call 135; exact cls_call (HPS _)))))
         refine wpQuiet_nil ?_
         rintro _ ⟨⟨w5, hb5⟩, rfl⟩
         go_wp2
         go_ret
         exact ⟨rfl, HBG.out.trans (hb5.mono HBG.out.size)⟩
        ·rw [if_neg c3] at H2
         have H' := aK H2
         have c3b : decide (y.f1 ≥ sh) = false := decide_eq_false c3
         clear c3 H2
         refine wp_region_cls (C := fun W => ∃ x : Cls wg, W = x.W) (by kernel_rfl) (by kernel_rfl) (cls_drew wg) ?_
         repeat (go_big_quiet_step (((go_at_call 135; exact cls_call (HPS _)))))
         refine wpQuiet_nil ?_
         rintro _ ⟨⟨w5, hb5⟩, rfl⟩
         have KT5 := aK ((hb5.block _ (blk_lt KTG.out)).trans KTG.out)
         have HB5 := aK (HBG.out.trans (hb5.mono HBG.out.size))
         clear hb5 i3
         go_wp2
         go_roundg k1
         case measure => have := HK.out; omega
         case rel => exact ⟨i + 1, congrArg _ (by have := HLEN.out; first | omega | (unfold wrap64; omega)), H', ⟨by have := HK.out; omega⟩, KT5, HB5⟩
    ·rw [if_neg hlt] at H
     obtain rfl := Option.some.inj H
     have hltz : ¬ (i : Int) < (l0_4.length : Int) := by omega
     go_wp2
     go_ret
     exact ⟨rfl, HB.out⟩
theorem impl_TimedOk.ctr {k : Nat} {a0_0 : Int} {a0_1 : Int} {a0_2 : Int} {a0_3 : Int} {l0_4 : List SGate} {r : Bool} (h : impl_TimedOk.f k a0_0 a0_1 a0_2 a0_3 l0_4 = some r) : Ctr Try.prog 64 [.ag [.v (.int .i64 a0_0), .v (.int .i64 a0_1), .v (.int .i64 a0_2), .v (.int .i64 a0_3), .pr 2 (l0_4.map eGate)]] (.v (.bool r)) := by
  refine ⟨enters_of Try.func64 rfl rfl, fun w ys hys => ?_⟩
  simp only [RepL, Rep] at hys
  obtain ⟨_, _, rfl, ⟨_, rfl, _, _, rfl, rfl, _, _, rfl, rfl, _, _, rfl, rfl, _, _, rfl, rfl, _, _, rfl, q1, rfl⟩, rfl⟩ := hys
  obtain ⟨_, _, rfl, hr1, hc1⟩ := C_of_at E_eGate q1
  refine (impl_TimedOk.calls _ _ _ _ _ _ _ _ _ w hr1 hc1 h).mono ?_
  rintro _ _ ⟨rfl, hb⟩
  exact ⟨_, [], rfl, by simp [RepR, RepRL], List.nodup_nil, hb⟩
end Go.Proofs.Ytpeehicekddjhaa.F
end

section
namespace Go.Proofs.Ytpeehicekddjhaa.F
open Go.RowKit Go.Proofs.YtpeehicekddjhaaW.PrintWords Go.Proofs.YtpeehicekddjhaaW.PrintLast Go.Proofs.YtpeehicekddjhaaW.PrintMore
set_option linter.unusedVariables false
set_option linter.unusedSimpArgs false
attribute [local go_sem] max2_int min2_int max_two min_two
set_option maxRecDepth 20000 in set_option maxHeartbeats 4000000 in open Nat renaming reduceAdd → p1, reduceSub → p2, reduceMul → p3, reduceDiv → p4, reduceBNe → p5, reduceBEq → p6, reduceEqDiff → p7, reduceLeDiff → p8, reduceLT → p9 in open Int renaming reduceLE → p10, reduceLT → p11, reduceEq → p12 in
theorem impl_RecordOk.ctr {k : Nat} {a0_0 : Int} {a0_1 : Int} {a0_2 : Int} {a0_3 : Int} {l0_4 : List (SGate)} {l1 : List (SEntry)} {r : Bool} (h : impl_RecordOk.f k a0_0 a0_1 a0_2 a0_3 l0_4 l1 = some r) : Ctr Try.prog 16 [.ag [.v (.int .i64 a0_0), .v (.int .i64 a0_1), .v (.int .i64 a0_2), .v (.int .i64 a0_3), .pr 2 (l0_4.map eGate)], .pr 2 (l1.map eEntry)] (.v (.bool r)) := by
  refine Ctr_of tyOk hm Try.func16 rfl rfl (by kernel_rfl) (n := 52) (rv := [.tmp 4]) rfl rfl ?_
  simp only [W, List.replicate]
  unfold impl_RecordOk.f at h
  try simp only [W, p1, p2, p3, p4, p5, p6, p7, p8, p9, p10, p11]
  refine loopN (fun x : List (SEntry) × List (SEntry) × Int × Int × Int × Int × Int × Int × List (SGate) => [.u, .pr 2 (List.map eEntry x.1), .bp 32 0, .u, .u, .u, .u, .pr 2 (List.map eEntry x.2.1), .v (.int .i64 x.2.2.1), .v (.int .i64 x.2.2.2.1), .u, .u, .u, .u, .u, .u, .u, .u, .u, .u, .u, .u, .u, .u, .u, .u, .u, .u, .u, .u, .u, .u, .u, .u, .u, .u, .u, .u, .u, .u, .u, .u, .u, .u, .u, .u, .u, .u, .u, .u, .u, .u, .u, .u]) (fun x => [(32, .box 30 [.v (.int .i64 x.2.2.2.2.1), .v (.int .i64 x.2.2.2.2.2.1), .v (.int .i64 x.2.2.2.2.2.2.1), .v (.int .i64 x.2.2.2.2.2.2.2.1), .pr 2 (List.map eGate x.2.2.2.2.2.2.2.2)])]) (fun n x => impl_RecordOk.l0 n x.1 x.2.1 x.2.2.1 x.2.2.2.1 x.2.2.2.2.1 x.2.2.2.2.2.1 x.2.2.2.2.2.2.1 x.2.2.2.2.2.2.2.1 x.2.2.2.2.2.2.2.2 = some r) (l1, l1, (l1.length : Int), 0, a0_0, a0_1, a0_2, a0_3, l0_4) [] h (by simp only [W, p1, p2, p3, p4, p5, p6, p7, p8, p9, p10, p11] <;> trivial) (by simp only [W, p1, p2, p3, p4, p5, p6, p7, p8, p9, p10, p11] <;> trivial) rfl (fun _ h => by cases h) ?_
  intro n1 ⟨x1, x2, x3, x4, x5, x6, x7, x8, x9⟩ _ h
  simp only [impl_RecordOk.l0] at h
  replace h := ifS h; rcases h with ⟨c10, h⟩ | ⟨c10, h⟩
  · replace h := ifN h; obtain ⟨c11, h⟩ := h
    replace h := ifN h; obtain ⟨c12, h⟩ := h
    replace h := ifS h; rcases h with ⟨c13, h⟩ | ⟨c13, h⟩
    · cases h
      try simp only [W, c10, c11, c12, c13, p1, p2, p3, p4, p5, p6, p7, p8, p9, p10, p11]
    · replace h := ifS h; rcases h with ⟨c14, h⟩ | ⟨c14, h⟩
      · cases h
        try simp only [W, c10, c11, c12, c13, c14, p1, p2, p3, p4, p5, p6, p7, p8, p9, p10, p11]
      · replace h := bnd h; obtain ⟨t15, A, h⟩ := h
        try simp only [W, c10, c11, c12, c13, c14, p1, p2, p3, p4, p5, p6, p7, p8, p9, p10, p11]
        refine callR (impl_isCell.ctr A) ?_
        replace h := ifT h; rcases h with ⟨rfl, h⟩ | ⟨rfl, h⟩
        · replace h := ifS h; rcases h with ⟨c17, h⟩ | ⟨c17, h⟩
          · replace h := ifN h; obtain ⟨c18, h⟩ := h
            replace h := ifN h; obtain ⟨c19, h⟩ := h
            replace h := ifS h; rcases h with ⟨c20, h⟩ | ⟨c20, h⟩
            · cases h
              try simp only [W, c10, c11, c12, c13, c14, c17, c18, c19, c20, p1, p2, p3, p4, p5, p6, p7, p8, p9, p10, p11]
            · try simp only [W, c10, c11, c12, c13, c14, c17, c18, c19, c20, p1, p2, p3, p4, p5, p6, p7, p8, p9, p10, p11]
              exact nextN (x1, x2, x3, (wrap64 (x4 + 1)), x5, x6, x7, x8, x9) [] n1 (by omega) h (by simp only [W, p1, p2, p3, p4, p5, p6, p7, p8, p9, p10, p11] <;> trivial) (by simp only [W, p1, p2, p3, p4, p5, p6, p7, p8, p9, p10, p11] <;> trivial) rfl
          · try simp only [W, c10, c11, c12, c13, c14, c17, p1, p2, p3, p4, p5, p6, p7, p8, p9, p10, p11]
            exact nextN (x1, x2, x3, (wrap64 (x4 + 1)), x5, x6, x7, x8, x9) [] n1 (by omega) h (by simp only [W, p1, p2, p3, p4, p5, p6, p7, p8, p9, p10, p11] <;> trivial) (by simp only [W, p1, p2, p3, p4, p5, p6, p7, p8, p9, p10, p11] <;> trivial) rfl
        · cases h
          try simp only [W, c10, c11, c12, c13, c14, p1, p2, p3, p4, p5, p6, p7, p8, p9, p10, p11]
  · replace h := bnd h; obtain ⟨t21, A, h⟩ := h
    try simp only [W, c10, p1, p2, p3, p4, p5, p6, p7, p8, p9, p10, p11]
    refine callR (impl_TimedOk.ctr A) ?_
    replace h := ifT h; rcases h with ⟨rfl, h⟩ | ⟨rfl, h⟩
    · cases h
      try simp only [W, c10, p1, p2, p3, p4, p5, p6, p7, p8, p9, p10, p11]
    · cases h
      try simp only [W, c10, p1, p2, p3, p4, p5, p6, p7, p8, p9, p10, p11]
end Go.Proofs.Ytpeehicekddjhaa.F
end
