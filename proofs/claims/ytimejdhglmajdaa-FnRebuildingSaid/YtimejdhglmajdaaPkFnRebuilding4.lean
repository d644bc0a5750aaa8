/- Packed by a program of the session (wip/tools/pack.py): what the claim's theorem reaches, of the texts that wip/ and the kit's printer lay. -/
import Derived.Test.YtimejdhglmajdaaPkFnRebuilding3
section
namespace Go.Proofs.Ytimejdhglmajdaa.F
open Go.RowKit Go.Proofs.YtimejdhglmajdaaW.PrintWords Go.Proofs.YtimejdhglmajdaaW.PrintLast Go.Proofs.YtimejdhglmajdaaW.PrintMore
set_option linter.unusedVariables false
set_option linter.unusedSimpArgs false
attribute [local go_sem] max2_int min2_int max_two min_two
set_option maxHeartbeats 8000000 in
set_option maxRecDepth 100000 in
theorem impl_isGap.calls (a0_0 : Int) (a0_1 : Int) (a1 : Int) (r : Bool) (w : World) (h : impl_isGap.f a0_0 a0_1 a1 = some r) :
  Calls Try.prog 132 #[.agg #[.int .i64 a0_0, .int .i64 a0_1], .int .i64 a1] w fun e w' => e = .returned (.bool r) ∧ Below w.heap.size w w' := by
 have hu30 := Try.underlying30
 have HB := aK (Below.refl w.heap.size w)
 have H : (if a1 ≥ 0 then ((impl_CountGaps.f a0_0 a0_1).bind fun t447 => (some (decide (a1 < t447)))) else (some false)) = some r := h
 clear h
 by_cases c3 : a1 ≥ 0
 ·rw [if_pos c3] at H
  have c3b0 : decide (0 ≤ a1) = true := decide_eq_true c3
  clear c3
  replace H := Option.bind_eq_some_iff.mp H
  obtain ⟨t447, A40, H⟩ := H
  replace H : (some (decide (a1 < t447))) = some r := H
  have A4 := aK A40
  clear A40
  obtain rfl := Option.some.inj H
  go_enter Try.func132, Try.ntmps132
  go_wp2_with (first | ((with_reducible refine gate_dst (N := 2) rfl ?_); refine box_event ?hg (N := 2) ?hd (cs := #[.int .i64 a0_0, .int .i64 a0_1]) (t := 30) ?hr ?_; (case hd => rfl); (case hg => rfl); (case hr => first | (go_simp; done) | (go_simp; rfl)); intro gb446 hg w5 hbox hb; have n0_ := aK (bSp (by repeat (first | (with_reducible first | exact HB.out | apply bAl | apply bDN | apply bD1) | exact HB.out)) hb); have n1_ := aK (hbox); have n2_ := aK ((by rw [hg]; exact (bSz (by repeat (first | (with_reducible first | exact HB.out | apply bAl | apply bDN | apply bD1) | exact HB.out))) : w.heap.size ≤ gb446)); have n3_ := n2_; clear HB; have HB := n0_; have BK446 := n1_; have GW446 := n2_; have GE446 := n3_; clear n0_ n1_ n2_ n3_; clear hb hbox hg; obtain ⟨hcz6_0, hcz6_1, hfz6_0, hfz6_1⟩ := cl2 BK446.out) | (go_at_call 146; (with_reducible refine (impl_CountGaps.calls a0_0 a0_1 t447 _ A4.out).mono ?_); rintro e w7 ⟨rfl, hb⟩; have n0_ := bkb BK446 hb (by intro z_; (with_reducible repeat (first | refine kDN ?_ _ | refine kD ?_ | refine kA ?_ _)); exact z_); have n1_ := aK (bSp (by repeat (first | (with_reducible first | exact HB.out | apply bAl | apply bDN | apply bD1 | refine bSt ?_ GE446.out) | exact HB.out)) hb); clear BK446; clear HB; have BK446 := n0_; have HB := n1_; clear n0_ n1_; (try clear hb); (try clear hb2); (try clear hk); (try clear hi)))
  go_ret
  exact ⟨by first | rfl | (simp [errW_none, errW_some] <;> rfl) | (simp [*, errW_none, errW_some] <;> rfl), by repeat (first | (with_reducible first | exact HB.out | apply bAl | apply bDN | apply bD1 | refine bSt ?_ GE446.out) | exact HB.out)⟩
 ·rw [if_neg c3] at H
  have c3b0 : decide (0 ≤ a1) = false := decide_eq_false c3
  clear c3
  obtain rfl := Option.some.inj H
  go_enter Try.func132, Try.ntmps132
  go_wp2_with (first | ((with_reducible refine gate_dst (N := 2) rfl ?_); refine box_event ?hg (N := 2) ?hd (cs := #[.int .i64 a0_0, .int .i64 a0_1]) (t := 30) ?hr ?_; (case hd => rfl); (case hg => rfl); (case hr => first | (go_simp; done) | (go_simp; rfl)); intro gb446 hg w8 hbox hb; have n0_ := aK (bSp (by repeat (first | (with_reducible first | exact HB.out | apply bAl | apply bDN | apply bD1) | exact HB.out)) hb); have n1_ := aK (hbox); have n2_ := aK ((by rw [hg]; exact (bSz (by repeat (first | (with_reducible first | exact HB.out | apply bAl | apply bDN | apply bD1) | exact HB.out))) : w.heap.size ≤ gb446)); have n3_ := n2_; clear HB; have HB := n0_; have BK446 := n1_; have GW446 := n2_; have GE446 := n3_; clear n0_ n1_ n2_ n3_; clear hb hbox hg))
  go_ret
  exact ⟨by first | rfl | (simp [errW_none, errW_some] <;> rfl) | (simp [*, errW_none, errW_some] <;> rfl), by repeat (first | (with_reducible first | exact HB.out | apply bAl | apply bDN | apply bD1 | refine bSt ?_ GE446.out) | exact HB.out)⟩
set_option maxHeartbeats 8000000 in
set_option maxRecDepth 100000 in
theorem impl_with.calls (a0_0 : Int) (a0_1 : Int) (a0_2 : Int) (a1 : Int) (a2 : Bool) (r1 : Int) (r2 : Int) (r3 : Int) (w : World) (h : impl_with.f a0_0 a0_1 a0_2 a1 a2 = some (r1, r2, r3)) :
  Calls Try.prog 134 #[.agg #[.int .i64 a0_0, .int .i64 a0_1, .int .i64 a0_2], .int .i64 a1, .bool a2] w fun e w' => e = .returned (.agg #[.int .i64 r1, .int .i64 r2, .int .i64 r3]) ∧ Below w.heap.size w w' := by
 have hu32 := Try.underlying32
 have HB := aK (Below.refl w.heap.size w)
 have H : (if 0 ≤ a1 then (if a2 = true then (some (a0_0, a0_1, Go.bits .or .i64 (Go.bits .andNot .i64 a0_2 (shl .i64 1 a1)) (shl .i64 1 a1))) else (some (a0_0, a0_1, Go.bits .andNot .i64 a0_2 (shl .i64 1 a1)))) else (none)) = some (r1, r2, r3) := h
 clear h
 by_cases c4 : 0 ≤ a1
 ·rw [if_pos c4] at H
  have c4b0 := eq_true c4
  have c4b1 : decide (0 ≤ a1) = true := decide_eq_true c4
  clear c4
  obtain ⟨ji5, hji5⟩ : ∃ j_ : Int, (shl .i64 1 a1) = j_ := ⟨_, rfl⟩
  replace H : (if a2 = true then (some (a0_0, a0_1, Go.bits .or .i64 (Go.bits .andNot .i64 a0_2 (ji5)) (ji5))) else (some (a0_0, a0_1, Go.bits .andNot .i64 a0_2 (ji5)))) = some (r1, r2, r3) := by first | (rw [hji5] at H; exact H) | (simp only [hji5] at H ⊢; exact H)
  have hji5_ : (IntKind.i64.wrap (1 * 2 ^ min a1.toNat 64)) = ji5 := hji5
  have hji5z : a1 ≤ 64 → (IntKind.i64.wrap (1 * 2 ^ a1.toNat)) = ji5 := shl_small hji5
  have hji5u : (IntKind.i64.wrap (2 ^ min a1.toNat 64)) = ji5 := by have h_ := hji5_; rw [Int.one_mul] at h_; exact h_
  have hji5v : a1 ≤ 64 → (IntKind.i64.wrap (2 ^ a1.toNat)) = ji5 := fun hle_ => by have h_ := hji5z hle_; rw [Int.one_mul] at h_; exact h_
  have hji5y : (wrap64 (1 * 2 ^ min a1.toNat 64)) = ji5 := (i64_w _).symm.trans hji5_
  have hji5x : a1 ≤ 64 → (wrap64 (1 * 2 ^ a1.toNat)) = ji5 := fun h_ => (i64_w _).symm.trans (hji5z h_)
  by_cases c6 : a2 = true
  ·subst c6
   have H1 : (some (a0_0, a0_1, Go.bits .or .i64 (Go.bits .andNot .i64 a0_2 (ji5)) (ji5))) = some (r1, r2, r3) := by rw [if_pos rfl] at H; exact H
   clear H
   have H := H1
   clear H1
   have c7b0 := eq_true (of_decide_eq_true (by first | (with_reducible assumption) | assumption) : 0 ≤ a1)
   simp only [Option.some.injEq, Prod.mk.injEq] at H
   obtain ⟨rfl, rfl, rfl⟩ := H
   go_enter Try.func134, Try.ntmps134
   try go_wp2_with (first | ((with_reducible refine gate_dst (N := 3) rfl ?_); refine box_event ?hg (N := 3) ?hd (cs := #[.int .i64 a0_0, .int .i64 a0_1, .int .i64 a0_2]) (t := 32) ?hr ?_; (case hd => rfl); (case hg => rfl); (case hr => first | (go_simp; done) | (go_simp; rfl)); intro gb462 hg w9 hbox hb; have n0_ := aK (bSp (by repeat (first | (with_reducible first | exact HB.out | apply bAl | apply bDN | apply bD1) | exact HB.out)) hb); have n1_ := aK (hbox); have n2_ := aK ((by rw [hg]; exact (bSz (by repeat (first | (with_reducible first | exact HB.out | apply bAl | apply bDN | apply bD1) | exact HB.out))) : w.heap.size ≤ gb462)); have n3_ := n2_; clear HB; have HB := n0_; have BK462 := n1_; have GW462 := n2_; have GE462 := n3_; clear n0_ n1_ n2_ n3_; clear hb hbox hg) | ((with_reducible refine gate_dst (N := 6) rfl ?_); refine box_event ?hg (N := 6) ?hd (cs := #[.int .i64 0, .int .i64 0, .int .i64 0]) (t := 32) ?hr ?_; (case hd => rfl); (case hg => rfl); (case hr => first | (go_simp; done) | (go_simp; rfl)); intro gb463 hg w10 hbox hb; have n0_ := bkb BK462 hb (by intro z_; (with_reducible repeat (first | refine kDN ?_ _ | refine kD ?_ | refine kA ?_ _)); exact z_); have n1_ := aK (bSp (by repeat (first | (with_reducible first | exact HB.out | apply bAl | apply bDN | apply bD1 | refine bSt ?_ GE462.out) | exact HB.out)) hb); have n2_ := aK (hbox); have n3_ := aK ((by rw [hg]; exact (bSz (by repeat (first | (with_reducible first | exact HB.out | apply bAl | apply bDN | apply bD1 | refine bSt ?_ GE462.out) | exact HB.out))) : w.heap.size ≤ gb463)); have n4_ := n3_; have n5_ := nbl BK462 hg (by intro z_; (with_reducible repeat (first | refine kDN ?_ _ | refine kD ?_ | refine kA ?_ _)); exact z_); have n6_ := nbs n5_; clear BK462; clear HB; have BK462 := n0_; have HB := n1_; have BK463 := n2_; have GW463 := n3_; have GE463 := n4_; have NB462_463 := n5_; have NB463_462 := n6_; clear n0_ n1_ n2_ n3_ n4_ n5_ n6_; clear hb hbox hg))
   have n0_ := aK (kD BK462.out)
   have n1_ := aK (kD BK463.out)
   have n2_ := aK (bD1 HB.out)
   clear BK462
   clear BK463
   clear HB
   have BK462 := n0_
   have BK463 := n1_
   have HB := n2_
   clear n0_ n1_ n2_
   refine start_ (n := 7) (S := fun w' => w'.cell? ⟨gb462, 0, none⟩ = some (.int .i64 a0_0) ∧ w'.cell? ⟨gb462, 1, none⟩ = some (.int .i64 a0_1) ∧ w'.cell? ⟨gb462, 2, none⟩ = some (.int .i64 a0_2)) (ds := [6]) #[bN,bN,bN,bN,bN,bN,bN] (by kernel_rfl) rfl rfl ⟨(kC BK462.out 0).trans rfl, (kC BK462.out 1).trans rfl, (kC BK462.out 2).trans rfl⟩ (fun hHeld => ?_)
   generalize w10.drew = w11 at BK462 BK463 HB hHeld ⊢
   refine pure_ (i := 0) (N := some 7) (v := ?_) (a' := ?_) #[bY,bN,bN,bN,bN,bN,bN] rfl rfl (by kernel_rfl) (fun _ _ _ h => h) (Or.inl ⟨by rfl, ?_⟩) ?_ ?_
   rotate_left
   ·intro w'
    go_simp
    with_reducible rfl
   rotate_left
   ·simp only [Act.put, sTA, sZ, sS, i64_w, i32_w]
    rfl
   refine pure_ (i := 2) (N := some 9) (v := ?_) (a' := ?_) #[bY,bN,bY,bN,bN,bN,bN] rfl rfl (by kernel_rfl) (fun _ _ _ h => h) (Or.inl ⟨by rfl, ?_⟩) ?_ ?_
   rotate_left
   ·intro w'
    go_simp
    with_reducible rfl
   rotate_left
   ·simp only [Act.put, sTA, sZ, sS, i64_w, i32_w]
    rfl
   refine pure_ (i := 3) (N := some 10) (v := ?_) (a' := ?_) #[bY,bN,bY,bY,bN,bN,bN] rfl rfl (by kernel_rfl) (fun _ _ _ h => h) (Or.inl ⟨by rfl, ?_⟩) ?_ ?_
   rotate_left
   ·intro w'
    go_simp
    with_reducible rfl
   rotate_left
   ·simp only [Act.put, sTA, sZ, sS, i64_w, i32_w]
    rfl
   refine take_ (i := 1) (N := some 8) (v := ?_) (a' := ?_) #[bY,bY,bY,bY,bN,bN,bN] rfl rfl (by kernel_rfl) (fun _ _ _ h => h) (Or.inl ⟨by rfl, ?_⟩) hHeld ?_ ?_
   rotate_left
   ·rintro w' ⟨s0, s1, s2⟩
    go_simp
    with_reducible rfl
   rotate_left
   ·simp only [Act.put, sTA, sZ, sS, i64_w, i32_w]
    rfl
   refine pure_ (i := 4) (N := some 11) (v := ?_) (a' := ?_) #[bY,bY,bY,bY,bY,bN,bN] rfl rfl (by kernel_rfl) (fun _ _ _ h => h) (Or.inl ⟨by rfl, ?_⟩) ?_ ?_
   rotate_left
   ·intro w'
    go_simp
    with_reducible rfl
   rotate_left
   ·simp only [Act.put, sTA, sZ, sS, i64_w, i32_w]
    rfl
   refine pure_ (i := 5) (N := some 12) (v := ?_) (a' := ?_) #[bY,bY,bY,bY,bY,bY,bN] rfl rfl (by kernel_rfl) (fun _ _ _ h => h) (Or.inl ⟨by rfl, ?_⟩) ?_ ?_
   rotate_left
   ·intro w'
    go_simp
    with_reducible rfl
   rotate_left
   ·simp only [Act.put, sTA, sZ, sS, i64_w, i32_w]
    rfl
   refine last_ (i := 6) (N := none) #[bY,bY,bY,bY,bY,bY,bY] rfl rfl (by kernel_rfl) (by decide) (fun K hK => ?_)
   have hs12 : w11.cell? ⟨gb462, 2, none⟩ = some (.int .i64 a0_2) := (kC BK462.out 2).trans rfl
   have hfs12 := kF BK462.out 2
   have hns12_1 := NB463_462.out
   have hms12_1 := NB462_463.out
   refine skip_ (w1 := ?_) (by rfl) rfl ?_ ?_
   rotate_left
   ·go_simp
    rfl
   refine hK.out _ _ ?_
   clear hK K
   refine done_ (by kernel_rfl) ?_
   try go_wp2
   have n0_ : Aside0 ((w11.setCell ⟨gb462, 2, none⟩ (.int .i64 (Go.bits .andNot .i64 a0_2 (ji5)))).heap[gb462]? = some (.cells #[.int .i64 a0_0, .int .i64 a0_1, .int .i64 (Go.bits .andNot .i64 a0_2 (ji5))] 32 (0, 0))) := ⟨by (with_reducible repeat (first | refine kDN ?_ _ | refine kD ?_ | refine kA ?_ _)); refine blk_put (cs := #[.int .i64 a0_0, .int .i64 a0_1, .int .i64 a0_2]) ?_ 2 _ rfl; (with_reducible repeat (first | refine kDN ?_ _ | refine kD ?_ | refine kA ?_ _)); exact BK462.out⟩
   have n1_ : Aside0 ((w11.setCell ⟨gb462, 2, none⟩ (.int .i64 (Go.bits .andNot .i64 a0_2 (ji5)))).heap[gb463]? = some (.cells #[.int .i64 0, .int .i64 0, .int .i64 0] 32 (0, 0))) := ⟨by (with_reducible repeat (first | refine kDN ?_ _ | refine kD ?_ | refine kA ?_ _)); refine blk_far ?_ NB463_462.out _; (with_reducible repeat (first | refine kDN ?_ _ | refine kD ?_ | refine kA ?_ _)); exact BK463.out⟩
   have n2_ : Aside0 (Below w.heap.size w (w11.setCell ⟨gb462, 2, none⟩ (.int .i64 (Go.bits .andNot .i64 a0_2 (ji5))))) := ⟨by repeat (first | (with_reducible first | exact HB.out | apply bAl | apply bDN | apply bD1 | refine bSt ?_ GE462.out | refine bSt ?_ GE463.out) | exact HB.out)⟩
   (try clear BK462)
   (try clear BK463)
   (try clear HB)
   generalize (w11.setCell ⟨gb462, 2, none⟩ (.int .i64 (Go.bits .andNot .i64 a0_2 (ji5)))) = w13 at n0_ n1_ n2_ ⊢
   have BK462 := n0_
   have BK463 := n1_
   have HB := n2_
   clear n0_ n1_ n2_
   have n0_ := aK (kD BK462.out)
   have n1_ := aK (kD BK463.out)
   have n2_ := aK (bD1 HB.out)
   clear BK462
   clear BK463
   clear HB
   have BK462 := n0_
   have BK463 := n1_
   have HB := n2_
   clear n0_ n1_ n2_
   refine start_ (n := 7) (S := fun w' => w'.cell? ⟨gb462, 0, none⟩ = some (.int .i64 a0_0) ∧ w'.cell? ⟨gb462, 1, none⟩ = some (.int .i64 a0_1) ∧ w'.cell? ⟨gb462, 2, none⟩ = some (.int .i64 (Go.bits .andNot .i64 a0_2 (ji5)))) (ds := [6]) #[bN,bN,bN,bN,bN,bN,bN] (by kernel_rfl) rfl rfl ⟨(kC BK462.out 0).trans rfl, (kC BK462.out 1).trans rfl, (kC BK462.out 2).trans rfl⟩ (fun hHeld => ?_)
   generalize w13.drew = w14 at BK462 BK463 HB hHeld ⊢
   refine pure_ (i := 0) (N := some 14) (v := ?_) (a' := ?_) #[bY,bN,bN,bN,bN,bN,bN] rfl rfl (by kernel_rfl) (fun _ _ _ h => h) (Or.inl ⟨by rfl, ?_⟩) ?_ ?_
   rotate_left
   ·intro w'
    go_simp
    with_reducible rfl
   rotate_left
   ·simp only [Act.put, sTA, sZ, sS, i64_w, i32_w]
    rfl
   refine pure_ (i := 2) (N := some 16) (v := ?_) (a' := ?_) #[bY,bN,bY,bN,bN,bN,bN] rfl rfl (by kernel_rfl) (fun _ _ _ h => h) (Or.inl ⟨by rfl, ?_⟩) ?_ ?_
   rotate_left
   ·intro w'
    go_simp
    with_reducible rfl
   rotate_left
   ·simp only [Act.put, sTA, sZ, sS, i64_w, i32_w]
    rfl
   refine pure_ (i := 3) (N := some 17) (v := ?_) (a' := ?_) #[bY,bN,bY,bY,bN,bN,bN] rfl rfl (by kernel_rfl) (fun _ _ _ h => h) (Or.inl ⟨by rfl, ?_⟩) ?_ ?_
   rotate_left
   ·intro w'
    go_simp
    with_reducible rfl
   rotate_left
   ·simp only [Act.put, sTA, sZ, sS, i64_w, i32_w]
    rfl
   refine take_ (i := 1) (N := some 15) (v := ?_) (a' := ?_) #[bY,bY,bY,bY,bN,bN,bN] rfl rfl (by kernel_rfl) (fun _ _ _ h => h) (Or.inl ⟨by rfl, ?_⟩) hHeld ?_ ?_
   rotate_left
   ·rintro w' ⟨s0, s1, s2⟩
    go_simp
    with_reducible rfl
   rotate_left
   ·simp only [Act.put, sTA, sZ, sS, i64_w, i32_w]
    rfl
   refine pure_ (i := 4) (N := some 18) (v := ?_) (a' := ?_) #[bY,bY,bY,bY,bY,bN,bN] rfl rfl (by kernel_rfl) (fun _ _ _ h => h) (Or.inl ⟨by rfl, ?_⟩) ?_ ?_
   rotate_left
   ·intro w'
    go_simp
    with_reducible rfl
   rotate_left
   ·simp only [Act.put, sTA, sZ, sS, i64_w, i32_w]
    rfl
   refine pure_ (i := 5) (N := some 19) (v := ?_) (a' := ?_) #[bY,bY,bY,bY,bY,bY,bN] rfl rfl (by kernel_rfl) (fun _ _ _ h => h) (Or.inl ⟨by rfl, ?_⟩) ?_ ?_
   rotate_left
   ·intro w'
    go_simp
    with_reducible rfl
   rotate_left
   ·simp only [Act.put, sTA, sZ, sS, i64_w, i32_w]
    rfl
   refine last_ (i := 6) (N := none) #[bY,bY,bY,bY,bY,bY,bY] rfl rfl (by kernel_rfl) (by decide) (fun K hK => ?_)
   have hs15 : w14.cell? ⟨gb462, 2, none⟩ = some (.int .i64 (Go.bits .andNot .i64 a0_2 (ji5))) := (kC BK462.out 2).trans rfl
   have hfs15 := kF BK462.out 2
   have hns15_1 := NB463_462.out
   have hms15_1 := NB462_463.out
   refine skip_ (w1 := ?_) (by rfl) rfl ?_ ?_
   rotate_left
   ·go_simp
    rfl
   refine hK.out _ _ ?_
   clear hK K
   refine done_ (by kernel_rfl) ?_
   have hnb16 := NB462_463.out
   have hnc16 := NB463_462.out
   obtain ⟨hcz17_0, hcz17_1, hcz17_2, hfz17_0, hfz17_1, hfz17_2⟩ := cl3 BK462.out
   obtain ⟨hcz18_0, hcz18_1, hcz18_2, hfz18_0, hfz18_1, hfz18_2⟩ := cl3 BK463.out
   try go_wp2
   refine bodyPost_ret (results_cell_row rfl _ _ gb463 32 #[.int .i64 a0_0, .int .i64 a0_1, .int .i64 (Go.bits .or .i64 (Go.bits .andNot .i64 a0_2 (ji5)) (ji5))] (0, 0) _ rfl (by (with_reducible repeat (first | refine kDN ?_ _ | refine kD ?_ | refine kA ?_ _)); refine blk_put (cs := #[.int .i64 a0_0, .int .i64 a0_1, .int .i64 0]) ?_ 2 _ rfl; (with_reducible repeat (first | refine kDN ?_ _ | refine kD ?_ | refine kA ?_ _)); refine blk_put (cs := #[.int .i64 a0_0, .int .i64 0, .int .i64 0]) ?_ 1 _ rfl; (with_reducible repeat (first | refine kDN ?_ _ | refine kD ?_ | refine kA ?_ _)); refine blk_put (cs := #[.int .i64 0, .int .i64 0, .int .i64 0]) ?_ 0 _ rfl; (with_reducible repeat (first | refine kDN ?_ _ | refine kD ?_ | refine kA ?_ _)); refine blk_far ?_ NB463_462.out _; (with_reducible repeat (first | refine kDN ?_ _ | refine kD ?_ | refine kA ?_ _)); exact BK463.out) Try.underlying32 rfl (by kernel_rfl)) rfl ?_
   exact ⟨by first | rfl | (simp [errW_none, errW_some] <;> rfl) | (simp only [← hji5]; first | rfl | (simp [errW_none, errW_some] <;> rfl)) | (simp [*, errW_none, errW_some] <;> rfl), by repeat (first | (with_reducible first | exact HB.out | apply bAl | apply bDN | apply bD1 | refine bSt ?_ GE462.out | refine bSt ?_ GE463.out) | exact HB.out)⟩
  ·replace c6 := Bool.eq_false_iff.mpr c6
   subst c6
   have H1 : (some (a0_0, a0_1, Go.bits .andNot .i64 a0_2 (ji5))) = some (r1, r2, r3) := by rw [if_neg (show ¬ (false = true) by decide)] at H; exact H
   clear H
   have H := H1
   clear H1
   simp only [Option.some.injEq, Prod.mk.injEq] at H
   obtain ⟨rfl, rfl, rfl⟩ := H
   go_enter Try.func134, Try.ntmps134
   try go_wp2_with (first | ((with_reducible refine gate_dst (N := 3) rfl ?_); refine box_event ?hg (N := 3) ?hd (cs := #[.int .i64 a0_0, .int .i64 a0_1, .int .i64 a0_2]) (t := 32) ?hr ?_; (case hd => rfl); (case hg => rfl); (case hr => first | (go_simp; done) | (go_simp; rfl)); intro gb462 hg w19 hbox hb; have n0_ := aK (bSp (by repeat (first | (with_reducible first | exact HB.out | apply bAl | apply bDN | apply bD1) | exact HB.out)) hb); have n1_ := aK (hbox); have n2_ := aK ((by rw [hg]; exact (bSz (by repeat (first | (with_reducible first | exact HB.out | apply bAl | apply bDN | apply bD1) | exact HB.out))) : w.heap.size ≤ gb462)); have n3_ := n2_; clear HB; have HB := n0_; have BK462 := n1_; have GW462 := n2_; have GE462 := n3_; clear n0_ n1_ n2_ n3_; clear hb hbox hg) | ((with_reducible refine gate_dst (N := 6) rfl ?_); refine box_event ?hg (N := 6) ?hd (cs := #[.int .i64 0, .int .i64 0, .int .i64 0]) (t := 32) ?hr ?_; (case hd => rfl); (case hg => rfl); (case hr => first | (go_simp; done) | (go_simp; rfl)); intro gb463 hg w20 hbox hb; have n0_ := bkb BK462 hb (by intro z_; (with_reducible repeat (first | refine kDN ?_ _ | refine kD ?_ | refine kA ?_ _)); exact z_); have n1_ := aK (bSp (by repeat (first | (with_reducible first | exact HB.out | apply bAl | apply bDN | apply bD1 | refine bSt ?_ GE462.out) | exact HB.out)) hb); have n2_ := aK (hbox); have n3_ := aK ((by rw [hg]; exact (bSz (by repeat (first | (with_reducible first | exact HB.out | apply bAl | apply bDN | apply bD1 | refine bSt ?_ GE462.out) | exact HB.out))) : w.heap.size ≤ gb463)); have n4_ := n3_; have n5_ := nbl BK462 hg (by intro z_; (with_reducible repeat (first | refine kDN ?_ _ | refine kD ?_ | refine kA ?_ _)); exact z_); have n6_ := nbs n5_; clear BK462; clear HB; have BK462 := n0_; have HB := n1_; have BK463 := n2_; have GW463 := n3_; have GE463 := n4_; have NB462_463 := n5_; have NB463_462 := n6_; clear n0_ n1_ n2_ n3_ n4_ n5_ n6_; clear hb hbox hg))
   have n0_ := aK (kD BK462.out)
   have n1_ := aK (kD BK463.out)
   have n2_ := aK (bD1 HB.out)
   clear BK462
   clear BK463
   clear HB
   have BK462 := n0_
   have BK463 := n1_
   have HB := n2_
   clear n0_ n1_ n2_
   refine start_ (n := 7) (S := fun w' => w'.cell? ⟨gb462, 0, none⟩ = some (.int .i64 a0_0) ∧ w'.cell? ⟨gb462, 1, none⟩ = some (.int .i64 a0_1) ∧ w'.cell? ⟨gb462, 2, none⟩ = some (.int .i64 a0_2)) (ds := [6]) #[bN,bN,bN,bN,bN,bN,bN] (by kernel_rfl) rfl rfl ⟨(kC BK462.out 0).trans rfl, (kC BK462.out 1).trans rfl, (kC BK462.out 2).trans rfl⟩ (fun hHeld => ?_)
   generalize w20.drew = w21 at BK462 BK463 HB hHeld ⊢
   refine pure_ (i := 0) (N := some 7) (v := ?_) (a' := ?_) #[bY,bN,bN,bN,bN,bN,bN] rfl rfl (by kernel_rfl) (fun _ _ _ h => h) (Or.inl ⟨by rfl, ?_⟩) ?_ ?_
   rotate_left
   ·intro w'
    go_simp
    with_reducible rfl
   rotate_left
   ·simp only [Act.put, sTA, sZ, sS, i64_w, i32_w]
    rfl
   refine pure_ (i := 2) (N := some 9) (v := ?_) (a' := ?_) #[bY,bN,bY,bN,bN,bN,bN] rfl rfl (by kernel_rfl) (fun _ _ _ h => h) (Or.inl ⟨by rfl, ?_⟩) ?_ ?_
   rotate_left
   ·intro w'
    go_simp
    with_reducible rfl
   rotate_left
   ·simp only [Act.put, sTA, sZ, sS, i64_w, i32_w]
    rfl
   refine pure_ (i := 3) (N := some 10) (v := ?_) (a' := ?_) #[bY,bN,bY,bY,bN,bN,bN] rfl rfl (by kernel_rfl) (fun _ _ _ h => h) (Or.inl ⟨by rfl, ?_⟩) ?_ ?_
   rotate_left
   ·intro w'
    go_simp
    with_reducible rfl
   rotate_left
   ·simp only [Act.put, sTA, sZ, sS, i64_w, i32_w]
    rfl
   refine take_ (i := 1) (N := some 8) (v := ?_) (a' := ?_) #[bY,bY,bY,bY,bN,bN,bN] rfl rfl (by kernel_rfl) (fun _ _ _ h => h) (Or.inl ⟨by rfl, ?_⟩) hHeld ?_ ?_
   rotate_left
   ·rintro w' ⟨s0, s1, s2⟩
    go_simp
    with_reducible rfl
   rotate_left
   ·simp only [Act.put, sTA, sZ, sS, i64_w, i32_w]
    rfl
   refine pure_ (i := 4) (N := some 11) (v := ?_) (a' := ?_) #[bY,bY,bY,bY,bY,bN,bN] rfl rfl (by kernel_rfl) (fun _ _ _ h => h) (Or.inl ⟨by rfl, ?_⟩) ?_ ?_
   rotate_left
   ·intro w'
    go_simp
    with_reducible rfl
   rotate_left
   ·simp only [Act.put, sTA, sZ, sS, i64_w, i32_w]
    rfl
   refine pure_ (i := 5) (N := some 12) (v := ?_) (a' := ?_) #[bY,bY,bY,bY,bY,bY,bN] rfl rfl (by kernel_rfl) (fun _ _ _ h => h) (Or.inl ⟨by rfl, ?_⟩) ?_ ?_
   rotate_left
   ·intro w'
    go_simp
    with_reducible rfl
   rotate_left
   ·simp only [Act.put, sTA, sZ, sS, i64_w, i32_w]
    rfl
   refine last_ (i := 6) (N := none) #[bY,bY,bY,bY,bY,bY,bY] rfl rfl (by kernel_rfl) (by decide) (fun K hK => ?_)
   have hs22 : w21.cell? ⟨gb462, 2, none⟩ = some (.int .i64 a0_2) := (kC BK462.out 2).trans rfl
   have hfs22 := kF BK462.out 2
   have hns22_1 := NB463_462.out
   have hms22_1 := NB462_463.out
   refine skip_ (w1 := ?_) (by rfl) rfl ?_ ?_
   rotate_left
   ·go_simp
    rfl
   refine hK.out _ _ ?_
   clear hK K
   refine done_ (by kernel_rfl) ?_
   have hnb23 := NB462_463.out
   have hnc23 := NB463_462.out
   obtain ⟨hcz24_0, hcz24_1, hcz24_2, hfz24_0, hfz24_1, hfz24_2⟩ := cl3 BK462.out
   obtain ⟨hcz25_0, hcz25_1, hcz25_2, hfz25_0, hfz25_1, hfz25_2⟩ := cl3 BK463.out
   try go_wp2
   refine bodyPost_ret (results_cell_row rfl _ _ gb463 32 #[.int .i64 a0_0, .int .i64 a0_1, .int .i64 (Go.bits .andNot .i64 a0_2 (ji5))] (0, 0) _ rfl (by (with_reducible repeat (first | refine kDN ?_ _ | refine kD ?_ | refine kA ?_ _)); refine blk_put (cs := #[.int .i64 a0_0, .int .i64 a0_1, .int .i64 0]) ?_ 2 _ rfl; (with_reducible repeat (first | refine kDN ?_ _ | refine kD ?_ | refine kA ?_ _)); refine blk_put (cs := #[.int .i64 a0_0, .int .i64 0, .int .i64 0]) ?_ 1 _ rfl; (with_reducible repeat (first | refine kDN ?_ _ | refine kD ?_ | refine kA ?_ _)); refine blk_put (cs := #[.int .i64 0, .int .i64 0, .int .i64 0]) ?_ 0 _ rfl; (with_reducible repeat (first | refine kDN ?_ _ | refine kD ?_ | refine kA ?_ _)); refine blk_far ?_ NB463_462.out _; (with_reducible repeat (first | refine kDN ?_ _ | refine kD ?_ | refine kA ?_ _)); exact BK463.out) Try.underlying32 rfl (by kernel_rfl)) rfl ?_
   exact ⟨by first | rfl | (simp [errW_none, errW_some] <;> rfl) | (simp only [← hji5]; first | rfl | (simp [errW_none, errW_some] <;> rfl)) | (simp [*, errW_none, errW_some] <;> rfl), by repeat (first | (with_reducible first | exact HB.out | apply bAl | apply bDN | apply bD1 | refine bSt ?_ GE462.out | refine bSt ?_ GE463.out) | exact HB.out)⟩
 ·rw [if_neg c4] at H
  exact absurd H (by simp)
set_option maxHeartbeats 8000000 in
set_option maxRecDepth 100000 in
theorem spec_SetGap.calls (k : Nat) (a0_0 : Int) (a0_1 : Int) (a0_2 : Int) (a1 : Int) (a2 : Bool) (r1 : Int) (r2 : Int) (r3 : Int) (r4 : Bool) (w : World) (h : spec_SetGap.f k a0_0 a0_1 a0_2 a1 a2 = some (r1, r2, r3, r4)) :
  Calls Try.prog 152 #[.agg #[.int .i64 a0_0, .int .i64 a0_1, .int .i64 a0_2], .int .i64 a1, .bool a2] w fun e w' => e = .returned (.tuple #[.agg #[.int .i64 r1, .int .i64 r2, .int .i64 r3], .bool r4]) ∧ Below w.heap.size w w' := by
 have hu32 := Try.underlying32
 have hu30 := Try.underlying30
 have HB := aK (Below.refl w.heap.size w)
 have H : ((spec_MazeOk.f a0_0 a0_1 a0_2).bind fun t593 => (if t593 = true then ((spec_CountGaps.f a0_0 a0_1).bind fun t594 => ((spec_l01In.f a1 0 (wrap64 (t594 - 1))).bind fun t595 => (spec_SetGap.j0 k a1 a2 (!t595) a0_0 a0_1 a0_2))) else (spec_SetGap.j0 k a1 a2 true a0_0 a0_1 a0_2))) = some (r1, r2, r3, r4) := h
 clear h
 have HC4 := aK H
 clear H
 go_enter Try.func152, Try.ntmps152
 go_upto_region 1 with (first | ((with_reducible refine gate_dst (N := 3) rfl ?_); refine box_event ?hg (N := 3) ?hd (cs := #[.int .i64 a0_0, .int .i64 a0_1, .int .i64 a0_2]) (t := 32) ?hr ?_; (case hd => rfl); (case hg => rfl); (case hr => first | (go_simp; done) | (go_simp; rfl)); intro gb591 hg w5 hbox hb; have n0_ := aK (bSp (by repeat (first | (with_reducible first | exact HB.out | apply bAl | apply bDN | apply bD1) | exact HB.out)) hb); have n1_ := aK (hbox); have n2_ := aK ((by rw [hg]; exact (bSz (by repeat (first | (with_reducible first | exact HB.out | apply bAl | apply bDN | apply bD1) | exact HB.out))) : w.heap.size ≤ gb591)); have n3_ := n2_; clear HB; have HB := n0_; have BK591 := n1_; have GW591 := n2_; have GE591 := n3_; clear n0_ n1_ n2_ n3_; clear hb hbox hg) | ((with_reducible refine gate_dst (N := 6) rfl ?_); refine box_event ?hg (N := 6) ?hd (cs := #[.int .i64 0, .int .i64 0, .int .i64 0]) (t := 32) ?hr ?_; (case hd => rfl); (case hg => rfl); (case hr => first | (go_simp; done) | (go_simp; rfl)); intro gb592 hg w6 hbox hb; have n0_ := bkb BK591 hb (by intro z_; (with_reducible repeat (first | refine kDN ?_ _ | refine kD ?_ | refine kA ?_ _)); exact z_); have n1_ := aK (bSp (by repeat (first | (with_reducible first | exact HB.out | apply bAl | apply bDN | apply bD1 | refine bSt ?_ GE591.out) | exact HB.out)) hb); have n2_ := aK (hbox); have n3_ := aK ((by rw [hg]; exact (bSz (by repeat (first | (with_reducible first | exact HB.out | apply bAl | apply bDN | apply bD1 | refine bSt ?_ GE591.out) | exact HB.out))) : w.heap.size ≤ gb592)); have n4_ := n3_; have n5_ := nbl BK591 hg (by intro z_; (with_reducible repeat (first | refine kDN ?_ _ | refine kD ?_ | refine kA ?_ _)); exact z_); have n6_ := nbs n5_; clear BK591; clear HB; have BK591 := n0_; have HB := n1_; have BK592 := n2_; have GW592 := n3_; have GE592 := n4_; have NB591_592 := n5_; have NB592_591 := n6_; clear n0_ n1_ n2_ n3_ n4_ n5_ n6_; clear hb hbox hg))
 (try simp only [Act.put, sTA, sZ, sS])
 go_cut [19] (fun v19 wc => ∃ (kq : Nat) (x19_3 : Bool), v19 = .bool x19_3 ∧ Aside0 (spec_SetGap.j0 kq a1 a2 x19_3 a0_0 a0_1 a0_2 = some (r1, r2, r3, r4)) ∧ Aside0 (kq ≤ k) ∧ Aside0 (wc.heap[gb591]? = some (.cells #[.int .i64 a0_0, .int .i64 a0_1, .int .i64 a0_2] 32 (0, 0))) ∧ Aside0 (wc.heap[gb592]? = some (.cells #[.int .i64 0, .int .i64 0, .int .i64 0] 32 (0, 0))) ∧ Aside0 (Below w.heap.size w wc))
 case first =>
  have H := HC4.out
  clear HC4
  replace H := Option.bind_eq_some_iff.mp H
  obtain ⟨t593, A70, H⟩ := H
  replace H : (if t593 = true then ((spec_CountGaps.f a0_0 a0_1).bind fun t594 => ((spec_l01In.f a1 0 (wrap64 (t594 - 1))).bind fun t595 => (spec_SetGap.j0 k a1 a2 (!t595) a0_0 a0_1 a0_2))) else (spec_SetGap.j0 k a1 a2 true a0_0 a0_1 a0_2)) = some (r1, r2, r3, r4) := H
  have A7 := aK A70
  clear A70
  by_cases c8 : t593 = true
  ·subst c8
   have H1 : ((spec_CountGaps.f a0_0 a0_1).bind fun t594 => ((spec_l01In.f a1 0 (wrap64 (t594 - 1))).bind fun t595 => (spec_SetGap.j0 k a1 a2 (!t595) a0_0 a0_1 a0_2))) = some (r1, r2, r3, r4) := by rw [if_pos rfl] at H; exact H
   clear H
   have H := H1
   clear H1
   replace H := Option.bind_eq_some_iff.mp H
   obtain ⟨t594, A90, H⟩ := H
   replace H : ((spec_l01In.f a1 0 (wrap64 (t594 - 1))).bind fun t595 => (spec_SetGap.j0 k a1 a2 (!t595) a0_0 a0_1 a0_2)) = some (r1, r2, r3, r4) := H
   have A9 := aK A90
   clear A90
   replace H := Option.bind_eq_some_iff.mp H
   obtain ⟨t595, A100, H⟩ := H
   replace H : (spec_SetGap.j0 k a1 a2 (!t595) a0_0 a0_1 a0_2) = some (r1, r2, r3, r4) := H
   have A10 := aK A100
   clear A100
   have H' := aK H
   clear H
   have hnb11 := NB591_592.out
   have hnc11 := NB592_591.out
   obtain ⟨hcz12_0, hcz12_1, hcz12_2, hfz12_0, hfz12_1, hfz12_2⟩ := cl3 BK591.out
   go_wp2_with (first | ((with_reducible refine gate_callee (f := 108) rfl ?_); refine goesL_ (some 9) rfl rfl Try.func108 (by kernel_rfl) rfl #[.agg #[.int .i64 a0_0, .int .i64 a0_1, .int .i64 a0_2]] rfl (by (try simp only [List.map_toArray, List.map_cons, List.map_nil]); first | done | rfl | (simp only [List.length_drop, List.length_take]; rfl)) ?_; (with_reducible refine (spec_MazeOk.calls a0_0 a0_1 a0_2 true _ A7.out).mono ?_); rintro e w13 ⟨rfl, hb⟩; refine ⟨_, rfl, ?_⟩; have n0_ := bkb BK591 hb (by intro z_; (with_reducible repeat (first | refine kDN ?_ _ | refine kD ?_ | refine kA ?_ _)); exact z_); have n1_ := bkb BK592 hb (by intro z_; (with_reducible repeat (first | refine kDN ?_ _ | refine kD ?_ | refine kA ?_ _)); exact z_); have n2_ := aK (bSp (by repeat (first | (with_reducible first | exact HB.out | apply bAl | apply bDN | apply bD1 | refine bSt ?_ GE591.out | refine bSt ?_ GE592.out) | exact HB.out)) hb); clear BK591; clear BK592; clear HB; have BK591 := n0_; have BK592 := n1_; have HB := n2_; clear n0_ n1_ n2_; (try clear hb); (try clear hb2); (try clear hk); (try clear hi); obtain ⟨hcz14_0, hcz14_1, hcz14_2, hfz14_0, hfz14_1, hfz14_2⟩ := cl3 BK591.out) | (go_at_call 128; (with_reducible refine (spec_CountGaps.calls a0_0 a0_1 t594 _ A9.out).mono ?_); rintro e w15 ⟨rfl, hb⟩; have n0_ := bkb BK591 hb (by intro z_; (with_reducible repeat (first | refine kDN ?_ _ | refine kD ?_ | refine kA ?_ _)); exact z_); have n1_ := bkb BK592 hb (by intro z_; (with_reducible repeat (first | refine kDN ?_ _ | refine kD ?_ | refine kA ?_ _)); exact z_); have n2_ := aK (bSp (by repeat (first | (with_reducible first | exact HB.out | apply bAl | apply bDN | apply bD1 | refine bSt ?_ GE591.out | refine bSt ?_ GE592.out) | exact HB.out)) hb); clear BK591; clear BK592; clear HB; have BK591 := n0_; have BK592 := n1_; have HB := n2_; clear n0_ n1_ n2_; (try clear hb); (try clear hb2); (try clear hk); (try clear hi)) | (go_at_call 109; (with_reducible refine (spec_l01In.calls a1 0 (wrap64 (t594 - 1)) t595 _ A10.out).mono ?_); rintro e w' ⟨rfl, ⟨nd, rfl⟩⟩))
   go_meet
   case rel => exact ⟨_, (!t595), (by first | rfl | (simp; done) | (simp [*]; done)), H', ⟨by first | omega | exact Nat.le_refl _⟩, ⟨by (with_reducible repeat (first | refine kDN ?_ _ | refine kD ?_ | refine kA ?_ _)); exact BK591.out⟩, ⟨by (with_reducible repeat (first | refine kDN ?_ _ | refine kD ?_ | refine kA ?_ _)); exact BK592.out⟩, ⟨by repeat (first | (with_reducible first | exact HB.out | apply bAl | apply bDN | apply bD1 | refine bSt ?_ GE591.out | refine bSt ?_ GE592.out) | exact HB.out)⟩⟩
  ·replace c8 := Bool.eq_false_iff.mpr c8
   subst c8
   have H1 : (spec_SetGap.j0 k a1 a2 true a0_0 a0_1 a0_2) = some (r1, r2, r3, r4) := by rw [if_neg (show ¬ (false = true) by decide)] at H; exact H
   clear H
   have H := H1
   clear H1
   have H' := aK H
   clear H
   have hnb16 := NB591_592.out
   have hnc16 := NB592_591.out
   obtain ⟨hcz17_0, hcz17_1, hcz17_2, hfz17_0, hfz17_1, hfz17_2⟩ := cl3 BK591.out
   go_wp2_with (first | ((with_reducible refine gate_callee (f := 108) rfl ?_); refine goesL_ (some 9) rfl rfl Try.func108 (by kernel_rfl) rfl #[.agg #[.int .i64 a0_0, .int .i64 a0_1, .int .i64 a0_2]] rfl (by (try simp only [List.map_toArray, List.map_cons, List.map_nil]); first | done | rfl | (simp only [List.length_drop, List.length_take]; rfl)) ?_; (with_reducible refine (spec_MazeOk.calls a0_0 a0_1 a0_2 false _ A7.out).mono ?_); rintro e w18 ⟨rfl, hb⟩; refine ⟨_, rfl, ?_⟩; have n0_ := bkb BK591 hb (by intro z_; (with_reducible repeat (first | refine kDN ?_ _ | refine kD ?_ | refine kA ?_ _)); exact z_); have n1_ := bkb BK592 hb (by intro z_; (with_reducible repeat (first | refine kDN ?_ _ | refine kD ?_ | refine kA ?_ _)); exact z_); have n2_ := aK (bSp (by repeat (first | (with_reducible first | exact HB.out | apply bAl | apply bDN | apply bD1 | refine bSt ?_ GE591.out | refine bSt ?_ GE592.out) | exact HB.out)) hb); clear BK591; clear BK592; clear HB; have BK591 := n0_; have BK592 := n1_; have HB := n2_; clear n0_ n1_ n2_; (try clear hb); (try clear hb2); (try clear hk); (try clear hi)))
   go_meet
   case rel => exact ⟨_, (true), (by first | rfl | (simp; done) | (simp [*]; done)), H', ⟨by first | omega | exact Nat.le_refl _⟩, ⟨by (with_reducible repeat (first | refine kDN ?_ _ | refine kD ?_ | refine kA ?_ _)); exact BK591.out⟩, ⟨by (with_reducible repeat (first | refine kDN ?_ _ | refine kD ?_ | refine kA ?_ _)); exact BK592.out⟩, ⟨by repeat (first | (with_reducible first | exact HB.out | apply bAl | apply bDN | apply bD1 | refine bSt ?_ GE591.out | refine bSt ?_ GE592.out) | exact HB.out)⟩⟩
 case rest =>
  clear HC4
  try clear c1
  try clear p2
  try clear p6
  try clear c8
  try clear c10
  try clear c11
  try clear c15
  try clear c16
  try clear hcz12_0
  try clear hcz12_1
  try clear hcz12_2
  try clear hcz14_0
  try clear hcz14_1
  try clear hcz14_2
  try clear hcz17_0
  try clear hcz17_1
  try clear hcz17_2
  try clear hfz12_0
  try clear hfz12_1
  try clear hfz12_2
  try clear hfz14_0
  try clear hfz14_1
  try clear hfz14_2
  try clear hfz17_0
  try clear hfz17_1
  try clear hfz17_2
  obtain ⟨kq, x19_3, rfl, HA, HJ3, BK591, BK592, HB⟩ := hcut
  cases kq with
  | zero => exact absurd HA.out (by simp [spec_SetGap.j0])
  | succ kj3 =>
   have H := HA.out
   clear HA
   simp only [spec_SetGap.j0] at H
   by_cases c19 : x19_3 = true
   ·subst c19
    have H1 : (some (a0_0, a0_1, a0_2, false)) = some (r1, r2, r3, r4) := by rw [if_pos rfl] at H; exact H
    clear H
    have H := H1
    clear H1
    simp only [Option.some.injEq, Prod.mk.injEq] at H
    obtain ⟨rfl, rfl, rfl, rfl⟩ := H
    have hnb20 := NB591_592.out
    have hnc20 := NB592_591.out
    obtain ⟨hcz21_0, hcz21_1, hcz21_2, hfz21_0, hfz21_1, hfz21_2⟩ := cl3 BK591.out
    obtain ⟨hcz22_0, hcz22_1, hcz22_2, hfz22_0, hfz22_1, hfz22_2⟩ := cl3 BK592.out
    go_wp2
    refine bodyPost_ret (results_ct rfl _ _ gb592 32 #[.int .i64 a0_0, .int .i64 a0_1, .int .i64 a0_2] (0, 0) _ rfl (by (with_reducible repeat (first | refine kDN ?_ _ | refine kD ?_ | refine kA ?_ _)); refine blk_put (cs := #[.int .i64 a0_0, .int .i64 a0_1, .int .i64 0]) ?_ 2 _ rfl; (with_reducible repeat (first | refine kDN ?_ _ | refine kD ?_ | refine kA ?_ _)); refine blk_put (cs := #[.int .i64 a0_0, .int .i64 0, .int .i64 0]) ?_ 1 _ rfl; (with_reducible repeat (first | refine kDN ?_ _ | refine kD ?_ | refine kA ?_ _)); refine blk_put (cs := #[.int .i64 0, .int .i64 0, .int .i64 0]) ?_ 0 _ rfl; (with_reducible repeat (first | refine kDN ?_ _ | refine kD ?_ | refine kA ?_ _)); exact BK592.out) Try.underlying32 rfl (by kernel_rfl)) rfl ?_
    exact ⟨by first | rfl | (simp [errW_none, errW_some] <;> rfl) | (simp [*, errW_none, errW_some] <;> rfl), by repeat (first | (with_reducible first | exact HB.out | apply bAl | apply bDN | apply bD1 | refine bSt ?_ GE591.out | refine bSt ?_ GE592.out) | exact HB.out)⟩
   ·replace c19 := Bool.eq_false_iff.mpr c19
    subst c19
    have H1 : ((spec_l03Bit.f a0_2 a1).bind fun t596 => (if (t596 != a2) = true then (if 0 ≤ a1 then (some (a0_0, a0_1, Go.bits .xor .i64 a0_2 (shl .i64 1 a1), true)) else (none)) else (some (a0_0, a0_1, a0_2, true)))) = some (r1, r2, r3, r4) := by rw [if_neg (show ¬ (false = true) by decide)] at H; exact H
    clear H
    have H := H1
    clear H1
    replace H := Option.bind_eq_some_iff.mp H
    obtain ⟨t596, A230, H⟩ := H
    replace H : (if (t596 != a2) = true then (if 0 ≤ a1 then (some (a0_0, a0_1, Go.bits .xor .i64 a0_2 (shl .i64 1 a1), true)) else (none)) else (some (a0_0, a0_1, a0_2, true))) = some (r1, r2, r3, r4) := H
    have A23 := aK A230
    clear A230
    by_cases c24 : (t596 != a2) = true
    ·rw [if_pos c24] at H
     have c24b0 : (t596 != a2) = true := c24
     (try (have c24b1 : decide (t596 = a2) = false := by simpa using c24))
     (try (have c24b2 : (t596 == a2) = false := by simpa using c24))
     (try (have c24b3 : ¬ (t596 = a2) := by simpa using c24))
     clear c24
     by_cases c25 : 0 ≤ a1
     ·rw [if_pos c25] at H
      have c25b0 := eq_true c25
      have c25b1 : decide (0 ≤ a1) = true := decide_eq_true c25
      clear c25
      obtain ⟨ji26, hji26⟩ : ∃ j_ : Int, (shl .i64 1 a1) = j_ := ⟨_, rfl⟩
      replace H : (some (a0_0, a0_1, Go.bits .xor .i64 a0_2 (ji26), true)) = some (r1, r2, r3, r4) := by first | (rw [hji26] at H; exact H) | (simp only [hji26] at H ⊢; exact H)
      (try rw [hji26] at A23)
      have hji26_ : (IntKind.i64.wrap (1 * 2 ^ min a1.toNat 64)) = ji26 := hji26
      have hji26z : a1 ≤ 64 → (IntKind.i64.wrap (1 * 2 ^ a1.toNat)) = ji26 := shl_small hji26
      have hji26u : (IntKind.i64.wrap (2 ^ min a1.toNat 64)) = ji26 := by have h_ := hji26_; rw [Int.one_mul] at h_; exact h_
      have hji26v : a1 ≤ 64 → (IntKind.i64.wrap (2 ^ a1.toNat)) = ji26 := fun hle_ => by have h_ := hji26z hle_; rw [Int.one_mul] at h_; exact h_
      have hji26y : (wrap64 (1 * 2 ^ min a1.toNat 64)) = ji26 := (i64_w _).symm.trans hji26_
      have hji26x : a1 ≤ 64 → (wrap64 (1 * 2 ^ a1.toNat)) = ji26 := fun h_ => (i64_w _).symm.trans (hji26z h_)
      simp only [Option.some.injEq, Prod.mk.injEq] at H
      obtain ⟨rfl, rfl, rfl, rfl⟩ := H
      have hnb27 := NB591_592.out
      have hnc27 := NB592_591.out
      obtain ⟨hcz28_0, hcz28_1, hcz28_2, hfz28_0, hfz28_1, hfz28_2⟩ := cl3 BK591.out
      try go_wp2_with (first | ((with_reducible refine gate_callee (f := 82) rfl ?_); refine goesL_ (some 24) rfl rfl Try.func82 (by kernel_rfl) rfl #[.int .i64 a0_2, .int .i64 a1] rfl (by (try simp only [List.map_toArray, List.map_cons, List.map_nil]); first | done | rfl | (simp only [List.length_drop, List.length_take]; rfl)) ?_; (with_reducible refine (spec_l03Bit.calls a0_2 a1 t596 _ A23.out).mono ?_); rintro e w' ⟨rfl, ⟨nd, rfl⟩⟩; refine ⟨_, rfl, ?_⟩; (try (rw [drewN_self wc]; generalize hq_ : World.drewN wc _ = wc; have n0_ : Aside0 (wc.heap[gb591]? = some (.cells #[.int .i64 a0_0, .int .i64 a0_1, .int .i64 a0_2] 32 (0, 0))) := ⟨by rw [← hq_]; exact (by (with_reducible repeat (first | refine kDN ?_ _ | refine kD ?_ | refine kA ?_ _)); exact BK591.out)⟩; have n1_ : Aside0 (wc.heap[gb592]? = some (.cells #[.int .i64 0, .int .i64 0, .int .i64 0] 32 (0, 0))) := ⟨by rw [← hq_]; exact (by (with_reducible repeat (first | refine kDN ?_ _ | refine kD ?_ | refine kA ?_ _)); exact BK592.out)⟩; have n2_ : Aside0 (Below w.heap.size w wc) := ⟨by rw [← hq_]; exact (by repeat (first | (with_reducible first | exact HB.out | apply bAl | apply bDN | apply bD1 | refine bSt ?_ GE591.out | refine bSt ?_ GE592.out) | exact HB.out))⟩; clear BK591 BK592 HB hq_; have BK591 := n0_; have BK592 := n1_; have HB := n2_; clear n0_ n1_ n2_))))
      have n0_ := aK (kD BK591.out)
      have n1_ := aK (kD BK592.out)
      have n2_ := aK (bD1 HB.out)
      clear BK591
      clear BK592
      clear HB
      have BK591 := n0_
      have BK592 := n1_
      have HB := n2_
      clear n0_ n1_ n2_
      refine start_ (n := 7) (S := fun w' => w'.cell? ⟨gb591, 0, none⟩ = some (.int .i64 a0_0) ∧ w'.cell? ⟨gb591, 1, none⟩ = some (.int .i64 a0_1) ∧ w'.cell? ⟨gb591, 2, none⟩ = some (.int .i64 a0_2)) (ds := [6]) #[bN,bN,bN,bN,bN,bN,bN] (by kernel_rfl) rfl rfl ⟨(kC BK591.out 0).trans rfl, (kC BK591.out 1).trans rfl, (kC BK591.out 2).trans rfl⟩ (fun hHeld => ?_)
      generalize wc.drew = w29 at BK591 BK592 HB hHeld ⊢
      refine pure_ (i := 0) (N := some 27) (v := ?_) (a' := ?_) #[bY,bN,bN,bN,bN,bN,bN] rfl rfl (by kernel_rfl) (fun _ _ _ h => h) (Or.inl ⟨by rfl, ?_⟩) ?_ ?_
      rotate_left
      ·intro w'
       go_simp
       with_reducible rfl
      rotate_left
      ·simp only [Act.put, sTA, sZ, sS, i64_w, i32_w]
       rfl
      refine pure_ (i := 2) (N := some 29) (v := ?_) (a' := ?_) #[bY,bN,bY,bN,bN,bN,bN] rfl rfl (by kernel_rfl) (fun _ _ _ h => h) (Or.inl ⟨by rfl, ?_⟩) ?_ ?_
      rotate_left
      ·intro w'
       go_simp
       with_reducible rfl
      rotate_left
      ·simp only [Act.put, sTA, sZ, sS, i64_w, i32_w]
       rfl
      refine pure_ (i := 3) (N := some 30) (v := ?_) (a' := ?_) #[bY,bN,bY,bY,bN,bN,bN] rfl rfl (by kernel_rfl) (fun _ _ _ h => h) (Or.inl ⟨by rfl, ?_⟩) ?_ ?_
      rotate_left
      ·intro w'
       go_simp
       with_reducible rfl
      rotate_left
      ·simp only [Act.put, sTA, sZ, sS, i64_w, i32_w]
       rfl
      refine take_ (i := 1) (N := some 28) (v := ?_) (a' := ?_) #[bY,bY,bY,bY,bN,bN,bN] rfl rfl (by kernel_rfl) (fun _ _ _ h => h) (Or.inl ⟨by rfl, ?_⟩) hHeld ?_ ?_
      rotate_left
      ·rintro w' ⟨s0, s1, s2⟩
       go_simp
       with_reducible rfl
      rotate_left
      ·simp only [Act.put, sTA, sZ, sS, i64_w, i32_w]
       rfl
      refine pure_ (i := 4) (N := some 31) (v := ?_) (a' := ?_) #[bY,bY,bY,bY,bY,bN,bN] rfl rfl (by kernel_rfl) (fun _ _ _ h => h) (Or.inl ⟨by rfl, ?_⟩) ?_ ?_
      rotate_left
      ·intro w'
       go_simp
       with_reducible rfl
      rotate_left
      ·simp only [Act.put, sTA, sZ, sS, i64_w, i32_w]
       rfl
      refine pure_ (i := 5) (N := some 32) (v := ?_) (a' := ?_) #[bY,bY,bY,bY,bY,bY,bN] rfl rfl (by kernel_rfl) (fun _ _ _ h => h) (Or.inl ⟨by rfl, ?_⟩) ?_ ?_
      rotate_left
      ·intro w'
       go_simp
       with_reducible rfl
      rotate_left
      ·simp only [Act.put, sTA, sZ, sS, i64_w, i32_w]
       rfl
      refine last_ (i := 6) (N := none) #[bY,bY,bY,bY,bY,bY,bY] rfl rfl (by kernel_rfl) (by decide) (fun K hK => ?_)
      have hs30 : w29.cell? ⟨gb591, 2, none⟩ = some (.int .i64 a0_2) := (kC BK591.out 2).trans rfl
      have hfs30 := kF BK591.out 2
      have hns30_1 := NB592_591.out
      have hms30_1 := NB591_592.out
      refine skip_ (w1 := ?_) (by rfl) rfl ?_ ?_
      rotate_left
      ·go_simp
       rfl
      refine hK.out _ _ ?_
      clear hK K
      refine done_ (by kernel_rfl) ?_
      obtain ⟨hcz31_0, hcz31_1, hcz31_2, hfz31_0, hfz31_1, hfz31_2⟩ := cl3 BK591.out
      obtain ⟨hcz32_0, hcz32_1, hcz32_2, hfz32_0, hfz32_1, hfz32_2⟩ := cl3 BK592.out
      try go_wp2
      refine bodyPost_ret (results_ct rfl _ _ gb592 32 #[.int .i64 a0_0, .int .i64 a0_1, .int .i64 (Go.bits .xor .i64 a0_2 (ji26))] (0, 0) _ rfl (by (with_reducible repeat (first | refine kDN ?_ _ | refine kD ?_ | refine kA ?_ _)); refine blk_put (cs := #[.int .i64 a0_0, .int .i64 a0_1, .int .i64 0]) ?_ 2 _ rfl; (with_reducible repeat (first | refine kDN ?_ _ | refine kD ?_ | refine kA ?_ _)); refine blk_put (cs := #[.int .i64 a0_0, .int .i64 0, .int .i64 0]) ?_ 1 _ rfl; (with_reducible repeat (first | refine kDN ?_ _ | refine kD ?_ | refine kA ?_ _)); refine blk_put (cs := #[.int .i64 0, .int .i64 0, .int .i64 0]) ?_ 0 _ rfl; (with_reducible repeat (first | refine kDN ?_ _ | refine kD ?_ | refine kA ?_ _)); refine blk_far ?_ NB592_591.out _; (with_reducible repeat (first | refine kDN ?_ _ | refine kD ?_ | refine kA ?_ _)); exact BK592.out) Try.underlying32 rfl (by kernel_rfl)) rfl ?_
      exact ⟨by first | rfl | (simp [errW_none, errW_some] <;> rfl) | (simp only [← hji26]; first | rfl | (simp [errW_none, errW_some] <;> rfl)) | (simp [*, errW_none, errW_some] <;> rfl), by repeat (first | (with_reducible first | exact HB.out | apply bAl | apply bDN | apply bD1 | refine bSt ?_ GE591.out | refine bSt ?_ GE592.out) | exact HB.out)⟩
     ·rw [if_neg c25] at H
      exact absurd H (by simp)
    ·rw [if_neg c24] at H
     have c24b0 : (t596 != a2) = false := by simpa using c24
     (try (have c24b1 : decide (t596 = a2) = true := by simpa using c24))
     (try (have c24b2 : (t596 == a2) = true := by simpa using c24))
     clear c24
     simp only [Option.some.injEq, Prod.mk.injEq] at H
     obtain ⟨rfl, rfl, rfl, rfl⟩ := H
     have hnb33 := NB591_592.out
     have hnc33 := NB592_591.out
     obtain ⟨hcz34_0, hcz34_1, hcz34_2, hfz34_0, hfz34_1, hfz34_2⟩ := cl3 BK591.out
     go_wp2_with (first | ((with_reducible refine gate_callee (f := 82) rfl ?_); refine goesL_ (some 24) rfl rfl Try.func82 (by kernel_rfl) rfl #[.int .i64 a0_2, .int .i64 a1] rfl (by (try simp only [List.map_toArray, List.map_cons, List.map_nil]); first | done | rfl | (simp only [List.length_drop, List.length_take]; rfl)) ?_; (with_reducible refine (spec_l03Bit.calls a0_2 a1 t596 _ A23.out).mono ?_); rintro e w' ⟨rfl, ⟨nd, rfl⟩⟩; refine ⟨_, rfl, ?_⟩; (try (rw [drewN_self wc]; generalize hq_ : World.drewN wc _ = wc; have n0_ : Aside0 (wc.heap[gb591]? = some (.cells #[.int .i64 a0_0, .int .i64 a0_1, .int .i64 a0_2] 32 (0, 0))) := ⟨by rw [← hq_]; exact (by (with_reducible repeat (first | refine kDN ?_ _ | refine kD ?_ | refine kA ?_ _)); exact BK591.out)⟩; have n1_ : Aside0 (wc.heap[gb592]? = some (.cells #[.int .i64 0, .int .i64 0, .int .i64 0] 32 (0, 0))) := ⟨by rw [← hq_]; exact (by (with_reducible repeat (first | refine kDN ?_ _ | refine kD ?_ | refine kA ?_ _)); exact BK592.out)⟩; have n2_ : Aside0 (Below w.heap.size w wc) := ⟨by rw [← hq_]; exact (by repeat (first | (with_reducible first | exact HB.out | apply bAl | apply bDN | apply bD1 | refine bSt ?_ GE591.out | refine bSt ?_ GE592.out) | exact HB.out))⟩; clear BK591 BK592 HB hq_; have BK591 := n0_; have BK592 := n1_; have HB := n2_; clear n0_ n1_ n2_)); have hczz591_0 : wc.cell? ⟨gb591, 0, none⟩ = some (.int .i64 a0_0) := (kC BK591.out 0).trans rfl; have hczz591_1 : wc.cell? ⟨gb591, 1, none⟩ = some (.int .i64 a0_1) := (kC BK591.out 1).trans rfl; have hczz591_2 : wc.cell? ⟨gb591, 2, none⟩ = some (.int .i64 a0_2) := (kC BK591.out 2).trans rfl; obtain ⟨hcz35_0, hcz35_1, hcz35_2, hfz35_0, hfz35_1, hfz35_2⟩ := cl3 BK592.out))
     refine bodyPost_ret (results_ct rfl _ _ gb592 32 #[.int .i64 a0_0, .int .i64 a0_1, .int .i64 a0_2] (0, 0) _ rfl (by (with_reducible repeat (first | refine kDN ?_ _ | refine kD ?_ | refine kA ?_ _)); refine blk_put (cs := #[.int .i64 a0_0, .int .i64 a0_1, .int .i64 0]) ?_ 2 _ rfl; (with_reducible repeat (first | refine kDN ?_ _ | refine kD ?_ | refine kA ?_ _)); refine blk_put (cs := #[.int .i64 a0_0, .int .i64 0, .int .i64 0]) ?_ 1 _ rfl; (with_reducible repeat (first | refine kDN ?_ _ | refine kD ?_ | refine kA ?_ _)); refine blk_put (cs := #[.int .i64 0, .int .i64 0, .int .i64 0]) ?_ 0 _ rfl; (with_reducible repeat (first | refine kDN ?_ _ | refine kD ?_ | refine kA ?_ _)); exact BK592.out) Try.underlying32 rfl (by kernel_rfl)) rfl ?_
     exact ⟨by first | rfl | (simp [errW_none, errW_some] <;> rfl) | (simp [*, errW_none, errW_some] <;> rfl), by repeat (first | (with_reducible first | exact HB.out | apply bAl | apply bDN | apply bD1 | refine bSt ?_ GE591.out | refine bSt ?_ GE592.out) | exact HB.out)⟩
end Go.Proofs.Ytimejdhglmajdaa.F
end

section
namespace Go.Proofs.Ytimejdhglmajdaa.F
open Go.RowKit Go.Proofs.YtimejdhglmajdaaW.PrintWords Go.Proofs.YtimejdhglmajdaaW.PrintLast Go.Proofs.YtimejdhglmajdaaW.PrintMore
set_option linter.unusedVariables false
set_option linter.unusedSimpArgs false
attribute [local go_sem] max2_int min2_int max_two min_two
def spec_l37Two.T8 : Bool × List (List Nat × List Nat) := (true, [([], []), ([], []), ([], []), ([1, 2], [1, 2]), ([0, 3, 3], [0, 3]), ([4], [4]), ([5], [5]), ([5], [5]), ([6, 4, 0, 1, 2, 3, 4, 5, 6], [6])])
def spec_l37Two.B8 : List Nat := [0, 0, 0, 6, 15, 31, 63, 63, 127]
theorem spec_l37Two.tab8 : rtab .any (opsOf Try.f100 8) = spec_l37Two.T8 := by kernel_rfl
theorem spec_l37Two.bits8 : waitsOk spec_l37Two.T8.2 spec_l37Two.B8 = true := by kernel_rfl
def spec_l37Two.T9 : Bool × List (List Nat × List Nat) := (true, [([], []), ([], []), ([], []), ([1, 2], [1, 2]), ([0, 3, 3], [0, 3]), ([4], [4]), ([5], [5]), ([5], [5]), ([6, 4, 0, 1, 2, 3, 4, 5, 6], [6])])
def spec_l37Two.B9 : List Nat := [0, 0, 0, 6, 15, 31, 63, 63, 127]
theorem spec_l37Two.tab9 : rtab .any (opsOf Try.f100 9) = spec_l37Two.T9 := by kernel_rfl
theorem spec_l37Two.bits9 : waitsOk spec_l37Two.T9.2 spec_l37Two.B9 = true := by kernel_rfl
set_option maxHeartbeats 8000000 in
set_option maxRecDepth 100000 in
theorem spec_l37Two.calls (k : Nat) (g : Nat) (s0_0 : List Int) (s0_1 : Int) (s0_2 : Int) (r1 : Int) (r2 : Int) (r3 : Int) (r4 : Int) (r5 : Int) (r6 : Int) (r7 : Int) (r8 : Int) (w0 w : World) (hI : IsS151 w0 w g s0_0 s0_1 s0_2) (hB : Below w0.heap.size w0 w) (h : spec_l37Two.f k s0_0 s0_1 s0_2 = some (r1, r2, r3, r4, r5, r6, r7, r8)) :
  Calls Try.prog 100 #[.pointer (some ⟨g, 0, none⟩)] w fun e w' => e = .returned (.tuple #[.agg #[.int .i64 r1, .int .i64 r2, .int .i64 r3], .agg #[.int .i64 r4, .int .i64 r5, .int .i64 r6]]) ∧ IsS151 w0 w' g s0_0 r7 r8 ∧ Below w0.heap.size w0 w' ∧ KeepBut w w' g none := by
 have hu32 := Try.underlying32
 have hu30 := Try.underlying30
 have HI0 := aK hI
 have HK := aK (KeepBut.refl w g none)
 have HL := aK hB.size
 clear hI
 have HW0 := aK hB.size
 have HB := aK hB
 clear hB
 have H : ((spec_l02Grid.f s0_0 s0_1 s0_2).bind fun bt943 => ((spec_l03Tree.f k s0_0 bt943.2.2.1 bt943.2.2.2 bt943.1 bt943.2.1).bind fun bt948 => ((spec_l03Tree.f k s0_0 bt948.2.2.2.1 bt948.2.2.2.2 bt943.1 bt943.2.1).bind fun bt954 => ((spec_CountGaps.f bt943.1 bt943.2.1).bind fun t960 => ((spec_l01Below.f s0_0 bt954.2.2.2.1 bt954.2.2.2.2 4).bind fun bt961 => (spec_l37Two.l0 k t960 bt961.1 s0_0 bt961.2.1 bt961.2.2 bt948.1 bt948.2.1 bt948.2.2.1 bt954.1 bt954.2.1 bt954.2.2.1)))))) = some (r1, r2, r3, r4, r5, r6, r7, r8) := h
 clear h
 replace H := Option.bind_eq_some_iff.mp H
 obtain ⟨⟨t943, t944, t945, t946⟩, A20, H⟩ := H
 replace H : ((spec_l03Tree.f k s0_0 t945 t946 t943 t944).bind fun bt948 => ((spec_l03Tree.f k s0_0 bt948.2.2.2.1 bt948.2.2.2.2 t943 t944).bind fun bt954 => ((spec_CountGaps.f t943 t944).bind fun t960 => ((spec_l01Below.f s0_0 bt954.2.2.2.1 bt954.2.2.2.2 4).bind fun bt961 => (spec_l37Two.l0 k t960 bt961.1 s0_0 bt961.2.1 bt961.2.2 bt948.1 bt948.2.1 bt948.2.2.1 bt954.1 bt954.2.1 bt954.2.2.1))))) = some (r1, r2, r3, r4, r5, r6, r7, r8) := H
 have A2 := aK A20
 clear A20
 replace H := Option.bind_eq_some_iff.mp H
 obtain ⟨⟨t948, t949, t950, t951, t952⟩, A30, H⟩ := H
 replace H : ((spec_l03Tree.f k s0_0 t951 t952 t943 t944).bind fun bt954 => ((spec_CountGaps.f t943 t944).bind fun t960 => ((spec_l01Below.f s0_0 bt954.2.2.2.1 bt954.2.2.2.2 4).bind fun bt961 => (spec_l37Two.l0 k t960 bt961.1 s0_0 bt961.2.1 bt961.2.2 t948 t949 t950 bt954.1 bt954.2.1 bt954.2.2.1)))) = some (r1, r2, r3, r4, r5, r6, r7, r8) := H
 have A3 := aK A30
 clear A30
 replace H := Option.bind_eq_some_iff.mp H
 obtain ⟨⟨t954, t955, t956, t957, t958⟩, A40, H⟩ := H
 replace H : ((spec_CountGaps.f t943 t944).bind fun t960 => ((spec_l01Below.f s0_0 t957 t958 4).bind fun bt961 => (spec_l37Two.l0 k t960 bt961.1 s0_0 bt961.2.1 bt961.2.2 t948 t949 t950 t954 t955 t956))) = some (r1, r2, r3, r4, r5, r6, r7, r8) := H
 have A4 := aK A40
 clear A40
 replace H := Option.bind_eq_some_iff.mp H
 obtain ⟨t960, A50, H⟩ := H
 replace H : ((spec_l01Below.f s0_0 t957 t958 4).bind fun bt961 => (spec_l37Two.l0 k t960 bt961.1 s0_0 bt961.2.1 bt961.2.2 t948 t949 t950 t954 t955 t956)) = some (r1, r2, r3, r4, r5, r6, r7, r8) := H
 have A5 := aK A50
 clear A50
 replace H := Option.bind_eq_some_iff.mp H
 obtain ⟨⟨t961, t962, t963⟩, A60, H⟩ := H
 replace H : (spec_l37Two.l0 k t960 t961 s0_0 t962 t963 t948 t949 t950 t954 t955 t956) = some (r1, r2, r3, r4, r5, r6, r7, r8) := H
 have A6 := aK A60
 clear A60
 have H' := aK H
 clear H
 go_enter Try.func100, Try.ntmps100
 go_wp2_with (first | ((with_reducible refine gate_dst (N := 2) rfl ?_); refine box_event ?hg (N := 2) ?hd (cs := #[.int .i64 0, .int .i64 0, .int .i64 0]) (t := 32) ?hr ?_; (case hd => rfl); (case hg => rfl); (case hr => first | (go_simp; done) | (go_simp; rfl)); intro gb941 hg w7 hbox hb; have n0_ := aK (IsS151.below (by repeat (first | (with_reducible first | exact HI0.out | apply IsS151.alloc | apply IsS151.drewN | apply IsS151.drew | apply IsS151.set_1 | apply IsS151.set_2) | exact HI0.out)) hb); have n1_ := aK (KeepBut.trans (by repeat (first | (with_reducible first | exact HK.out | apply KeepBut.set_ | apply keep_drewN | apply keep_drew | apply keep_alloc) | exact HK.out)) (KeepBut.of_below hb g none) (.inl rfl)); have n2_ := aK (bSp (by repeat (first | (with_reducible first | exact HB.out | apply bAl | apply bDN | apply bD1 | refine bSt ?_ (IsS151.ge HI0.out)) | exact HB.out)) hb); have n3_ := aK (hbox); have n4_ := aK ((by rw [hg]; exact (keep_size (w := w) (g := g) (row := none) (by repeat (first | (with_reducible first | exact HK.out | apply KeepBut.set_ | apply keep_drewN | apply keep_drew | apply keep_alloc) | exact HK.out))) : w.heap.size ≤ gb941)); have n5_ := aK ((Nat.le_trans HW0.out (by rw [hg]; exact (keep_size (w := w) (g := g) (row := none) (by repeat (first | (with_reducible first | exact HK.out | apply KeepBut.set_ | apply keep_drewN | apply keep_drew | apply keep_alloc) | exact HK.out))) : w.heap.size ≤ gb941) : w0.heap.size ≤ gb941)); have n6_ := aK ((by rw [hg]; exact Nat.ne_of_lt (IsS151.lt (show IsS151 w0 _ g s0_0 s0_1 s0_2 from by repeat (first | (with_reducible first | exact HI0.out | apply IsS151.alloc | apply IsS151.drewN | apply IsS151.drew | apply IsS151.set_1 | apply IsS151.set_2) | exact HI0.out))) : g ≠ gb941)); have n7_ := aK ((by rw [hg]; exact Nat.ne_of_gt (IsS151.lt (show IsS151 w0 _ g s0_0 s0_1 s0_2 from by repeat (first | (with_reducible first | exact HI0.out | apply IsS151.alloc | apply IsS151.drewN | apply IsS151.drew | apply IsS151.set_1 | apply IsS151.set_2) | exact HI0.out))) : gb941 ≠ g)); clear HI0; clear HK; clear HB; have HI0 := n0_; have HK := n1_; have HB := n2_; have BK941 := n3_; have GW941 := n4_; have GE941 := n5_; have NB0_941 := n6_; have NB941_0 := n7_; clear n0_ n1_ n2_ n3_ n4_ n5_ n6_ n7_; clear hb hbox hg) | ((with_reducible refine gate_dst (N := 3) rfl ?_); refine box_event ?hg (N := 3) ?hd (cs := #[.int .i64 0, .int .i64 0, .int .i64 0]) (t := 32) ?hr ?_; (case hd => rfl); (case hg => rfl); (case hr => first | (go_simp; done) | (go_simp; rfl)); intro gb942 hg w8 hbox hb; have n0_ := aK (IsS151.below (by repeat (first | (with_reducible first | exact HI0.out | apply IsS151.alloc | apply IsS151.drewN | apply IsS151.drew | apply IsS151.set_1 | apply IsS151.set_2 | refine IsS151.far ?_ NB0_941.out _) | exact HI0.out)) hb); have n1_ := bkb BK941 hb (by intro z_; (with_reducible repeat (first | refine kDN ?_ _ | refine kD ?_ | refine kA ?_ _)); exact z_); have n2_ := aK (KeepBut.trans (by repeat (first | (with_reducible first | exact HK.out | apply KeepBut.set_ | apply keep_drewN | apply keep_drew | apply keep_alloc | refine keep_far ?_ GW941.out _) | exact HK.out)) (KeepBut.of_below hb g none) (.inl rfl)); have n3_ := aK (bSp (by repeat (first | (with_reducible first | exact HB.out | apply bAl | apply bDN | apply bD1 | refine bSt ?_ (IsS151.ge HI0.out) | refine bSt ?_ GE941.out) | exact HB.out)) hb); have n4_ := aK (hbox); have n5_ := aK ((by rw [hg]; exact (keep_size (w := w) (g := g) (row := none) (by repeat (first | (with_reducible first | exact HK.out | apply KeepBut.set_ | apply keep_drewN | apply keep_drew | apply keep_alloc | refine keep_far ?_ GW941.out _) | exact HK.out))) : w.heap.size ≤ gb942)); have n6_ := aK ((Nat.le_trans HW0.out (by rw [hg]; exact (keep_size (w := w) (g := g) (row := none) (by repeat (first | (with_reducible first | exact HK.out | apply KeepBut.set_ | apply keep_drewN | apply keep_drew | apply keep_alloc | refine keep_far ?_ GW941.out _) | exact HK.out))) : w.heap.size ≤ gb942) : w0.heap.size ≤ gb942)); have n7_ := nbl BK941 hg (by intro z_; (with_reducible repeat (first | refine kDN ?_ _ | refine kD ?_ | refine kA ?_ _)); exact z_); have n8_ := nbs n7_; have n9_ := aK ((by rw [hg]; exact Nat.ne_of_lt (IsS151.lt (show IsS151 w0 _ g s0_0 s0_1 s0_2 from by repeat (first | (with_reducible first | exact HI0.out | apply IsS151.alloc | apply IsS151.drewN | apply IsS151.drew | apply IsS151.set_1 | apply IsS151.set_2 | refine IsS151.far ?_ NB0_941.out _) | exact HI0.out))) : g ≠ gb942)); have n10_ := aK ((by rw [hg]; exact Nat.ne_of_gt (IsS151.lt (show IsS151 w0 _ g s0_0 s0_1 s0_2 from by repeat (first | (with_reducible first | exact HI0.out | apply IsS151.alloc | apply IsS151.drewN | apply IsS151.drew | apply IsS151.set_1 | apply IsS151.set_2 | refine IsS151.far ?_ NB0_941.out _) | exact HI0.out))) : gb942 ≠ g)); clear HI0; clear BK941; clear HK; clear HB; have HI0 := n0_; have BK941 := n1_; have HK := n2_; have HB := n3_; have BK942 := n4_; have GW942 := n5_; have GE942 := n6_; have NB941_942 := n7_; have NB942_941 := n8_; have NB0_942 := n9_; have NB942_0 := n10_; clear n0_ n1_ n2_ n3_ n4_ n5_ n6_ n7_ n8_ n9_ n10_; clear hb hbox hg) | ((with_reducible refine gate_callee (f := 149) rfl ?_); refine goesL_ (some 10) rfl rfl Try.func149 (by kernel_rfl) rfl #[.pointer (some ⟨g, 0, none⟩)] rfl (by (try simp only [List.map_toArray, List.map_cons, List.map_nil]); first | done | rfl | (simp only [List.length_drop, List.length_take]; rfl)) ?_; (with_reducible refine (spec_l02Grid.calls g s0_0 s0_1 s0_2 t943 t944 t945 t946 w0 _ ?side1 ?side2 A2.out).mono ?_); (case side1 => repeat (first | (with_reducible first | exact HI0.out | apply IsS151.alloc | apply IsS151.drewN | apply IsS151.drew | apply IsS151.set_1 | apply IsS151.set_2 | refine IsS151.far ?_ NB0_941.out _ | refine IsS151.far ?_ NB0_942.out _) | exact HI0.out)); (case side2 => repeat (first | (with_reducible first | exact HB.out | apply bAl | apply bDN | apply bD1 | refine bSt ?_ (IsS151.ge HI0.out) | refine bSt ?_ GE941.out | refine bSt ?_ GE942.out) | exact HB.out)); rintro e w9 ⟨rfl, hi, hb, hk⟩; refine ⟨_, rfl, ?_⟩; have n0_ := aK (KeepBut.blk hk (g' := gb941) (o := .cells #[.int .i64 0, .int .i64 0, .int .i64 0] 32 (0, 0)) (by (with_reducible repeat (first | refine kDN ?_ _ | refine kD ?_ | refine kA ?_ _)); exact BK941.out) NB941_0.out (by simp)); have n1_ := aK (KeepBut.blk hk (g' := gb942) (o := .cells #[.int .i64 0, .int .i64 0, .int .i64 0] 32 (0, 0)) (by (with_reducible repeat (first | refine kDN ?_ _ | refine kD ?_ | refine kA ?_ _)); exact BK942.out) NB942_0.out (by simp)); have n2_ := aK (KeepBut.trans (by repeat (first | (with_reducible first | exact HK.out | apply KeepBut.set_ | apply keep_drewN | apply keep_drew | apply keep_alloc | refine keep_far ?_ GW941.out _ | refine keep_far ?_ GW942.out _) | exact HK.out)) hk (.inl rfl)); have n3_ := aK (hb); have n4_ := aK (hi); clear BK941; clear BK942; clear HK; clear HB; clear HI0; have BK941 := n0_; have BK942 := n1_; have HK := n2_; have HB := n3_; have HI0 := n4_; clear n0_ n1_ n2_ n3_ n4_; (try clear hb); (try clear hb2); (try clear hk); (try clear hi)) | ((with_reducible refine gate_dst (N := 4) rfl ?_); refine box_event ?hg (N := 4) ?hd (cs := #[.int .i64 0, .int .i64 0]) (t := 30) ?hr ?_; (case hd => rfl); (case hg => rfl); (case hr => first | (go_simp; done) | (go_simp; rfl)); intro gb947 hg w10 hbox hb; have n0_ := aK (IsS151.below (by repeat (first | (with_reducible first | exact HI0.out | apply IsS151.alloc | apply IsS151.drewN | apply IsS151.drew | apply IsS151.set_1 | apply IsS151.set_2 | refine IsS151.far ?_ NB0_941.out _ | refine IsS151.far ?_ NB0_942.out _) | exact HI0.out)) hb); have n1_ := bkb BK941 hb (by intro z_; (with_reducible repeat (first | refine kDN ?_ _ | refine kD ?_ | refine kA ?_ _)); exact z_); have n2_ := bkb BK942 hb (by intro z_; (with_reducible repeat (first | refine kDN ?_ _ | refine kD ?_ | refine kA ?_ _)); exact z_); have n3_ := aK (KeepBut.trans (by repeat (first | (with_reducible first | exact HK.out | apply KeepBut.set_ | apply keep_drewN | apply keep_drew | apply keep_alloc | refine keep_far ?_ GW941.out _ | refine keep_far ?_ GW942.out _) | exact HK.out)) (KeepBut.of_below hb g none) (.inl rfl)); have n4_ := aK (bSp (by repeat (first | (with_reducible first | exact HB.out | apply bAl | apply bDN | apply bD1 | refine bSt ?_ (IsS151.ge HI0.out) | refine bSt ?_ GE941.out | refine bSt ?_ GE942.out) | exact HB.out)) hb); have n5_ := aK (hbox); have n6_ := aK ((by rw [hg]; exact (keep_size (w := w) (g := g) (row := none) (by repeat (first | (with_reducible first | exact HK.out | apply KeepBut.set_ | apply keep_drewN | apply keep_drew | apply keep_alloc | refine keep_far ?_ GW941.out _ | refine keep_far ?_ GW942.out _) | exact HK.out))) : w.heap.size ≤ gb947)); have n7_ := aK ((Nat.le_trans HW0.out (by rw [hg]; exact (keep_size (w := w) (g := g) (row := none) (by repeat (first | (with_reducible first | exact HK.out | apply KeepBut.set_ | apply keep_drewN | apply keep_drew | apply keep_alloc | refine keep_far ?_ GW941.out _ | refine keep_far ?_ GW942.out _) | exact HK.out))) : w.heap.size ≤ gb947) : w0.heap.size ≤ gb947)); have n8_ := nbl BK941 hg (by intro z_; (with_reducible repeat (first | refine kDN ?_ _ | refine kD ?_ | refine kA ?_ _)); exact z_); have n9_ := nbs n8_; have n10_ := nbl BK942 hg (by intro z_; (with_reducible repeat (first | refine kDN ?_ _ | refine kD ?_ | refine kA ?_ _)); exact z_); have n11_ := nbs n10_; have n12_ := aK ((by rw [hg]; exact Nat.ne_of_lt (IsS151.lt (show IsS151 w0 _ g s0_0 t945 t946 from by repeat (first | (with_reducible first | exact HI0.out | apply IsS151.alloc | apply IsS151.drewN | apply IsS151.drew | apply IsS151.set_1 | apply IsS151.set_2 | refine IsS151.far ?_ NB0_941.out _ | refine IsS151.far ?_ NB0_942.out _) | exact HI0.out))) : g ≠ gb947)); have n13_ := aK ((by rw [hg]; exact Nat.ne_of_gt (IsS151.lt (show IsS151 w0 _ g s0_0 t945 t946 from by repeat (first | (with_reducible first | exact HI0.out | apply IsS151.alloc | apply IsS151.drewN | apply IsS151.drew | apply IsS151.set_1 | apply IsS151.set_2 | refine IsS151.far ?_ NB0_941.out _ | refine IsS151.far ?_ NB0_942.out _) | exact HI0.out))) : gb947 ≠ g)); clear HI0; clear BK941; clear BK942; clear HK; clear HB; have HI0 := n0_; have BK941 := n1_; have BK942 := n2_; have HK := n3_; have HB := n4_; have BK947 := n5_; have GW947 := n6_; have GE947 := n7_; have NB941_947 := n8_; have NB947_941 := n9_; have NB942_947 := n10_; have NB947_942 := n11_; have NB0_947 := n12_; have NB947_0 := n13_; clear n0_ n1_ n2_ n3_ n4_ n5_ n6_ n7_ n8_ n9_ n10_ n11_ n12_ n13_; clear hb hbox hg; have hnb11 := NB947_941.out; have hnc11 := NB941_947.out; have hnb12 := NB947_942.out; have hnc12 := NB942_947.out; have hnb13 := NB947_0.out; have hnc13 := NB0_947.out; obtain ⟨hcz14_0, hcz14_1, hfz14_0, hfz14_1⟩ := cl2 BK947.out) | ((with_reducible refine gate_callee (f := 150) rfl ?_); refine goesL_ (some 13) rfl rfl Try.func150 (by kernel_rfl) rfl #[.pointer (some ⟨g, 0, none⟩), .agg #[.int .i64 t943, .int .i64 t944]] rfl (by (try simp only [List.map_toArray, List.map_cons, List.map_nil]); first | done | rfl | (simp only [List.length_drop, List.length_take]; rfl)) ?_; (with_reducible refine (spec_l03Tree.calls k g s0_0 t945 t946 t943 t944 t948 t949 t950 t951 t952 w0 _ ?side1 ?side2 A3.out).mono ?_); (case side1 => repeat (first | (with_reducible first | exact HI0.out | apply IsS151.alloc | apply IsS151.drewN | apply IsS151.drew | apply IsS151.set_1 | apply IsS151.set_2 | refine IsS151.far ?_ NB0_941.out _ | refine IsS151.far ?_ NB0_942.out _ | refine IsS151.far ?_ NB0_947.out _) | exact HI0.out)); (case side2 => repeat (first | (with_reducible first | exact HB.out | apply bAl | apply bDN | apply bD1 | refine bSt ?_ (IsS151.ge HI0.out) | refine bSt ?_ GE941.out | refine bSt ?_ GE942.out | refine bSt ?_ GE947.out) | exact HB.out)); rintro e w15 ⟨rfl, hi, hb, hk⟩; refine ⟨_, rfl, ?_⟩; have n0_ := aK (KeepBut.blk hk (g' := gb941) (o := .cells #[.int .i64 0, .int .i64 0, .int .i64 0] 32 (0, 0)) (by (with_reducible repeat (first | refine kDN ?_ _ | refine kD ?_ | refine kA ?_ _)); refine blk_far ?_ NB941_947.out _; (with_reducible repeat (first | refine kDN ?_ _ | refine kD ?_ | refine kA ?_ _)); refine blk_far ?_ NB941_947.out _; (with_reducible repeat (first | refine kDN ?_ _ | refine kD ?_ | refine kA ?_ _)); exact BK941.out) NB941_0.out (by simp)); have n1_ := aK (KeepBut.blk hk (g' := gb942) (o := .cells #[.int .i64 0, .int .i64 0, .int .i64 0] 32 (0, 0)) (by (with_reducible repeat (first | refine kDN ?_ _ | refine kD ?_ | refine kA ?_ _)); refine blk_far ?_ NB942_947.out _; (with_reducible repeat (first | refine kDN ?_ _ | refine kD ?_ | refine kA ?_ _)); refine blk_far ?_ NB942_947.out _; (with_reducible repeat (first | refine kDN ?_ _ | refine kD ?_ | refine kA ?_ _)); exact BK942.out) NB942_0.out (by simp)); have n2_ := aK (KeepBut.blk hk (g' := gb947) (o := .cells #[.int .i64 t943, .int .i64 t944] 30 (0, 0)) (by (with_reducible repeat (first | refine kDN ?_ _ | refine kD ?_ | refine kA ?_ _)); refine blk_put (cs := #[.int .i64 t943, .int .i64 0]) ?_ 1 _ rfl; (with_reducible repeat (first | refine kDN ?_ _ | refine kD ?_ | refine kA ?_ _)); refine blk_put (cs := #[.int .i64 0, .int .i64 0]) ?_ 0 _ rfl; (with_reducible repeat (first | refine kDN ?_ _ | refine kD ?_ | refine kA ?_ _)); exact BK947.out) NB947_0.out (by simp)); have n3_ := aK (KeepBut.trans (by repeat (first | (with_reducible first | exact HK.out | apply KeepBut.set_ | apply keep_drewN | apply keep_drew | apply keep_alloc | refine keep_far ?_ GW941.out _ | refine keep_far ?_ GW942.out _ | refine keep_far ?_ GW947.out _) | exact HK.out)) hk (.inl rfl)); have n4_ := aK (hb); have n5_ := aK (hi); clear BK941; clear BK942; clear BK947; clear HK; clear HB; clear HI0; have BK941 := n0_; have BK942 := n1_; have BK947 := n2_; have HK := n3_; have HB := n4_; have HI0 := n5_; clear n0_ n1_ n2_ n3_ n4_ n5_; (try clear hb); (try clear hb2); (try clear hk); (try clear hi)) | ((with_reducible refine gate_dst (N := 5) rfl ?_); refine box_event ?hg (N := 5) ?hd (cs := #[.int .i64 0, .int .i64 0, .int .i64 0]) (t := 32) ?hr ?_; (case hd => rfl); (case hg => rfl); (case hr => first | (go_simp; done) | (go_simp; rfl)); intro gb953 hg w16 hbox hb; have n0_ := aK (IsS151.below (by repeat (first | (with_reducible first | exact HI0.out | apply IsS151.alloc | apply IsS151.drewN | apply IsS151.drew | apply IsS151.set_1 | apply IsS151.set_2 | refine IsS151.far ?_ NB0_941.out _ | refine IsS151.far ?_ NB0_942.out _ | refine IsS151.far ?_ NB0_947.out _) | exact HI0.out)) hb); have n1_ := bkb BK941 hb (by intro z_; (with_reducible repeat (first | refine kDN ?_ _ | refine kD ?_ | refine kA ?_ _)); exact z_); have n2_ := bkb BK942 hb (by intro z_; (with_reducible repeat (first | refine kDN ?_ _ | refine kD ?_ | refine kA ?_ _)); exact z_); have n3_ := bkb BK947 hb (by intro z_; (with_reducible repeat (first | refine kDN ?_ _ | refine kD ?_ | refine kA ?_ _)); exact z_); have n4_ := aK (KeepBut.trans (by repeat (first | (with_reducible first | exact HK.out | apply KeepBut.set_ | apply keep_drewN | apply keep_drew | apply keep_alloc | refine keep_far ?_ GW941.out _ | refine keep_far ?_ GW942.out _ | refine keep_far ?_ GW947.out _) | exact HK.out)) (KeepBut.of_below hb g none) (.inl rfl)); have n5_ := aK (bSp (by repeat (first | (with_reducible first | exact HB.out | apply bAl | apply bDN | apply bD1 | refine bSt ?_ (IsS151.ge HI0.out) | refine bSt ?_ GE941.out | refine bSt ?_ GE942.out | refine bSt ?_ GE947.out) | exact HB.out)) hb); have n6_ := aK (hbox); have n7_ := aK ((by rw [hg]; exact (keep_size (w := w) (g := g) (row := none) (by repeat (first | (with_reducible first | exact HK.out | apply KeepBut.set_ | apply keep_drewN | apply keep_drew | apply keep_alloc | refine keep_far ?_ GW941.out _ | refine keep_far ?_ GW942.out _ | refine keep_far ?_ GW947.out _) | exact HK.out))) : w.heap.size ≤ gb953)); have n8_ := aK ((Nat.le_trans HW0.out (by rw [hg]; exact (keep_size (w := w) (g := g) (row := none) (by repeat (first | (with_reducible first | exact HK.out | apply KeepBut.set_ | apply keep_drewN | apply keep_drew | apply keep_alloc | refine keep_far ?_ GW941.out _ | refine keep_far ?_ GW942.out _ | refine keep_far ?_ GW947.out _) | exact HK.out))) : w.heap.size ≤ gb953) : w0.heap.size ≤ gb953)); have n9_ := nbl BK941 hg (by intro z_; (with_reducible repeat (first | refine kDN ?_ _ | refine kD ?_ | refine kA ?_ _)); exact z_); have n10_ := nbs n9_; have n11_ := nbl BK942 hg (by intro z_; (with_reducible repeat (first | refine kDN ?_ _ | refine kD ?_ | refine kA ?_ _)); exact z_); have n12_ := nbs n11_; have n13_ := nbl BK947 hg (by intro z_; (with_reducible repeat (first | refine kDN ?_ _ | refine kD ?_ | refine kA ?_ _)); exact z_); have n14_ := nbs n13_; have n15_ := aK ((by rw [hg]; exact Nat.ne_of_lt (IsS151.lt (show IsS151 w0 _ g s0_0 t951 t952 from by repeat (first | (with_reducible first | exact HI0.out | apply IsS151.alloc | apply IsS151.drewN | apply IsS151.drew | apply IsS151.set_1 | apply IsS151.set_2 | refine IsS151.far ?_ NB0_941.out _ | refine IsS151.far ?_ NB0_942.out _ | refine IsS151.far ?_ NB0_947.out _) | exact HI0.out))) : g ≠ gb953)); have n16_ := aK ((by rw [hg]; exact Nat.ne_of_gt (IsS151.lt (show IsS151 w0 _ g s0_0 t951 t952 from by repeat (first | (with_reducible first | exact HI0.out | apply IsS151.alloc | apply IsS151.drewN | apply IsS151.drew | apply IsS151.set_1 | apply IsS151.set_2 | refine IsS151.far ?_ NB0_941.out _ | refine IsS151.far ?_ NB0_942.out _ | refine IsS151.far ?_ NB0_947.out _) | exact HI0.out))) : gb953 ≠ g)); clear HI0; clear BK941; clear BK942; clear BK947; clear HK; clear HB; have HI0 := n0_; have BK941 := n1_; have BK942 := n2_; have BK947 := n3_; have HK := n4_; have HB := n5_; have BK953 := n6_; have GW953 := n7_; have GE953 := n8_; have NB941_953 := n9_; have NB953_941 := n10_; have NB942_953 := n11_; have NB953_942 := n12_; have NB947_953 := n13_; have NB953_947 := n14_; have NB0_953 := n15_; have NB953_0 := n16_; clear n0_ n1_ n2_ n3_ n4_ n5_ n6_ n7_ n8_ n9_ n10_ n11_ n12_ n13_ n14_ n15_ n16_; clear hb hbox hg; have hnb17 := NB953_941.out; have hnc17 := NB941_953.out; have hnb18 := NB953_942.out; have hnc18 := NB942_953.out; have hnb19 := NB953_947.out; have hnc19 := NB947_953.out; have hnb20 := NB953_0.out; have hnc20 := NB0_953.out; obtain ⟨hcz21_0, hcz21_1, hcz21_2, hfz21_0, hfz21_1, hfz21_2⟩ := cl3 BK953.out; obtain ⟨hcz22_0, hcz22_1, hfz22_0, hfz22_1⟩ := cl2 BK947.out) | ((with_reducible refine gate_callee (f := 150) rfl ?_); refine goesL_ (some 16) rfl rfl Try.func150 (by kernel_rfl) rfl #[.pointer (some ⟨g, 0, none⟩), .agg #[.int .i64 t943, .int .i64 t944]] rfl (by (try simp only [List.map_toArray, List.map_cons, List.map_nil]); first | done | rfl | (simp only [List.length_drop, List.length_take]; rfl)) ?_; (with_reducible refine (spec_l03Tree.calls k g s0_0 t951 t952 t943 t944 t954 t955 t956 t957 t958 w0 _ ?side1 ?side2 A4.out).mono ?_); (case side1 => repeat (first | (with_reducible first | exact HI0.out | apply IsS151.alloc | apply IsS151.drewN | apply IsS151.drew | apply IsS151.set_1 | apply IsS151.set_2 | refine IsS151.far ?_ NB0_941.out _ | refine IsS151.far ?_ NB0_942.out _ | refine IsS151.far ?_ NB0_947.out _ | refine IsS151.far ?_ NB0_953.out _) | exact HI0.out)); (case side2 => repeat (first | (with_reducible first | exact HB.out | apply bAl | apply bDN | apply bD1 | refine bSt ?_ (IsS151.ge HI0.out) | refine bSt ?_ GE941.out | refine bSt ?_ GE942.out | refine bSt ?_ GE947.out | refine bSt ?_ GE953.out) | exact HB.out)); rintro e w23 ⟨rfl, hi, hb, hk⟩; refine ⟨_, rfl, ?_⟩; have n0_ := aK (KeepBut.blk hk (g' := gb941) (o := .cells #[.int .i64 0, .int .i64 0, .int .i64 0] 32 (0, 0)) (by (with_reducible repeat (first | refine kDN ?_ _ | refine kD ?_ | refine kA ?_ _)); refine blk_far ?_ NB941_953.out _; (with_reducible repeat (first | refine kDN ?_ _ | refine kD ?_ | refine kA ?_ _)); refine blk_far ?_ NB941_953.out _; (with_reducible repeat (first | refine kDN ?_ _ | refine kD ?_ | refine kA ?_ _)); refine blk_far ?_ NB941_953.out _; (with_reducible repeat (first | refine kDN ?_ _ | refine kD ?_ | refine kA ?_ _)); exact BK941.out) NB941_0.out (by simp)); have n1_ := aK (KeepBut.blk hk (g' := gb942) (o := .cells #[.int .i64 0, .int .i64 0, .int .i64 0] 32 (0, 0)) (by (with_reducible repeat (first | refine kDN ?_ _ | refine kD ?_ | refine kA ?_ _)); refine blk_far ?_ NB942_953.out _; (with_reducible repeat (first | refine kDN ?_ _ | refine kD ?_ | refine kA ?_ _)); refine blk_far ?_ NB942_953.out _; (with_reducible repeat (first | refine kDN ?_ _ | refine kD ?_ | refine kA ?_ _)); refine blk_far ?_ NB942_953.out _; (with_reducible repeat (first | refine kDN ?_ _ | refine kD ?_ | refine kA ?_ _)); exact BK942.out) NB942_0.out (by simp)); have n2_ := aK (KeepBut.blk hk (g' := gb947) (o := .cells #[.int .i64 t943, .int .i64 t944] 30 (0, 0)) (by (with_reducible repeat (first | refine kDN ?_ _ | refine kD ?_ | refine kA ?_ _)); refine blk_far ?_ NB947_953.out _; (with_reducible repeat (first | refine kDN ?_ _ | refine kD ?_ | refine kA ?_ _)); refine blk_far ?_ NB947_953.out _; (with_reducible repeat (first | refine kDN ?_ _ | refine kD ?_ | refine kA ?_ _)); refine blk_far ?_ NB947_953.out _; (with_reducible repeat (first | refine kDN ?_ _ | refine kD ?_ | refine kA ?_ _)); exact BK947.out) NB947_0.out (by simp)); have n3_ := aK (KeepBut.blk hk (g' := gb953) (o := .cells #[.int .i64 t948, .int .i64 t949, .int .i64 t950] 32 (0, 0)) (by (with_reducible repeat (first | refine kDN ?_ _ | refine kD ?_ | refine kA ?_ _)); refine blk_put (cs := #[.int .i64 t948, .int .i64 t949, .int .i64 0]) ?_ 2 _ rfl; (with_reducible repeat (first | refine kDN ?_ _ | refine kD ?_ | refine kA ?_ _)); refine blk_put (cs := #[.int .i64 t948, .int .i64 0, .int .i64 0]) ?_ 1 _ rfl; (with_reducible repeat (first | refine kDN ?_ _ | refine kD ?_ | refine kA ?_ _)); refine blk_put (cs := #[.int .i64 0, .int .i64 0, .int .i64 0]) ?_ 0 _ rfl; (with_reducible repeat (first | refine kDN ?_ _ | refine kD ?_ | refine kA ?_ _)); exact BK953.out) NB953_0.out (by simp)); have n4_ := aK (KeepBut.trans (by repeat (first | (with_reducible first | exact HK.out | apply KeepBut.set_ | apply keep_drewN | apply keep_drew | apply keep_alloc | refine keep_far ?_ GW941.out _ | refine keep_far ?_ GW942.out _ | refine keep_far ?_ GW947.out _ | refine keep_far ?_ GW953.out _) | exact HK.out)) hk (.inl rfl)); have n5_ := aK (hb); have n6_ := aK (hi); clear BK941; clear BK942; clear BK947; clear BK953; clear HK; clear HB; clear HI0; have BK941 := n0_; have BK942 := n1_; have BK947 := n2_; have BK953 := n3_; have HK := n4_; have HB := n5_; have HI0 := n6_; clear n0_ n1_ n2_ n3_ n4_ n5_ n6_; (try clear hb); (try clear hb2); (try clear hk); (try clear hi)) | ((with_reducible refine gate_dst (N := 6) rfl ?_); refine box_event ?hg (N := 6) ?hd (cs := #[.int .i64 0, .int .i64 0, .int .i64 0]) (t := 32) ?hr ?_; (case hd => rfl); (case hg => rfl); (case hr => first | (go_simp; done) | (go_simp; rfl)); intro gb959 hg w24 hbox hb; have n0_ := aK (IsS151.below (by repeat (first | (with_reducible first | exact HI0.out | apply IsS151.alloc | apply IsS151.drewN | apply IsS151.drew | apply IsS151.set_1 | apply IsS151.set_2 | refine IsS151.far ?_ NB0_941.out _ | refine IsS151.far ?_ NB0_942.out _ | refine IsS151.far ?_ NB0_947.out _ | refine IsS151.far ?_ NB0_953.out _) | exact HI0.out)) hb); have n1_ := bkb BK941 hb (by intro z_; (with_reducible repeat (first | refine kDN ?_ _ | refine kD ?_ | refine kA ?_ _)); exact z_); have n2_ := bkb BK942 hb (by intro z_; (with_reducible repeat (first | refine kDN ?_ _ | refine kD ?_ | refine kA ?_ _)); exact z_); have n3_ := bkb BK947 hb (by intro z_; (with_reducible repeat (first | refine kDN ?_ _ | refine kD ?_ | refine kA ?_ _)); exact z_); have n4_ := bkb BK953 hb (by intro z_; (with_reducible repeat (first | refine kDN ?_ _ | refine kD ?_ | refine kA ?_ _)); exact z_); have n5_ := aK (KeepBut.trans (by repeat (first | (with_reducible first | exact HK.out | apply KeepBut.set_ | apply keep_drewN | apply keep_drew | apply keep_alloc | refine keep_far ?_ GW941.out _ | refine keep_far ?_ GW942.out _ | refine keep_far ?_ GW947.out _ | refine keep_far ?_ GW953.out _) | exact HK.out)) (KeepBut.of_below hb g none) (.inl rfl)); have n6_ := aK (bSp (by repeat (first | (with_reducible first | exact HB.out | apply bAl | apply bDN | apply bD1 | refine bSt ?_ (IsS151.ge HI0.out) | refine bSt ?_ GE941.out | refine bSt ?_ GE942.out | refine bSt ?_ GE947.out | refine bSt ?_ GE953.out) | exact HB.out)) hb); have n7_ := aK (hbox); have n8_ := aK ((by rw [hg]; exact (keep_size (w := w) (g := g) (row := none) (by repeat (first | (with_reducible first | exact HK.out | apply KeepBut.set_ | apply keep_drewN | apply keep_drew | apply keep_alloc | refine keep_far ?_ GW941.out _ | refine keep_far ?_ GW942.out _ | refine keep_far ?_ GW947.out _ | refine keep_far ?_ GW953.out _) | exact HK.out))) : w.heap.size ≤ gb959)); have n9_ := aK ((Nat.le_trans HW0.out (by rw [hg]; exact (keep_size (w := w) (g := g) (row := none) (by repeat (first | (with_reducible first | exact HK.out | apply KeepBut.set_ | apply keep_drewN | apply keep_drew | apply keep_alloc | refine keep_far ?_ GW941.out _ | refine keep_far ?_ GW942.out _ | refine keep_far ?_ GW947.out _ | refine keep_far ?_ GW953.out _) | exact HK.out))) : w.heap.size ≤ gb959) : w0.heap.size ≤ gb959)); have n10_ := nbl BK941 hg (by intro z_; (with_reducible repeat (first | refine kDN ?_ _ | refine kD ?_ | refine kA ?_ _)); exact z_); have n11_ := nbs n10_; have n12_ := nbl BK942 hg (by intro z_; (with_reducible repeat (first | refine kDN ?_ _ | refine kD ?_ | refine kA ?_ _)); exact z_); have n13_ := nbs n12_; have n14_ := nbl BK947 hg (by intro z_; (with_reducible repeat (first | refine kDN ?_ _ | refine kD ?_ | refine kA ?_ _)); exact z_); have n15_ := nbs n14_; have n16_ := nbl BK953 hg (by intro z_; (with_reducible repeat (first | refine kDN ?_ _ | refine kD ?_ | refine kA ?_ _)); exact z_); have n17_ := nbs n16_; have n18_ := aK ((by rw [hg]; exact Nat.ne_of_lt (IsS151.lt (show IsS151 w0 _ g s0_0 t957 t958 from by repeat (first | (with_reducible first | exact HI0.out | apply IsS151.alloc | apply IsS151.drewN | apply IsS151.drew | apply IsS151.set_1 | apply IsS151.set_2 | refine IsS151.far ?_ NB0_941.out _ | refine IsS151.far ?_ NB0_942.out _ | refine IsS151.far ?_ NB0_947.out _ | refine IsS151.far ?_ NB0_953.out _) | exact HI0.out))) : g ≠ gb959)); have n19_ := aK ((by rw [hg]; exact Nat.ne_of_gt (IsS151.lt (show IsS151 w0 _ g s0_0 t957 t958 from by repeat (first | (with_reducible first | exact HI0.out | apply IsS151.alloc | apply IsS151.drewN | apply IsS151.drew | apply IsS151.set_1 | apply IsS151.set_2 | refine IsS151.far ?_ NB0_941.out _ | refine IsS151.far ?_ NB0_942.out _ | refine IsS151.far ?_ NB0_947.out _ | refine IsS151.far ?_ NB0_953.out _) | exact HI0.out))) : gb959 ≠ g)); clear HI0; clear BK941; clear BK942; clear BK947; clear BK953; clear HK; clear HB; have HI0 := n0_; have BK941 := n1_; have BK942 := n2_; have BK947 := n3_; have BK953 := n4_; have HK := n5_; have HB := n6_; have BK959 := n7_; have GW959 := n8_; have GE959 := n9_; have NB941_959 := n10_; have NB959_941 := n11_; have NB942_959 := n12_; have NB959_942 := n13_; have NB947_959 := n14_; have NB959_947 := n15_; have NB953_959 := n16_; have NB959_953 := n17_; have NB0_959 := n18_; have NB959_0 := n19_; clear n0_ n1_ n2_ n3_ n4_ n5_ n6_ n7_ n8_ n9_ n10_ n11_ n12_ n13_ n14_ n15_ n16_ n17_ n18_ n19_; clear hb hbox hg; have hnb25 := NB959_941.out; have hnc25 := NB941_959.out; have hnb26 := NB959_942.out; have hnc26 := NB942_959.out; have hnb27 := NB959_947.out; have hnc27 := NB947_959.out; have hnb28 := NB959_953.out; have hnc28 := NB953_959.out; have hnb29 := NB959_0.out; have hnc29 := NB0_959.out; obtain ⟨hcz30_0, hcz30_1, hcz30_2, hfz30_0, hfz30_1, hfz30_2⟩ := cl3 BK959.out; obtain ⟨hcz31_0, hcz31_1, hfz31_0, hfz31_1⟩ := cl2 BK947.out) | ((with_reducible refine gate_callee (f := 128) rfl ?_); refine goesL_ (some 18) rfl rfl Try.func128 (by kernel_rfl) rfl #[.agg #[.int .i64 t943, .int .i64 t944]] rfl (by (try simp only [List.map_toArray, List.map_cons, List.map_nil]); first | done | rfl | (simp only [List.length_drop, List.length_take]; rfl)) ?_; (with_reducible refine (spec_CountGaps.calls t943 t944 t960 _ A5.out).mono ?_); rintro e w32 ⟨rfl, hb⟩; refine ⟨_, rfl, ?_⟩; have n0_ := aK (IsS151.below (show IsS151 w0 (((w24.setCell ⟨gb959, 0, none⟩ (.int .i64 t954)).setCell ⟨gb959, 1, none⟩ (.int .i64 t955)).setCell ⟨gb959, 2, none⟩ (.int .i64 t956)) g s0_0 t957 t958 from by repeat (first | (with_reducible first | exact HI0.out | apply IsS151.alloc | apply IsS151.drewN | apply IsS151.drew | apply IsS151.set_1 | apply IsS151.set_2 | refine IsS151.far ?_ NB0_941.out _ | refine IsS151.far ?_ NB0_942.out _ | refine IsS151.far ?_ NB0_947.out _ | refine IsS151.far ?_ NB0_953.out _ | refine IsS151.far ?_ NB0_959.out _) | exact HI0.out)) hb); have n1_ := bkb BK941 hb (by intro z_; (with_reducible repeat (first | refine kDN ?_ _ | refine kD ?_ | refine kA ?_ _)); refine blk_far ?_ NB941_959.out _; (with_reducible repeat (first | refine kDN ?_ _ | refine kD ?_ | refine kA ?_ _)); refine blk_far ?_ NB941_959.out _; (with_reducible repeat (first | refine kDN ?_ _ | refine kD ?_ | refine kA ?_ _)); refine blk_far ?_ NB941_959.out _; (with_reducible repeat (first | refine kDN ?_ _ | refine kD ?_ | refine kA ?_ _)); exact z_); have n2_ := bkb BK942 hb (by intro z_; (with_reducible repeat (first | refine kDN ?_ _ | refine kD ?_ | refine kA ?_ _)); refine blk_far ?_ NB942_959.out _; (with_reducible repeat (first | refine kDN ?_ _ | refine kD ?_ | refine kA ?_ _)); refine blk_far ?_ NB942_959.out _; (with_reducible repeat (first | refine kDN ?_ _ | refine kD ?_ | refine kA ?_ _)); refine blk_far ?_ NB942_959.out _; (with_reducible repeat (first | refine kDN ?_ _ | refine kD ?_ | refine kA ?_ _)); exact z_); have n3_ := bkb BK947 hb (by intro z_; (with_reducible repeat (first | refine kDN ?_ _ | refine kD ?_ | refine kA ?_ _)); refine blk_far ?_ NB947_959.out _; (with_reducible repeat (first | refine kDN ?_ _ | refine kD ?_ | refine kA ?_ _)); refine blk_far ?_ NB947_959.out _; (with_reducible repeat (first | refine kDN ?_ _ | refine kD ?_ | refine kA ?_ _)); refine blk_far ?_ NB947_959.out _; (with_reducible repeat (first | refine kDN ?_ _ | refine kD ?_ | refine kA ?_ _)); exact z_); have n4_ := bkb BK953 hb (by intro z_; (with_reducible repeat (first | refine kDN ?_ _ | refine kD ?_ | refine kA ?_ _)); refine blk_far ?_ NB953_959.out _; (with_reducible repeat (first | refine kDN ?_ _ | refine kD ?_ | refine kA ?_ _)); refine blk_far ?_ NB953_959.out _; (with_reducible repeat (first | refine kDN ?_ _ | refine kD ?_ | refine kA ?_ _)); refine blk_far ?_ NB953_959.out _; (with_reducible repeat (first | refine kDN ?_ _ | refine kD ?_ | refine kA ?_ _)); exact z_); have n5_ := aK (blk_below (g := gb959) (o := .cells #[.int .i64 t954, .int .i64 t955, .int .i64 t956] 32 (0, 0)) (by (with_reducible repeat (first | refine kDN ?_ _ | refine kD ?_ | refine kA ?_ _)); refine blk_put (cs := #[.int .i64 t954, .int .i64 t955, .int .i64 0]) ?_ 2 _ rfl; (with_reducible repeat (first | refine kDN ?_ _ | refine kD ?_ | refine kA ?_ _)); refine blk_put (cs := #[.int .i64 t954, .int .i64 0, .int .i64 0]) ?_ 1 _ rfl; (with_reducible repeat (first | refine kDN ?_ _ | refine kD ?_ | refine kA ?_ _)); refine blk_put (cs := #[.int .i64 0, .int .i64 0, .int .i64 0]) ?_ 0 _ rfl; (with_reducible repeat (first | refine kDN ?_ _ | refine kD ?_ | refine kA ?_ _)); exact BK959.out) hb); have n6_ := aK (KeepBut.trans (by repeat (first | (with_reducible first | exact HK.out | apply KeepBut.set_ | apply keep_drewN | apply keep_drew | apply keep_alloc | refine keep_far ?_ GW941.out _ | refine keep_far ?_ GW942.out _ | refine keep_far ?_ GW947.out _ | refine keep_far ?_ GW953.out _ | refine keep_far ?_ GW959.out _) | exact HK.out)) (KeepBut.of_below hb g none) (.inl rfl)); have n7_ := aK (bSp (by repeat (first | (with_reducible first | exact HB.out | apply bAl | apply bDN | apply bD1 | refine bSt ?_ (IsS151.ge HI0.out) | refine bSt ?_ GE941.out | refine bSt ?_ GE942.out | refine bSt ?_ GE947.out | refine bSt ?_ GE953.out | refine bSt ?_ GE959.out) | exact HB.out)) hb); clear HI0; clear BK941; clear BK942; clear BK947; clear BK953; clear BK959; clear HK; clear HB; have HI0 := n0_; have BK941 := n1_; have BK942 := n2_; have BK947 := n3_; have BK953 := n4_; have BK959 := n5_; have HK := n6_; have HB := n7_; clear n0_ n1_ n2_ n3_ n4_ n5_ n6_ n7_; (try clear hb); (try clear hb2); (try clear hk); (try clear hi)) | ((with_reducible refine gate_callee (f := 151) rfl ?_); refine goesL_ (some 20) rfl rfl Try.func151 (by kernel_rfl) rfl #[.pointer (some ⟨g, 0, none⟩), .int .i64 4] rfl (by (try simp only [List.map_toArray, List.map_cons, List.map_nil]); first | done | rfl | (simp only [List.length_drop, List.length_take]; rfl)) ?_; (with_reducible refine (spec_l01Below.calls g s0_0 t957 t958 4 t961 t962 t963 w0 _ ?side1 ?side2 A6.out).mono ?_); (case side1 => repeat (first | (with_reducible first | exact HI0.out | apply IsS151.alloc | apply IsS151.drewN | apply IsS151.drew | apply IsS151.set_1 | apply IsS151.set_2 | refine IsS151.far ?_ NB0_941.out _ | refine IsS151.far ?_ NB0_942.out _ | refine IsS151.far ?_ NB0_947.out _ | refine IsS151.far ?_ NB0_953.out _ | refine IsS151.far ?_ NB0_959.out _) | exact HI0.out)); (case side2 => repeat (first | (with_reducible first | exact HB.out | apply bAl | apply bDN | apply bD1 | refine bSt ?_ (IsS151.ge HI0.out) | refine bSt ?_ GE941.out | refine bSt ?_ GE942.out | refine bSt ?_ GE947.out | refine bSt ?_ GE953.out | refine bSt ?_ GE959.out) | exact HB.out)); rintro e w33 ⟨rfl, hi, hb, hk⟩; refine ⟨_, rfl, ?_⟩; have n0_ := aK (KeepBut.blk hk (g' := gb941) (o := .cells #[.int .i64 0, .int .i64 0, .int .i64 0] 32 (0, 0)) (by (with_reducible repeat (first | refine kDN ?_ _ | refine kD ?_ | refine kA ?_ _)); exact BK941.out) NB941_0.out (by simp)); have n1_ := aK (KeepBut.blk hk (g' := gb942) (o := .cells #[.int .i64 0, .int .i64 0, .int .i64 0] 32 (0, 0)) (by (with_reducible repeat (first | refine kDN ?_ _ | refine kD ?_ | refine kA ?_ _)); exact BK942.out) NB942_0.out (by simp)); have n2_ := aK (KeepBut.blk hk (g' := gb947) (o := .cells #[.int .i64 t943, .int .i64 t944] 30 (0, 0)) (by (with_reducible repeat (first | refine kDN ?_ _ | refine kD ?_ | refine kA ?_ _)); exact BK947.out) NB947_0.out (by simp)); have n3_ := aK (KeepBut.blk hk (g' := gb953) (o := .cells #[.int .i64 t948, .int .i64 t949, .int .i64 t950] 32 (0, 0)) (by (with_reducible repeat (first | refine kDN ?_ _ | refine kD ?_ | refine kA ?_ _)); exact BK953.out) NB953_0.out (by simp)); have n4_ := aK (KeepBut.blk hk (g' := gb959) (o := .cells #[.int .i64 t954, .int .i64 t955, .int .i64 t956] 32 (0, 0)) (by (with_reducible repeat (first | refine kDN ?_ _ | refine kD ?_ | refine kA ?_ _)); exact BK959.out) NB959_0.out (by simp)); have n5_ := aK (KeepBut.trans (by repeat (first | (with_reducible first | exact HK.out | apply KeepBut.set_ | apply keep_drewN | apply keep_drew | apply keep_alloc | refine keep_far ?_ GW941.out _ | refine keep_far ?_ GW942.out _ | refine keep_far ?_ GW947.out _ | refine keep_far ?_ GW953.out _ | refine keep_far ?_ GW959.out _) | exact HK.out)) hk (.inl rfl)); have n6_ := aK (hb); have n7_ := aK (hi); clear BK941; clear BK942; clear BK947; clear BK953; clear BK959; clear HK; clear HB; clear HI0; have BK941 := n0_; have BK942 := n1_; have BK947 := n2_; have BK953 := n3_; have BK959 := n4_; have HK := n5_; have HB := n6_; have HI0 := n7_; clear n0_ n1_ n2_ n3_ n4_ n5_ n6_ n7_; (try clear hb); (try clear hb2); (try clear hk); (try clear hi)))
 go_loopg [8] k (fun kq v8 w' => ∃ (x8_1 : Int) (x1001_1 : Int) (x1002_1 : Int) (x954000_1 : Int) (x954001_1 : Int) (x954002_1 : Int) (x960000_1 : Int) (x960001_1 : Int) (x960002_1 : Int), v8 = .int .i64 x8_1 ∧ Aside0 (spec_l37Two.l0 kq t960 x8_1 s0_0 x1001_1 x1002_1 x954000_1 x954001_1 x954002_1 x960000_1 x960001_1 x960002_1 = some (r1, r2, r3, r4, r5, r6, r7, r8)) ∧ Aside0 (kq ≤ k) ∧ Aside0 (w'.heap[gb941]? = some (.cells #[.int .i64 0, .int .i64 0, .int .i64 0] 32 (0, 0))) ∧ Aside0 (w'.heap[gb942]? = some (.cells #[.int .i64 0, .int .i64 0, .int .i64 0] 32 (0, 0))) ∧ Aside0 (w'.heap[gb947]? = some (.cells #[.int .i64 t943, .int .i64 t944] 30 (0, 0))) ∧ Aside0 (w'.heap[gb953]? = some (.cells #[.int .i64 x954000_1, .int .i64 x954001_1, .int .i64 x954002_1] 32 (0, 0))) ∧ Aside0 (w'.heap[gb959]? = some (.cells #[.int .i64 x960000_1, .int .i64 x960001_1, .int .i64 x960002_1] 32 (0, 0))) ∧ Aside0 (IsS151 w0 w' g s0_0 x1001_1 x1002_1) ∧ Aside0 (KeepBut w w' g none) ∧ Aside0 (Below w0.heap.size w0 w'))
 case atStart => exact ⟨(t961), (t962), (t963), (t948), (t949), (t950), (t954), (t955), (t956), (by first | rfl | (simp; done) | (simp [*]; done)), H', ⟨Nat.le_refl _⟩, ⟨by (with_reducible repeat (first | refine kDN ?_ _ | refine kD ?_ | refine kA ?_ _)); exact BK941.out⟩, ⟨by (with_reducible repeat (first | refine kDN ?_ _ | refine kD ?_ | refine kA ?_ _)); exact BK942.out⟩, ⟨by (with_reducible repeat (first | refine kDN ?_ _ | refine kD ?_ | refine kA ?_ _)); exact BK947.out⟩, ⟨by (with_reducible repeat (first | refine kDN ?_ _ | refine kD ?_ | refine kA ?_ _)); exact BK953.out⟩, ⟨by (with_reducible repeat (first | refine kDN ?_ _ | refine kD ?_ | refine kA ?_ _)); exact BK959.out⟩, ⟨by repeat (first | (with_reducible first | exact HI0.out | apply IsS151.alloc | apply IsS151.drewN | apply IsS151.drew | apply IsS151.set_1 | apply IsS151.set_2 | refine IsS151.far ?_ NB0_941.out _ | refine IsS151.far ?_ NB0_942.out _ | refine IsS151.far ?_ NB0_947.out _ | refine IsS151.far ?_ NB0_953.out _ | refine IsS151.far ?_ NB0_959.out _) | exact HI0.out)⟩, ⟨by repeat (first | (with_reducible first | exact HK.out | apply KeepBut.set_ | apply keep_drewN | apply keep_drew | apply keep_alloc | refine keep_far ?_ GW941.out _ | refine keep_far ?_ GW942.out _ | refine keep_far ?_ GW947.out _ | refine keep_far ?_ GW953.out _ | refine keep_far ?_ GW959.out _) | exact HK.out)⟩, ⟨by repeat (first | (with_reducible first | exact HB.out | apply bAl | apply bDN | apply bD1 | refine bSt ?_ (IsS151.ge HI0.out) | refine bSt ?_ GE941.out | refine bSt ?_ GE942.out | refine bSt ?_ GE947.out | refine bSt ?_ GE953.out | refine bSt ?_ GE959.out) | exact HB.out)⟩⟩
 case round =>
  clear H'
  try clear c1
  try clear c2
  try clear p2
  try clear c10
  try clear c11
  try clear c12
  try clear c13
  try clear c14
  try clear c15
  try clear c17
  try clear c18
  try clear c19
  try clear c20
  try clear c25
  try clear c26
  try clear c27
  try clear c28
  try clear c29
  try clear hcz14_0
  try clear hcz14_1
  try clear hcz21_0
  try clear hcz21_1
  try clear hcz21_2
  try clear hcz22_0
  try clear hcz22_1
  try clear hcz30_0
  try clear hcz30_1
  try clear hcz30_2
  try clear hcz31_0
  try clear hcz31_1
  try clear hfz14_0
  try clear hfz14_1
  try clear hfz21_0
  try clear hfz21_1
  try clear hfz21_2
  try clear hfz22_0
  try clear hfz22_1
  try clear hfz30_0
  try clear hfz30_1
  try clear hfz30_2
  try clear hfz31_0
  try clear hfz31_1
  obtain ⟨x8_1, x1001_1, x1002_1, x954000_1, x954001_1, x954002_1, x960000_1, x960001_1, x960002_1, rfl, HA, HK1, BK941, BK942, BK947, BK953, BK959, HI0, HK, HB⟩ := hrel
  cases gk with
  | zero => exact absurd HA.out (by simp [spec_l37Two.l0])
  | succ k1 =>
   have H := HA.out
   clear HA
   simp only [spec_l37Two.l0] at H
   have HC34 := aK H
   clear H
   go_upto_region 6 with (fail)
   go_cut [26] (fun v26 wc => ∃ (kq : Nat) (x26_33 : Bool), v26 = .bool x26_33 ∧ Aside0 (spec_l37Two.j1 kq t960 x8_1 x26_33 s0_0 x1001_1 x1002_1 x954000_1 x954001_1 x954002_1 x960000_1 x960001_1 x960002_1 = some (r1, r2, r3, r4, r5, r6, r7, r8)) ∧ Aside0 (kq ≤ k1) ∧ Aside0 (wc.heap[gb941]? = some (.cells #[.int .i64 0, .int .i64 0, .int .i64 0] 32 (0, 0))) ∧ Aside0 (wc.heap[gb942]? = some (.cells #[.int .i64 0, .int .i64 0, .int .i64 0] 32 (0, 0))) ∧ Aside0 (wc.heap[gb947]? = some (.cells #[.int .i64 t943, .int .i64 t944] 30 (0, 0))) ∧ Aside0 (wc.heap[gb953]? = some (.cells #[.int .i64 x954000_1, .int .i64 x954001_1, .int .i64 x954002_1] 32 (0, 0))) ∧ Aside0 (wc.heap[gb959]? = some (.cells #[.int .i64 x960000_1, .int .i64 x960001_1, .int .i64 x960002_1] 32 (0, 0))) ∧ Aside0 (IsS151 w0 wc g s0_0 x1001_1 x1002_1) ∧ Aside0 (KeepBut w wc g none) ∧ Aside0 (Below w0.heap.size w0 wc))
   case first =>
    have H := HC34.out
    clear HC34
    by_cases c35 : x8_1 > 0
    ·rw [if_pos c35] at H
     have c35b0 : decide (0 < x8_1) = true := decide_eq_true c35
     clear c35
     (first | rw [c35b0] | (simp only [i64_w, i32_w]; rw [c35b0]) | skip)
     have H' := aK H
     clear H
     go_wp2
     go_meet
     case rel => exact ⟨_, (decide (t960 > 0)), (by first | rfl | (simp; done) | (simp [*]; done)), H', ⟨by have := HK1.out; first | omega | exact Nat.le_refl _⟩, ⟨by (with_reducible repeat (first | refine kDN ?_ _ | refine kD ?_ | refine kA ?_ _)); exact BK941.out⟩, ⟨by (with_reducible repeat (first | refine kDN ?_ _ | refine kD ?_ | refine kA ?_ _)); exact BK942.out⟩, ⟨by (with_reducible repeat (first | refine kDN ?_ _ | refine kD ?_ | refine kA ?_ _)); exact BK947.out⟩, ⟨by (with_reducible repeat (first | refine kDN ?_ _ | refine kD ?_ | refine kA ?_ _)); exact BK953.out⟩, ⟨by (with_reducible repeat (first | refine kDN ?_ _ | refine kD ?_ | refine kA ?_ _)); exact BK959.out⟩, ⟨by repeat (first | (with_reducible first | exact HI0.out | apply IsS151.alloc | apply IsS151.drewN | apply IsS151.drew | apply IsS151.set_1 | apply IsS151.set_2 | refine IsS151.far ?_ NB0_941.out _ | refine IsS151.far ?_ NB0_942.out _ | refine IsS151.far ?_ NB0_947.out _ | refine IsS151.far ?_ NB0_953.out _ | refine IsS151.far ?_ NB0_959.out _) | exact HI0.out)⟩, ⟨by repeat (first | (with_reducible first | exact HK.out | apply KeepBut.set_ | apply keep_drewN | apply keep_drew | apply keep_alloc | refine keep_far ?_ GW941.out _ | refine keep_far ?_ GW942.out _ | refine keep_far ?_ GW947.out _ | refine keep_far ?_ GW953.out _ | refine keep_far ?_ GW959.out _) | exact HK.out)⟩, ⟨by repeat (first | (with_reducible first | exact HB.out | apply bAl | apply bDN | apply bD1 | refine bSt ?_ (IsS151.ge HI0.out) | refine bSt ?_ GE941.out | refine bSt ?_ GE942.out | refine bSt ?_ GE947.out | refine bSt ?_ GE953.out | refine bSt ?_ GE959.out) | exact HB.out)⟩⟩
    ·rw [if_neg c35] at H
     have c35b0 : decide (0 < x8_1) = false := decide_eq_false c35
     clear c35
     (first | rw [c35b0] | (simp only [i64_w, i32_w]; rw [c35b0]) | skip)
     have H' := aK H
     clear H
     go_wp2
     go_meet
     case rel => exact ⟨_, (false), (by first | rfl | (simp; done) | (simp [*]; done)), H', ⟨by have := HK1.out; first | omega | exact Nat.le_refl _⟩, ⟨by (with_reducible repeat (first | refine kDN ?_ _ | refine kD ?_ | refine kA ?_ _)); exact BK941.out⟩, ⟨by (with_reducible repeat (first | refine kDN ?_ _ | refine kD ?_ | refine kA ?_ _)); exact BK942.out⟩, ⟨by (with_reducible repeat (first | refine kDN ?_ _ | refine kD ?_ | refine kA ?_ _)); exact BK947.out⟩, ⟨by (with_reducible repeat (first | refine kDN ?_ _ | refine kD ?_ | refine kA ?_ _)); exact BK953.out⟩, ⟨by (with_reducible repeat (first | refine kDN ?_ _ | refine kD ?_ | refine kA ?_ _)); exact BK959.out⟩, ⟨by repeat (first | (with_reducible first | exact HI0.out | apply IsS151.alloc | apply IsS151.drewN | apply IsS151.drew | apply IsS151.set_1 | apply IsS151.set_2 | refine IsS151.far ?_ NB0_941.out _ | refine IsS151.far ?_ NB0_942.out _ | refine IsS151.far ?_ NB0_947.out _ | refine IsS151.far ?_ NB0_953.out _ | refine IsS151.far ?_ NB0_959.out _) | exact HI0.out)⟩, ⟨by repeat (first | (with_reducible first | exact HK.out | apply KeepBut.set_ | apply keep_drewN | apply keep_drew | apply keep_alloc | refine keep_far ?_ GW941.out _ | refine keep_far ?_ GW942.out _ | refine keep_far ?_ GW947.out _ | refine keep_far ?_ GW953.out _ | refine keep_far ?_ GW959.out _) | exact HK.out)⟩, ⟨by repeat (first | (with_reducible first | exact HB.out | apply bAl | apply bDN | apply bD1 | refine bSt ?_ (IsS151.ge HI0.out) | refine bSt ?_ GE941.out | refine bSt ?_ GE942.out | refine bSt ?_ GE947.out | refine bSt ?_ GE953.out | refine bSt ?_ GE959.out) | exact HB.out)⟩⟩
   case rest =>
    clear HC34
    try clear c1
    try clear c2
    try clear p2
    try clear c3
    try clear c10
    try clear c11
    try clear c12
    try clear c13
    try clear c14
    try clear c15
    try clear c17
    try clear c18
    try clear c19
    try clear c20
    try clear c25
    try clear c26
    try clear c27
    try clear c28
    try clear c29
    try clear c35
    try clear c35b0
    try clear hcz14_0
    try clear hcz14_1
    try clear hcz21_0
    try clear hcz21_1
    try clear hcz21_2
    try clear hcz22_0
    try clear hcz22_1
    try clear hcz30_0
    try clear hcz30_1
    try clear hcz30_2
    try clear hcz31_0
    try clear hcz31_1
    try clear hfz14_0
    try clear hfz14_1
    try clear hfz21_0
    try clear hfz21_1
    try clear hfz21_2
    try clear hfz22_0
    try clear hfz22_1
    try clear hfz30_0
    try clear hfz30_1
    try clear hfz30_2
    try clear hfz31_0
    try clear hfz31_1
    try clear p2
    obtain ⟨kq, x26_33, rfl, HA, HJ33, BK941, BK942, BK947, BK953, BK959, HI0, HK, HB⟩ := hcut
    cases kq with
    | zero => exact absurd HA.out (by simp [spec_l37Two.j1])
    | succ kj33 =>
     have H := HA.out
     clear HA
     simp only [spec_l37Two.j1] at H
     by_cases c36 : x26_33 = true
     ·subst c36
      have H1 : ((spec_l01Below.f s0_0 x1001_1 x1002_1 t960).bind fun bt964 => ((spec_SetGap.f kj33 x954000_1 x954001_1 x954002_1 bt964.1 true).bind fun bt967 => ((spec_l01Below.f s0_0 bt964.2.1 bt964.2.2 t960).bind fun bt971 => ((spec_SetGap.f kj33 x960000_1 x960001_1 x960002_1 bt971.1 true).bind fun bt974 => (spec_l37Two.l0 kj33 t960 (wrap64 (x8_1 - 1)) s0_0 bt971.2.1 bt971.2.2 bt967.1 bt967.2.1 bt967.2.2.1 bt974.1 bt974.2.1 bt974.2.2.1))))) = some (r1, r2, r3, r4, r5, r6, r7, r8) := by rw [if_pos rfl] at H; exact H
      clear H
      have H := H1
      clear H1
      replace H := Option.bind_eq_some_iff.mp H
      obtain ⟨⟨t964, t965, t966⟩, A370, H⟩ := H
      replace H : ((spec_SetGap.f kj33 x954000_1 x954001_1 x954002_1 t964 true).bind fun bt967 => ((spec_l01Below.f s0_0 t965 t966 t960).bind fun bt971 => ((spec_SetGap.f kj33 x960000_1 x960001_1 x960002_1 bt971.1 true).bind fun bt974 => (spec_l37Two.l0 kj33 t960 (wrap64 (x8_1 - 1)) s0_0 bt971.2.1 bt971.2.2 bt967.1 bt967.2.1 bt967.2.2.1 bt974.1 bt974.2.1 bt974.2.2.1)))) = some (r1, r2, r3, r4, r5, r6, r7, r8) := H
      have A37 := aK A370
      clear A370
      replace H := Option.bind_eq_some_iff.mp H
      obtain ⟨⟨t967, t968, t969, t970⟩, A380, H⟩ := H
      replace H : ((spec_l01Below.f s0_0 t965 t966 t960).bind fun bt971 => ((spec_SetGap.f kj33 x960000_1 x960001_1 x960002_1 bt971.1 true).bind fun bt974 => (spec_l37Two.l0 kj33 t960 (wrap64 (x8_1 - 1)) s0_0 bt971.2.1 bt971.2.2 t967 t968 t969 bt974.1 bt974.2.1 bt974.2.2.1))) = some (r1, r2, r3, r4, r5, r6, r7, r8) := H
      have A38 := aK A380
      clear A380
      replace H := Option.bind_eq_some_iff.mp H
      obtain ⟨⟨t971, t972, t973⟩, A390, H⟩ := H
      replace H : ((spec_SetGap.f kj33 x960000_1 x960001_1 x960002_1 t971 true).bind fun bt974 => (spec_l37Two.l0 kj33 t960 (wrap64 (x8_1 - 1)) s0_0 t972 t973 t967 t968 t969 bt974.1 bt974.2.1 bt974.2.2.1)) = some (r1, r2, r3, r4, r5, r6, r7, r8) := H
      have A39 := aK A390
      clear A390
      replace H := Option.bind_eq_some_iff.mp H
      obtain ⟨⟨t974, t975, t976, t977⟩, A400, H⟩ := H
      replace H : (spec_l37Two.l0 kj33 t960 (wrap64 (x8_1 - 1)) s0_0 t972 t973 t967 t968 t969 t974 t975 t976) = some (r1, r2, r3, r4, r5, r6, r7, r8) := H
      have A40 := aK A400
      clear A400
      have H' := aK H
      clear H
      try go_wp2
      have n0_ := aK (kD BK941.out)
      have n1_ := aK (kD BK942.out)
      have n2_ := aK (kD BK947.out)
      have n3_ := aK (kD BK953.out)
      have n4_ := aK (kD BK959.out)
      have n5_ := aK (IsS151.drew HI0.out)
      have n6_ := aK (keep_drew HK.out)
      have n7_ := aK (bD1 HB.out)
      clear BK941
      clear BK942
      clear BK947
      clear BK953
      clear BK959
      clear HI0
      clear HK
      clear HB
      have BK941 := n0_
      have BK942 := n1_
      have BK947 := n2_
      have BK953 := n3_
      have BK959 := n4_
      have HI0 := n5_
      have HK := n6_
      have HB := n7_
      clear n0_ n1_ n2_ n3_ n4_ n5_ n6_ n7_
      refine start_ (n := 9) (S := fun w' => w'.cell? ⟨gb953, 0, none⟩ = some (.int .i64 x954000_1) ∧ w'.cell? ⟨gb953, 1, none⟩ = some (.int .i64 x954001_1) ∧ w'.cell? ⟨gb953, 2, none⟩ = some (.int .i64 x954002_1)) (ds := [8]) #[bN,bN,bN,bN,bN,bN,bN,bN,bN] (by kernel_rfl) rfl rfl ⟨(kC BK953.out 0).trans rfl, (kC BK953.out 1).trans rfl, (kC BK953.out 2).trans rfl⟩ (fun hHeld => ?_); refine with_tabW spec_l37Two.tab8 spec_l37Two.bits8 (fun HT_ HW_ => ?_)
      generalize wc.drew = w41 at BK941 BK942 BK947 BK953 BK959 HI0 HK HB hHeld ⊢
      refine pure_ (i := 1) (N := some 31) (v := ?_) (a' := ?_) #[bN,bY,bN,bN,bN,bN,bN,bN,bN] rfl rfl (any_of HT_.out (by kernel_rfl)) (fun _ _ _ h => h) (Or.inl ⟨by rfl, ?_⟩) ?_ ?_
      rotate_left
      ·intro w'
       go_simp
       with_reducible rfl
      rotate_left
      ·simp only [Act.put, sTA, sZ, sS, i64_w, i32_w]
       rfl
      refine pure_ (i := 2) (N := some 32) (v := ?_) (a' := ?_) #[bN,bY,bY,bN,bN,bN,bN,bN,bN] rfl rfl (any_of HT_.out (by kernel_rfl)) (fun _ _ _ h => h) (Or.inl ⟨by rfl, ?_⟩) ?_ ?_
      rotate_left
      ·intro w'
       go_simp
       with_reducible rfl
      rotate_left
      ·simp only [Act.put, sTA, sZ, sS, i64_w, i32_w]
       rfl
      refine take_ (i := 0) (N := some 30) (v := ?_) (a' := ?_) #[bY,bY,bY,bN,bN,bN,bN,bN,bN] rfl rfl (take_ofW HT_.out HW_.out (by kernel_rfl)) (fun _ _ _ h => h) (Or.inl ⟨by rfl, ?_⟩) hHeld ?_ ?_
      rotate_left
      ·rintro w' ⟨s0, s1, s2⟩
       go_simp
       with_reducible rfl
      rotate_left
      ·simp only [Act.put, sTA, sZ, sS, i64_w, i32_w]
       rfl
      refine one_ (i := 3) (N := some 33) #[bY,bY,bY,bY,bN,bN,bN,bN,bN] rfl rfl (one_of HT_.out (by kernel_rfl)) (by decide) (fun K hK => ?_)
      refine goes_ Try.func151 (by kernel_rfl) rfl #[.pointer (some ⟨g, 0, none⟩), .int .i64 t960] (by rfl) rfl rfl (by (try simp only [List.map_toArray, List.map_cons, List.map_nil]); first | done | rfl | (simp only [List.length_drop, List.length_take]; rfl)) ?_
      with_reducible refine (spec_l01Below.calls g s0_0 x1001_1 x1002_1 t960 t964 t965 t966 w0 _ ?side1 ?side2 A37.out).mono ?_
      (case side1 => repeat (first | (with_reducible first | exact HI0.out | apply IsS151.alloc | apply IsS151.drewN | apply IsS151.drew | apply IsS151.set_1 | apply IsS151.set_2 | refine IsS151.far ?_ NB0_941.out _ | refine IsS151.far ?_ NB0_942.out _ | refine IsS151.far ?_ NB0_947.out _ | refine IsS151.far ?_ NB0_953.out _ | refine IsS151.far ?_ NB0_959.out _) | exact HI0.out))
      (case side2 => repeat (first | (with_reducible first | exact HB.out | apply bAl | apply bDN | apply bD1 | refine bSt ?_ (IsS151.ge HI0.out) | refine bSt ?_ GE941.out | refine bSt ?_ GE942.out | refine bSt ?_ GE947.out | refine bSt ?_ GE953.out | refine bSt ?_ GE959.out) | exact HB.out))
      rintro e w42 ⟨rfl, hi, hb, hk⟩
      refine ⟨_, rfl, ?_⟩
      have n0_ := aK (KeepBut.blk hk (g' := gb941) (o := .cells #[.int .i64 0, .int .i64 0, .int .i64 0] 32 (0, 0)) (by (with_reducible repeat (first | refine kDN ?_ _ | refine kD ?_ | refine kA ?_ _)); exact BK941.out) NB941_0.out (by simp))
      have n1_ := aK (KeepBut.blk hk (g' := gb942) (o := .cells #[.int .i64 0, .int .i64 0, .int .i64 0] 32 (0, 0)) (by (with_reducible repeat (first | refine kDN ?_ _ | refine kD ?_ | refine kA ?_ _)); exact BK942.out) NB942_0.out (by simp))
      have n2_ := aK (KeepBut.blk hk (g' := gb947) (o := .cells #[.int .i64 t943, .int .i64 t944] 30 (0, 0)) (by (with_reducible repeat (first | refine kDN ?_ _ | refine kD ?_ | refine kA ?_ _)); exact BK947.out) NB947_0.out (by simp))
      have n3_ := aK (KeepBut.blk hk (g' := gb953) (o := .cells #[.int .i64 x954000_1, .int .i64 x954001_1, .int .i64 x954002_1] 32 (0, 0)) (by (with_reducible repeat (first | refine kDN ?_ _ | refine kD ?_ | refine kA ?_ _)); exact BK953.out) NB953_0.out (by simp))
      have n4_ := aK (KeepBut.blk hk (g' := gb959) (o := .cells #[.int .i64 x960000_1, .int .i64 x960001_1, .int .i64 x960002_1] 32 (0, 0)) (by (with_reducible repeat (first | refine kDN ?_ _ | refine kD ?_ | refine kA ?_ _)); exact BK959.out) NB959_0.out (by simp))
      have n5_ := aK (KeepBut.trans (by repeat (first | (with_reducible first | exact HK.out | apply KeepBut.set_ | apply keep_drewN | apply keep_drew | apply keep_alloc | refine keep_far ?_ GW941.out _ | refine keep_far ?_ GW942.out _ | refine keep_far ?_ GW947.out _ | refine keep_far ?_ GW953.out _ | refine keep_far ?_ GW959.out _) | exact HK.out)) hk (.inl rfl))
      have n6_ := aK (hb)
      have n7_ := aK (hi)
      clear BK941
      clear BK942
      clear BK947
      clear BK953
      clear BK959
      clear HK
      clear HB
      clear HI0
      have BK941 := n0_
      have BK942 := n1_
      have BK947 := n2_
      have BK953 := n3_
      have BK959 := n4_
      have HK := n5_
      have HB := n6_
      have HI0 := n7_
      clear n0_ n1_ n2_ n3_ n4_ n5_ n6_ n7_
      (try clear hb)
      (try clear hb2)
      (try clear hk)
      (try clear hi)
      refine hK.out _ _ ⟨(kC BK953.out 0).trans rfl, (kC BK953.out 1).trans rfl, (kC BK953.out 2).trans rfl⟩ (fun hHeld => ?_)
      clear hK K
      refine norm_ (a' := ?_) ?_ ?_
      rotate_left
      ·show Act.put _ (some 33) _ = _
       simp only [Act.put, sTA, sZ, sS, i64_w, i32_w]
       rfl
      refine one_ (i := 4) (N := some 34) #[bY,bY,bY,bY,bY,bN,bN,bN,bN] rfl rfl (one_of HT_.out (by kernel_rfl)) (by decide) (fun K hK => ?_)
      refine goes_ Try.func152 (by kernel_rfl) rfl #[.agg #[.int .i64 x954000_1, .int .i64 x954001_1, .int .i64 x954002_1], .int .i64 t964, .bool true] (by rfl) rfl rfl (by (try simp only [List.map_toArray, List.map_cons, List.map_nil]); first | done | rfl | (simp only [List.length_drop, List.length_take]; rfl)) ?_
      with_reducible refine (spec_SetGap.calls kj33 x954000_1 x954001_1 x954002_1 t964 true t967 t968 t969 t970 _ A38.out).mono ?_
      rintro e w43 ⟨rfl, hb⟩
      refine ⟨_, rfl, ?_⟩
      have n0_ := bkb BK941 hb (by intro z_; (with_reducible repeat (first | refine kDN ?_ _ | refine kD ?_ | refine kA ?_ _)); exact z_)
      have n1_ := bkb BK942 hb (by intro z_; (with_reducible repeat (first | refine kDN ?_ _ | refine kD ?_ | refine kA ?_ _)); exact z_)
      have n2_ := bkb BK947 hb (by intro z_; (with_reducible repeat (first | refine kDN ?_ _ | refine kD ?_ | refine kA ?_ _)); exact z_)
      have n3_ := bkb BK953 hb (by intro z_; (with_reducible repeat (first | refine kDN ?_ _ | refine kD ?_ | refine kA ?_ _)); exact z_)
      have n4_ := bkb BK959 hb (by intro z_; (with_reducible repeat (first | refine kDN ?_ _ | refine kD ?_ | refine kA ?_ _)); exact z_)
      have n5_ := aK (IsS151.below (by repeat (first | (with_reducible first | exact HI0.out | apply IsS151.alloc | apply IsS151.drewN | apply IsS151.drew | apply IsS151.set_1 | apply IsS151.set_2 | refine IsS151.far ?_ NB0_941.out _ | refine IsS151.far ?_ NB0_942.out _ | refine IsS151.far ?_ NB0_947.out _ | refine IsS151.far ?_ NB0_953.out _ | refine IsS151.far ?_ NB0_959.out _) | exact HI0.out)) hb)
      have n6_ := aK (KeepBut.trans (by repeat (first | (with_reducible first | exact HK.out | apply KeepBut.set_ | apply keep_drewN | apply keep_drew | apply keep_alloc | refine keep_far ?_ GW941.out _ | refine keep_far ?_ GW942.out _ | refine keep_far ?_ GW947.out _ | refine keep_far ?_ GW953.out _ | refine keep_far ?_ GW959.out _) | exact HK.out)) (KeepBut.of_below hb g none) (.inl rfl))
      have n7_ := aK (bSp (by repeat (first | (with_reducible first | exact HB.out | apply bAl | apply bDN | apply bD1 | refine bSt ?_ (IsS151.ge HI0.out) | refine bSt ?_ GE941.out | refine bSt ?_ GE942.out | refine bSt ?_ GE947.out | refine bSt ?_ GE953.out | refine bSt ?_ GE959.out) | exact HB.out)) hb)
      clear BK941
      clear BK942
      clear BK947
      clear BK953
      clear BK959
      clear HI0
      clear HK
      clear HB
      have BK941 := n0_
      have BK942 := n1_
      have BK947 := n2_
      have BK953 := n3_
      have BK959 := n4_
      have HI0 := n5_
      have HK := n6_
      have HB := n7_
      clear n0_ n1_ n2_ n3_ n4_ n5_ n6_ n7_
      (try clear hb)
      (try clear hb2)
      (try clear hk)
      (try clear hi)
      refine hK.out _ _ ⟨(kC BK953.out 0).trans rfl, (kC BK953.out 1).trans rfl, (kC BK953.out 2).trans rfl⟩ (fun hHeld => ?_)
      clear hK K
      refine norm_ (a' := ?_) ?_ ?_
      rotate_left
      ·show Act.put _ (some 34) _ = _
       simp only [Act.put, sTA, sZ, sS, i64_w, i32_w]
       rfl
      refine pure_ (i := 5) (N := some 29) (v := ?_) (a' := ?_) #[bY,bY,bY,bY,bY,bY,bN,bN,bN] rfl rfl (any_of HT_.out (by kernel_rfl)) (fun _ _ _ h => h) (Or.inl ⟨by rfl, ?_⟩) ?_ ?_
      rotate_left
      ·intro w'
       go_simp
       with_reducible rfl
      rotate_left
      ·simp only [Act.put, sTA, sZ, sS, i64_w, i32_w]
       rfl
      refine pure_ (i := 6) (N := some 35) (v := ?_) (a' := ?_) #[bY,bY,bY,bY,bY,bY,bY,bN,bN] rfl rfl (any_of HT_.out (by kernel_rfl)) (fun _ _ _ h => h) (Or.inl ⟨by rfl, ?_⟩) ?_ ?_
      rotate_left
      ·intro w'
       go_simp
       with_reducible rfl
      rotate_left
      ·simp only [Act.put, sTA, sZ, sS, i64_w, i32_w]
       rfl
      refine pure_ (i := 7) (N := some 36) (v := ?_) (a' := ?_) #[bY,bY,bY,bY,bY,bY,bY,bY,bN] rfl rfl (any_of HT_.out (by kernel_rfl)) (fun _ _ _ h => h) (Or.inl ⟨by rfl, ?_⟩) ?_ ?_
      rotate_left
      ·intro w'
       go_simp
       with_reducible rfl
      rotate_left
      ·simp only [Act.put, sTA, sZ, sS, i64_w, i32_w]
       rfl
      refine last_ (i := 8) (N := none) #[bY,bY,bY,bY,bY,bY,bY,bY,bY] rfl rfl (one_of HT_.out (by kernel_rfl)) (by decide) (fun K hK => ?_)
      have hs44 : w43.cell? ⟨gb953, 0, none⟩ = some (.int .i64 x954000_1) := (kC BK953.out 0).trans rfl
      have hfs44 := kF BK953.out 0
      have hns44_0 := NB941_953.out
      have hns44_1 := NB942_953.out
      have hns44_2 := NB947_953.out
      have hns44_4 := NB959_953.out
      have hms44_0 := NB953_941.out
      have hms44_1 := NB953_942.out
      have hms44_2 := NB953_947.out
      have hms44_4 := NB953_959.out
      have hs45 : w43.cell? ⟨gb953, 1, none⟩ = some (.int .i64 x954001_1) := (kC BK953.out 1).trans rfl
      have hfs45 := kF BK953.out 1
      have hns45_0 := NB941_953.out
      have hns45_1 := NB942_953.out
      have hns45_2 := NB947_953.out
      have hns45_4 := NB959_953.out
      have hms45_0 := NB953_941.out
      have hms45_1 := NB953_942.out
      have hms45_2 := NB953_947.out
      have hms45_4 := NB953_959.out
      have hs46 : w43.cell? ⟨gb953, 2, none⟩ = some (.int .i64 x954002_1) := (kC BK953.out 2).trans rfl
      have hfs46 := kF BK953.out 2
      have hns46_0 := NB941_953.out
      have hns46_1 := NB942_953.out
      have hns46_2 := NB947_953.out
      have hns46_4 := NB959_953.out
      have hms46_0 := NB953_941.out
      have hms46_1 := NB953_942.out
      have hms46_2 := NB953_947.out
      have hms46_4 := NB953_959.out
      refine skip_ (w1 := ?_) (by rfl) rfl ?_ ?_
      rotate_left
      ·go_simp
       rfl
      refine hK.out _ _ ?_
      clear hK K
      refine done_ (done_of HT_.out (by kernel_rfl)) ?_
      try go_wp2
      have n0_ : Aside0 ((((w43.setCell ⟨gb953, 0, none⟩ (.int .i64 t967)).setCell ⟨gb953, 1, none⟩ (.int .i64 t968)).setCell ⟨gb953, 2, none⟩ (.int .i64 t969)).heap[gb941]? = some (.cells #[.int .i64 0, .int .i64 0, .int .i64 0] 32 (0, 0))) := ⟨by (with_reducible repeat (first | refine kDN ?_ _ | refine kD ?_ | refine kA ?_ _)); refine blk_far ?_ NB941_953.out _; (with_reducible repeat (first | refine kDN ?_ _ | refine kD ?_ | refine kA ?_ _)); refine blk_far ?_ NB941_953.out _; (with_reducible repeat (first | refine kDN ?_ _ | refine kD ?_ | refine kA ?_ _)); refine blk_far ?_ NB941_953.out _; (with_reducible repeat (first | refine kDN ?_ _ | refine kD ?_ | refine kA ?_ _)); exact BK941.out⟩
      have n1_ : Aside0 ((((w43.setCell ⟨gb953, 0, none⟩ (.int .i64 t967)).setCell ⟨gb953, 1, none⟩ (.int .i64 t968)).setCell ⟨gb953, 2, none⟩ (.int .i64 t969)).heap[gb942]? = some (.cells #[.int .i64 0, .int .i64 0, .int .i64 0] 32 (0, 0))) := ⟨by (with_reducible repeat (first | refine kDN ?_ _ | refine kD ?_ | refine kA ?_ _)); refine blk_far ?_ NB942_953.out _; (with_reducible repeat (first | refine kDN ?_ _ | refine kD ?_ | refine kA ?_ _)); refine blk_far ?_ NB942_953.out _; (with_reducible repeat (first | refine kDN ?_ _ | refine kD ?_ | refine kA ?_ _)); refine blk_far ?_ NB942_953.out _; (with_reducible repeat (first | refine kDN ?_ _ | refine kD ?_ | refine kA ?_ _)); exact BK942.out⟩
      have n2_ : Aside0 ((((w43.setCell ⟨gb953, 0, none⟩ (.int .i64 t967)).setCell ⟨gb953, 1, none⟩ (.int .i64 t968)).setCell ⟨gb953, 2, none⟩ (.int .i64 t969)).heap[gb947]? = some (.cells #[.int .i64 t943, .int .i64 t944] 30 (0, 0))) := ⟨by (with_reducible repeat (first | refine kDN ?_ _ | refine kD ?_ | refine kA ?_ _)); refine blk_far ?_ NB947_953.out _; (with_reducible repeat (first | refine kDN ?_ _ | refine kD ?_ | refine kA ?_ _)); refine blk_far ?_ NB947_953.out _; (with_reducible repeat (first | refine kDN ?_ _ | refine kD ?_ | refine kA ?_ _)); refine blk_far ?_ NB947_953.out _; (with_reducible repeat (first | refine kDN ?_ _ | refine kD ?_ | refine kA ?_ _)); exact BK947.out⟩
      have n3_ : Aside0 ((((w43.setCell ⟨gb953, 0, none⟩ (.int .i64 t967)).setCell ⟨gb953, 1, none⟩ (.int .i64 t968)).setCell ⟨gb953, 2, none⟩ (.int .i64 t969)).heap[gb953]? = some (.cells #[.int .i64 t967, .int .i64 t968, .int .i64 t969] 32 (0, 0))) := ⟨by (with_reducible repeat (first | refine kDN ?_ _ | refine kD ?_ | refine kA ?_ _)); refine blk_put (cs := #[.int .i64 t967, .int .i64 t968, .int .i64 x954002_1]) ?_ 2 _ rfl; (with_reducible repeat (first | refine kDN ?_ _ | refine kD ?_ | refine kA ?_ _)); refine blk_put (cs := #[.int .i64 t967, .int .i64 x954001_1, .int .i64 x954002_1]) ?_ 1 _ rfl; (with_reducible repeat (first | refine kDN ?_ _ | refine kD ?_ | refine kA ?_ _)); refine blk_put (cs := #[.int .i64 x954000_1, .int .i64 x954001_1, .int .i64 x954002_1]) ?_ 0 _ rfl; (with_reducible repeat (first | refine kDN ?_ _ | refine kD ?_ | refine kA ?_ _)); exact BK953.out⟩
      have n4_ : Aside0 ((((w43.setCell ⟨gb953, 0, none⟩ (.int .i64 t967)).setCell ⟨gb953, 1, none⟩ (.int .i64 t968)).setCell ⟨gb953, 2, none⟩ (.int .i64 t969)).heap[gb959]? = some (.cells #[.int .i64 x960000_1, .int .i64 x960001_1, .int .i64 x960002_1] 32 (0, 0))) := ⟨by (with_reducible repeat (first | refine kDN ?_ _ | refine kD ?_ | refine kA ?_ _)); refine blk_far ?_ NB959_953.out _; (with_reducible repeat (first | refine kDN ?_ _ | refine kD ?_ | refine kA ?_ _)); refine blk_far ?_ NB959_953.out _; (with_reducible repeat (first | refine kDN ?_ _ | refine kD ?_ | refine kA ?_ _)); refine blk_far ?_ NB959_953.out _; (with_reducible repeat (first | refine kDN ?_ _ | refine kD ?_ | refine kA ?_ _)); exact BK959.out⟩
      have n5_ : Aside0 (IsS151 w0 (((w43.setCell ⟨gb953, 0, none⟩ (.int .i64 t967)).setCell ⟨gb953, 1, none⟩ (.int .i64 t968)).setCell ⟨gb953, 2, none⟩ (.int .i64 t969)) g s0_0 t965 t966) := ⟨by repeat (first | (with_reducible first | exact HI0.out | apply IsS151.alloc | apply IsS151.drewN | apply IsS151.drew | apply IsS151.set_1 | apply IsS151.set_2 | refine IsS151.far ?_ NB0_941.out _ | refine IsS151.far ?_ NB0_942.out _ | refine IsS151.far ?_ NB0_947.out _ | refine IsS151.far ?_ NB0_953.out _ | refine IsS151.far ?_ NB0_959.out _) | exact HI0.out)⟩
      have n6_ : Aside0 (KeepBut w (((w43.setCell ⟨gb953, 0, none⟩ (.int .i64 t967)).setCell ⟨gb953, 1, none⟩ (.int .i64 t968)).setCell ⟨gb953, 2, none⟩ (.int .i64 t969)) g none) := ⟨by repeat (first | (with_reducible first | exact HK.out | apply KeepBut.set_ | apply keep_drewN | apply keep_drew | apply keep_alloc | refine keep_far ?_ GW941.out _ | refine keep_far ?_ GW942.out _ | refine keep_far ?_ GW947.out _ | refine keep_far ?_ GW953.out _ | refine keep_far ?_ GW959.out _) | exact HK.out)⟩
      have n7_ : Aside0 (Below w0.heap.size w0 (((w43.setCell ⟨gb953, 0, none⟩ (.int .i64 t967)).setCell ⟨gb953, 1, none⟩ (.int .i64 t968)).setCell ⟨gb953, 2, none⟩ (.int .i64 t969))) := ⟨by repeat (first | (with_reducible first | exact HB.out | apply bAl | apply bDN | apply bD1 | refine bSt ?_ (IsS151.ge HI0.out) | refine bSt ?_ GE941.out | refine bSt ?_ GE942.out | refine bSt ?_ GE947.out | refine bSt ?_ GE953.out | refine bSt ?_ GE959.out) | exact HB.out)⟩
      (try clear BK941)
      (try clear BK942)
      (try clear BK947)
      (try clear BK953)
      (try clear BK959)
      (try clear HI0)
      (try clear HK)
      (try clear HB)
      generalize (((w43.setCell ⟨gb953, 0, none⟩ (.int .i64 t967)).setCell ⟨gb953, 1, none⟩ (.int .i64 t968)).setCell ⟨gb953, 2, none⟩ (.int .i64 t969)) = w47 at n0_ n1_ n2_ n3_ n4_ n5_ n6_ n7_ ⊢
      have BK941 := n0_
      have BK942 := n1_
      have BK947 := n2_
      have BK953 := n3_
      have BK959 := n4_
      have HI0 := n5_
      have HK := n6_
      have HB := n7_
      clear n0_ n1_ n2_ n3_ n4_ n5_ n6_ n7_
      have n0_ := aK (kD BK941.out)
      have n1_ := aK (kD BK942.out)
      have n2_ := aK (kD BK947.out)
      have n3_ := aK (kD BK953.out)
      have n4_ := aK (kD BK959.out)
      have n5_ := aK (IsS151.drew HI0.out)
      have n6_ := aK (keep_drew HK.out)
      have n7_ := aK (bD1 HB.out)
      clear BK941
      clear BK942
      clear BK947
      clear BK953
      clear BK959
      clear HI0
      clear HK
      clear HB
      have BK941 := n0_
      have BK942 := n1_
      have BK947 := n2_
      have BK953 := n3_
      have BK959 := n4_
      have HI0 := n5_
      have HK := n6_
      have HB := n7_
      clear n0_ n1_ n2_ n3_ n4_ n5_ n6_ n7_
      refine start_ (n := 9) (S := fun w' => w'.cell? ⟨gb959, 0, none⟩ = some (.int .i64 x960000_1) ∧ w'.cell? ⟨gb959, 1, none⟩ = some (.int .i64 x960001_1) ∧ w'.cell? ⟨gb959, 2, none⟩ = some (.int .i64 x960002_1)) (ds := [8]) #[bN,bN,bN,bN,bN,bN,bN,bN,bN] (by kernel_rfl) rfl rfl ⟨(kC BK959.out 0).trans rfl, (kC BK959.out 1).trans rfl, (kC BK959.out 2).trans rfl⟩ (fun hHeld => ?_); refine with_tabW spec_l37Two.tab9 spec_l37Two.bits9 (fun HT_ HW_ => ?_)
      generalize w47.drew = w48 at BK941 BK942 BK947 BK953 BK959 HI0 HK HB hHeld ⊢
      refine pure_ (i := 1) (N := some 39) (v := ?_) (a' := ?_) #[bN,bY,bN,bN,bN,bN,bN,bN,bN] rfl rfl (any_of HT_.out (by kernel_rfl)) (fun _ _ _ h => h) (Or.inl ⟨by rfl, ?_⟩) ?_ ?_
      rotate_left
      ·intro w'
       go_simp
       with_reducible rfl
      rotate_left
      ·simp only [Act.put, sTA, sZ, sS, i64_w, i32_w]
       rfl
      refine pure_ (i := 2) (N := some 40) (v := ?_) (a' := ?_) #[bN,bY,bY,bN,bN,bN,bN,bN,bN] rfl rfl (any_of HT_.out (by kernel_rfl)) (fun _ _ _ h => h) (Or.inl ⟨by rfl, ?_⟩) ?_ ?_
      rotate_left
      ·intro w'
       go_simp
       with_reducible rfl
      rotate_left
      ·simp only [Act.put, sTA, sZ, sS, i64_w, i32_w]
       rfl
      refine take_ (i := 0) (N := some 38) (v := ?_) (a' := ?_) #[bY,bY,bY,bN,bN,bN,bN,bN,bN] rfl rfl (take_ofW HT_.out HW_.out (by kernel_rfl)) (fun _ _ _ h => h) (Or.inl ⟨by rfl, ?_⟩) hHeld ?_ ?_
      rotate_left
      ·rintro w' ⟨s0, s1, s2⟩
       go_simp
       with_reducible rfl
      rotate_left
      ·simp only [Act.put, sTA, sZ, sS, i64_w, i32_w]
       rfl
      refine one_ (i := 3) (N := some 41) #[bY,bY,bY,bY,bN,bN,bN,bN,bN] rfl rfl (one_of HT_.out (by kernel_rfl)) (by decide) (fun K hK => ?_)
      refine goes_ Try.func151 (by kernel_rfl) rfl #[.pointer (some ⟨g, 0, none⟩), .int .i64 t960] (by rfl) rfl rfl (by (try simp only [List.map_toArray, List.map_cons, List.map_nil]); first | done | rfl | (simp only [List.length_drop, List.length_take]; rfl)) ?_
      with_reducible refine (spec_l01Below.calls g s0_0 t965 t966 t960 t971 t972 t973 w0 _ ?side1 ?side2 A39.out).mono ?_
      (case side1 => repeat (first | (with_reducible first | exact HI0.out | apply IsS151.alloc | apply IsS151.drewN | apply IsS151.drew | apply IsS151.set_1 | apply IsS151.set_2 | refine IsS151.far ?_ NB0_941.out _ | refine IsS151.far ?_ NB0_942.out _ | refine IsS151.far ?_ NB0_947.out _ | refine IsS151.far ?_ NB0_953.out _ | refine IsS151.far ?_ NB0_959.out _) | exact HI0.out))
      (case side2 => repeat (first | (with_reducible first | exact HB.out | apply bAl | apply bDN | apply bD1 | refine bSt ?_ (IsS151.ge HI0.out) | refine bSt ?_ GE941.out | refine bSt ?_ GE942.out | refine bSt ?_ GE947.out | refine bSt ?_ GE953.out | refine bSt ?_ GE959.out) | exact HB.out))
      rintro e w49 ⟨rfl, hi, hb, hk⟩
      refine ⟨_, rfl, ?_⟩
      have n0_ := aK (KeepBut.blk hk (g' := gb941) (o := .cells #[.int .i64 0, .int .i64 0, .int .i64 0] 32 (0, 0)) (by (with_reducible repeat (first | refine kDN ?_ _ | refine kD ?_ | refine kA ?_ _)); exact BK941.out) NB941_0.out (by simp))
      have n1_ := aK (KeepBut.blk hk (g' := gb942) (o := .cells #[.int .i64 0, .int .i64 0, .int .i64 0] 32 (0, 0)) (by (with_reducible repeat (first | refine kDN ?_ _ | refine kD ?_ | refine kA ?_ _)); exact BK942.out) NB942_0.out (by simp))
      have n2_ := aK (KeepBut.blk hk (g' := gb947) (o := .cells #[.int .i64 t943, .int .i64 t944] 30 (0, 0)) (by (with_reducible repeat (first | refine kDN ?_ _ | refine kD ?_ | refine kA ?_ _)); exact BK947.out) NB947_0.out (by simp))
      have n3_ := aK (KeepBut.blk hk (g' := gb953) (o := .cells #[.int .i64 t967, .int .i64 t968, .int .i64 t969] 32 (0, 0)) (by (with_reducible repeat (first | refine kDN ?_ _ | refine kD ?_ | refine kA ?_ _)); exact BK953.out) NB953_0.out (by simp))
      have n4_ := aK (KeepBut.blk hk (g' := gb959) (o := .cells #[.int .i64 x960000_1, .int .i64 x960001_1, .int .i64 x960002_1] 32 (0, 0)) (by (with_reducible repeat (first | refine kDN ?_ _ | refine kD ?_ | refine kA ?_ _)); exact BK959.out) NB959_0.out (by simp))
      have n5_ := aK (KeepBut.trans (by repeat (first | (with_reducible first | exact HK.out | apply KeepBut.set_ | apply keep_drewN | apply keep_drew | apply keep_alloc | refine keep_far ?_ GW941.out _ | refine keep_far ?_ GW942.out _ | refine keep_far ?_ GW947.out _ | refine keep_far ?_ GW953.out _ | refine keep_far ?_ GW959.out _) | exact HK.out)) hk (.inl rfl))
      have n6_ := aK (hb)
      have n7_ := aK (hi)
      clear BK941
      clear BK942
      clear BK947
      clear BK953
      clear BK959
      clear HK
      clear HB
      clear HI0
      have BK941 := n0_
      have BK942 := n1_
      have BK947 := n2_
      have BK953 := n3_
      have BK959 := n4_
      have HK := n5_
      have HB := n6_
      have HI0 := n7_
      clear n0_ n1_ n2_ n3_ n4_ n5_ n6_ n7_
      (try clear hb)
      (try clear hb2)
      (try clear hk)
      (try clear hi)
      refine hK.out _ _ ⟨(kC BK959.out 0).trans rfl, (kC BK959.out 1).trans rfl, (kC BK959.out 2).trans rfl⟩ (fun hHeld => ?_)
      clear hK K
      refine norm_ (a' := ?_) ?_ ?_
      rotate_left
      ·show Act.put _ (some 41) _ = _
       simp only [Act.put, sTA, sZ, sS, i64_w, i32_w]
       rfl
      refine one_ (i := 4) (N := some 42) #[bY,bY,bY,bY,bY,bN,bN,bN,bN] rfl rfl (one_of HT_.out (by kernel_rfl)) (by decide) (fun K hK => ?_)
      refine goes_ Try.func152 (by kernel_rfl) rfl #[.agg #[.int .i64 x960000_1, .int .i64 x960001_1, .int .i64 x960002_1], .int .i64 t971, .bool true] (by rfl) rfl rfl (by (try simp only [List.map_toArray, List.map_cons, List.map_nil]); first | done | rfl | (simp only [List.length_drop, List.length_take]; rfl)) ?_
      with_reducible refine (spec_SetGap.calls kj33 x960000_1 x960001_1 x960002_1 t971 true t974 t975 t976 t977 _ A40.out).mono ?_
      rintro e w50 ⟨rfl, hb⟩
      refine ⟨_, rfl, ?_⟩
      have n0_ := bkb BK941 hb (by intro z_; (with_reducible repeat (first | refine kDN ?_ _ | refine kD ?_ | refine kA ?_ _)); exact z_)
      have n1_ := bkb BK942 hb (by intro z_; (with_reducible repeat (first | refine kDN ?_ _ | refine kD ?_ | refine kA ?_ _)); exact z_)
      have n2_ := bkb BK947 hb (by intro z_; (with_reducible repeat (first | refine kDN ?_ _ | refine kD ?_ | refine kA ?_ _)); exact z_)
      have n3_ := bkb BK953 hb (by intro z_; (with_reducible repeat (first | refine kDN ?_ _ | refine kD ?_ | refine kA ?_ _)); exact z_)
      have n4_ := bkb BK959 hb (by intro z_; (with_reducible repeat (first | refine kDN ?_ _ | refine kD ?_ | refine kA ?_ _)); exact z_)
      have n5_ := aK (IsS151.below (by repeat (first | (with_reducible first | exact HI0.out | apply IsS151.alloc | apply IsS151.drewN | apply IsS151.drew | apply IsS151.set_1 | apply IsS151.set_2 | refine IsS151.far ?_ NB0_941.out _ | refine IsS151.far ?_ NB0_942.out _ | refine IsS151.far ?_ NB0_947.out _ | refine IsS151.far ?_ NB0_953.out _ | refine IsS151.far ?_ NB0_959.out _) | exact HI0.out)) hb)
      have n6_ := aK (KeepBut.trans (by repeat (first | (with_reducible first | exact HK.out | apply KeepBut.set_ | apply keep_drewN | apply keep_drew | apply keep_alloc | refine keep_far ?_ GW941.out _ | refine keep_far ?_ GW942.out _ | refine keep_far ?_ GW947.out _ | refine keep_far ?_ GW953.out _ | refine keep_far ?_ GW959.out _) | exact HK.out)) (KeepBut.of_below hb g none) (.inl rfl))
      have n7_ := aK (bSp (by repeat (first | (with_reducible first | exact HB.out | apply bAl | apply bDN | apply bD1 | refine bSt ?_ (IsS151.ge HI0.out) | refine bSt ?_ GE941.out | refine bSt ?_ GE942.out | refine bSt ?_ GE947.out | refine bSt ?_ GE953.out | refine bSt ?_ GE959.out) | exact HB.out)) hb)
      clear BK941
      clear BK942
      clear BK947
      clear BK953
      clear BK959
      clear HI0
      clear HK
      clear HB
      have BK941 := n0_
      have BK942 := n1_
      have BK947 := n2_
      have BK953 := n3_
      have BK959 := n4_
      have HI0 := n5_
      have HK := n6_
      have HB := n7_
      clear n0_ n1_ n2_ n3_ n4_ n5_ n6_ n7_
      (try clear hb)
      (try clear hb2)
      (try clear hk)
      (try clear hi)
      refine hK.out _ _ ⟨(kC BK959.out 0).trans rfl, (kC BK959.out 1).trans rfl, (kC BK959.out 2).trans rfl⟩ (fun hHeld => ?_)
      clear hK K
      refine norm_ (a' := ?_) ?_ ?_
      rotate_left
      ·show Act.put _ (some 42) _ = _
       simp only [Act.put, sTA, sZ, sS, i64_w, i32_w]
       rfl
      refine pure_ (i := 5) (N := some 37) (v := ?_) (a' := ?_) #[bY,bY,bY,bY,bY,bY,bN,bN,bN] rfl rfl (any_of HT_.out (by kernel_rfl)) (fun _ _ _ h => h) (Or.inl ⟨by rfl, ?_⟩) ?_ ?_
      rotate_left
      ·intro w'
       go_simp
       with_reducible rfl
      rotate_left
      ·simp only [Act.put, sTA, sZ, sS, i64_w, i32_w]
       rfl
      refine pure_ (i := 6) (N := some 43) (v := ?_) (a' := ?_) #[bY,bY,bY,bY,bY,bY,bY,bN,bN] rfl rfl (any_of HT_.out (by kernel_rfl)) (fun _ _ _ h => h) (Or.inl ⟨by rfl, ?_⟩) ?_ ?_
      rotate_left
      ·intro w'
       go_simp
       with_reducible rfl
      rotate_left
      ·simp only [Act.put, sTA, sZ, sS, i64_w, i32_w]
       rfl
      refine pure_ (i := 7) (N := some 44) (v := ?_) (a' := ?_) #[bY,bY,bY,bY,bY,bY,bY,bY,bN] rfl rfl (any_of HT_.out (by kernel_rfl)) (fun _ _ _ h => h) (Or.inl ⟨by rfl, ?_⟩) ?_ ?_
      rotate_left
      ·intro w'
       go_simp
       with_reducible rfl
      rotate_left
      ·simp only [Act.put, sTA, sZ, sS, i64_w, i32_w]
       rfl
      refine last_ (i := 8) (N := none) #[bY,bY,bY,bY,bY,bY,bY,bY,bY] rfl rfl (one_of HT_.out (by kernel_rfl)) (by decide) (fun K hK => ?_)
      have hs51 : w50.cell? ⟨gb959, 0, none⟩ = some (.int .i64 x960000_1) := (kC BK959.out 0).trans rfl
      have hfs51 := kF BK959.out 0
      have hns51_0 := NB941_959.out
      have hns51_1 := NB942_959.out
      have hns51_2 := NB947_959.out
      have hns51_3 := NB953_959.out
      have hms51_0 := NB959_941.out
      have hms51_1 := NB959_942.out
      have hms51_2 := NB959_947.out
      have hms51_3 := NB959_953.out
      have hs52 : w50.cell? ⟨gb959, 1, none⟩ = some (.int .i64 x960001_1) := (kC BK959.out 1).trans rfl
      have hfs52 := kF BK959.out 1
      have hns52_0 := NB941_959.out
      have hns52_1 := NB942_959.out
      have hns52_2 := NB947_959.out
      have hns52_3 := NB953_959.out
      have hms52_0 := NB959_941.out
      have hms52_1 := NB959_942.out
      have hms52_2 := NB959_947.out
      have hms52_3 := NB959_953.out
      have hs53 : w50.cell? ⟨gb959, 2, none⟩ = some (.int .i64 x960002_1) := (kC BK959.out 2).trans rfl
      have hfs53 := kF BK959.out 2
      have hns53_0 := NB941_959.out
      have hns53_1 := NB942_959.out
      have hns53_2 := NB947_959.out
      have hns53_3 := NB953_959.out
      have hms53_0 := NB959_941.out
      have hms53_1 := NB959_942.out
      have hms53_2 := NB959_947.out
      have hms53_3 := NB959_953.out
      refine skip_ (w1 := ?_) (by rfl) rfl ?_ ?_
      rotate_left
      ·go_simp
       rfl
      refine hK.out _ _ ?_
      clear hK K
      refine done_ (done_of HT_.out (by kernel_rfl)) ?_
      try go_wp2
      go_roundg kj33
      case measure => have := HK1.out; have := HJ33.out; omega
      case rel => exact ⟨(wrap64 (x8_1 - 1)), (t972), (t973), (t967), (t968), (t969), (t974), (t975), (t976), (by first | rfl | (simp; done) | (simp [*]; done)), H', ⟨by have := HK1.out; have := HJ33.out; omega⟩, ⟨by (with_reducible repeat (first | refine kDN ?_ _ | refine kD ?_ | refine kA ?_ _)); refine blk_far ?_ NB941_959.out _; (with_reducible repeat (first | refine kDN ?_ _ | refine kD ?_ | refine kA ?_ _)); refine blk_far ?_ NB941_959.out _; (with_reducible repeat (first | refine kDN ?_ _ | refine kD ?_ | refine kA ?_ _)); refine blk_far ?_ NB941_959.out _; (with_reducible repeat (first | refine kDN ?_ _ | refine kD ?_ | refine kA ?_ _)); exact BK941.out⟩, ⟨by (with_reducible repeat (first | refine kDN ?_ _ | refine kD ?_ | refine kA ?_ _)); refine blk_far ?_ NB942_959.out _; (with_reducible repeat (first | refine kDN ?_ _ | refine kD ?_ | refine kA ?_ _)); refine blk_far ?_ NB942_959.out _; (with_reducible repeat (first | refine kDN ?_ _ | refine kD ?_ | refine kA ?_ _)); refine blk_far ?_ NB942_959.out _; (with_reducible repeat (first | refine kDN ?_ _ | refine kD ?_ | refine kA ?_ _)); exact BK942.out⟩, ⟨by (with_reducible repeat (first | refine kDN ?_ _ | refine kD ?_ | refine kA ?_ _)); refine blk_far ?_ NB947_959.out _; (with_reducible repeat (first | refine kDN ?_ _ | refine kD ?_ | refine kA ?_ _)); refine blk_far ?_ NB947_959.out _; (with_reducible repeat (first | refine kDN ?_ _ | refine kD ?_ | refine kA ?_ _)); refine blk_far ?_ NB947_959.out _; (with_reducible repeat (first | refine kDN ?_ _ | refine kD ?_ | refine kA ?_ _)); exact BK947.out⟩, ⟨by (with_reducible repeat (first | refine kDN ?_ _ | refine kD ?_ | refine kA ?_ _)); refine blk_far ?_ NB953_959.out _; (with_reducible repeat (first | refine kDN ?_ _ | refine kD ?_ | refine kA ?_ _)); refine blk_far ?_ NB953_959.out _; (with_reducible repeat (first | refine kDN ?_ _ | refine kD ?_ | refine kA ?_ _)); refine blk_far ?_ NB953_959.out _; (with_reducible repeat (first | refine kDN ?_ _ | refine kD ?_ | refine kA ?_ _)); exact BK953.out⟩, ⟨by (with_reducible repeat (first | refine kDN ?_ _ | refine kD ?_ | refine kA ?_ _)); refine blk_put (cs := #[.int .i64 t974, .int .i64 t975, .int .i64 x960002_1]) ?_ 2 _ rfl; (with_reducible repeat (first | refine kDN ?_ _ | refine kD ?_ | refine kA ?_ _)); refine blk_put (cs := #[.int .i64 t974, .int .i64 x960001_1, .int .i64 x960002_1]) ?_ 1 _ rfl; (with_reducible repeat (first | refine kDN ?_ _ | refine kD ?_ | refine kA ?_ _)); refine blk_put (cs := #[.int .i64 x960000_1, .int .i64 x960001_1, .int .i64 x960002_1]) ?_ 0 _ rfl; (with_reducible repeat (first | refine kDN ?_ _ | refine kD ?_ | refine kA ?_ _)); exact BK959.out⟩, ⟨by repeat (first | (with_reducible first | exact HI0.out | apply IsS151.alloc | apply IsS151.drewN | apply IsS151.drew | apply IsS151.set_1 | apply IsS151.set_2 | refine IsS151.far ?_ NB0_941.out _ | refine IsS151.far ?_ NB0_942.out _ | refine IsS151.far ?_ NB0_947.out _ | refine IsS151.far ?_ NB0_953.out _ | refine IsS151.far ?_ NB0_959.out _) | exact HI0.out)⟩, ⟨by repeat (first | (with_reducible first | exact HK.out | apply KeepBut.set_ | apply keep_drewN | apply keep_drew | apply keep_alloc | refine keep_far ?_ GW941.out _ | refine keep_far ?_ GW942.out _ | refine keep_far ?_ GW947.out _ | refine keep_far ?_ GW953.out _ | refine keep_far ?_ GW959.out _) | exact HK.out)⟩, ⟨by repeat (first | (with_reducible first | exact HB.out | apply bAl | apply bDN | apply bD1 | refine bSt ?_ (IsS151.ge HI0.out) | refine bSt ?_ GE941.out | refine bSt ?_ GE942.out | refine bSt ?_ GE947.out | refine bSt ?_ GE953.out | refine bSt ?_ GE959.out) | exact HB.out)⟩⟩
     ·replace c36 := Bool.eq_false_iff.mpr c36
      subst c36
      have H1 : (some (x954000_1, x954001_1, x954002_1, x960000_1, x960001_1, x960002_1, x1001_1, x1002_1)) = some (r1, r2, r3, r4, r5, r6, r7, r8) := by rw [if_neg (show ¬ (false = true) by decide)] at H; exact H
      clear H
      have H := H1
      clear H1
      simp only [Option.some.injEq, Prod.mk.injEq] at H
      obtain ⟨rfl, rfl, rfl, rfl, rfl, rfl, rfl, rfl⟩ := H
      try go_wp2
      have n0_ := aK (kD BK941.out)
      have n1_ := aK (kD BK942.out)
      have n2_ := aK (kD BK947.out)
      have n3_ := aK (kD BK953.out)
      have n4_ := aK (kD BK959.out)
      have n5_ := aK (IsS151.drew HI0.out)
      have n6_ := aK (keep_drew HK.out)
      have n7_ := aK (bD1 HB.out)
      clear BK941
      clear BK942
      clear BK947
      clear BK953
      clear BK959
      clear HI0
      clear HK
      clear HB
      have BK941 := n0_
      have BK942 := n1_
      have BK947 := n2_
      have BK953 := n3_
      have BK959 := n4_
      have HI0 := n5_
      have HK := n6_
      have HB := n7_
      clear n0_ n1_ n2_ n3_ n4_ n5_ n6_ n7_
      refine start_ (n := 4) (S := fun w' => w'.cell? ⟨gb953, 0, none⟩ = some (.int .i64 x954000_1) ∧ w'.cell? ⟨gb953, 1, none⟩ = some (.int .i64 x954001_1) ∧ w'.cell? ⟨gb953, 2, none⟩ = some (.int .i64 x954002_1) ∧ w'.cell? ⟨gb959, 0, none⟩ = some (.int .i64 x960000_1) ∧ w'.cell? ⟨gb959, 1, none⟩ = some (.int .i64 x960001_1) ∧ w'.cell? ⟨gb959, 2, none⟩ = some (.int .i64 x960002_1)) (ds := []) #[bN,bN,bN,bN] (by kernel_rfl) rfl rfl ⟨(kC BK953.out 0).trans rfl, (kC BK953.out 1).trans rfl, (kC BK953.out 2).trans rfl, (kC BK959.out 0).trans rfl, (kC BK959.out 1).trans rfl, (kC BK959.out 2).trans rfl⟩ (fun hHeld => ?_)
      generalize wc.drew = w54 at BK941 BK942 BK947 BK953 BK959 HI0 HK HB hHeld ⊢
      refine take_ (i := 0) (N := some 45) (v := ?_) (a' := ?_) #[bY,bN,bN,bN] rfl rfl (by kernel_rfl) (fun _ _ _ h => h) (Or.inl ⟨by rfl, ?_⟩) hHeld ?_ ?_
      rotate_left
      ·rintro w' ⟨s0, s1, s2, s3, s4, s5⟩
       go_simp
       with_reducible rfl
      rotate_left
      ·simp only [Act.put, sTA, sZ, sS, i64_w, i32_w]
       rfl
      refine take_ (i := 1) (N := some 46) (v := ?_) (a' := ?_) #[bY,bY,bN,bN] rfl rfl (by kernel_rfl) (fun _ _ _ h => h) (Or.inl ⟨by rfl, ?_⟩) hHeld ?_ ?_
      rotate_left
      ·rintro w' ⟨s0, s1, s2, s3, s4, s5⟩
       go_simp
       with_reducible rfl
      rotate_left
      ·simp only [Act.put, sTA, sZ, sS, i64_w, i32_w]
       rfl
      refine one_ (i := 2) (N := none) #[bY,bY,bY,bN] rfl rfl (by kernel_rfl) (by decide) (fun K hK => ?_)
      have hs55 : w54.cell? ⟨gb941, 0, none⟩ = some (.int .i64 0) := (kC BK941.out 0).trans rfl
      have hfs55 := kF BK941.out 0
      have hns55_1 := NB942_941.out
      have hns55_2 := NB947_941.out
      have hns55_3 := NB953_941.out
      have hns55_4 := NB959_941.out
      have hms55_1 := NB941_942.out
      have hms55_2 := NB941_947.out
      have hms55_3 := NB941_953.out
      have hms55_4 := NB941_959.out
      have hs56 : w54.cell? ⟨gb941, 1, none⟩ = some (.int .i64 0) := (kC BK941.out 1).trans rfl
      have hfs56 := kF BK941.out 1
      have hns56_1 := NB942_941.out
      have hns56_2 := NB947_941.out
      have hns56_3 := NB953_941.out
      have hns56_4 := NB959_941.out
      have hms56_1 := NB941_942.out
      have hms56_2 := NB941_947.out
      have hms56_3 := NB941_953.out
      have hms56_4 := NB941_959.out
      have hs57 : w54.cell? ⟨gb941, 2, none⟩ = some (.int .i64 0) := (kC BK941.out 2).trans rfl
      have hfs57 := kF BK941.out 2
      have hns57_1 := NB942_941.out
      have hns57_2 := NB947_941.out
      have hns57_3 := NB953_941.out
      have hns57_4 := NB959_941.out
      have hms57_1 := NB941_942.out
      have hms57_2 := NB941_947.out
      have hms57_3 := NB941_953.out
      have hms57_4 := NB941_959.out
      refine skip_ (w1 := ?_) (by rfl) rfl ?_ ?_
      rotate_left
      ·go_simp
       rfl
      refine hK.out _ _ ⟨((cell_far (p := ⟨gb941, _, none⟩) NB953_941.out _).trans (((cell_far (p := ⟨gb941, _, none⟩) NB953_941.out _).trans (((cell_far (p := ⟨gb941, _, none⟩) NB953_941.out _).trans (hHeld.1)))))), ((cell_far (p := ⟨gb941, _, none⟩) NB953_941.out _).trans (((cell_far (p := ⟨gb941, _, none⟩) NB953_941.out _).trans (((cell_far (p := ⟨gb941, _, none⟩) NB953_941.out _).trans (hHeld.2.1)))))), ((cell_far (p := ⟨gb941, _, none⟩) NB953_941.out _).trans (((cell_far (p := ⟨gb941, _, none⟩) NB953_941.out _).trans (((cell_far (p := ⟨gb941, _, none⟩) NB953_941.out _).trans (hHeld.2.2.1)))))), ((cell_far (p := ⟨gb941, _, none⟩) NB959_941.out _).trans (((cell_far (p := ⟨gb941, _, none⟩) NB959_941.out _).trans (((cell_far (p := ⟨gb941, _, none⟩) NB959_941.out _).trans (hHeld.2.2.2.1)))))), ((cell_far (p := ⟨gb941, _, none⟩) NB959_941.out _).trans (((cell_far (p := ⟨gb941, _, none⟩) NB959_941.out _).trans (((cell_far (p := ⟨gb941, _, none⟩) NB959_941.out _).trans (hHeld.2.2.2.2.1)))))), ((cell_far (p := ⟨gb941, _, none⟩) NB959_941.out _).trans (((cell_far (p := ⟨gb941, _, none⟩) NB959_941.out _).trans (((cell_far (p := ⟨gb941, _, none⟩) NB959_941.out _).trans (hHeld.2.2.2.2.2))))))⟩ (fun hHeld => ?_)
      clear hK K
      refine one_ (i := 3) (N := none) #[bY,bY,bY,bY] rfl rfl (by kernel_rfl) (by decide) (fun K hK => ?_)
      have hs58 : w54.cell? ⟨gb942, 0, none⟩ = some (.int .i64 0) := (kC BK942.out 0).trans rfl
      have hfs58 := kF BK942.out 0
      have hns58_0 := NB941_942.out
      have hns58_2 := NB947_942.out
      have hns58_3 := NB953_942.out
      have hns58_4 := NB959_942.out
      have hms58_0 := NB942_941.out
      have hms58_2 := NB942_947.out
      have hms58_3 := NB942_953.out
      have hms58_4 := NB942_959.out
      have hs59 : w54.cell? ⟨gb942, 1, none⟩ = some (.int .i64 0) := (kC BK942.out 1).trans rfl
      have hfs59 := kF BK942.out 1
      have hns59_0 := NB941_942.out
      have hns59_2 := NB947_942.out
      have hns59_3 := NB953_942.out
      have hns59_4 := NB959_942.out
      have hms59_0 := NB942_941.out
      have hms59_2 := NB942_947.out
      have hms59_3 := NB942_953.out
      have hms59_4 := NB942_959.out
      have hs60 : w54.cell? ⟨gb942, 2, none⟩ = some (.int .i64 0) := (kC BK942.out 2).trans rfl
      have hfs60 := kF BK942.out 2
      have hns60_0 := NB941_942.out
      have hns60_2 := NB947_942.out
      have hns60_3 := NB953_942.out
      have hns60_4 := NB959_942.out
      have hms60_0 := NB942_941.out
      have hms60_2 := NB942_947.out
      have hms60_3 := NB942_953.out
      have hms60_4 := NB942_959.out
      refine skip_ (w1 := ?_) (by rfl) rfl ?_ ?_
      rotate_left
      ·go_simp
       rfl
      refine hK.out _ _ ⟨((cell_far (p := ⟨gb942, _, none⟩) NB953_942.out _).trans (((cell_far (p := ⟨gb942, _, none⟩) NB953_942.out _).trans (((cell_far (p := ⟨gb942, _, none⟩) NB953_942.out _).trans (hHeld.1)))))), ((cell_far (p := ⟨gb942, _, none⟩) NB953_942.out _).trans (((cell_far (p := ⟨gb942, _, none⟩) NB953_942.out _).trans (((cell_far (p := ⟨gb942, _, none⟩) NB953_942.out _).trans (hHeld.2.1)))))), ((cell_far (p := ⟨gb942, _, none⟩) NB953_942.out _).trans (((cell_far (p := ⟨gb942, _, none⟩) NB953_942.out _).trans (((cell_far (p := ⟨gb942, _, none⟩) NB953_942.out _).trans (hHeld.2.2.1)))))), ((cell_far (p := ⟨gb942, _, none⟩) NB959_942.out _).trans (((cell_far (p := ⟨gb942, _, none⟩) NB959_942.out _).trans (((cell_far (p := ⟨gb942, _, none⟩) NB959_942.out _).trans (hHeld.2.2.2.1)))))), ((cell_far (p := ⟨gb942, _, none⟩) NB959_942.out _).trans (((cell_far (p := ⟨gb942, _, none⟩) NB959_942.out _).trans (((cell_far (p := ⟨gb942, _, none⟩) NB959_942.out _).trans (hHeld.2.2.2.2.1)))))), ((cell_far (p := ⟨gb942, _, none⟩) NB959_942.out _).trans (((cell_far (p := ⟨gb942, _, none⟩) NB959_942.out _).trans (((cell_far (p := ⟨gb942, _, none⟩) NB959_942.out _).trans (hHeld.2.2.2.2.2))))))⟩ (fun hHeld => ?_)
      clear hK K
      refine done_ (by kernel_rfl) ?_
      try go_wp2
      refine bodyPost_ret (results_cc rfl _ _ gb941 gb942 32 32 #[.int .i64 x954000_1, .int .i64 x954001_1, .int .i64 x954002_1] #[.int .i64 x960000_1, .int .i64 x960001_1, .int .i64 x960002_1] (0, 0) (0, 0) _ _ rfl (by (with_reducible repeat (first | refine kDN ?_ _ | refine kD ?_ | refine kA ?_ _)); refine blk_far ?_ NB941_942.out _; (with_reducible repeat (first | refine kDN ?_ _ | refine kD ?_ | refine kA ?_ _)); refine blk_far ?_ NB941_942.out _; (with_reducible repeat (first | refine kDN ?_ _ | refine kD ?_ | refine kA ?_ _)); refine blk_far ?_ NB941_942.out _; (with_reducible repeat (first | refine kDN ?_ _ | refine kD ?_ | refine kA ?_ _)); refine blk_put (cs := #[.int .i64 x954000_1, .int .i64 x954001_1, .int .i64 0]) ?_ 2 _ rfl; (with_reducible repeat (first | refine kDN ?_ _ | refine kD ?_ | refine kA ?_ _)); refine blk_put (cs := #[.int .i64 x954000_1, .int .i64 0, .int .i64 0]) ?_ 1 _ rfl; (with_reducible repeat (first | refine kDN ?_ _ | refine kD ?_ | refine kA ?_ _)); refine blk_put (cs := #[.int .i64 0, .int .i64 0, .int .i64 0]) ?_ 0 _ rfl; (with_reducible repeat (first | refine kDN ?_ _ | refine kD ?_ | refine kA ?_ _)); exact BK941.out) Try.underlying32 rfl (by kernel_rfl) rfl (by (with_reducible repeat (first | refine kDN ?_ _ | refine kD ?_ | refine kA ?_ _)); refine blk_put (cs := #[.int .i64 x960000_1, .int .i64 x960001_1, .int .i64 0]) ?_ 2 _ rfl; (with_reducible repeat (first | refine kDN ?_ _ | refine kD ?_ | refine kA ?_ _)); refine blk_put (cs := #[.int .i64 x960000_1, .int .i64 0, .int .i64 0]) ?_ 1 _ rfl; (with_reducible repeat (first | refine kDN ?_ _ | refine kD ?_ | refine kA ?_ _)); refine blk_put (cs := #[.int .i64 0, .int .i64 0, .int .i64 0]) ?_ 0 _ rfl; (with_reducible repeat (first | refine kDN ?_ _ | refine kD ?_ | refine kA ?_ _)); refine blk_far ?_ NB942_941.out _; (with_reducible repeat (first | refine kDN ?_ _ | refine kD ?_ | refine kA ?_ _)); refine blk_far ?_ NB942_941.out _; (with_reducible repeat (first | refine kDN ?_ _ | refine kD ?_ | refine kA ?_ _)); refine blk_far ?_ NB942_941.out _; (with_reducible repeat (first | refine kDN ?_ _ | refine kD ?_ | refine kA ?_ _)); exact BK942.out) Try.underlying32 rfl (by kernel_rfl)) rfl ?_
      exact ⟨by first | rfl | (simp [errW_none, errW_some] <;> rfl) | (simp [*, errW_none, errW_some] <;> rfl), by repeat (first | (with_reducible first | exact HI0.out | apply IsS151.alloc | apply IsS151.drewN | apply IsS151.drew | apply IsS151.set_1 | apply IsS151.set_2 | refine IsS151.far ?_ NB0_941.out _ | refine IsS151.far ?_ NB0_942.out _ | refine IsS151.far ?_ NB0_947.out _ | refine IsS151.far ?_ NB0_953.out _ | refine IsS151.far ?_ NB0_959.out _) | exact HI0.out), by repeat (first | (with_reducible first | exact HB.out | apply bAl | apply bDN | apply bD1 | refine bSt ?_ (IsS151.ge HI0.out) | refine bSt ?_ GE941.out | refine bSt ?_ GE942.out | refine bSt ?_ GE947.out | refine bSt ?_ GE953.out | refine bSt ?_ GE959.out) | exact HB.out), by repeat (first | (with_reducible first | exact HK.out | apply KeepBut.set_ | apply keep_drewN | apply keep_drew | apply keep_alloc | refine keep_far ?_ GW941.out _ | refine keep_far ?_ GW942.out _ | refine keep_far ?_ GW947.out _ | refine keep_far ?_ GW953.out _ | refine keep_far ?_ GW959.out _) | exact HK.out)⟩
end Go.Proofs.Ytimejdhglmajdaa.F
end
