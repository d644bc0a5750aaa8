/- Packed by a program of the session (wip/tools/pack.py): what the claim's theorem reaches, of the texts that wip/ and the kit's printer lay. -/
import Derived.Test.YtimejdhglmajdaaPkFnExactCanFollow6
section
namespace Go.Proofs.Ytimejdhglmajdaa.F
open Go.RowKit Go.Proofs.YtimejdhglmajdaaW.PrintWords Go.Proofs.YtimejdhglmajdaaW.PrintLast Go.Proofs.YtimejdhglmajdaaW.PrintMore
set_option linter.unusedVariables false
set_option linter.unusedSimpArgs false
attribute [local go_sem] min2_int min_two
def adj (w h o c y : Int) : Prop := ∃ ds, impl_WaysFrom.f 1000 w h o c = some ds ∧ ∃ d ∈ ds, impl_Step.f 1000 w h o c d = some y
theorem l1_facts {w h o : Int} {S S2 : List Int} (H : impl_EarliestAt.l1 w h o S = some S2) : (∀ c ∈ S, ∃ ds, impl_WaysFrom.f 1000 w h o c = some ds ∧ ds.length ≤ 4 ∧ ∀ d ∈ ds, ∃ y, impl_Step.f 1000 w h o c d = some y ∧ 0 ≤ y ∧ y < 16) ∧
    ∀ y, y ∈ S2 ↔ y ∈ cells16 ∧ (y ∈ S ∨ ∃ c ∈ S, adj w h o c y) := by
  unfold impl_EarliestAt.l1 at H
  split at H
  · rename_i hall
    obtain rfl := Option.some.inj H
    have h1 : ∀ c ∈ S, ∃ ds, impl_WaysFrom.f 1000 w h o c = some ds ∧ ds.length ≤ 4 ∧ ∀ d ∈ ds, ∃ y, impl_Step.f 1000 w h o c d = some y ∧ 0 ≤ y ∧ y < 16 := fun c hc => by
      have := List.all_eq_true.1 hall c hc
      cases e : impl_WaysFrom.f 1000 w h o c with
      | none => rw [e] at this; simp at this
      | some ds =>
        rw [e] at this
        simp only [Bool.and_eq_true, decide_eq_true_eq, List.all_eq_true] at this
        refine ⟨ds, rfl, this.1, fun d hd => ?_⟩
        have h2 := this.2 d hd
        cases e2 : impl_Step.f 1000 w h o c d with
        | none => rw [e2] at h2; simp at h2
        | some y => rw [e2] at h2; exact ⟨y, rfl, by simpa using h2⟩
    refine ⟨h1, fun y => ?_⟩
    rw [List.mem_filter, Bool.or_eq_true, List.any_eq_true, List.contains_iff_mem]
    refine and_congr Iff.rfl (or_congr Iff.rfl ⟨fun ⟨c, hc, hq⟩ => ⟨c, hc, ?_⟩, fun ⟨c, hc, ds, e, d, hd, hs⟩ => ⟨c, hc, ?_⟩⟩)
    · cases e : impl_WaysFrom.f 1000 w h o c with
      | none => rw [e] at hq; simp at hq
      | some ds =>
        rw [e] at hq
        obtain ⟨d, hd, hs⟩ := List.any_eq_true.1 hq
        exact ⟨ds, e, d, hd, by simpa using hs⟩
    · rw [e]
      exact List.any_eq_true.2 ⟨d, hd, by simp [hs]⟩
  · cases H
theorem boolZero (w : World) : (zeroValue 4).run Try.prog w = .ok (.bool false) w := by kernel_rfl
theorem wf16 {y : Int} (h : 0 ≤ y ∧ y < 16) : (Lit.int .i64 y).wf = true := WalkArith.wf_i64 (by omega)
theorem mem16 {y : Int} : y ∈ cells16 ↔ 0 ≤ y ∧ y < 16 := by
  unfold cells16
  simp only [List.mem_cons, List.not_mem_nil, or_false]
  omega
set_option maxHeartbeats 4000000 in
set_option maxRecDepth 100000 in
theorem impl_EarliestAt.calls (a0_0 : Int) (a0_1 : Int) (a0_2 : Int) (a0_3 : Int) (A0_4 : Option Addr) (c0_4 : Nat) (l0_4 : List SGate) (a1 : Int) (a2 : Int) (a3 : Int) (r : Int) (w : World) (hr0_4 : Kd.C k137 w A0_4 l0_4.length l0_4) (hc0_4 : l0_4.length ≤ c0_4) (h : impl_EarliestAt.f a0_0 a0_1 a0_2 a0_3 l0_4 a1 a2 a3 = some r) :
  Calls Try.prog 87 #[.agg #[.int .i64 a0_0, .int .i64 a0_1, .int .i64 a0_2, .int .i64 a0_3, .slice A0_4 l0_4.length c0_4], .int .i64 a1, .int .i64 a2, .int .i64 a3] w fun e w' => e = .returned (.int .i64 r) ∧ Below w.heap.size w w' := by
 have hu := Try.underlying32
 have hut := Try.underlying58
 have hmm := @run_makeMap Try.prog
 have HR1 := Aside0.mk hr0_4
 have HC1 := Aside0.mk hc0_4
 clear hr0_4 hc0_4
 obtain ⟨b, hm, H⟩ := Option.bind_eq_some_iff.mp h
 clear h
 obtain ⟨w0, hw0⟩ : ∃ w0 : World, w0 = w.alloc (.cells #[.int .i64 a0_0, .int .i64 a0_1, .int .i64 a0_2, .int .i64 a0_3, .slice A0_4 l0_4.length c0_4] 58) := ⟨_, rfl⟩
 have HB0 := Aside0.mk (show Below w.heap.size w w0 by rw [hw0]; exact (Below.refl _ w).alloc (Nat.le_refl _) _)
 have K0 := Aside0.mk (show w0.heap[w.heap.size]? = some (.cells #[.int .i64 a0_0, .int .i64 a0_1, .int .i64 a0_2, .int .i64 a0_3, .slice A0_4 l0_4.length c0_4] 58 (0, 0)) by rw [hw0]; exact heap_alloc_new w _)
 have SZ := Aside0.mk (show w0.heap.size = w.heap.size + 1 by rw [hw0]; simp)
 have HW := Aside0.mk hw0
 clear hw0
 have HT := fun (W : World) (hb : Below w.heap.size w W) => impl_TimedOk.calls 1000 a0_0 a0_1 a0_2 a0_3 A0_4 c0_4 l0_4 b W (Kd.C_below HR1.out hb) HC1.out hm
 have HCL := Aside0.mk (show ∀ W : World, W.heap[w.heap.size]? = some (.cells #[.int .i64 a0_0, .int .i64 a0_1, .int .i64 a0_2, .int .i64 a0_3, .slice A0_4 l0_4.length c0_4] 58 (0, 0)) → W.cell? ⟨w.heap.size, 0, none⟩ = some (.int .i64 a0_0) ∧ W.cell? ⟨w.heap.size, 1, none⟩ = some (.int .i64 a0_1) ∧ W.cell? ⟨w.heap.size, 2, none⟩ = some (.int .i64 a0_2) ∧ W.cell? ⟨w.heap.size, 3, none⟩ = some (.int .i64 a0_3) ∧ W.cell? ⟨w.heap.size, 4, none⟩ = some (.slice A0_4 l0_4.length c0_4) from fun W hb =>
  ⟨(blk_cell hb 0).trans rfl, (blk_cell hb 1).trans rfl, (blk_cell hb 2).trans rfl, (blk_cell hb 3).trans rfl, (blk_cell hb 4).trans rfl⟩)
 cases b with
 | false =>
  rw [if_neg Bool.false_ne_true] at H
  obtain rfl := Option.some.inj H
  go_enter Try.func87, Try.ntmps87
  go_wp2_with (go_at_call 139; rw [← HW.out]; refine (HT _ HB0.out).mono ?_; rintro e w1 ⟨rfl, hb⟩; have HB1 := Aside0.mk hb; clear hb)
  go_ret
  exact ⟨rfl, HB0.out.trans (HB1.out.mono HB0.out.size)⟩
 | true =>
  rw [if_pos rfl] at H
  obtain ⟨c, hs, H2⟩ := Option.bind_eq_some_iff.mp H
  clear H
  have HI := fun (W : World) (A : Addr) (hA : W.cell? (A.add 0) = some (.int .i64 a1)) (hA1 : W.cell? (A.add 1) = some (.int .i64 a3)) => impl_isIn.calls a0_0 a0_1 a0_2 (some A) 2 [a1, a3] c W (Kd.C_of_reads (d := (0 : Int)) (h1 := fun _ => rfl) ⟨rfl, by simp, fun _ => ⟨A, rfl, fun j hj => by
   have hj' : j < 2 := hj
   obtain rfl | rfl : j = 0 ∨ j = 1 := by omega
   ·exact hA
   ·exact hA1⟩⟩) (Nat.le_refl 2) hs
  simp only [List.length_cons, List.length_nil] at HI
  have HIN := Aside0.mk HI
  clear HI
  cases c with
  | false =>
   rw [if_neg Bool.false_ne_true] at H2
   obtain rfl := Option.some.inj H2
   go_enter Try.func87, Try.ntmps87
   go_wp2_with (first | (go_at_call 139; rw [← HW.out]; refine (HT _ HB0.out).mono ?_; rintro e w1 ⟨rfl, hb⟩; have HB1 := Aside0.mk (HB0.out.trans (hb.mono HB0.out.size)); obtain ⟨k0, k1, k2, k3, k4⟩ := HCL.out w1 ((hb.block _ (by have := SZ.out; omega)).trans K0.out); clear hb) | (go_at_call 66; refine (HIN.out _ _ ?h0 ?h1).mono ?_; (case h0 => exact (blk_cell (heap_alloc_new _ _) 0).trans rfl); (case h1 => exact (blk_cell (heap_alloc_new _ _) 1).trans rfl); rintro e w2 ⟨rfl, hb⟩; have HB2 := Aside0.mk hb; clear hb))
   go_ret
   exact ⟨rfl, (HB1.out.alloc HB1.out.size _).trans (HB2.out.mono (by have := HB1.out.size; simp; omega))⟩
  | true =>
   rw [if_pos rfl] at H2
   by_cases q1 : a2 < 0
   ·rw [if_pos q1] at H2
    obtain rfl := Option.some.inj H2
    have q1b : decide (a2 < 0) = true := decide_eq_true q1
    clear q1
    go_enter Try.func87, Try.ntmps87
    go_wp2_with (first | (go_at_call 139; rw [← HW.out]; refine (HT _ HB0.out).mono ?_; rintro e w1 ⟨rfl, hb⟩; have HB1 := Aside0.mk (HB0.out.trans (hb.mono HB0.out.size)); obtain ⟨k0, k1, k2, k3, k4⟩ := HCL.out w1 ((hb.block _ (by have := SZ.out; omega)).trans K0.out); clear hb) | (go_at_call 66; refine (HIN.out _ _ ?h0 ?h1).mono ?_; (case h0 => exact (blk_cell (heap_alloc_new _ _) 0).trans rfl); (case h1 => exact (blk_cell (heap_alloc_new _ _) 1).trans rfl); rintro e w2 ⟨rfl, hb⟩; have HB2 := Aside0.mk hb; clear hb))
    go_ret
    exact ⟨rfl, (HB1.out.alloc HB1.out.size _).trans (HB2.out.mono (by have := HB1.out.size; simp; omega))⟩
   ·rw [if_neg q1] at H2
    have q1b : decide (a2 < 0) = false := decide_eq_false q1
    by_cases q2 : a2 > 500
    ·rw [if_pos q2] at H2
     obtain rfl := Option.some.inj H2
     have q2b : decide (a2 > 500) = true := decide_eq_true q2
     clear q1 q2
     go_enter Try.func87, Try.ntmps87
     go_wp2_with (first | (go_at_call 139; rw [← HW.out]; refine (HT _ HB0.out).mono ?_; rintro e w1 ⟨rfl, hb⟩; have HB1 := Aside0.mk (HB0.out.trans (hb.mono HB0.out.size)); obtain ⟨k0, k1, k2, k3, k4⟩ := HCL.out w1 ((hb.block _ (by have := SZ.out; omega)).trans K0.out); clear hb) | (go_at_call 66; refine (HIN.out _ _ ?h0 ?h1).mono ?_; (case h0 => exact (blk_cell (heap_alloc_new _ _) 0).trans rfl); (case h1 => exact (blk_cell (heap_alloc_new _ _) 1).trans rfl); rintro e w2 ⟨rfl, hb⟩; have HB2 := Aside0.mk hb; clear hb))
     go_ret
     exact ⟨rfl, (HB1.out.alloc HB1.out.size _).trans (HB2.out.mono (by have := HB1.out.size; simp; omega))⟩
    ·rw [if_neg q2] at H2
     have q2b : decide (a2 > 500) = false := decide_eq_false q2
     by_cases q3 : (0 ≤ a1 ∧ a1 < 16) ∧ 0 ≤ a3 ∧ a3 < 16
     ·rw [if_pos q3] at H2
      have H' := Aside0.mk H2
      have Q3 := Aside0.mk q3
      have Q12 := Aside0.mk (And.intro q1 q2)
      clear H2 q1 q2 q3
      go_enter Try.func87, Try.ntmps87
      go_wp2_with (first | (go_at_call 139; rw [← HW.out]; refine (HT _ HB0.out).mono ?_; rintro e w1 ⟨rfl, hb⟩; have HB1 := Aside0.mk (HB0.out.trans (hb.mono HB0.out.size)); have K1 := Aside0.mk ((hb.block _ (by have := SZ.out; omega)).trans K0.out); obtain ⟨k0, k1, k2, k3, k4⟩ := HCL.out w1 K1.out; have SZ1 := Aside0.mk hb.size; clear hb) | (go_at_call 66; refine (HIN.out _ _ ?h0 ?h1).mono ?_; (case h0 => exact (blk_cell (heap_alloc_new _ _) 0).trans rfl); (case h1 => exact (blk_cell (heap_alloc_new _ _) 1).trans rfl); rintro e w2 ⟨rfl, hb⟩; have HB2 := Aside0.mk ((HB1.out.alloc HB1.out.size _).trans (hb.mono (by have := HB1.out.size; simp; omega))); have K2 := Aside0.mk ((hb.block _ (by have h1 := SZ.out; have h2 := SZ1.out; simp; omega)).trans (blk_alloc K1.out _)); have SZ2 := Aside0.mk (show w.heap.size + 1 ≤ w2.heap.size by have h1 := hb.size; have h2 := SZ.out; have h3 := SZ1.out; simp at h1; omega); clear hb) | (refine wp_set_ins _ rfl _ _ _ 140 rfl 3 4 Try.underlying3 Try.underlying4 Try.underlying140 w2.heap.size 0 (fun _ => False) rfl (set_made _ _ _ w2) (by decide) a1 rfl rfl (wf16 Q3.out.1) ?_; intro w3 hs3 hg3; have HS3 := Aside0.mk hs3; have HG3 := Aside0.mk hg3; clear hs3 hg3))
      have HS := Aside0.mk ((HS3.out.same (S' := fun x => x ∈ [a1]) (fun x => by simp)).mono (show 0 + 1 ≤ 16 by decide))
      have HM := Aside0.mk (show ∀ x ∈ [a1], x ∈ cells16 from fun x hx => by rw [List.mem_singleton] at hx; subst hx; exact mem16.2 Q3.out.1)
      have KT := Aside0.mk ((HG3.out.block _ (by have := SZ2.out; simp; omega) (fun e => by have h1 := Option.some.inj e; have h2 := SZ2.out; omega)).trans (blk_alloc K2.out _))
      have HB := Aside0.mk ((HB2.out.alloc HB2.out.size (.map #[] 0)).grown HG3.out (by have := SZ2.out; simp; omega) (fun j hj => by cases hj; have := SZ2.out; omega))
      have LO := Aside0.mk (show w.heap.size + 1 ≤ w2.heap.size from SZ2.out)
      clear HS3 HG3 HB2 K2 SZ2 HB1 K1 k0 k1 k2 k3 k4 SZ1 HB0 K0 SZ HW HT HIN hm hs q1b q2b
      go_loopg [9, 10] 300 (fun kq v9 v10 wr => ∃ (S : List Int) (now : Int) (bb : Nat), v9 = .map (some bb) ∧ v10 = .int .i64 now ∧ Aside0 (impl_EarliestAt.l0 a0_0 a0_1 a0_2 a0_3 l0_4 a2 a3 kq S now = some r) ∧ Aside0 (kq ≤ 300) ∧ Aside0 (SetAt Try.prog 3 4 wr bb 16 (fun x => x ∈ S)) ∧ Aside0 (∀ x ∈ S, x ∈ cells16) ∧ Aside0 (wr.heap[w.heap.size]? = some (.cells #[.int .i64 a0_0, .int .i64 a0_1, .int .i64 a0_2, .int .i64 a0_3, .slice A0_4 l0_4.length c0_4] 58 (0, 0))) ∧ Aside0 (w.heap.size + 1 ≤ bb) ∧ Aside0 (Below w.heap.size w wr))
      case atStart => exact ⟨[a1], a2, w2.heap.size, rfl, rfl, H', ⟨Nat.le_refl _⟩, HS, HM, KT, LO, HB⟩
      case round =>
       clear H' HS HM KT LO HB
       obtain ⟨S, now, bb, rfl, rfl, HA, HK, HS, HM, KT, LO, HB⟩ := hrel
       cases gk with
       | zero => exact absurd HA.out (by simp [impl_EarliestAt.l0])
       | succ k1 =>
        have H := HA.out
        clear HA
        simp only [impl_EarliestAt.l0] at H
        by_cases c1 : now ≤ wrap64 (a2 + 200)
        ·rw [if_pos c1] at H
         have c1b : decide (now ≤ wrap64 (a2 + 200)) = true := decide_eq_true c1
         clear c1
         by_cases c2 : S.contains a3 = true
         ·rw [if_pos c2] at H
          obtain rfl := Option.some.inj H
          have C2 := Aside0.mk c2
          clear c2
          go_wp2_with (refine wp_set_look _ rfl _ _ 140 rfl 3 4 Try.underlying3 Try.underlying4 Try.underlying140 (boolZero _) bb 16 _ rfl HS.out a3 rfl (wf16 Q3.out.2) true (by have := C2.out; simpa using this) ?_)
          go_ret
          exact ⟨rfl, HB.out⟩
         ·rw [if_neg c2] at H
          have C2 := Aside0.mk c2
          clear c2
          obtain ⟨⟨r1, r2, r3, r4⟩, hmz, H3⟩ := Option.bind_eq_some_iff.mp H
          obtain ⟨S2, hl1, H4⟩ := Option.bind_eq_some_iff.mp H3
          simp only at hl1
          have H' := Aside0.mk H4
          have HL1 := Aside0.mk hl1
          clear H H3 H4 hl1
          have HMZ := fun (W : World) (hb : Below w.heap.size w W) => impl_MazeAtTime.calls 1000 a0_0 a0_1 a0_2 a0_3 A0_4 c0_4 l0_4 now r1 r2 r3 r4 W (Kd.C_below HR1.out hb) HC1.out hmz
          clear hmz
          obtain ⟨k0, k1_, k2, k3, k4⟩ := HCL.out _ KT.out
          have hsz := fun (W : World) (o : Obj) => (show (W.alloc o).heap.size = W.heap.size + 1 by simp)
          have HSZ := Aside0.mk hsz
          clear hsz
          go_wp2_with (first | (refine wp_set_look _ rfl _ _ 140 rfl 3 4 Try.underlying3 Try.underlying4 Try.underlying140 (boolZero _) bb 16 _ rfl HS.out a3 rfl (wf16 Q3.out.2) false (by have := C2.out; simpa using this) ?_) | (go_at_call 140; refine (HMZ _ HB.out).mono ?_; rintro e w4 ⟨rfl, hb⟩; have HS4 := Aside0.mk (HS.out.kept (below_grown hb) (by simp)); have KT4 := Aside0.mk ((hb.block _ (blk_lt KT.out)).trans KT.out); have HB4 := Aside0.mk (HB.out.trans (hb.mono HB.out.size)); have LT4 := Aside0.mk (show bb < w4.heap.size from HS4.out.lt); clear hb) | (at_range; refine wp_set_range _ rfl _ 140 rfl 3 4 Try.underlying3 Try.underlying140 bb 16 _ rfl ((HS4.out.kept (World.grownBy_alloc _ _ none) (by simp)).kept (World.grownBy_alloc _ _ none) (by simp)) ?_; intro w5 cnt hcnt hrg hg5 hs5))
          go_frame
          have hsz := HSZ.out
          simp only [hsz] at hrg hs5 ⊢
          clear hsz
          have RG0 := Aside0.mk hrg
          have CN0 := Aside0.mk hcnt
          have NX0 := Aside0.mk ((((set_made Try.prog 3 4 (w4.alloc (Obj.cells #[.int .i64 r1, .int .i64 r2, .int .i64 r3] 32))).kept hg5 (by simp)).same (S' := fun y => ∃ c ∈ S, ¬ (c ∈ S) ∧ (y = c ∨ adj r1 r2 r3 c y)) (fun y => ⟨fun h => h.elim, fun ⟨c, h1, h2, _⟩ => h2 h1⟩)))
          have KM0 := Aside0.mk ((hg5.block w4.heap.size (by simp; omega) (by simp)).trans (blk_alloc (heap_alloc_new w4 _) _))
          have KT0 := Aside0.mk ((hg5.block w.heap.size (by have := blk_lt KT4.out; simp; omega) (by simp)).trans (blk_alloc (blk_alloc KT4.out _) _))
          have HB5 := Aside0.mk (((HB4.out.alloc HB4.out.size _).alloc (by have := HB4.out.size; simp; omega) _).grown hg5 (by have := HB4.out.size; simp; omega) (fun j hj => by cases hj))
          have SZ5 := Aside0.mk (show w4.heap.size + 3 ≤ w5.heap.size by omega)
          have e4 : (w4.alloc (Obj.cells #[.int .i64 r1, .int .i64 r2, .int .i64 r3] 32)).heap.size = w4.heap.size + 1 := by simp
          rw [e4] at NX0
          have LTW := Aside0.mk (show w.heap.size < w4.heap.size from blk_lt KT4.out)
          clear hrg hcnt hg5 hs5 e4 k0 k1_ k2 k3 k4 HS4 HB4 KT4 HS KT HB
          go_loopw [14] (fun _ wr => ∃ (left : Int → Prop) (cn n2 : Nat), Aside0 (RangeAt Try.prog 3 4 wr bb (w4.heap.size + 1 + 1) 16 (fun x => x ∈ S) left cn) ∧ Aside0 (cn ≤ 16) ∧ Aside0 (∀ x, left x → x ∈ S) ∧ Aside0 (SetAt Try.prog 3 4 wr (w4.heap.size + 1) n2 (fun y => ∃ c ∈ S, ¬ left c ∧ (y = c ∨ adj r1 r2 r3 c y))) ∧ Aside0 (n2 + 5 * cn ≤ 80) ∧ Aside0 (wr.heap[w4.heap.size]? = some (.cells #[.int .i64 r1, .int .i64 r2, .int .i64 r3] 32 (0, 0))) ∧ Aside0 (wr.heap[w.heap.size]? = some (.cells #[.int .i64 a0_0, .int .i64 a0_1, .int .i64 a0_2, .int .i64 a0_3, .slice A0_4 l0_4.length c0_4] 58 (0, 0))) ∧ Aside0 (Below w.heap.size w wr) ∧ Aside0 (w4.heap.size + 3 ≤ wr.heap.size)) (fun _ wr => wr.rangeLeft bb (w4.heap.size + 1 + 1))
          case atStart => exact ⟨fun x => x ∈ S, cnt, 0, RG0, CN0, ⟨fun x h => h⟩, NX0, ⟨by have := CN0.out; omega⟩, KM0, KT0, HB5, SZ5⟩
          case round =>
           clear RG0 CN0 NX0 KM0 KT0 HB5 SZ5
           obtain ⟨left, cn, n2, RG, CN, LS, NX, N2, KM, KT, HB, SZ⟩ := hrel
           go_wp2_with (at_next; refine wp_set_next _ rfl _ rfl 3 4 Try.underlying3 Try.underlying4 bb (w4.heap.size + 1 + 1) 16 _ _ _ rfl RG.out LS.out ?_ ?_)
           ·intro hc0 hl0
            have HL0 := Aside0.mk hl0
            clear hl0 hc0
            go_wp2
            go_roundg k1
            case measure => have := HK.out; omega
            case rel =>
             have hf := (l1_facts HL1.out).2
             refine ⟨S2, wrap64 (now + 1), w4.heap.size + 1, rfl, by first | rfl | simp, H', ⟨by have := HK.out; omega⟩, ⟨?_⟩, ⟨fun x hx => ((hf x).1 hx).1⟩, KT, ⟨by have h1 := LO.out; have h2 := LT4.out; omega⟩, HB⟩
             have hst : SetAt Try.prog 3 4 wr (w4.heap.size + 1) n2 (fun x => x ∈ S2) := NX.out.same (fun y => ?_)
             ·exact SetAt.tight Try.underlying3 hst cells16 (fun x hx => ((hf x).1 hx).1)
             ·rw [hf y]
              constructor
              ·rintro ⟨c, hc, _, rfl | ha⟩
               ·exact ⟨HM.out _ hc, Or.inl hc⟩
               ·obtain ⟨ds, e1, d, hd, e2⟩ := ha
                obtain ⟨ds', e1', _, h3⟩ := (l1_facts HL1.out).1 c hc
                obtain rfl := Option.some.inj (e1.symm.trans e1')
                obtain ⟨y', e2', h4⟩ := h3 d hd
                obtain rfl := Option.some.inj (e2.symm.trans e2')
                exact ⟨mem16.2 h4, Or.inr ⟨c, hc, _, e1, d, hd, e2⟩⟩
              ·rintro ⟨_, hy | ⟨c, hc, ha⟩⟩
               ·exact ⟨y, hy, HL0.out y, Or.inl rfl⟩
               ·exact ⟨c, hc, HL0.out c, Or.inr ha⟩
           ·intro x w6 cnt6 hwx hlx hrg6 hlt6 hg6 hs6 hen
            have hx := LS.out x hlx
            obtain ⟨ds, hds, hdl, hdst⟩ := (l1_facts HL1.out).1 x hx
            have RG6 := Aside0.mk hrg6
            have LT6 := Aside0.mk hlt6
            have NX6 := Aside0.mk (NX.out.kept hg6 (fun e => by have := Option.some.inj e; omega))
            have KM6 := Aside0.mk ((hg6.block _ (blk_lt KM.out) (fun e => by have := Option.some.inj e; omega)).trans KM.out)
            have KT6 := Aside0.mk ((hg6.block _ (blk_lt KT.out) (fun e => by have h1 := Option.some.inj e; have h2 := LTW.out; omega)).trans KT.out)
            have HB6 := Aside0.mk (HB.out.grown hg6 HB.out.size (fun j hj => by cases hj; have := LTW.out; omega))
            have SZ6 := Aside0.mk (show w4.heap.size + 3 ≤ w6.heap.size by rw [hs6]; exact SZ.out)
            have HX := Aside0.mk hx
            have HLX := Aside0.mk hlx
            have HWX := Aside0.mk hwx
            have HDL := Aside0.mk hdl
            have HDST := Aside0.mk hdst
            clear hrg6 hlt6 hg6 hs6 hx hlx hwx hdl hdst
            have STEPS : ∀ y, (∃ c ∈ S, ¬ (left c ∧ c ≠ x) ∧ (y = c ∨ adj r1 r2 r3 c y)) ↔ ((∃ c ∈ S, ¬ left c ∧ (y = c ∨ adj r1 r2 r3 c y)) ∨ y = x) ∨ ∃ i, i < ds.length ∧ impl_Step.f 1000 r1 r2 r3 x (ds.getD i 0) = some y := by
             intro y
             constructor
             ·rintro ⟨c, hc, hn, hy⟩
              by_cases e : c = x
              ·subst e
               rcases hy with rfl | ⟨ds', e1, d, hd, e2⟩
               ·exact Or.inl (Or.inr rfl)
               ·obtain rfl := Option.some.inj (e1.symm.trans hds)
                obtain ⟨q, hq, rfl⟩ := List.getElem_of_mem hd
                exact Or.inr ⟨q, hq, by rw [List.getD_eq_getElem?_getD, List.getElem?_eq_getElem hq]; exact e2⟩
              ·exact Or.inl (Or.inl ⟨c, hc, fun h => hn ⟨h, e⟩, hy⟩)
             ·rintro ((⟨c, hc, hn, hy⟩ | rfl) | ⟨q, hq, e2⟩)
              ·exact ⟨c, hc, fun h => hn h.1, hy⟩
              ·exact ⟨y, HX.out, fun h => h.2 rfl, Or.inl rfl⟩
              ·refine ⟨x, HX.out, fun h => h.2 rfl, Or.inr ⟨ds, hds, ds.getD q 0, ?_, e2⟩⟩
               rw [List.getD_eq_getElem?_getD, List.getElem?_eq_getElem hq]
               exact List.getElem_mem hq
            have HST := Aside0.mk STEPS
            clear STEPS
            by_cases hd0 : 0 < ds.length
            ·have HD0 := Aside0.mk hd0
             clear hd0
             go_wp2_with (first | (refine wp_set_put _ rfl _ _ _ 140 rfl 3 4 Try.underlying3 Try.underlying4 Try.underlying140 (w4.heap.size + 1) n2 _ rfl NX6.out (by have := N2.out; unfold maxLen; omega) x rfl rfl HWX.out ?_; intro w7 hs7 hg7; have NX7 := Aside0.mk hs7; have RG7 := Aside0.mk (RG6.out.kept hg7 (fun e => by have h1 := Option.some.inj e; have h2 := LT4.out; omega) (fun e => by have := Option.some.inj e; omega)); have KM7 := Aside0.mk ((hg7.block _ (blk_lt KM6.out) (fun e => by have := Option.some.inj e; omega)).trans KM6.out); have KT7 := Aside0.mk ((hg7.block _ (blk_lt KT6.out) (fun e => by have h1 := Option.some.inj e; have h2 := LTW.out; omega)).trans KT6.out); have HB7 := Aside0.mk (HB6.out.grown hg7 HB6.out.size (fun j hj => by cases hj; have := LTW.out; omega)); have SZ7 := Aside0.mk (Nat.le_trans SZ6.out hg7.size); have m0 : w7.cell? ⟨w4.heap.size, 0, none⟩ = some (.int .i64 r1) := (blk_cell KM7.out 0).trans rfl; have m1 : w7.cell? ⟨w4.heap.size, 1, none⟩ = some (.int .i64 r2) := (blk_cell KM7.out 1).trans rfl; have m2 : w7.cell? ⟨w4.heap.size, 2, none⟩ = some (.int .i64 r3) := (blk_cell KM7.out 2).trans rfl; clear hs7 hg7) | (go_at_call 141; refine (impl_WaysFrom.calls 1000 r1 r2 r3 x ds _ hds).mono ?_; rintro e w8 ⟨v, rfl, hR, hb8⟩; have NX8 := Aside0.mk (NX7.out.kept (below_grown hb8) (by simp)); have RG8 := Aside0.mk (RG7.out.kept (below_grown hb8) (by simp) (by simp)); have KM8 := Aside0.mk ((hb8.block _ (blk_lt KM7.out)).trans KM7.out); have KT8 := Aside0.mk ((hb8.block _ (blk_lt KT7.out)).trans KT7.out); have HB8 := Aside0.mk (HB7.out.trans (hb8.mono HB7.out.size)); have SZ8 := Aside0.mk (Nat.le_trans SZ7.out hb8.size); have SW8 := Aside0.mk SZ7.out; have HR8 := Aside0.mk hR; clear hR hb8; obtain ⟨g, cap, cur, rfl, hcap, hg0, hgh, hcl, hcm, hcx⟩ := row_open HR8.out HD0.out; have HG0 := Aside0.mk (Nat.le_trans SW8.out hg0); have HGH := Aside0.mk hgh; have HCX := Aside0.mk hcx; clear hcap hg0 hgh hcl hcm hcx))
             have NX9 := Aside0.mk (NX8.out.same (S' := fun y => (((∃ c ∈ S, ¬ left c ∧ (y = c ∨ adj r1 r2 r3 c y)) ∨ y = x) ∨ ∃ i, i < 0 ∧ impl_Step.f 1000 r1 r2 r3 x (ds.getD i 0) = some y)) (fun y => ⟨fun h => Or.inl h, fun h => h.elim id (fun ⟨i, hi, _⟩ => absurd hi (Nat.not_lt_zero _))⟩))
             clear m0 m1 m2 hen
             go_loopg [70] ds.length (fun gg v70 wq => ∃ (q n3 : Nat), v70 = .int .i64 q ∧ q ≤ ds.length ∧ ds.length - q ≤ gg ∧ Aside0 (SetAt Try.prog 3 4 wq (w4.heap.size + 1) n3 (fun y => (((∃ c ∈ S, ¬ left c ∧ (y = c ∨ adj r1 r2 r3 c y)) ∨ y = x) ∨ ∃ i, i < q ∧ impl_Step.f 1000 r1 r2 r3 x (ds.getD i 0) = some y))) ∧ Aside0 (n3 = n2 + 1 + q) ∧ Aside0 (RangeAt Try.prog 3 4 wq bb (w4.heap.size + 1 + 1) 16 (fun x => x ∈ S) (fun y => left y ∧ y ≠ x) cnt6) ∧ Aside0 (wq.heap[w4.heap.size]? = some (.cells #[.int .i64 r1, .int .i64 r2, .int .i64 r3] 32 (0, 0))) ∧ Aside0 (wq.heap[w.heap.size]? = some (.cells #[.int .i64 a0_0, .int .i64 a0_1, .int .i64 a0_2, .int .i64 a0_3, .slice A0_4 l0_4.length c0_4] 58 (0, 0))) ∧ Aside0 (Below w.heap.size w wq) ∧ Aside0 (w4.heap.size + 3 ≤ wq.heap.size) ∧ Aside0 (wq.heap[g]? = some (.cells cur.toArray 3 (0, 0))))
             case atStart => exact ⟨0, n2 + 1, rfl, Nat.zero_le _, by omega, NX9, ⟨rfl⟩, RG8, KM8, KT8, HB8, SZ8, HGH⟩
             case round =>
              clear NX9 NX8 RG8 KM8 KT8 HB8 SZ8 HGH NX7 RG7 KM7 KT7 HB7 SZ7
              obtain ⟨q, n3, rfl, hq, hgg, NX, N3, RG2, KM2, KT2, HB2, SZ2, HG2⟩ := hrel
              by_cases hlt : q < ds.length
              ·have hltz : (q : Int) < (ds.length : Int) := by omega
               have hqz : (0 : Int) ≤ (q : Int) := by omega
               have cq : wr.cell? ⟨g, q, none⟩ = some (.int .i64 (ds.getD q 0)) := ((blk_cell HG2.out q).trans (by simp)).trans (HCX.out q hlt)
               have m0 : wr.cell? ⟨w4.heap.size, 0, none⟩ = some (.int .i64 r1) := (blk_cell KM2.out 0).trans rfl
               have m1 : wr.cell? ⟨w4.heap.size, 1, none⟩ = some (.int .i64 r2) := (blk_cell KM2.out 1).trans rfl
               have m2 : wr.cell? ⟨w4.heap.size, 2, none⟩ = some (.int .i64 r3) := (blk_cell KM2.out 2).trans rfl
               obtain ⟨y, hy, hy1⟩ := HDST.out (ds.getD q 0) (by rw [List.getD_eq_getElem?_getD, List.getElem?_eq_getElem hlt]; exact List.getElem_mem hlt)
               have HY1 := Aside0.mk hy1
               clear hy1
               have HYQ := Aside0.mk hy
               generalize ds.getD q 0 = dq at cq hy
               go_wp2_with (first | (go_at_call 71; refine (impl_Step.calls 1000 r1 r2 r3 x dq y _ hy).mono ?_; rintro e w9 ⟨rfl, hb9⟩; have NX3 := Aside0.mk (NX.out.kept (below_grown hb9) (by simp)); have RG3 := Aside0.mk (RG2.out.kept (below_grown hb9) (by simp) (by simp)); have KM3 := Aside0.mk ((hb9.block _ (blk_lt KM2.out)).trans KM2.out); have KT3 := Aside0.mk ((hb9.block _ (blk_lt KT2.out)).trans KT2.out); have HB3 := Aside0.mk (HB2.out.trans (hb9.mono HB2.out.size)); have SZ3 := Aside0.mk (Nat.le_trans SZ2.out hb9.size); have HG3 := Aside0.mk ((hb9.block _ (blk_lt HG2.out)).trans HG2.out); clear hb9) | (refine wp_set_put _ rfl _ _ _ 140 rfl 3 4 Try.underlying3 Try.underlying4 Try.underlying140 (w4.heap.size + 1) n3 _ rfl NX3.out (by have h1 := N2.out; have h2 := N3.out; have h3 := HDL.out; unfold maxLen; omega) y rfl rfl (wf16 HY1.out) ?_; intro w10 hs10 hg10; have NX4 := Aside0.mk hs10; have RG4 := Aside0.mk (RG3.out.kept hg10 (fun e => by have h1 := Option.some.inj e; have h2 := LT4.out; omega) (fun e => by have := Option.some.inj e; omega)); have KM4 := Aside0.mk ((hg10.block _ (blk_lt KM3.out) (fun e => by have := Option.some.inj e; omega)).trans KM3.out); have KT4 := Aside0.mk ((hg10.block _ (blk_lt KT3.out) (fun e => by have h1 := Option.some.inj e; have h2 := LTW.out; omega)).trans KT3.out); have HB4 := Aside0.mk (HB3.out.grown hg10 HB3.out.size (fun j hj => by cases hj; have := LTW.out; omega)); have SZ4 := Aside0.mk (Nat.le_trans SZ3.out hg10.size); have HG4 := Aside0.mk ((hg10.block _ (blk_lt HG3.out) (fun e => by have h1 := Option.some.inj e; have h2 := HG0.out; omega)).trans HG3.out); clear hs10 hg10))
               go_roundg (ds.length - (q + 1))
               case measure => omega
               case rel =>
                have hdl := HDL.out
                refine ⟨q + 1, n3 + 1, congrArg _ (by unfold wrap64; omega), by omega, by omega, ⟨NX4.out.same fun z => ?_⟩, ⟨by have := N3.out; omega⟩, RG4, KM4, KT4, HB4, SZ4, HG4⟩
                constructor
                ·rintro ((hz | ⟨i, hi, e⟩) | rfl)
                 ·exact Or.inl hz
                 ·exact Or.inr ⟨i, by omega, e⟩
                 ·exact Or.inr ⟨q, by omega, HYQ.out⟩
                ·rintro (hz | ⟨i, hi, e⟩)
                 ·exact Or.inl (Or.inl hz)
                 ·by_cases eq : i = q
                  ·subst eq
                   exact Or.inr (Option.some.inj (e.symm.trans HYQ.out))
                  ·exact Or.inl (Or.inr ⟨i, by omega, e⟩)
              ·have hltz : ¬ (q : Int) < (ds.length : Int) := by omega
               obtain rfl : q = ds.length := by omega
               go_wp2
               refine ⟨⟨fun y => left y ∧ y ≠ x, cnt6, n3, RG2, ⟨by have h1 := LT6.out; have h2 := CN.out; omega⟩, ⟨fun y hy => LS.out y hy.1⟩, ⟨NX.out.same fun y => (HST.out y).symm⟩, ⟨by have h1 := N3.out; have h2 := N2.out; have h3 := LT6.out; have h4 := HDL.out; omega⟩, KM2, KT2, HB2, SZ2⟩, ?_⟩
               rw [RG2.out.left_eq, RG.out.left_eq]
               exact LT6.out
            ·have hd1 : ds.length = 0 := by omega
             obtain rfl := List.eq_nil_of_length_eq_zero hd1
             clear hd0 hd1
             go_wp2_with (first | (refine wp_set_put _ rfl _ _ _ 140 rfl 3 4 Try.underlying3 Try.underlying4 Try.underlying140 (w4.heap.size + 1) n2 _ rfl NX6.out (by have := N2.out; unfold maxLen; omega) x rfl rfl HWX.out ?_; intro w7 hs7 hg7; have NX7 := Aside0.mk hs7; have RG7 := Aside0.mk (RG6.out.kept hg7 (fun e => by have h1 := Option.some.inj e; have h2 := LT4.out; omega) (fun e => by have := Option.some.inj e; omega)); have KM7 := Aside0.mk ((hg7.block _ (blk_lt KM6.out) (fun e => by have := Option.some.inj e; omega)).trans KM6.out); have KT7 := Aside0.mk ((hg7.block _ (blk_lt KT6.out) (fun e => by have h1 := Option.some.inj e; have h2 := LTW.out; omega)).trans KT6.out); have HB7 := Aside0.mk (HB6.out.grown hg7 HB6.out.size (fun j hj => by cases hj; have := LTW.out; omega)); have SZ7 := Aside0.mk (Nat.le_trans SZ6.out hg7.size); have m0 : w7.cell? ⟨w4.heap.size, 0, none⟩ = some (.int .i64 r1) := (blk_cell KM7.out 0).trans rfl; have m1 : w7.cell? ⟨w4.heap.size, 1, none⟩ = some (.int .i64 r2) := (blk_cell KM7.out 1).trans rfl; have m2 : w7.cell? ⟨w4.heap.size, 2, none⟩ = some (.int .i64 r3) := (blk_cell KM7.out 2).trans rfl; clear hs7 hg7) | (go_at_call 141; refine (impl_WaysFrom.calls 1000 r1 r2 r3 x [] _ hds).mono ?_; rintro e w8 ⟨v, rfl, hR, hb8⟩; have NX8 := Aside0.mk (NX7.out.kept (below_grown hb8) (by simp)); have RG8 := Aside0.mk (RG7.out.kept (below_grown hb8) (by simp) (by simp)); have KM8 := Aside0.mk ((hb8.block _ (blk_lt KM7.out)).trans KM7.out); have KT8 := Aside0.mk ((hb8.block _ (blk_lt KT7.out)).trans KT7.out); have HB8 := Aside0.mk (HB7.out.trans (hb8.mono HB7.out.size)); have SZ8 := Aside0.mk (Nat.le_trans SZ7.out hb8.size); have SW8 := Aside0.mk SZ7.out; have HR8 := Aside0.mk hR; clear hR hb8; obtain ⟨A8, c8, rfl⟩ := Kd.R_slice HR8.out))
             refine wp_loop_rounds 1 ?_
             rw [rounds_succ]
             clear m0 m1 m2 hen
             go_wp2
             refine ⟨⟨fun y => left y ∧ y ≠ x, cnt6, n2 + 1, RG8, ⟨by have h1 := LT6.out; have h2 := CN.out; omega⟩, ⟨fun y hy => LS.out y hy.1⟩, ⟨NX8.out.same fun y => ?_⟩, ⟨by have h2 := N2.out; have h3 := LT6.out; omega⟩, KM8, KT8, HB8, SZ8⟩, ?_⟩
             ·rw [HST.out y]
              exact ⟨fun h => Or.inl h, fun h => h.elim id (fun ⟨i, hi, _⟩ => absurd hi (Nat.not_lt_zero _))⟩
             ·rw [RG8.out.left_eq, RG.out.left_eq]
              exact LT6.out
        ·rw [if_neg c1] at H
         obtain rfl := Option.some.inj H
         have c1b : decide (now ≤ wrap64 (a2 + 200)) = false := decide_eq_false c1
         clear c1
         go_wp2
         go_ret
         exact ⟨rfl, HB.out⟩
     ·rw [if_neg q3] at H2; exact absurd H2 (by simp)
set_option maxHeartbeats 8000000 in
set_option maxRecDepth 100000 in
theorem impl_CanFollow.calls (a0_0 : Int) (a0_1 : Int) (a0_2 : Int) (a0_3 : Int) (A0_4 : Option Addr) (c0_4 : Nat) (l0_4 : List (SGate)) (a1_0 : Int) (a1_1 : Int) (a2_0 : Int) (a2_1 : Int) (r : Bool) (w : World) (hr0_4 : Kd.C k137 w A0_4 l0_4.length l0_4) (hc0_4 : l0_4.length ≤ c0_4) (h : impl_CanFollow.f a0_0 a0_1 a0_2 a0_3 l0_4 a1_0 a1_1 a2_0 a2_1 = some r) :
  Calls Try.prog 38 #[.agg #[.int .i64 a0_0, .int .i64 a0_1, .int .i64 a0_2, .int .i64 a0_3, .slice A0_4 l0_4.length c0_4], .agg #[.int .i64 a1_0, .int .i64 a1_1], .agg #[.int .i64 a2_0, .int .i64 a2_1]] w fun e w' => e = .returned (.bool r) ∧ Below w.heap.size w w' := by
 have hu58 := Try.underlying58
 have hu60 := Try.underlying60
 have HR0_4 := Aside0.mk hr0_4
 have HC0_4 := Aside0.mk hc0_4
 clear hr0_4 hc0_4
 have HB := Aside0.mk (Below.refl w.heap.size w)
 have H : ((impl_EarliestAt.f a0_0 a0_1 a0_2 a0_3 l0_4 a1_1 a1_0 a2_1).bind fun t659 => (if t659 ≥ 0 then (some (decide (t659 ≤ a2_0))) else (some false))) = some r := h
 clear h
 replace H := Option.bind_eq_some_iff.mp H
 obtain ⟨t659, A40, H⟩ := H
 replace H : (if t659 ≥ 0 then (some (decide (t659 ≤ a2_0))) else (some false)) = some r := H
 have A4 := Aside0.mk A40
 clear A40
 by_cases c5 : t659 ≥ 0
 ·rw [if_pos c5] at H
  have c5b0 : decide (0 ≤ t659) = true := decide_eq_true c5
  clear c5
  obtain rfl := Option.some.inj H
  go_enter Try.func38, Try.ntmps38
  go_wp2_with (first | ((with_reducible refine gate_dst (N := 3) rfl ?_); refine box_event ?hg (N := 3) ?hd (cs := #[.int .i64 a0_0, .int .i64 a0_1, .int .i64 a0_2, .int .i64 a0_3, .slice A0_4 l0_4.length c0_4]) (t := 58) ?hr ?_; (case hd => rfl); (case hg => rfl); (case hr => first | (go_simp; done) | (go_simp; rfl)); intro gb656 hg w6 hbox hb; have n0_ := Aside0.mk (below_step (by repeat (first | (with_reducible first | exact HB.out | apply below_alloc | apply pw_below_drewN | apply below_drew1) | exact HB.out)) hb); have n1_ := Aside0.mk (hbox); have n2_ := Aside0.mk ((by rw [hg]; exact (below_size (by repeat (first | (with_reducible first | exact HB.out | apply below_alloc | apply pw_below_drewN | apply below_drew1) | exact HB.out))) : w.heap.size ≤ gb656)); have n3_ := Aside0.mk ((by rw [hg]; exact (below_size (by repeat (first | (with_reducible first | exact HB.out | apply below_alloc | apply pw_below_drewN | apply below_drew1) | exact HB.out))) : w.heap.size ≤ gb656)); clear HB; have HB := n0_; have BK656 := n1_; have GW656 := n2_; have GE656 := n3_; clear n0_ n1_ n2_ n3_; clear hb hbox hg) | ((with_reducible refine gate_dst (N := 4) rfl ?_); refine box_event ?hg (N := 4) ?hd (cs := #[.int .i64 a1_0, .int .i64 a1_1]) (t := 60) ?hr ?_; (case hd => rfl); (case hg => rfl); (case hr => first | (go_simp; done) | (go_simp; rfl)); intro gb657 hg w7 hbox hb; have n0_ := Aside0.mk (blk_below (g := gb656) (o := .cells #[.int .i64 a0_0, .int .i64 a0_1, .int .i64 a0_2, .int .i64 a0_3, .slice A0_4 l0_4.length c0_4] 58 (0, 0)) (by (with_reducible repeat (first | refine blk_drewN ?_ _ | refine blk_drew ?_ | refine blk_alloc ?_ _)); exact BK656.out) hb); have n1_ := Aside0.mk (below_step (by repeat (first | (with_reducible first | exact HB.out | apply below_alloc | apply pw_below_drewN | apply below_drew1 | refine below_set ?_ GE656.out) | exact HB.out)) hb); have n2_ := Aside0.mk (hbox); have n3_ := Aside0.mk ((by rw [hg]; exact (below_size (by repeat (first | (with_reducible first | exact HB.out | apply below_alloc | apply pw_below_drewN | apply below_drew1 | refine below_set ?_ GE656.out) | exact HB.out))) : w.heap.size ≤ gb657)); have n4_ := Aside0.mk ((by rw [hg]; exact (below_size (by repeat (first | (with_reducible first | exact HB.out | apply below_alloc | apply pw_below_drewN | apply below_drew1 | refine below_set ?_ GE656.out) | exact HB.out))) : w.heap.size ≤ gb657)); have n5_ := Aside0.mk ((by rw [hg]; exact Nat.ne_of_lt (blk_lt (g := gb656) (o := .cells #[.int .i64 a0_0, .int .i64 a0_1, .int .i64 a0_2, .int .i64 a0_3, .slice A0_4 l0_4.length c0_4] 58 (0, 0)) (by (with_reducible repeat (first | refine blk_drewN ?_ _ | refine blk_drew ?_ | refine blk_alloc ?_ _)); exact BK656.out)) : gb656 ≠ gb657)); have n6_ := Aside0.mk ((by rw [hg]; exact Nat.ne_of_gt (blk_lt (g := gb656) (o := .cells #[.int .i64 a0_0, .int .i64 a0_1, .int .i64 a0_2, .int .i64 a0_3, .slice A0_4 l0_4.length c0_4] 58 (0, 0)) (by (with_reducible repeat (first | refine blk_drewN ?_ _ | refine blk_drew ?_ | refine blk_alloc ?_ _)); exact BK656.out)) : gb657 ≠ gb656)); clear BK656; clear HB; have BK656 := n0_; have HB := n1_; have BK657 := n2_; have GW657 := n3_; have GE657 := n4_; have NB656_657 := n5_; have NB657_656 := n6_; clear n0_ n1_ n2_ n3_ n4_ n5_ n6_; clear hb hbox hg) | ((with_reducible refine gate_dst (N := 5) rfl ?_); refine box_event ?hg (N := 5) ?hd (cs := #[.int .i64 a2_0, .int .i64 a2_1]) (t := 60) ?hr ?_; (case hd => rfl); (case hg => rfl); (case hr => first | (go_simp; done) | (go_simp; rfl)); intro gb658 hg w8 hbox hb; have n0_ := Aside0.mk (blk_below (g := gb656) (o := .cells #[.int .i64 a0_0, .int .i64 a0_1, .int .i64 a0_2, .int .i64 a0_3, .slice A0_4 l0_4.length c0_4] 58 (0, 0)) (by (with_reducible repeat (first | refine blk_drewN ?_ _ | refine blk_drew ?_ | refine blk_alloc ?_ _)); exact BK656.out) hb); have n1_ := Aside0.mk (blk_below (g := gb657) (o := .cells #[.int .i64 a1_0, .int .i64 a1_1] 60 (0, 0)) (by (with_reducible repeat (first | refine blk_drewN ?_ _ | refine blk_drew ?_ | refine blk_alloc ?_ _)); exact BK657.out) hb); have n2_ := Aside0.mk (below_step (by repeat (first | (with_reducible first | exact HB.out | apply below_alloc | apply pw_below_drewN | apply below_drew1 | refine below_set ?_ GE656.out | refine below_set ?_ GE657.out) | exact HB.out)) hb); have n3_ := Aside0.mk (hbox); have n4_ := Aside0.mk ((by rw [hg]; exact (below_size (by repeat (first | (with_reducible first | exact HB.out | apply below_alloc | apply pw_below_drewN | apply below_drew1 | refine below_set ?_ GE656.out | refine below_set ?_ GE657.out) | exact HB.out))) : w.heap.size ≤ gb658)); have n5_ := Aside0.mk ((by rw [hg]; exact (below_size (by repeat (first | (with_reducible first | exact HB.out | apply below_alloc | apply pw_below_drewN | apply below_drew1 | refine below_set ?_ GE656.out | refine below_set ?_ GE657.out) | exact HB.out))) : w.heap.size ≤ gb658)); have n6_ := Aside0.mk ((by rw [hg]; exact Nat.ne_of_lt (blk_lt (g := gb656) (o := .cells #[.int .i64 a0_0, .int .i64 a0_1, .int .i64 a0_2, .int .i64 a0_3, .slice A0_4 l0_4.length c0_4] 58 (0, 0)) (by (with_reducible repeat (first | refine blk_drewN ?_ _ | refine blk_drew ?_ | refine blk_alloc ?_ _)); exact BK656.out)) : gb656 ≠ gb658)); have n7_ := Aside0.mk ((by rw [hg]; exact Nat.ne_of_gt (blk_lt (g := gb656) (o := .cells #[.int .i64 a0_0, .int .i64 a0_1, .int .i64 a0_2, .int .i64 a0_3, .slice A0_4 l0_4.length c0_4] 58 (0, 0)) (by (with_reducible repeat (first | refine blk_drewN ?_ _ | refine blk_drew ?_ | refine blk_alloc ?_ _)); exact BK656.out)) : gb658 ≠ gb656)); have n8_ := Aside0.mk ((by rw [hg]; exact Nat.ne_of_lt (blk_lt (g := gb657) (o := .cells #[.int .i64 a1_0, .int .i64 a1_1] 60 (0, 0)) (by (with_reducible repeat (first | refine blk_drewN ?_ _ | refine blk_drew ?_ | refine blk_alloc ?_ _)); exact BK657.out)) : gb657 ≠ gb658)); have n9_ := Aside0.mk ((by rw [hg]; exact Nat.ne_of_gt (blk_lt (g := gb657) (o := .cells #[.int .i64 a1_0, .int .i64 a1_1] 60 (0, 0)) (by (with_reducible repeat (first | refine blk_drewN ?_ _ | refine blk_drew ?_ | refine blk_alloc ?_ _)); exact BK657.out)) : gb658 ≠ gb657)); clear BK656; clear BK657; clear HB; have BK656 := n0_; have BK657 := n1_; have HB := n2_; have BK658 := n3_; have GW658 := n4_; have GE658 := n5_; have NB656_658 := n6_; have NB658_656 := n7_; have NB657_658 := n8_; have NB658_657 := n9_; clear n0_ n1_ n2_ n3_ n4_ n5_ n6_ n7_ n8_ n9_; clear hb hbox hg; have hnb9 := NB656_657.out; have hnc9 := NB657_656.out; have hnb10 := NB656_658.out; have hnc10 := NB658_656.out; have hcz11_0 : w8.cell? ⟨gb656, 0, none⟩ = some (.int .i64 a0_0) := (blk_cell BK656.out 0).trans rfl; have hcz11_1 : w8.cell? ⟨gb656, 1, none⟩ = some (.int .i64 a0_1) := (blk_cell BK656.out 1).trans rfl; have hcz11_2 : w8.cell? ⟨gb656, 2, none⟩ = some (.int .i64 a0_2) := (blk_cell BK656.out 2).trans rfl; have hcz11_3 : w8.cell? ⟨gb656, 3, none⟩ = some (.int .i64 a0_3) := (blk_cell BK656.out 3).trans rfl; have hcz11_4 : w8.cell? ⟨gb656, 4, none⟩ = some (.slice A0_4 l0_4.length c0_4) := (blk_cell BK656.out 4).trans rfl; have hfz11_0 := blk_frozen BK656.out 0; have hfz11_1 := blk_frozen BK656.out 1; have hfz11_2 := blk_frozen BK656.out 2; have hfz11_3 := blk_frozen BK656.out 3; have hfz11_4 := blk_frozen BK656.out 4; have hnb12 := NB657_658.out; have hnc12 := NB658_657.out; have hcz13_0 : w8.cell? ⟨gb657, 0, none⟩ = some (.int .i64 a1_0) := (blk_cell BK657.out 0).trans rfl; have hcz13_1 : w8.cell? ⟨gb657, 1, none⟩ = some (.int .i64 a1_1) := (blk_cell BK657.out 1).trans rfl; have hfz13_0 := blk_frozen BK657.out 0; have hfz13_1 := blk_frozen BK657.out 1; have hcz14_0 : w8.cell? ⟨gb658, 0, none⟩ = some (.int .i64 a2_0) := (blk_cell BK658.out 0).trans rfl; have hcz14_1 : w8.cell? ⟨gb658, 1, none⟩ = some (.int .i64 a2_1) := (blk_cell BK658.out 1).trans rfl; have hfz14_0 := blk_frozen BK658.out 0; have hfz14_1 := blk_frozen BK658.out 1) | ((with_reducible refine gate_callee (f := 87) rfl ?_); refine goesL_ (some 15) rfl rfl Try.func87 (by kernel_rfl) rfl #[.agg #[.int .i64 a0_0, .int .i64 a0_1, .int .i64 a0_2, .int .i64 a0_3, .slice A0_4 l0_4.length c0_4], .int .i64 a1_1, .int .i64 a1_0, .int .i64 a2_1] rfl (by (try simp only [List.map_toArray, List.map_cons, List.map_nil]); first | done | rfl | (simp only [List.length_drop, List.length_take]; rfl)) ?_; (with_reducible refine (impl_EarliestAt.calls a0_0 a0_1 a0_2 a0_3 _ _ l0_4 a1_1 a1_0 a2_1 t659 _ ?side1 ?side2 A4.out).mono ?_); (case side1 => repeat (first | exact (Kd.C_below HR0_4.out HB.out) | (with_reducible refine Kd.C_alloc ?_ _) | (with_reducible refine Kd.C_drewN ?_ _) | (with_reducible refine Kd.C_drew ?_))); (case side2 => exact HC0_4.out); rintro e w15 ⟨rfl, hb⟩; refine ⟨_, rfl, ?_⟩; have n0_ := Aside0.mk (blk_below (g := gb656) (o := .cells #[.int .i64 a0_0, .int .i64 a0_1, .int .i64 a0_2, .int .i64 a0_3, .slice A0_4 l0_4.length c0_4] 58 (0, 0)) (by (with_reducible repeat (first | refine blk_drewN ?_ _ | refine blk_drew ?_ | refine blk_alloc ?_ _)); exact BK656.out) hb); have n1_ := Aside0.mk (blk_below (g := gb657) (o := .cells #[.int .i64 a1_0, .int .i64 a1_1] 60 (0, 0)) (by (with_reducible repeat (first | refine blk_drewN ?_ _ | refine blk_drew ?_ | refine blk_alloc ?_ _)); exact BK657.out) hb); have n2_ := Aside0.mk (blk_below (g := gb658) (o := .cells #[.int .i64 a2_0, .int .i64 a2_1] 60 (0, 0)) (by (with_reducible repeat (first | refine blk_drewN ?_ _ | refine blk_drew ?_ | refine blk_alloc ?_ _)); exact BK658.out) hb); have n3_ := Aside0.mk (below_step (by repeat (first | (with_reducible first | exact HB.out | apply below_alloc | apply pw_below_drewN | apply below_drew1 | refine below_set ?_ GE656.out | refine below_set ?_ GE657.out | refine below_set ?_ GE658.out) | exact HB.out)) hb); clear BK656; clear BK657; clear BK658; clear HB; have BK656 := n0_; have BK657 := n1_; have BK658 := n2_; have HB := n3_; clear n0_ n1_ n2_ n3_; (try clear hb); (try clear hb2); (try clear hk); (try clear hi); have hcz16_0 : w15.cell? ⟨gb658, 0, none⟩ = some (.int .i64 a2_0) := (blk_cell BK658.out 0).trans rfl; have hcz16_1 : w15.cell? ⟨gb658, 1, none⟩ = some (.int .i64 a2_1) := (blk_cell BK658.out 1).trans rfl; have hfz16_0 := blk_frozen BK658.out 0; have hfz16_1 := blk_frozen BK658.out 1))
  go_ret
  exact ⟨by first | rfl | (simp [errW_none, errW_some] <;> rfl) | (simp [*, errW_none, errW_some] <;> rfl), by repeat (first | (with_reducible first | exact HB.out | apply below_alloc | apply pw_below_drewN | apply below_drew1 | refine below_set ?_ GE656.out | refine below_set ?_ GE657.out | refine below_set ?_ GE658.out) | exact HB.out)⟩
 ·rw [if_neg c5] at H
  have c5b0 : decide (0 ≤ t659) = false := decide_eq_false c5
  clear c5
  obtain rfl := Option.some.inj H
  go_enter Try.func38, Try.ntmps38
  go_wp2_with (first | ((with_reducible refine gate_dst (N := 3) rfl ?_); refine box_event ?hg (N := 3) ?hd (cs := #[.int .i64 a0_0, .int .i64 a0_1, .int .i64 a0_2, .int .i64 a0_3, .slice A0_4 l0_4.length c0_4]) (t := 58) ?hr ?_; (case hd => rfl); (case hg => rfl); (case hr => first | (go_simp; done) | (go_simp; rfl)); intro gb656 hg w17 hbox hb; have n0_ := Aside0.mk (below_step (by repeat (first | (with_reducible first | exact HB.out | apply below_alloc | apply pw_below_drewN | apply below_drew1) | exact HB.out)) hb); have n1_ := Aside0.mk (hbox); have n2_ := Aside0.mk ((by rw [hg]; exact (below_size (by repeat (first | (with_reducible first | exact HB.out | apply below_alloc | apply pw_below_drewN | apply below_drew1) | exact HB.out))) : w.heap.size ≤ gb656)); have n3_ := Aside0.mk ((by rw [hg]; exact (below_size (by repeat (first | (with_reducible first | exact HB.out | apply below_alloc | apply pw_below_drewN | apply below_drew1) | exact HB.out))) : w.heap.size ≤ gb656)); clear HB; have HB := n0_; have BK656 := n1_; have GW656 := n2_; have GE656 := n3_; clear n0_ n1_ n2_ n3_; clear hb hbox hg) | ((with_reducible refine gate_dst (N := 4) rfl ?_); refine box_event ?hg (N := 4) ?hd (cs := #[.int .i64 a1_0, .int .i64 a1_1]) (t := 60) ?hr ?_; (case hd => rfl); (case hg => rfl); (case hr => first | (go_simp; done) | (go_simp; rfl)); intro gb657 hg w18 hbox hb; have n0_ := Aside0.mk (blk_below (g := gb656) (o := .cells #[.int .i64 a0_0, .int .i64 a0_1, .int .i64 a0_2, .int .i64 a0_3, .slice A0_4 l0_4.length c0_4] 58 (0, 0)) (by (with_reducible repeat (first | refine blk_drewN ?_ _ | refine blk_drew ?_ | refine blk_alloc ?_ _)); exact BK656.out) hb); have n1_ := Aside0.mk (below_step (by repeat (first | (with_reducible first | exact HB.out | apply below_alloc | apply pw_below_drewN | apply below_drew1 | refine below_set ?_ GE656.out) | exact HB.out)) hb); have n2_ := Aside0.mk (hbox); have n3_ := Aside0.mk ((by rw [hg]; exact (below_size (by repeat (first | (with_reducible first | exact HB.out | apply below_alloc | apply pw_below_drewN | apply below_drew1 | refine below_set ?_ GE656.out) | exact HB.out))) : w.heap.size ≤ gb657)); have n4_ := Aside0.mk ((by rw [hg]; exact (below_size (by repeat (first | (with_reducible first | exact HB.out | apply below_alloc | apply pw_below_drewN | apply below_drew1 | refine below_set ?_ GE656.out) | exact HB.out))) : w.heap.size ≤ gb657)); have n5_ := Aside0.mk ((by rw [hg]; exact Nat.ne_of_lt (blk_lt (g := gb656) (o := .cells #[.int .i64 a0_0, .int .i64 a0_1, .int .i64 a0_2, .int .i64 a0_3, .slice A0_4 l0_4.length c0_4] 58 (0, 0)) (by (with_reducible repeat (first | refine blk_drewN ?_ _ | refine blk_drew ?_ | refine blk_alloc ?_ _)); exact BK656.out)) : gb656 ≠ gb657)); have n6_ := Aside0.mk ((by rw [hg]; exact Nat.ne_of_gt (blk_lt (g := gb656) (o := .cells #[.int .i64 a0_0, .int .i64 a0_1, .int .i64 a0_2, .int .i64 a0_3, .slice A0_4 l0_4.length c0_4] 58 (0, 0)) (by (with_reducible repeat (first | refine blk_drewN ?_ _ | refine blk_drew ?_ | refine blk_alloc ?_ _)); exact BK656.out)) : gb657 ≠ gb656)); clear BK656; clear HB; have BK656 := n0_; have HB := n1_; have BK657 := n2_; have GW657 := n3_; have GE657 := n4_; have NB656_657 := n5_; have NB657_656 := n6_; clear n0_ n1_ n2_ n3_ n4_ n5_ n6_; clear hb hbox hg) | ((with_reducible refine gate_dst (N := 5) rfl ?_); refine box_event ?hg (N := 5) ?hd (cs := #[.int .i64 a2_0, .int .i64 a2_1]) (t := 60) ?hr ?_; (case hd => rfl); (case hg => rfl); (case hr => first | (go_simp; done) | (go_simp; rfl)); intro gb658 hg w19 hbox hb; have n0_ := Aside0.mk (blk_below (g := gb656) (o := .cells #[.int .i64 a0_0, .int .i64 a0_1, .int .i64 a0_2, .int .i64 a0_3, .slice A0_4 l0_4.length c0_4] 58 (0, 0)) (by (with_reducible repeat (first | refine blk_drewN ?_ _ | refine blk_drew ?_ | refine blk_alloc ?_ _)); exact BK656.out) hb); have n1_ := Aside0.mk (blk_below (g := gb657) (o := .cells #[.int .i64 a1_0, .int .i64 a1_1] 60 (0, 0)) (by (with_reducible repeat (first | refine blk_drewN ?_ _ | refine blk_drew ?_ | refine blk_alloc ?_ _)); exact BK657.out) hb); have n2_ := Aside0.mk (below_step (by repeat (first | (with_reducible first | exact HB.out | apply below_alloc | apply pw_below_drewN | apply below_drew1 | refine below_set ?_ GE656.out | refine below_set ?_ GE657.out) | exact HB.out)) hb); have n3_ := Aside0.mk (hbox); have n4_ := Aside0.mk ((by rw [hg]; exact (below_size (by repeat (first | (with_reducible first | exact HB.out | apply below_alloc | apply pw_below_drewN | apply below_drew1 | refine below_set ?_ GE656.out | refine below_set ?_ GE657.out) | exact HB.out))) : w.heap.size ≤ gb658)); have n5_ := Aside0.mk ((by rw [hg]; exact (below_size (by repeat (first | (with_reducible first | exact HB.out | apply below_alloc | apply pw_below_drewN | apply below_drew1 | refine below_set ?_ GE656.out | refine below_set ?_ GE657.out) | exact HB.out))) : w.heap.size ≤ gb658)); have n6_ := Aside0.mk ((by rw [hg]; exact Nat.ne_of_lt (blk_lt (g := gb656) (o := .cells #[.int .i64 a0_0, .int .i64 a0_1, .int .i64 a0_2, .int .i64 a0_3, .slice A0_4 l0_4.length c0_4] 58 (0, 0)) (by (with_reducible repeat (first | refine blk_drewN ?_ _ | refine blk_drew ?_ | refine blk_alloc ?_ _)); exact BK656.out)) : gb656 ≠ gb658)); have n7_ := Aside0.mk ((by rw [hg]; exact Nat.ne_of_gt (blk_lt (g := gb656) (o := .cells #[.int .i64 a0_0, .int .i64 a0_1, .int .i64 a0_2, .int .i64 a0_3, .slice A0_4 l0_4.length c0_4] 58 (0, 0)) (by (with_reducible repeat (first | refine blk_drewN ?_ _ | refine blk_drew ?_ | refine blk_alloc ?_ _)); exact BK656.out)) : gb658 ≠ gb656)); have n8_ := Aside0.mk ((by rw [hg]; exact Nat.ne_of_lt (blk_lt (g := gb657) (o := .cells #[.int .i64 a1_0, .int .i64 a1_1] 60 (0, 0)) (by (with_reducible repeat (first | refine blk_drewN ?_ _ | refine blk_drew ?_ | refine blk_alloc ?_ _)); exact BK657.out)) : gb657 ≠ gb658)); have n9_ := Aside0.mk ((by rw [hg]; exact Nat.ne_of_gt (blk_lt (g := gb657) (o := .cells #[.int .i64 a1_0, .int .i64 a1_1] 60 (0, 0)) (by (with_reducible repeat (first | refine blk_drewN ?_ _ | refine blk_drew ?_ | refine blk_alloc ?_ _)); exact BK657.out)) : gb658 ≠ gb657)); clear BK656; clear BK657; clear HB; have BK656 := n0_; have BK657 := n1_; have HB := n2_; have BK658 := n3_; have GW658 := n4_; have GE658 := n5_; have NB656_658 := n6_; have NB658_656 := n7_; have NB657_658 := n8_; have NB658_657 := n9_; clear n0_ n1_ n2_ n3_ n4_ n5_ n6_ n7_ n8_ n9_; clear hb hbox hg; have hnb20 := NB656_657.out; have hnc20 := NB657_656.out; have hnb21 := NB656_658.out; have hnc21 := NB658_656.out; have hcz22_0 : w19.cell? ⟨gb656, 0, none⟩ = some (.int .i64 a0_0) := (blk_cell BK656.out 0).trans rfl; have hcz22_1 : w19.cell? ⟨gb656, 1, none⟩ = some (.int .i64 a0_1) := (blk_cell BK656.out 1).trans rfl; have hcz22_2 : w19.cell? ⟨gb656, 2, none⟩ = some (.int .i64 a0_2) := (blk_cell BK656.out 2).trans rfl; have hcz22_3 : w19.cell? ⟨gb656, 3, none⟩ = some (.int .i64 a0_3) := (blk_cell BK656.out 3).trans rfl; have hcz22_4 : w19.cell? ⟨gb656, 4, none⟩ = some (.slice A0_4 l0_4.length c0_4) := (blk_cell BK656.out 4).trans rfl; have hfz22_0 := blk_frozen BK656.out 0; have hfz22_1 := blk_frozen BK656.out 1; have hfz22_2 := blk_frozen BK656.out 2; have hfz22_3 := blk_frozen BK656.out 3; have hfz22_4 := blk_frozen BK656.out 4; have hnb23 := NB657_658.out; have hnc23 := NB658_657.out; have hcz24_0 : w19.cell? ⟨gb657, 0, none⟩ = some (.int .i64 a1_0) := (blk_cell BK657.out 0).trans rfl; have hcz24_1 : w19.cell? ⟨gb657, 1, none⟩ = some (.int .i64 a1_1) := (blk_cell BK657.out 1).trans rfl; have hfz24_0 := blk_frozen BK657.out 0; have hfz24_1 := blk_frozen BK657.out 1; have hcz25_0 : w19.cell? ⟨gb658, 0, none⟩ = some (.int .i64 a2_0) := (blk_cell BK658.out 0).trans rfl; have hcz25_1 : w19.cell? ⟨gb658, 1, none⟩ = some (.int .i64 a2_1) := (blk_cell BK658.out 1).trans rfl; have hfz25_0 := blk_frozen BK658.out 0; have hfz25_1 := blk_frozen BK658.out 1) | ((with_reducible refine gate_callee (f := 87) rfl ?_); refine goesL_ (some 15) rfl rfl Try.func87 (by kernel_rfl) rfl #[.agg #[.int .i64 a0_0, .int .i64 a0_1, .int .i64 a0_2, .int .i64 a0_3, .slice A0_4 l0_4.length c0_4], .int .i64 a1_1, .int .i64 a1_0, .int .i64 a2_1] rfl (by (try simp only [List.map_toArray, List.map_cons, List.map_nil]); first | done | rfl | (simp only [List.length_drop, List.length_take]; rfl)) ?_; (with_reducible refine (impl_EarliestAt.calls a0_0 a0_1 a0_2 a0_3 _ _ l0_4 a1_1 a1_0 a2_1 t659 _ ?side1 ?side2 A4.out).mono ?_); (case side1 => repeat (first | exact (Kd.C_below HR0_4.out HB.out) | (with_reducible refine Kd.C_alloc ?_ _) | (with_reducible refine Kd.C_drewN ?_ _) | (with_reducible refine Kd.C_drew ?_))); (case side2 => exact HC0_4.out); rintro e w26 ⟨rfl, hb⟩; refine ⟨_, rfl, ?_⟩; have n0_ := Aside0.mk (blk_below (g := gb656) (o := .cells #[.int .i64 a0_0, .int .i64 a0_1, .int .i64 a0_2, .int .i64 a0_3, .slice A0_4 l0_4.length c0_4] 58 (0, 0)) (by (with_reducible repeat (first | refine blk_drewN ?_ _ | refine blk_drew ?_ | refine blk_alloc ?_ _)); exact BK656.out) hb); have n1_ := Aside0.mk (blk_below (g := gb657) (o := .cells #[.int .i64 a1_0, .int .i64 a1_1] 60 (0, 0)) (by (with_reducible repeat (first | refine blk_drewN ?_ _ | refine blk_drew ?_ | refine blk_alloc ?_ _)); exact BK657.out) hb); have n2_ := Aside0.mk (blk_below (g := gb658) (o := .cells #[.int .i64 a2_0, .int .i64 a2_1] 60 (0, 0)) (by (with_reducible repeat (first | refine blk_drewN ?_ _ | refine blk_drew ?_ | refine blk_alloc ?_ _)); exact BK658.out) hb); have n3_ := Aside0.mk (below_step (by repeat (first | (with_reducible first | exact HB.out | apply below_alloc | apply pw_below_drewN | apply below_drew1 | refine below_set ?_ GE656.out | refine below_set ?_ GE657.out | refine below_set ?_ GE658.out) | exact HB.out)) hb); clear BK656; clear BK657; clear BK658; clear HB; have BK656 := n0_; have BK657 := n1_; have BK658 := n2_; have HB := n3_; clear n0_ n1_ n2_ n3_; (try clear hb); (try clear hb2); (try clear hk); (try clear hi)))
  go_ret
  exact ⟨by first | rfl | (simp [errW_none, errW_some] <;> rfl) | (simp [*, errW_none, errW_some] <;> rfl), by repeat (first | (with_reducible first | exact HB.out | apply below_alloc | apply pw_below_drewN | apply below_drew1 | refine below_set ?_ GE656.out | refine below_set ?_ GE657.out | refine below_set ?_ GE658.out) | exact HB.out)⟩
set_option maxHeartbeats 8000000 in
set_option maxRecDepth 100000 in
theorem laws_eqGrid.calls (a0_0 : Int) (a0_1 : Int) (a1_0 : Int) (a1_1 : Int) (r : Bool) (w : World) (h : laws_eqGrid.f a0_0 a0_1 a1_0 a1_1 = some r) :
  Calls Try.prog 142 #[.agg #[.int .i64 a0_0, .int .i64 a0_1], .agg #[.int .i64 a1_0, .int .i64 a1_1]] w fun e w' => e = .returned (.bool r) ∧ Below w.heap.size w w' := by
 have hu30 := Try.underlying30
 have HB := Aside0.mk (Below.refl w.heap.size w)
 have H : (if a0_0 = a1_0 then (if a0_1 = a1_1 then (some true) else (some false)) else (some false)) = some r := h
 clear h
 by_cases c3 : a0_0 = a1_0
 ·rw [if_pos c3] at H
  have c3b0 : (a0_0 == a1_0) = true := beq_iff_eq.mpr c3
  have c3b1 : (a0_0 != a1_0) = false := bne_eq_false_iff_eq.mpr c3
  clear c3
  by_cases c4 : a0_1 = a1_1
  ·rw [if_pos c4] at H
   have c4b0 : (a0_1 == a1_1) = true := beq_iff_eq.mpr c4
   have c4b1 : (a0_1 != a1_1) = false := bne_eq_false_iff_eq.mpr c4
   clear c4
   obtain rfl := Option.some.inj H
   go_enter Try.func142, Try.ntmps142
   go_wp2_with (first | ((with_reducible refine gate_dst (N := 2) rfl ?_); refine box_event ?hg (N := 2) ?hd (cs := #[.int .i64 a0_0, .int .i64 a0_1]) (t := 30) ?hr ?_; (case hd => rfl); (case hg => rfl); (case hr => first | (go_simp; done) | (go_simp; rfl)); intro gb660 hg w5 hbox hb; have n0_ := Aside0.mk (below_step (by repeat (first | (with_reducible first | exact HB.out | apply below_alloc | apply pw_below_drewN | apply below_drew1) | exact HB.out)) hb); have n1_ := Aside0.mk (hbox); have n2_ := Aside0.mk ((by rw [hg]; exact (below_size (by repeat (first | (with_reducible first | exact HB.out | apply below_alloc | apply pw_below_drewN | apply below_drew1) | exact HB.out))) : w.heap.size ≤ gb660)); have n3_ := Aside0.mk ((by rw [hg]; exact (below_size (by repeat (first | (with_reducible first | exact HB.out | apply below_alloc | apply pw_below_drewN | apply below_drew1) | exact HB.out))) : w.heap.size ≤ gb660)); clear HB; have HB := n0_; have BK660 := n1_; have GW660 := n2_; have GE660 := n3_; clear n0_ n1_ n2_ n3_; clear hb hbox hg) | ((with_reducible refine gate_dst (N := 3) rfl ?_); refine box_event ?hg (N := 3) ?hd (cs := #[.int .i64 a1_0, .int .i64 a1_1]) (t := 30) ?hr ?_; (case hd => rfl); (case hg => rfl); (case hr => first | (go_simp; done) | (go_simp; rfl)); intro gb661 hg w6 hbox hb; have n0_ := Aside0.mk (blk_below (g := gb660) (o := .cells #[.int .i64 a0_0, .int .i64 a0_1] 30 (0, 0)) (by (with_reducible repeat (first | refine blk_drewN ?_ _ | refine blk_drew ?_ | refine blk_alloc ?_ _)); exact BK660.out) hb); have n1_ := Aside0.mk (below_step (by repeat (first | (with_reducible first | exact HB.out | apply below_alloc | apply pw_below_drewN | apply below_drew1 | refine below_set ?_ GE660.out) | exact HB.out)) hb); have n2_ := Aside0.mk (hbox); have n3_ := Aside0.mk ((by rw [hg]; exact (below_size (by repeat (first | (with_reducible first | exact HB.out | apply below_alloc | apply pw_below_drewN | apply below_drew1 | refine below_set ?_ GE660.out) | exact HB.out))) : w.heap.size ≤ gb661)); have n4_ := Aside0.mk ((by rw [hg]; exact (below_size (by repeat (first | (with_reducible first | exact HB.out | apply below_alloc | apply pw_below_drewN | apply below_drew1 | refine below_set ?_ GE660.out) | exact HB.out))) : w.heap.size ≤ gb661)); have n5_ := Aside0.mk ((by rw [hg]; exact Nat.ne_of_lt (blk_lt (g := gb660) (o := .cells #[.int .i64 a0_0, .int .i64 a0_1] 30 (0, 0)) (by (with_reducible repeat (first | refine blk_drewN ?_ _ | refine blk_drew ?_ | refine blk_alloc ?_ _)); exact BK660.out)) : gb660 ≠ gb661)); have n6_ := Aside0.mk ((by rw [hg]; exact Nat.ne_of_gt (blk_lt (g := gb660) (o := .cells #[.int .i64 a0_0, .int .i64 a0_1] 30 (0, 0)) (by (with_reducible repeat (first | refine blk_drewN ?_ _ | refine blk_drew ?_ | refine blk_alloc ?_ _)); exact BK660.out)) : gb661 ≠ gb660)); clear BK660; clear HB; have BK660 := n0_; have HB := n1_; have BK661 := n2_; have GW661 := n3_; have GE661 := n4_; have NB660_661 := n5_; have NB661_660 := n6_; clear n0_ n1_ n2_ n3_ n4_ n5_ n6_; clear hb hbox hg; have hnb7 := NB660_661.out; have hnc7 := NB661_660.out; have hcz8_0 : w6.cell? ⟨gb660, 0, none⟩ = some (.int .i64 a0_0) := (blk_cell BK660.out 0).trans rfl; have hcz8_1 : w6.cell? ⟨gb660, 1, none⟩ = some (.int .i64 a0_1) := (blk_cell BK660.out 1).trans rfl; have hfz8_0 := blk_frozen BK660.out 0; have hfz8_1 := blk_frozen BK660.out 1; have hcz9_0 : w6.cell? ⟨gb661, 0, none⟩ = some (.int .i64 a1_0) := (blk_cell BK661.out 0).trans rfl; have hcz9_1 : w6.cell? ⟨gb661, 1, none⟩ = some (.int .i64 a1_1) := (blk_cell BK661.out 1).trans rfl; have hfz9_0 := blk_frozen BK661.out 0; have hfz9_1 := blk_frozen BK661.out 1))
   go_ret
   exact ⟨by first | rfl | (simp [errW_none, errW_some] <;> rfl) | (simp [*, errW_none, errW_some] <;> rfl), by repeat (first | (with_reducible first | exact HB.out | apply below_alloc | apply pw_below_drewN | apply below_drew1 | refine below_set ?_ GE660.out | refine below_set ?_ GE661.out) | exact HB.out)⟩
  ·rw [if_neg c4] at H
   have c4b0 : (a0_1 == a1_1) = false := beq_eq_false_iff_ne.mpr c4
   have c4b1 : (a0_1 != a1_1) = true := bne_iff_ne.mpr c4
   obtain rfl := Option.some.inj H
   go_enter Try.func142, Try.ntmps142
   go_wp2_with (first | ((with_reducible refine gate_dst (N := 2) rfl ?_); refine box_event ?hg (N := 2) ?hd (cs := #[.int .i64 a0_0, .int .i64 a0_1]) (t := 30) ?hr ?_; (case hd => rfl); (case hg => rfl); (case hr => first | (go_simp; done) | (go_simp; rfl)); intro gb660 hg w10 hbox hb; have n0_ := Aside0.mk (below_step (by repeat (first | (with_reducible first | exact HB.out | apply below_alloc | apply pw_below_drewN | apply below_drew1) | exact HB.out)) hb); have n1_ := Aside0.mk (hbox); have n2_ := Aside0.mk ((by rw [hg]; exact (below_size (by repeat (first | (with_reducible first | exact HB.out | apply below_alloc | apply pw_below_drewN | apply below_drew1) | exact HB.out))) : w.heap.size ≤ gb660)); have n3_ := Aside0.mk ((by rw [hg]; exact (below_size (by repeat (first | (with_reducible first | exact HB.out | apply below_alloc | apply pw_below_drewN | apply below_drew1) | exact HB.out))) : w.heap.size ≤ gb660)); clear HB; have HB := n0_; have BK660 := n1_; have GW660 := n2_; have GE660 := n3_; clear n0_ n1_ n2_ n3_; clear hb hbox hg) | ((with_reducible refine gate_dst (N := 3) rfl ?_); refine box_event ?hg (N := 3) ?hd (cs := #[.int .i64 a1_0, .int .i64 a1_1]) (t := 30) ?hr ?_; (case hd => rfl); (case hg => rfl); (case hr => first | (go_simp; done) | (go_simp; rfl)); intro gb661 hg w11 hbox hb; have n0_ := Aside0.mk (blk_below (g := gb660) (o := .cells #[.int .i64 a0_0, .int .i64 a0_1] 30 (0, 0)) (by (with_reducible repeat (first | refine blk_drewN ?_ _ | refine blk_drew ?_ | refine blk_alloc ?_ _)); exact BK660.out) hb); have n1_ := Aside0.mk (below_step (by repeat (first | (with_reducible first | exact HB.out | apply below_alloc | apply pw_below_drewN | apply below_drew1 | refine below_set ?_ GE660.out) | exact HB.out)) hb); have n2_ := Aside0.mk (hbox); have n3_ := Aside0.mk ((by rw [hg]; exact (below_size (by repeat (first | (with_reducible first | exact HB.out | apply below_alloc | apply pw_below_drewN | apply below_drew1 | refine below_set ?_ GE660.out) | exact HB.out))) : w.heap.size ≤ gb661)); have n4_ := Aside0.mk ((by rw [hg]; exact (below_size (by repeat (first | (with_reducible first | exact HB.out | apply below_alloc | apply pw_below_drewN | apply below_drew1 | refine below_set ?_ GE660.out) | exact HB.out))) : w.heap.size ≤ gb661)); have n5_ := Aside0.mk ((by rw [hg]; exact Nat.ne_of_lt (blk_lt (g := gb660) (o := .cells #[.int .i64 a0_0, .int .i64 a0_1] 30 (0, 0)) (by (with_reducible repeat (first | refine blk_drewN ?_ _ | refine blk_drew ?_ | refine blk_alloc ?_ _)); exact BK660.out)) : gb660 ≠ gb661)); have n6_ := Aside0.mk ((by rw [hg]; exact Nat.ne_of_gt (blk_lt (g := gb660) (o := .cells #[.int .i64 a0_0, .int .i64 a0_1] 30 (0, 0)) (by (with_reducible repeat (first | refine blk_drewN ?_ _ | refine blk_drew ?_ | refine blk_alloc ?_ _)); exact BK660.out)) : gb661 ≠ gb660)); clear BK660; clear HB; have BK660 := n0_; have HB := n1_; have BK661 := n2_; have GW661 := n3_; have GE661 := n4_; have NB660_661 := n5_; have NB661_660 := n6_; clear n0_ n1_ n2_ n3_ n4_ n5_ n6_; clear hb hbox hg; have hnb12 := NB660_661.out; have hnc12 := NB661_660.out; have hcz13_0 : w11.cell? ⟨gb660, 0, none⟩ = some (.int .i64 a0_0) := (blk_cell BK660.out 0).trans rfl; have hcz13_1 : w11.cell? ⟨gb660, 1, none⟩ = some (.int .i64 a0_1) := (blk_cell BK660.out 1).trans rfl; have hfz13_0 := blk_frozen BK660.out 0; have hfz13_1 := blk_frozen BK660.out 1; have hcz14_0 : w11.cell? ⟨gb661, 0, none⟩ = some (.int .i64 a1_0) := (blk_cell BK661.out 0).trans rfl; have hcz14_1 : w11.cell? ⟨gb661, 1, none⟩ = some (.int .i64 a1_1) := (blk_cell BK661.out 1).trans rfl; have hfz14_0 := blk_frozen BK661.out 0; have hfz14_1 := blk_frozen BK661.out 1))
   go_ret
   exact ⟨by first | rfl | (simp [errW_none, errW_some] <;> rfl) | (simp [*, errW_none, errW_some] <;> rfl), by repeat (first | (with_reducible first | exact HB.out | apply below_alloc | apply pw_below_drewN | apply below_drew1 | refine below_set ?_ GE660.out | refine below_set ?_ GE661.out) | exact HB.out)⟩
 ·rw [if_neg c3] at H
  have c3b0 : (a0_0 == a1_0) = false := beq_eq_false_iff_ne.mpr c3
  have c3b1 : (a0_0 != a1_0) = true := bne_iff_ne.mpr c3
  obtain rfl := Option.some.inj H
  go_enter Try.func142, Try.ntmps142
  go_wp2_with (first | ((with_reducible refine gate_dst (N := 2) rfl ?_); refine box_event ?hg (N := 2) ?hd (cs := #[.int .i64 a0_0, .int .i64 a0_1]) (t := 30) ?hr ?_; (case hd => rfl); (case hg => rfl); (case hr => first | (go_simp; done) | (go_simp; rfl)); intro gb660 hg w15 hbox hb; have n0_ := Aside0.mk (below_step (by repeat (first | (with_reducible first | exact HB.out | apply below_alloc | apply pw_below_drewN | apply below_drew1) | exact HB.out)) hb); have n1_ := Aside0.mk (hbox); have n2_ := Aside0.mk ((by rw [hg]; exact (below_size (by repeat (first | (with_reducible first | exact HB.out | apply below_alloc | apply pw_below_drewN | apply below_drew1) | exact HB.out))) : w.heap.size ≤ gb660)); have n3_ := Aside0.mk ((by rw [hg]; exact (below_size (by repeat (first | (with_reducible first | exact HB.out | apply below_alloc | apply pw_below_drewN | apply below_drew1) | exact HB.out))) : w.heap.size ≤ gb660)); clear HB; have HB := n0_; have BK660 := n1_; have GW660 := n2_; have GE660 := n3_; clear n0_ n1_ n2_ n3_; clear hb hbox hg) | ((with_reducible refine gate_dst (N := 3) rfl ?_); refine box_event ?hg (N := 3) ?hd (cs := #[.int .i64 a1_0, .int .i64 a1_1]) (t := 30) ?hr ?_; (case hd => rfl); (case hg => rfl); (case hr => first | (go_simp; done) | (go_simp; rfl)); intro gb661 hg w16 hbox hb; have n0_ := Aside0.mk (blk_below (g := gb660) (o := .cells #[.int .i64 a0_0, .int .i64 a0_1] 30 (0, 0)) (by (with_reducible repeat (first | refine blk_drewN ?_ _ | refine blk_drew ?_ | refine blk_alloc ?_ _)); exact BK660.out) hb); have n1_ := Aside0.mk (below_step (by repeat (first | (with_reducible first | exact HB.out | apply below_alloc | apply pw_below_drewN | apply below_drew1 | refine below_set ?_ GE660.out) | exact HB.out)) hb); have n2_ := Aside0.mk (hbox); have n3_ := Aside0.mk ((by rw [hg]; exact (below_size (by repeat (first | (with_reducible first | exact HB.out | apply below_alloc | apply pw_below_drewN | apply below_drew1 | refine below_set ?_ GE660.out) | exact HB.out))) : w.heap.size ≤ gb661)); have n4_ := Aside0.mk ((by rw [hg]; exact (below_size (by repeat (first | (with_reducible first | exact HB.out | apply below_alloc | apply pw_below_drewN | apply below_drew1 | refine below_set ?_ GE660.out) | exact HB.out))) : w.heap.size ≤ gb661)); have n5_ := Aside0.mk ((by rw [hg]; exact Nat.ne_of_lt (blk_lt (g := gb660) (o := .cells #[.int .i64 a0_0, .int .i64 a0_1] 30 (0, 0)) (by (with_reducible repeat (first | refine blk_drewN ?_ _ | refine blk_drew ?_ | refine blk_alloc ?_ _)); exact BK660.out)) : gb660 ≠ gb661)); have n6_ := Aside0.mk ((by rw [hg]; exact Nat.ne_of_gt (blk_lt (g := gb660) (o := .cells #[.int .i64 a0_0, .int .i64 a0_1] 30 (0, 0)) (by (with_reducible repeat (first | refine blk_drewN ?_ _ | refine blk_drew ?_ | refine blk_alloc ?_ _)); exact BK660.out)) : gb661 ≠ gb660)); clear BK660; clear HB; have BK660 := n0_; have HB := n1_; have BK661 := n2_; have GW661 := n3_; have GE661 := n4_; have NB660_661 := n5_; have NB661_660 := n6_; clear n0_ n1_ n2_ n3_ n4_ n5_ n6_; clear hb hbox hg; have hnb17 := NB660_661.out; have hnc17 := NB661_660.out; have hcz18_0 : w16.cell? ⟨gb660, 0, none⟩ = some (.int .i64 a0_0) := (blk_cell BK660.out 0).trans rfl; have hcz18_1 : w16.cell? ⟨gb660, 1, none⟩ = some (.int .i64 a0_1) := (blk_cell BK660.out 1).trans rfl; have hfz18_0 := blk_frozen BK660.out 0; have hfz18_1 := blk_frozen BK660.out 1; have hcz19_0 : w16.cell? ⟨gb661, 0, none⟩ = some (.int .i64 a1_0) := (blk_cell BK661.out 0).trans rfl; have hcz19_1 : w16.cell? ⟨gb661, 1, none⟩ = some (.int .i64 a1_1) := (blk_cell BK661.out 1).trans rfl; have hfz19_0 := blk_frozen BK661.out 0; have hfz19_1 := blk_frozen BK661.out 1))
  go_ret
  exact ⟨by first | rfl | (simp [errW_none, errW_some] <;> rfl) | (simp [*, errW_none, errW_some] <;> rfl), by repeat (first | (with_reducible first | exact HB.out | apply below_alloc | apply pw_below_drewN | apply below_drew1 | refine below_set ?_ GE660.out | refine below_set ?_ GE661.out) | exact HB.out)⟩
set_option maxHeartbeats 8000000 in
set_option maxRecDepth 100000 in
theorem laws_eqMaze.calls (a0_0 : Int) (a0_1 : Int) (a0_2 : Int) (a1_0 : Int) (a1_1 : Int) (a1_2 : Int) (r : Bool) (w : World) (h : laws_eqMaze.f a0_0 a0_1 a0_2 a1_0 a1_1 a1_2 = some r) :
  Calls Try.prog 88 #[.agg #[.int .i64 a0_0, .int .i64 a0_1, .int .i64 a0_2], .agg #[.int .i64 a1_0, .int .i64 a1_1, .int .i64 a1_2]] w fun e w' => e = .returned (.bool r) ∧ Below w.heap.size w w' := by
 have hu32 := Try.underlying32
 have hu30 := Try.underlying30
 have HB := Aside0.mk (Below.refl w.heap.size w)
 have H : ((laws_eqGrid.f a0_0 a0_1 a1_0 a1_1).bind fun t664 => (if t664 = true then (if a0_2 = a1_2 then (some true) else (some false)) else (some false))) = some r := h
 clear h
 replace H := Option.bind_eq_some_iff.mp H
 obtain ⟨t664, A30, H⟩ := H
 replace H : (if t664 = true then (if a0_2 = a1_2 then (some true) else (some false)) else (some false)) = some r := H
 have A3 := Aside0.mk A30
 clear A30
 by_cases c4 : t664 = true
 ·subst c4
  have H1 : (if a0_2 = a1_2 then (some true) else (some false)) = some r := by rw [if_pos rfl] at H; exact H
  clear H
  have H := H1
  clear H1
  by_cases c5 : a0_2 = a1_2
  ·rw [if_pos c5] at H
   have c5b0 : (a0_2 == a1_2) = true := beq_iff_eq.mpr c5
   have c5b1 : (a0_2 != a1_2) = false := bne_eq_false_iff_eq.mpr c5
   clear c5
   obtain rfl := Option.some.inj H
   go_enter Try.func88, Try.ntmps88
   go_wp2_with (first | ((with_reducible refine gate_dst (N := 2) rfl ?_); refine box_event ?hg (N := 2) ?hd (cs := #[.int .i64 a0_0, .int .i64 a0_1, .int .i64 a0_2]) (t := 32) ?hr ?_; (case hd => rfl); (case hg => rfl); (case hr => first | (go_simp; done) | (go_simp; rfl)); intro gb662 hg w6 hbox hb; have n0_ := Aside0.mk (below_step (by repeat (first | (with_reducible first | exact HB.out | apply below_alloc | apply pw_below_drewN | apply below_drew1) | exact HB.out)) hb); have n1_ := Aside0.mk (hbox); have n2_ := Aside0.mk ((by rw [hg]; exact (below_size (by repeat (first | (with_reducible first | exact HB.out | apply below_alloc | apply pw_below_drewN | apply below_drew1) | exact HB.out))) : w.heap.size ≤ gb662)); have n3_ := Aside0.mk ((by rw [hg]; exact (below_size (by repeat (first | (with_reducible first | exact HB.out | apply below_alloc | apply pw_below_drewN | apply below_drew1) | exact HB.out))) : w.heap.size ≤ gb662)); clear HB; have HB := n0_; have BK662 := n1_; have GW662 := n2_; have GE662 := n3_; clear n0_ n1_ n2_ n3_; clear hb hbox hg) | ((with_reducible refine gate_dst (N := 3) rfl ?_); refine box_event ?hg (N := 3) ?hd (cs := #[.int .i64 a1_0, .int .i64 a1_1, .int .i64 a1_2]) (t := 32) ?hr ?_; (case hd => rfl); (case hg => rfl); (case hr => first | (go_simp; done) | (go_simp; rfl)); intro gb663 hg w7 hbox hb; have n0_ := Aside0.mk (blk_below (g := gb662) (o := .cells #[.int .i64 a0_0, .int .i64 a0_1, .int .i64 a0_2] 32 (0, 0)) (by (with_reducible repeat (first | refine blk_drewN ?_ _ | refine blk_drew ?_ | refine blk_alloc ?_ _)); exact BK662.out) hb); have n1_ := Aside0.mk (below_step (by repeat (first | (with_reducible first | exact HB.out | apply below_alloc | apply pw_below_drewN | apply below_drew1 | refine below_set ?_ GE662.out) | exact HB.out)) hb); have n2_ := Aside0.mk (hbox); have n3_ := Aside0.mk ((by rw [hg]; exact (below_size (by repeat (first | (with_reducible first | exact HB.out | apply below_alloc | apply pw_below_drewN | apply below_drew1 | refine below_set ?_ GE662.out) | exact HB.out))) : w.heap.size ≤ gb663)); have n4_ := Aside0.mk ((by rw [hg]; exact (below_size (by repeat (first | (with_reducible first | exact HB.out | apply below_alloc | apply pw_below_drewN | apply below_drew1 | refine below_set ?_ GE662.out) | exact HB.out))) : w.heap.size ≤ gb663)); have n5_ := Aside0.mk ((by rw [hg]; exact Nat.ne_of_lt (blk_lt (g := gb662) (o := .cells #[.int .i64 a0_0, .int .i64 a0_1, .int .i64 a0_2] 32 (0, 0)) (by (with_reducible repeat (first | refine blk_drewN ?_ _ | refine blk_drew ?_ | refine blk_alloc ?_ _)); exact BK662.out)) : gb662 ≠ gb663)); have n6_ := Aside0.mk ((by rw [hg]; exact Nat.ne_of_gt (blk_lt (g := gb662) (o := .cells #[.int .i64 a0_0, .int .i64 a0_1, .int .i64 a0_2] 32 (0, 0)) (by (with_reducible repeat (first | refine blk_drewN ?_ _ | refine blk_drew ?_ | refine blk_alloc ?_ _)); exact BK662.out)) : gb663 ≠ gb662)); clear BK662; clear HB; have BK662 := n0_; have HB := n1_; have BK663 := n2_; have GW663 := n3_; have GE663 := n4_; have NB662_663 := n5_; have NB663_662 := n6_; clear n0_ n1_ n2_ n3_ n4_ n5_ n6_; clear hb hbox hg; have hnb8 := NB662_663.out; have hnc8 := NB663_662.out; have hcz9_0 : w7.cell? ⟨gb662, 0, none⟩ = some (.int .i64 a0_0) := (blk_cell BK662.out 0).trans rfl; have hcz9_1 : w7.cell? ⟨gb662, 1, none⟩ = some (.int .i64 a0_1) := (blk_cell BK662.out 1).trans rfl; have hcz9_2 : w7.cell? ⟨gb662, 2, none⟩ = some (.int .i64 a0_2) := (blk_cell BK662.out 2).trans rfl; have hfz9_0 := blk_frozen BK662.out 0; have hfz9_1 := blk_frozen BK662.out 1; have hfz9_2 := blk_frozen BK662.out 2; have hcz10_0 : w7.cell? ⟨gb663, 0, none⟩ = some (.int .i64 a1_0) := (blk_cell BK663.out 0).trans rfl; have hcz10_1 : w7.cell? ⟨gb663, 1, none⟩ = some (.int .i64 a1_1) := (blk_cell BK663.out 1).trans rfl; have hcz10_2 : w7.cell? ⟨gb663, 2, none⟩ = some (.int .i64 a1_2) := (blk_cell BK663.out 2).trans rfl; have hfz10_0 := blk_frozen BK663.out 0; have hfz10_1 := blk_frozen BK663.out 1; have hfz10_2 := blk_frozen BK663.out 2) | ((with_reducible refine gate_callee (f := 142) rfl ?_); refine goesL_ (some 9) rfl rfl Try.func142 (by kernel_rfl) rfl #[.agg #[.int .i64 a0_0, .int .i64 a0_1], .agg #[.int .i64 a1_0, .int .i64 a1_1]] rfl (by (try simp only [List.map_toArray, List.map_cons, List.map_nil]); first | done | rfl | (simp only [List.length_drop, List.length_take]; rfl)) ?_; (with_reducible refine (laws_eqGrid.calls a0_0 a0_1 a1_0 a1_1 true _ A3.out).mono ?_); rintro e w11 ⟨rfl, hb⟩; refine ⟨_, rfl, ?_⟩; have n0_ := Aside0.mk (blk_below (g := gb662) (o := .cells #[.int .i64 a0_0, .int .i64 a0_1, .int .i64 a0_2] 32 (0, 0)) (by (with_reducible repeat (first | refine blk_drewN ?_ _ | refine blk_drew ?_ | refine blk_alloc ?_ _)); exact BK662.out) hb); have n1_ := Aside0.mk (blk_below (g := gb663) (o := .cells #[.int .i64 a1_0, .int .i64 a1_1, .int .i64 a1_2] 32 (0, 0)) (by (with_reducible repeat (first | refine blk_drewN ?_ _ | refine blk_drew ?_ | refine blk_alloc ?_ _)); exact BK663.out) hb); have n2_ := Aside0.mk (below_step (by repeat (first | (with_reducible first | exact HB.out | apply below_alloc | apply pw_below_drewN | apply below_drew1 | refine below_set ?_ GE662.out | refine below_set ?_ GE663.out) | exact HB.out)) hb); clear BK662; clear BK663; clear HB; have BK662 := n0_; have BK663 := n1_; have HB := n2_; clear n0_ n1_ n2_; (try clear hb); (try clear hb2); (try clear hk); (try clear hi); have hcz12_0 : w11.cell? ⟨gb662, 0, none⟩ = some (.int .i64 a0_0) := (blk_cell BK662.out 0).trans rfl; have hcz12_1 : w11.cell? ⟨gb662, 1, none⟩ = some (.int .i64 a0_1) := (blk_cell BK662.out 1).trans rfl; have hcz12_2 : w11.cell? ⟨gb662, 2, none⟩ = some (.int .i64 a0_2) := (blk_cell BK662.out 2).trans rfl; have hfz12_0 := blk_frozen BK662.out 0; have hfz12_1 := blk_frozen BK662.out 1; have hfz12_2 := blk_frozen BK662.out 2; have hcz13_0 : w11.cell? ⟨gb663, 0, none⟩ = some (.int .i64 a1_0) := (blk_cell BK663.out 0).trans rfl; have hcz13_1 : w11.cell? ⟨gb663, 1, none⟩ = some (.int .i64 a1_1) := (blk_cell BK663.out 1).trans rfl; have hcz13_2 : w11.cell? ⟨gb663, 2, none⟩ = some (.int .i64 a1_2) := (blk_cell BK663.out 2).trans rfl; have hfz13_0 := blk_frozen BK663.out 0; have hfz13_1 := blk_frozen BK663.out 1; have hfz13_2 := blk_frozen BK663.out 2))
   go_ret
   exact ⟨by first | rfl | (simp [errW_none, errW_some] <;> rfl) | (simp [*, errW_none, errW_some] <;> rfl), by repeat (first | (with_reducible first | exact HB.out | apply below_alloc | apply pw_below_drewN | apply below_drew1 | refine below_set ?_ GE662.out | refine below_set ?_ GE663.out) | exact HB.out)⟩
  ·rw [if_neg c5] at H
   have c5b0 : (a0_2 == a1_2) = false := beq_eq_false_iff_ne.mpr c5
   have c5b1 : (a0_2 != a1_2) = true := bne_iff_ne.mpr c5
   obtain rfl := Option.some.inj H
   go_enter Try.func88, Try.ntmps88
   go_wp2_with (first | ((with_reducible refine gate_dst (N := 2) rfl ?_); refine box_event ?hg (N := 2) ?hd (cs := #[.int .i64 a0_0, .int .i64 a0_1, .int .i64 a0_2]) (t := 32) ?hr ?_; (case hd => rfl); (case hg => rfl); (case hr => first | (go_simp; done) | (go_simp; rfl)); intro gb662 hg w14 hbox hb; have n0_ := Aside0.mk (below_step (by repeat (first | (with_reducible first | exact HB.out | apply below_alloc | apply pw_below_drewN | apply below_drew1) | exact HB.out)) hb); have n1_ := Aside0.mk (hbox); have n2_ := Aside0.mk ((by rw [hg]; exact (below_size (by repeat (first | (with_reducible first | exact HB.out | apply below_alloc | apply pw_below_drewN | apply below_drew1) | exact HB.out))) : w.heap.size ≤ gb662)); have n3_ := Aside0.mk ((by rw [hg]; exact (below_size (by repeat (first | (with_reducible first | exact HB.out | apply below_alloc | apply pw_below_drewN | apply below_drew1) | exact HB.out))) : w.heap.size ≤ gb662)); clear HB; have HB := n0_; have BK662 := n1_; have GW662 := n2_; have GE662 := n3_; clear n0_ n1_ n2_ n3_; clear hb hbox hg) | ((with_reducible refine gate_dst (N := 3) rfl ?_); refine box_event ?hg (N := 3) ?hd (cs := #[.int .i64 a1_0, .int .i64 a1_1, .int .i64 a1_2]) (t := 32) ?hr ?_; (case hd => rfl); (case hg => rfl); (case hr => first | (go_simp; done) | (go_simp; rfl)); intro gb663 hg w15 hbox hb; have n0_ := Aside0.mk (blk_below (g := gb662) (o := .cells #[.int .i64 a0_0, .int .i64 a0_1, .int .i64 a0_2] 32 (0, 0)) (by (with_reducible repeat (first | refine blk_drewN ?_ _ | refine blk_drew ?_ | refine blk_alloc ?_ _)); exact BK662.out) hb); have n1_ := Aside0.mk (below_step (by repeat (first | (with_reducible first | exact HB.out | apply below_alloc | apply pw_below_drewN | apply below_drew1 | refine below_set ?_ GE662.out) | exact HB.out)) hb); have n2_ := Aside0.mk (hbox); have n3_ := Aside0.mk ((by rw [hg]; exact (below_size (by repeat (first | (with_reducible first | exact HB.out | apply below_alloc | apply pw_below_drewN | apply below_drew1 | refine below_set ?_ GE662.out) | exact HB.out))) : w.heap.size ≤ gb663)); have n4_ := Aside0.mk ((by rw [hg]; exact (below_size (by repeat (first | (with_reducible first | exact HB.out | apply below_alloc | apply pw_below_drewN | apply below_drew1 | refine below_set ?_ GE662.out) | exact HB.out))) : w.heap.size ≤ gb663)); have n5_ := Aside0.mk ((by rw [hg]; exact Nat.ne_of_lt (blk_lt (g := gb662) (o := .cells #[.int .i64 a0_0, .int .i64 a0_1, .int .i64 a0_2] 32 (0, 0)) (by (with_reducible repeat (first | refine blk_drewN ?_ _ | refine blk_drew ?_ | refine blk_alloc ?_ _)); exact BK662.out)) : gb662 ≠ gb663)); have n6_ := Aside0.mk ((by rw [hg]; exact Nat.ne_of_gt (blk_lt (g := gb662) (o := .cells #[.int .i64 a0_0, .int .i64 a0_1, .int .i64 a0_2] 32 (0, 0)) (by (with_reducible repeat (first | refine blk_drewN ?_ _ | refine blk_drew ?_ | refine blk_alloc ?_ _)); exact BK662.out)) : gb663 ≠ gb662)); clear BK662; clear HB; have BK662 := n0_; have HB := n1_; have BK663 := n2_; have GW663 := n3_; have GE663 := n4_; have NB662_663 := n5_; have NB663_662 := n6_; clear n0_ n1_ n2_ n3_ n4_ n5_ n6_; clear hb hbox hg; have hnb16 := NB662_663.out; have hnc16 := NB663_662.out; have hcz17_0 : w15.cell? ⟨gb662, 0, none⟩ = some (.int .i64 a0_0) := (blk_cell BK662.out 0).trans rfl; have hcz17_1 : w15.cell? ⟨gb662, 1, none⟩ = some (.int .i64 a0_1) := (blk_cell BK662.out 1).trans rfl; have hcz17_2 : w15.cell? ⟨gb662, 2, none⟩ = some (.int .i64 a0_2) := (blk_cell BK662.out 2).trans rfl; have hfz17_0 := blk_frozen BK662.out 0; have hfz17_1 := blk_frozen BK662.out 1; have hfz17_2 := blk_frozen BK662.out 2; have hcz18_0 : w15.cell? ⟨gb663, 0, none⟩ = some (.int .i64 a1_0) := (blk_cell BK663.out 0).trans rfl; have hcz18_1 : w15.cell? ⟨gb663, 1, none⟩ = some (.int .i64 a1_1) := (blk_cell BK663.out 1).trans rfl; have hcz18_2 : w15.cell? ⟨gb663, 2, none⟩ = some (.int .i64 a1_2) := (blk_cell BK663.out 2).trans rfl; have hfz18_0 := blk_frozen BK663.out 0; have hfz18_1 := blk_frozen BK663.out 1; have hfz18_2 := blk_frozen BK663.out 2) | ((with_reducible refine gate_callee (f := 142) rfl ?_); refine goesL_ (some 9) rfl rfl Try.func142 (by kernel_rfl) rfl #[.agg #[.int .i64 a0_0, .int .i64 a0_1], .agg #[.int .i64 a1_0, .int .i64 a1_1]] rfl (by (try simp only [List.map_toArray, List.map_cons, List.map_nil]); first | done | rfl | (simp only [List.length_drop, List.length_take]; rfl)) ?_; (with_reducible refine (laws_eqGrid.calls a0_0 a0_1 a1_0 a1_1 true _ A3.out).mono ?_); rintro e w19 ⟨rfl, hb⟩; refine ⟨_, rfl, ?_⟩; have n0_ := Aside0.mk (blk_below (g := gb662) (o := .cells #[.int .i64 a0_0, .int .i64 a0_1, .int .i64 a0_2] 32 (0, 0)) (by (with_reducible repeat (first | refine blk_drewN ?_ _ | refine blk_drew ?_ | refine blk_alloc ?_ _)); exact BK662.out) hb); have n1_ := Aside0.mk (blk_below (g := gb663) (o := .cells #[.int .i64 a1_0, .int .i64 a1_1, .int .i64 a1_2] 32 (0, 0)) (by (with_reducible repeat (first | refine blk_drewN ?_ _ | refine blk_drew ?_ | refine blk_alloc ?_ _)); exact BK663.out) hb); have n2_ := Aside0.mk (below_step (by repeat (first | (with_reducible first | exact HB.out | apply below_alloc | apply pw_below_drewN | apply below_drew1 | refine below_set ?_ GE662.out | refine below_set ?_ GE663.out) | exact HB.out)) hb); clear BK662; clear BK663; clear HB; have BK662 := n0_; have BK663 := n1_; have HB := n2_; clear n0_ n1_ n2_; (try clear hb); (try clear hb2); (try clear hk); (try clear hi); have hcz20_0 : w19.cell? ⟨gb662, 0, none⟩ = some (.int .i64 a0_0) := (blk_cell BK662.out 0).trans rfl; have hcz20_1 : w19.cell? ⟨gb662, 1, none⟩ = some (.int .i64 a0_1) := (blk_cell BK662.out 1).trans rfl; have hcz20_2 : w19.cell? ⟨gb662, 2, none⟩ = some (.int .i64 a0_2) := (blk_cell BK662.out 2).trans rfl; have hfz20_0 := blk_frozen BK662.out 0; have hfz20_1 := blk_frozen BK662.out 1; have hfz20_2 := blk_frozen BK662.out 2; have hcz21_0 : w19.cell? ⟨gb663, 0, none⟩ = some (.int .i64 a1_0) := (blk_cell BK663.out 0).trans rfl; have hcz21_1 : w19.cell? ⟨gb663, 1, none⟩ = some (.int .i64 a1_1) := (blk_cell BK663.out 1).trans rfl; have hcz21_2 : w19.cell? ⟨gb663, 2, none⟩ = some (.int .i64 a1_2) := (blk_cell BK663.out 2).trans rfl; have hfz21_0 := blk_frozen BK663.out 0; have hfz21_1 := blk_frozen BK663.out 1; have hfz21_2 := blk_frozen BK663.out 2))
   go_ret
   exact ⟨by first | rfl | (simp [errW_none, errW_some] <;> rfl) | (simp [*, errW_none, errW_some] <;> rfl), by repeat (first | (with_reducible first | exact HB.out | apply below_alloc | apply pw_below_drewN | apply below_drew1 | refine below_set ?_ GE662.out | refine below_set ?_ GE663.out) | exact HB.out)⟩
 ·replace c4 := Bool.eq_false_iff.mpr c4
  subst c4
  have H1 : (some false) = some r := by rw [if_neg (show ¬ (false = true) by decide)] at H; exact H
  clear H
  have H := H1
  clear H1
  obtain rfl := Option.some.inj H
  go_enter Try.func88, Try.ntmps88
  go_wp2_with (first | ((with_reducible refine gate_dst (N := 2) rfl ?_); refine box_event ?hg (N := 2) ?hd (cs := #[.int .i64 a0_0, .int .i64 a0_1, .int .i64 a0_2]) (t := 32) ?hr ?_; (case hd => rfl); (case hg => rfl); (case hr => first | (go_simp; done) | (go_simp; rfl)); intro gb662 hg w22 hbox hb; have n0_ := Aside0.mk (below_step (by repeat (first | (with_reducible first | exact HB.out | apply below_alloc | apply pw_below_drewN | apply below_drew1) | exact HB.out)) hb); have n1_ := Aside0.mk (hbox); have n2_ := Aside0.mk ((by rw [hg]; exact (below_size (by repeat (first | (with_reducible first | exact HB.out | apply below_alloc | apply pw_below_drewN | apply below_drew1) | exact HB.out))) : w.heap.size ≤ gb662)); have n3_ := Aside0.mk ((by rw [hg]; exact (below_size (by repeat (first | (with_reducible first | exact HB.out | apply below_alloc | apply pw_below_drewN | apply below_drew1) | exact HB.out))) : w.heap.size ≤ gb662)); clear HB; have HB := n0_; have BK662 := n1_; have GW662 := n2_; have GE662 := n3_; clear n0_ n1_ n2_ n3_; clear hb hbox hg) | ((with_reducible refine gate_dst (N := 3) rfl ?_); refine box_event ?hg (N := 3) ?hd (cs := #[.int .i64 a1_0, .int .i64 a1_1, .int .i64 a1_2]) (t := 32) ?hr ?_; (case hd => rfl); (case hg => rfl); (case hr => first | (go_simp; done) | (go_simp; rfl)); intro gb663 hg w23 hbox hb; have n0_ := Aside0.mk (blk_below (g := gb662) (o := .cells #[.int .i64 a0_0, .int .i64 a0_1, .int .i64 a0_2] 32 (0, 0)) (by (with_reducible repeat (first | refine blk_drewN ?_ _ | refine blk_drew ?_ | refine blk_alloc ?_ _)); exact BK662.out) hb); have n1_ := Aside0.mk (below_step (by repeat (first | (with_reducible first | exact HB.out | apply below_alloc | apply pw_below_drewN | apply below_drew1 | refine below_set ?_ GE662.out) | exact HB.out)) hb); have n2_ := Aside0.mk (hbox); have n3_ := Aside0.mk ((by rw [hg]; exact (below_size (by repeat (first | (with_reducible first | exact HB.out | apply below_alloc | apply pw_below_drewN | apply below_drew1 | refine below_set ?_ GE662.out) | exact HB.out))) : w.heap.size ≤ gb663)); have n4_ := Aside0.mk ((by rw [hg]; exact (below_size (by repeat (first | (with_reducible first | exact HB.out | apply below_alloc | apply pw_below_drewN | apply below_drew1 | refine below_set ?_ GE662.out) | exact HB.out))) : w.heap.size ≤ gb663)); have n5_ := Aside0.mk ((by rw [hg]; exact Nat.ne_of_lt (blk_lt (g := gb662) (o := .cells #[.int .i64 a0_0, .int .i64 a0_1, .int .i64 a0_2] 32 (0, 0)) (by (with_reducible repeat (first | refine blk_drewN ?_ _ | refine blk_drew ?_ | refine blk_alloc ?_ _)); exact BK662.out)) : gb662 ≠ gb663)); have n6_ := Aside0.mk ((by rw [hg]; exact Nat.ne_of_gt (blk_lt (g := gb662) (o := .cells #[.int .i64 a0_0, .int .i64 a0_1, .int .i64 a0_2] 32 (0, 0)) (by (with_reducible repeat (first | refine blk_drewN ?_ _ | refine blk_drew ?_ | refine blk_alloc ?_ _)); exact BK662.out)) : gb663 ≠ gb662)); clear BK662; clear HB; have BK662 := n0_; have HB := n1_; have BK663 := n2_; have GW663 := n3_; have GE663 := n4_; have NB662_663 := n5_; have NB663_662 := n6_; clear n0_ n1_ n2_ n3_ n4_ n5_ n6_; clear hb hbox hg; have hnb24 := NB662_663.out; have hnc24 := NB663_662.out; have hcz25_0 : w23.cell? ⟨gb662, 0, none⟩ = some (.int .i64 a0_0) := (blk_cell BK662.out 0).trans rfl; have hcz25_1 : w23.cell? ⟨gb662, 1, none⟩ = some (.int .i64 a0_1) := (blk_cell BK662.out 1).trans rfl; have hcz25_2 : w23.cell? ⟨gb662, 2, none⟩ = some (.int .i64 a0_2) := (blk_cell BK662.out 2).trans rfl; have hfz25_0 := blk_frozen BK662.out 0; have hfz25_1 := blk_frozen BK662.out 1; have hfz25_2 := blk_frozen BK662.out 2; have hcz26_0 : w23.cell? ⟨gb663, 0, none⟩ = some (.int .i64 a1_0) := (blk_cell BK663.out 0).trans rfl; have hcz26_1 : w23.cell? ⟨gb663, 1, none⟩ = some (.int .i64 a1_1) := (blk_cell BK663.out 1).trans rfl; have hcz26_2 : w23.cell? ⟨gb663, 2, none⟩ = some (.int .i64 a1_2) := (blk_cell BK663.out 2).trans rfl; have hfz26_0 := blk_frozen BK663.out 0; have hfz26_1 := blk_frozen BK663.out 1; have hfz26_2 := blk_frozen BK663.out 2) | ((with_reducible refine gate_callee (f := 142) rfl ?_); refine goesL_ (some 9) rfl rfl Try.func142 (by kernel_rfl) rfl #[.agg #[.int .i64 a0_0, .int .i64 a0_1], .agg #[.int .i64 a1_0, .int .i64 a1_1]] rfl (by (try simp only [List.map_toArray, List.map_cons, List.map_nil]); first | done | rfl | (simp only [List.length_drop, List.length_take]; rfl)) ?_; (with_reducible refine (laws_eqGrid.calls a0_0 a0_1 a1_0 a1_1 false _ A3.out).mono ?_); rintro e w27 ⟨rfl, hb⟩; refine ⟨_, rfl, ?_⟩; have n0_ := Aside0.mk (blk_below (g := gb662) (o := .cells #[.int .i64 a0_0, .int .i64 a0_1, .int .i64 a0_2] 32 (0, 0)) (by (with_reducible repeat (first | refine blk_drewN ?_ _ | refine blk_drew ?_ | refine blk_alloc ?_ _)); exact BK662.out) hb); have n1_ := Aside0.mk (blk_below (g := gb663) (o := .cells #[.int .i64 a1_0, .int .i64 a1_1, .int .i64 a1_2] 32 (0, 0)) (by (with_reducible repeat (first | refine blk_drewN ?_ _ | refine blk_drew ?_ | refine blk_alloc ?_ _)); exact BK663.out) hb); have n2_ := Aside0.mk (below_step (by repeat (first | (with_reducible first | exact HB.out | apply below_alloc | apply pw_below_drewN | apply below_drew1 | refine below_set ?_ GE662.out | refine below_set ?_ GE663.out) | exact HB.out)) hb); clear BK662; clear BK663; clear HB; have BK662 := n0_; have BK663 := n1_; have HB := n2_; clear n0_ n1_ n2_; (try clear hb); (try clear hb2); (try clear hk); (try clear hi)))
  go_ret
  exact ⟨by first | rfl | (simp [errW_none, errW_some] <;> rfl) | (simp [*, errW_none, errW_some] <;> rfl), by repeat (first | (with_reducible first | exact HB.out | apply below_alloc | apply pw_below_drewN | apply below_drew1 | refine below_set ?_ GE662.out | refine below_set ?_ GE663.out) | exact HB.out)⟩
set_option maxHeartbeats 8000000 in
set_option maxRecDepth 100000 in
theorem laws_eqGate.calls (a0_0 : Int) (a0_1 : Int) (a1_0 : Int) (a1_1 : Int) (r : Bool) (w : World) (h : laws_eqGate.f a0_0 a0_1 a1_0 a1_1 = some r) :
  Calls Try.prog 143 #[.agg #[.int .i64 a0_0, .int .i64 a0_1], .agg #[.int .i64 a1_0, .int .i64 a1_1]] w fun e w' => e = .returned (.bool r) ∧ Below w.heap.size w w' := by
 have hu137 := Try.underlying137
 have HB := Aside0.mk (Below.refl w.heap.size w)
 have H : (if a0_0 = a1_0 then (if a0_1 = a1_1 then (some true) else (some false)) else (some false)) = some r := h
 clear h
 by_cases c3 : a0_0 = a1_0
 ·rw [if_pos c3] at H
  have c3b0 : (a0_0 == a1_0) = true := beq_iff_eq.mpr c3
  have c3b1 : (a0_0 != a1_0) = false := bne_eq_false_iff_eq.mpr c3
  clear c3
  by_cases c4 : a0_1 = a1_1
  ·rw [if_pos c4] at H
   have c4b0 : (a0_1 == a1_1) = true := beq_iff_eq.mpr c4
   have c4b1 : (a0_1 != a1_1) = false := bne_eq_false_iff_eq.mpr c4
   clear c4
   obtain rfl := Option.some.inj H
   go_enter Try.func143, Try.ntmps143
   go_wp2_with (first | ((with_reducible refine gate_dst (N := 2) rfl ?_); refine box_event ?hg (N := 2) ?hd (cs := #[.int .i64 a0_0, .int .i64 a0_1]) (t := 137) ?hr ?_; (case hd => rfl); (case hg => rfl); (case hr => first | (go_simp; done) | (go_simp; rfl)); intro gb665 hg w5 hbox hb; have n0_ := Aside0.mk (below_step (by repeat (first | (with_reducible first | exact HB.out | apply below_alloc | apply pw_below_drewN | apply below_drew1) | exact HB.out)) hb); have n1_ := Aside0.mk (hbox); have n2_ := Aside0.mk ((by rw [hg]; exact (below_size (by repeat (first | (with_reducible first | exact HB.out | apply below_alloc | apply pw_below_drewN | apply below_drew1) | exact HB.out))) : w.heap.size ≤ gb665)); have n3_ := Aside0.mk ((by rw [hg]; exact (below_size (by repeat (first | (with_reducible first | exact HB.out | apply below_alloc | apply pw_below_drewN | apply below_drew1) | exact HB.out))) : w.heap.size ≤ gb665)); clear HB; have HB := n0_; have BK665 := n1_; have GW665 := n2_; have GE665 := n3_; clear n0_ n1_ n2_ n3_; clear hb hbox hg) | ((with_reducible refine gate_dst (N := 3) rfl ?_); refine box_event ?hg (N := 3) ?hd (cs := #[.int .i64 a1_0, .int .i64 a1_1]) (t := 137) ?hr ?_; (case hd => rfl); (case hg => rfl); (case hr => first | (go_simp; done) | (go_simp; rfl)); intro gb666 hg w6 hbox hb; have n0_ := Aside0.mk (blk_below (g := gb665) (o := .cells #[.int .i64 a0_0, .int .i64 a0_1] 137 (0, 0)) (by (with_reducible repeat (first | refine blk_drewN ?_ _ | refine blk_drew ?_ | refine blk_alloc ?_ _)); exact BK665.out) hb); have n1_ := Aside0.mk (below_step (by repeat (first | (with_reducible first | exact HB.out | apply below_alloc | apply pw_below_drewN | apply below_drew1 | refine below_set ?_ GE665.out) | exact HB.out)) hb); have n2_ := Aside0.mk (hbox); have n3_ := Aside0.mk ((by rw [hg]; exact (below_size (by repeat (first | (with_reducible first | exact HB.out | apply below_alloc | apply pw_below_drewN | apply below_drew1 | refine below_set ?_ GE665.out) | exact HB.out))) : w.heap.size ≤ gb666)); have n4_ := Aside0.mk ((by rw [hg]; exact (below_size (by repeat (first | (with_reducible first | exact HB.out | apply below_alloc | apply pw_below_drewN | apply below_drew1 | refine below_set ?_ GE665.out) | exact HB.out))) : w.heap.size ≤ gb666)); have n5_ := Aside0.mk ((by rw [hg]; exact Nat.ne_of_lt (blk_lt (g := gb665) (o := .cells #[.int .i64 a0_0, .int .i64 a0_1] 137 (0, 0)) (by (with_reducible repeat (first | refine blk_drewN ?_ _ | refine blk_drew ?_ | refine blk_alloc ?_ _)); exact BK665.out)) : gb665 ≠ gb666)); have n6_ := Aside0.mk ((by rw [hg]; exact Nat.ne_of_gt (blk_lt (g := gb665) (o := .cells #[.int .i64 a0_0, .int .i64 a0_1] 137 (0, 0)) (by (with_reducible repeat (first | refine blk_drewN ?_ _ | refine blk_drew ?_ | refine blk_alloc ?_ _)); exact BK665.out)) : gb666 ≠ gb665)); clear BK665; clear HB; have BK665 := n0_; have HB := n1_; have BK666 := n2_; have GW666 := n3_; have GE666 := n4_; have NB665_666 := n5_; have NB666_665 := n6_; clear n0_ n1_ n2_ n3_ n4_ n5_ n6_; clear hb hbox hg; have hnb7 := NB665_666.out; have hnc7 := NB666_665.out; have hcz8_0 : w6.cell? ⟨gb665, 0, none⟩ = some (.int .i64 a0_0) := (blk_cell BK665.out 0).trans rfl; have hcz8_1 : w6.cell? ⟨gb665, 1, none⟩ = some (.int .i64 a0_1) := (blk_cell BK665.out 1).trans rfl; have hfz8_0 := blk_frozen BK665.out 0; have hfz8_1 := blk_frozen BK665.out 1; have hcz9_0 : w6.cell? ⟨gb666, 0, none⟩ = some (.int .i64 a1_0) := (blk_cell BK666.out 0).trans rfl; have hcz9_1 : w6.cell? ⟨gb666, 1, none⟩ = some (.int .i64 a1_1) := (blk_cell BK666.out 1).trans rfl; have hfz9_0 := blk_frozen BK666.out 0; have hfz9_1 := blk_frozen BK666.out 1))
   go_ret
   exact ⟨by first | rfl | (simp [errW_none, errW_some] <;> rfl) | (simp [*, errW_none, errW_some] <;> rfl), by repeat (first | (with_reducible first | exact HB.out | apply below_alloc | apply pw_below_drewN | apply below_drew1 | refine below_set ?_ GE665.out | refine below_set ?_ GE666.out) | exact HB.out)⟩
  ·rw [if_neg c4] at H
   have c4b0 : (a0_1 == a1_1) = false := beq_eq_false_iff_ne.mpr c4
   have c4b1 : (a0_1 != a1_1) = true := bne_iff_ne.mpr c4
   obtain rfl := Option.some.inj H
   go_enter Try.func143, Try.ntmps143
   go_wp2_with (first | ((with_reducible refine gate_dst (N := 2) rfl ?_); refine box_event ?hg (N := 2) ?hd (cs := #[.int .i64 a0_0, .int .i64 a0_1]) (t := 137) ?hr ?_; (case hd => rfl); (case hg => rfl); (case hr => first | (go_simp; done) | (go_simp; rfl)); intro gb665 hg w10 hbox hb; have n0_ := Aside0.mk (below_step (by repeat (first | (with_reducible first | exact HB.out | apply below_alloc | apply pw_below_drewN | apply below_drew1) | exact HB.out)) hb); have n1_ := Aside0.mk (hbox); have n2_ := Aside0.mk ((by rw [hg]; exact (below_size (by repeat (first | (with_reducible first | exact HB.out | apply below_alloc | apply pw_below_drewN | apply below_drew1) | exact HB.out))) : w.heap.size ≤ gb665)); have n3_ := Aside0.mk ((by rw [hg]; exact (below_size (by repeat (first | (with_reducible first | exact HB.out | apply below_alloc | apply pw_below_drewN | apply below_drew1) | exact HB.out))) : w.heap.size ≤ gb665)); clear HB; have HB := n0_; have BK665 := n1_; have GW665 := n2_; have GE665 := n3_; clear n0_ n1_ n2_ n3_; clear hb hbox hg) | ((with_reducible refine gate_dst (N := 3) rfl ?_); refine box_event ?hg (N := 3) ?hd (cs := #[.int .i64 a1_0, .int .i64 a1_1]) (t := 137) ?hr ?_; (case hd => rfl); (case hg => rfl); (case hr => first | (go_simp; done) | (go_simp; rfl)); intro gb666 hg w11 hbox hb; have n0_ := Aside0.mk (blk_below (g := gb665) (o := .cells #[.int .i64 a0_0, .int .i64 a0_1] 137 (0, 0)) (by (with_reducible repeat (first | refine blk_drewN ?_ _ | refine blk_drew ?_ | refine blk_alloc ?_ _)); exact BK665.out) hb); have n1_ := Aside0.mk (below_step (by repeat (first | (with_reducible first | exact HB.out | apply below_alloc | apply pw_below_drewN | apply below_drew1 | refine below_set ?_ GE665.out) | exact HB.out)) hb); have n2_ := Aside0.mk (hbox); have n3_ := Aside0.mk ((by rw [hg]; exact (below_size (by repeat (first | (with_reducible first | exact HB.out | apply below_alloc | apply pw_below_drewN | apply below_drew1 | refine below_set ?_ GE665.out) | exact HB.out))) : w.heap.size ≤ gb666)); have n4_ := Aside0.mk ((by rw [hg]; exact (below_size (by repeat (first | (with_reducible first | exact HB.out | apply below_alloc | apply pw_below_drewN | apply below_drew1 | refine below_set ?_ GE665.out) | exact HB.out))) : w.heap.size ≤ gb666)); have n5_ := Aside0.mk ((by rw [hg]; exact Nat.ne_of_lt (blk_lt (g := gb665) (o := .cells #[.int .i64 a0_0, .int .i64 a0_1] 137 (0, 0)) (by (with_reducible repeat (first | refine blk_drewN ?_ _ | refine blk_drew ?_ | refine blk_alloc ?_ _)); exact BK665.out)) : gb665 ≠ gb666)); have n6_ := Aside0.mk ((by rw [hg]; exact Nat.ne_of_gt (blk_lt (g := gb665) (o := .cells #[.int .i64 a0_0, .int .i64 a0_1] 137 (0, 0)) (by (with_reducible repeat (first | refine blk_drewN ?_ _ | refine blk_drew ?_ | refine blk_alloc ?_ _)); exact BK665.out)) : gb666 ≠ gb665)); clear BK665; clear HB; have BK665 := n0_; have HB := n1_; have BK666 := n2_; have GW666 := n3_; have GE666 := n4_; have NB665_666 := n5_; have NB666_665 := n6_; clear n0_ n1_ n2_ n3_ n4_ n5_ n6_; clear hb hbox hg; have hnb12 := NB665_666.out; have hnc12 := NB666_665.out; have hcz13_0 : w11.cell? ⟨gb665, 0, none⟩ = some (.int .i64 a0_0) := (blk_cell BK665.out 0).trans rfl; have hcz13_1 : w11.cell? ⟨gb665, 1, none⟩ = some (.int .i64 a0_1) := (blk_cell BK665.out 1).trans rfl; have hfz13_0 := blk_frozen BK665.out 0; have hfz13_1 := blk_frozen BK665.out 1; have hcz14_0 : w11.cell? ⟨gb666, 0, none⟩ = some (.int .i64 a1_0) := (blk_cell BK666.out 0).trans rfl; have hcz14_1 : w11.cell? ⟨gb666, 1, none⟩ = some (.int .i64 a1_1) := (blk_cell BK666.out 1).trans rfl; have hfz14_0 := blk_frozen BK666.out 0; have hfz14_1 := blk_frozen BK666.out 1))
   go_ret
   exact ⟨by first | rfl | (simp [errW_none, errW_some] <;> rfl) | (simp [*, errW_none, errW_some] <;> rfl), by repeat (first | (with_reducible first | exact HB.out | apply below_alloc | apply pw_below_drewN | apply below_drew1 | refine below_set ?_ GE665.out | refine below_set ?_ GE666.out) | exact HB.out)⟩
 ·rw [if_neg c3] at H
  have c3b0 : (a0_0 == a1_0) = false := beq_eq_false_iff_ne.mpr c3
  have c3b1 : (a0_0 != a1_0) = true := bne_iff_ne.mpr c3
  obtain rfl := Option.some.inj H
  go_enter Try.func143, Try.ntmps143
  go_wp2_with (first | ((with_reducible refine gate_dst (N := 2) rfl ?_); refine box_event ?hg (N := 2) ?hd (cs := #[.int .i64 a0_0, .int .i64 a0_1]) (t := 137) ?hr ?_; (case hd => rfl); (case hg => rfl); (case hr => first | (go_simp; done) | (go_simp; rfl)); intro gb665 hg w15 hbox hb; have n0_ := Aside0.mk (below_step (by repeat (first | (with_reducible first | exact HB.out | apply below_alloc | apply pw_below_drewN | apply below_drew1) | exact HB.out)) hb); have n1_ := Aside0.mk (hbox); have n2_ := Aside0.mk ((by rw [hg]; exact (below_size (by repeat (first | (with_reducible first | exact HB.out | apply below_alloc | apply pw_below_drewN | apply below_drew1) | exact HB.out))) : w.heap.size ≤ gb665)); have n3_ := Aside0.mk ((by rw [hg]; exact (below_size (by repeat (first | (with_reducible first | exact HB.out | apply below_alloc | apply pw_below_drewN | apply below_drew1) | exact HB.out))) : w.heap.size ≤ gb665)); clear HB; have HB := n0_; have BK665 := n1_; have GW665 := n2_; have GE665 := n3_; clear n0_ n1_ n2_ n3_; clear hb hbox hg) | ((with_reducible refine gate_dst (N := 3) rfl ?_); refine box_event ?hg (N := 3) ?hd (cs := #[.int .i64 a1_0, .int .i64 a1_1]) (t := 137) ?hr ?_; (case hd => rfl); (case hg => rfl); (case hr => first | (go_simp; done) | (go_simp; rfl)); intro gb666 hg w16 hbox hb; have n0_ := Aside0.mk (blk_below (g := gb665) (o := .cells #[.int .i64 a0_0, .int .i64 a0_1] 137 (0, 0)) (by (with_reducible repeat (first | refine blk_drewN ?_ _ | refine blk_drew ?_ | refine blk_alloc ?_ _)); exact BK665.out) hb); have n1_ := Aside0.mk (below_step (by repeat (first | (with_reducible first | exact HB.out | apply below_alloc | apply pw_below_drewN | apply below_drew1 | refine below_set ?_ GE665.out) | exact HB.out)) hb); have n2_ := Aside0.mk (hbox); have n3_ := Aside0.mk ((by rw [hg]; exact (below_size (by repeat (first | (with_reducible first | exact HB.out | apply below_alloc | apply pw_below_drewN | apply below_drew1 | refine below_set ?_ GE665.out) | exact HB.out))) : w.heap.size ≤ gb666)); have n4_ := Aside0.mk ((by rw [hg]; exact (below_size (by repeat (first | (with_reducible first | exact HB.out | apply below_alloc | apply pw_below_drewN | apply below_drew1 | refine below_set ?_ GE665.out) | exact HB.out))) : w.heap.size ≤ gb666)); have n5_ := Aside0.mk ((by rw [hg]; exact Nat.ne_of_lt (blk_lt (g := gb665) (o := .cells #[.int .i64 a0_0, .int .i64 a0_1] 137 (0, 0)) (by (with_reducible repeat (first | refine blk_drewN ?_ _ | refine blk_drew ?_ | refine blk_alloc ?_ _)); exact BK665.out)) : gb665 ≠ gb666)); have n6_ := Aside0.mk ((by rw [hg]; exact Nat.ne_of_gt (blk_lt (g := gb665) (o := .cells #[.int .i64 a0_0, .int .i64 a0_1] 137 (0, 0)) (by (with_reducible repeat (first | refine blk_drewN ?_ _ | refine blk_drew ?_ | refine blk_alloc ?_ _)); exact BK665.out)) : gb666 ≠ gb665)); clear BK665; clear HB; have BK665 := n0_; have HB := n1_; have BK666 := n2_; have GW666 := n3_; have GE666 := n4_; have NB665_666 := n5_; have NB666_665 := n6_; clear n0_ n1_ n2_ n3_ n4_ n5_ n6_; clear hb hbox hg; have hnb17 := NB665_666.out; have hnc17 := NB666_665.out; have hcz18_0 : w16.cell? ⟨gb665, 0, none⟩ = some (.int .i64 a0_0) := (blk_cell BK665.out 0).trans rfl; have hcz18_1 : w16.cell? ⟨gb665, 1, none⟩ = some (.int .i64 a0_1) := (blk_cell BK665.out 1).trans rfl; have hfz18_0 := blk_frozen BK665.out 0; have hfz18_1 := blk_frozen BK665.out 1; have hcz19_0 : w16.cell? ⟨gb666, 0, none⟩ = some (.int .i64 a1_0) := (blk_cell BK666.out 0).trans rfl; have hcz19_1 : w16.cell? ⟨gb666, 1, none⟩ = some (.int .i64 a1_1) := (blk_cell BK666.out 1).trans rfl; have hfz19_0 := blk_frozen BK666.out 0; have hfz19_1 := blk_frozen BK666.out 1))
  go_ret
  exact ⟨by first | rfl | (simp [errW_none, errW_some] <;> rfl) | (simp [*, errW_none, errW_some] <;> rfl), by repeat (first | (with_reducible first | exact HB.out | apply below_alloc | apply pw_below_drewN | apply below_drew1 | refine below_set ?_ GE665.out | refine below_set ?_ GE666.out) | exact HB.out)⟩
end Go.Proofs.Ytimejdhglmajdaa.F
end

section
namespace Go.Proofs.Ytimejdhglmajdaa.F
open Go.RowKit Go.Proofs.YtimejdhglmajdaaW.PrintWords Go.Proofs.YtimejdhglmajdaaW.PrintLast Go.Proofs.YtimejdhglmajdaaW.PrintMore
set_option linter.unusedVariables false
set_option linter.unusedSimpArgs false
attribute [local go_sem] min2_int min_two
def laws_eqGateS.T6 : Bool × List (List Nat × List Nat) := (true, [([], []), ([], []), ([0, 1], [0, 1]), ([2], [2]), ([], []), ([], []), ([4, 5], [4, 5]), ([6], [6]), ([3, 7], [3, 7]), ([8], [8])])
def laws_eqGateS.B6 : List Nat := [0, 0, 3, 7, 0, 0, 48, 112, 255, 511]
theorem laws_eqGateS.tab6 : rtab .any (opsOf Try.f89 6) = laws_eqGateS.T6 := by kernel_rfl
theorem laws_eqGateS.bits6 : waitsOk laws_eqGateS.T6.2 laws_eqGateS.B6 = true := by kernel_rfl
set_option maxHeartbeats 8000000 in
set_option maxRecDepth 100000 in
theorem laws_eqGateS.calls (k : Nat) (A0 : Option Addr) (c0 : Nat) (l0 : List (SGate)) (A1 : Option Addr) (c1 : Nat) (l1 : List (SGate)) (r : Bool) (w : World) (hr0 : Kd.C k137 w A0 l0.length l0) (hc0 : l0.length ≤ c0) (hr1 : Kd.C k137 w A1 l1.length l1) (hc1 : l1.length ≤ c1) (h : laws_eqGateS.f k l0 l1 = some r) :
  Calls Try.prog 89 #[.slice A0 l0.length c0, .slice A1 l1.length c1] w fun e w' => e = .returned (.bool r) ∧ Below w.heap.size w w' := by
 have hu137 := Try.underlying137
 have HR0 := Aside0.mk hr0
 have HC0 := Aside0.mk hc0
 clear hr0 hc0
 have HR1 := Aside0.mk hr1
 have HC1 := Aside0.mk hc1
 clear hr1 hc1
 have HB := Aside0.mk (Below.refl w.heap.size w)
 have H : (if (l0.length : Int) = (l1.length : Int) then (laws_eqGateS.l0 k l0 l1 0) else (some false)) = some r := h
 clear h
 by_cases c3 : (l0.length : Int) = (l1.length : Int)
 ·rw [if_pos c3] at H
  have c3b0 : ((l0.length : Int) == (l1.length : Int)) = true := beq_iff_eq.mpr c3
  have c3b1 : ((l0.length : Int) != (l1.length : Int)) = false := bne_eq_false_iff_eq.mpr c3
  have c3b2 : (l0.length == l1.length) = true := by first | simpa using c3 | (simp at c3 ⊢; omega)
  clear c3
  have H' := Aside0.mk H
  clear H
  go_enter Try.func89, Try.ntmps89
  go_wp2
  go_loopg [5] k (fun kq v5 w' => ∃ (x5_1 : Int), v5 = .int .i64 x5_1 ∧ Aside0 (laws_eqGateS.l0 kq l0 l1 x5_1 = some r) ∧ Aside0 (kq ≤ k) ∧ Aside0 (Below w.heap.size w w'))
  case atStart => exact ⟨(0), (by first | rfl | (simp; done) | (simp [*]; done)), H', ⟨Nat.le_refl _⟩, ⟨by repeat (first | (with_reducible first | exact HB.out | apply below_alloc | apply pw_below_drewN | apply below_drew1) | exact HB.out)⟩⟩
  case round =>
   clear H'
   try clear c1
   try clear p2
   try clear c3
   try clear c3b0
   try clear c3b1
   try clear c3b2
   obtain ⟨x5_1, rfl, HA, HK1, HB⟩ := hrel
   cases gk with
   | zero => exact absurd HA.out (by simp [laws_eqGateS.l0])
   | succ k1 =>
    have H := HA.out
    clear HA
    simp only [laws_eqGateS.l0] at H
    by_cases c4 : x5_1 < (l0.length : Int)
    ·rw [if_pos c4] at H
     have c4b0 : decide (x5_1 < (l0.length : Int)) = true := decide_eq_true c4
     clear c4
     by_cases c5 : 0 ≤ x5_1
     ·rw [if_pos c5] at H
      have c5b0 : decide (0 ≤ x5_1) = true := decide_eq_true c5
      clear c5
      by_cases c6 : x5_1 < (l1.length : Int)
      ·rw [if_pos c6] at H
       have c6b0 : decide (x5_1 < (l1.length : Int)) = true := decide_eq_true c6
       clear c6
       replace H := Option.bind_eq_some_iff.mp H
       obtain ⟨t669, A70, H⟩ := H
       replace H : (if t669 = true then (laws_eqGateS.l0 k1 l0 l1 (wrap64 (x5_1 + 1))) else (some false)) = some r := H
       have A7 := Aside0.mk A70
       clear A70
       by_cases c8 : t669 = true
       ·subst c8
        have H1 : (laws_eqGateS.l0 k1 l0 l1 (wrap64 (x5_1 + 1))) = some r := by rw [if_pos rfl] at H; exact H
        clear H
        have H := H1
        clear H1
        have H' := Aside0.mk H
        clear H
        try go_wp2
        have n0_ := Aside0.mk (below_drew1 HB.out)
        clear HB
        have HB := n0_
        clear n0_
        have p667 : 0 ≤ (x5_1 : Int) := of_decide_eq_true (by first | (with_reducible assumption) | assumption)
        have q667 : x5_1 < (l0.length : Int) := of_decide_eq_true (by first | (with_reducible assumption) | assumption)
        obtain ⟨ad667, e667, hx667_0, hx667_1⟩ := at_T137 HR0.out x5_1 p667 q667
        have hw667_1 := hx667_1
        have hw667_0 := hx667_0
        cases e667
        replace hx667_0 := (HB.out.cell (World.block_lt_of_cell? w _ hx667_0)).trans hx667_0
        replace hx667_1 := (HB.out.cell (World.block_lt_of_cell? w _ hx667_1)).trans hx667_1
        replace p667 := eq_true p667
        replace q667 := eq_true q667
        have p668 : 0 ≤ (x5_1 : Int) := of_decide_eq_true (by first | (with_reducible assumption) | assumption)
        have q668 : x5_1 < (l1.length : Int) := of_decide_eq_true (by first | (with_reducible assumption) | assumption)
        obtain ⟨ad668, e668, hx668_0, hx668_1⟩ := at_T137 HR1.out x5_1 p668 q668
        have hw668_1 := hx668_1
        have hw668_0 := hx668_0
        cases e668
        replace hx668_0 := (HB.out.cell (World.block_lt_of_cell? w _ hx668_0)).trans hx668_0
        replace hx668_1 := (HB.out.cell (World.block_lt_of_cell? w _ hx668_1)).trans hx668_1
        replace p668 := eq_true p668
        replace q668 := eq_true q668
        refine start_ (n := 10) (S := fun w' => w'.cell? (ad667.add ((x5_1).toNat * 2)) = some (.int .i64 ((rd_Gate l0 x5_1).f0)) ∧ w'.cell? ⟨(ad667.add ((x5_1).toNat * 2)).block, (ad667.add ((x5_1).toNat * 2)).off + 1, none⟩ = some (.int .i64 ((rd_Gate l0 x5_1).f1)) ∧ w'.cell? (ad668.add ((x5_1).toNat * 2)) = some (.int .i64 ((rd_Gate l1 x5_1).f0)) ∧ w'.cell? ⟨(ad668.add ((x5_1).toNat * 2)).block, (ad668.add ((x5_1).toNat * 2)).off + 1, none⟩ = some (.int .i64 ((rd_Gate l1 x5_1).f1))) (ds := []) #[bN,bN,bN,bN,bN,bN,bN,bN,bN,bN] (by kernel_rfl) rfl rfl ⟨((HB.out.cell (World.block_lt_of_cell? w _ hw667_0)).trans hw667_0), ((HB.out.cell (World.block_lt_of_cell? w _ hw667_1)).trans hw667_1), ((HB.out.cell (World.block_lt_of_cell? w _ hw668_0)).trans hw668_0), ((HB.out.cell (World.block_lt_of_cell? w _ hw668_1)).trans hw668_1)⟩ (fun hHeld => ?_); refine with_tabW laws_eqGateS.tab6 laws_eqGateS.bits6 (fun HT_ HW_ => ?_)
        generalize wr.drew = w9 at HB hx667_0 hx667_1 hx668_0 hx668_1 hHeld ⊢
        refine pure_ (i := 0) (N := some 17) (v := ?_) (a' := ?_) #[bY,bN,bN,bN,bN,bN,bN,bN,bN,bN] rfl rfl (any_of HT_.out (by kernel_rfl)) (fun _ _ _ h => h) (Or.inl ⟨by rfl, ?_⟩) ?_ ?_
        rotate_left
        ·intro w'
         go_simp
         with_reducible rfl
        rotate_left
        ·simp only [Act.put, List.setIfInBounds_toArray, List.set_cons_zero, List.set_cons_succ, i64_w, i32_w]
         rfl
        refine pure_ (i := 1) (N := some 18) (v := ?_) (a' := ?_) #[bY,bY,bN,bN,bN,bN,bN,bN,bN,bN] rfl rfl (any_of HT_.out (by kernel_rfl)) (fun _ _ _ h => h) (Or.inl ⟨by rfl, ?_⟩) ?_ ?_
        rotate_left
        ·intro w'
         go_simp
         with_reducible rfl
        rotate_left
        ·simp only [Act.put, List.setIfInBounds_toArray, List.set_cons_zero, List.set_cons_succ, i64_w, i32_w]
         rfl
        refine pure_ (i := 2) (N := some 19) (v := ?_) (a' := ?_) #[bY,bY,bY,bN,bN,bN,bN,bN,bN,bN] rfl rfl (any_of HT_.out (by kernel_rfl)) (fun _ _ _ h => h) (Or.inl ⟨by rfl, ?_⟩) ?_ ?_
        rotate_left
        ·intro w'
         go_simp
         with_reducible rfl
        rotate_left
        ·simp only [Act.put, List.setIfInBounds_toArray, List.set_cons_zero, List.set_cons_succ, i64_w, i32_w]
         rfl
        refine pure_ (i := 4) (N := some 21) (v := ?_) (a' := ?_) #[bY,bY,bY,bN,bY,bN,bN,bN,bN,bN] rfl rfl (any_of HT_.out (by kernel_rfl)) (fun _ _ _ h => h) (Or.inl ⟨by rfl, ?_⟩) ?_ ?_
        rotate_left
        ·intro w'
         go_simp
         with_reducible rfl
        rotate_left
        ·simp only [Act.put, List.setIfInBounds_toArray, List.set_cons_zero, List.set_cons_succ, i64_w, i32_w]
         rfl
        refine pure_ (i := 5) (N := some 22) (v := ?_) (a' := ?_) #[bY,bY,bY,bN,bY,bY,bN,bN,bN,bN] rfl rfl (any_of HT_.out (by kernel_rfl)) (fun _ _ _ h => h) (Or.inl ⟨by rfl, ?_⟩) ?_ ?_
        rotate_left
        ·intro w'
         go_simp
         with_reducible rfl
        rotate_left
        ·simp only [Act.put, List.setIfInBounds_toArray, List.set_cons_zero, List.set_cons_succ, i64_w, i32_w]
         rfl
        refine pure_ (i := 6) (N := some 23) (v := ?_) (a' := ?_) #[bY,bY,bY,bN,bY,bY,bY,bN,bN,bN] rfl rfl (any_of HT_.out (by kernel_rfl)) (fun _ _ _ h => h) (Or.inl ⟨by rfl, ?_⟩) ?_ ?_
        rotate_left
        ·intro w'
         go_simp
         with_reducible rfl
        rotate_left
        ·simp only [Act.put, List.setIfInBounds_toArray, List.set_cons_zero, List.set_cons_succ, i64_w, i32_w]
         rfl
        refine take_ (i := 3) (N := some 20) (v := ?_) (a' := ?_) #[bY,bY,bY,bY,bY,bY,bY,bN,bN,bN] rfl rfl (take_ofW HT_.out HW_.out (by kernel_rfl)) (fun _ _ _ h => h) (Or.inl ⟨by rfl, ?_⟩) hHeld ?_ ?_
        rotate_left
        ·rintro w' ⟨s0, s1, s2, s3⟩
         go_simp
         with_reducible rfl
        rotate_left
        ·simp only [Act.put, List.setIfInBounds_toArray, List.set_cons_zero, List.set_cons_succ, i64_w, i32_w]
         rfl
        refine take_ (i := 7) (N := some 24) (v := ?_) (a' := ?_) #[bY,bY,bY,bY,bY,bY,bY,bY,bN,bN] rfl rfl (take_ofW HT_.out HW_.out (by kernel_rfl)) (fun _ _ _ h => h) (Or.inl ⟨by rfl, ?_⟩) hHeld ?_ ?_
        rotate_left
        ·rintro w' ⟨s0, s1, s2, s3⟩
         go_simp
         with_reducible rfl
        rotate_left
        ·simp only [Act.put, List.setIfInBounds_toArray, List.set_cons_zero, List.set_cons_succ, i64_w, i32_w]
         rfl
        refine one_ (i := 8) (N := some 25) #[bY,bY,bY,bY,bY,bY,bY,bY,bY,bN] rfl rfl (one_of HT_.out (by kernel_rfl)) (by decide) (fun K hK => ?_)
        refine goes_ Try.func143 (by kernel_rfl) rfl #[.agg #[.int .i64 ((rd_Gate l0 x5_1).f0), .int .i64 ((rd_Gate l0 x5_1).f1)], .agg #[.int .i64 ((rd_Gate l1 x5_1).f0), .int .i64 ((rd_Gate l1 x5_1).f1)]] (by rfl) rfl rfl (by (try simp only [List.map_toArray, List.map_cons, List.map_nil]); first | done | rfl | (simp only [List.length_drop, List.length_take]; rfl)) ?_
        with_reducible refine (laws_eqGate.calls ((rd_Gate l0 x5_1).f0) ((rd_Gate l0 x5_1).f1) ((rd_Gate l1 x5_1).f0) ((rd_Gate l1 x5_1).f1) true _ A7.out).mono ?_
        rintro e w10 ⟨rfl, hb⟩
        refine ⟨_, rfl, ?_⟩
        have n0_ := Aside0.mk (below_step (by repeat (first | (with_reducible first | exact HB.out | apply below_alloc | apply pw_below_drewN | apply below_drew1) | exact HB.out)) hb)
        clear HB
        have HB := n0_
        clear n0_
        (try clear hb)
        (try clear hb2)
        (try clear hk)
        (try clear hi)
        refine hK.out _ _ ⟨((HB.out.cell (World.block_lt_of_cell? w _ hw667_0)).trans hw667_0), ((HB.out.cell (World.block_lt_of_cell? w _ hw667_1)).trans hw667_1), ((HB.out.cell (World.block_lt_of_cell? w _ hw668_0)).trans hw668_0), ((HB.out.cell (World.block_lt_of_cell? w _ hw668_1)).trans hw668_1)⟩ (fun hHeld => ?_)
        clear hK K
        refine norm_ (a' := ?_) ?_ ?_
        rotate_left
        ·show Act.put _ (some 25) _ = _
         simp only [Act.put, List.setIfInBounds_toArray, List.set_cons_zero, List.set_cons_succ, i64_w, i32_w]
         rfl
        refine pure_ (i := 9) (N := some 26) (v := ?_) (a' := ?_) #[bY,bY,bY,bY,bY,bY,bY,bY,bY,bY] rfl rfl (any_of HT_.out (by kernel_rfl)) (fun _ _ _ h => h) (Or.inl ⟨by rfl, ?_⟩) ?_ ?_
        rotate_left
        ·intro w'
         go_simp
         with_reducible rfl
        rotate_left
        ·simp only [Act.put, List.setIfInBounds_toArray, List.set_cons_zero, List.set_cons_succ, i64_w, i32_w]
         rfl
        refine done_ (done_of HT_.out (by kernel_rfl)) ?_
        try go_wp2
        go_roundg k1
        case measure => have := HK1.out; omega
        case rel => exact ⟨(wrap64 (x5_1 + 1)), (by first | rfl | (simp; done) | (simp [*]; done)), H', ⟨by have := HK1.out; omega⟩, ⟨by repeat (first | (with_reducible first | exact HB.out | apply below_alloc | apply pw_below_drewN | apply below_drew1) | exact HB.out)⟩⟩
       ·replace c8 := Bool.eq_false_iff.mpr c8
        subst c8
        have H1 : (some false) = some r := by rw [if_neg (show ¬ (false = true) by decide)] at H; exact H
        clear H
        have H := H1
        clear H1
        obtain rfl := Option.some.inj H
        try go_wp2
        have n0_ := Aside0.mk (below_drew1 HB.out)
        clear HB
        have HB := n0_
        clear n0_
        have p667 : 0 ≤ (x5_1 : Int) := of_decide_eq_true (by first | (with_reducible assumption) | assumption)
        have q667 : x5_1 < (l0.length : Int) := of_decide_eq_true (by first | (with_reducible assumption) | assumption)
        obtain ⟨ad667, e667, hx667_0, hx667_1⟩ := at_T137 HR0.out x5_1 p667 q667
        have hw667_1 := hx667_1
        have hw667_0 := hx667_0
        cases e667
        replace hx667_0 := (HB.out.cell (World.block_lt_of_cell? w _ hx667_0)).trans hx667_0
        replace hx667_1 := (HB.out.cell (World.block_lt_of_cell? w _ hx667_1)).trans hx667_1
        replace p667 := eq_true p667
        replace q667 := eq_true q667
        have p668 : 0 ≤ (x5_1 : Int) := of_decide_eq_true (by first | (with_reducible assumption) | assumption)
        have q668 : x5_1 < (l1.length : Int) := of_decide_eq_true (by first | (with_reducible assumption) | assumption)
        obtain ⟨ad668, e668, hx668_0, hx668_1⟩ := at_T137 HR1.out x5_1 p668 q668
        have hw668_1 := hx668_1
        have hw668_0 := hx668_0
        cases e668
        replace hx668_0 := (HB.out.cell (World.block_lt_of_cell? w _ hx668_0)).trans hx668_0
        replace hx668_1 := (HB.out.cell (World.block_lt_of_cell? w _ hx668_1)).trans hx668_1
        replace p668 := eq_true p668
        replace q668 := eq_true q668
        refine start_ (n := 10) (S := fun w' => w'.cell? (ad667.add ((x5_1).toNat * 2)) = some (.int .i64 ((rd_Gate l0 x5_1).f0)) ∧ w'.cell? ⟨(ad667.add ((x5_1).toNat * 2)).block, (ad667.add ((x5_1).toNat * 2)).off + 1, none⟩ = some (.int .i64 ((rd_Gate l0 x5_1).f1)) ∧ w'.cell? (ad668.add ((x5_1).toNat * 2)) = some (.int .i64 ((rd_Gate l1 x5_1).f0)) ∧ w'.cell? ⟨(ad668.add ((x5_1).toNat * 2)).block, (ad668.add ((x5_1).toNat * 2)).off + 1, none⟩ = some (.int .i64 ((rd_Gate l1 x5_1).f1))) (ds := []) #[bN,bN,bN,bN,bN,bN,bN,bN,bN,bN] (by kernel_rfl) rfl rfl ⟨((HB.out.cell (World.block_lt_of_cell? w _ hw667_0)).trans hw667_0), ((HB.out.cell (World.block_lt_of_cell? w _ hw667_1)).trans hw667_1), ((HB.out.cell (World.block_lt_of_cell? w _ hw668_0)).trans hw668_0), ((HB.out.cell (World.block_lt_of_cell? w _ hw668_1)).trans hw668_1)⟩ (fun hHeld => ?_); refine with_tabW laws_eqGateS.tab6 laws_eqGateS.bits6 (fun HT_ HW_ => ?_)
        generalize wr.drew = w11 at HB hx667_0 hx667_1 hx668_0 hx668_1 hHeld ⊢
        refine pure_ (i := 0) (N := some 17) (v := ?_) (a' := ?_) #[bY,bN,bN,bN,bN,bN,bN,bN,bN,bN] rfl rfl (any_of HT_.out (by kernel_rfl)) (fun _ _ _ h => h) (Or.inl ⟨by rfl, ?_⟩) ?_ ?_
        rotate_left
        ·intro w'
         go_simp
         with_reducible rfl
        rotate_left
        ·simp only [Act.put, List.setIfInBounds_toArray, List.set_cons_zero, List.set_cons_succ, i64_w, i32_w]
         rfl
        refine pure_ (i := 1) (N := some 18) (v := ?_) (a' := ?_) #[bY,bY,bN,bN,bN,bN,bN,bN,bN,bN] rfl rfl (any_of HT_.out (by kernel_rfl)) (fun _ _ _ h => h) (Or.inl ⟨by rfl, ?_⟩) ?_ ?_
        rotate_left
        ·intro w'
         go_simp
         with_reducible rfl
        rotate_left
        ·simp only [Act.put, List.setIfInBounds_toArray, List.set_cons_zero, List.set_cons_succ, i64_w, i32_w]
         rfl
        refine pure_ (i := 2) (N := some 19) (v := ?_) (a' := ?_) #[bY,bY,bY,bN,bN,bN,bN,bN,bN,bN] rfl rfl (any_of HT_.out (by kernel_rfl)) (fun _ _ _ h => h) (Or.inl ⟨by rfl, ?_⟩) ?_ ?_
        rotate_left
        ·intro w'
         go_simp
         with_reducible rfl
        rotate_left
        ·simp only [Act.put, List.setIfInBounds_toArray, List.set_cons_zero, List.set_cons_succ, i64_w, i32_w]
         rfl
        refine pure_ (i := 4) (N := some 21) (v := ?_) (a' := ?_) #[bY,bY,bY,bN,bY,bN,bN,bN,bN,bN] rfl rfl (any_of HT_.out (by kernel_rfl)) (fun _ _ _ h => h) (Or.inl ⟨by rfl, ?_⟩) ?_ ?_
        rotate_left
        ·intro w'
         go_simp
         with_reducible rfl
        rotate_left
        ·simp only [Act.put, List.setIfInBounds_toArray, List.set_cons_zero, List.set_cons_succ, i64_w, i32_w]
         rfl
        refine pure_ (i := 5) (N := some 22) (v := ?_) (a' := ?_) #[bY,bY,bY,bN,bY,bY,bN,bN,bN,bN] rfl rfl (any_of HT_.out (by kernel_rfl)) (fun _ _ _ h => h) (Or.inl ⟨by rfl, ?_⟩) ?_ ?_
        rotate_left
        ·intro w'
         go_simp
         with_reducible rfl
        rotate_left
        ·simp only [Act.put, List.setIfInBounds_toArray, List.set_cons_zero, List.set_cons_succ, i64_w, i32_w]
         rfl
        refine pure_ (i := 6) (N := some 23) (v := ?_) (a' := ?_) #[bY,bY,bY,bN,bY,bY,bY,bN,bN,bN] rfl rfl (any_of HT_.out (by kernel_rfl)) (fun _ _ _ h => h) (Or.inl ⟨by rfl, ?_⟩) ?_ ?_
        rotate_left
        ·intro w'
         go_simp
         with_reducible rfl
        rotate_left
        ·simp only [Act.put, List.setIfInBounds_toArray, List.set_cons_zero, List.set_cons_succ, i64_w, i32_w]
         rfl
        refine take_ (i := 3) (N := some 20) (v := ?_) (a' := ?_) #[bY,bY,bY,bY,bY,bY,bY,bN,bN,bN] rfl rfl (take_ofW HT_.out HW_.out (by kernel_rfl)) (fun _ _ _ h => h) (Or.inl ⟨by rfl, ?_⟩) hHeld ?_ ?_
        rotate_left
        ·rintro w' ⟨s0, s1, s2, s3⟩
         go_simp
         with_reducible rfl
        rotate_left
        ·simp only [Act.put, List.setIfInBounds_toArray, List.set_cons_zero, List.set_cons_succ, i64_w, i32_w]
         rfl
        refine take_ (i := 7) (N := some 24) (v := ?_) (a' := ?_) #[bY,bY,bY,bY,bY,bY,bY,bY,bN,bN] rfl rfl (take_ofW HT_.out HW_.out (by kernel_rfl)) (fun _ _ _ h => h) (Or.inl ⟨by rfl, ?_⟩) hHeld ?_ ?_
        rotate_left
        ·rintro w' ⟨s0, s1, s2, s3⟩
         go_simp
         with_reducible rfl
        rotate_left
        ·simp only [Act.put, List.setIfInBounds_toArray, List.set_cons_zero, List.set_cons_succ, i64_w, i32_w]
         rfl
        refine one_ (i := 8) (N := some 25) #[bY,bY,bY,bY,bY,bY,bY,bY,bY,bN] rfl rfl (one_of HT_.out (by kernel_rfl)) (by decide) (fun K hK => ?_)
        refine goes_ Try.func143 (by kernel_rfl) rfl #[.agg #[.int .i64 ((rd_Gate l0 x5_1).f0), .int .i64 ((rd_Gate l0 x5_1).f1)], .agg #[.int .i64 ((rd_Gate l1 x5_1).f0), .int .i64 ((rd_Gate l1 x5_1).f1)]] (by rfl) rfl rfl (by (try simp only [List.map_toArray, List.map_cons, List.map_nil]); first | done | rfl | (simp only [List.length_drop, List.length_take]; rfl)) ?_
        with_reducible refine (laws_eqGate.calls ((rd_Gate l0 x5_1).f0) ((rd_Gate l0 x5_1).f1) ((rd_Gate l1 x5_1).f0) ((rd_Gate l1 x5_1).f1) false _ A7.out).mono ?_
        rintro e w12 ⟨rfl, hb⟩
        refine ⟨_, rfl, ?_⟩
        have n0_ := Aside0.mk (below_step (by repeat (first | (with_reducible first | exact HB.out | apply below_alloc | apply pw_below_drewN | apply below_drew1) | exact HB.out)) hb)
        clear HB
        have HB := n0_
        clear n0_
        (try clear hb)
        (try clear hb2)
        (try clear hk)
        (try clear hi)
        refine hK.out _ _ ⟨((HB.out.cell (World.block_lt_of_cell? w _ hw667_0)).trans hw667_0), ((HB.out.cell (World.block_lt_of_cell? w _ hw667_1)).trans hw667_1), ((HB.out.cell (World.block_lt_of_cell? w _ hw668_0)).trans hw668_0), ((HB.out.cell (World.block_lt_of_cell? w _ hw668_1)).trans hw668_1)⟩ (fun hHeld => ?_)
        clear hK K
        refine norm_ (a' := ?_) ?_ ?_
        rotate_left
        ·show Act.put _ (some 25) _ = _
         simp only [Act.put, List.setIfInBounds_toArray, List.set_cons_zero, List.set_cons_succ, i64_w, i32_w]
         rfl
        refine pure_ (i := 9) (N := some 26) (v := ?_) (a' := ?_) #[bY,bY,bY,bY,bY,bY,bY,bY,bY,bY] rfl rfl (any_of HT_.out (by kernel_rfl)) (fun _ _ _ h => h) (Or.inl ⟨by rfl, ?_⟩) ?_ ?_
        rotate_left
        ·intro w'
         go_simp
         with_reducible rfl
        rotate_left
        ·simp only [Act.put, List.setIfInBounds_toArray, List.set_cons_zero, List.set_cons_succ, i64_w, i32_w]
         rfl
        refine done_ (done_of HT_.out (by kernel_rfl)) ?_
        try go_wp2
        go_ret
        exact ⟨by first | rfl | (simp [errW_none, errW_some] <;> rfl) | (simp [*, errW_none, errW_some] <;> rfl), by repeat (first | (with_reducible first | exact HB.out | apply below_alloc | apply pw_below_drewN | apply below_drew1) | exact HB.out)⟩
      ·rw [if_neg c6] at H
       exact absurd H (by simp)
     ·rw [if_neg c5] at H
      exact absurd H (by simp)
    ·rw [if_neg c4] at H
     have c4b0 : decide (x5_1 < (l0.length : Int)) = false := decide_eq_false c4
     clear c4
     obtain rfl := Option.some.inj H
     go_wp2
     go_ret
     exact ⟨by first | rfl | (simp [errW_none, errW_some] <;> rfl) | (simp [*, errW_none, errW_some] <;> rfl), by repeat (first | (with_reducible first | exact HB.out | apply below_alloc | apply pw_below_drewN | apply below_drew1) | exact HB.out)⟩
 ·rw [if_neg c3] at H
  have c3b0 : ((l0.length : Int) == (l1.length : Int)) = false := beq_eq_false_iff_ne.mpr c3
  have c3b1 : ((l0.length : Int) != (l1.length : Int)) = true := bne_iff_ne.mpr c3
  have c3b2 : (l0.length == l1.length) = false := by first | simpa using c3 | (simp at c3 ⊢; omega)
  obtain rfl := Option.some.inj H
  go_enter Try.func89, Try.ntmps89
  go_wp2
  go_ret
  exact ⟨by first | rfl | (simp [errW_none, errW_some] <;> rfl) | (simp [*, errW_none, errW_some] <;> rfl), by repeat (first | (with_reducible first | exact HB.out | apply below_alloc | apply pw_below_drewN | apply below_drew1) | exact HB.out)⟩
set_option maxHeartbeats 8000000 in
set_option maxRecDepth 100000 in
theorem laws_eqTimed.calls (k : Nat) (a0_0 : Int) (a0_1 : Int) (a0_2 : Int) (a0_3 : Int) (A0_4 : Option Addr) (c0_4 : Nat) (l0_4 : List (SGate)) (a1_0 : Int) (a1_1 : Int) (a1_2 : Int) (a1_3 : Int) (A1_4 : Option Addr) (c1_4 : Nat) (l1_4 : List (SGate)) (r : Bool) (w : World) (hr0_4 : Kd.C k137 w A0_4 l0_4.length l0_4) (hc0_4 : l0_4.length ≤ c0_4) (hr1_4 : Kd.C k137 w A1_4 l1_4.length l1_4) (hc1_4 : l1_4.length ≤ c1_4) (h : laws_eqTimed.f k a0_0 a0_1 a0_2 a0_3 l0_4 a1_0 a1_1 a1_2 a1_3 l1_4 = some r) :
  Calls Try.prog 39 #[.agg #[.int .i64 a0_0, .int .i64 a0_1, .int .i64 a0_2, .int .i64 a0_3, .slice A0_4 l0_4.length c0_4], .agg #[.int .i64 a1_0, .int .i64 a1_1, .int .i64 a1_2, .int .i64 a1_3, .slice A1_4 l1_4.length c1_4]] w fun e w' => e = .returned (.bool r) ∧ Below w.heap.size w w' := by
 have hu58 := Try.underlying58
 have hu32 := Try.underlying32
 have HR0_4 := Aside0.mk hr0_4
 have HC0_4 := Aside0.mk hc0_4
 clear hr0_4 hc0_4
 have HR1_4 := Aside0.mk hr1_4
 have HC1_4 := Aside0.mk hc1_4
 clear hr1_4 hc1_4
 have HB := Aside0.mk (Below.refl w.heap.size w)
 have H : ((laws_eqMaze.f a0_0 a0_1 a0_2 a1_0 a1_1 a1_2).bind fun t672 => (if t672 = true then (if a0_3 = a1_3 then ((laws_eqGateS.f k l0_4 l1_4).bind fun t673 => (if t673 = true then (some true) else (some false))) else (some false)) else (some false))) = some r := h
 clear h
 replace H := Option.bind_eq_some_iff.mp H
 obtain ⟨t672, A30, H⟩ := H
 replace H : (if t672 = true then (if a0_3 = a1_3 then ((laws_eqGateS.f k l0_4 l1_4).bind fun t673 => (if t673 = true then (some true) else (some false))) else (some false)) else (some false)) = some r := H
 have A3 := Aside0.mk A30
 clear A30
 by_cases c4 : t672 = true
 ·subst c4
  have H1 : (if a0_3 = a1_3 then ((laws_eqGateS.f k l0_4 l1_4).bind fun t673 => (if t673 = true then (some true) else (some false))) else (some false)) = some r := by rw [if_pos rfl] at H; exact H
  clear H
  have H := H1
  clear H1
  by_cases c5 : a0_3 = a1_3
  ·rw [if_pos c5] at H
   have c5b0 : (a0_3 == a1_3) = true := beq_iff_eq.mpr c5
   have c5b1 : (a0_3 != a1_3) = false := bne_eq_false_iff_eq.mpr c5
   clear c5
   replace H := Option.bind_eq_some_iff.mp H
   obtain ⟨t673, A60, H⟩ := H
   replace H : (if t673 = true then (some true) else (some false)) = some r := H
   have A6 := Aside0.mk A60
   clear A60
   by_cases c7 : t673 = true
   ·subst c7
    have H1 : (some true) = some r := by rw [if_pos rfl] at H; exact H
    clear H
    have H := H1
    clear H1
    obtain rfl := Option.some.inj H
    go_enter Try.func39, Try.ntmps39
    go_wp2_with (first | ((with_reducible refine gate_dst (N := 2) rfl ?_); refine box_event ?hg (N := 2) ?hd (cs := #[.int .i64 a0_0, .int .i64 a0_1, .int .i64 a0_2, .int .i64 a0_3, .slice A0_4 l0_4.length c0_4]) (t := 58) ?hr ?_; (case hd => rfl); (case hg => rfl); (case hr => first | (go_simp; done) | (go_simp; rfl)); intro gb670 hg w8 hbox hb; have n0_ := Aside0.mk (below_step (by repeat (first | (with_reducible first | exact HB.out | apply below_alloc | apply pw_below_drewN | apply below_drew1) | exact HB.out)) hb); have n1_ := Aside0.mk (hbox); have n2_ := Aside0.mk ((by rw [hg]; exact (below_size (by repeat (first | (with_reducible first | exact HB.out | apply below_alloc | apply pw_below_drewN | apply below_drew1) | exact HB.out))) : w.heap.size ≤ gb670)); have n3_ := Aside0.mk ((by rw [hg]; exact (below_size (by repeat (first | (with_reducible first | exact HB.out | apply below_alloc | apply pw_below_drewN | apply below_drew1) | exact HB.out))) : w.heap.size ≤ gb670)); clear HB; have HB := n0_; have BK670 := n1_; have GW670 := n2_; have GE670 := n3_; clear n0_ n1_ n2_ n3_; clear hb hbox hg) | ((with_reducible refine gate_dst (N := 3) rfl ?_); refine box_event ?hg (N := 3) ?hd (cs := #[.int .i64 a1_0, .int .i64 a1_1, .int .i64 a1_2, .int .i64 a1_3, .slice A1_4 l1_4.length c1_4]) (t := 58) ?hr ?_; (case hd => rfl); (case hg => rfl); (case hr => first | (go_simp; done) | (go_simp; rfl)); intro gb671 hg w9 hbox hb; have n0_ := Aside0.mk (blk_below (g := gb670) (o := .cells #[.int .i64 a0_0, .int .i64 a0_1, .int .i64 a0_2, .int .i64 a0_3, .slice A0_4 l0_4.length c0_4] 58 (0, 0)) (by (with_reducible repeat (first | refine blk_drewN ?_ _ | refine blk_drew ?_ | refine blk_alloc ?_ _)); exact BK670.out) hb); have n1_ := Aside0.mk (below_step (by repeat (first | (with_reducible first | exact HB.out | apply below_alloc | apply pw_below_drewN | apply below_drew1 | refine below_set ?_ GE670.out) | exact HB.out)) hb); have n2_ := Aside0.mk (hbox); have n3_ := Aside0.mk ((by rw [hg]; exact (below_size (by repeat (first | (with_reducible first | exact HB.out | apply below_alloc | apply pw_below_drewN | apply below_drew1 | refine below_set ?_ GE670.out) | exact HB.out))) : w.heap.size ≤ gb671)); have n4_ := Aside0.mk ((by rw [hg]; exact (below_size (by repeat (first | (with_reducible first | exact HB.out | apply below_alloc | apply pw_below_drewN | apply below_drew1 | refine below_set ?_ GE670.out) | exact HB.out))) : w.heap.size ≤ gb671)); have n5_ := Aside0.mk ((by rw [hg]; exact Nat.ne_of_lt (blk_lt (g := gb670) (o := .cells #[.int .i64 a0_0, .int .i64 a0_1, .int .i64 a0_2, .int .i64 a0_3, .slice A0_4 l0_4.length c0_4] 58 (0, 0)) (by (with_reducible repeat (first | refine blk_drewN ?_ _ | refine blk_drew ?_ | refine blk_alloc ?_ _)); exact BK670.out)) : gb670 ≠ gb671)); have n6_ := Aside0.mk ((by rw [hg]; exact Nat.ne_of_gt (blk_lt (g := gb670) (o := .cells #[.int .i64 a0_0, .int .i64 a0_1, .int .i64 a0_2, .int .i64 a0_3, .slice A0_4 l0_4.length c0_4] 58 (0, 0)) (by (with_reducible repeat (first | refine blk_drewN ?_ _ | refine blk_drew ?_ | refine blk_alloc ?_ _)); exact BK670.out)) : gb671 ≠ gb670)); clear BK670; clear HB; have BK670 := n0_; have HB := n1_; have BK671 := n2_; have GW671 := n3_; have GE671 := n4_; have NB670_671 := n5_; have NB671_670 := n6_; clear n0_ n1_ n2_ n3_ n4_ n5_ n6_; clear hb hbox hg; have hnb10 := NB670_671.out; have hnc10 := NB671_670.out; have hcz11_0 : w9.cell? ⟨gb670, 0, none⟩ = some (.int .i64 a0_0) := (blk_cell BK670.out 0).trans rfl; have hcz11_1 : w9.cell? ⟨gb670, 1, none⟩ = some (.int .i64 a0_1) := (blk_cell BK670.out 1).trans rfl; have hcz11_2 : w9.cell? ⟨gb670, 2, none⟩ = some (.int .i64 a0_2) := (blk_cell BK670.out 2).trans rfl; have hcz11_3 : w9.cell? ⟨gb670, 3, none⟩ = some (.int .i64 a0_3) := (blk_cell BK670.out 3).trans rfl; have hcz11_4 : w9.cell? ⟨gb670, 4, none⟩ = some (.slice A0_4 l0_4.length c0_4) := (blk_cell BK670.out 4).trans rfl; have hfz11_0 := blk_frozen BK670.out 0; have hfz11_1 := blk_frozen BK670.out 1; have hfz11_2 := blk_frozen BK670.out 2; have hfz11_3 := blk_frozen BK670.out 3; have hfz11_4 := blk_frozen BK670.out 4; have hcz12_0 : w9.cell? ⟨gb671, 0, none⟩ = some (.int .i64 a1_0) := (blk_cell BK671.out 0).trans rfl; have hcz12_1 : w9.cell? ⟨gb671, 1, none⟩ = some (.int .i64 a1_1) := (blk_cell BK671.out 1).trans rfl; have hcz12_2 : w9.cell? ⟨gb671, 2, none⟩ = some (.int .i64 a1_2) := (blk_cell BK671.out 2).trans rfl; have hcz12_3 : w9.cell? ⟨gb671, 3, none⟩ = some (.int .i64 a1_3) := (blk_cell BK671.out 3).trans rfl; have hcz12_4 : w9.cell? ⟨gb671, 4, none⟩ = some (.slice A1_4 l1_4.length c1_4) := (blk_cell BK671.out 4).trans rfl; have hfz12_0 := blk_frozen BK671.out 0; have hfz12_1 := blk_frozen BK671.out 1; have hfz12_2 := blk_frozen BK671.out 2; have hfz12_3 := blk_frozen BK671.out 3; have hfz12_4 := blk_frozen BK671.out 4) | ((with_reducible refine gate_callee (f := 88) rfl ?_); refine goesL_ (some 9) rfl rfl Try.func88 (by kernel_rfl) rfl #[.agg #[.int .i64 a0_0, .int .i64 a0_1, .int .i64 a0_2], .agg #[.int .i64 a1_0, .int .i64 a1_1, .int .i64 a1_2]] rfl (by (try simp only [List.map_toArray, List.map_cons, List.map_nil]); first | done | rfl | (simp only [List.length_drop, List.length_take]; rfl)) ?_; (with_reducible refine (laws_eqMaze.calls a0_0 a0_1 a0_2 a1_0 a1_1 a1_2 true _ A3.out).mono ?_); rintro e w13 ⟨rfl, hb⟩; refine ⟨_, rfl, ?_⟩; have n0_ := Aside0.mk (blk_below (g := gb670) (o := .cells #[.int .i64 a0_0, .int .i64 a0_1, .int .i64 a0_2, .int .i64 a0_3, .slice A0_4 l0_4.length c0_4] 58 (0, 0)) (by (with_reducible repeat (first | refine blk_drewN ?_ _ | refine blk_drew ?_ | refine blk_alloc ?_ _)); exact BK670.out) hb); have n1_ := Aside0.mk (blk_below (g := gb671) (o := .cells #[.int .i64 a1_0, .int .i64 a1_1, .int .i64 a1_2, .int .i64 a1_3, .slice A1_4 l1_4.length c1_4] 58 (0, 0)) (by (with_reducible repeat (first | refine blk_drewN ?_ _ | refine blk_drew ?_ | refine blk_alloc ?_ _)); exact BK671.out) hb); have n2_ := Aside0.mk (below_step (by repeat (first | (with_reducible first | exact HB.out | apply below_alloc | apply pw_below_drewN | apply below_drew1 | refine below_set ?_ GE670.out | refine below_set ?_ GE671.out) | exact HB.out)) hb); clear BK670; clear BK671; clear HB; have BK670 := n0_; have BK671 := n1_; have HB := n2_; clear n0_ n1_ n2_; (try clear hb); (try clear hb2); (try clear hk); (try clear hi); have hcz14_0 : w13.cell? ⟨gb670, 0, none⟩ = some (.int .i64 a0_0) := (blk_cell BK670.out 0).trans rfl; have hcz14_1 : w13.cell? ⟨gb670, 1, none⟩ = some (.int .i64 a0_1) := (blk_cell BK670.out 1).trans rfl; have hcz14_2 : w13.cell? ⟨gb670, 2, none⟩ = some (.int .i64 a0_2) := (blk_cell BK670.out 2).trans rfl; have hcz14_3 : w13.cell? ⟨gb670, 3, none⟩ = some (.int .i64 a0_3) := (blk_cell BK670.out 3).trans rfl; have hcz14_4 : w13.cell? ⟨gb670, 4, none⟩ = some (.slice A0_4 l0_4.length c0_4) := (blk_cell BK670.out 4).trans rfl; have hfz14_0 := blk_frozen BK670.out 0; have hfz14_1 := blk_frozen BK670.out 1; have hfz14_2 := blk_frozen BK670.out 2; have hfz14_3 := blk_frozen BK670.out 3; have hfz14_4 := blk_frozen BK670.out 4; have hcz15_0 : w13.cell? ⟨gb671, 0, none⟩ = some (.int .i64 a1_0) := (blk_cell BK671.out 0).trans rfl; have hcz15_1 : w13.cell? ⟨gb671, 1, none⟩ = some (.int .i64 a1_1) := (blk_cell BK671.out 1).trans rfl; have hcz15_2 : w13.cell? ⟨gb671, 2, none⟩ = some (.int .i64 a1_2) := (blk_cell BK671.out 2).trans rfl; have hcz15_3 : w13.cell? ⟨gb671, 3, none⟩ = some (.int .i64 a1_3) := (blk_cell BK671.out 3).trans rfl; have hcz15_4 : w13.cell? ⟨gb671, 4, none⟩ = some (.slice A1_4 l1_4.length c1_4) := (blk_cell BK671.out 4).trans rfl; have hfz15_0 := blk_frozen BK671.out 0; have hfz15_1 := blk_frozen BK671.out 1; have hfz15_2 := blk_frozen BK671.out 2; have hfz15_3 := blk_frozen BK671.out 3; have hfz15_4 := blk_frozen BK671.out 4) | ((with_reducible refine gate_callee (f := 89) rfl ?_); refine goesL_ (some 20) rfl rfl Try.func89 (by kernel_rfl) rfl #[.slice A0_4 l0_4.length c0_4, .slice A1_4 l1_4.length c1_4] rfl (by (try simp only [List.map_toArray, List.map_cons, List.map_nil]); first | done | rfl | (simp only [List.length_drop, List.length_take]; rfl)) ?_; (with_reducible refine (laws_eqGateS.calls k _ _ l0_4 _ _ l1_4 true _ ?side1 ?side2 ?side3 ?side4 A6.out).mono ?_); (case side1 => repeat (first | exact (Kd.C_below HR0_4.out HB.out) | (with_reducible refine Kd.C_alloc ?_ _) | (with_reducible refine Kd.C_drewN ?_ _) | (with_reducible refine Kd.C_drew ?_))); (case side2 => exact HC0_4.out); (case side3 => repeat (first | exact (Kd.C_below HR1_4.out HB.out) | (with_reducible refine Kd.C_alloc ?_ _) | (with_reducible refine Kd.C_drewN ?_ _) | (with_reducible refine Kd.C_drew ?_))); (case side4 => exact HC1_4.out); rintro e w16 ⟨rfl, hb⟩; refine ⟨_, rfl, ?_⟩; have n0_ := Aside0.mk (blk_below (g := gb670) (o := .cells #[.int .i64 a0_0, .int .i64 a0_1, .int .i64 a0_2, .int .i64 a0_3, .slice A0_4 l0_4.length c0_4] 58 (0, 0)) (by (with_reducible repeat (first | refine blk_drewN ?_ _ | refine blk_drew ?_ | refine blk_alloc ?_ _)); exact BK670.out) hb); have n1_ := Aside0.mk (blk_below (g := gb671) (o := .cells #[.int .i64 a1_0, .int .i64 a1_1, .int .i64 a1_2, .int .i64 a1_3, .slice A1_4 l1_4.length c1_4] 58 (0, 0)) (by (with_reducible repeat (first | refine blk_drewN ?_ _ | refine blk_drew ?_ | refine blk_alloc ?_ _)); exact BK671.out) hb); have n2_ := Aside0.mk (below_step (by repeat (first | (with_reducible first | exact HB.out | apply below_alloc | apply pw_below_drewN | apply below_drew1 | refine below_set ?_ GE670.out | refine below_set ?_ GE671.out) | exact HB.out)) hb); clear BK670; clear BK671; clear HB; have BK670 := n0_; have BK671 := n1_; have HB := n2_; clear n0_ n1_ n2_; (try clear hb); (try clear hb2); (try clear hk); (try clear hi)))
    go_ret
    exact ⟨by first | rfl | (simp [errW_none, errW_some] <;> rfl) | (simp [*, errW_none, errW_some] <;> rfl), by repeat (first | (with_reducible first | exact HB.out | apply below_alloc | apply pw_below_drewN | apply below_drew1 | refine below_set ?_ GE670.out | refine below_set ?_ GE671.out) | exact HB.out)⟩
   ·replace c7 := Bool.eq_false_iff.mpr c7
    subst c7
    have H1 : (some false) = some r := by rw [if_neg (show ¬ (false = true) by decide)] at H; exact H
    clear H
    have H := H1
    clear H1
    obtain rfl := Option.some.inj H
    go_enter Try.func39, Try.ntmps39
    go_wp2_with (first | ((with_reducible refine gate_dst (N := 2) rfl ?_); refine box_event ?hg (N := 2) ?hd (cs := #[.int .i64 a0_0, .int .i64 a0_1, .int .i64 a0_2, .int .i64 a0_3, .slice A0_4 l0_4.length c0_4]) (t := 58) ?hr ?_; (case hd => rfl); (case hg => rfl); (case hr => first | (go_simp; done) | (go_simp; rfl)); intro gb670 hg w17 hbox hb; have n0_ := Aside0.mk (below_step (by repeat (first | (with_reducible first | exact HB.out | apply below_alloc | apply pw_below_drewN | apply below_drew1) | exact HB.out)) hb); have n1_ := Aside0.mk (hbox); have n2_ := Aside0.mk ((by rw [hg]; exact (below_size (by repeat (first | (with_reducible first | exact HB.out | apply below_alloc | apply pw_below_drewN | apply below_drew1) | exact HB.out))) : w.heap.size ≤ gb670)); have n3_ := Aside0.mk ((by rw [hg]; exact (below_size (by repeat (first | (with_reducible first | exact HB.out | apply below_alloc | apply pw_below_drewN | apply below_drew1) | exact HB.out))) : w.heap.size ≤ gb670)); clear HB; have HB := n0_; have BK670 := n1_; have GW670 := n2_; have GE670 := n3_; clear n0_ n1_ n2_ n3_; clear hb hbox hg) | ((with_reducible refine gate_dst (N := 3) rfl ?_); refine box_event ?hg (N := 3) ?hd (cs := #[.int .i64 a1_0, .int .i64 a1_1, .int .i64 a1_2, .int .i64 a1_3, .slice A1_4 l1_4.length c1_4]) (t := 58) ?hr ?_; (case hd => rfl); (case hg => rfl); (case hr => first | (go_simp; done) | (go_simp; rfl)); intro gb671 hg w18 hbox hb; have n0_ := Aside0.mk (blk_below (g := gb670) (o := .cells #[.int .i64 a0_0, .int .i64 a0_1, .int .i64 a0_2, .int .i64 a0_3, .slice A0_4 l0_4.length c0_4] 58 (0, 0)) (by (with_reducible repeat (first | refine blk_drewN ?_ _ | refine blk_drew ?_ | refine blk_alloc ?_ _)); exact BK670.out) hb); have n1_ := Aside0.mk (below_step (by repeat (first | (with_reducible first | exact HB.out | apply below_alloc | apply pw_below_drewN | apply below_drew1 | refine below_set ?_ GE670.out) | exact HB.out)) hb); have n2_ := Aside0.mk (hbox); have n3_ := Aside0.mk ((by rw [hg]; exact (below_size (by repeat (first | (with_reducible first | exact HB.out | apply below_alloc | apply pw_below_drewN | apply below_drew1 | refine below_set ?_ GE670.out) | exact HB.out))) : w.heap.size ≤ gb671)); have n4_ := Aside0.mk ((by rw [hg]; exact (below_size (by repeat (first | (with_reducible first | exact HB.out | apply below_alloc | apply pw_below_drewN | apply below_drew1 | refine below_set ?_ GE670.out) | exact HB.out))) : w.heap.size ≤ gb671)); have n5_ := Aside0.mk ((by rw [hg]; exact Nat.ne_of_lt (blk_lt (g := gb670) (o := .cells #[.int .i64 a0_0, .int .i64 a0_1, .int .i64 a0_2, .int .i64 a0_3, .slice A0_4 l0_4.length c0_4] 58 (0, 0)) (by (with_reducible repeat (first | refine blk_drewN ?_ _ | refine blk_drew ?_ | refine blk_alloc ?_ _)); exact BK670.out)) : gb670 ≠ gb671)); have n6_ := Aside0.mk ((by rw [hg]; exact Nat.ne_of_gt (blk_lt (g := gb670) (o := .cells #[.int .i64 a0_0, .int .i64 a0_1, .int .i64 a0_2, .int .i64 a0_3, .slice A0_4 l0_4.length c0_4] 58 (0, 0)) (by (with_reducible repeat (first | refine blk_drewN ?_ _ | refine blk_drew ?_ | refine blk_alloc ?_ _)); exact BK670.out)) : gb671 ≠ gb670)); clear BK670; clear HB; have BK670 := n0_; have HB := n1_; have BK671 := n2_; have GW671 := n3_; have GE671 := n4_; have NB670_671 := n5_; have NB671_670 := n6_; clear n0_ n1_ n2_ n3_ n4_ n5_ n6_; clear hb hbox hg; have hnb19 := NB670_671.out; have hnc19 := NB671_670.out; have hcz20_0 : w18.cell? ⟨gb670, 0, none⟩ = some (.int .i64 a0_0) := (blk_cell BK670.out 0).trans rfl; have hcz20_1 : w18.cell? ⟨gb670, 1, none⟩ = some (.int .i64 a0_1) := (blk_cell BK670.out 1).trans rfl; have hcz20_2 : w18.cell? ⟨gb670, 2, none⟩ = some (.int .i64 a0_2) := (blk_cell BK670.out 2).trans rfl; have hcz20_3 : w18.cell? ⟨gb670, 3, none⟩ = some (.int .i64 a0_3) := (blk_cell BK670.out 3).trans rfl; have hcz20_4 : w18.cell? ⟨gb670, 4, none⟩ = some (.slice A0_4 l0_4.length c0_4) := (blk_cell BK670.out 4).trans rfl; have hfz20_0 := blk_frozen BK670.out 0; have hfz20_1 := blk_frozen BK670.out 1; have hfz20_2 := blk_frozen BK670.out 2; have hfz20_3 := blk_frozen BK670.out 3; have hfz20_4 := blk_frozen BK670.out 4; have hcz21_0 : w18.cell? ⟨gb671, 0, none⟩ = some (.int .i64 a1_0) := (blk_cell BK671.out 0).trans rfl; have hcz21_1 : w18.cell? ⟨gb671, 1, none⟩ = some (.int .i64 a1_1) := (blk_cell BK671.out 1).trans rfl; have hcz21_2 : w18.cell? ⟨gb671, 2, none⟩ = some (.int .i64 a1_2) := (blk_cell BK671.out 2).trans rfl; have hcz21_3 : w18.cell? ⟨gb671, 3, none⟩ = some (.int .i64 a1_3) := (blk_cell BK671.out 3).trans rfl; have hcz21_4 : w18.cell? ⟨gb671, 4, none⟩ = some (.slice A1_4 l1_4.length c1_4) := (blk_cell BK671.out 4).trans rfl; have hfz21_0 := blk_frozen BK671.out 0; have hfz21_1 := blk_frozen BK671.out 1; have hfz21_2 := blk_frozen BK671.out 2; have hfz21_3 := blk_frozen BK671.out 3; have hfz21_4 := blk_frozen BK671.out 4) | ((with_reducible refine gate_callee (f := 88) rfl ?_); refine goesL_ (some 9) rfl rfl Try.func88 (by kernel_rfl) rfl #[.agg #[.int .i64 a0_0, .int .i64 a0_1, .int .i64 a0_2], .agg #[.int .i64 a1_0, .int .i64 a1_1, .int .i64 a1_2]] rfl (by (try simp only [List.map_toArray, List.map_cons, List.map_nil]); first | done | rfl | (simp only [List.length_drop, List.length_take]; rfl)) ?_; (with_reducible refine (laws_eqMaze.calls a0_0 a0_1 a0_2 a1_0 a1_1 a1_2 true _ A3.out).mono ?_); rintro e w22 ⟨rfl, hb⟩; refine ⟨_, rfl, ?_⟩; have n0_ := Aside0.mk (blk_below (g := gb670) (o := .cells #[.int .i64 a0_0, .int .i64 a0_1, .int .i64 a0_2, .int .i64 a0_3, .slice A0_4 l0_4.length c0_4] 58 (0, 0)) (by (with_reducible repeat (first | refine blk_drewN ?_ _ | refine blk_drew ?_ | refine blk_alloc ?_ _)); exact BK670.out) hb); have n1_ := Aside0.mk (blk_below (g := gb671) (o := .cells #[.int .i64 a1_0, .int .i64 a1_1, .int .i64 a1_2, .int .i64 a1_3, .slice A1_4 l1_4.length c1_4] 58 (0, 0)) (by (with_reducible repeat (first | refine blk_drewN ?_ _ | refine blk_drew ?_ | refine blk_alloc ?_ _)); exact BK671.out) hb); have n2_ := Aside0.mk (below_step (by repeat (first | (with_reducible first | exact HB.out | apply below_alloc | apply pw_below_drewN | apply below_drew1 | refine below_set ?_ GE670.out | refine below_set ?_ GE671.out) | exact HB.out)) hb); clear BK670; clear BK671; clear HB; have BK670 := n0_; have BK671 := n1_; have HB := n2_; clear n0_ n1_ n2_; (try clear hb); (try clear hb2); (try clear hk); (try clear hi); have hcz23_0 : w22.cell? ⟨gb670, 0, none⟩ = some (.int .i64 a0_0) := (blk_cell BK670.out 0).trans rfl; have hcz23_1 : w22.cell? ⟨gb670, 1, none⟩ = some (.int .i64 a0_1) := (blk_cell BK670.out 1).trans rfl; have hcz23_2 : w22.cell? ⟨gb670, 2, none⟩ = some (.int .i64 a0_2) := (blk_cell BK670.out 2).trans rfl; have hcz23_3 : w22.cell? ⟨gb670, 3, none⟩ = some (.int .i64 a0_3) := (blk_cell BK670.out 3).trans rfl; have hcz23_4 : w22.cell? ⟨gb670, 4, none⟩ = some (.slice A0_4 l0_4.length c0_4) := (blk_cell BK670.out 4).trans rfl; have hfz23_0 := blk_frozen BK670.out 0; have hfz23_1 := blk_frozen BK670.out 1; have hfz23_2 := blk_frozen BK670.out 2; have hfz23_3 := blk_frozen BK670.out 3; have hfz23_4 := blk_frozen BK670.out 4; have hcz24_0 : w22.cell? ⟨gb671, 0, none⟩ = some (.int .i64 a1_0) := (blk_cell BK671.out 0).trans rfl; have hcz24_1 : w22.cell? ⟨gb671, 1, none⟩ = some (.int .i64 a1_1) := (blk_cell BK671.out 1).trans rfl; have hcz24_2 : w22.cell? ⟨gb671, 2, none⟩ = some (.int .i64 a1_2) := (blk_cell BK671.out 2).trans rfl; have hcz24_3 : w22.cell? ⟨gb671, 3, none⟩ = some (.int .i64 a1_3) := (blk_cell BK671.out 3).trans rfl; have hcz24_4 : w22.cell? ⟨gb671, 4, none⟩ = some (.slice A1_4 l1_4.length c1_4) := (blk_cell BK671.out 4).trans rfl; have hfz24_0 := blk_frozen BK671.out 0; have hfz24_1 := blk_frozen BK671.out 1; have hfz24_2 := blk_frozen BK671.out 2; have hfz24_3 := blk_frozen BK671.out 3; have hfz24_4 := blk_frozen BK671.out 4) | ((with_reducible refine gate_callee (f := 89) rfl ?_); refine goesL_ (some 20) rfl rfl Try.func89 (by kernel_rfl) rfl #[.slice A0_4 l0_4.length c0_4, .slice A1_4 l1_4.length c1_4] rfl (by (try simp only [List.map_toArray, List.map_cons, List.map_nil]); first | done | rfl | (simp only [List.length_drop, List.length_take]; rfl)) ?_; (with_reducible refine (laws_eqGateS.calls k _ _ l0_4 _ _ l1_4 false _ ?side1 ?side2 ?side3 ?side4 A6.out).mono ?_); (case side1 => repeat (first | exact (Kd.C_below HR0_4.out HB.out) | (with_reducible refine Kd.C_alloc ?_ _) | (with_reducible refine Kd.C_drewN ?_ _) | (with_reducible refine Kd.C_drew ?_))); (case side2 => exact HC0_4.out); (case side3 => repeat (first | exact (Kd.C_below HR1_4.out HB.out) | (with_reducible refine Kd.C_alloc ?_ _) | (with_reducible refine Kd.C_drewN ?_ _) | (with_reducible refine Kd.C_drew ?_))); (case side4 => exact HC1_4.out); rintro e w25 ⟨rfl, hb⟩; refine ⟨_, rfl, ?_⟩; have n0_ := Aside0.mk (blk_below (g := gb670) (o := .cells #[.int .i64 a0_0, .int .i64 a0_1, .int .i64 a0_2, .int .i64 a0_3, .slice A0_4 l0_4.length c0_4] 58 (0, 0)) (by (with_reducible repeat (first | refine blk_drewN ?_ _ | refine blk_drew ?_ | refine blk_alloc ?_ _)); exact BK670.out) hb); have n1_ := Aside0.mk (blk_below (g := gb671) (o := .cells #[.int .i64 a1_0, .int .i64 a1_1, .int .i64 a1_2, .int .i64 a1_3, .slice A1_4 l1_4.length c1_4] 58 (0, 0)) (by (with_reducible repeat (first | refine blk_drewN ?_ _ | refine blk_drew ?_ | refine blk_alloc ?_ _)); exact BK671.out) hb); have n2_ := Aside0.mk (below_step (by repeat (first | (with_reducible first | exact HB.out | apply below_alloc | apply pw_below_drewN | apply below_drew1 | refine below_set ?_ GE670.out | refine below_set ?_ GE671.out) | exact HB.out)) hb); clear BK670; clear BK671; clear HB; have BK670 := n0_; have BK671 := n1_; have HB := n2_; clear n0_ n1_ n2_; (try clear hb); (try clear hb2); (try clear hk); (try clear hi)))
    go_ret
    exact ⟨by first | rfl | (simp [errW_none, errW_some] <;> rfl) | (simp [*, errW_none, errW_some] <;> rfl), by repeat (first | (with_reducible first | exact HB.out | apply below_alloc | apply pw_below_drewN | apply below_drew1 | refine below_set ?_ GE670.out | refine below_set ?_ GE671.out) | exact HB.out)⟩
  ·rw [if_neg c5] at H
   have c5b0 : (a0_3 == a1_3) = false := beq_eq_false_iff_ne.mpr c5
   have c5b1 : (a0_3 != a1_3) = true := bne_iff_ne.mpr c5
   obtain rfl := Option.some.inj H
   go_enter Try.func39, Try.ntmps39
   go_wp2_with (first | ((with_reducible refine gate_dst (N := 2) rfl ?_); refine box_event ?hg (N := 2) ?hd (cs := #[.int .i64 a0_0, .int .i64 a0_1, .int .i64 a0_2, .int .i64 a0_3, .slice A0_4 l0_4.length c0_4]) (t := 58) ?hr ?_; (case hd => rfl); (case hg => rfl); (case hr => first | (go_simp; done) | (go_simp; rfl)); intro gb670 hg w26 hbox hb; have n0_ := Aside0.mk (below_step (by repeat (first | (with_reducible first | exact HB.out | apply below_alloc | apply pw_below_drewN | apply below_drew1) | exact HB.out)) hb); have n1_ := Aside0.mk (hbox); have n2_ := Aside0.mk ((by rw [hg]; exact (below_size (by repeat (first | (with_reducible first | exact HB.out | apply below_alloc | apply pw_below_drewN | apply below_drew1) | exact HB.out))) : w.heap.size ≤ gb670)); have n3_ := Aside0.mk ((by rw [hg]; exact (below_size (by repeat (first | (with_reducible first | exact HB.out | apply below_alloc | apply pw_below_drewN | apply below_drew1) | exact HB.out))) : w.heap.size ≤ gb670)); clear HB; have HB := n0_; have BK670 := n1_; have GW670 := n2_; have GE670 := n3_; clear n0_ n1_ n2_ n3_; clear hb hbox hg) | ((with_reducible refine gate_dst (N := 3) rfl ?_); refine box_event ?hg (N := 3) ?hd (cs := #[.int .i64 a1_0, .int .i64 a1_1, .int .i64 a1_2, .int .i64 a1_3, .slice A1_4 l1_4.length c1_4]) (t := 58) ?hr ?_; (case hd => rfl); (case hg => rfl); (case hr => first | (go_simp; done) | (go_simp; rfl)); intro gb671 hg w27 hbox hb; have n0_ := Aside0.mk (blk_below (g := gb670) (o := .cells #[.int .i64 a0_0, .int .i64 a0_1, .int .i64 a0_2, .int .i64 a0_3, .slice A0_4 l0_4.length c0_4] 58 (0, 0)) (by (with_reducible repeat (first | refine blk_drewN ?_ _ | refine blk_drew ?_ | refine blk_alloc ?_ _)); exact BK670.out) hb); have n1_ := Aside0.mk (below_step (by repeat (first | (with_reducible first | exact HB.out | apply below_alloc | apply pw_below_drewN | apply below_drew1 | refine below_set ?_ GE670.out) | exact HB.out)) hb); have n2_ := Aside0.mk (hbox); have n3_ := Aside0.mk ((by rw [hg]; exact (below_size (by repeat (first | (with_reducible first | exact HB.out | apply below_alloc | apply pw_below_drewN | apply below_drew1 | refine below_set ?_ GE670.out) | exact HB.out))) : w.heap.size ≤ gb671)); have n4_ := Aside0.mk ((by rw [hg]; exact (below_size (by repeat (first | (with_reducible first | exact HB.out | apply below_alloc | apply pw_below_drewN | apply below_drew1 | refine below_set ?_ GE670.out) | exact HB.out))) : w.heap.size ≤ gb671)); have n5_ := Aside0.mk ((by rw [hg]; exact Nat.ne_of_lt (blk_lt (g := gb670) (o := .cells #[.int .i64 a0_0, .int .i64 a0_1, .int .i64 a0_2, .int .i64 a0_3, .slice A0_4 l0_4.length c0_4] 58 (0, 0)) (by (with_reducible repeat (first | refine blk_drewN ?_ _ | refine blk_drew ?_ | refine blk_alloc ?_ _)); exact BK670.out)) : gb670 ≠ gb671)); have n6_ := Aside0.mk ((by rw [hg]; exact Nat.ne_of_gt (blk_lt (g := gb670) (o := .cells #[.int .i64 a0_0, .int .i64 a0_1, .int .i64 a0_2, .int .i64 a0_3, .slice A0_4 l0_4.length c0_4] 58 (0, 0)) (by (with_reducible repeat (first | refine blk_drewN ?_ _ | refine blk_drew ?_ | refine blk_alloc ?_ _)); exact BK670.out)) : gb671 ≠ gb670)); clear BK670; clear HB; have BK670 := n0_; have HB := n1_; have BK671 := n2_; have GW671 := n3_; have GE671 := n4_; have NB670_671 := n5_; have NB671_670 := n6_; clear n0_ n1_ n2_ n3_ n4_ n5_ n6_; clear hb hbox hg; have hnb28 := NB670_671.out; have hnc28 := NB671_670.out; have hcz29_0 : w27.cell? ⟨gb670, 0, none⟩ = some (.int .i64 a0_0) := (blk_cell BK670.out 0).trans rfl; have hcz29_1 : w27.cell? ⟨gb670, 1, none⟩ = some (.int .i64 a0_1) := (blk_cell BK670.out 1).trans rfl; have hcz29_2 : w27.cell? ⟨gb670, 2, none⟩ = some (.int .i64 a0_2) := (blk_cell BK670.out 2).trans rfl; have hcz29_3 : w27.cell? ⟨gb670, 3, none⟩ = some (.int .i64 a0_3) := (blk_cell BK670.out 3).trans rfl; have hcz29_4 : w27.cell? ⟨gb670, 4, none⟩ = some (.slice A0_4 l0_4.length c0_4) := (blk_cell BK670.out 4).trans rfl; have hfz29_0 := blk_frozen BK670.out 0; have hfz29_1 := blk_frozen BK670.out 1; have hfz29_2 := blk_frozen BK670.out 2; have hfz29_3 := blk_frozen BK670.out 3; have hfz29_4 := blk_frozen BK670.out 4; have hcz30_0 : w27.cell? ⟨gb671, 0, none⟩ = some (.int .i64 a1_0) := (blk_cell BK671.out 0).trans rfl; have hcz30_1 : w27.cell? ⟨gb671, 1, none⟩ = some (.int .i64 a1_1) := (blk_cell BK671.out 1).trans rfl; have hcz30_2 : w27.cell? ⟨gb671, 2, none⟩ = some (.int .i64 a1_2) := (blk_cell BK671.out 2).trans rfl; have hcz30_3 : w27.cell? ⟨gb671, 3, none⟩ = some (.int .i64 a1_3) := (blk_cell BK671.out 3).trans rfl; have hcz30_4 : w27.cell? ⟨gb671, 4, none⟩ = some (.slice A1_4 l1_4.length c1_4) := (blk_cell BK671.out 4).trans rfl; have hfz30_0 := blk_frozen BK671.out 0; have hfz30_1 := blk_frozen BK671.out 1; have hfz30_2 := blk_frozen BK671.out 2; have hfz30_3 := blk_frozen BK671.out 3; have hfz30_4 := blk_frozen BK671.out 4) | ((with_reducible refine gate_callee (f := 88) rfl ?_); refine goesL_ (some 9) rfl rfl Try.func88 (by kernel_rfl) rfl #[.agg #[.int .i64 a0_0, .int .i64 a0_1, .int .i64 a0_2], .agg #[.int .i64 a1_0, .int .i64 a1_1, .int .i64 a1_2]] rfl (by (try simp only [List.map_toArray, List.map_cons, List.map_nil]); first | done | rfl | (simp only [List.length_drop, List.length_take]; rfl)) ?_; (with_reducible refine (laws_eqMaze.calls a0_0 a0_1 a0_2 a1_0 a1_1 a1_2 true _ A3.out).mono ?_); rintro e w31 ⟨rfl, hb⟩; refine ⟨_, rfl, ?_⟩; have n0_ := Aside0.mk (blk_below (g := gb670) (o := .cells #[.int .i64 a0_0, .int .i64 a0_1, .int .i64 a0_2, .int .i64 a0_3, .slice A0_4 l0_4.length c0_4] 58 (0, 0)) (by (with_reducible repeat (first | refine blk_drewN ?_ _ | refine blk_drew ?_ | refine blk_alloc ?_ _)); exact BK670.out) hb); have n1_ := Aside0.mk (blk_below (g := gb671) (o := .cells #[.int .i64 a1_0, .int .i64 a1_1, .int .i64 a1_2, .int .i64 a1_3, .slice A1_4 l1_4.length c1_4] 58 (0, 0)) (by (with_reducible repeat (first | refine blk_drewN ?_ _ | refine blk_drew ?_ | refine blk_alloc ?_ _)); exact BK671.out) hb); have n2_ := Aside0.mk (below_step (by repeat (first | (with_reducible first | exact HB.out | apply below_alloc | apply pw_below_drewN | apply below_drew1 | refine below_set ?_ GE670.out | refine below_set ?_ GE671.out) | exact HB.out)) hb); clear BK670; clear BK671; clear HB; have BK670 := n0_; have BK671 := n1_; have HB := n2_; clear n0_ n1_ n2_; (try clear hb); (try clear hb2); (try clear hk); (try clear hi); have hcz32_0 : w31.cell? ⟨gb670, 0, none⟩ = some (.int .i64 a0_0) := (blk_cell BK670.out 0).trans rfl; have hcz32_1 : w31.cell? ⟨gb670, 1, none⟩ = some (.int .i64 a0_1) := (blk_cell BK670.out 1).trans rfl; have hcz32_2 : w31.cell? ⟨gb670, 2, none⟩ = some (.int .i64 a0_2) := (blk_cell BK670.out 2).trans rfl; have hcz32_3 : w31.cell? ⟨gb670, 3, none⟩ = some (.int .i64 a0_3) := (blk_cell BK670.out 3).trans rfl; have hcz32_4 : w31.cell? ⟨gb670, 4, none⟩ = some (.slice A0_4 l0_4.length c0_4) := (blk_cell BK670.out 4).trans rfl; have hfz32_0 := blk_frozen BK670.out 0; have hfz32_1 := blk_frozen BK670.out 1; have hfz32_2 := blk_frozen BK670.out 2; have hfz32_3 := blk_frozen BK670.out 3; have hfz32_4 := blk_frozen BK670.out 4; have hcz33_0 : w31.cell? ⟨gb671, 0, none⟩ = some (.int .i64 a1_0) := (blk_cell BK671.out 0).trans rfl; have hcz33_1 : w31.cell? ⟨gb671, 1, none⟩ = some (.int .i64 a1_1) := (blk_cell BK671.out 1).trans rfl; have hcz33_2 : w31.cell? ⟨gb671, 2, none⟩ = some (.int .i64 a1_2) := (blk_cell BK671.out 2).trans rfl; have hcz33_3 : w31.cell? ⟨gb671, 3, none⟩ = some (.int .i64 a1_3) := (blk_cell BK671.out 3).trans rfl; have hcz33_4 : w31.cell? ⟨gb671, 4, none⟩ = some (.slice A1_4 l1_4.length c1_4) := (blk_cell BK671.out 4).trans rfl; have hfz33_0 := blk_frozen BK671.out 0; have hfz33_1 := blk_frozen BK671.out 1; have hfz33_2 := blk_frozen BK671.out 2; have hfz33_3 := blk_frozen BK671.out 3; have hfz33_4 := blk_frozen BK671.out 4))
   go_ret
   exact ⟨by first | rfl | (simp [errW_none, errW_some] <;> rfl) | (simp [*, errW_none, errW_some] <;> rfl), by repeat (first | (with_reducible first | exact HB.out | apply below_alloc | apply pw_below_drewN | apply below_drew1 | refine below_set ?_ GE670.out | refine below_set ?_ GE671.out) | exact HB.out)⟩
 ·replace c4 := Bool.eq_false_iff.mpr c4
  subst c4
  have H1 : (some false) = some r := by rw [if_neg (show ¬ (false = true) by decide)] at H; exact H
  clear H
  have H := H1
  clear H1
  obtain rfl := Option.some.inj H
  go_enter Try.func39, Try.ntmps39
  go_wp2_with (first | ((with_reducible refine gate_dst (N := 2) rfl ?_); refine box_event ?hg (N := 2) ?hd (cs := #[.int .i64 a0_0, .int .i64 a0_1, .int .i64 a0_2, .int .i64 a0_3, .slice A0_4 l0_4.length c0_4]) (t := 58) ?hr ?_; (case hd => rfl); (case hg => rfl); (case hr => first | (go_simp; done) | (go_simp; rfl)); intro gb670 hg w34 hbox hb; have n0_ := Aside0.mk (below_step (by repeat (first | (with_reducible first | exact HB.out | apply below_alloc | apply pw_below_drewN | apply below_drew1) | exact HB.out)) hb); have n1_ := Aside0.mk (hbox); have n2_ := Aside0.mk ((by rw [hg]; exact (below_size (by repeat (first | (with_reducible first | exact HB.out | apply below_alloc | apply pw_below_drewN | apply below_drew1) | exact HB.out))) : w.heap.size ≤ gb670)); have n3_ := Aside0.mk ((by rw [hg]; exact (below_size (by repeat (first | (with_reducible first | exact HB.out | apply below_alloc | apply pw_below_drewN | apply below_drew1) | exact HB.out))) : w.heap.size ≤ gb670)); clear HB; have HB := n0_; have BK670 := n1_; have GW670 := n2_; have GE670 := n3_; clear n0_ n1_ n2_ n3_; clear hb hbox hg) | ((with_reducible refine gate_dst (N := 3) rfl ?_); refine box_event ?hg (N := 3) ?hd (cs := #[.int .i64 a1_0, .int .i64 a1_1, .int .i64 a1_2, .int .i64 a1_3, .slice A1_4 l1_4.length c1_4]) (t := 58) ?hr ?_; (case hd => rfl); (case hg => rfl); (case hr => first | (go_simp; done) | (go_simp; rfl)); intro gb671 hg w35 hbox hb; have n0_ := Aside0.mk (blk_below (g := gb670) (o := .cells #[.int .i64 a0_0, .int .i64 a0_1, .int .i64 a0_2, .int .i64 a0_3, .slice A0_4 l0_4.length c0_4] 58 (0, 0)) (by (with_reducible repeat (first | refine blk_drewN ?_ _ | refine blk_drew ?_ | refine blk_alloc ?_ _)); exact BK670.out) hb); have n1_ := Aside0.mk (below_step (by repeat (first | (with_reducible first | exact HB.out | apply below_alloc | apply pw_below_drewN | apply below_drew1 | refine below_set ?_ GE670.out) | exact HB.out)) hb); have n2_ := Aside0.mk (hbox); have n3_ := Aside0.mk ((by rw [hg]; exact (below_size (by repeat (first | (with_reducible first | exact HB.out | apply below_alloc | apply pw_below_drewN | apply below_drew1 | refine below_set ?_ GE670.out) | exact HB.out))) : w.heap.size ≤ gb671)); have n4_ := Aside0.mk ((by rw [hg]; exact (below_size (by repeat (first | (with_reducible first | exact HB.out | apply below_alloc | apply pw_below_drewN | apply below_drew1 | refine below_set ?_ GE670.out) | exact HB.out))) : w.heap.size ≤ gb671)); have n5_ := Aside0.mk ((by rw [hg]; exact Nat.ne_of_lt (blk_lt (g := gb670) (o := .cells #[.int .i64 a0_0, .int .i64 a0_1, .int .i64 a0_2, .int .i64 a0_3, .slice A0_4 l0_4.length c0_4] 58 (0, 0)) (by (with_reducible repeat (first | refine blk_drewN ?_ _ | refine blk_drew ?_ | refine blk_alloc ?_ _)); exact BK670.out)) : gb670 ≠ gb671)); have n6_ := Aside0.mk ((by rw [hg]; exact Nat.ne_of_gt (blk_lt (g := gb670) (o := .cells #[.int .i64 a0_0, .int .i64 a0_1, .int .i64 a0_2, .int .i64 a0_3, .slice A0_4 l0_4.length c0_4] 58 (0, 0)) (by (with_reducible repeat (first | refine blk_drewN ?_ _ | refine blk_drew ?_ | refine blk_alloc ?_ _)); exact BK670.out)) : gb671 ≠ gb670)); clear BK670; clear HB; have BK670 := n0_; have HB := n1_; have BK671 := n2_; have GW671 := n3_; have GE671 := n4_; have NB670_671 := n5_; have NB671_670 := n6_; clear n0_ n1_ n2_ n3_ n4_ n5_ n6_; clear hb hbox hg; have hnb36 := NB670_671.out; have hnc36 := NB671_670.out; have hcz37_0 : w35.cell? ⟨gb670, 0, none⟩ = some (.int .i64 a0_0) := (blk_cell BK670.out 0).trans rfl; have hcz37_1 : w35.cell? ⟨gb670, 1, none⟩ = some (.int .i64 a0_1) := (blk_cell BK670.out 1).trans rfl; have hcz37_2 : w35.cell? ⟨gb670, 2, none⟩ = some (.int .i64 a0_2) := (blk_cell BK670.out 2).trans rfl; have hcz37_3 : w35.cell? ⟨gb670, 3, none⟩ = some (.int .i64 a0_3) := (blk_cell BK670.out 3).trans rfl; have hcz37_4 : w35.cell? ⟨gb670, 4, none⟩ = some (.slice A0_4 l0_4.length c0_4) := (blk_cell BK670.out 4).trans rfl; have hfz37_0 := blk_frozen BK670.out 0; have hfz37_1 := blk_frozen BK670.out 1; have hfz37_2 := blk_frozen BK670.out 2; have hfz37_3 := blk_frozen BK670.out 3; have hfz37_4 := blk_frozen BK670.out 4; have hcz38_0 : w35.cell? ⟨gb671, 0, none⟩ = some (.int .i64 a1_0) := (blk_cell BK671.out 0).trans rfl; have hcz38_1 : w35.cell? ⟨gb671, 1, none⟩ = some (.int .i64 a1_1) := (blk_cell BK671.out 1).trans rfl; have hcz38_2 : w35.cell? ⟨gb671, 2, none⟩ = some (.int .i64 a1_2) := (blk_cell BK671.out 2).trans rfl; have hcz38_3 : w35.cell? ⟨gb671, 3, none⟩ = some (.int .i64 a1_3) := (blk_cell BK671.out 3).trans rfl; have hcz38_4 : w35.cell? ⟨gb671, 4, none⟩ = some (.slice A1_4 l1_4.length c1_4) := (blk_cell BK671.out 4).trans rfl; have hfz38_0 := blk_frozen BK671.out 0; have hfz38_1 := blk_frozen BK671.out 1; have hfz38_2 := blk_frozen BK671.out 2; have hfz38_3 := blk_frozen BK671.out 3; have hfz38_4 := blk_frozen BK671.out 4) | ((with_reducible refine gate_callee (f := 88) rfl ?_); refine goesL_ (some 9) rfl rfl Try.func88 (by kernel_rfl) rfl #[.agg #[.int .i64 a0_0, .int .i64 a0_1, .int .i64 a0_2], .agg #[.int .i64 a1_0, .int .i64 a1_1, .int .i64 a1_2]] rfl (by (try simp only [List.map_toArray, List.map_cons, List.map_nil]); first | done | rfl | (simp only [List.length_drop, List.length_take]; rfl)) ?_; (with_reducible refine (laws_eqMaze.calls a0_0 a0_1 a0_2 a1_0 a1_1 a1_2 false _ A3.out).mono ?_); rintro e w39 ⟨rfl, hb⟩; refine ⟨_, rfl, ?_⟩; have n0_ := Aside0.mk (blk_below (g := gb670) (o := .cells #[.int .i64 a0_0, .int .i64 a0_1, .int .i64 a0_2, .int .i64 a0_3, .slice A0_4 l0_4.length c0_4] 58 (0, 0)) (by (with_reducible repeat (first | refine blk_drewN ?_ _ | refine blk_drew ?_ | refine blk_alloc ?_ _)); exact BK670.out) hb); have n1_ := Aside0.mk (blk_below (g := gb671) (o := .cells #[.int .i64 a1_0, .int .i64 a1_1, .int .i64 a1_2, .int .i64 a1_3, .slice A1_4 l1_4.length c1_4] 58 (0, 0)) (by (with_reducible repeat (first | refine blk_drewN ?_ _ | refine blk_drew ?_ | refine blk_alloc ?_ _)); exact BK671.out) hb); have n2_ := Aside0.mk (below_step (by repeat (first | (with_reducible first | exact HB.out | apply below_alloc | apply pw_below_drewN | apply below_drew1 | refine below_set ?_ GE670.out | refine below_set ?_ GE671.out) | exact HB.out)) hb); clear BK670; clear BK671; clear HB; have BK670 := n0_; have BK671 := n1_; have HB := n2_; clear n0_ n1_ n2_; (try clear hb); (try clear hb2); (try clear hk); (try clear hi)))
  go_ret
  exact ⟨by first | rfl | (simp [errW_none, errW_some] <;> rfl) | (simp [*, errW_none, errW_some] <;> rfl), by repeat (first | (with_reducible first | exact HB.out | apply below_alloc | apply pw_below_drewN | apply below_drew1 | refine below_set ?_ GE670.out | refine below_set ?_ GE671.out) | exact HB.out)⟩
end Go.Proofs.Ytimejdhglmajdaa.F
end

section
namespace Go.Proofs.Ytimejdhglmajdaa.F
open Go.RowKit Go.Proofs.YtimejdhglmajdaaW.PrintWords Go.Proofs.YtimejdhglmajdaaW.PrintLast Go.Proofs.YtimejdhglmajdaaW.PrintMore
set_option linter.unusedVariables false
set_option linter.unusedSimpArgs false
def laws_FnExactCanFollow.f (k : Nat) (a0_0 : Int) (a0_1 : Int) (a0_2 : Int) (a0_3 : Int) (l0_4 : List (SlaGate)) (a1_0 : Int) (a1_1 : Int) (a2_0 : Int) (a2_1 : Int) : Option (Bool) := (laws_szTimed.f a0_0 a0_1 a0_2 a0_3 l0_4 1048576).bind fun t677 => (if t677 < 0 then (some true) else ((laws_toTimed.f k a0_0 a0_1 a0_2 a0_3 l0_4).bind fun bt678 => ((laws_toEntry.f a1_0 a1_1).bind fun bt685 => ((laws_toEntry.f a2_0 a2_1).bind fun bt687 => ((spec_CanFollow.f k bt678.1 bt678.2.1 bt678.2.2.1 bt678.2.2.2.1 bt678.2.2.2.2 bt685.1 bt685.2 bt687.1 bt687.2).bind fun t689 => ((laws_toTimed.f k a0_0 a0_1 a0_2 a0_3 l0_4).bind fun bt690 => ((laws_toEntry.f a1_0 a1_1).bind fun bt698 => ((laws_toEntry.f a2_0 a2_1).bind fun bt700 => ((impl_CanFollow.f bt690.1 bt690.2.1 bt690.2.2.1 bt690.2.2.2.1 bt690.2.2.2.2 bt698.1 bt698.2 bt700.1 bt700.2).bind fun t702 => (if (t702 != t689) = true then (some false) else ((laws_toTimed.f k a0_0 a0_1 a0_2 a0_3 l0_4).bind fun bt703 => ((laws_eqTimed.f k bt690.1 bt690.2.1 bt690.2.2.1 bt690.2.2.2.1 bt690.2.2.2.2 bt703.1 bt703.2.1 bt703.2.2.1 bt703.2.2.2.1 bt703.2.2.2.2).bind fun t710 => (if t710 = true then (some true) else (some false))))))))))))))
end Go.Proofs.Ytimejdhglmajdaa.F
end
