/- Packed by a program of the session (wip/tools/pack.py): what the claim's theorem reaches, of the texts that wip/ and the kit's printer lay. -/
import Derived.Test.YtimejdhglmajdaaPkFnExactRescueOrder5
import Derived.Deep.RegionHeld3
import Derived.Laws.EntriesVeiled
import Derived.Laws.StructEq
section
namespace Go.Proofs.Ytimejdhglmajdaa.F
open Go.RowKit Go.Proofs.YtimejdhglmajdaaW.PrintWords Go.Proofs.YtimejdhglmajdaaW.PrintLast Go.Proofs.YtimejdhglmajdaaW.PrintMore
set_option linter.unusedVariables false
set_option linter.unusedSimpArgs false
attribute [local go_sem] min2_int min_two
set_option maxHeartbeats 8000000 in
set_option maxRecDepth 100000 in
theorem spec_RescueLength.calls (k : Nat) (a0_0 : Int) (a0_1 : Int) (a0_2 : Int) (a1 : Int) (A2 : Option Addr) (c2 : Nat) (l2 : List Int) (r : Int) (w : World) (hr2 : Kd.C (Kd.int .i64) w A2 l2.length l2) (hc2 : l2.length ≤ c2) (h : spec_RescueLength.f k a0_0 a0_1 a0_2 a1 l2 = some r) :
  Calls Try.prog 25 #[.agg #[.int .i64 a0_0, .int .i64 a0_1, .int .i64 a0_2], .int .i64 a1, .slice A2 l2.length c2] w fun e w' => e = .returned (.int .i64 r) ∧ Below w.heap.size w w' := by
 have hu32 := Try.underlying32
 have HR2 := aK hr2
 have HC2 := aK hc2
 clear hr2 hc2
 have HB := aK (Below.refl w.heap.size w)
 have H : ((spec_l34Ok.f k a0_0 a0_1 a0_2 a1 l2).bind fun t315 => (if t315 = true then ((spec_l34Best.f k a0_0 a0_1 a0_2 a1 l2 (-1)).bind fun t316 => (some t316)) else (some (-1)))) = some r := h
 clear h
 replace H := Option.bind_eq_some_iff.mp H
 obtain ⟨t315, A40, H⟩ := H
 replace H : (if t315 = true then ((spec_l34Best.f k a0_0 a0_1 a0_2 a1 l2 (-1)).bind fun t316 => (some t316)) else (some (-1))) = some r := H
 have A4 := aK A40
 clear A40
 by_cases c5 : t315 = true
 ·subst c5
  have H1 : ((spec_l34Best.f k a0_0 a0_1 a0_2 a1 l2 (-1)).bind fun t316 => (some t316)) = some r := by rw [if_pos rfl] at H; exact H
  clear H
  have H := H1
  clear H1
  replace H := Option.bind_eq_some_iff.mp H
  obtain ⟨t316, A60, H⟩ := H
  replace H : (some t316) = some r := H
  have A6 := aK A60
  clear A60
  obtain rfl := Option.some.inj H
  go_enter Try.func25, Try.ntmps25
  go_wp2_with (first | ((with_reducible refine gate_dst (N := 3) rfl ?_); refine box_event ?hg (N := 3) ?hd (cs := #[.int .i64 a0_0, .int .i64 a0_1, .int .i64 a0_2]) (t := 32) ?hr ?_; (case hd => rfl); (case hg => rfl); (case hr => first | (go_simp; done) | (go_simp; rfl)); intro gb314 hg w7 hbox hb; have n0_ := aK (bSp (by repeat (first | (with_reducible first | exact HB.out | apply bAl | apply bDN | apply bD1) | exact HB.out)) hb); have n1_ := aK (hbox); have n2_ := aK ((by rw [hg]; exact (bSz (by repeat (first | (with_reducible first | exact HB.out | apply bAl | apply bDN | apply bD1) | exact HB.out))) : w.heap.size ≤ gb314)); have n3_ := n2_; clear HB; have HB := n0_; have BK314 := n1_; have GW314 := n2_; have GE314 := n3_; clear n0_ n1_ n2_ n3_; clear hb hbox hg; obtain ⟨hcz8_0, hcz8_1, hcz8_2, hfz8_0, hfz8_1, hfz8_2⟩ := cl3 BK314.out) | ((with_reducible refine gate_callee (f := 73) rfl ?_); refine goesL_ (some 10) rfl rfl Try.func73 (by kernel_rfl) rfl #[.agg #[.int .i64 a0_0, .int .i64 a0_1, .int .i64 a0_2], .int .i64 a1, .slice A2 l2.length c2] rfl (by (try simp only [List.map_toArray, List.map_cons, List.map_nil]); first | done | rfl | (simp only [List.length_drop, List.length_take]; rfl)) ?_; (with_reducible refine (spec_l34Ok.calls k a0_0 a0_1 a0_2 a1 _ _ l2 true _ ?side1 ?side2 A4.out).mono ?_); (case side1 => repeat (first | exact (Kd.C_below HR2.out HB.out) | (with_reducible refine Kd.C_alloc ?_ _) | (with_reducible refine Kd.C_drewN ?_ _) | (with_reducible refine Kd.C_drew ?_))); (case side2 => exact HC2.out); rintro e w9 ⟨rfl, hb⟩; refine ⟨_, rfl, ?_⟩; have n0_ := bkb BK314 hb (by intro z_; (with_reducible repeat (first | refine kDN ?_ _ | refine kD ?_ | refine kA ?_ _)); exact z_); have n1_ := aK (bSp (by repeat (first | (with_reducible first | exact HB.out | apply bAl | apply bDN | apply bD1 | refine bSt ?_ GE314.out) | exact HB.out)) hb); clear BK314; clear HB; have BK314 := n0_; have HB := n1_; clear n0_ n1_; (try clear hb); (try clear hb2); (try clear hk); (try clear hi); obtain ⟨hcz10_0, hcz10_1, hcz10_2, hfz10_0, hfz10_1, hfz10_2⟩ := cl3 BK314.out) | ((with_reducible refine gate_callee (f := 74) rfl ?_); refine goesL_ (some 15) rfl rfl Try.func74 (by kernel_rfl) rfl #[.agg #[.int .i64 a0_0, .int .i64 a0_1, .int .i64 a0_2], .int .i64 a1, .slice A2 l2.length c2, .int .i64 (-1)] rfl (by (try simp only [List.map_toArray, List.map_cons, List.map_nil]); first | done | rfl | (simp only [List.length_drop, List.length_take]; rfl)) ?_; (with_reducible refine (spec_l34Best.calls k a0_0 a0_1 a0_2 a1 _ _ l2 (-1) t316 _ ?side1 ?side2 A6.out).mono ?_); (case side1 => repeat (first | exact (Kd.C_below HR2.out HB.out) | (with_reducible refine Kd.C_alloc ?_ _) | (with_reducible refine Kd.C_drewN ?_ _) | (with_reducible refine Kd.C_drew ?_))); (case side2 => exact HC2.out); rintro e w11 ⟨rfl, hb⟩; refine ⟨_, rfl, ?_⟩; have n0_ := bkb BK314 hb (by intro z_; (with_reducible repeat (first | refine kDN ?_ _ | refine kD ?_ | refine kA ?_ _)); exact z_); have n1_ := aK (bSp (by repeat (first | (with_reducible first | exact HB.out | apply bAl | apply bDN | apply bD1 | refine bSt ?_ GE314.out) | exact HB.out)) hb); clear BK314; clear HB; have BK314 := n0_; have HB := n1_; clear n0_ n1_; (try clear hb); (try clear hb2); (try clear hk); (try clear hi)))
  go_ret
  exact ⟨by first | rfl | (simp [errW_none, errW_some] <;> rfl) | (simp [*, errW_none, errW_some] <;> rfl), by repeat (first | (with_reducible first | exact HB.out | apply bAl | apply bDN | apply bD1 | refine bSt ?_ GE314.out) | exact HB.out)⟩
 ·replace c5 := Bool.eq_false_iff.mpr c5
  subst c5
  have H1 : (some (-1)) = some r := by rw [if_neg (show ¬ (false = true) by decide)] at H; exact H
  clear H
  have H := H1
  clear H1
  obtain rfl := Option.some.inj H
  go_enter Try.func25, Try.ntmps25
  go_wp2_with (first | ((with_reducible refine gate_dst (N := 3) rfl ?_); refine box_event ?hg (N := 3) ?hd (cs := #[.int .i64 a0_0, .int .i64 a0_1, .int .i64 a0_2]) (t := 32) ?hr ?_; (case hd => rfl); (case hg => rfl); (case hr => first | (go_simp; done) | (go_simp; rfl)); intro gb314 hg w12 hbox hb; have n0_ := aK (bSp (by repeat (first | (with_reducible first | exact HB.out | apply bAl | apply bDN | apply bD1) | exact HB.out)) hb); have n1_ := aK (hbox); have n2_ := aK ((by rw [hg]; exact (bSz (by repeat (first | (with_reducible first | exact HB.out | apply bAl | apply bDN | apply bD1) | exact HB.out))) : w.heap.size ≤ gb314)); have n3_ := n2_; clear HB; have HB := n0_; have BK314 := n1_; have GW314 := n2_; have GE314 := n3_; clear n0_ n1_ n2_ n3_; clear hb hbox hg; obtain ⟨hcz13_0, hcz13_1, hcz13_2, hfz13_0, hfz13_1, hfz13_2⟩ := cl3 BK314.out) | ((with_reducible refine gate_callee (f := 73) rfl ?_); refine goesL_ (some 10) rfl rfl Try.func73 (by kernel_rfl) rfl #[.agg #[.int .i64 a0_0, .int .i64 a0_1, .int .i64 a0_2], .int .i64 a1, .slice A2 l2.length c2] rfl (by (try simp only [List.map_toArray, List.map_cons, List.map_nil]); first | done | rfl | (simp only [List.length_drop, List.length_take]; rfl)) ?_; (with_reducible refine (spec_l34Ok.calls k a0_0 a0_1 a0_2 a1 _ _ l2 false _ ?side1 ?side2 A4.out).mono ?_); (case side1 => repeat (first | exact (Kd.C_below HR2.out HB.out) | (with_reducible refine Kd.C_alloc ?_ _) | (with_reducible refine Kd.C_drewN ?_ _) | (with_reducible refine Kd.C_drew ?_))); (case side2 => exact HC2.out); rintro e w14 ⟨rfl, hb⟩; refine ⟨_, rfl, ?_⟩; have n0_ := bkb BK314 hb (by intro z_; (with_reducible repeat (first | refine kDN ?_ _ | refine kD ?_ | refine kA ?_ _)); exact z_); have n1_ := aK (bSp (by repeat (first | (with_reducible first | exact HB.out | apply bAl | apply bDN | apply bD1 | refine bSt ?_ GE314.out) | exact HB.out)) hb); clear BK314; clear HB; have BK314 := n0_; have HB := n1_; clear n0_ n1_; (try clear hb); (try clear hb2); (try clear hk); (try clear hi)))
  go_ret
  exact ⟨by first | rfl | (simp [errW_none, errW_some] <;> rfl) | (simp [*, errW_none, errW_some] <;> rfl), by repeat (first | (with_reducible first | exact HB.out | apply bAl | apply bDN | apply bD1 | refine bSt ?_ GE314.out) | exact HB.out)⟩
set_option maxHeartbeats 4000000 in
set_option maxRecDepth 100000 in
theorem slices_Clone_int.calls (A0 : Option Addr) (c0 : Nat) (l0 : List Int) (r : List Int) (w : World) (hr0 : Kd.C (Kd.int .i64) w A0 l0.length l0) (hc0 : l0.length ≤ c0) (h : slices_Clone_int.f l0 = some r) :
  Calls Try.prog 127 #[.slice A0 l0.length c0] w fun e w' => ∃ v0_ : Value, e = .returned (v0_) ∧ Kd.R (Kd.int .i64) 3 w' w.heap.size (fun _ => True) v0_ r ∧ Below w.heap.size w w' := by
 unfold slices_Clone_int.f at h
 by_cases hl : l0.length < 17592186044416
 ·rw [if_pos hl] at h
  obtain rfl := Option.some.inj h
  have hle := aK (show (([] : List Int).length + l0.length) * 8 ≤ 140737488355328 by simp; omega)
  clear h hl hc0
  have hnil : ∀ (w : World) (a : Option Addr) (n c n' c' : Nat), (binOp .eql 28 (.slice a n c) (.slice none n' c')).run Try.prog w = .ok (.bool a.isNone) w := fun w a n c n' c' => Go.Lib.run_eql_slice_nil w _ _ a n c n' c' Try.underlying28
  cases A0 with
  | none =>
   have h0 : l0 = [] := by
    rcases Nat.eq_zero_or_pos l0.length with h0 | h0
    ·exact List.eq_nil_of_length_eq_zero h0
    ·obtain ⟨ad, e, _⟩ := hr0.2.2 h0
     cases e
   subst h0
   clear hr0
   go_enter Try.func127, Try.ntmps127
   go_wp2
   go_ret
   exact ⟨_, rfl, Kd.R_nil _ _ _ _ _, Below.refl _ _⟩
  | some ad =>
   have HR := aK hr0
   clear hr0
   go_enter Try.func127, Try.ntmps127
   go_wp2_with (first | ((with_reducible refine gate_dst (N := 5) rfl ?_); refine Kd.R_lit (Kd.int .i64) (w0 := w) w.heap.size 3 ?hg (N := 5) ?hd (xs := ([] : List Int)) (inner := []) (ok := fun _ => True) (okp := fun _ => True) ?hr ?hp (fun _ hk => hk) trivial (Below.refl _ _) (Nat.le_refl _) (by simp) ?_; (case hd => rfl); (case hg => rfl); (case hr => first | (go_simp; done) | (go_simp; rfl)); (case hp => exact (Reps.none _ _)); intro v1 w1 ho hb hg_ hnew_; have HO := aK ho; have HB := aK hb; have HV := aK hnew_; clear hg_ hnew_ ho hb) | (at_builtin; refine Kd.R_append_rows (Kd.int .i64) (w0 := w) w.heap.size rfl (.tmp 5) (.tmp 6) 28 3 (.int .i64 0) 8 rfl Try.underlying28 info3 rfl (by decide) (by omega) v1 [] l0 (some ad) l0.length c0 (fun _ => True) (fun _ => False) rfl rfl HO.out (Kd.C_below HR.out HB.out) (fun _ _ h => h) (fun _ h => h.elim) (fun _ _ => trivial) HB.out HB.out.size hle.out ?_; intro v2 w2 ho2 hb2 hg2 hat2; rw [List.nil_append] at ho2; have HO2 := aK ho2; have HB2 := aK hb2; clear ho2 hb2 hg2 hat2))
   go_ret
   exact ⟨_, rfl, HO2.out, HB2.out⟩
 ·rw [if_neg hl] at h
  exact absurd h (by simp)
structure RSt (w : World) (n n1 : Nat) (a0 a1 a2 st : Int) (A2 : Option Addr) (c2 : Nat) (ts : List Int) (back : Bool) (W : World) (s : List Int × Int) : Prop where
  B : Below n w W
  m : W.heap[n]? = some (.cells #[.int .i64 a0, .int .i64 a1, .int .i64 a2] 32 (0, 0))
  st : W.heap[n + 1]? = some (.cells #[.int .i64 st] 3 (0, 0))
  t : W.heap[n + 2]? = some (.cells #[.slice A2 ts.length c2] 28 (0, 0))
  k : W.heap[n + 3]? = some (.cells #[.bool back] 4 (0, 0))
  b : ∃ v, W.heap[n1]? = some (.cells #[v] 28 (0, 0)) ∧ Kd.R (Kd.int .i64) 3 W (n1 + 3) (fun _ => True) v s.1
  l : W.heap[n1 + 1]? = some (.cells #[.int .i64 s.2] 3 (0, 0))
  y : W.heap[n1 + 2]? = some (.cells #[.func (.func 125) #[] #[.pointer (some ⟨n + 2, 0, none⟩), .pointer (some ⟨n + 3, 0, none⟩), .pointer (some ⟨n, 0, none⟩), .pointer (some ⟨n + 1, 0, none⟩), .pointer (some ⟨n1 + 1, 0, none⟩), .pointer (some ⟨n1, 0, none⟩), .pointer (some ⟨n1 + 2, 0, none⟩)]] 130 (0, 0))
  z : n1 + 3 ≤ W.heap.size
  q : n + 4 ≤ n1
theorem RSt.below {w : World} {n n1 : Nat} {a0 a1 a2 st : Int} {A2 : Option Addr} {c2 : Nat} {ts : List Int} {back : Bool} {W W1 : World} {s : List Int × Int} (h : RSt w n n1 a0 a1 a2 st A2 c2 ts back W s) (hb : Below W.heap.size W W1) : RSt w n n1 a0 a1 a2 st A2 c2 ts back W1 s := by
  have z := h.z
  have q := h.q
  obtain ⟨v, h1, h2⟩ := h.b
  exact ⟨h.B.trans (hb.mono (by omega)), (hb.block _ (by omega)).trans h.m, (hb.block _ (by omega)).trans h.st, (hb.block _ (by omega)).trans h.t, (hb.block _ (by omega)).trans h.k, ⟨v, (hb.block _ (by omega)).trans h1, Kd.R_below h2 hb⟩, (hb.block _ (by omega)).trans h.l, (hb.block _ (by omega)).trans h.y, Nat.le_trans z hb.size, q⟩
theorem RSt.cells {w : World} {n n1 : Nat} {a0 a1 a2 st : Int} {A2 : Option Addr} {c2 : Nat} {ts : List Int} {back : Bool} {W : World} {s : List Int × Int} (h : RSt w n n1 a0 a1 a2 st A2 c2 ts back W s) :
    W.cell? ⟨n, 0, none⟩ = some (.int .i64 a0) ∧ W.cell? ⟨n, 1, none⟩ = some (.int .i64 a1) ∧ W.cell? ⟨n, 2, none⟩ = some (.int .i64 a2) ∧ W.cell? ⟨n + 1, 0, none⟩ = some (.int .i64 st) ∧ W.cell? ⟨n + 2, 0, none⟩ = some (.slice A2 ts.length c2) ∧ W.cell? ⟨n + 3, 0, none⟩ = some (.bool back) ∧ W.cell? ⟨n1 + 1, 0, none⟩ = some (.int .i64 s.2) ∧ W.cell? ⟨n1 + 2, 0, none⟩ = some (.func (.func 125) #[] #[.pointer (some ⟨n + 2, 0, none⟩), .pointer (some ⟨n + 3, 0, none⟩), .pointer (some ⟨n, 0, none⟩), .pointer (some ⟨n + 1, 0, none⟩), .pointer (some ⟨n1 + 1, 0, none⟩), .pointer (some ⟨n1, 0, none⟩), .pointer (some ⟨n1 + 2, 0, none⟩)]) :=
  ⟨(kC h.m 0).trans rfl, (kC h.m 1).trans rfl, (kC h.m 2).trans rfl, (kC h.st 0).trans rfl, (kC h.t 0).trans rfl, (kC h.k 0).trans rfl, (kC h.l 0).trans rfl, (kC h.y 0).trans rfl⟩
theorem RSt.stores {w : World} {n n1 : Nat} {a0 a1 a2 st : Int} {A2 : Option Addr} {c2 : Nat} {ts : List Int} {back : Bool} {W : World} {s : List Int × Int} (h : RSt w n n1 a0 a1 a2 st A2 c2 ts back W s) {v : Value} {xs : List Int} (len : Int) (hR : Kd.R (Kd.int .i64) 3 W (n1 + 3) (fun _ => True) v xs) :
    RSt w n n1 a0 a1 a2 st A2 c2 ts back ((W.setCell ⟨n1, 0, none⟩ v).setCell ⟨n1 + 1, 0, none⟩ (.int .i64 len)) (xs, len) ∧ Kept W ((W.setCell ⟨n1, 0, none⟩ v).setCell ⟨n1 + 1, 0, none⟩ (.int .i64 len)) (fun k => k = n1 + 1 ∨ k = n1) := by
  have z := h.z
  have q := h.q
  obtain ⟨u, h1, _⟩ := h.b
  have hl := h.l
  have far : ∀ i, i ≠ n1 → i ≠ n1 + 1 → ((W.setCell ⟨n1, 0, none⟩ v).setCell ⟨n1 + 1, 0, none⟩ (.int .i64 len)).heap[i]? = W.heap[i]? := fun i h2 h3 => (Below.heap_setCell _ ⟨n1 + 1, 0, none⟩ _ i h3).trans (Below.heap_setCell W ⟨n1, 0, none⟩ _ i h2)
  have sz : ((W.setCell ⟨n1, 0, none⟩ v).setCell ⟨n1 + 1, 0, none⟩ (.int .i64 len)).heap.size = W.heap.size := by simp [World.setCell]
  have p1 : (W.setCell ⟨n1, 0, none⟩ v).heap[n1]? = some (.cells #[v] 28 (0, 0)) := blk_put (cs := #[u]) h1 0 v (by simp)
  have p2 : (W.setCell ⟨n1, 0, none⟩ v).heap[n1 + 1]? = some (.cells #[.int .i64 s.2] 3 (0, 0)) := (Below.heap_setCell W ⟨n1, 0, none⟩ _ _ (by simp)).trans hl
  refine ⟨⟨⟨h.B.os, h.B.tape, h.B.output, by rw [sz]; exact h.B.size, fun i hi => (far i (by omega) (by omega)).trans (h.B.block i hi)⟩, (far _ (by omega) (by omega)).trans h.m, (far _ (by omega) (by omega)).trans h.st, (far _ (by omega) (by omega)).trans h.t, (far _ (by omega) (by omega)).trans h.k, ⟨v, ?_, ?_⟩, ?_, (far _ (by omega) (by omega)).trans h.y, by rw [sz]; exact z, q⟩, by rw [sz]; exact Nat.le_refl _, fun i hi hn => far i (fun e => hn (.inr e)) (fun e => hn (.inl e))⟩
  · exact (Below.heap_setCell _ ⟨n1 + 1, 0, none⟩ _ _ (by simp)).trans p1
  · exact R_set_far (R_set_far hR (by omega) v) (by omega) _
  · exact blk_put (cs := #[.int .i64 s.2]) p2 0 _ (by simp)
theorem RSt.start {w w2 : World} {n : Nat} {a0 a1 a2 st : Int} {A2 : Option Addr} {c2 : Nat} {ts : List Int} {back : Bool} (hB : Below n w w2) (hm : w2.heap[n]? = some (.cells #[.int .i64 a0, .int .i64 a1, .int .i64 a2] 32 (0, 0))) (hst : w2.heap[n + 1]? = some (.cells #[.int .i64 st] 3 (0, 0))) (ht : w2.heap[n + 2]? = some (.cells #[.slice A2 ts.length c2] 28 (0, 0))) (hk : w2.heap[n + 3]? = some (.cells #[.bool back] 4 (0, 0))) (hq : n + 4 ≤ w2.heap.size) :
    RSt w n w2.heap.size a0 a1 a2 st A2 c2 ts back (((w2.alloc (.cells #[.slice none 0 0] 28)).alloc (.cells #[.int .i64 (-1)] 3)).alloc (.cells #[.func (.func 125) #[] #[.pointer (some ⟨n + 2, 0, none⟩), .pointer (some ⟨n + 3, 0, none⟩), .pointer (some ⟨n, 0, none⟩), .pointer (some ⟨n + 1, 0, none⟩), .pointer (some ⟨w2.heap.size + 1, 0, none⟩), .pointer (some ⟨w2.heap.size, 0, none⟩), .pointer (some ⟨w2.heap.size + 2, 0, none⟩)]] 130)) ([], -1) := by
  have b3 := ((Below.refl w2.heap.size w2).alloc (Nat.le_refl _) (.cells #[.slice none 0 0] 28)).alloc (by simp) (.cells #[.int .i64 (-1)] 3)
  refine ⟨hB.trans ((b3.alloc (by simp; omega) _).mono (by omega)), kA (kA (kA hm _) _) _, kA (kA (kA hst _) _) _, kA (kA (kA ht _) _) _, kA (kA (kA hk _) _) _, ⟨_, kA (kA (heap_alloc_new w2 _) _) _, Kd.R_nil _ _ _ _ _⟩, kA (heap_new2 w2 _ _) _, heap_new3 w2 _ _ _, by simp, hq⟩
theorem one_row (W : World) (A : Addr) (x : Int) (hA : W.cell? A = some (.int .i64 x)) : Kd.C (Kd.int .i64) W (some A) 1 [x] :=
  Kd.C_of_reads (d := (0 : Int)) (h1 := fun _ => rfl) ⟨rfl, by simp, fun _ => ⟨A, rfl, fun j hj => by
    obtain rfl : j = 0 := by omega
    rw [show A.add 0 = A from by unfold Addr.add; split <;> simp_all]
    exact hA⟩⟩
theorem R_k2 {W W2 : World} {base p q e : Nat} {v : Value} {xs : List Int} (h : Kd.R (Kd.int .i64) e W base (fun _ => True) v xs) (hk : Kept W W2 (fun k => k = p ∨ k = q)) (h1 : p < base) (h2 : q < base) : Kd.R (Kd.int .i64) e W2 base (fun _ => True) v xs :=
  Kd.R_mono (Kd.R_kept (Kd.R_bound h) hk (fun k hk => by have := hk.2.1; omega)) (fun _ _ => trivial)
set_option maxHeartbeats 8000000 in
set_option maxRecDepth 100000 in
theorem impl_rescue_1.calls (w : World) (n n1 : Nat) (a0 a1 a2 st : Int) (A2 : Option Addr) (c2 : Nat) (ts : List Int) (back : Bool) (hr2 : Kd.C (Kd.int .i64) w A2 ts.length ts) (hc2 : ts.length ≤ c2) (hn : w.heap.size = n) (ht5 : ts.length ≤ 5) : ∀ (k : Nat) (order : List Int) (at_ len : Int) (s s' : List Int × Int), impl_rescue.l0 a0 a1 a2 ts st back k order at_ len s = some s' →
  ∀ (W : World) (A0 : Option Addr) (c0 : Nat), RSt w n n1 a0 a1 a2 st A2 c2 ts back W s → Kd.R (Kd.int .i64) 3 W (n1 + 3) (fun _ => True) (.slice A0 order.length c0) order →
  Calls Try.prog 125 #[.slice A0 order.length c0, .int .i64 at_, .int .i64 len, .pointer (some ⟨n + 2, 0, none⟩), .pointer (some ⟨n + 3, 0, none⟩), .pointer (some ⟨n, 0, none⟩), .pointer (some ⟨n + 1, 0, none⟩), .pointer (some ⟨n1 + 1, 0, none⟩), .pointer (some ⟨n1, 0, none⟩), .pointer (some ⟨n1 + 2, 0, none⟩)] W fun e w' => e = .returned (.tuple #[]) ∧ RSt w n n1 a0 a1 a2 st A2 c2 ts back w' s' ∧ Kept W w' (fun k => k = n1 + 1 ∨ k = n1) := by
 intro k
 induction k with
 | zero => intro order at_ len s s' h; exact absurd h (by simp [impl_rescue.l0])
 | succ k ih =>
  intro order at_ len s s' h W A0 c0 hS hO
  rw [impl_rescue.l0] at h
  have hu := Try.underlying32
  by_cases q5 : 5 < order.length
  ·rw [if_pos q5] at h; exact absurd h (by simp)
  rw [if_neg q5] at h
  have Q5 := aK q5
  have hO' := Kd.R_reads' hO
  have HC := aK hO'.2.2
  have HCC := aK hO'.2.1
  have HS := aK hS
  have HO := aK hO
  have HR2 := aK hr2
  have HN := aK hn
  have HT5 := aK ht5
  clear hO' hO hS q5
  obtain ⟨x0, x1, x2, x3, x4, x5, x6, x7⟩ := HS.out.cells
  by_cases qe : order.length = ts.length
  ·rw [if_pos qe] at h
   obtain ⟨len2, hl, hs⟩ := Option.bind_eq_some_iff.mp h
   clear h
   have hs := Option.some.inj hs
   have e1 : ((order.length : Int) == (ts.length : Int)) = true := by simp [qe]
   have QE := aK qe
   have HCL : slices_Clone_int.f order = some order := by unfold slices_Clone_int.f; rw [if_pos (by have := Q5.out; omega)]
   have HCN := fun (w1 : World) (hb : Below W.heap.size W w1) => slices_Clone_int.calls A0 c0 order order w1 (Kd.C_below HC.out hb) HCC.out HCL
   clear qe HCL
   have RET : ∀ (W1 : World), Below W.heap.size W W1 → RSt w n n1 a0 a1 a2 st A2 c2 ts back W1 s ∧ Kept W W1 (fun k => k = n1 + 1 ∨ k = n1) := fun W1 hb => ⟨HS.out.below hb, Kept.of_below hb _⟩
   have HRET := aK RET
   clear RET
   by_cases qc : s.2 < 0 ∨ len2 < s.2
   ·rw [if_pos qc] at hs
    obtain rfl := hs
    cases back with
    | true =>
     rw [if_pos rfl] at hl
     obtain ⟨d, hd, hl⟩ := Option.bind_eq_some_iff.mp hl
     obtain rfl := Option.some.inj hl
     have c1 : (decide (s.2 < 0) || decide (wrap64 (len + d) < s.2)) = true := by simpa using qc
     clear qc hl
     go_enter Try.func125, Try.ntmps125
     go_wp2_with (first | (go_at_call 126; refine (impl_DistanceOf.calls 1000 a0 a1 a2 at_ st d _ hd).mono ?_; rintro e w1 ⟨rfl, hb⟩; have HB1 := aK hb; have HS1 := aK (HS.out.below hb); obtain ⟨y0, y1, y2, y3, y4, y5, y6, y7⟩ := HS1.out.cells; clear hb) | (go_at_call 127; refine (HCN _ HB1.out).mono ?_; rintro e w2 ⟨v2, rfl, hR2, hb⟩; obtain ⟨Av, cv, rfl⟩ := Kd.R_slice hR2; have HB2 := aK hb; have HS2 := aK (HS1.out.below hb); have HR3 := aK (Kd.R_lower hR2 HS1.out.z); obtain ⟨u0, h1, _⟩ := HS2.out.b; have z0 : w2.cell? ⟨n1, 0, none⟩ = some u0 := (kC h1 0).trans rfl; have z1 := kF h1 0; have z2 := kF HS2.out.l 0; obtain ⟨_, _, _, _, _, _, u6, _⟩ := HS2.out.cells; clear hb hR2 h1))
     all_goals (refine bodyPost_ret (results_none rfl _ _ _) rfl ?_; exact ⟨rfl, (HS2.out.stores _ HR3.out).1, (Kept.of_below (HB1.out.trans (HB2.out.mono HB1.out.size)) _).then_ (HS2.out.stores _ HR3.out).2 (fun _ hk => .inl hk)⟩)
    | false =>
     rw [if_neg Bool.false_ne_true] at hl
     obtain rfl := Option.some.inj hl
     have c1 : (decide (s.2 < 0) || decide (len < s.2)) = true := by simpa using qc
     clear qc hl
     have HB1 := aK (Below.refl W.heap.size W)
     have HS1 := HS
     go_enter Try.func125, Try.ntmps125
     go_wp2_with (first | (go_at_call 127; refine (HCN _ HB1.out).mono ?_; rintro e w2 ⟨v2, rfl, hR2, hb⟩; obtain ⟨Av, cv, rfl⟩ := Kd.R_slice hR2; have HB2 := aK hb; have HS2 := aK (HS1.out.below hb); have HR3 := aK (Kd.R_lower hR2 HS1.out.z); obtain ⟨u0, h1, _⟩ := HS2.out.b; have z0 : w2.cell? ⟨n1, 0, none⟩ = some u0 := (kC h1 0).trans rfl; have z1 := kF h1 0; have z2 := kF HS2.out.l 0; obtain ⟨_, _, _, _, _, _, u6, _⟩ := HS2.out.cells; clear hb hR2 h1))
     all_goals (refine bodyPost_ret (results_none rfl _ _ _) rfl ?_; exact ⟨rfl, (HS2.out.stores _ HR3.out).1, (Kept.of_below HB2.out _).then_ (HS2.out.stores _ HR3.out).2 (fun _ hk => .inl hk)⟩)
   ·rw [if_neg qc] at hs
    obtain rfl := hs
    have qc1 : ¬ s.2 < 0 := fun e => qc (.inl e)
    have qc2 : ¬ len2 < s.2 := fun e => qc (.inr e)
    have c1 : decide (s.2 < 0) = false := decide_eq_false qc1
    have c2 : decide (len2 < s.2) = false := decide_eq_false qc2
    clear qc qc1 qc2
    cases back with
    | true =>
     rw [if_pos rfl] at hl
     obtain ⟨d, hd, hl⟩ := Option.bind_eq_some_iff.mp hl
     obtain rfl := Option.some.inj hl
     clear hl
     go_enter Try.func125, Try.ntmps125
     go_wp2_with (first | (go_at_call 126; refine (impl_DistanceOf.calls 1000 a0 a1 a2 at_ st d _ hd).mono ?_; rintro e w1 ⟨rfl, hb⟩; have HB1 := aK hb; have HS1 := aK (HS.out.below hb); obtain ⟨y0, y1, y2, y3, y4, y5, y6, y7⟩ := HS1.out.cells; clear hb))
     all_goals (refine bodyPost_ret (results_none rfl _ _ _) rfl ?_; exact ⟨rfl, HRET.out _ HB1.out⟩)
    | false =>
     rw [if_neg Bool.false_ne_true] at hl
     obtain rfl := Option.some.inj hl
     clear hl
     go_enter Try.func125, Try.ntmps125
     go_wp2
     all_goals (refine bodyPost_ret (results_none rfl _ _ _) rfl ?_; exact ⟨rfl, HRET.out _ (Below.refl _ _)⟩)
  ·rw [if_neg qe] at h
   have e1 : ((order.length : Int) == (ts.length : Int)) = false := by simp; omega
   have HF := aK h
   clear h qe
   go_enter Try.func125, Try.ntmps125
   go_wp2
   go_loopg [40] ts.length (fun gk v40 wr => ∃ (kk : Nat) (sk : List Int × Int), v40 = .int .i64 kk ∧ Aside0 (kk ≤ ts.length) ∧ Aside0 (ts.length - kk ≤ gk) ∧ Aside0 (foldO (fun (i : Nat) s => (impl_DistanceOf.f 1000 a0 a1 a2 at_ (rd ts i)).bind fun d => if 0 ≤ d then (slices_Contains_int.f 1000 order i).bind fun b => if b = true then some s else impl_rescue.l0 a0 a1 a2 ts st back k (order ++ [(i : Int)]) (rd ts i) (wrap64 (len + d)) s else some s) (ts.length - kk) kk sk = some s') ∧ Aside0 (RSt w n n1 a0 a1 a2 st A2 c2 ts back wr sk) ∧ Aside0 (Kept W wr (fun k => k = n1 + 1 ∨ k = n1)))
   case atStart => exact ⟨0, s, rfl, ⟨Nat.zero_le _⟩, ⟨by omega⟩, HF, HS, ⟨Kept.refl _ _⟩⟩
   case round =>
    clear HF HS x0 x1 x2 x3 x4 x5 x6 x7 e1
    obtain ⟨kk, sk, rfl, HK, HG, HF, HS, HKP⟩ := hrel
    obtain ⟨x0, x1, x2, x3, x4, x5, x6, x7⟩ := HS.out.cells
    by_cases hlt : kk < ts.length
    ·have hltz : (kk : Int) < (ts.length : Int) := by omega
     have hz : (0 : Int) ≤ (kk : Int) := by omega
     have HBW := aK (show Below w.heap.size w wr by have := HS.out.B; rw [← HN.out] at this; exact this)
     obtain ⟨ad, rfl, hx⟩ := Kd.at_int (Kd.C_below HR2.out HBW.out) (kk : Int) hz hltz
     rw [Int.toNat_natCast] at hx
     have hF := HF.out
     rw [show ts.length - kk = (ts.length - (kk + 1)) + 1 by omega] at hF
     simp only [foldO] at hF
     obtain ⟨sn, h1, h2⟩ := Option.bind_eq_some_iff.mp hF
     obtain ⟨d, hd, h1⟩ := Option.bind_eq_some_iff.mp h1
     have HF2 := aK h2
     have HOr := aK (R_k2 HO.out HKP.out (by omega) (by omega))
     have HCr := aK (Kd.R_reads' HOr.out).2.2
     obtain ⟨tk, htk⟩ : ∃ tk, tk = rd ts (kk : Int) := ⟨_, rfl⟩
     rw [← htk] at hx hd h1
     have HTK := aK htk
     have HLT := aK hlt
     clear hF h2 HF hlt htk
     by_cases hd0 : 0 ≤ d
     ·rw [if_pos hd0] at h1
      obtain ⟨b, hcon, h1⟩ := Option.bind_eq_some_iff.mp h1
      have dge : decide (d ≥ 0) = true := decide_eq_true hd0
      have HCON := fun (W1 : World) (hb : Below wr.heap.size wr W1) => (slices_Contains_int.calls 1000 A0 c0 order (kk : Int) b W1 (Kd.C_below HCr.out hb) HCC.out hcon).mono (fun _ _ hh => And.intro hh.1 hh.2.below)
      clear hd0
      cases b with
      | true =>
       rw [if_pos rfl] at h1
       obtain rfl := Option.some.inj h1
       go_wp2_with (first | (go_at_call 126; refine (impl_DistanceOf.calls 1000 a0 a1 a2 at_ tk d _ hd).mono ?_; rintro e w1 ⟨rfl, hb⟩; have HB1 := aK hb; clear hb) | (go_at_call 70; refine (HCON _ HB1.out).mono ?_; rintro e w2 ⟨rfl, hb⟩; have HB2 := aK (HB1.out.trans (hb.mono HB1.out.size)); clear hb))
       go_roundg (ts.length - (kk + 1))
       case measure => have h1 := HG.out; have h2 := HLT.out; omega
       case rel => exact ⟨kk + 1, sk, by go_num, ⟨HLT.out⟩, ⟨Nat.le_refl _⟩, HF2, ⟨HS.out.below HB2.out⟩, ⟨HKP.out.below HB2.out⟩⟩
      | false =>
       rw [if_neg Bool.false_ne_true] at h1
       have HREC := aK h1
       go_wp2_with (first | (go_at_call 126; refine (impl_DistanceOf.calls 1000 a0 a1 a2 at_ tk d _ hd).mono ?_; rintro e w1 ⟨rfl, hb⟩; have HB1 := aK hb; clear hb) | (go_at_call 70; refine (HCON _ HB1.out).mono ?_; rintro e w2 ⟨rfl, hb⟩; have HB2 := aK (HB1.out.trans (hb.mono HB1.out.size)); have HS2 := aK (HS.out.below HB2.out); have y7 := HS2.out.cells.2.2.2.2.2.2.2; clear hb))
       have HCL : slices_Clone_int.f order = some order := by unfold slices_Clone_int.f; rw [if_pos (by have := Q5.out; omega)]
       have HCLL := aK HCL
       have eg : ∀ args w, (callFunc 125 args).run Try.prog w = .ok (.enter 125 args) w := enters_of Try.func125 (by kernel_rfl) rfl
       clear HCL h1 dge hcon HCON x0 x1 x2 x3 x4 x5 x6 x7 hx
       go_region_held3 (fun w' => w'.cell? ⟨n1 + 2, 0, none⟩ = some (.func (.func 125) #[] #[.pointer (some ⟨n + 2, 0, none⟩), .pointer (some ⟨n + 3, 0, none⟩), .pointer (some ⟨n, 0, none⟩), .pointer (some ⟨n + 1, 0, none⟩), .pointer (some ⟨n1 + 1, 0, none⟩), .pointer (some ⟨n1, 0, none⟩), .pointer (some ⟨n1 + 2, 0, none⟩)])) (first | go_keep | exact HS6.out.cells.2.2.2.2.2.2.2 | exact HS5.out.cells.2.2.2.2.2.2.2 | exact (HS2.out.below HB3.out).cells.2.2.2.2.2.2.2)
        (first
         | (go_at_call 127; refine (slices_Clone_int.calls A0 c0 order order _ (by repeat (first | exact Kd.C_below HCr.out HB2.out | (with_reducible refine Kd.C_alloc ?_ _) | (with_reducible refine Kd.C_drewN ?_ _) | (with_reducible refine Kd.C_drew ?_))) HCC.out HCLL.out).mono ?_; rintro e w3 ⟨v3, rfl, hR3, hb3⟩; obtain ⟨Av, cv, rfl⟩ := Kd.R_slice hR3; have HR3 := aK hR3; have HB3' := aK hb3; have HB3 := aK (bSp (w := w2) (by repeat (first | exact Below.refl _ _ | apply bAl | apply bDN | apply bD1)) hb3); clear hR3 hb3)
         | (go_at_fn 125; have q_ := ih _ _ _ _ _ HREC.out _ A5 c5 HS5.out HR5.out; rw [← i64_w, List.length_append, List.length_singleton] at q_; refine q_.mono ?_; clear q_; rintro e w6 ⟨rfl, hs6, hk6⟩; have HS6 := aK hs6; have HK6 := aK hk6; clear hs6 hk6)
         | (refine Kd.R_append_rows_step (Kd.int .i64) (w0 := w2) w2.heap.size (by rfl) (.tmp 59) (.tmp 61) 28 3 (.int .i64 0) 8 rfl Try.underlying28 info3 rfl (by decide) (by omega) (.slice Av order.length cv) order [(kk : Int)] _ _ _ (fun _ => True) (fun _ => False) rfl rfl (Kd.R_lower (base' := w2.heap.size) (by (with_reducible repeat (first | apply Kd.R_alloc | apply Kd.R_drewN | apply Kd.R_drew)); exact HR3.out) (by first | exact Nat.le_refl _ | (simp; done) | exact Nat.le_succ _)) (one_row _ _ _ (by first | exact (kC (heap_alloc_new _ _) 0).trans rfl | exact (kC ((HB3'.out.block _ (by simp)).trans (heap_alloc_new _ _)) 0).trans rfl)) (fun _ _ h => h) (fun _ h => h.elim) (fun _ _ => trivial) (by repeat (first | exact HB3.out | apply bAl | apply bDN | apply bD1)) (bSz (by repeat (first | exact HB3.out | apply bAl | apply bDN | apply bD1))) (by have := Q5.out; omega) ?_; intro v5 w5 ho5 hb5 hg5 hat5; obtain ⟨A5, c5, rfl⟩ := Kd.R_slice ho5; have HR5 := aK (Kd.R_lower ho5 HS2.out.z); have HB5 := aK hb5; have HS5 := aK (HS2.out.below hb5); clear ho5 hb5 hg5 hat5))
       all_goals
        go_wp2
        go_roundg (ts.length - (kk + 1))
        case measure => have h1 := HG.out; have h2 := HLT.out; omega
        case rel => exact ⟨kk + 1, sn, by go_num, ⟨HLT.out⟩, ⟨Nat.le_refl _⟩, HF2, HS6, ⟨((HKP.out.below HB2.out).below HB5.out).then_ HK6.out (fun _ hk => .inl hk)⟩⟩
     ·rw [if_neg hd0] at h1
      obtain rfl := Option.some.inj h1
      have dge : decide (d ≥ 0) = false := decide_eq_false hd0
      clear hd0
      go_wp2_with (first | (go_at_call 126; refine (impl_DistanceOf.calls 1000 a0 a1 a2 at_ tk d _ hd).mono ?_; rintro e w1 ⟨rfl, hb⟩; have HB1 := aK hb; clear hb))
      go_roundg (ts.length - (kk + 1))
      case measure => have h1 := HG.out; have h2 := HLT.out; omega
      case rel => exact ⟨kk + 1, sk, by go_num, ⟨HLT.out⟩, ⟨Nat.le_refl _⟩, HF2, ⟨HS.out.below HB1.out⟩, ⟨HKP.out.below HB1.out⟩⟩
    ·have hltz : ¬ (kk : Int) < (ts.length : Int) := by omega
     have hkk : ts.length - kk = 0 := by omega
     have hF := HF.out
     rw [hkk] at hF
     obtain rfl := Option.some.inj hF
     clear hF hkk HF
     go_wp2
     go_end0
     exact ⟨rfl, HS.out, HKP.out⟩
theorem heap_new4 (w : World) (o1 o2 o3 o4 : Obj) : ((((w.alloc o1).alloc o2).alloc o3).alloc o4).heap[w.heap.size + 3]? = some o4 := by
  have := heap_new3 (w.alloc o1) o2 o3 o4
  rw [show (w.alloc o1).heap.size = w.heap.size + 1 by simp] at this
  exact this
set_option maxHeartbeats 4000000 in
set_option maxRecDepth 100000 in
theorem impl_rescue.calls (a0_0 a0_1 a0_2 a1 : Int) (A2 : Option Addr) (c2 : Nat) (l2 : List Int) (a3 : Bool) (r1 : List Int) (r2 : Int) (w : World) (hr2 : Kd.C (Kd.int .i64) w A2 l2.length l2) (hc2 : l2.length ≤ c2) (h : impl_rescue.f a0_0 a0_1 a0_2 a1 l2 a3 = some (r1, r2)) :
  Calls Try.prog 75 #[.agg #[.int .i64 a0_0, .int .i64 a0_1, .int .i64 a0_2], .int .i64 a1, .slice A2 l2.length c2, .bool a3] w fun e w' => ∃ v0_ : Value, e = .returned (.tuple #[v0_, .int .i64 r2]) ∧ Kd.R (Kd.int .i64) 3 w' w.heap.size (fun _ => True) v0_ r1 ∧ Below w.heap.size w w' := by
 have hu := Try.underlying32
 have hul := Try.underlying28
 have huf := Try.underlying130
 have HR2 := aK hr2
 have HC2 := aK hc2
 clear hr2 hc2
 obtain ⟨b, hm, H⟩ := Option.bind_eq_some_iff.mp h
 clear h
 have HI := fun (W : World) (A : Addr) (hA : W.cell? A = some (.int .i64 a1)) => impl_isIn.calls a0_0 a0_1 a0_2 (some A) 1 [a1] b W (one_row W A a1 hA) (Nat.le_refl 1) hm
 simp only [List.length_singleton] at HI
 obtain ⟨w0, hw0⟩ : ∃ w0 : World, w0 = (((w.alloc (.cells #[.int .i64 a0_0, .int .i64 a0_1, .int .i64 a0_2] 32)).alloc (.cells #[.int .i64 a1] 3)).alloc (.cells #[.slice A2 l2.length c2] 28)).alloc (.cells #[.bool a3] 4) := ⟨_, rfl⟩
 have HB0 := aK (show Below w.heap.size w w0 by rw [hw0]; exact ((((Below.refl _ w).alloc (Nat.le_refl _) _).alloc (by simp) _).alloc (by simp; omega) _).alloc (by simp; omega) _)
 have K0 := aK (show w0.heap[w.heap.size]? = some (.cells #[.int .i64 a0_0, .int .i64 a0_1, .int .i64 a0_2] 32 (0, 0)) by rw [hw0]; exact kA (kA (kA (heap_alloc_new w _) _) _) _)
 have K1 := aK (show w0.heap[w.heap.size + 1]? = some (.cells #[.int .i64 a1] 3 (0, 0)) by rw [hw0]; exact kA (kA (heap_new2 w _ _) _) _)
 have K2 := aK (show w0.heap[w.heap.size + 1 + 1]? = some (.cells #[.slice A2 l2.length c2] 28 (0, 0)) by rw [hw0]; exact kA (heap_new3 w _ _ _) _)
 have K3 := aK (show w0.heap[w.heap.size + 3]? = some (.cells #[.bool a3] 4 (0, 0)) by rw [hw0]; exact heap_new4 _ _ _ _ _)
 have SZ := aK (show w0.heap.size = w.heap.size + 4 by rw [hw0]; simp)
 have HW := aK hw0
 clear hw0
 have HCL := aK (show ∀ W : World, Below w0.heap.size w0 W → W.cell? ⟨w.heap.size, 0, none⟩ = some (.int .i64 a0_0) ∧ W.cell? ⟨w.heap.size, 1, none⟩ = some (.int .i64 a0_1) ∧ W.cell? ⟨w.heap.size, 2, none⟩ = some (.int .i64 a0_2) ∧ W.cell? ⟨w.heap.size + 1, 0, none⟩ = some (.int .i64 a1) ∧ W.cell? ⟨w.heap.size + 2, 0, none⟩ = some (.slice A2 l2.length c2) from fun W hb =>
  ⟨(kC ((hb.block _ (by have := SZ.out; omega)).trans K0.out) 0).trans rfl, (kC ((hb.block _ (by have := SZ.out; omega)).trans K0.out) 1).trans rfl, (kC ((hb.block _ (by have := SZ.out; omega)).trans K0.out) 2).trans rfl, (kC ((hb.block _ (by have := SZ.out; omega)).trans K1.out) 0).trans rfl, (kC ((hb.block _ (by have := SZ.out; omega)).trans K2.out) 0).trans rfl⟩)
 cases b with
 | false =>
  rw [if_neg Bool.false_ne_true] at H
  obtain ⟨rfl, rfl⟩ := Prod.mk.inj (Option.some.inj H)
  go_enter Try.func75, Try.ntmps75
  go_wp2_with (go_at_call 66; rw [← HW.out]; refine (HI _ _ ?hA).mono ?_; (case hA => have e_ := heap_alloc_new w0 (Obj.cells #[.int .i64 a1] 3); rw [SZ.out] at e_; exact (kC e_ 0).trans rfl); rintro e w' ⟨rfl, hb⟩; have HB := aK hb; clear hb)
  go_ret2
  exact ⟨_, rfl, Kd.R_nil _ _ _ _ _, (HB0.out.alloc HB0.out.size _).trans (HB.out.mono (by have := SZ.out; simp; omega))⟩
 | true =>
  rw [if_pos rfl] at H
  obtain ⟨c, hs, H2⟩ := Option.bind_eq_some_iff.mp H
  clear H
  have HI2 := fun (W : World) (hb : Below w.heap.size w W) => impl_isIn.calls a0_0 a0_1 a0_2 A2 c2 l2 c W (Kd.C_below HR2.out hb) HC2.out hs
  by_cases q : c = true ∧ l2.length ≤ 5
  ·obtain ⟨rfl, q5⟩ := q
   rw [if_pos rfl, if_pos q5] at H2
   have q5b : decide ((l2.length : Int) > 5) = false := decide_eq_false (by omega)
   have HREC := aK H2
   have eg : ∀ args w, (callFunc 125 args).run Try.prog w = .ok (.enter 125 args) w := enters_of Try.func125 (by kernel_rfl) rfl
   have HQ5 := aK q5
   clear H2 q5
   go_enter Try.func75, Try.ntmps75
   go_wp2_with (first
    | (go_at_call 66; rw [← HW.out]; refine (HI _ _ ?hA).mono ?_; (case hA => have e_ := heap_alloc_new w0 (Obj.cells #[.int .i64 a1] 3); rw [SZ.out] at e_; exact (kC e_ 0).trans rfl); rintro e w1 ⟨rfl, hb⟩; have HB1 := aK (show Below w0.heap.size w0 w1 from ((Below.refl _ w0).alloc (Nat.le_refl _) _).trans (hb.mono (by simp))); obtain ⟨y0, y1, y2, y3, y4⟩ := HCL.out w1 HB1.out; clear hb)
    | (go_at_call 66; refine (HI2 _ (HB0.out.trans (HB1.out.mono HB0.out.size))).mono ?_; rintro e w2 ⟨rfl, hb⟩; have HB2 := aK (HB1.out.trans (hb.mono HB1.out.size)); have z3 := fun (o1 o2 o3 : Obj) => (kC (kA (kA (kA ((HB2.out.block _ (by have := SZ.out; omega)).trans K1.out) o1) o2) o3) 0).trans rfl; obtain ⟨y0, y1, y2, y3, y4⟩ := HCL.out w2 HB2.out; have HST := aK (RSt.start (w := w) (n := w.heap.size) (HB0.out.trans (HB2.out.mono HB0.out.size)) ((HB2.out.block _ (by have := SZ.out; omega)).trans K0.out) ((HB2.out.block _ (by have := SZ.out; omega)).trans K1.out) ((HB2.out.block _ (by have := SZ.out; omega)).trans K2.out) ((HB2.out.block _ (by have := SZ.out; omega)).trans K3.out) (by have h1 := SZ.out; have h2 := HB2.out.size; omega)); clear hb)
    | (go_at_fn 125; refine (impl_rescue_1.calls w w.heap.size w2.heap.size a0_0 a0_1 a0_2 a1 A2 c2 l2 a3 HR2.out HC2.out rfl HQ5.out 7 [] a1 0 ([], -1) (r1, r2) HREC.out _ none 0 HST.out (Kd.R_nil _ _ _ _ _)).mono ?_; rintro e w3 ⟨rfl, hs3, hk3⟩; have HS3 := aK hs3; have HK3 := aK hk3; clear hs3 hk3; obtain ⟨vb, hb1, hb2⟩ := HS3.out.b; obtain ⟨Ab, cb, rfl⟩ := Kd.R_slice hb2; have HRB := aK hb2; have b0 : w3.cell? ⟨w2.heap.size, 0, none⟩ = some (.slice Ab r1.length cb) := (kC hb1 0).trans rfl; have b1 : w3.cell? ⟨w2.heap.size + 1, 0, none⟩ = some (.int .i64 r2) := (kC HS3.out.l 0).trans rfl; clear hb1 hb2))
   go_region_held3 (fun w' => w'.cell? ⟨w2.heap.size, 0, none⟩ = some (.slice Ab r1.length cb) ∧ w'.cell? ⟨w2.heap.size + 1, 0, none⟩ = some (.int .i64 r2)) (go_keep) (fail)
   all_goals
    go_wp2
    go_ret2
    exact ⟨_, rfl, Kd.R_lower (Kd.R_drew HRB.out) (by have h1 := SZ.out; have h2 := HB2.out.size; omega), bD1 HS3.out.B⟩
  ·have H3 : r1 = [] ∧ r2 = -1 := by
    cases c with
    | false => rw [if_neg Bool.false_ne_true] at H2; obtain ⟨h1, h2⟩ := Prod.mk.inj (Option.some.inj H2); exact ⟨h1.symm, h2.symm⟩
    | true => rw [if_pos rfl, if_neg (fun e => q ⟨rfl, e⟩)] at H2; obtain ⟨h1, h2⟩ := Prod.mk.inj (Option.some.inj H2); exact ⟨h1.symm, h2.symm⟩
   obtain ⟨rfl, rfl⟩ := H3
   have q5b : (!c || decide ((l2.length : Int) > 5)) = true := by
    cases c with
    | false => rfl
    | true => exact decide_eq_true (by have : ¬ l2.length ≤ 5 := fun e => q ⟨rfl, e⟩; omega)
   clear H2 q
   cases c
   all_goals simp only [Bool.not_true, Bool.not_false, Bool.false_or] at q5b
   all_goals
    go_enter Try.func75, Try.ntmps75
    go_wp2_with (first
     | (go_at_call 66; rw [← HW.out]; refine (HI _ _ ?hA).mono ?_; (case hA => have e_ := heap_alloc_new w0 (Obj.cells #[.int .i64 a1] 3); rw [SZ.out] at e_; exact (kC e_ 0).trans rfl); rintro e w1 ⟨rfl, hb⟩; have HB1 := aK (show Below w0.heap.size w0 w1 from ((Below.refl _ w0).alloc (Nat.le_refl _) _).trans (hb.mono (by simp))); obtain ⟨y0, y1, y2, y3, y4⟩ := HCL.out w1 HB1.out; clear hb)
     | (go_at_call 66; refine (HI2 _ (HB0.out.trans (HB1.out.mono HB0.out.size))).mono ?_; rintro e w2 ⟨rfl, hb⟩; have HB2 := aK (HB1.out.trans (hb.mono HB1.out.size)); obtain ⟨z0, z1, z2, z3, z4⟩ := HCL.out w2 HB2.out; clear hb))
    go_ret2
    exact ⟨_, rfl, Kd.R_nil _ _ _ _ _, HB0.out.trans (HB2.out.mono HB0.out.size)⟩
end Go.Proofs.Ytimejdhglmajdaa.F
end

section
namespace Go.Proofs.Ytimejdhglmajdaa.F
open Go.RowKit Go.Proofs.YtimejdhglmajdaaW.PrintWords Go.Proofs.YtimejdhglmajdaaW.PrintLast Go.Proofs.YtimejdhglmajdaaW.PrintMore
set_option linter.unusedVariables false
set_option linter.unusedSimpArgs false
attribute [local go_sem] min2_int min_two
def spec_RescueOrder.T8 : Bool × List (List Nat × List Nat) := (true, [([], []), ([], []), ([], []), ([1, 2], [1, 2]), ([0, 3], [0, 3]), ([], []), ([], []), ([6], [6]), ([5, 7], [5, 7]), ([4, 8, 4], [4, 8]), ([9, 9, 0, 1, 2, 3, 4, 5, 6, 7, 8, 9], [9])])
def spec_RescueOrder.B8 : List Nat := [0, 0, 0, 6, 15, 0, 0, 64, 224, 511, 1023]
theorem spec_RescueOrder.tab8 : rtab .any (opsOf Try.f40 8) = spec_RescueOrder.T8 := by kernel_rfl
theorem spec_RescueOrder.bits8 : waitsOk spec_RescueOrder.T8.2 spec_RescueOrder.B8 = true := by kernel_rfl
def spec_RescueOrder.T9 : Bool × List (List Nat × List Nat) := (true, [([], []), ([], []), ([], []), ([], []), ([2, 3], [2, 3]), ([4], [4]), ([0, 1, 5], [0, 1, 5]), ([6, 6, 0, 1, 2, 3, 4, 5, 6], [6])])
def spec_RescueOrder.B9 : List Nat := [0, 0, 0, 0, 12, 28, 63, 127]
theorem spec_RescueOrder.tab9 : rtab .any (opsOf Try.f40 9) = spec_RescueOrder.T9 := by kernel_rfl
theorem spec_RescueOrder.bits9 : waitsOk spec_RescueOrder.T9.2 spec_RescueOrder.B9 = true := by kernel_rfl
def spec_RescueOrder.T10 : Bool × List (List Nat × List Nat) := (true, [([], []), ([], []), ([], []), ([], []), ([2, 3], [2, 3]), ([4], [4]), ([], []), ([1, 5, 6], [1, 5, 6]), ([0, 7], [0, 7]), ([], []), ([8, 9], [8, 9])])
def spec_RescueOrder.B10 : List Nat := [0, 0, 0, 0, 12, 28, 0, 126, 255, 0, 1023]
theorem spec_RescueOrder.tab10 : rtab .any (opsOf Try.f40 10) = spec_RescueOrder.T10 := by kernel_rfl
theorem spec_RescueOrder.bits10 : waitsOk spec_RescueOrder.T10.2 spec_RescueOrder.B10 = true := by kernel_rfl
set_option maxHeartbeats 8000000 in
set_option maxRecDepth 100000 in
theorem spec_RescueOrder.calls (k : Nat) (a0_0 : Int) (a0_1 : Int) (a0_2 : Int) (a1 : Int) (A2 : Option Addr) (c2 : Nat) (l2 : List Int) (r : List Int) (w : World) (hr2 : Kd.C (Kd.int .i64) w A2 l2.length l2) (hc2 : l2.length ≤ c2) (h : spec_RescueOrder.f k a0_0 a0_1 a0_2 a1 l2 = some r) :
  Calls Try.prog 40 #[.agg #[.int .i64 a0_0, .int .i64 a0_1, .int .i64 a0_2], .int .i64 a1, .slice A2 l2.length c2] w fun e w' => ∃ v0_ : Value, e = .returned (v0_) ∧ Kd.R (Kd.int .i64) 3 w' w.heap.size (fun _ => True) v0_ r ∧ Below w.heap.size w w' := by
 have hu32 := Try.underlying32
 have HR2 := aK hr2
 have HC2 := aK hc2
 clear hr2 hc2
 have HB := aK (Below.refl w.heap.size w)
 have H : ((spec_RescueLength.f k a0_0 a0_1 a0_2 a1 l2).bind fun t721 => ((spec_l28Copy.f l2).bind fun t722 => (spec_RescueOrder.l0 k a1 (([] : List Int)) t721 t722 a0_0 a0_1 a0_2))) = some r := h
 clear h
 obtain ⟨y718, hy718⟩ : ∃ y_ : List Int, y_ = (([] : List Int)) := ⟨_, rfl⟩
 replace H : ((spec_RescueLength.f k a0_0 a0_1 a0_2 a1 l2).bind fun t721 => ((spec_l28Copy.f l2).bind fun t722 => (spec_RescueOrder.l0 k a1 y718 t721 t722 a0_0 a0_1 a0_2))) = some r := by first | (rw [hy718]; with_reducible exact H) | (have H2_ := (Option.bind_some _ _).symm.trans H; rw [hy718]; with_reducible exact H2_) | (have H2_ := (Option.bind_some _ _).symm.trans H; with_reducible exact H2_) | with_reducible exact H | (rw [hy718]; exact H) | exact H
 have Ny718 := aK hy718
 clear hy718
 replace H := Option.bind_eq_some_iff.mp H
 obtain ⟨t721, A40, H⟩ := H
 replace H : ((spec_l28Copy.f l2).bind fun t722 => (spec_RescueOrder.l0 k a1 y718 t721 t722 a0_0 a0_1 a0_2)) = some r := H
 have A4 := aK A40
 clear A40
 replace H := Option.bind_eq_some_iff.mp H
 obtain ⟨t722, A50, H⟩ := H
 replace H : (spec_RescueOrder.l0 k a1 y718 t721 t722 a0_0 a0_1 a0_2) = some r := H
 have A5 := aK A50
 clear A50
 have H' := aK H
 clear H
 go_enter Try.func40, Try.ntmps40
 go_wp2_with (first | ((with_reducible refine gate_dst (N := 3) rfl ?_); refine box_event ?hg (N := 3) ?hd (cs := #[.int .i64 a0_0, .int .i64 a0_1, .int .i64 a0_2]) (t := 32) ?hr ?_; (case hd => rfl); (case hg => rfl); (case hr => first | (go_simp; done) | (go_simp; rfl)); intro gb717 hg w6 hbox hb; have n0_ := aK (bSp (by repeat (first | (with_reducible first | exact HB.out | apply bAl | apply bDN | apply bD1) | exact HB.out)) hb); have n1_ := aK (hbox); have n2_ := aK ((by rw [hg]; exact (bSz (by repeat (first | (with_reducible first | exact HB.out | apply bAl | apply bDN | apply bD1) | exact HB.out))) : w.heap.size ≤ gb717)); have n3_ := n2_; clear HB; have HB := n0_; have BK717 := n1_; have GW717 := n2_; have GE717 := n3_; clear n0_ n1_ n2_ n3_; clear hb hbox hg) | ((with_reducible refine gate_dst (N := 13) rfl ?_); refine Kd.R_lit (Kd.int .i64) _ 3 ?hg (N := 13) ?hd (xs := ([] : List Int)) (inner := []) (ok := fun _ => True) (okp := fun _ => True) ?hr ?hp (fun _ hk => hk) trivial (Below.refl _ _) (Nat.le_refl _) (by simp) ?_; (case hd => rfl); (case hg => rfl); (case hr => first | (go_simp; done) | (go_simp; rfl)); (case hp => exact (Reps.none _ _)); intro v719 w7 ho8 hb hg_ hnew_; clear hg_ hnew_; (first | rw [← Ny718.out] at ho8 | (simp only [Int.reduceToNat] at ho8; rw [← Ny718.out] at ho8)); have n0_ := aK (Kd.R_lower ho8 (bSz (by repeat (first | (with_reducible first | exact HB.out | apply bAl | apply bDN | apply bD1 | refine bSt ?_ GE717.out) | exact HB.out)))); have n1_ := bkb BK717 hb (by intro z_; (with_reducible repeat (first | refine kDN ?_ _ | refine kD ?_ | refine kA ?_ _)); exact z_); have n2_ := aK (bSp (by repeat (first | (with_reducible first | exact HB.out | apply bAl | apply bDN | apply bD1 | refine bSt ?_ GE717.out) | exact HB.out)) hb); clear BK717; clear HB; have HO720 := n0_; have BK717 := n1_; have HB := n2_; clear n0_ n1_ n2_; clear hb ho8; obtain ⟨hcz9_0, hcz9_1, hcz9_2, hfz9_0, hfz9_1, hfz9_2⟩ := cl3 BK717.out) | ((with_reducible refine gate_callee (f := 25) rfl ?_); refine goesL_ (some 17) rfl rfl Try.func25 (by kernel_rfl) rfl #[.agg #[.int .i64 a0_0, .int .i64 a0_1, .int .i64 a0_2], .int .i64 a1, .slice A2 l2.length c2] rfl (by (try simp only [List.map_toArray, List.map_cons, List.map_nil]); first | done | rfl | (simp only [List.length_drop, List.length_take]; rfl)) ?_; (with_reducible refine (spec_RescueLength.calls k a0_0 a0_1 a0_2 a1 _ _ l2 t721 _ ?side1 ?side2 A4.out).mono ?_); (case side1 => repeat (first | exact (Kd.C_below HR2.out HB.out) | (with_reducible refine Kd.C_alloc ?_ _) | (with_reducible refine Kd.C_drewN ?_ _) | (with_reducible refine Kd.C_drew ?_))); (case side2 => exact HC2.out); rintro e w10 ⟨rfl, hb⟩; refine ⟨_, rfl, ?_⟩; have n0_ := aK (Kd.R_below (by (with_reducible repeat (first | apply Kd.R_alloc | apply Kd.R_drewN | apply Kd.R_drew)); exact HO720.out) hb); have n1_ := bkb BK717 hb (by intro z_; (with_reducible repeat (first | refine kDN ?_ _ | refine kD ?_ | refine kA ?_ _)); exact z_); have n2_ := aK (bSp (by repeat (first | (with_reducible first | exact HB.out | apply bAl | apply bDN | apply bD1 | refine bSt ?_ GE717.out) | exact HB.out)) hb); clear HO720; clear BK717; clear HB; have HO720 := n0_; have BK717 := n1_; have HB := n2_; clear n0_ n1_ n2_; (try clear hb); (try clear hb2); (try clear hk); (try clear hi)) | ((with_reducible refine gate_callee (f := 90) rfl ?_); refine goesL_ (some 19) rfl rfl Try.func90 (by kernel_rfl) rfl #[.slice A2 l2.length c2] rfl (by (try simp only [List.map_toArray, List.map_cons, List.map_nil]); first | done | rfl | (simp only [List.length_drop, List.length_take]; rfl)) ?_; (with_reducible refine (spec_l28Copy.calls _ _ l2 t722 _ ?side1 ?side2 A5.out).mono ?_); (case side1 => repeat (first | exact (Kd.C_below HR2.out HB.out) | (with_reducible refine Kd.C_alloc ?_ _) | (with_reducible refine Kd.C_drewN ?_ _) | (with_reducible refine Kd.C_drew ?_))); (case side2 => exact HC2.out); rintro e w11 ⟨v723, rfl, ho0, hb⟩; refine ⟨_, rfl, ?_⟩; have n0_ := aK (Kd.R_elder' (by (with_reducible repeat (first | apply Kd.R_alloc | apply Kd.R_drewN | apply Kd.R_drew)); exact HO720.out) (Kd.R_base ho0) hb); have n1_ := aK (Kd.R_lower (Kd.R_new' ho0 (Kd.R_lt (by (with_reducible repeat (first | apply Kd.R_alloc | apply Kd.R_drewN | apply Kd.R_drew)); exact HO720.out))) (bSz (by repeat (first | (with_reducible first | exact HB.out | apply bAl | apply bDN | apply bD1 | refine bSt ?_ GE717.out) | exact HB.out)))); have n2_ := bkb BK717 hb (by intro z_; (with_reducible repeat (first | refine kDN ?_ _ | refine kD ?_ | refine kA ?_ _)); exact z_); have n3_ := aK (bSp (by repeat (first | (with_reducible first | exact HB.out | apply bAl | apply bDN | apply bD1 | refine bSt ?_ GE717.out) | exact HB.out)) hb); clear HO720; clear BK717; clear HB; have HO720 := n0_; have HO724 := n1_; have BK717 := n2_; have HB := n3_; clear n0_ n1_ n2_ n3_; (try clear hb); (try clear hb2); (try clear hk); (try clear hi); (try clear ho0)))
 go_loopg [1, 7, 8, 9] k (fun kq v1 v7 v8 v9 w' => ∃ (x1_1 : Int) (x7_1 : List Int) (x8_1 : Int) (x9_1 : List Int), v1 = .int .i64 x1_1 ∧ v8 = .int .i64 x8_1 ∧ Aside0 (spec_RescueOrder.l0 kq x1_1 x7_1 x8_1 x9_1 a0_0 a0_1 a0_2 = some r) ∧ Aside0 (kq ≤ k) ∧ Aside0 (Kd.R (Kd.int .i64) 3 w' w.heap.size (fun k_ => some k_ ≠ (v9 : Value).ownBlock) v7 x7_1) ∧ Aside0 (Kd.R (Kd.int .i64) 3 w' w.heap.size (fun k_ => some k_ ≠ (v7 : Value).ownBlock) v9 x9_1) ∧ Aside0 (w'.heap[gb717]? = some (.cells #[.int .i64 a0_0, .int .i64 a0_1, .int .i64 a0_2] 32 (0, 0))) ∧ Aside0 (Below w.heap.size w w'))
 case atStart => exact ⟨(a1), (y718), (t721), (t722), (by first | rfl | (simp; done) | (simp [*]; done)), (by first | rfl | (simp; done) | (simp [*]; done)), H', ⟨Nat.le_refl _⟩, ⟨by (with_reducible repeat (first | apply Kd.R_alloc | apply Kd.R_drewN | apply Kd.R_drew)); exact Kd.R_mono HO720.out (fun _ hk => hk.2)⟩, ⟨by (with_reducible repeat (first | apply Kd.R_alloc | apply Kd.R_drewN | apply Kd.R_drew)); exact Kd.R_mono HO724.out (fun _ hk => hk.2)⟩, ⟨by (with_reducible repeat (first | refine kDN ?_ _ | refine kD ?_ | refine kA ?_ _)); exact BK717.out⟩, ⟨by repeat (first | (with_reducible first | exact HB.out | apply bAl | apply bDN | apply bD1 | refine bSt ?_ GE717.out) | exact HB.out)⟩⟩
 case round =>
  clear H'
  try clear c2
  try clear p2
  try clear c4
  try clear c9
  try clear hcz9_0
  try clear hcz9_1
  try clear hcz9_2
  try clear hfz9_0
  try clear hfz9_1
  try clear hfz9_2
  obtain ⟨x1_1, x7_1, x8_1, x9_1, rfl, rfl, HA, HK1, HO_7, HO_9, BK717, HB⟩ := hrel
  cases gk with
  | zero => exact absurd HA.out (by simp [spec_RescueOrder.l0])
  | succ k1 =>
   have H := HA.out
   clear HA
   simp only [spec_RescueOrder.l0] at H
   have HC12 := aK H
   clear H
   go_upto_region 4 with (fail)
   go_cut [26] (fun v26 wc => ∃ (kq : Nat) (x26_11 : Bool), v26 = .bool x26_11 ∧ Aside0 (spec_RescueOrder.j1 kq x1_1 x7_1 x8_1 x9_1 x26_11 a0_0 a0_1 a0_2 = some r) ∧ Aside0 (kq ≤ k1) ∧ Aside0 (Kd.R (Kd.int .i64) 3 wc w.heap.size (fun k_ => some k_ ≠ (u9 : Value).ownBlock) u7 x7_1) ∧ Aside0 (Kd.R (Kd.int .i64) 3 wc w.heap.size (fun k_ => some k_ ≠ (u7 : Value).ownBlock) u9 x9_1) ∧ Aside0 (wc.heap[gb717]? = some (.cells #[.int .i64 a0_0, .int .i64 a0_1, .int .i64 a0_2] 32 (0, 0))) ∧ Aside0 (Below w.heap.size w wc))
   case first =>
    have H := HC12.out
    clear HC12
    by_cases c13 : (x9_1.length : Int) > 0
    ·rw [if_pos c13] at H
     have c13b0 : decide (0 < (x9_1.length : Int)) = true := decide_eq_true c13
     have c13b1 : decide (0 < x9_1.length) = true := decide_eq_true (by omega)
     clear c13
     (first | rw [c13b0] | (simp only [i64_w, i32_w]; rw [c13b0]) | skip)
     have H' := aK H
     clear H
     obtain ⟨Ao14, co14, eo14⟩ := Kd.R_slice HO_9.out
     subst eo14
     go_wp2
     go_meet
     case rel => exact ⟨_, (decide (x8_1 ≥ 0)), (by first | rfl | (simp; done) | (simp [*]; done)), H', ⟨by have := HK1.out; first | omega | exact Nat.le_refl _⟩, ⟨by (with_reducible repeat (first | apply Kd.R_alloc | apply Kd.R_drewN | apply Kd.R_drew)); exact HO_7.out⟩, ⟨by (with_reducible repeat (first | apply Kd.R_alloc | apply Kd.R_drewN | apply Kd.R_drew)); exact HO_9.out⟩, ⟨by (with_reducible repeat (first | refine kDN ?_ _ | refine kD ?_ | refine kA ?_ _)); exact BK717.out⟩, ⟨by repeat (first | (with_reducible first | exact HB.out | apply bAl | apply bDN | apply bD1 | refine bSt ?_ GE717.out) | exact HB.out)⟩⟩
    ·rw [if_neg c13] at H
     have c13b0 : decide (0 < (x9_1.length : Int)) = false := decide_eq_false c13
     have c13b1 : decide (0 < x9_1.length) = false := decide_eq_false (by omega)
     clear c13
     (first | rw [c13b0] | (simp only [i64_w, i32_w]; rw [c13b0]) | skip)
     have H' := aK H
     clear H
     obtain ⟨Ao15, co15, eo15⟩ := Kd.R_slice HO_9.out
     subst eo15
     go_wp2
     go_meet
     case rel => exact ⟨_, (false), (by first | rfl | (simp; done) | (simp [*]; done)), H', ⟨by have := HK1.out; first | omega | exact Nat.le_refl _⟩, ⟨by (with_reducible repeat (first | apply Kd.R_alloc | apply Kd.R_drewN | apply Kd.R_drew)); exact HO_7.out⟩, ⟨by (with_reducible repeat (first | apply Kd.R_alloc | apply Kd.R_drewN | apply Kd.R_drew)); exact HO_9.out⟩, ⟨by (with_reducible repeat (first | refine kDN ?_ _ | refine kD ?_ | refine kA ?_ _)); exact BK717.out⟩, ⟨by repeat (first | (with_reducible first | exact HB.out | apply bAl | apply bDN | apply bD1 | refine bSt ?_ GE717.out) | exact HB.out)⟩⟩
   case rest =>
    clear HC12
    try clear c1
    try clear c2
    try clear p2
    try clear c4
    try clear c9
    try clear c13
    try clear c13b0
    try clear c13b1
    try clear hcz9_0
    try clear hcz9_1
    try clear hcz9_2
    try clear hfz9_0
    try clear hfz9_1
    try clear hfz9_2
    try clear p2
    obtain ⟨kq, x26_11, rfl, HA, HJ11, HO_7, HO_9, BK717, HB⟩ := hcut
    cases kq with
    | zero => exact absurd HA.out (by simp [spec_RescueOrder.j1])
    | succ kj11 =>
     have H := HA.out
     clear HA
     simp only [spec_RescueOrder.j1] at H
     by_cases c16 : x26_11 = true
     ·subst c16
      have H1 : (spec_RescueOrder.l1 kj11 x1_1 x7_1 x8_1 x9_1 0 a0_0 a0_1 a0_2) = some r := by rw [if_pos rfl] at H; exact H
      clear H
      have H := H1
      clear H1
      have H' := aK H
      clear H
      go_wp2
      go_loopg [1, 7, 8, 9, 10] kj11 (fun kq v1 v7 v8 v9 v10 w' => ∃ (x1_3 : Int) (x7_3 : List Int) (x8_3 : Int) (x9_3 : List Int) (x10_3 : Int), v1 = .int .i64 x1_3 ∧ v8 = .int .i64 x8_3 ∧ v10 = .int .i64 x10_3 ∧ Aside0 (spec_RescueOrder.l1 kq x1_3 x7_3 x8_3 x9_3 x10_3 a0_0 a0_1 a0_2 = some r) ∧ Aside0 (kq ≤ kj11) ∧ Aside0 (Kd.R (Kd.int .i64) 3 w' w.heap.size (fun k_ => some k_ ≠ (v9 : Value).ownBlock) v7 x7_3) ∧ Aside0 (Kd.R (Kd.int .i64) 3 w' w.heap.size (fun k_ => some k_ ≠ (v7 : Value).ownBlock) v9 x9_3) ∧ Aside0 (w'.heap[gb717]? = some (.cells #[.int .i64 a0_0, .int .i64 a0_1, .int .i64 a0_2] 32 (0, 0))) ∧ Aside0 (Below w.heap.size w w'))
      case atStart => exact ⟨(x1_1), (x7_1), (x8_1), (x9_1), (0), (by first | rfl | (simp; done) | (simp [*]; done)), (by first | rfl | (simp; done) | (simp [*]; done)), (by first | rfl | (simp; done) | (simp [*]; done)), H', ⟨Nat.le_refl _⟩, ⟨by (with_reducible repeat (first | apply Kd.R_alloc | apply Kd.R_drewN | apply Kd.R_drew)); exact HO_7.out⟩, ⟨by (with_reducible repeat (first | apply Kd.R_alloc | apply Kd.R_drewN | apply Kd.R_drew)); exact HO_9.out⟩, ⟨by (with_reducible repeat (first | refine kDN ?_ _ | refine kD ?_ | refine kA ?_ _)); exact BK717.out⟩, ⟨by repeat (first | (with_reducible first | exact HB.out | apply bAl | apply bDN | apply bD1 | refine bSt ?_ GE717.out) | exact HB.out)⟩⟩
      case round =>
       clear H'
       try clear c1
       try clear c2
       try clear p2
       try clear c4
       try clear c9
       try clear c13
       try clear c13b0
       try clear c13b1
       try clear c16
       try clear hcz9_0
       try clear hcz9_1
       try clear hcz9_2
       try clear hfz9_0
       try clear hfz9_1
       try clear hfz9_2
       try clear p2
       obtain ⟨x1_3, x7_3, x8_3, x9_3, x10_3, rfl, rfl, rfl, HA, HK3, HO_7, HO_9, BK717, HB⟩ := hrel
       cases gk with
       | zero => exact absurd HA.out (by simp [spec_RescueOrder.l1])
       | succ k3 =>
        have H := HA.out
        clear HA
        simp only [spec_RescueOrder.l1] at H
        by_cases c17 : x10_3 < (x9_3.length : Int)
        ·rw [if_pos c17] at H
         have c17b0 : decide (x10_3 < (x9_3.length : Int)) = true := decide_eq_true c17
         clear c17
         obtain ⟨y725, hy725⟩ : ∃ y_ : List Int, y_ = (([] : List Int)) := ⟨_, rfl⟩
         replace H : (if 0 ≤ x10_3 then (if x10_3 ≤ (x9_3.length : Int) then ((some (x9_3.take (x10_3 : Int).toNat : List Int)).bind fun y728 => (if y725.length + y728.length < 17592186044416 then ((some (y725 ++ y728 : List Int)).bind fun y732 => (if 0 ≤ (wrap64 (x10_3 + 1)) then (if (wrap64 (x10_3 + 1)) ≤ (x9_3.length : Int) then ((some (x9_3.drop ((wrap64 (x10_3 + 1)) : Int).toNat : List Int)).bind fun y735 => (if y732.length + y735.length < 17592186044416 then ((some (y732 ++ y735 : List Int)).bind fun y739 => ((spec_DistanceOf.f k3 a0_0 a0_1 a0_2 x1_3 (rd x9_3 x10_3)).bind fun t743 => ((spec_l34Best.f k3 a0_0 a0_1 a0_2 (rd x9_3 x10_3) y739 (-1)).bind fun t745 => (if (wrap64 (t743 + t745)) = x8_3 then (if x7_3.length < 17592186044416 then (spec_RescueOrder.l0 k3 (rd x9_3 x10_3) (x7_3 ++ [rd x9_3 x10_3]) (wrap64 (x8_3 - t743)) y739 a0_0 a0_1 a0_2) else (none)) else (spec_RescueOrder.l1 k3 x1_3 x7_3 x8_3 x9_3 (wrap64 (x10_3 + 1)) a0_0 a0_1 a0_2))))) else (none))) else (none)) else (none))) else (none))) else (none)) else (none)) = some r := by first | (rw [hy725]; with_reducible exact H) | (have H2_ := (Option.bind_some _ _).symm.trans H; rw [hy725]; with_reducible exact H2_) | (have H2_ := (Option.bind_some _ _).symm.trans H; with_reducible exact H2_) | with_reducible exact H | (rw [hy725]; exact H) | exact H
         have Ny725 := aK hy725
         clear hy725
         by_cases c18 : 0 ≤ x10_3
         ·rw [if_pos c18] at H
          have c18b0 := eq_true c18
          have c18b1 : decide (0 ≤ x10_3) = true := decide_eq_true c18
          clear c18
          by_cases c19 : x10_3 ≤ (x9_3.length : Int)
          ·rw [if_pos c19] at H
           have c19b0 := eq_true c19
           have c19b1 : decide (x10_3 ≤ (x9_3.length : Int)) = true := decide_eq_true c19
           clear c19
           obtain ⟨y728, hy728⟩ : ∃ y_ : List Int, y_ = (x9_3.take (x10_3 : Int).toNat) := ⟨_, rfl⟩
           replace H : (if y725.length + y728.length < 17592186044416 then ((some (y725 ++ y728 : List Int)).bind fun y732 => (if 0 ≤ (wrap64 (x10_3 + 1)) then (if (wrap64 (x10_3 + 1)) ≤ (x9_3.length : Int) then ((some (x9_3.drop ((wrap64 (x10_3 + 1)) : Int).toNat : List Int)).bind fun y735 => (if y732.length + y735.length < 17592186044416 then ((some (y732 ++ y735 : List Int)).bind fun y739 => ((spec_DistanceOf.f k3 a0_0 a0_1 a0_2 x1_3 (rd x9_3 x10_3)).bind fun t743 => ((spec_l34Best.f k3 a0_0 a0_1 a0_2 (rd x9_3 x10_3) y739 (-1)).bind fun t745 => (if (wrap64 (t743 + t745)) = x8_3 then (if x7_3.length < 17592186044416 then (spec_RescueOrder.l0 k3 (rd x9_3 x10_3) (x7_3 ++ [rd x9_3 x10_3]) (wrap64 (x8_3 - t743)) y739 a0_0 a0_1 a0_2) else (none)) else (spec_RescueOrder.l1 k3 x1_3 x7_3 x8_3 x9_3 (wrap64 (x10_3 + 1)) a0_0 a0_1 a0_2))))) else (none))) else (none)) else (none))) else (none)) = some r := by first | (rw [hy728]; with_reducible exact H) | (have H2_ := (Option.bind_some _ _).symm.trans H; rw [hy728]; with_reducible exact H2_) | (have H2_ := (Option.bind_some _ _).symm.trans H; with_reducible exact H2_) | with_reducible exact H | (rw [hy728]; exact H) | exact H
           have Ny728 := aK hy728
           clear hy728
           by_cases c20 : y725.length + y728.length < 17592186044416
           ·rw [if_pos c20] at H
            have LMc20 := aK c20
            clear c20
            obtain ⟨y732, hy732⟩ : ∃ y_ : List Int, y_ = (y725 ++ y728) := ⟨_, rfl⟩
            replace H : (if 0 ≤ (wrap64 (x10_3 + 1)) then (if (wrap64 (x10_3 + 1)) ≤ (x9_3.length : Int) then ((some (x9_3.drop ((wrap64 (x10_3 + 1)) : Int).toNat : List Int)).bind fun y735 => (if y732.length + y735.length < 17592186044416 then ((some (y732 ++ y735 : List Int)).bind fun y739 => ((spec_DistanceOf.f k3 a0_0 a0_1 a0_2 x1_3 (rd x9_3 x10_3)).bind fun t743 => ((spec_l34Best.f k3 a0_0 a0_1 a0_2 (rd x9_3 x10_3) y739 (-1)).bind fun t745 => (if (wrap64 (t743 + t745)) = x8_3 then (if x7_3.length < 17592186044416 then (spec_RescueOrder.l0 k3 (rd x9_3 x10_3) (x7_3 ++ [rd x9_3 x10_3]) (wrap64 (x8_3 - t743)) y739 a0_0 a0_1 a0_2) else (none)) else (spec_RescueOrder.l1 k3 x1_3 x7_3 x8_3 x9_3 (wrap64 (x10_3 + 1)) a0_0 a0_1 a0_2))))) else (none))) else (none)) else (none)) = some r := by first | (rw [hy732]; with_reducible exact H) | (have H2_ := (Option.bind_some _ _).symm.trans H; rw [hy732]; with_reducible exact H2_) | (have H2_ := (Option.bind_some _ _).symm.trans H; with_reducible exact H2_) | with_reducible exact H | (rw [hy732]; exact H) | exact H
            have Ny732 := aK hy732
            clear hy732
            obtain ⟨ji21, hji21⟩ : ∃ j_ : Int, (wrap64 (x10_3 + 1)) = j_ := ⟨_, rfl⟩
            replace H : (if 0 ≤ (ji21) then (if (ji21) ≤ (x9_3.length : Int) then ((some (x9_3.drop ((ji21) : Int).toNat : List Int)).bind fun y735 => (if y732.length + y735.length < 17592186044416 then ((some (y732 ++ y735 : List Int)).bind fun y739 => ((spec_DistanceOf.f k3 a0_0 a0_1 a0_2 x1_3 (rd x9_3 x10_3)).bind fun t743 => ((spec_l34Best.f k3 a0_0 a0_1 a0_2 (rd x9_3 x10_3) y739 (-1)).bind fun t745 => (if (wrap64 (t743 + t745)) = x8_3 then (if x7_3.length < 17592186044416 then (spec_RescueOrder.l0 k3 (rd x9_3 x10_3) (x7_3 ++ [rd x9_3 x10_3]) (wrap64 (x8_3 - t743)) y739 a0_0 a0_1 a0_2) else (none)) else (spec_RescueOrder.l1 k3 x1_3 x7_3 x8_3 x9_3 ji21 a0_0 a0_1 a0_2))))) else (none))) else (none)) else (none)) = some r := by first | (rw [hji21] at H; exact H) | (simp only [hji21] at H ⊢; exact H)
            have hji21w : (IntKind.i64.wrap (x10_3 + 1)) = ji21 := (i64_w _).trans hji21
            by_cases c22 : 0 ≤ (ji21)
            ·rw [if_pos c22] at H
             have c22b0 := eq_true c22
             have c22b1 : decide (0 ≤ (ji21)) = true := decide_eq_true c22
             clear c22
             by_cases c23 : (ji21) ≤ (x9_3.length : Int)
             ·rw [if_pos c23] at H
              have c23b0 := eq_true c23
              have c23b1 : decide ((ji21) ≤ (x9_3.length : Int)) = true := decide_eq_true c23
              clear c23
              obtain ⟨y735, hy735⟩ : ∃ y_ : List Int, y_ = (x9_3.drop ((ji21) : Int).toNat) := ⟨_, rfl⟩
              replace H : (if y732.length + y735.length < 17592186044416 then ((some (y732 ++ y735 : List Int)).bind fun y739 => ((spec_DistanceOf.f k3 a0_0 a0_1 a0_2 x1_3 (rd x9_3 x10_3)).bind fun t743 => ((spec_l34Best.f k3 a0_0 a0_1 a0_2 (rd x9_3 x10_3) y739 (-1)).bind fun t745 => (if (wrap64 (t743 + t745)) = x8_3 then (if x7_3.length < 17592186044416 then (spec_RescueOrder.l0 k3 (rd x9_3 x10_3) (x7_3 ++ [rd x9_3 x10_3]) (wrap64 (x8_3 - t743)) y739 a0_0 a0_1 a0_2) else (none)) else (spec_RescueOrder.l1 k3 x1_3 x7_3 x8_3 x9_3 ji21 a0_0 a0_1 a0_2))))) else (none)) = some r := by first | (rw [hy735]; with_reducible exact H) | (have H2_ := (Option.bind_some _ _).symm.trans H; rw [hy735]; with_reducible exact H2_) | (have H2_ := (Option.bind_some _ _).symm.trans H; with_reducible exact H2_) | with_reducible exact H | (rw [hy735]; exact H) | exact H
              have Ny735 := aK hy735
              clear hy735
              by_cases c24 : y732.length + y735.length < 17592186044416
              ·rw [if_pos c24] at H
               have LMc24 := aK c24
               clear c24
               obtain ⟨y739, hy739⟩ : ∃ y_ : List Int, y_ = (y732 ++ y735) := ⟨_, rfl⟩
               replace H : ((spec_DistanceOf.f k3 a0_0 a0_1 a0_2 x1_3 (rd x9_3 x10_3)).bind fun t743 => ((spec_l34Best.f k3 a0_0 a0_1 a0_2 (rd x9_3 x10_3) y739 (-1)).bind fun t745 => (if (wrap64 (t743 + t745)) = x8_3 then (if x7_3.length < 17592186044416 then (spec_RescueOrder.l0 k3 (rd x9_3 x10_3) (x7_3 ++ [rd x9_3 x10_3]) (wrap64 (x8_3 - t743)) y739 a0_0 a0_1 a0_2) else (none)) else (spec_RescueOrder.l1 k3 x1_3 x7_3 x8_3 x9_3 ji21 a0_0 a0_1 a0_2)))) = some r := by first | (rw [hy739]; with_reducible exact H) | (have H2_ := (Option.bind_some _ _).symm.trans H; rw [hy739]; with_reducible exact H2_) | (have H2_ := (Option.bind_some _ _).symm.trans H; with_reducible exact H2_) | with_reducible exact H | (rw [hy739]; exact H) | exact H
               have Ny739 := aK hy739
               clear hy739
               replace H := Option.bind_eq_some_iff.mp H
               obtain ⟨t743, A250, H⟩ := H
               replace H : ((spec_l34Best.f k3 a0_0 a0_1 a0_2 (rd x9_3 x10_3) y739 (-1)).bind fun t745 => (if (wrap64 (t743 + t745)) = x8_3 then (if x7_3.length < 17592186044416 then (spec_RescueOrder.l0 k3 (rd x9_3 x10_3) (x7_3 ++ [rd x9_3 x10_3]) (wrap64 (x8_3 - t743)) y739 a0_0 a0_1 a0_2) else (none)) else (spec_RescueOrder.l1 k3 x1_3 x7_3 x8_3 x9_3 ji21 a0_0 a0_1 a0_2))) = some r := H
               have A25 := aK A250
               clear A250
               replace H := Option.bind_eq_some_iff.mp H
               obtain ⟨t745, A260, H⟩ := H
               replace H : (if (wrap64 (t743 + t745)) = x8_3 then (if x7_3.length < 17592186044416 then (spec_RescueOrder.l0 k3 (rd x9_3 x10_3) (x7_3 ++ [rd x9_3 x10_3]) (wrap64 (x8_3 - t743)) y739 a0_0 a0_1 a0_2) else (none)) else (spec_RescueOrder.l1 k3 x1_3 x7_3 x8_3 x9_3 ji21 a0_0 a0_1 a0_2)) = some r := H
               have A26 := aK A260
               clear A260
               by_cases c27 : (wrap64 (t743 + t745)) = x8_3
               ·rw [if_pos c27] at H
                have c27b0 : ((wrap64 (t743 + t745)) == x8_3) = true := beq_iff_eq.mpr c27
                have c27b1 : ((wrap64 (t743 + t745)) != x8_3) = false := bne_eq_false_iff_eq.mpr c27
                clear c27
                by_cases c28 : x7_3.length < 17592186044416
                ·rw [if_pos c28] at H
                 have LMc28 := aK c28
                 clear c28
                 obtain ⟨y747, hy747⟩ : ∃ y_ : List Int, y_ = (x7_3 ++ [rd x9_3 x10_3]) := ⟨_, rfl⟩
                 replace H : (spec_RescueOrder.l0 k3 (rd x9_3 x10_3) y747 (wrap64 (x8_3 - t743)) y739 a0_0 a0_1 a0_2) = some r := by first | (rw [hy747]; with_reducible exact H) | (have H2_ := (Option.bind_some _ _).symm.trans H; rw [hy747]; with_reducible exact H2_) | (have H2_ := (Option.bind_some _ _).symm.trans H; with_reducible exact H2_) | with_reducible exact H | (rw [hy747]; exact H) | exact H
                 have Ny747 := aK hy747
                 clear hy747
                 have H' := aK H
                 clear H
                 obtain ⟨Ao29, co29, eo29⟩ := Kd.R_slice HO_9.out
                 subst eo29
                 try go_wp2
                 have n0_ := aK (Kd.R_drew HO_7.out)
                 have n1_ := aK (Kd.R_drew HO_9.out)
                 have n2_ := aK (kD BK717.out)
                 have n3_ := aK (bD1 HB.out)
                 clear HO_7
                 clear HO_9
                 clear BK717
                 clear HB
                 have HO_7 := n0_
                 have HO_9 := n1_
                 have BK717 := n2_
                 have HB := n3_
                 clear n0_ n1_ n2_ n3_
                 have q31 : (x10_3 : Int) ≤ ((x9_3.length : Int) : Int) := of_decide_eq_true (by first | (with_reducible assumption) | assumption)
                 obtain ⟨i031, hi031, _, hsz31, _⟩ := info_parts info3
                 have hroom31 : x9_3.length ≤ co29 := (Kd.R_reads' HO_9.out).2.1
                 have hC31 : Kd.C (Kd.int .i64) _ Ao29 x9_3.length x9_3 := (Kd.R_reads' HO_9.out).2.2
                 have hcut31 := cut_to (P := Try.prog) 28 3 .i64 Try.underlying28 hi031 Ao29 x9_3.length co29 x10_3 (of_decide_eq_true (by first | (with_reducible assumption) | assumption)) q31 hroom31
                 have hr31 := Kd.C_take (m := (x10_3 : Int).toNat) hC31 (by omega)
                 have hy31 : y728.length = (x10_3 : Int).toNat := (by rw [Ny728.out, List.length_take]; omega)
                 rw [← Ny728.out] at hr31
                 rw [← hy31] at hcut31
                 have HR731 := aK hr31
                 have HC731 := aK (show y728.length ≤ co29 from by omega)
                 clear hr31 hC31 hroom31 hi031 hsz31
                 have KY31 := aK hy31
                 clear hy31
                 have KL31 := aK (show (x10_3 : Int).toNat ≤ x9_3.length from by omega)
                 replace q31 := eq_true q31
                 have q32 : ((ji21) : Int) ≤ ((x9_3.length : Int) : Int) := of_decide_eq_true (by first | (with_reducible assumption) | assumption)
                 obtain ⟨i032, hi032, _, hsz32, _⟩ := info_parts info3
                 have hroom32 : x9_3.length ≤ co29 := (Kd.R_reads' HO_9.out).2.1
                 have hC32 : Kd.C (Kd.int .i64) _ Ao29 x9_3.length x9_3 := (Kd.R_reads' HO_9.out).2.2
                 have q032 : (0 : Int) ≤ ((ji21) : Int) := of_decide_eq_true (by first | (with_reducible assumption) | assumption)
                 have hcut32 := cut_from (P := Try.prog) 28 3 .i64 Try.underlying28 hi032 1 hsz32 Ao29 x9_3.length co29 (ji21) q032 q32
                 have hr32 := Kd.C_drop (m := ((ji21) : Int).toNat) (c := co29) hC32 (by omega) hroom32
                 obtain ⟨A32, hA32⟩ : ∃ A1, A1 = (if co29 = ((ji21) : Int).toNat then Ao29 else (Ao29 : Option Addr).map (·.add (((ji21) : Int).toNat * 1))) := ⟨_, rfl⟩
                 obtain ⟨c32, hc32⟩ : ∃ c1, c1 = co29 - ((ji21) : Int).toNat := ⟨_, rfl⟩
                 have hy32 : y735.length = x9_3.length - ((ji21) : Int).toNat := (by rw [Ny735.out, List.length_drop] <;> omega)
                 rw [show (x9_3).drop ((ji21) : Int).toNat = y735 from Ny735.out.symm] at hr32
                 replace hr32 : Kd.C (Kd.int .i64) _ A32 y735.length y735 := (by rw [hA32]; exact hr32)
                 rw [← hy32, ← hA32, ← hc32] at hcut32
                 have HR738 := aK hr32
                 have HC738 := aK (show y735.length ≤ c32 from by rw [hy32, hc32]; exact Nat.sub_le_sub_right hroom32 _)
                 clear hr32 hC32 hroom32 hi032 hsz32 hc32
                 have KY32 := aK hy32
                 have KA32 := aK hA32
                 clear hy32 hA32
                 have KL32 := aK (show ((ji21) : Int).toNat ≤ x9_3.length from by omega)
                 replace q32 := eq_true q32
                 refine start_ (n := 11) (S := fun w' => True) (ds := []) #[bN,bN,bN,bN,bN,bN,bN,bN,bN,bN,bN] (by kernel_rfl) rfl rfl trivial (fun hHeld => ?_); refine with_tabW spec_RescueOrder.tab8 spec_RescueOrder.bits8 (fun HT_ HW_ => ?_)
                 generalize wr.drew = w30 at HO_7 HO_9 BK717 HB HR731 HR738 hHeld ⊢
                 refine pure_ (i := 1) (N := some 34) (v := ?_) (a' := ?_) #[bN,bY,bN,bN,bN,bN,bN,bN,bN,bN,bN] rfl rfl (any_of HT_.out (by kernel_rfl)) (fun _ _ _ h => h) (Or.inl ⟨by rfl, ?_⟩) ?_ ?_
                 rotate_left
                 ·intro w'
                  go_simp
                  with_reducible rfl
                 rotate_left
                 ·simp only [Act.put, sTA, sZ, sS, i64_w, i32_w]
                  rfl
                 refine pure_ (i := 2) (N := some 35) (v := ?_) (a' := ?_) #[bN,bY,bY,bN,bN,bN,bN,bN,bN,bN,bN] rfl rfl (any_of HT_.out (by kernel_rfl)) (fun _ _ _ h => h) (Or.inl ⟨by rfl, ?_⟩) ?_ ?_
                 rotate_left
                 ·intro w'
                  go_simp
                  with_reducible rfl
                 rotate_left
                 ·simp only [Act.put, sTA, sZ, sS, i64_w, i32_w]
                  rfl
                 refine pure_ (i := 3) (N := some 36) (v := ?_) (a' := ?_) #[bN,bY,bY,bY,bN,bN,bN,bN,bN,bN,bN] rfl rfl (any_of HT_.out (by kernel_rfl)) (fun _ _ _ h => h) (Or.inl ⟨by rfl, ?_⟩) ?_ ?_
                 rotate_left
                 ·intro w'
                  go_simp
                  with_reducible rfl
                 rotate_left
                 ·simp only [Act.put, sTA, sZ, sS, i64_w, i32_w]
                  rfl
                 refine pure_ (i := 5) (N := some 38) (v := ?_) (a' := ?_) #[bN,bY,bY,bY,bN,bY,bN,bN,bN,bN,bN] rfl rfl (any_of HT_.out (by kernel_rfl)) (fun _ _ _ h => h) (Or.inl ⟨by rfl, ?_⟩) ?_ ?_
                 rotate_left
                 ·intro w'
                  go_simp
                  with_reducible rfl
                 rotate_left
                 ·simp only [Act.put, sTA, sZ, sS, i64_w, i32_w]
                  rfl
                 refine pure_ (i := 6) (N := some 39) (v := ?_) (a' := ?_) #[bN,bY,bY,bY,bN,bY,bY,bN,bN,bN,bN] rfl rfl (any_of HT_.out (by kernel_rfl)) (fun _ _ _ h => h) (Or.inl ⟨by rfl, ?_⟩) ?_ ?_
                 rotate_left
                 ·intro w'
                  go_simp
                  with_reducible rfl
                 rotate_left
                 ·simp only [Act.put, sTA, sZ, sS, i64_w, i32_w]
                  rfl
                 refine pure_ (i := 7) (N := some 40) (v := ?_) (a' := ?_) #[bN,bY,bY,bY,bN,bY,bY,bY,bN,bN,bN] rfl rfl (any_of HT_.out (by kernel_rfl)) (fun _ _ _ h => h) (Or.inl ⟨by rfl, ?_⟩) ?_ ?_
                 rotate_left
                 ·intro w'
                  go_simp
                  with_reducible rfl
                 rotate_left
                 ·simp only [Act.put, sTA, sZ, sS, i64_w, i32_w]
                  rfl
                 refine pure_ (i := 8) (N := some 41) (v := ?_) (a' := ?_) #[bN,bY,bY,bY,bN,bY,bY,bY,bY,bN,bN] rfl rfl (any_of HT_.out (by kernel_rfl)) (fun _ _ _ h => h) (Or.inl ⟨by rfl, ?_⟩) ?_ ?_
                 rotate_left
                 ·intro w'
                  go_simp
                  with_reducible rfl
                 rotate_left
                 ·simp only [Act.put, sTA, sZ, sS, i64_w, i32_w]
                  rfl
                 refine one_ (i := 0) (N := some 33) #[bY,bY,bY,bY,bN,bY,bY,bY,bY,bN,bN] rfl rfl (one_of HT_.out (by kernel_rfl)) (by decide) (fun K hK => ?_)
                 refine Kd.R_lit_step (Kd.int .i64) _ 3 ?hg (N := 33) ?hd (xs := ([] : List Int)) (inner := []) (ok := fun _ => True) (okp := fun _ => True) ?hr ?hp (fun _ hk => hk) trivial (Below.refl _ _) (Nat.le_refl _) (by simp) ?_; (case hd => rfl); (case hg => rfl); (case hr => first | (go_simp; done) | (go_simp; rfl)); (case hp => exact (Reps.none _ _))
                 intro v726 w33 ho34 hb hg_ hnew_
                 clear hg_ hnew_
                 (first | rw [← Ny725.out] at ho34 | (simp only [Int.reduceToNat] at ho34; rw [← Ny725.out] at ho34))
                 have n0_ := aK (Kd.R_elder' (by (with_reducible repeat (first | apply Kd.R_alloc | apply Kd.R_drewN | apply Kd.R_drew)); exact HO_7.out) (Kd.R_base ho34) hb)
                 have n1_ := aK (Kd.R_elder' (by (with_reducible repeat (first | apply Kd.R_alloc | apply Kd.R_drewN | apply Kd.R_drew)); exact HO_9.out) (Kd.R_base ho34) hb)
                 have n2_ := aK (Kd.R_lower (Kd.R_new' (Kd.R_new' ho34 (Kd.R_lt (by (with_reducible repeat (first | apply Kd.R_alloc | apply Kd.R_drewN | apply Kd.R_drew)); exact HO_7.out))) (Kd.R_lt (by (with_reducible repeat (first | apply Kd.R_alloc | apply Kd.R_drewN | apply Kd.R_drew)); exact HO_9.out))) (bSz (by repeat (first | (with_reducible first | exact HB.out | apply bAl | apply bDN | apply bD1 | refine bSt ?_ GE717.out) | exact HB.out))))
                 have n3_ := bkb BK717 hb (by intro z_; (with_reducible repeat (first | refine kDN ?_ _ | refine kD ?_ | refine kA ?_ _)); exact z_)
                 have n4_ := aK (Kd.C_below (by repeat (first | (with_reducible exact HR731.out) | (with_reducible refine Kd.C_alloc ?_ _) | (with_reducible refine Kd.C_drewN ?_ _) | (with_reducible refine Kd.C_drew ?_) | exact HR731.out)) hb)
                 have n5_ := aK (Kd.C_below (by repeat (first | (with_reducible exact HR738.out) | (with_reducible refine Kd.C_alloc ?_ _) | (with_reducible refine Kd.C_drewN ?_ _) | (with_reducible refine Kd.C_drew ?_) | exact HR738.out)) hb)
                 have n6_ := aK (bSp (by repeat (first | (with_reducible first | exact HB.out | apply bAl | apply bDN | apply bD1 | refine bSt ?_ GE717.out) | exact HB.out)) hb)
                 clear HO_7
                 clear HO_9
                 clear BK717
                 clear HR731
                 clear HR738
                 clear HB
                 have HO_7 := n0_
                 have HO_9 := n1_
                 have HO727 := n2_
                 have BK717 := n3_
                 have HR731 := n4_
                 have HR738 := n5_
                 have HB := n6_
                 clear n0_ n1_ n2_ n3_ n4_ n5_ n6_
                 clear hb ho34
                 refine hK.out _ _ trivial (fun hHeld => ?_)
                 clear hK K
                 refine norm_ (a' := ?_) ?_ ?_
                 rotate_left
                 ·show Act.put _ (some 33) _ = _
                  simp only [Act.put, sTA, sZ, sS, i64_w, i32_w]
                  rfl
                 refine one_ (i := 4) (N := some 37) #[bY,bY,bY,bY,bY,bY,bY,bY,bY,bN,bN] rfl rfl (one_of HT_.out (by kernel_rfl)) (by decide) (fun K hK => ?_)
                 refine Kd.R_append_rows_step (Kd.int .i64) (w0 := w) w.heap.size (by rfl) (.tmp 33) (.tmp 36) 28 3 (.int .i64 0) 8 rfl Try.underlying28 info3 rfl (by decide) (by omega) v726 y725 y728 _ _ _ (fun k_ => some k_ ≠ (u7 : Value).ownBlock ∧ some k_ ≠ (.slice Ao29 x9_3.length co29 : Value).ownBlock) (fun _ => False) rfl rfl ?aO ?aR (fun _ _ h => h) (fun _ h => h.elim) ?aF ?aB ?aS ?aL ?_
                 (case aR => repeat (first | exact (by repeat (first | (with_reducible exact HR731.out) | (with_reducible refine Kd.C_alloc ?_ _) | (with_reducible refine Kd.C_drewN ?_ _) | (with_reducible refine Kd.C_drew ?_) | exact HR731.out)) | (with_reducible refine Kd.C_alloc ?_ _) | (with_reducible refine Kd.C_drewN ?_ _) | (with_reducible refine Kd.C_drew ?_)))
                 (case aB => exact (by repeat (first | (with_reducible first | exact HB.out | apply bAl | apply bDN | apply bD1 | refine bSt ?_ GE717.out) | exact HB.out)))
                 (case aF => exact (fun k_ hk => ⟨Kd.fresh' (Kd.R_lt (by (with_reducible repeat (first | apply Kd.R_alloc | apply Kd.R_drewN | apply Kd.R_drew)); exact HO_7.out)) k_ hk, Kd.fresh' (Kd.R_lt (by (with_reducible repeat (first | apply Kd.R_alloc | apply Kd.R_drewN | apply Kd.R_drew)); exact HO_9.out)) k_ hk⟩))
                 (case aO => exact (by (with_reducible repeat (first | apply Kd.R_alloc | apply Kd.R_drewN | apply Kd.R_drew)); exact Kd.R_mono HO727.out (fun _ hk => ⟨hk.1.2, hk.2⟩)))
                 (case aS => exact (bSz (by repeat (first | (with_reducible first | exact HB.out | apply bAl | apply bDN | apply bD1 | refine bSt ?_ GE717.out) | exact HB.out))))
                 (case aL => have := LMc20.out; omega)
                 intro v733 w35 ho hb hg hat
                 rw [← Ny732.out] at ho
                 have n0_ := aK (Kd.R_after (ok := (fun k_ => some k_ ≠ (.slice Ao29 x9_3.length co29 : Value).ownBlock)) (by (with_reducible repeat (first | apply Kd.R_alloc | apply Kd.R_drewN | apply Kd.R_drew)); exact HO_7.out) hg hat)
                 have n1_ := aK (Kd.R_after (ok := (fun k_ => some k_ ≠ (u7 : Value).ownBlock)) (by (with_reducible repeat (first | apply Kd.R_alloc | apply Kd.R_drewN | apply Kd.R_drew)); exact HO_9.out) hg hat)
                 have n2_ := aK (blk_grown (g := gb717) (o := .cells #[.int .i64 a0_0, .int .i64 a0_1, .int .i64 a0_2] 32 (0, 0)) (by (with_reducible repeat (first | refine kDN ?_ _ | refine kD ?_ | refine kA ?_ _)); exact BK717.out) hg (Kd.R_ne HO727.out BK717.out (by decide)))
                 have n3_ := aK (hb)
                 have n4_ := aK ((show Kd.C (Kd.int .i64) w35 Ao29 y728.length y728 from by rw [Ny728.out]; exact Kd.C_take (m := (x10_3 : Int).toNat) ((Kd.R_reads' (Kd.R_after (ok := (fun k_ => some k_ ≠ (u7 : Value).ownBlock)) (by (with_reducible repeat (first | apply Kd.R_alloc | apply Kd.R_drewN | apply Kd.R_drew)); exact HO_9.out) hg hat)).2.2) KL31.out))
                 have n5_ := aK ((show Kd.C (Kd.int .i64) w35 A32 y735.length y735 from by rw [Ny735.out, KA32.out]; exact Kd.C_drop (m := ((ji21) : Int).toNat) (c := co29) ((Kd.R_reads' (Kd.R_after (ok := (fun k_ => some k_ ≠ (u7 : Value).ownBlock)) (by (with_reducible repeat (first | apply Kd.R_alloc | apply Kd.R_drewN | apply Kd.R_drew)); exact HO_9.out) hg hat)).2.2) KL32.out ((Kd.R_reads' (Kd.R_after (ok := (fun k_ => some k_ ≠ (u7 : Value).ownBlock)) (by (with_reducible repeat (first | apply Kd.R_alloc | apply Kd.R_drewN | apply Kd.R_drew)); exact HO_9.out) hg hat)).2.1)))
                 have n6_ := aK (ho)
                 clear HO_7
                 clear HO_9
                 clear BK717
                 clear HB
                 clear HR731
                 clear HR738
                 clear HO727
                 have HO_7 := n0_
                 have HO_9 := n1_
                 have BK717 := n2_
                 have HB := n3_
                 have HR731 := n4_
                 have HR738 := n5_
                 have HO734 := n6_
                 clear n0_ n1_ n2_ n3_ n4_ n5_ n6_
                 clear ho hb hg hat
                 refine hK.out _ _ trivial (fun hHeld => ?_)
                 clear hK K
                 refine norm_ (a' := ?_) ?_ ?_
                 rotate_left
                 ·show Act.put _ (some 37) _ = _
                  simp only [Act.put, sTA, sZ, sS, i64_w, i32_w]
                  rfl
                 refine one_ (i := 9) (N := some 42) #[bY,bY,bY,bY,bY,bY,bY,bY,bY,bY,bN] rfl rfl (one_of HT_.out (by kernel_rfl)) (by decide) (fun K hK => ?_)
                 refine Kd.R_append_rows_step (Kd.int .i64) (w0 := w) w.heap.size (by rfl) (.tmp 37) (.tmp 41) 28 3 (.int .i64 0) 8 rfl Try.underlying28 info3 rfl (by decide) (by omega) v733 y732 y735 _ _ _ (fun k_ => some k_ ≠ (u7 : Value).ownBlock ∧ some k_ ≠ (.slice Ao29 x9_3.length co29 : Value).ownBlock) (fun _ => False) rfl rfl ?aO ?aR (fun _ _ h => h) (fun _ h => h.elim) ?aF ?aB ?aS ?aL ?_
                 (case aR => repeat (first | exact (by repeat (first | (with_reducible exact HR738.out) | (with_reducible refine Kd.C_alloc ?_ _) | (with_reducible refine Kd.C_drewN ?_ _) | (with_reducible refine Kd.C_drew ?_) | exact HR738.out)) | (with_reducible refine Kd.C_alloc ?_ _) | (with_reducible refine Kd.C_drewN ?_ _) | (with_reducible refine Kd.C_drew ?_)))
                 (case aB => exact (by repeat (first | (with_reducible first | exact HB.out | apply bAl | apply bDN | apply bD1 | refine bSt ?_ GE717.out) | exact HB.out)))
                 (case aF => exact (fun k_ hk => ⟨Kd.fresh' (Kd.R_lt (by (with_reducible repeat (first | apply Kd.R_alloc | apply Kd.R_drewN | apply Kd.R_drew)); exact HO_7.out)) k_ hk, Kd.fresh' (Kd.R_lt (by (with_reducible repeat (first | apply Kd.R_alloc | apply Kd.R_drewN | apply Kd.R_drew)); exact HO_9.out)) k_ hk⟩))
                 (case aO => exact (by (with_reducible repeat (first | apply Kd.R_alloc | apply Kd.R_drewN | apply Kd.R_drew)); exact HO734.out))
                 (case aS => exact (bSz (by repeat (first | (with_reducible first | exact HB.out | apply bAl | apply bDN | apply bD1 | refine bSt ?_ GE717.out) | exact HB.out))))
                 (case aL => have := LMc24.out; omega)
                 intro v740 w36 ho hb hg hat
                 rw [← Ny739.out] at ho
                 have n0_ := aK (Kd.R_after (ok := (fun k_ => some k_ ≠ (.slice Ao29 x9_3.length co29 : Value).ownBlock)) (by (with_reducible repeat (first | apply Kd.R_alloc | apply Kd.R_drewN | apply Kd.R_drew)); exact HO_7.out) hg hat)
                 have n1_ := aK (Kd.R_after (ok := (fun k_ => some k_ ≠ (u7 : Value).ownBlock)) (by (with_reducible repeat (first | apply Kd.R_alloc | apply Kd.R_drewN | apply Kd.R_drew)); exact HO_9.out) hg hat)
                 have n2_ := aK (blk_grown (g := gb717) (o := .cells #[.int .i64 a0_0, .int .i64 a0_1, .int .i64 a0_2] 32 (0, 0)) (by (with_reducible repeat (first | refine kDN ?_ _ | refine kD ?_ | refine kA ?_ _)); exact BK717.out) hg (Kd.R_ne HO734.out BK717.out (by decide)))
                 have n3_ := aK (hb)
                 have n4_ := aK ((show Kd.C (Kd.int .i64) w36 Ao29 y728.length y728 from by rw [Ny728.out]; exact Kd.C_take (m := (x10_3 : Int).toNat) ((Kd.R_reads' (Kd.R_after (ok := (fun k_ => some k_ ≠ (u7 : Value).ownBlock)) (by (with_reducible repeat (first | apply Kd.R_alloc | apply Kd.R_drewN | apply Kd.R_drew)); exact HO_9.out) hg hat)).2.2) KL31.out))
                 have n5_ := aK ((show Kd.C (Kd.int .i64) w36 A32 y735.length y735 from by rw [Ny735.out, KA32.out]; exact Kd.C_drop (m := ((ji21) : Int).toNat) (c := co29) ((Kd.R_reads' (Kd.R_after (ok := (fun k_ => some k_ ≠ (u7 : Value).ownBlock)) (by (with_reducible repeat (first | apply Kd.R_alloc | apply Kd.R_drewN | apply Kd.R_drew)); exact HO_9.out) hg hat)).2.2) KL32.out ((Kd.R_reads' (Kd.R_after (ok := (fun k_ => some k_ ≠ (u7 : Value).ownBlock)) (by (with_reducible repeat (first | apply Kd.R_alloc | apply Kd.R_drewN | apply Kd.R_drew)); exact HO_9.out) hg hat)).2.1)))
                 have n6_ := aK (ho)
                 clear HO_7
                 clear HO_9
                 clear BK717
                 clear HB
                 clear HR731
                 clear HR738
                 clear HO734
                 have HO_7 := n0_
                 have HO_9 := n1_
                 have BK717 := n2_
                 have HB := n3_
                 have HR731 := n4_
                 have HR738 := n5_
                 have HO741 := n6_
                 clear n0_ n1_ n2_ n3_ n4_ n5_ n6_
                 clear ho hb hg hat
                 refine hK.out _ _ trivial (fun hHeld => ?_)
                 clear hK K
                 refine norm_ (a' := ?_) ?_ ?_
                 rotate_left
                 ·show Act.put _ (some 42) _ = _
                  simp only [Act.put, sTA, sZ, sS, i64_w, i32_w]
                  rfl
                 refine pure_ (i := 10) (N := some 11) (v := ?_) (a' := ?_) #[bY,bY,bY,bY,bY,bY,bY,bY,bY,bY,bY] rfl rfl (any_of HT_.out (by kernel_rfl)) (fun _ _ _ h => h) (Or.inl ⟨by rfl, ?_⟩) ?_ ?_
                 rotate_left
                 ·intro w'
                  go_simp
                  with_reducible rfl
                 rotate_left
                 ·simp only [Act.put, sTA, sZ, sS, i64_w, i32_w]
                  rfl
                 refine done_ (done_of HT_.out (by kernel_rfl)) ?_
                 try go_wp2
                 have n0_ := aK (Kd.R_drew HO_7.out)
                 have n1_ := aK (Kd.R_drew HO_9.out)
                 have n2_ := aK (Kd.R_drew HO741.out)
                 have n3_ := aK (kD BK717.out)
                 have n4_ := aK (Kd.C_drew HR731.out)
                 have n5_ := aK (Kd.C_drew HR738.out)
                 have n6_ := aK (bD1 HB.out)
                 clear HO_7
                 clear HO_9
                 clear HO741
                 clear BK717
                 clear HR731
                 clear HR738
                 clear HB
                 have HO_7 := n0_
                 have HO_9 := n1_
                 have HO741 := n2_
                 have BK717 := n3_
                 have HR731 := n4_
                 have HR738 := n5_
                 have HB := n6_
                 clear n0_ n1_ n2_ n3_ n4_ n5_ n6_
                 have p742 : 0 ≤ (x10_3 : Int) := of_decide_eq_true (by first | (with_reducible assumption) | assumption)
                 have q742 : x10_3 < (x9_3.length : Int) := of_decide_eq_true (by first | (with_reducible assumption) | assumption)
                 obtain ⟨ad742, e742, hx742_0⟩ := Kd.at_int (Kd.R_reads' HO_9.out).2.2 x10_3 p742 q742
                 cases e742
                 replace p742 := eq_true p742
                 replace q742 := eq_true q742
                 refine start_ (n := 8) (S := fun w' => w'.cell? ⟨gb717, 0, none⟩ = some (.int .i64 a0_0) ∧ w'.cell? ⟨gb717, 1, none⟩ = some (.int .i64 a0_1) ∧ w'.cell? ⟨gb717, 2, none⟩ = some (.int .i64 a0_2) ∧ w'.cell? (ad742.add (x10_3).toNat) = some (.int .i64 (rd x9_3 x10_3))) (ds := []) #[bN,bN,bN,bN,bN,bN,bN,bN] (by kernel_rfl) rfl rfl ⟨(kC BK717.out 0).trans rfl, (kC BK717.out 1).trans rfl, (kC BK717.out 2).trans rfl, hx742_0⟩ (fun hHeld => ?_); refine with_tabW spec_RescueOrder.tab9 spec_RescueOrder.bits9 (fun HT_ HW_ => ?_)
                 generalize w36.drew = w37 at HO_7 HO_9 HO741 BK717 HR731 HR738 HB hx742_0 hHeld ⊢
                 refine pure_ (i := 1) (N := some 44) (v := ?_) (a' := ?_) #[bN,bY,bN,bN,bN,bN,bN,bN] rfl rfl (any_of HT_.out (by kernel_rfl)) (fun _ _ _ h => h) (Or.inl ⟨by rfl, ?_⟩) ?_ ?_
                 rotate_left
                 ·intro w'
                  go_simp
                  with_reducible rfl
                 rotate_left
                 ·simp only [Act.put, sTA, sZ, sS, i64_w, i32_w]
                  rfl
                 refine pure_ (i := 2) (N := some 45) (v := ?_) (a' := ?_) #[bN,bY,bY,bN,bN,bN,bN,bN] rfl rfl (any_of HT_.out (by kernel_rfl)) (fun _ _ _ h => h) (Or.inl ⟨by rfl, ?_⟩) ?_ ?_
                 rotate_left
                 ·intro w'
                  go_simp
                  with_reducible rfl
                 rotate_left
                 ·simp only [Act.put, sTA, sZ, sS, i64_w, i32_w]
                  rfl
                 refine pure_ (i := 3) (N := some 46) (v := ?_) (a' := ?_) #[bN,bY,bY,bY,bN,bN,bN,bN] rfl rfl (any_of HT_.out (by kernel_rfl)) (fun _ _ _ h => h) (Or.inl ⟨by rfl, ?_⟩) ?_ ?_
                 rotate_left
                 ·intro w'
                  go_simp
                  with_reducible rfl
                 rotate_left
                 ·simp only [Act.put, sTA, sZ, sS, i64_w, i32_w]
                  rfl
                 refine pure_ (i := 4) (N := some 47) (v := ?_) (a' := ?_) #[bN,bY,bY,bY,bY,bN,bN,bN] rfl rfl (any_of HT_.out (by kernel_rfl)) (fun _ _ _ h => h) (Or.inl ⟨by rfl, ?_⟩) ?_ ?_
                 rotate_left
                 ·intro w'
                  go_simp
                  with_reducible rfl
                 rotate_left
                 ·simp only [Act.put, sTA, sZ, sS, i64_w, i32_w]
                  rfl
                 refine take_ (i := 0) (N := some 43) (v := ?_) (a' := ?_) #[bY,bY,bY,bY,bY,bN,bN,bN] rfl rfl (take_ofW HT_.out HW_.out (by kernel_rfl)) (fun _ _ _ h => h) (Or.inl ⟨by rfl, ?_⟩) hHeld ?_ ?_
                 rotate_left
                 ·rintro w' ⟨s0, s1, s2, s3⟩
                  go_simp
                  with_reducible rfl
                 rotate_left
                 ·simp only [Act.put, sTA, sZ, sS, i64_w, i32_w]
                  rfl
                 refine take_ (i := 5) (N := some 48) (v := ?_) (a' := ?_) #[bY,bY,bY,bY,bY,bY,bN,bN] rfl rfl (take_ofW HT_.out HW_.out (by kernel_rfl)) (fun _ _ _ h => h) (Or.inl ⟨by rfl, ?_⟩) hHeld ?_ ?_
                 rotate_left
                 ·rintro w' ⟨s0, s1, s2, s3⟩
                  go_simp
                  with_reducible rfl
                 rotate_left
                 ·simp only [Act.put, sTA, sZ, sS, i64_w, i32_w]
                  rfl
                 refine one_ (i := 6) (N := some 49) #[bY,bY,bY,bY,bY,bY,bY,bN] rfl rfl (one_of HT_.out (by kernel_rfl)) (by decide) (fun K hK => ?_)
                 refine goes_ Try.func91 (by kernel_rfl) rfl #[.agg #[.int .i64 a0_0, .int .i64 a0_1, .int .i64 a0_2], .int .i64 x1_3, .int .i64 (rd x9_3 x10_3)] (by rfl) rfl rfl (by (try simp only [List.map_toArray, List.map_cons, List.map_nil]); first | done | rfl | (simp only [List.length_drop, List.length_take]; rfl)) ?_
                 with_reducible refine (spec_DistanceOf.calls k3 a0_0 a0_1 a0_2 x1_3 (rd x9_3 x10_3) t743 _ A25.out).mono ?_
                 rintro e w38 ⟨rfl, hb⟩
                 have HS3_ := (hb.cell (World.block_lt_of_cell? _ _ (hHeld.2.2.2))).trans (hHeld.2.2.2)
                 refine ⟨_, rfl, ?_⟩
                 have n0_ := aK (Kd.R_below (by (with_reducible repeat (first | apply Kd.R_alloc | apply Kd.R_drewN | apply Kd.R_drew)); exact HO_7.out) hb)
                 have n1_ := aK (Kd.R_below (by (with_reducible repeat (first | apply Kd.R_alloc | apply Kd.R_drewN | apply Kd.R_drew)); exact HO_9.out) hb)
                 have n2_ := aK (Kd.R_below (by (with_reducible repeat (first | apply Kd.R_alloc | apply Kd.R_drewN | apply Kd.R_drew)); exact HO741.out) hb)
                 have n3_ := bkb BK717 hb (by intro z_; (with_reducible repeat (first | refine kDN ?_ _ | refine kD ?_ | refine kA ?_ _)); exact z_)
                 have n4_ := aK (Kd.C_below (by repeat (first | (with_reducible exact HR731.out) | (with_reducible refine Kd.C_alloc ?_ _) | (with_reducible refine Kd.C_drewN ?_ _) | (with_reducible refine Kd.C_drew ?_) | exact HR731.out)) hb)
                 have n5_ := aK (Kd.C_below (by repeat (first | (with_reducible exact HR738.out) | (with_reducible refine Kd.C_alloc ?_ _) | (with_reducible refine Kd.C_drewN ?_ _) | (with_reducible refine Kd.C_drew ?_) | exact HR738.out)) hb)
                 have n6_ := aK (bSp (by repeat (first | (with_reducible first | exact HB.out | apply bAl | apply bDN | apply bD1 | refine bSt ?_ GE717.out) | exact HB.out)) hb)
                 clear HO_7
                 clear HO_9
                 clear HO741
                 clear BK717
                 clear HR731
                 clear HR738
                 clear HB
                 have HO_7 := n0_
                 have HO_9 := n1_
                 have HO741 := n2_
                 have BK717 := n3_
                 have HR731 := n4_
                 have HR738 := n5_
                 have HB := n6_
                 clear n0_ n1_ n2_ n3_ n4_ n5_ n6_
                 (try clear hb)
                 (try clear hb2)
                 (try clear hk)
                 (try clear hi)
                 refine hK.out _ _ ⟨(kC BK717.out 0).trans rfl, (kC BK717.out 1).trans rfl, (kC BK717.out 2).trans rfl, HS3_⟩ (fun hHeld => ?_)
                 clear hK K
                 refine norm_ (a' := ?_) ?_ ?_
                 rotate_left
                 ·show Act.put _ (some 49) _ = _
                  simp only [Act.put, sTA, sZ, sS, i64_w, i32_w]
                  rfl
                 refine pure_ (i := 7) (N := some 12) (v := ?_) (a' := ?_) #[bY,bY,bY,bY,bY,bY,bY,bY] rfl rfl (any_of HT_.out (by kernel_rfl)) (fun _ _ _ h => h) (Or.inl ⟨by rfl, ?_⟩) ?_ ?_
                 rotate_left
                 ·intro w'
                  go_simp
                  with_reducible rfl
                 rotate_left
                 ·simp only [Act.put, sTA, sZ, sS, i64_w, i32_w]
                  rfl
                 refine done_ (done_of HT_.out (by kernel_rfl)) ?_
                 try go_wp2
                 have n0_ := aK (Kd.R_drew HO_7.out)
                 have n1_ := aK (Kd.R_drew HO_9.out)
                 have n2_ := aK (Kd.R_drew HO741.out)
                 have n3_ := aK (kD BK717.out)
                 have n4_ := aK (Kd.C_drew HR731.out)
                 have n5_ := aK (Kd.C_drew HR738.out)
                 have n6_ := aK (bD1 HB.out)
                 clear HO_7
                 clear HO_9
                 clear HO741
                 clear BK717
                 clear HR731
                 clear HR738
                 clear HB
                 have HO_7 := n0_
                 have HO_9 := n1_
                 have HO741 := n2_
                 have BK717 := n3_
                 have HR731 := n4_
                 have HR738 := n5_
                 have HB := n6_
                 clear n0_ n1_ n2_ n3_ n4_ n5_ n6_
                 have p744 : 0 ≤ (x10_3 : Int) := of_decide_eq_true (by first | (with_reducible assumption) | assumption)
                 have q744 : x10_3 < (x9_3.length : Int) := of_decide_eq_true (by first | (with_reducible assumption) | assumption)
                 obtain ⟨ad744, e744, hx744_0⟩ := Kd.at_int (Kd.R_reads' HO_9.out).2.2 x10_3 p744 q744
                 obtain rfl : ad742 = ad744 := (by injection e744)
                 replace p744 := eq_true p744
                 replace q744 := eq_true q744
                 obtain ⟨Ao40, co40, eo40⟩ := Kd.R_slice HO741.out
                 (first | subst eo40 | (injection eo40 with f1_ f2_ f3_; have f4_ := f1_.symm; have f5_ := f3_.symm; clear f1_ f2_ f3_; subst f4_; subst f5_))
                 refine start_ (n := 11) (S := fun w' => w'.cell? ⟨gb717, 0, none⟩ = some (.int .i64 a0_0) ∧ w'.cell? ⟨gb717, 1, none⟩ = some (.int .i64 a0_1) ∧ w'.cell? ⟨gb717, 2, none⟩ = some (.int .i64 a0_2) ∧ w'.cell? (ad742.add (x10_3).toNat) = some (.int .i64 (rd x9_3 x10_3))) (ds := []) #[bN,bN,bN,bN,bN,bN,bN,bN,bN,bN,bN] (by kernel_rfl) rfl rfl ⟨(kC BK717.out 0).trans rfl, (kC BK717.out 1).trans rfl, (kC BK717.out 2).trans rfl, hx744_0⟩ (fun hHeld => ?_); refine with_tabW spec_RescueOrder.tab10 spec_RescueOrder.bits10 (fun HT_ HW_ => ?_)
                 generalize w38.drew = w39 at HO_7 HO_9 HO741 BK717 HR731 HR738 HB hx744_0 hHeld ⊢
                 refine pure_ (i := 0) (N := some 50) (v := ?_) (a' := ?_) #[bY,bN,bN,bN,bN,bN,bN,bN,bN,bN,bN] rfl rfl (any_of HT_.out (by kernel_rfl)) (fun _ _ _ h => h) (Or.inl ⟨by rfl, ?_⟩) ?_ ?_
                 rotate_left
                 ·intro w'
                  go_simp
                  with_reducible rfl
                 rotate_left
                 ·simp only [Act.put, sTA, sZ, sS, i64_w, i32_w]
                  rfl
                 refine pure_ (i := 2) (N := some 52) (v := ?_) (a' := ?_) #[bY,bN,bY,bN,bN,bN,bN,bN,bN,bN,bN] rfl rfl (any_of HT_.out (by kernel_rfl)) (fun _ _ _ h => h) (Or.inl ⟨by rfl, ?_⟩) ?_ ?_
                 rotate_left
                 ·intro w'
                  go_simp
                  with_reducible rfl
                 rotate_left
                 ·simp only [Act.put, sTA, sZ, sS, i64_w, i32_w]
                  rfl
                 refine pure_ (i := 3) (N := some 53) (v := ?_) (a' := ?_) #[bY,bN,bY,bY,bN,bN,bN,bN,bN,bN,bN] rfl rfl (any_of HT_.out (by kernel_rfl)) (fun _ _ _ h => h) (Or.inl ⟨by rfl, ?_⟩) ?_ ?_
                 rotate_left
                 ·intro w'
                  go_simp
                  with_reducible rfl
                 rotate_left
                 ·simp only [Act.put, sTA, sZ, sS, i64_w, i32_w]
                  rfl
                 refine pure_ (i := 4) (N := some 54) (v := ?_) (a' := ?_) #[bY,bN,bY,bY,bY,bN,bN,bN,bN,bN,bN] rfl rfl (any_of HT_.out (by kernel_rfl)) (fun _ _ _ h => h) (Or.inl ⟨by rfl, ?_⟩) ?_ ?_
                 rotate_left
                 ·intro w'
                  go_simp
                  with_reducible rfl
                 rotate_left
                 ·simp only [Act.put, sTA, sZ, sS, i64_w, i32_w]
                  rfl
                 refine pure_ (i := 6) (N := some 56) (v := ?_) (a' := ?_) #[bY,bN,bY,bY,bY,bN,bY,bN,bN,bN,bN] rfl rfl (any_of HT_.out (by kernel_rfl)) (fun _ _ _ h => h) (Or.inl ⟨by rfl, ?_⟩) ?_ ?_
                 rotate_left
                 ·intro w'
                  go_simp
                  with_reducible rfl
                 rotate_left
                 ·simp only [Act.put, sTA, sZ, sS, i64_w, i32_w]
                  rfl
                 refine pure_ (i := 9) (N := some 59) (v := ?_) (a' := ?_) #[bY,bN,bY,bY,bY,bN,bY,bN,bN,bY,bN] rfl rfl (any_of HT_.out (by kernel_rfl)) (fun _ _ _ h => h) (Or.inl ⟨by rfl, ?_⟩) ?_ ?_
                 rotate_left
                 ·intro w'
                  go_simp
                  with_reducible rfl
                 rotate_left
                 ·simp only [Act.put, sTA, sZ, sS, i64_w, i32_w]
                  rfl
                 refine take_ (i := 1) (N := some 51) (v := ?_) (a' := ?_) #[bY,bY,bY,bY,bY,bN,bY,bN,bN,bY,bN] rfl rfl (take_ofW HT_.out HW_.out (by kernel_rfl)) (fun _ _ _ h => h) (Or.inl ⟨by rfl, ?_⟩) hHeld ?_ ?_
                 rotate_left
                 ·rintro w' ⟨s0, s1, s2, s3⟩
                  go_simp
                  with_reducible rfl
                 rotate_left
                 ·simp only [Act.put, sTA, sZ, sS, i64_w, i32_w]
                  rfl
                 refine take_ (i := 5) (N := some 55) (v := ?_) (a' := ?_) #[bY,bY,bY,bY,bY,bY,bY,bN,bN,bY,bN] rfl rfl (take_ofW HT_.out HW_.out (by kernel_rfl)) (fun _ _ _ h => h) (Or.inl ⟨by rfl, ?_⟩) hHeld ?_ ?_
                 rotate_left
                 ·rintro w' ⟨s0, s1, s2, s3⟩
                  go_simp
                  with_reducible rfl
                 rotate_left
                 ·simp only [Act.put, sTA, sZ, sS, i64_w, i32_w]
                  rfl
                 refine one_ (i := 7) (N := some 57) #[bY,bY,bY,bY,bY,bY,bY,bY,bN,bY,bN] rfl rfl (one_of HT_.out (by kernel_rfl)) (by decide) (fun K hK => ?_)
                 refine goes_ Try.func74 (by kernel_rfl) rfl #[.agg #[.int .i64 a0_0, .int .i64 a0_1, .int .i64 a0_2], .int .i64 (rd x9_3 x10_3), .slice Ao40 y739.length co40, .int .i64 (-1)] (by rfl) rfl rfl (by (try simp only [List.map_toArray, List.map_cons, List.map_nil]); first | done | rfl | (simp only [List.length_drop, List.length_take]; rfl)) ?_
                 with_reducible refine (spec_l34Best.calls k3 a0_0 a0_1 a0_2 (rd x9_3 x10_3) _ _ y739 (-1) t745 _ ?side1 ?side2 A26.out).mono ?_
                 (case side1 => repeat (first | exact (Kd.R_reads' HO741.out).2.2 | (with_reducible refine Kd.C_alloc ?_ _) | (with_reducible refine Kd.C_drewN ?_ _) | (with_reducible refine Kd.C_drew ?_)))
                 (case side2 => exact (Kd.R_reads' HO741.out).2.1)
                 rintro e w41 ⟨rfl, hb⟩
                 have HS3_ := (hb.cell (World.block_lt_of_cell? _ _ (hHeld.2.2.2))).trans (hHeld.2.2.2)
                 refine ⟨_, rfl, ?_⟩
                 have n0_ := aK (Kd.R_below (by (with_reducible repeat (first | apply Kd.R_alloc | apply Kd.R_drewN | apply Kd.R_drew)); exact HO_7.out) hb)
                 have n1_ := aK (Kd.R_below (by (with_reducible repeat (first | apply Kd.R_alloc | apply Kd.R_drewN | apply Kd.R_drew)); exact HO_9.out) hb)
                 have n2_ := aK (Kd.R_below (by (with_reducible repeat (first | apply Kd.R_alloc | apply Kd.R_drewN | apply Kd.R_drew)); exact HO741.out) hb)
                 have n3_ := bkb BK717 hb (by intro z_; (with_reducible repeat (first | refine kDN ?_ _ | refine kD ?_ | refine kA ?_ _)); exact z_)
                 have n4_ := aK (Kd.C_below (by repeat (first | (with_reducible exact HR731.out) | (with_reducible refine Kd.C_alloc ?_ _) | (with_reducible refine Kd.C_drewN ?_ _) | (with_reducible refine Kd.C_drew ?_) | exact HR731.out)) hb)
                 have n5_ := aK (Kd.C_below (by repeat (first | (with_reducible exact HR738.out) | (with_reducible refine Kd.C_alloc ?_ _) | (with_reducible refine Kd.C_drewN ?_ _) | (with_reducible refine Kd.C_drew ?_) | exact HR738.out)) hb)
                 have n6_ := aK (bSp (by repeat (first | (with_reducible first | exact HB.out | apply bAl | apply bDN | apply bD1 | refine bSt ?_ GE717.out) | exact HB.out)) hb)
                 clear HO_7
                 clear HO_9
                 clear HO741
                 clear BK717
                 clear HR731
                 clear HR738
                 clear HB
                 have HO_7 := n0_
                 have HO_9 := n1_
                 have HO741 := n2_
                 have BK717 := n3_
                 have HR731 := n4_
                 have HR738 := n5_
                 have HB := n6_
                 clear n0_ n1_ n2_ n3_ n4_ n5_ n6_
                 (try clear hb)
                 (try clear hb2)
                 (try clear hk)
                 (try clear hi)
                 refine hK.out _ _ ⟨(kC BK717.out 0).trans rfl, (kC BK717.out 1).trans rfl, (kC BK717.out 2).trans rfl, HS3_⟩ (fun hHeld => ?_)
                 clear hK K
                 refine norm_ (a' := ?_) ?_ ?_
                 rotate_left
                 ·show Act.put _ (some 57) _ = _
                  simp only [Act.put, sTA, sZ, sS, i64_w, i32_w]
                  rfl
                 refine pure_ (i := 8) (N := some 58) (v := ?_) (a' := ?_) #[bY,bY,bY,bY,bY,bY,bY,bY,bY,bY,bN] rfl rfl (any_of HT_.out (by kernel_rfl)) (fun _ _ _ h => h) (Or.inl ⟨by rfl, ?_⟩) ?_ ?_
                 rotate_left
                 ·intro w'
                  go_simp
                  with_reducible rfl
                 rotate_left
                 ·simp only [Act.put, sTA, sZ, sS, i64_w, i32_w]
                  rfl
                 refine pure_ (i := 10) (N := some 60) (v := ?_) (a' := ?_) #[bY,bY,bY,bY,bY,bY,bY,bY,bY,bY,bY] rfl rfl (any_of HT_.out (by kernel_rfl)) (fun _ _ _ h => h) (Or.inl ⟨by rfl, ?_⟩) ?_ ?_
                 rotate_left
                 ·intro w'
                  go_simp
                  with_reducible rfl
                 rotate_left
                 ·simp only [Act.put, sTA, sZ, sS, i64_w, i32_w]
                  rfl
                 refine done_ (done_of HT_.out (by kernel_rfl)) ?_
                 have p746 : 0 ≤ (x10_3 : Int) := of_decide_eq_true (by first | (with_reducible assumption) | assumption)
                 have q746 : x10_3 < (x9_3.length : Int) := of_decide_eq_true (by first | (with_reducible assumption) | assumption)
                 obtain ⟨ad746, e746, hx746_0⟩ := Kd.at_int (Kd.R_reads' HO_9.out).2.2 x10_3 p746 q746
                 obtain rfl : ad742 = ad746 := (by injection e746)
                 replace p746 := eq_true p746
                 replace q746 := eq_true q746
                 try go_wp2_with (first | ((with_reducible refine gate_builtin (b := .append) (xs := #[.tmp 61, .tmp 66]) rfl ?_); at_builtin; refine Kd.R_append (Kd.int .i64) (w0 := w) w.heap.size rfl (.tmp 61) (.tmp 66) 28 3 (.int .i64 0) 8 rfl Try.underlying28 info3 rfl (by decide) (by omega) u7 x7_3 (rd x9_3 x10_3) [.int .i64 (rd x9_3 x10_3)] (fun k_ => some k_ ≠ (.slice (some ad742) x9_3.length co29 : Value).ownBlock ∧ some k_ ≠ (.slice Ao40 y739.length co40 : Value).ownBlock) (fun _ => False) rfl rfl ?aP (fun _ hk => hk.elim) ?aF ?aO ?aB ?aS ?aL ?_; (case aP => exact rfl); (case aB => exact (by repeat (first | (with_reducible first | exact HB.out | apply bAl | apply bDN | apply bD1 | refine bSt ?_ GE717.out) | exact HB.out))); (case aF => exact (fun k_ hk => ⟨Kd.fresh' (Kd.R_lt (by (with_reducible repeat (first | apply Kd.R_alloc | apply Kd.R_drewN | apply Kd.R_drew)); exact HO_9.out)) k_ hk, Kd.fresh' (Kd.R_lt (by (with_reducible repeat (first | apply Kd.R_alloc | apply Kd.R_drewN | apply Kd.R_drew)); exact HO741.out)) k_ hk⟩)); (case aO => exact (by (with_reducible repeat (first | apply Kd.R_alloc | apply Kd.R_drewN | apply Kd.R_drew)); exact HO_7.out)); (case aS => exact (bSz (by repeat (first | (with_reducible first | exact HB.out | apply bAl | apply bDN | apply bD1 | refine bSt ?_ GE717.out) | exact HB.out)))); (case aL => have := LMc28.out; omega); intro v748 w42 ho hb hg hat; rw [← Ny747.out] at ho; have n0_ := aK (Kd.R_after (ok := (fun k_ => some k_ ≠ (.slice Ao40 y739.length co40 : Value).ownBlock)) (by (with_reducible repeat (first | apply Kd.R_alloc | apply Kd.R_drewN | apply Kd.R_drew)); exact Kd.R_mono HO_9.out (fun _ hk => ⟨hk.2, hk.1⟩)) hg hat); have n1_ := aK (blk_grown (g := gb717) (o := .cells #[.int .i64 a0_0, .int .i64 a0_1, .int .i64 a0_2] 32 (0, 0)) (by (with_reducible repeat (first | refine kDN ?_ _ | refine kD ?_ | refine kA ?_ _)); exact BK717.out) hg (Kd.R_ne HO_7.out BK717.out (by decide))); have n2_ := aK (Kd.R_after (ok := (fun k_ => some k_ ≠ (.slice (some ad742) x9_3.length co29 : Value).ownBlock)) (by (with_reducible repeat (first | apply Kd.R_alloc | apply Kd.R_drewN | apply Kd.R_drew)); exact Kd.R_mono HO741.out (fun _ hk => ⟨hk.2, hk.1⟩)) hg hat); have n3_ := aK (hb); have n4_ := aK ((show Kd.C (Kd.int .i64) w42 (some ad742) y728.length y728 from by rw [Ny728.out]; exact Kd.C_take (m := (x10_3 : Int).toNat) ((Kd.R_reads' (Kd.R_after (ok := (fun k_ => some k_ ≠ (.slice Ao40 y739.length co40 : Value).ownBlock)) (by (with_reducible repeat (first | apply Kd.R_alloc | apply Kd.R_drewN | apply Kd.R_drew)); exact Kd.R_mono HO_9.out (fun _ hk => ⟨hk.2, hk.1⟩)) hg hat)).2.2) KL31.out)); have n5_ := aK ((show Kd.C (Kd.int .i64) w42 A32 y735.length y735 from by rw [Ny735.out, KA32.out]; exact Kd.C_drop (m := ((ji21) : Int).toNat) (c := co29) ((Kd.R_reads' (Kd.R_after (ok := (fun k_ => some k_ ≠ (.slice Ao40 y739.length co40 : Value).ownBlock)) (by (with_reducible repeat (first | apply Kd.R_alloc | apply Kd.R_drewN | apply Kd.R_drew)); exact Kd.R_mono HO_9.out (fun _ hk => ⟨hk.2, hk.1⟩)) hg hat)).2.2) KL32.out ((Kd.R_reads' (Kd.R_after (ok := (fun k_ => some k_ ≠ (.slice Ao40 y739.length co40 : Value).ownBlock)) (by (with_reducible repeat (first | apply Kd.R_alloc | apply Kd.R_drewN | apply Kd.R_drew)); exact Kd.R_mono HO_9.out (fun _ hk => ⟨hk.2, hk.1⟩)) hg hat)).2.1))); have n6_ := aK (ho); clear HO_9; clear BK717; clear HO741; clear HB; clear HR731; clear HR738; clear HO_7; have HO_9 := n0_; have BK717 := n1_; have HO741 := n2_; have HB := n3_; have HR731 := n4_; have HR738 := n5_; have HO749 := n6_; clear n0_ n1_ n2_ n3_ n4_ n5_ n6_; clear ho hb hg hat; have p750 : 0 ≤ (x10_3 : Int) := of_decide_eq_true (by first | (with_reducible assumption) | assumption); have q750 : x10_3 < (x9_3.length : Int) := of_decide_eq_true (by first | (with_reducible assumption) | assumption); obtain ⟨ad750, e750, hx750_0⟩ := Kd.at_int (Kd.R_reads' HO_9.out).2.2 x10_3 p750 q750; obtain rfl : ad742 = ad750 := (by injection e750); replace p750 := eq_true p750; replace q750 := eq_true q750))
                 go_roundg k3
                 case measure => have := HK1.out; have := HJ11.out; have := HK3.out; omega
                 case rel => exact ⟨(rd x9_3 x10_3), (y747), (wrap64 (x8_3 - t743)), (y739), (by first | rfl | (simp; done) | (simp [*]; done)), (by first | rfl | (simp; done) | (simp [*]; done)), H', ⟨by have := HK1.out; have := HJ11.out; have := HK3.out; omega⟩, ⟨by (with_reducible repeat (first | apply Kd.R_alloc | apply Kd.R_drewN | apply Kd.R_drew)); exact Kd.R_mono HO749.out (fun _ hk => hk.2)⟩, ⟨by (with_reducible repeat (first | apply Kd.R_alloc | apply Kd.R_drewN | apply Kd.R_drew)); exact Kd.R_mono HO741.out (fun _ hk => hk.2)⟩, ⟨by (with_reducible repeat (first | refine kDN ?_ _ | refine kD ?_ | refine kA ?_ _)); exact BK717.out⟩, ⟨by repeat (first | (with_reducible first | exact HB.out | apply bAl | apply bDN | apply bD1 | refine bSt ?_ GE717.out) | exact HB.out)⟩⟩
                ·rw [if_neg c28] at H
                 exact absurd H (by simp)
               ·rw [if_neg c27] at H
                have c27b0 : ((wrap64 (t743 + t745)) == x8_3) = false := beq_eq_false_iff_ne.mpr c27
                have c27b1 : ((wrap64 (t743 + t745)) != x8_3) = true := bne_iff_ne.mpr c27
                have H' := aK H
                clear H
                obtain ⟨Ao43, co43, eo43⟩ := Kd.R_slice HO_9.out
                subst eo43
                try go_wp2
                have n0_ := aK (Kd.R_drew HO_7.out)
                have n1_ := aK (Kd.R_drew HO_9.out)
                have n2_ := aK (kD BK717.out)
                have n3_ := aK (bD1 HB.out)
                clear HO_7
                clear HO_9
                clear BK717
                clear HB
                have HO_7 := n0_
                have HO_9 := n1_
                have BK717 := n2_
                have HB := n3_
                clear n0_ n1_ n2_ n3_
                have q45 : (x10_3 : Int) ≤ ((x9_3.length : Int) : Int) := of_decide_eq_true (by first | (with_reducible assumption) | assumption)
                obtain ⟨i045, hi045, _, hsz45, _⟩ := info_parts info3
                have hroom45 : x9_3.length ≤ co43 := (Kd.R_reads' HO_9.out).2.1
                have hC45 : Kd.C (Kd.int .i64) _ Ao43 x9_3.length x9_3 := (Kd.R_reads' HO_9.out).2.2
                have hcut45 := cut_to (P := Try.prog) 28 3 .i64 Try.underlying28 hi045 Ao43 x9_3.length co43 x10_3 (of_decide_eq_true (by first | (with_reducible assumption) | assumption)) q45 hroom45
                have hr45 := Kd.C_take (m := (x10_3 : Int).toNat) hC45 (by omega)
                have hy45 : y728.length = (x10_3 : Int).toNat := (by rw [Ny728.out, List.length_take]; omega)
                rw [← Ny728.out] at hr45
                rw [← hy45] at hcut45
                have HR731 := aK hr45
                have HC731 := aK (show y728.length ≤ co43 from by omega)
                clear hr45 hC45 hroom45 hi045 hsz45
                have KY45 := aK hy45
                clear hy45
                have KL45 := aK (show (x10_3 : Int).toNat ≤ x9_3.length from by omega)
                replace q45 := eq_true q45
                have q46 : ((ji21) : Int) ≤ ((x9_3.length : Int) : Int) := of_decide_eq_true (by first | (with_reducible assumption) | assumption)
                obtain ⟨i046, hi046, _, hsz46, _⟩ := info_parts info3
                have hroom46 : x9_3.length ≤ co43 := (Kd.R_reads' HO_9.out).2.1
                have hC46 : Kd.C (Kd.int .i64) _ Ao43 x9_3.length x9_3 := (Kd.R_reads' HO_9.out).2.2
                have q046 : (0 : Int) ≤ ((ji21) : Int) := of_decide_eq_true (by first | (with_reducible assumption) | assumption)
                have hcut46 := cut_from (P := Try.prog) 28 3 .i64 Try.underlying28 hi046 1 hsz46 Ao43 x9_3.length co43 (ji21) q046 q46
                have hr46 := Kd.C_drop (m := ((ji21) : Int).toNat) (c := co43) hC46 (by omega) hroom46
                obtain ⟨A46, hA46⟩ : ∃ A1, A1 = (if co43 = ((ji21) : Int).toNat then Ao43 else (Ao43 : Option Addr).map (·.add (((ji21) : Int).toNat * 1))) := ⟨_, rfl⟩
                obtain ⟨c46, hc46⟩ : ∃ c1, c1 = co43 - ((ji21) : Int).toNat := ⟨_, rfl⟩
                have hy46 : y735.length = x9_3.length - ((ji21) : Int).toNat := (by rw [Ny735.out, List.length_drop] <;> omega)
                rw [show (x9_3).drop ((ji21) : Int).toNat = y735 from Ny735.out.symm] at hr46
                replace hr46 : Kd.C (Kd.int .i64) _ A46 y735.length y735 := (by rw [hA46]; exact hr46)
                rw [← hy46, ← hA46, ← hc46] at hcut46
                have HR738 := aK hr46
                have HC738 := aK (show y735.length ≤ c46 from by rw [hy46, hc46]; exact Nat.sub_le_sub_right hroom46 _)
                clear hr46 hC46 hroom46 hi046 hsz46 hc46
                have KY46 := aK hy46
                have KA46 := aK hA46
                clear hy46 hA46
                have KL46 := aK (show ((ji21) : Int).toNat ≤ x9_3.length from by omega)
                replace q46 := eq_true q46
                refine start_ (n := 11) (S := fun w' => True) (ds := []) #[bN,bN,bN,bN,bN,bN,bN,bN,bN,bN,bN] (by kernel_rfl) rfl rfl trivial (fun hHeld => ?_); refine with_tabW spec_RescueOrder.tab8 spec_RescueOrder.bits8 (fun HT_ HW_ => ?_)
                generalize wr.drew = w44 at HO_7 HO_9 BK717 HB HR731 HR738 hHeld ⊢
                refine pure_ (i := 1) (N := some 34) (v := ?_) (a' := ?_) #[bN,bY,bN,bN,bN,bN,bN,bN,bN,bN,bN] rfl rfl (any_of HT_.out (by kernel_rfl)) (fun _ _ _ h => h) (Or.inl ⟨by rfl, ?_⟩) ?_ ?_
                rotate_left
                ·intro w'
                 go_simp
                 with_reducible rfl
                rotate_left
                ·simp only [Act.put, sTA, sZ, sS, i64_w, i32_w]
                 rfl
                refine pure_ (i := 2) (N := some 35) (v := ?_) (a' := ?_) #[bN,bY,bY,bN,bN,bN,bN,bN,bN,bN,bN] rfl rfl (any_of HT_.out (by kernel_rfl)) (fun _ _ _ h => h) (Or.inl ⟨by rfl, ?_⟩) ?_ ?_
                rotate_left
                ·intro w'
                 go_simp
                 with_reducible rfl
                rotate_left
                ·simp only [Act.put, sTA, sZ, sS, i64_w, i32_w]
                 rfl
                refine pure_ (i := 3) (N := some 36) (v := ?_) (a' := ?_) #[bN,bY,bY,bY,bN,bN,bN,bN,bN,bN,bN] rfl rfl (any_of HT_.out (by kernel_rfl)) (fun _ _ _ h => h) (Or.inl ⟨by rfl, ?_⟩) ?_ ?_
                rotate_left
                ·intro w'
                 go_simp
                 with_reducible rfl
                rotate_left
                ·simp only [Act.put, sTA, sZ, sS, i64_w, i32_w]
                 rfl
                refine pure_ (i := 5) (N := some 38) (v := ?_) (a' := ?_) #[bN,bY,bY,bY,bN,bY,bN,bN,bN,bN,bN] rfl rfl (any_of HT_.out (by kernel_rfl)) (fun _ _ _ h => h) (Or.inl ⟨by rfl, ?_⟩) ?_ ?_
                rotate_left
                ·intro w'
                 go_simp
                 with_reducible rfl
                rotate_left
                ·simp only [Act.put, sTA, sZ, sS, i64_w, i32_w]
                 rfl
                refine pure_ (i := 6) (N := some 39) (v := ?_) (a' := ?_) #[bN,bY,bY,bY,bN,bY,bY,bN,bN,bN,bN] rfl rfl (any_of HT_.out (by kernel_rfl)) (fun _ _ _ h => h) (Or.inl ⟨by rfl, ?_⟩) ?_ ?_
                rotate_left
                ·intro w'
                 go_simp
                 with_reducible rfl
                rotate_left
                ·simp only [Act.put, sTA, sZ, sS, i64_w, i32_w]
                 rfl
                refine pure_ (i := 7) (N := some 40) (v := ?_) (a' := ?_) #[bN,bY,bY,bY,bN,bY,bY,bY,bN,bN,bN] rfl rfl (any_of HT_.out (by kernel_rfl)) (fun _ _ _ h => h) (Or.inl ⟨by rfl, ?_⟩) ?_ ?_
                rotate_left
                ·intro w'
                 go_simp
                 with_reducible rfl
                rotate_left
                ·simp only [Act.put, sTA, sZ, sS, i64_w, i32_w]
                 rfl
                refine pure_ (i := 8) (N := some 41) (v := ?_) (a' := ?_) #[bN,bY,bY,bY,bN,bY,bY,bY,bY,bN,bN] rfl rfl (any_of HT_.out (by kernel_rfl)) (fun _ _ _ h => h) (Or.inl ⟨by rfl, ?_⟩) ?_ ?_
                rotate_left
                ·intro w'
                 go_simp
                 with_reducible rfl
                rotate_left
                ·simp only [Act.put, sTA, sZ, sS, i64_w, i32_w]
                 rfl
                refine one_ (i := 0) (N := some 33) #[bY,bY,bY,bY,bN,bY,bY,bY,bY,bN,bN] rfl rfl (one_of HT_.out (by kernel_rfl)) (by decide) (fun K hK => ?_)
                refine Kd.R_lit_step (Kd.int .i64) _ 3 ?hg (N := 33) ?hd (xs := ([] : List Int)) (inner := []) (ok := fun _ => True) (okp := fun _ => True) ?hr ?hp (fun _ hk => hk) trivial (Below.refl _ _) (Nat.le_refl _) (by simp) ?_; (case hd => rfl); (case hg => rfl); (case hr => first | (go_simp; done) | (go_simp; rfl)); (case hp => exact (Reps.none _ _))
                intro v726 w47 ho48 hb hg_ hnew_
                clear hg_ hnew_
                (first | rw [← Ny725.out] at ho48 | (simp only [Int.reduceToNat] at ho48; rw [← Ny725.out] at ho48))
                have n0_ := aK (Kd.R_elder' (by (with_reducible repeat (first | apply Kd.R_alloc | apply Kd.R_drewN | apply Kd.R_drew)); exact HO_7.out) (Kd.R_base ho48) hb)
                have n1_ := aK (Kd.R_elder' (by (with_reducible repeat (first | apply Kd.R_alloc | apply Kd.R_drewN | apply Kd.R_drew)); exact HO_9.out) (Kd.R_base ho48) hb)
                have n2_ := aK (Kd.R_lower (Kd.R_new' (Kd.R_new' ho48 (Kd.R_lt (by (with_reducible repeat (first | apply Kd.R_alloc | apply Kd.R_drewN | apply Kd.R_drew)); exact HO_7.out))) (Kd.R_lt (by (with_reducible repeat (first | apply Kd.R_alloc | apply Kd.R_drewN | apply Kd.R_drew)); exact HO_9.out))) (bSz (by repeat (first | (with_reducible first | exact HB.out | apply bAl | apply bDN | apply bD1 | refine bSt ?_ GE717.out) | exact HB.out))))
                have n3_ := bkb BK717 hb (by intro z_; (with_reducible repeat (first | refine kDN ?_ _ | refine kD ?_ | refine kA ?_ _)); exact z_)
                have n4_ := aK (Kd.C_below (by repeat (first | (with_reducible exact HR731.out) | (with_reducible refine Kd.C_alloc ?_ _) | (with_reducible refine Kd.C_drewN ?_ _) | (with_reducible refine Kd.C_drew ?_) | exact HR731.out)) hb)
                have n5_ := aK (Kd.C_below (by repeat (first | (with_reducible exact HR738.out) | (with_reducible refine Kd.C_alloc ?_ _) | (with_reducible refine Kd.C_drewN ?_ _) | (with_reducible refine Kd.C_drew ?_) | exact HR738.out)) hb)
                have n6_ := aK (bSp (by repeat (first | (with_reducible first | exact HB.out | apply bAl | apply bDN | apply bD1 | refine bSt ?_ GE717.out) | exact HB.out)) hb)
                clear HO_7
                clear HO_9
                clear BK717
                clear HR731
                clear HR738
                clear HB
                have HO_7 := n0_
                have HO_9 := n1_
                have HO727 := n2_
                have BK717 := n3_
                have HR731 := n4_
                have HR738 := n5_
                have HB := n6_
                clear n0_ n1_ n2_ n3_ n4_ n5_ n6_
                clear hb ho48
                refine hK.out _ _ trivial (fun hHeld => ?_)
                clear hK K
                refine norm_ (a' := ?_) ?_ ?_
                rotate_left
                ·show Act.put _ (some 33) _ = _
                 simp only [Act.put, sTA, sZ, sS, i64_w, i32_w]
                 rfl
                refine one_ (i := 4) (N := some 37) #[bY,bY,bY,bY,bY,bY,bY,bY,bY,bN,bN] rfl rfl (one_of HT_.out (by kernel_rfl)) (by decide) (fun K hK => ?_)
                refine Kd.R_append_rows_step (Kd.int .i64) (w0 := w) w.heap.size (by rfl) (.tmp 33) (.tmp 36) 28 3 (.int .i64 0) 8 rfl Try.underlying28 info3 rfl (by decide) (by omega) v726 y725 y728 _ _ _ (fun k_ => some k_ ≠ (u7 : Value).ownBlock ∧ some k_ ≠ (.slice Ao43 x9_3.length co43 : Value).ownBlock) (fun _ => False) rfl rfl ?aO ?aR (fun _ _ h => h) (fun _ h => h.elim) ?aF ?aB ?aS ?aL ?_
                (case aR => repeat (first | exact (by repeat (first | (with_reducible exact HR731.out) | (with_reducible refine Kd.C_alloc ?_ _) | (with_reducible refine Kd.C_drewN ?_ _) | (with_reducible refine Kd.C_drew ?_) | exact HR731.out)) | (with_reducible refine Kd.C_alloc ?_ _) | (with_reducible refine Kd.C_drewN ?_ _) | (with_reducible refine Kd.C_drew ?_)))
                (case aB => exact (by repeat (first | (with_reducible first | exact HB.out | apply bAl | apply bDN | apply bD1 | refine bSt ?_ GE717.out) | exact HB.out)))
                (case aF => exact (fun k_ hk => ⟨Kd.fresh' (Kd.R_lt (by (with_reducible repeat (first | apply Kd.R_alloc | apply Kd.R_drewN | apply Kd.R_drew)); exact HO_7.out)) k_ hk, Kd.fresh' (Kd.R_lt (by (with_reducible repeat (first | apply Kd.R_alloc | apply Kd.R_drewN | apply Kd.R_drew)); exact HO_9.out)) k_ hk⟩))
                (case aO => exact (by (with_reducible repeat (first | apply Kd.R_alloc | apply Kd.R_drewN | apply Kd.R_drew)); exact Kd.R_mono HO727.out (fun _ hk => ⟨hk.1.2, hk.2⟩)))
                (case aS => exact (bSz (by repeat (first | (with_reducible first | exact HB.out | apply bAl | apply bDN | apply bD1 | refine bSt ?_ GE717.out) | exact HB.out))))
                (case aL => have := LMc20.out; omega)
                intro v733 w49 ho hb hg hat
                rw [← Ny732.out] at ho
                have n0_ := aK (Kd.R_after (ok := (fun k_ => some k_ ≠ (.slice Ao43 x9_3.length co43 : Value).ownBlock)) (by (with_reducible repeat (first | apply Kd.R_alloc | apply Kd.R_drewN | apply Kd.R_drew)); exact HO_7.out) hg hat)
                have n1_ := aK (Kd.R_after (ok := (fun k_ => some k_ ≠ (u7 : Value).ownBlock)) (by (with_reducible repeat (first | apply Kd.R_alloc | apply Kd.R_drewN | apply Kd.R_drew)); exact HO_9.out) hg hat)
                have n2_ := aK (blk_grown (g := gb717) (o := .cells #[.int .i64 a0_0, .int .i64 a0_1, .int .i64 a0_2] 32 (0, 0)) (by (with_reducible repeat (first | refine kDN ?_ _ | refine kD ?_ | refine kA ?_ _)); exact BK717.out) hg (Kd.R_ne HO727.out BK717.out (by decide)))
                have n3_ := aK (hb)
                have n4_ := aK ((show Kd.C (Kd.int .i64) w49 Ao43 y728.length y728 from by rw [Ny728.out]; exact Kd.C_take (m := (x10_3 : Int).toNat) ((Kd.R_reads' (Kd.R_after (ok := (fun k_ => some k_ ≠ (u7 : Value).ownBlock)) (by (with_reducible repeat (first | apply Kd.R_alloc | apply Kd.R_drewN | apply Kd.R_drew)); exact HO_9.out) hg hat)).2.2) KL45.out))
                have n5_ := aK ((show Kd.C (Kd.int .i64) w49 A46 y735.length y735 from by rw [Ny735.out, KA46.out]; exact Kd.C_drop (m := ((ji21) : Int).toNat) (c := co43) ((Kd.R_reads' (Kd.R_after (ok := (fun k_ => some k_ ≠ (u7 : Value).ownBlock)) (by (with_reducible repeat (first | apply Kd.R_alloc | apply Kd.R_drewN | apply Kd.R_drew)); exact HO_9.out) hg hat)).2.2) KL46.out ((Kd.R_reads' (Kd.R_after (ok := (fun k_ => some k_ ≠ (u7 : Value).ownBlock)) (by (with_reducible repeat (first | apply Kd.R_alloc | apply Kd.R_drewN | apply Kd.R_drew)); exact HO_9.out) hg hat)).2.1)))
                have n6_ := aK (ho)
                clear HO_7
                clear HO_9
                clear BK717
                clear HB
                clear HR731
                clear HR738
                clear HO727
                have HO_7 := n0_
                have HO_9 := n1_
                have BK717 := n2_
                have HB := n3_
                have HR731 := n4_
                have HR738 := n5_
                have HO734 := n6_
                clear n0_ n1_ n2_ n3_ n4_ n5_ n6_
                clear ho hb hg hat
                refine hK.out _ _ trivial (fun hHeld => ?_)
                clear hK K
                refine norm_ (a' := ?_) ?_ ?_
                rotate_left
                ·show Act.put _ (some 37) _ = _
                 simp only [Act.put, sTA, sZ, sS, i64_w, i32_w]
                 rfl
                refine one_ (i := 9) (N := some 42) #[bY,bY,bY,bY,bY,bY,bY,bY,bY,bY,bN] rfl rfl (one_of HT_.out (by kernel_rfl)) (by decide) (fun K hK => ?_)
                refine Kd.R_append_rows_step (Kd.int .i64) (w0 := w) w.heap.size (by rfl) (.tmp 37) (.tmp 41) 28 3 (.int .i64 0) 8 rfl Try.underlying28 info3 rfl (by decide) (by omega) v733 y732 y735 _ _ _ (fun k_ => some k_ ≠ (u7 : Value).ownBlock ∧ some k_ ≠ (.slice Ao43 x9_3.length co43 : Value).ownBlock) (fun _ => False) rfl rfl ?aO ?aR (fun _ _ h => h) (fun _ h => h.elim) ?aF ?aB ?aS ?aL ?_
                (case aR => repeat (first | exact (by repeat (first | (with_reducible exact HR738.out) | (with_reducible refine Kd.C_alloc ?_ _) | (with_reducible refine Kd.C_drewN ?_ _) | (with_reducible refine Kd.C_drew ?_) | exact HR738.out)) | (with_reducible refine Kd.C_alloc ?_ _) | (with_reducible refine Kd.C_drewN ?_ _) | (with_reducible refine Kd.C_drew ?_)))
                (case aB => exact (by repeat (first | (with_reducible first | exact HB.out | apply bAl | apply bDN | apply bD1 | refine bSt ?_ GE717.out) | exact HB.out)))
                (case aF => exact (fun k_ hk => ⟨Kd.fresh' (Kd.R_lt (by (with_reducible repeat (first | apply Kd.R_alloc | apply Kd.R_drewN | apply Kd.R_drew)); exact HO_7.out)) k_ hk, Kd.fresh' (Kd.R_lt (by (with_reducible repeat (first | apply Kd.R_alloc | apply Kd.R_drewN | apply Kd.R_drew)); exact HO_9.out)) k_ hk⟩))
                (case aO => exact (by (with_reducible repeat (first | apply Kd.R_alloc | apply Kd.R_drewN | apply Kd.R_drew)); exact HO734.out))
                (case aS => exact (bSz (by repeat (first | (with_reducible first | exact HB.out | apply bAl | apply bDN | apply bD1 | refine bSt ?_ GE717.out) | exact HB.out))))
                (case aL => have := LMc24.out; omega)
                intro v740 w50 ho hb hg hat
                rw [← Ny739.out] at ho
                have n0_ := aK (Kd.R_after (ok := (fun k_ => some k_ ≠ (.slice Ao43 x9_3.length co43 : Value).ownBlock)) (by (with_reducible repeat (first | apply Kd.R_alloc | apply Kd.R_drewN | apply Kd.R_drew)); exact HO_7.out) hg hat)
                have n1_ := aK (Kd.R_after (ok := (fun k_ => some k_ ≠ (u7 : Value).ownBlock)) (by (with_reducible repeat (first | apply Kd.R_alloc | apply Kd.R_drewN | apply Kd.R_drew)); exact HO_9.out) hg hat)
                have n2_ := aK (blk_grown (g := gb717) (o := .cells #[.int .i64 a0_0, .int .i64 a0_1, .int .i64 a0_2] 32 (0, 0)) (by (with_reducible repeat (first | refine kDN ?_ _ | refine kD ?_ | refine kA ?_ _)); exact BK717.out) hg (Kd.R_ne HO734.out BK717.out (by decide)))
                have n3_ := aK (hb)
                have n4_ := aK ((show Kd.C (Kd.int .i64) w50 Ao43 y728.length y728 from by rw [Ny728.out]; exact Kd.C_take (m := (x10_3 : Int).toNat) ((Kd.R_reads' (Kd.R_after (ok := (fun k_ => some k_ ≠ (u7 : Value).ownBlock)) (by (with_reducible repeat (first | apply Kd.R_alloc | apply Kd.R_drewN | apply Kd.R_drew)); exact HO_9.out) hg hat)).2.2) KL45.out))
                have n5_ := aK ((show Kd.C (Kd.int .i64) w50 A46 y735.length y735 from by rw [Ny735.out, KA46.out]; exact Kd.C_drop (m := ((ji21) : Int).toNat) (c := co43) ((Kd.R_reads' (Kd.R_after (ok := (fun k_ => some k_ ≠ (u7 : Value).ownBlock)) (by (with_reducible repeat (first | apply Kd.R_alloc | apply Kd.R_drewN | apply Kd.R_drew)); exact HO_9.out) hg hat)).2.2) KL46.out ((Kd.R_reads' (Kd.R_after (ok := (fun k_ => some k_ ≠ (u7 : Value).ownBlock)) (by (with_reducible repeat (first | apply Kd.R_alloc | apply Kd.R_drewN | apply Kd.R_drew)); exact HO_9.out) hg hat)).2.1)))
                have n6_ := aK (ho)
                clear HO_7
                clear HO_9
                clear BK717
                clear HB
                clear HR731
                clear HR738
                clear HO734
                have HO_7 := n0_
                have HO_9 := n1_
                have BK717 := n2_
                have HB := n3_
                have HR731 := n4_
                have HR738 := n5_
                have HO741 := n6_
                clear n0_ n1_ n2_ n3_ n4_ n5_ n6_
                clear ho hb hg hat
                refine hK.out _ _ trivial (fun hHeld => ?_)
                clear hK K
                refine norm_ (a' := ?_) ?_ ?_
                rotate_left
                ·show Act.put _ (some 42) _ = _
                 simp only [Act.put, sTA, sZ, sS, i64_w, i32_w]
                 rfl
                refine pure_ (i := 10) (N := some 11) (v := ?_) (a' := ?_) #[bY,bY,bY,bY,bY,bY,bY,bY,bY,bY,bY] rfl rfl (any_of HT_.out (by kernel_rfl)) (fun _ _ _ h => h) (Or.inl ⟨by rfl, ?_⟩) ?_ ?_
                rotate_left
                ·intro w'
                 go_simp
                 with_reducible rfl
                rotate_left
                ·simp only [Act.put, sTA, sZ, sS, i64_w, i32_w]
                 rfl
                refine done_ (done_of HT_.out (by kernel_rfl)) ?_
                try go_wp2
                have n0_ := aK (Kd.R_drew HO_7.out)
                have n1_ := aK (Kd.R_drew HO_9.out)
                have n2_ := aK (Kd.R_drew HO741.out)
                have n3_ := aK (kD BK717.out)
                have n4_ := aK (Kd.C_drew HR731.out)
                have n5_ := aK (Kd.C_drew HR738.out)
                have n6_ := aK (bD1 HB.out)
                clear HO_7
                clear HO_9
                clear HO741
                clear BK717
                clear HR731
                clear HR738
                clear HB
                have HO_7 := n0_
                have HO_9 := n1_
                have HO741 := n2_
                have BK717 := n3_
                have HR731 := n4_
                have HR738 := n5_
                have HB := n6_
                clear n0_ n1_ n2_ n3_ n4_ n5_ n6_
                have p742 : 0 ≤ (x10_3 : Int) := of_decide_eq_true (by first | (with_reducible assumption) | assumption)
                have q742 : x10_3 < (x9_3.length : Int) := of_decide_eq_true (by first | (with_reducible assumption) | assumption)
                obtain ⟨ad742, e742, hx742_0⟩ := Kd.at_int (Kd.R_reads' HO_9.out).2.2 x10_3 p742 q742
                cases e742
                replace p742 := eq_true p742
                replace q742 := eq_true q742
                refine start_ (n := 8) (S := fun w' => w'.cell? ⟨gb717, 0, none⟩ = some (.int .i64 a0_0) ∧ w'.cell? ⟨gb717, 1, none⟩ = some (.int .i64 a0_1) ∧ w'.cell? ⟨gb717, 2, none⟩ = some (.int .i64 a0_2) ∧ w'.cell? (ad742.add (x10_3).toNat) = some (.int .i64 (rd x9_3 x10_3))) (ds := []) #[bN,bN,bN,bN,bN,bN,bN,bN] (by kernel_rfl) rfl rfl ⟨(kC BK717.out 0).trans rfl, (kC BK717.out 1).trans rfl, (kC BK717.out 2).trans rfl, hx742_0⟩ (fun hHeld => ?_); refine with_tabW spec_RescueOrder.tab9 spec_RescueOrder.bits9 (fun HT_ HW_ => ?_)
                generalize w50.drew = w51 at HO_7 HO_9 HO741 BK717 HR731 HR738 HB hx742_0 hHeld ⊢
                refine pure_ (i := 1) (N := some 44) (v := ?_) (a' := ?_) #[bN,bY,bN,bN,bN,bN,bN,bN] rfl rfl (any_of HT_.out (by kernel_rfl)) (fun _ _ _ h => h) (Or.inl ⟨by rfl, ?_⟩) ?_ ?_
                rotate_left
                ·intro w'
                 go_simp
                 with_reducible rfl
                rotate_left
                ·simp only [Act.put, sTA, sZ, sS, i64_w, i32_w]
                 rfl
                refine pure_ (i := 2) (N := some 45) (v := ?_) (a' := ?_) #[bN,bY,bY,bN,bN,bN,bN,bN] rfl rfl (any_of HT_.out (by kernel_rfl)) (fun _ _ _ h => h) (Or.inl ⟨by rfl, ?_⟩) ?_ ?_
                rotate_left
                ·intro w'
                 go_simp
                 with_reducible rfl
                rotate_left
                ·simp only [Act.put, sTA, sZ, sS, i64_w, i32_w]
                 rfl
                refine pure_ (i := 3) (N := some 46) (v := ?_) (a' := ?_) #[bN,bY,bY,bY,bN,bN,bN,bN] rfl rfl (any_of HT_.out (by kernel_rfl)) (fun _ _ _ h => h) (Or.inl ⟨by rfl, ?_⟩) ?_ ?_
                rotate_left
                ·intro w'
                 go_simp
                 with_reducible rfl
                rotate_left
                ·simp only [Act.put, sTA, sZ, sS, i64_w, i32_w]
                 rfl
                refine pure_ (i := 4) (N := some 47) (v := ?_) (a' := ?_) #[bN,bY,bY,bY,bY,bN,bN,bN] rfl rfl (any_of HT_.out (by kernel_rfl)) (fun _ _ _ h => h) (Or.inl ⟨by rfl, ?_⟩) ?_ ?_
                rotate_left
                ·intro w'
                 go_simp
                 with_reducible rfl
                rotate_left
                ·simp only [Act.put, sTA, sZ, sS, i64_w, i32_w]
                 rfl
                refine take_ (i := 0) (N := some 43) (v := ?_) (a' := ?_) #[bY,bY,bY,bY,bY,bN,bN,bN] rfl rfl (take_ofW HT_.out HW_.out (by kernel_rfl)) (fun _ _ _ h => h) (Or.inl ⟨by rfl, ?_⟩) hHeld ?_ ?_
                rotate_left
                ·rintro w' ⟨s0, s1, s2, s3⟩
                 go_simp
                 with_reducible rfl
                rotate_left
                ·simp only [Act.put, sTA, sZ, sS, i64_w, i32_w]
                 rfl
                refine take_ (i := 5) (N := some 48) (v := ?_) (a' := ?_) #[bY,bY,bY,bY,bY,bY,bN,bN] rfl rfl (take_ofW HT_.out HW_.out (by kernel_rfl)) (fun _ _ _ h => h) (Or.inl ⟨by rfl, ?_⟩) hHeld ?_ ?_
                rotate_left
                ·rintro w' ⟨s0, s1, s2, s3⟩
                 go_simp
                 with_reducible rfl
                rotate_left
                ·simp only [Act.put, sTA, sZ, sS, i64_w, i32_w]
                 rfl
                refine one_ (i := 6) (N := some 49) #[bY,bY,bY,bY,bY,bY,bY,bN] rfl rfl (one_of HT_.out (by kernel_rfl)) (by decide) (fun K hK => ?_)
                refine goes_ Try.func91 (by kernel_rfl) rfl #[.agg #[.int .i64 a0_0, .int .i64 a0_1, .int .i64 a0_2], .int .i64 x1_3, .int .i64 (rd x9_3 x10_3)] (by rfl) rfl rfl (by (try simp only [List.map_toArray, List.map_cons, List.map_nil]); first | done | rfl | (simp only [List.length_drop, List.length_take]; rfl)) ?_
                with_reducible refine (spec_DistanceOf.calls k3 a0_0 a0_1 a0_2 x1_3 (rd x9_3 x10_3) t743 _ A25.out).mono ?_
                rintro e w52 ⟨rfl, hb⟩
                have HS3_ := (hb.cell (World.block_lt_of_cell? _ _ (hHeld.2.2.2))).trans (hHeld.2.2.2)
                refine ⟨_, rfl, ?_⟩
                have n0_ := aK (Kd.R_below (by (with_reducible repeat (first | apply Kd.R_alloc | apply Kd.R_drewN | apply Kd.R_drew)); exact HO_7.out) hb)
                have n1_ := aK (Kd.R_below (by (with_reducible repeat (first | apply Kd.R_alloc | apply Kd.R_drewN | apply Kd.R_drew)); exact HO_9.out) hb)
                have n2_ := aK (Kd.R_below (by (with_reducible repeat (first | apply Kd.R_alloc | apply Kd.R_drewN | apply Kd.R_drew)); exact HO741.out) hb)
                have n3_ := bkb BK717 hb (by intro z_; (with_reducible repeat (first | refine kDN ?_ _ | refine kD ?_ | refine kA ?_ _)); exact z_)
                have n4_ := aK (Kd.C_below (by repeat (first | (with_reducible exact HR731.out) | (with_reducible refine Kd.C_alloc ?_ _) | (with_reducible refine Kd.C_drewN ?_ _) | (with_reducible refine Kd.C_drew ?_) | exact HR731.out)) hb)
                have n5_ := aK (Kd.C_below (by repeat (first | (with_reducible exact HR738.out) | (with_reducible refine Kd.C_alloc ?_ _) | (with_reducible refine Kd.C_drewN ?_ _) | (with_reducible refine Kd.C_drew ?_) | exact HR738.out)) hb)
                have n6_ := aK (bSp (by repeat (first | (with_reducible first | exact HB.out | apply bAl | apply bDN | apply bD1 | refine bSt ?_ GE717.out) | exact HB.out)) hb)
                clear HO_7
                clear HO_9
                clear HO741
                clear BK717
                clear HR731
                clear HR738
                clear HB
                have HO_7 := n0_
                have HO_9 := n1_
                have HO741 := n2_
                have BK717 := n3_
                have HR731 := n4_
                have HR738 := n5_
                have HB := n6_
                clear n0_ n1_ n2_ n3_ n4_ n5_ n6_
                (try clear hb)
                (try clear hb2)
                (try clear hk)
                (try clear hi)
                refine hK.out _ _ ⟨(kC BK717.out 0).trans rfl, (kC BK717.out 1).trans rfl, (kC BK717.out 2).trans rfl, HS3_⟩ (fun hHeld => ?_)
                clear hK K
                refine norm_ (a' := ?_) ?_ ?_
                rotate_left
                ·show Act.put _ (some 49) _ = _
                 simp only [Act.put, sTA, sZ, sS, i64_w, i32_w]
                 rfl
                refine pure_ (i := 7) (N := some 12) (v := ?_) (a' := ?_) #[bY,bY,bY,bY,bY,bY,bY,bY] rfl rfl (any_of HT_.out (by kernel_rfl)) (fun _ _ _ h => h) (Or.inl ⟨by rfl, ?_⟩) ?_ ?_
                rotate_left
                ·intro w'
                 go_simp
                 with_reducible rfl
                rotate_left
                ·simp only [Act.put, sTA, sZ, sS, i64_w, i32_w]
                 rfl
                refine done_ (done_of HT_.out (by kernel_rfl)) ?_
                try go_wp2
                have n0_ := aK (Kd.R_drew HO_7.out)
                have n1_ := aK (Kd.R_drew HO_9.out)
                have n2_ := aK (Kd.R_drew HO741.out)
                have n3_ := aK (kD BK717.out)
                have n4_ := aK (Kd.C_drew HR731.out)
                have n5_ := aK (Kd.C_drew HR738.out)
                have n6_ := aK (bD1 HB.out)
                clear HO_7
                clear HO_9
                clear HO741
                clear BK717
                clear HR731
                clear HR738
                clear HB
                have HO_7 := n0_
                have HO_9 := n1_
                have HO741 := n2_
                have BK717 := n3_
                have HR731 := n4_
                have HR738 := n5_
                have HB := n6_
                clear n0_ n1_ n2_ n3_ n4_ n5_ n6_
                have p744 : 0 ≤ (x10_3 : Int) := of_decide_eq_true (by first | (with_reducible assumption) | assumption)
                have q744 : x10_3 < (x9_3.length : Int) := of_decide_eq_true (by first | (with_reducible assumption) | assumption)
                obtain ⟨ad744, e744, hx744_0⟩ := Kd.at_int (Kd.R_reads' HO_9.out).2.2 x10_3 p744 q744
                obtain rfl : ad742 = ad744 := (by injection e744)
                replace p744 := eq_true p744
                replace q744 := eq_true q744
                obtain ⟨Ao54, co54, eo54⟩ := Kd.R_slice HO741.out
                (first | subst eo54 | (injection eo54 with f1_ f2_ f3_; have f4_ := f1_.symm; have f5_ := f3_.symm; clear f1_ f2_ f3_; subst f4_; subst f5_))
                refine start_ (n := 11) (S := fun w' => w'.cell? ⟨gb717, 0, none⟩ = some (.int .i64 a0_0) ∧ w'.cell? ⟨gb717, 1, none⟩ = some (.int .i64 a0_1) ∧ w'.cell? ⟨gb717, 2, none⟩ = some (.int .i64 a0_2) ∧ w'.cell? (ad742.add (x10_3).toNat) = some (.int .i64 (rd x9_3 x10_3))) (ds := []) #[bN,bN,bN,bN,bN,bN,bN,bN,bN,bN,bN] (by kernel_rfl) rfl rfl ⟨(kC BK717.out 0).trans rfl, (kC BK717.out 1).trans rfl, (kC BK717.out 2).trans rfl, hx744_0⟩ (fun hHeld => ?_); refine with_tabW spec_RescueOrder.tab10 spec_RescueOrder.bits10 (fun HT_ HW_ => ?_)
                generalize w52.drew = w53 at HO_7 HO_9 HO741 BK717 HR731 HR738 HB hx744_0 hHeld ⊢
                refine pure_ (i := 0) (N := some 50) (v := ?_) (a' := ?_) #[bY,bN,bN,bN,bN,bN,bN,bN,bN,bN,bN] rfl rfl (any_of HT_.out (by kernel_rfl)) (fun _ _ _ h => h) (Or.inl ⟨by rfl, ?_⟩) ?_ ?_
                rotate_left
                ·intro w'
                 go_simp
                 with_reducible rfl
                rotate_left
                ·simp only [Act.put, sTA, sZ, sS, i64_w, i32_w]
                 rfl
                refine pure_ (i := 2) (N := some 52) (v := ?_) (a' := ?_) #[bY,bN,bY,bN,bN,bN,bN,bN,bN,bN,bN] rfl rfl (any_of HT_.out (by kernel_rfl)) (fun _ _ _ h => h) (Or.inl ⟨by rfl, ?_⟩) ?_ ?_
                rotate_left
                ·intro w'
                 go_simp
                 with_reducible rfl
                rotate_left
                ·simp only [Act.put, sTA, sZ, sS, i64_w, i32_w]
                 rfl
                refine pure_ (i := 3) (N := some 53) (v := ?_) (a' := ?_) #[bY,bN,bY,bY,bN,bN,bN,bN,bN,bN,bN] rfl rfl (any_of HT_.out (by kernel_rfl)) (fun _ _ _ h => h) (Or.inl ⟨by rfl, ?_⟩) ?_ ?_
                rotate_left
                ·intro w'
                 go_simp
                 with_reducible rfl
                rotate_left
                ·simp only [Act.put, sTA, sZ, sS, i64_w, i32_w]
                 rfl
                refine pure_ (i := 4) (N := some 54) (v := ?_) (a' := ?_) #[bY,bN,bY,bY,bY,bN,bN,bN,bN,bN,bN] rfl rfl (any_of HT_.out (by kernel_rfl)) (fun _ _ _ h => h) (Or.inl ⟨by rfl, ?_⟩) ?_ ?_
                rotate_left
                ·intro w'
                 go_simp
                 with_reducible rfl
                rotate_left
                ·simp only [Act.put, sTA, sZ, sS, i64_w, i32_w]
                 rfl
                refine pure_ (i := 6) (N := some 56) (v := ?_) (a' := ?_) #[bY,bN,bY,bY,bY,bN,bY,bN,bN,bN,bN] rfl rfl (any_of HT_.out (by kernel_rfl)) (fun _ _ _ h => h) (Or.inl ⟨by rfl, ?_⟩) ?_ ?_
                rotate_left
                ·intro w'
                 go_simp
                 with_reducible rfl
                rotate_left
                ·simp only [Act.put, sTA, sZ, sS, i64_w, i32_w]
                 rfl
                refine pure_ (i := 9) (N := some 59) (v := ?_) (a' := ?_) #[bY,bN,bY,bY,bY,bN,bY,bN,bN,bY,bN] rfl rfl (any_of HT_.out (by kernel_rfl)) (fun _ _ _ h => h) (Or.inl ⟨by rfl, ?_⟩) ?_ ?_
                rotate_left
                ·intro w'
                 go_simp
                 with_reducible rfl
                rotate_left
                ·simp only [Act.put, sTA, sZ, sS, i64_w, i32_w]
                 rfl
                refine take_ (i := 1) (N := some 51) (v := ?_) (a' := ?_) #[bY,bY,bY,bY,bY,bN,bY,bN,bN,bY,bN] rfl rfl (take_ofW HT_.out HW_.out (by kernel_rfl)) (fun _ _ _ h => h) (Or.inl ⟨by rfl, ?_⟩) hHeld ?_ ?_
                rotate_left
                ·rintro w' ⟨s0, s1, s2, s3⟩
                 go_simp
                 with_reducible rfl
                rotate_left
                ·simp only [Act.put, sTA, sZ, sS, i64_w, i32_w]
                 rfl
                refine take_ (i := 5) (N := some 55) (v := ?_) (a' := ?_) #[bY,bY,bY,bY,bY,bY,bY,bN,bN,bY,bN] rfl rfl (take_ofW HT_.out HW_.out (by kernel_rfl)) (fun _ _ _ h => h) (Or.inl ⟨by rfl, ?_⟩) hHeld ?_ ?_
                rotate_left
                ·rintro w' ⟨s0, s1, s2, s3⟩
                 go_simp
                 with_reducible rfl
                rotate_left
                ·simp only [Act.put, sTA, sZ, sS, i64_w, i32_w]
                 rfl
                refine one_ (i := 7) (N := some 57) #[bY,bY,bY,bY,bY,bY,bY,bY,bN,bY,bN] rfl rfl (one_of HT_.out (by kernel_rfl)) (by decide) (fun K hK => ?_)
                refine goes_ Try.func74 (by kernel_rfl) rfl #[.agg #[.int .i64 a0_0, .int .i64 a0_1, .int .i64 a0_2], .int .i64 (rd x9_3 x10_3), .slice Ao54 y739.length co54, .int .i64 (-1)] (by rfl) rfl rfl (by (try simp only [List.map_toArray, List.map_cons, List.map_nil]); first | done | rfl | (simp only [List.length_drop, List.length_take]; rfl)) ?_
                with_reducible refine (spec_l34Best.calls k3 a0_0 a0_1 a0_2 (rd x9_3 x10_3) _ _ y739 (-1) t745 _ ?side1 ?side2 A26.out).mono ?_
                (case side1 => repeat (first | exact (Kd.R_reads' HO741.out).2.2 | (with_reducible refine Kd.C_alloc ?_ _) | (with_reducible refine Kd.C_drewN ?_ _) | (with_reducible refine Kd.C_drew ?_)))
                (case side2 => exact (Kd.R_reads' HO741.out).2.1)
                rintro e w55 ⟨rfl, hb⟩
                have HS3_ := (hb.cell (World.block_lt_of_cell? _ _ (hHeld.2.2.2))).trans (hHeld.2.2.2)
                refine ⟨_, rfl, ?_⟩
                have n0_ := aK (Kd.R_below (by (with_reducible repeat (first | apply Kd.R_alloc | apply Kd.R_drewN | apply Kd.R_drew)); exact HO_7.out) hb)
                have n1_ := aK (Kd.R_below (by (with_reducible repeat (first | apply Kd.R_alloc | apply Kd.R_drewN | apply Kd.R_drew)); exact HO_9.out) hb)
                have n2_ := aK (Kd.R_below (by (with_reducible repeat (first | apply Kd.R_alloc | apply Kd.R_drewN | apply Kd.R_drew)); exact HO741.out) hb)
                have n3_ := bkb BK717 hb (by intro z_; (with_reducible repeat (first | refine kDN ?_ _ | refine kD ?_ | refine kA ?_ _)); exact z_)
                have n4_ := aK (Kd.C_below (by repeat (first | (with_reducible exact HR731.out) | (with_reducible refine Kd.C_alloc ?_ _) | (with_reducible refine Kd.C_drewN ?_ _) | (with_reducible refine Kd.C_drew ?_) | exact HR731.out)) hb)
                have n5_ := aK (Kd.C_below (by repeat (first | (with_reducible exact HR738.out) | (with_reducible refine Kd.C_alloc ?_ _) | (with_reducible refine Kd.C_drewN ?_ _) | (with_reducible refine Kd.C_drew ?_) | exact HR738.out)) hb)
                have n6_ := aK (bSp (by repeat (first | (with_reducible first | exact HB.out | apply bAl | apply bDN | apply bD1 | refine bSt ?_ GE717.out) | exact HB.out)) hb)
                clear HO_7
                clear HO_9
                clear HO741
                clear BK717
                clear HR731
                clear HR738
                clear HB
                have HO_7 := n0_
                have HO_9 := n1_
                have HO741 := n2_
                have BK717 := n3_
                have HR731 := n4_
                have HR738 := n5_
                have HB := n6_
                clear n0_ n1_ n2_ n3_ n4_ n5_ n6_
                (try clear hb)
                (try clear hb2)
                (try clear hk)
                (try clear hi)
                refine hK.out _ _ ⟨(kC BK717.out 0).trans rfl, (kC BK717.out 1).trans rfl, (kC BK717.out 2).trans rfl, HS3_⟩ (fun hHeld => ?_)
                clear hK K
                refine norm_ (a' := ?_) ?_ ?_
                rotate_left
                ·show Act.put _ (some 57) _ = _
                 simp only [Act.put, sTA, sZ, sS, i64_w, i32_w]
                 rfl
                refine pure_ (i := 8) (N := some 58) (v := ?_) (a' := ?_) #[bY,bY,bY,bY,bY,bY,bY,bY,bY,bY,bN] rfl rfl (any_of HT_.out (by kernel_rfl)) (fun _ _ _ h => h) (Or.inl ⟨by rfl, ?_⟩) ?_ ?_
                rotate_left
                ·intro w'
                 go_simp
                 with_reducible rfl
                rotate_left
                ·simp only [Act.put, sTA, sZ, sS, i64_w, i32_w]
                 rfl
                refine pure_ (i := 10) (N := some 60) (v := ?_) (a' := ?_) #[bY,bY,bY,bY,bY,bY,bY,bY,bY,bY,bY] rfl rfl (any_of HT_.out (by kernel_rfl)) (fun _ _ _ h => h) (Or.inl ⟨by rfl, ?_⟩) ?_ ?_
                rotate_left
                ·intro w'
                 go_simp
                 with_reducible rfl
                rotate_left
                ·simp only [Act.put, sTA, sZ, sS, i64_w, i32_w]
                 rfl
                refine done_ (done_of HT_.out (by kernel_rfl)) ?_
                try go_wp2
                go_roundg k3
                case measure => have := HK1.out; have := HJ11.out; have := HK3.out; omega
                case rel => exact ⟨(x1_3), (x7_3), (x8_3), (x9_3), (ji21), (by first | rfl | (simp; done) | (simp [*]; done)), (by first | rfl | (simp; done) | (simp [*]; done)), (by first | rfl | (simp; done) | (simp only [← hji21] <;> (first | rfl | simp)) | (simp [*]; done)), H', ⟨by have := HK1.out; have := HJ11.out; have := HK3.out; omega⟩, ⟨by (with_reducible repeat (first | apply Kd.R_alloc | apply Kd.R_drewN | apply Kd.R_drew)); exact Kd.R_mono HO_7.out (fun _ hk => hk.1)⟩, ⟨by (with_reducible repeat (first | apply Kd.R_alloc | apply Kd.R_drewN | apply Kd.R_drew)); exact Kd.R_mono HO_9.out (fun _ hk => hk.1)⟩, ⟨by (with_reducible repeat (first | refine kDN ?_ _ | refine kD ?_ | refine kA ?_ _)); exact BK717.out⟩, ⟨by repeat (first | (with_reducible first | exact HB.out | apply bAl | apply bDN | apply bD1 | refine bSt ?_ GE717.out) | exact HB.out)⟩⟩
              ·rw [if_neg c24] at H
               exact absurd H (by simp)
             ·rw [if_neg c23] at H
              exact absurd H (by simp)
            ·rw [if_neg c22] at H
             exact absurd H (by simp)
           ·rw [if_neg c20] at H
            exact absurd H (by simp)
          ·rw [if_neg c19] at H
           exact absurd H (by simp)
         ·rw [if_neg c18] at H
          exact absurd H (by simp)
        ·rw [if_neg c17] at H
         have c17b0 : decide (x10_3 < (x9_3.length : Int)) = false := decide_eq_false c17
         clear c17
         have H' := aK H
         clear H
         obtain ⟨Ao56, co56, eo56⟩ := Kd.R_slice HO_9.out
         subst eo56
         go_wp2
         go_roundg k3
         case measure => have := HK1.out; have := HJ11.out; have := HK3.out; omega
         case rel => exact ⟨(x1_3), (x7_3), (x8_3), (x9_3), (by first | rfl | (simp; done) | (simp [*]; done)), (by first | rfl | (simp; done) | (simp [*]; done)), H', ⟨by have := HK1.out; have := HJ11.out; have := HK3.out; omega⟩, ⟨by (with_reducible repeat (first | apply Kd.R_alloc | apply Kd.R_drewN | apply Kd.R_drew)); exact HO_7.out⟩, ⟨by (with_reducible repeat (first | apply Kd.R_alloc | apply Kd.R_drewN | apply Kd.R_drew)); exact HO_9.out⟩, ⟨by (with_reducible repeat (first | refine kDN ?_ _ | refine kD ?_ | refine kA ?_ _)); exact BK717.out⟩, ⟨by repeat (first | (with_reducible first | exact HB.out | apply bAl | apply bDN | apply bD1 | refine bSt ?_ GE717.out) | exact HB.out)⟩⟩
     ·replace c16 := Bool.eq_false_iff.mpr c16
      subst c16
      have H1 : (some x7_1) = some r := by rw [if_neg (show ¬ (false = true) by decide)] at H; exact H
      clear H
      have H := H1
      clear H1
      obtain rfl := Option.some.inj H
      go_wp2
      go_ret
      exact ⟨_, by first | rfl | (simp [errW_none, errW_some] <;> rfl) | (simp [*, errW_none, errW_some] <;> rfl), by (with_reducible repeat (first | apply Kd.R_alloc | apply Kd.R_drewN | apply Kd.R_drew)); exact Kd.R_mono HO_7.out (fun _ hk => trivial), by repeat (first | (with_reducible first | exact HB.out | apply bAl | apply bDN | apply bD1 | refine bSt ?_ GE717.out) | exact HB.out)⟩
end Go.Proofs.Ytimejdhglmajdaa.F
end

section
namespace Go.Proofs.Ytimejdhglmajdaa.F
open Go.RowKit Go.Proofs.YtimejdhglmajdaaW.PrintWords Go.Proofs.YtimejdhglmajdaaW.PrintLast Go.Proofs.YtimejdhglmajdaaW.PrintMore
set_option linter.unusedVariables false
set_option linter.unusedSimpArgs false
attribute [local go_sem] min2_int min_two
set_option maxHeartbeats 8000000 in
set_option maxRecDepth 100000 in
theorem impl_RescueOrder.calls (k : Nat) (a0_0 : Int) (a0_1 : Int) (a0_2 : Int) (a1 : Int) (A2 : Option Addr) (c2 : Nat) (l2 : List Int) (r : List Int) (w : World) (hr2 : Kd.C (Kd.int .i64) w A2 l2.length l2) (hc2 : l2.length ≤ c2) (h : impl_RescueOrder.f k a0_0 a0_1 a0_2 a1 l2 = some r) :
  Calls Try.prog 41 #[.agg #[.int .i64 a0_0, .int .i64 a0_1, .int .i64 a0_2], .int .i64 a1, .slice A2 l2.length c2] w fun e w' => ∃ v0_ : Value, e = .returned (v0_) ∧ Kd.R (Kd.int .i64) 3 w' w.heap.size (fun _ => True) v0_ r ∧ Below w.heap.size w w' := by
 have hu32 := Try.underlying32
 have HR2 := aK hr2
 have HC2 := aK hc2
 clear hr2 hc2
 have HB := aK (Below.refl w.heap.size w)
 have H : ((impl_rescue.f a0_0 a0_1 a0_2 a1 l2 false).bind fun bt752 => (impl_RescueOrder.l0 k l2 ([] : List Int) bt752.1 (bt752.1.length : Int) 0)) = some r := h
 clear h
 replace H := Option.bind_eq_some_iff.mp H
 obtain ⟨⟨t752, t755⟩, A40, H⟩ := H
 replace H : (impl_RescueOrder.l0 k l2 ([] : List Int) t752 (t752.length : Int) 0) = some r := H
 have A4 := aK A40
 clear A40
 have H' := aK H
 clear H
 go_enter Try.func41, Try.ntmps41
 go_wp2_with (first | ((with_reducible refine gate_dst (N := 3) rfl ?_); refine box_event ?hg (N := 3) ?hd (cs := #[.int .i64 a0_0, .int .i64 a0_1, .int .i64 a0_2]) (t := 32) ?hr ?_; (case hd => rfl); (case hg => rfl); (case hr => first | (go_simp; done) | (go_simp; rfl)); intro gb751 hg w5 hbox hb; have n0_ := aK (bSp (by repeat (first | (with_reducible first | exact HB.out | apply bAl | apply bDN | apply bD1) | exact HB.out)) hb); have n1_ := aK (hbox); have n2_ := aK ((by rw [hg]; exact (bSz (by repeat (first | (with_reducible first | exact HB.out | apply bAl | apply bDN | apply bD1) | exact HB.out))) : w.heap.size ≤ gb751)); have n3_ := n2_; clear HB; have HB := n0_; have BK751 := n1_; have GW751 := n2_; have GE751 := n3_; clear n0_ n1_ n2_ n3_; clear hb hbox hg; obtain ⟨hcz6_0, hcz6_1, hcz6_2, hfz6_0, hfz6_1, hfz6_2⟩ := cl3 BK751.out) | ((with_reducible refine gate_callee (f := 75) rfl ?_); refine goesL_ (some 16) rfl rfl Try.func75 (by kernel_rfl) rfl #[.agg #[.int .i64 a0_0, .int .i64 a0_1, .int .i64 a0_2], .int .i64 a1, .slice A2 l2.length c2, .bool false] rfl (by (try simp only [List.map_toArray, List.map_cons, List.map_nil]); first | done | rfl | (simp only [List.length_drop, List.length_take]; rfl)) ?_; (with_reducible refine (impl_rescue.calls a0_0 a0_1 a0_2 a1 _ _ l2 false t752 t755 _ ?side1 ?side2 A4.out).mono ?_); (case side1 => repeat (first | exact (Kd.C_below HR2.out HB.out) | (with_reducible refine Kd.C_alloc ?_ _) | (with_reducible refine Kd.C_drewN ?_ _) | (with_reducible refine Kd.C_drew ?_))); (case side2 => exact HC2.out); rintro e w7 ⟨v753, rfl, ho0, hb⟩; refine ⟨_, rfl, ?_⟩; have n0_ := aK (Kd.R_lower ho0 (bSz (by repeat (first | (with_reducible first | exact HB.out | apply bAl | apply bDN | apply bD1 | refine bSt ?_ GE751.out) | exact HB.out)))); have n1_ := bkb BK751 hb (by intro z_; (with_reducible repeat (first | refine kDN ?_ _ | refine kD ?_ | refine kA ?_ _)); exact z_); have n2_ := aK (bSp (by repeat (first | (with_reducible first | exact HB.out | apply bAl | apply bDN | apply bD1 | refine bSt ?_ GE751.out) | exact HB.out)) hb); clear BK751; clear HB; have HO754 := n0_; have BK751 := n1_; have HB := n2_; clear n0_ n1_ n2_; (try clear hb); (try clear hb2); (try clear hk); (try clear hi); (try clear ho0); obtain ⟨Ao8, co8, eo8⟩ := Kd.R_slice HO754.out; subst eo8))
 go_loopg [9, 21] k (fun kq v9 v21 w' => ∃ (x9_1 : List Int) (x21_1 : Int), v21 = .int .i64 x21_1 ∧ Aside0 (impl_RescueOrder.l0 kq l2 x9_1 t752 (t752.length : Int) x21_1 = some r) ∧ Aside0 (kq ≤ k) ∧ Aside0 (Kd.R (Kd.int .i64) 3 w' w.heap.size (fun k_ => some k_ ≠ ((.slice Ao8 t752.length co8) : Value).ownBlock) v9 x9_1) ∧ Aside0 (Kd.R (Kd.int .i64) 3 w' w.heap.size (fun k_ => some k_ ≠ (v9 : Value).ownBlock) (.slice Ao8 t752.length co8) t752) ∧ Aside0 (w'.heap[gb751]? = some (.cells #[.int .i64 a0_0, .int .i64 a0_1, .int .i64 a0_2] 32 (0, 0))) ∧ Aside0 (Below w.heap.size w w'))
 case atStart => exact ⟨(([] : List Int)), (0), (by first | rfl | (simp; done) | (simp [*]; done)), H', ⟨Nat.le_refl _⟩, ⟨by first | exact Kd.R_nil _ _ _ _ _ | exact Kd.N_nil _ _ _ _ _ | exact Kd.V_nil _ _ _ _ _ | exact Kd.Q_nil _ _ _ _ _ | exact Kd.S_nil _ _ _ _ _⟩, ⟨by (with_reducible repeat (first | apply Kd.R_alloc | apply Kd.R_drewN | apply Kd.R_drew)); exact Kd.R_mono HO754.out (fun _ hk => (by simp [Value.ownBlock]))⟩, ⟨by (with_reducible repeat (first | refine kDN ?_ _ | refine kD ?_ | refine kA ?_ _)); exact BK751.out⟩, ⟨by repeat (first | (with_reducible first | exact HB.out | apply bAl | apply bDN | apply bD1 | refine bSt ?_ GE751.out) | exact HB.out)⟩⟩
 case round =>
  clear H'
  try clear c2
  try clear p2
  try clear c4
  try clear c7
  try clear hcz6_0
  try clear hcz6_1
  try clear hcz6_2
  try clear hfz6_0
  try clear hfz6_1
  try clear hfz6_2
  obtain ⟨x9_1, x21_1, rfl, HA, HK1, HO_9, HO_19, BK751, HB⟩ := hrel
  cases gk with
  | zero => exact absurd HA.out (by simp [impl_RescueOrder.l0])
  | succ k1 =>
   have H := HA.out
   clear HA
   simp only [impl_RescueOrder.l0] at H
   by_cases c9 : x21_1 < (t752.length : Int)
   ·rw [if_pos c9] at H
    have c9b0 : decide (x21_1 < (t752.length : Int)) = true := decide_eq_true c9
    clear c9
    by_cases c10 : 0 ≤ x21_1
    ·rw [if_pos c10] at H
     have c10b0 : decide (0 ≤ x21_1) = true := decide_eq_true c10
     clear c10
     by_cases c11 : x21_1 < (t752.length : Int)
     ·rw [if_pos c11] at H
      have c11b0 : decide (x21_1 < (t752.length : Int)) = true := decide_eq_true c11
      clear c11
      by_cases c12 : 0 ≤ (rd t752 x21_1)
      ·rw [if_pos c12] at H
       have c12b0 : decide (0 ≤ (rd t752 x21_1)) = true := decide_eq_true c12
       clear c12
       by_cases c13 : (rd t752 x21_1) < (l2.length : Int)
       ·rw [if_pos c13] at H
        have c13b0 : decide ((rd t752 x21_1) < (l2.length : Int)) = true := decide_eq_true c13
        clear c13
        by_cases c14 : x9_1.length < 17592186044416
        ·rw [if_pos c14] at H
         have LMc14 := aK c14
         clear c14
         obtain ⟨y758, hy758⟩ : ∃ y_ : List Int, y_ = (x9_1 ++ [rd l2 (rd t752 x21_1)]) := ⟨_, rfl⟩
         replace H : (impl_RescueOrder.l0 k1 l2 y758 t752 (t752.length : Int) (wrap64 (x21_1 + 1))) = some r := by first | (rw [hy758]; with_reducible exact H) | (have H2_ := (Option.bind_some _ _).symm.trans H; rw [hy758]; with_reducible exact H2_) | (have H2_ := (Option.bind_some _ _).symm.trans H; with_reducible exact H2_) | with_reducible exact H | (rw [hy758]; exact H) | exact H
         have Ny758 := aK hy758
         clear hy758
         have H' := aK H
         clear H
         have p756 : 0 ≤ (x21_1 : Int) := of_decide_eq_true (by first | (with_reducible assumption) | assumption)
         have q756 : x21_1 < (t752.length : Int) := of_decide_eq_true (by first | (with_reducible assumption) | assumption)
         obtain ⟨ad756, e756, hx756_0⟩ := Kd.at_int (Kd.R_reads' HO_19.out).2.2 x21_1 p756 q756
         cases e756
         replace p756 := eq_true p756
         replace q756 := eq_true q756
         have p757 : 0 ≤ ((rd t752 x21_1) : Int) := of_decide_eq_true (by first | (with_reducible assumption) | assumption)
         have q757 : (rd t752 x21_1) < (l2.length : Int) := of_decide_eq_true (by first | (with_reducible assumption) | assumption)
         obtain ⟨ad757, e757, hx757_0⟩ := Kd.at_int HR2.out (rd t752 x21_1) p757 q757
         cases e757
         replace hx757_0 := (HB.out.cell (World.block_lt_of_cell? w _ hx757_0)).trans hx757_0
         replace p757 := eq_true p757
         replace q757 := eq_true q757
         go_wp2_with (first | ((with_reducible refine gate_builtin (b := .append) (xs := #[.tmp 25, .tmp 30]) rfl ?_); at_builtin; refine Kd.R_append (Kd.int .i64) (w0 := w) w.heap.size rfl (.tmp 25) (.tmp 30) 28 3 (.int .i64 0) 8 rfl Try.underlying28 info3 rfl (by decide) (by omega) u9 x9_1 (rd l2 (rd t752 x21_1)) [.int .i64 (rd l2 (rd t752 x21_1))] (fun k_ => some k_ ≠ (.slice (some ad756) t752.length co8 : Value).ownBlock) (fun _ => False) rfl rfl ?aP (fun _ hk => hk.elim) ?aF ?aO ?aB ?aS ?aL ?_; (case aP => exact rfl); (case aB => exact (by repeat (first | (with_reducible first | exact HB.out | apply bAl | apply bDN | apply bD1 | refine bSt ?_ GE751.out) | exact HB.out))); (case aF => exact (fun k_ hk => Kd.fresh' (Kd.R_lt (by (with_reducible repeat (first | apply Kd.R_alloc | apply Kd.R_drewN | apply Kd.R_drew)); exact HO_19.out)) k_ hk)); (case aO => exact (by (with_reducible repeat (first | apply Kd.R_alloc | apply Kd.R_drewN | apply Kd.R_drew)); exact HO_9.out)); (case aS => exact (bSz (by repeat (first | (with_reducible first | exact HB.out | apply bAl | apply bDN | apply bD1 | refine bSt ?_ GE751.out) | exact HB.out)))); (case aL => have := LMc14.out; omega); intro v759 w15 ho hb hg hat; rw [← Ny758.out] at ho; have n0_ := aK (Kd.R_after (ok := (fun _ => True)) (by (with_reducible repeat (first | apply Kd.R_alloc | apply Kd.R_drewN | apply Kd.R_drew)); exact Kd.R_mono HO_19.out (fun _ hk => ⟨trivial, hk⟩)) hg hat); have n1_ := aK (blk_grown (g := gb751) (o := .cells #[.int .i64 a0_0, .int .i64 a0_1, .int .i64 a0_2] 32 (0, 0)) (by (with_reducible repeat (first | refine kDN ?_ _ | refine kD ?_ | refine kA ?_ _)); exact BK751.out) hg (Kd.R_ne HO_9.out BK751.out (by decide))); have n2_ := aK (hb); have n3_ := aK (ho); clear HO_19; clear BK751; clear HB; clear HO_9; have HO_19 := n0_; have BK751 := n1_; have HB := n2_; have HO760 := n3_; clear n0_ n1_ n2_ n3_; clear ho hb hg hat))
         go_roundg k1
         case measure => have := HK1.out; omega
         case rel => exact ⟨(y758), (wrap64 (x21_1 + 1)), (by first | rfl | (simp; done) | (simp [*]; done)), H', ⟨by have := HK1.out; omega⟩, ⟨by (with_reducible repeat (first | apply Kd.R_alloc | apply Kd.R_drewN | apply Kd.R_drew)); exact HO760.out⟩, ⟨by (with_reducible repeat (first | apply Kd.R_alloc | apply Kd.R_drewN | apply Kd.R_drew)); exact Kd.R_mono HO_19.out (fun _ hk => hk.2)⟩, ⟨by (with_reducible repeat (first | refine kDN ?_ _ | refine kD ?_ | refine kA ?_ _)); exact BK751.out⟩, ⟨by repeat (first | (with_reducible first | exact HB.out | apply bAl | apply bDN | apply bD1 | refine bSt ?_ GE751.out) | exact HB.out)⟩⟩
        ·rw [if_neg c14] at H
         exact absurd H (by simp)
       ·rw [if_neg c13] at H
        exact absurd H (by simp)
      ·rw [if_neg c12] at H
       exact absurd H (by simp)
     ·rw [if_neg c11] at H
      exact absurd H (by simp)
    ·rw [if_neg c10] at H
     exact absurd H (by simp)
   ·rw [if_neg c9] at H
    have c9b0 : decide (x21_1 < (t752.length : Int)) = false := decide_eq_false c9
    clear c9
    obtain rfl := Option.some.inj H
    go_wp2
    go_ret
    exact ⟨_, by first | rfl | (simp [errW_none, errW_some] <;> rfl) | (simp [*, errW_none, errW_some] <;> rfl), by (with_reducible repeat (first | apply Kd.R_alloc | apply Kd.R_drewN | apply Kd.R_drew)); exact Kd.R_mono HO_9.out (fun _ hk => trivial), by repeat (first | (with_reducible first | exact HB.out | apply bAl | apply bDN | apply bD1 | refine bSt ?_ GE751.out) | exact HB.out)⟩
end Go.Proofs.Ytimejdhglmajdaa.F
end

section
namespace Go.Proofs.Ytimejdhglmajdaa.F
open Go.RowKit Go.Proofs.YtimejdhglmajdaaW.PrintWords Go.Proofs.YtimejdhglmajdaaW.PrintLast Go.Proofs.YtimejdhglmajdaaW.PrintMore
set_option linter.unusedVariables false
set_option linter.unusedSimpArgs false
def laws_markIntS.l0 : Nat → List Int → Int → Int → Option (Int × List Int)
  | 0, _, _, _ => none
  | k + 1, x0, x1, x5 => if x5 < (x0.length : Int) then (if 0 ≤ x5 then (laws_markIntS.l0 k (x0.set (x5 : Int).toNat x1) (wrap64 (x1 + 1)) (wrap64 (x5 + 1))) else (none)) else (some (x1, x0))
def laws_markIntS.f (k : Nat) (l0 : List Int) (a1 : Int) : Option (Int × List Int) := laws_markIntS.l0 k l0 a1 0
def laws_heldIntS.l0 : Nat → List Int → Int → Int → Option (Int)
  | 0, _, _, _ => none
  | k + 1, x0, x1, x5 => if x5 < (x0.length : Int) then (if 0 ≤ x5 then (if (rd x0 x5) = x1 then (laws_heldIntS.l0 k x0 (wrap64 (x1 + 1)) (wrap64 (x5 + 1))) else (some (-1))) else (none)) else (some x1)
def laws_heldIntS.f (k : Nat) (l0 : List Int) (a1 : Int) : Option (Int) := laws_heldIntS.l0 k l0 a1 0
end Go.Proofs.Ytimejdhglmajdaa.F
end

section
namespace Go.Proofs.Ytimejdhglmajdaa.F
open Go.RowKit Go.Proofs.YtimejdhglmajdaaW.PrintWords Go.Proofs.YtimejdhglmajdaaW.PrintLast Go.Proofs.YtimejdhglmajdaaW.PrintMore
set_option linter.unusedVariables false
set_option linter.unusedSimpArgs false
attribute [local go_sem] min2_int min_two
set_option maxHeartbeats 8000000 in
set_option maxRecDepth 100000 in
theorem laws_markIntS.calls (k : Nat) (P0_ : Nat → Prop) (u9000_ : Value) (l0 : List Int) (a1 : Int) (r1 : Int) (r2 : List Int) (w0 w : World) (hB : Below w0.heap.size w0 w) (ho0 : Kd.R (Kd.int .i64) 3 w w0.heap.size P0_ u9000_ l0) (h : laws_markIntS.f k l0 a1 = some (r1, r2)) :
  Calls Try.prog 23 #[u9000_, .int .i64 a1] w fun e w' => e = .returned (.int .i64 r1) ∧ Kd.R (Kd.int .i64) 3 w' w0.heap.size (fun k_ => (P0_ k_ ∨ w.heap.size ≤ k_)) u9000_ r2 ∧ Below w0.heap.size w0 w' ∧ Kept w w' (fun k_ => P0_ k_) := by
 have HO0 := aK (show Kd.R (Kd.int .i64) 3 w w0.heap.size (fun k_ => (P0_ k_ ∨ w.heap.size ≤ k_)) u9000_ l0 from Kd.R_mono ho0 (fun k_ hk => (.inl hk)))
 have HK := aK (Kept.refl w (fun k_ => P0_ k_))
 have HW0 := aK hB.size
 have HB := aK hB
 clear hB
 have H : (laws_markIntS.l0 k l0 a1 0) = some (r1, r2) := h
 clear h
 have H' := aK H
 clear H
 go_enter Try.func23, Try.ntmps23
 go_wp2
 go_loopg [1, 5] k (fun kq v1 v5 w' => ∃ (x0_1 : List Int) (x1_1 : Int) (x5_1 : Int), v1 = .int .i64 x1_1 ∧ v5 = .int .i64 x5_1 ∧ Aside0 (laws_markIntS.l0 kq x0_1 x1_1 x5_1 = some (r1, r2)) ∧ Aside0 (kq ≤ k) ∧ Aside0 (Kd.R (Kd.int .i64) 3 w' w0.heap.size (fun k_ => (P0_ k_ ∨ w.heap.size ≤ k_)) u9000_ x0_1) ∧ Aside0 (Kept w w' (fun k_ => P0_ k_)) ∧ Aside0 (Below w0.heap.size w0 w'))
 case atStart => exact ⟨(l0), (a1), (0), (by first | rfl | (simp; done) | (simp [*]; done)), (by first | rfl | (simp; done) | (simp [*]; done)), H', ⟨Nat.le_refl _⟩, ⟨by (with_reducible repeat (first | apply Kd.R_alloc | apply Kd.R_drewN | apply Kd.R_drew)); exact HO0.out⟩, ⟨by repeat (first | (with_reducible first | exact HK.out | apply Kept.alloc | apply Kept.drewN | apply Kept.drew) | exact HK.out)⟩, ⟨by repeat (first | (with_reducible first | exact HB.out | apply bAl | apply bDN | apply bD1) | exact HB.out)⟩⟩
 case round =>
  clear H'
  try clear c2
  try clear p2
  obtain ⟨x0_1, x1_1, x5_1, rfl, rfl, HA, HK1, HO_0, HK, HB⟩ := hrel
  cases gk with
  | zero => exact absurd HA.out (by simp [laws_markIntS.l0])
  | succ k1 =>
   have H := HA.out
   clear HA
   simp only [laws_markIntS.l0] at H
   by_cases c3 : x5_1 < (x0_1.length : Int)
   ·rw [if_pos c3] at H
    have c3b0 : decide (x5_1 < (x0_1.length : Int)) = true := decide_eq_true c3
    clear c3
    by_cases c4 : 0 ≤ x5_1
    ·rw [if_pos c4] at H
     have c4b0 : decide (0 ≤ x5_1) = true := decide_eq_true c4
     clear c4
     obtain ⟨y214, hy214⟩ : ∃ y_ : List Int, y_ = (x0_1.set (x5_1 : Int).toNat x1_1) := ⟨_, rfl⟩
     replace H : (laws_markIntS.l0 k1 y214 (wrap64 (x1_1 + 1)) (wrap64 (x5_1 + 1))) = some (r1, r2) := by first | (rw [hy214]; with_reducible exact H) | (have H2_ := (Option.bind_some _ _).symm.trans H; rw [hy214]; with_reducible exact H2_) | (have H2_ := (Option.bind_some _ _).symm.trans H; with_reducible exact H2_) | with_reducible exact H | (rw [hy214]; exact H) | exact H
     have Ny214 := aK hy214
     clear hy214
     have H' := aK H
     clear H
     obtain ⟨Ao6, co6, eo6⟩ := Kd.R_slice HO_0.out
     subst eo6
     have p5 : 0 ≤ (x5_1 : Int) := of_decide_eq_true (by first | (with_reducible assumption) | assumption)
     have q5 : (x5_1 : Int) < ((x0_1.length : Int) : Int) := of_decide_eq_true (by first | (with_reducible assumption) | assumption)
     obtain ⟨go5, co5, eo5, gb5, gl5, cl5, HG5⟩ := Kd.R_form HO_0.out (by omega)
     (first | cases eo5 | (injection eo5 with ea_ en_ ec_; (first | subst ea_ | (injection ea_ with ea_; subst ea_)); subst ec_; clear en_))
     have GB5 := aK gb5
     have GG5 := aK HG5
     clear gb5 gl5 HG5
     have HMgo5 := aK (show (P0_ go5 ∨ w.heap.size ≤ go5) from (HO_0.out.1 _ rfl))
     obtain ⟨hx5_0, hf5_0⟩ := Kd.R_celln 0 HO_0.out (x5_1 : Int) p5 q5
     replace p5 := eq_true p5
     replace q5 := eq_true q5
     have HP7 := Kd.R_putg HO_0.out (x5_1 : Int) x1_1
     go_wp2_with (first | ((with_reducible refine gate_store (t := 3) (p := 15) rfl ?_); refine store_event (t := 3) (p := 15) (v := ?vo_w8) (w1 := (wr.setCell ⟨go5, (x5_1 : Int).toNat, none⟩ (.int .i64 x1_1))) ?hg ?ho ?hn ?hr ?_; (case ho => rfl); (case hg => rfl); (case hn => rfl); (case hr => first | (go_simp; done) | (go_simp; rfl)); intro w8 hw; have hg : wr.grownBy w8 (some go5) := (by rw [hw]; exact HP7.2); have hp_ : Kd.R (Kd.int .i64) 3 w8 w0.heap.size (fun k_ => (P0_ k_ ∨ w.heap.size ≤ k_)) (.slice (some ⟨go5, 0, none⟩) x0_1.length co6) y214 := (by rw [hw, Ny214.out]; exact HP7.1); clear HP7; have n0_ := aK (hp_); have n1_ := aK ((by rw [hw]; exact bSt (HB.out) GB5.out : Below w0.heap.size w0 w8)); have n2_ := aK (Kept.of_grown (S := (fun k_ => P0_ k_)) hg (by repeat (first | (with_reducible first | exact HK.out | apply Kept.alloc | apply Kept.drewN | apply Kept.drew) | exact HK.out)) (fun k_ e_ => (HO_0.out.1 k_ e_))); clear HO_0; clear HB; clear HK; have HO_0 := n0_; have HB := n1_; have HK := n2_; clear n0_ n1_ n2_; clear hg hw hp_))
     go_roundg k1
     case measure => have := HK1.out; omega
     case rel => exact ⟨(y214), (wrap64 (x1_1 + 1)), (wrap64 (x5_1 + 1)), (by first | rfl | (simp; done) | (simp [*]; done)), (by first | rfl | (simp; done) | (simp [*]; done)), H', ⟨by have := HK1.out; omega⟩, ⟨by (with_reducible repeat (first | apply Kd.R_alloc | apply Kd.R_drewN | apply Kd.R_drew)); exact HO_0.out⟩, ⟨by repeat (first | (with_reducible first | exact HK.out | apply Kept.alloc | apply Kept.drewN | apply Kept.drew) | exact HK.out)⟩, ⟨by repeat (first | (with_reducible first | exact HB.out | apply bAl | apply bDN | apply bD1) | exact HB.out)⟩⟩
    ·rw [if_neg c4] at H
     exact absurd H (by simp)
   ·rw [if_neg c3] at H
    have c3b0 : decide (x5_1 < (x0_1.length : Int)) = false := decide_eq_false c3
    clear c3
    simp only [Option.some.injEq, Prod.mk.injEq] at H
    obtain ⟨rfl, rfl⟩ := H
    obtain ⟨Ao9, co9, eo9⟩ := Kd.R_slice HO_0.out
    subst eo9
    go_wp2
    go_ret
    exact ⟨by first | rfl | (simp [errW_none, errW_some] <;> rfl) | (simp [*, errW_none, errW_some] <;> rfl), by (with_reducible repeat (first | apply Kd.R_alloc | apply Kd.R_drewN | apply Kd.R_drew)); exact HO_0.out, by repeat (first | (with_reducible first | exact HB.out | apply bAl | apply bDN | apply bD1) | exact HB.out), by repeat (first | (with_reducible first | exact HK.out | apply Kept.alloc | apply Kept.drewN | apply Kept.drew) | exact HK.out)⟩
set_option maxHeartbeats 8000000 in
set_option maxRecDepth 100000 in
theorem laws_heldIntS.calls (k : Nat) (A0 : Option Addr) (c0 : Nat) (l0 : List Int) (a1 : Int) (r : Int) (w : World) (hr0 : Kd.C (Kd.int .i64) w A0 l0.length l0) (hc0 : l0.length ≤ c0) (h : laws_heldIntS.f k l0 a1 = some r) :
  Calls Try.prog 24 #[.slice A0 l0.length c0, .int .i64 a1] w fun e w' => e = .returned (.int .i64 r) ∧ Drawn0 w w' := by
 have HR0 := aK hr0
 have HC0 := aK hc0
 clear hr0 hc0
 have H : (laws_heldIntS.l0 k l0 a1 0) = some r := h
 clear h
 have H' := aK H
 clear H
 go_enter Try.func24, Try.ntmps24
 go_wp2
 go_loopg [1, 5] k (fun kq v1 v5 w' => ∃ (x1_1 : Int) (x5_1 : Int), v1 = .int .i64 x1_1 ∧ v5 = .int .i64 x5_1 ∧ Aside0 (laws_heldIntS.l0 kq l0 x1_1 x5_1 = some r) ∧ Aside0 (kq ≤ k) ∧ Drawn0 w w')
 case atStart => exact ⟨(a1), (0), (by first | rfl | (simp; done) | (simp [*]; done)), (by first | rfl | (simp; done) | (simp [*]; done)), H', ⟨Nat.le_refl _⟩, by repeat (first | exact Drawn0.refl _ | apply Drawn0.step)⟩
 case round =>
  clear H'
  try clear c2
  try clear p2
  obtain ⟨x1_1, x5_1, rfl, rfl, HA, HK1, ⟨m1, rfl⟩⟩ := hrel
  cases gk with
  | zero => exact absurd HA.out (by simp [laws_heldIntS.l0])
  | succ k1 =>
   have H := HA.out
   clear HA
   simp only [laws_heldIntS.l0] at H
   by_cases c3 : x5_1 < (l0.length : Int)
   ·rw [if_pos c3] at H
    have c3b0 : decide (x5_1 < (l0.length : Int)) = true := decide_eq_true c3
    clear c3
    by_cases c4 : 0 ≤ x5_1
    ·rw [if_pos c4] at H
     have c4b0 : decide (0 ≤ x5_1) = true := decide_eq_true c4
     clear c4
     by_cases c5 : (rd l0 x5_1) = x1_1
     ·rw [if_pos c5] at H
      have c5b0 : ((rd l0 x5_1) == x1_1) = true := beq_iff_eq.mpr c5
      have c5b1 : ((rd l0 x5_1) != x1_1) = false := bne_eq_false_iff_eq.mpr c5
      clear c5
      have H' := aK H
      clear H
      have p215 : 0 ≤ (x5_1 : Int) := of_decide_eq_true (by first | (with_reducible assumption) | assumption)
      have q215 : x5_1 < (l0.length : Int) := of_decide_eq_true (by first | (with_reducible assumption) | assumption)
      obtain ⟨ad215, e215, hx215_0⟩ := Kd.at_int HR0.out x5_1 p215 q215
      cases e215
      replace p215 := eq_true p215
      replace q215 := eq_true q215
      go_wp2
      go_roundg k1
      case measure => have := HK1.out; omega
      case rel => exact ⟨(wrap64 (x1_1 + 1)), (wrap64 (x5_1 + 1)), (by first | rfl | (simp; done) | (simp [*]; done)), (by first | rfl | (simp; done) | (simp [*]; done)), H', ⟨by have := HK1.out; omega⟩, by repeat (first | exact Drawn0.refl _ | apply Drawn0.step)⟩
     ·rw [if_neg c5] at H
      have c5b0 : ((rd l0 x5_1) == x1_1) = false := beq_eq_false_iff_ne.mpr c5
      have c5b1 : ((rd l0 x5_1) != x1_1) = true := bne_iff_ne.mpr c5
      obtain rfl := Option.some.inj H
      have p215 : 0 ≤ (x5_1 : Int) := of_decide_eq_true (by first | (with_reducible assumption) | assumption)
      have q215 : x5_1 < (l0.length : Int) := of_decide_eq_true (by first | (with_reducible assumption) | assumption)
      obtain ⟨ad215, e215, hx215_0⟩ := Kd.at_int HR0.out x5_1 p215 q215
      cases e215
      replace p215 := eq_true p215
      replace q215 := eq_true q215
      go_wp2
      go_ret
      exact ⟨by first | rfl | (simp; done) | (simp [*]; done), by repeat (first | exact Drawn0.refl _ | apply Drawn0.step)⟩
    ·rw [if_neg c4] at H
     exact absurd H (by simp)
   ·rw [if_neg c3] at H
    have c3b0 : decide (x5_1 < (l0.length : Int)) = false := decide_eq_false c3
    clear c3
    obtain rfl := Option.some.inj H
    go_wp2
    go_ret
    exact ⟨by first | rfl | (simp; done) | (simp [*]; done), by repeat (first | exact Drawn0.refl _ | apply Drawn0.step)⟩
end Go.Proofs.Ytimejdhglmajdaa.F
end

section
namespace Go.Proofs.Ytimejdhglmajdaa.F
open Go.RowKit Go.Proofs.YtimejdhglmajdaaW.PrintWords Go.Proofs.YtimejdhglmajdaaW.PrintLast Go.Proofs.YtimejdhglmajdaaW.PrintMore
set_option linter.unusedVariables false
set_option linter.unusedSimpArgs false
def laws_FnExactRescueOrder.j0 : Nat → Int → List Int → List Int → List Int → Bool → Int → Int → Int → Option (Bool)
  | 0, _, _, _, _, _, _, _, _ => none
  | k + 1, x1, x2, x7, x9, x49, x762000, x762001, x762002 => if x49 = true then (some false) else ((laws_markIntS.f k x9 1).bind fun bt788 => ((laws_heldIntS.f k bt788.2 1).bind fun t790 => (if t790 < 0 then (some false) else (if t790 = bt788.1 then ((laws_toMaze.f x762000 x762001 x762002).bind fun bt791 => ((laws_toIntS.f k x2).bind fun t794 => ((impl_RescueOrder.f k bt791.1 bt791.2.1 bt791.2.2 x1 t794).bind fun t797 => ((laws_eqIntS.f k t797 x7).bind fun t800 => (if t800 = true then ((laws_heldIntS.f k bt788.2 1).bind fun t801 => (if t801 < 0 then (some false) else (if t801 = bt788.1 then (some true) else (some false)))) else (some false)))))) else (some false)))))
def laws_FnExactRescueOrder.f (k : Nat) (a0_0 : Int) (a0_1 : Int) (a0_2 : Int) (a1 : Int) (l2 : List Int) : Option (Bool) := if (l2.length : Int) > 1048576 then (some true) else ((laws_toMaze.f a0_0 a0_1 a0_2).bind fun bt762 => ((laws_toIntS.f k l2).bind fun t765 => ((spec_RescueOrder.f k bt762.1 bt762.2.1 bt762.2.2 a1 t765).bind fun t768 => ((laws_toIntS.f k l2).bind fun t771 => ((laws_toMaze.f a0_0 a0_1 a0_2).bind fun bt774 => ((impl_RescueOrder.f k bt774.1 bt774.2.1 bt774.2.2 a1 t771).bind fun t777 => ((laws_eqIntS.f k t777 t768).bind fun t780 => (if t780 = true then ((laws_toIntS.f k l2).bind fun t781 => ((laws_eqIntS.f k t771 t781).bind fun t784 => (if t784 = true then ((laws_markIntS.f k t771 1).bind fun bt785 => (if bt785.1 < 0 then (laws_FnExactRescueOrder.j0 k a1 l2 t768 t777 true a0_0 a0_1 a0_2) else ((laws_eqIntS.f k t777 t768).bind fun t787 => (laws_FnExactRescueOrder.j0 k a1 l2 t768 t777 (!t787) a0_0 a0_1 a0_2)))) else (some false)))) else (some false)))))))))
end Go.Proofs.Ytimejdhglmajdaa.F
end
