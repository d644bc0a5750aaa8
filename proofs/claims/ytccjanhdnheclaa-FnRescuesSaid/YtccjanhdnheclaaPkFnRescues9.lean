/- Packed by a program of the session (wip/tools/pack.py): what the claim's theorem reaches, of the texts that wip/ and the kit's printer lay. -/
import Derived.Test.YtccjanhdnheclaaPkFnRescues8
import Derived.Deep.RegionHeld3
import Derived.Laws.EntriesVeiled
section
namespace Go.Proofs.Ytccjanhdnheclaa.F
open Go.RowKit Go.Proofs.YtccjanhdnheclaaW.PrintWords Go.Proofs.YtccjanhdnheclaaW.PrintLast Go.Proofs.YtccjanhdnheclaaW.PrintMore
set_option linter.unusedVariables false
set_option linter.unusedSimpArgs false
attribute [local go_sem] max2_int min2_int max_two min_two
structure RSt (w : World) (n n1 : Nat) (a0 a1 a2 st : Int) (A2 : Option Addr) (c2 : Nat) (ts : List Int) (back : Bool) (W : World) (s : List Int × Int) : Prop where
  B : Below n w W
  m : W.heap[n]? = some (.cells #[.int .i64 a0, .int .i64 a1, .int .i64 a2] 30 (0, 0))
  st : W.heap[n + 1]? = some (.cells #[.int .i64 st] 3 (0, 0))
  t : W.heap[n + 2]? = some (.cells #[.slice A2 ts.length c2] 26 (0, 0))
  k : W.heap[n + 3]? = some (.cells #[.bool back] 4 (0, 0))
  b : ∃ v, W.heap[n1]? = some (.cells #[v] 26 (0, 0)) ∧ Kd.R (Kd.int .i64) 3 W (n1 + 3) (fun _ => True) v s.1
  l : W.heap[n1 + 1]? = some (.cells #[.int .i64 s.2] 3 (0, 0))
  y : W.heap[n1 + 2]? = some (.cells #[.func (.func 97) #[] #[.pointer (some ⟨n + 2, 0, none⟩), .pointer (some ⟨n + 3, 0, none⟩), .pointer (some ⟨n, 0, none⟩), .pointer (some ⟨n + 1, 0, none⟩), .pointer (some ⟨n1 + 1, 0, none⟩), .pointer (some ⟨n1, 0, none⟩), .pointer (some ⟨n1 + 2, 0, none⟩)]] 104 (0, 0))
  z : n1 + 3 ≤ W.heap.size
  q : n + 4 ≤ n1
theorem RSt.below {w : World} {n n1 : Nat} {a0 a1 a2 st : Int} {A2 : Option Addr} {c2 : Nat} {ts : List Int} {back : Bool} {W W1 : World} {s : List Int × Int} (h : RSt w n n1 a0 a1 a2 st A2 c2 ts back W s) (hb : Below W.heap.size W W1) : RSt w n n1 a0 a1 a2 st A2 c2 ts back W1 s := by
  have z := h.z
  have q := h.q
  obtain ⟨v, h1, h2⟩ := h.b
  exact ⟨h.B.trans (hb.mono (by omega)), (hb.block _ (by omega)).trans h.m, (hb.block _ (by omega)).trans h.st, (hb.block _ (by omega)).trans h.t, (hb.block _ (by omega)).trans h.k, ⟨v, (hb.block _ (by omega)).trans h1, Kd.R_below h2 hb⟩, (hb.block _ (by omega)).trans h.l, (hb.block _ (by omega)).trans h.y, Nat.le_trans z hb.size, q⟩
theorem RSt.cells {w : World} {n n1 : Nat} {a0 a1 a2 st : Int} {A2 : Option Addr} {c2 : Nat} {ts : List Int} {back : Bool} {W : World} {s : List Int × Int} (h : RSt w n n1 a0 a1 a2 st A2 c2 ts back W s) :
    W.cell? ⟨n, 0, none⟩ = some (.int .i64 a0) ∧ W.cell? ⟨n, 1, none⟩ = some (.int .i64 a1) ∧ W.cell? ⟨n, 2, none⟩ = some (.int .i64 a2) ∧ W.cell? ⟨n + 1, 0, none⟩ = some (.int .i64 st) ∧ W.cell? ⟨n + 2, 0, none⟩ = some (.slice A2 ts.length c2) ∧ W.cell? ⟨n + 3, 0, none⟩ = some (.bool back) ∧ W.cell? ⟨n1 + 1, 0, none⟩ = some (.int .i64 s.2) ∧ W.cell? ⟨n1 + 2, 0, none⟩ = some (.func (.func 97) #[] #[.pointer (some ⟨n + 2, 0, none⟩), .pointer (some ⟨n + 3, 0, none⟩), .pointer (some ⟨n, 0, none⟩), .pointer (some ⟨n + 1, 0, none⟩), .pointer (some ⟨n1 + 1, 0, none⟩), .pointer (some ⟨n1, 0, none⟩), .pointer (some ⟨n1 + 2, 0, none⟩)]) :=
  ⟨(kC h.m 0).trans rfl, (kC h.m 1).trans rfl, (kC h.m 2).trans rfl, (kC h.st 0).trans rfl, (kC h.t 0).trans rfl, (kC h.k 0).trans rfl, (kC h.l 0).trans rfl, (kC h.y 0).trans rfl⟩
theorem RSt.stores {w : World} {n n1 : Nat} {a0 a1 a2 st : Int} {A2 : Option Addr} {c2 : Nat} {ts : List Int} {back : Bool} {W : World} {s : List Int × Int} (h : RSt w n n1 a0 a1 a2 st A2 c2 ts back W s) {v : Value} {xs : List Int} (len : Int) (hR : Kd.R (Kd.int .i64) 3 W (n1 + 3) (fun _ => True) v xs) :
    RSt w n n1 a0 a1 a2 st A2 c2 ts back ((W.setCell ⟨n1, 0, none⟩ v).setCell ⟨n1 + 1, 0, none⟩ (.int .i64 len)) (xs, len) ∧ Kept W ((W.setCell ⟨n1, 0, none⟩ v).setCell ⟨n1 + 1, 0, none⟩ (.int .i64 len)) (fun k => k = n1 + 1 ∨ k = n1) := by
  have z := h.z
  have q := h.q
  obtain ⟨u, h1, _⟩ := h.b
  have hl := h.l
  have far : ∀ i, i ≠ n1 → i ≠ n1 + 1 → ((W.setCell ⟨n1, 0, none⟩ v).setCell ⟨n1 + 1, 0, none⟩ (.int .i64 len)).heap[i]? = W.heap[i]? := fun i h2 h3 => (Below.heap_setCell _ ⟨n1 + 1, 0, none⟩ _ i h3).trans (Below.heap_setCell W ⟨n1, 0, none⟩ _ i h2)
  have sz : ((W.setCell ⟨n1, 0, none⟩ v).setCell ⟨n1 + 1, 0, none⟩ (.int .i64 len)).heap.size = W.heap.size := by simp [World.setCell]
  have p1 : (W.setCell ⟨n1, 0, none⟩ v).heap[n1]? = some (.cells #[v] 26 (0, 0)) := blk_put (cs := #[u]) h1 0 v (by simp)
  have p2 : (W.setCell ⟨n1, 0, none⟩ v).heap[n1 + 1]? = some (.cells #[.int .i64 s.2] 3 (0, 0)) := (Below.heap_setCell W ⟨n1, 0, none⟩ _ _ (by simp)).trans hl
  refine ⟨⟨⟨h.B.os, h.B.tape, h.B.output, by rw [sz]; exact h.B.size, fun i hi => (far i (by omega) (by omega)).trans (h.B.block i hi)⟩, (far _ (by omega) (by omega)).trans h.m, (far _ (by omega) (by omega)).trans h.st, (far _ (by omega) (by omega)).trans h.t, (far _ (by omega) (by omega)).trans h.k, ⟨v, ?_, ?_⟩, ?_, (far _ (by omega) (by omega)).trans h.y, by rw [sz]; exact z, q⟩, by rw [sz]; exact Nat.le_refl _, fun i hi hn => far i (fun e => hn (.inr e)) (fun e => hn (.inl e))⟩
  · exact (Below.heap_setCell _ ⟨n1 + 1, 0, none⟩ _ _ (by simp)).trans p1
  · exact R_set_far (R_set_far hR (by omega) v) (by omega) _
  · exact blk_put (cs := #[.int .i64 s.2]) p2 0 _ (by simp)
theorem RSt.start {w w2 : World} {n : Nat} {a0 a1 a2 st : Int} {A2 : Option Addr} {c2 : Nat} {ts : List Int} {back : Bool} (hB : Below n w w2) (hm : w2.heap[n]? = some (.cells #[.int .i64 a0, .int .i64 a1, .int .i64 a2] 30 (0, 0))) (hst : w2.heap[n + 1]? = some (.cells #[.int .i64 st] 3 (0, 0))) (ht : w2.heap[n + 2]? = some (.cells #[.slice A2 ts.length c2] 26 (0, 0))) (hk : w2.heap[n + 3]? = some (.cells #[.bool back] 4 (0, 0))) (hq : n + 4 ≤ w2.heap.size) :
    RSt w n w2.heap.size a0 a1 a2 st A2 c2 ts back (((w2.alloc (.cells #[.slice none 0 0] 26)).alloc (.cells #[.int .i64 (-1)] 3)).alloc (.cells #[.func (.func 97) #[] #[.pointer (some ⟨n + 2, 0, none⟩), .pointer (some ⟨n + 3, 0, none⟩), .pointer (some ⟨n, 0, none⟩), .pointer (some ⟨n + 1, 0, none⟩), .pointer (some ⟨w2.heap.size + 1, 0, none⟩), .pointer (some ⟨w2.heap.size, 0, none⟩), .pointer (some ⟨w2.heap.size + 2, 0, none⟩)]] 104)) ([], -1) := by
  have b3 := ((Below.refl w2.heap.size w2).alloc (Nat.le_refl _) (.cells #[.slice none 0 0] 26)).alloc (by simp) (.cells #[.int .i64 (-1)] 3)
  refine ⟨hB.trans ((b3.alloc (by simp; omega) _).mono (by omega)), kA (kA (kA hm _) _) _, kA (kA (kA hst _) _) _, kA (kA (kA ht _) _) _, kA (kA (kA hk _) _) _, ⟨_, kA (kA (heap_alloc_new w2 _) _) _, Kd.R_nil _ _ _ _ _⟩, kA (heap_new2 w2 _ _) _, heap_new3 w2 _ _ _, by simp, hq⟩
theorem one_row (W : World) (A : Addr) (x : Int) (hA : W.cell? A = some (.int .i64 x)) : Kd.C (Kd.int .i64) W (some A) 1 [x] :=
  Kd.C_of_reads (d := (0 : Int)) (h1 := fun _ => rfl) ⟨rfl, by simp, fun _ => ⟨A, rfl, fun j hj => by
    obtain rfl : j = 0 := by omega
    rw [show A.add 0 = A from by unfold Addr.add; split <;> simp_all]
    exact hA⟩⟩
theorem R_k2 {W W2 : World} {base p q e : Nat} {v : Value} {xs : List Int} (h : Kd.R (Kd.int .i64) e W base (fun _ => True) v xs) (hk : Kept W W2 (fun k => k = p ∨ k = q)) (h1 : p < base) (h2 : q < base) : Kd.R (Kd.int .i64) e W2 base (fun _ => True) v xs :=
  Kd.R_mono (Kd.R_kept (Kd.R_bound h) hk (fun k hk => by have := hk.2.1; omega)) (fun _ _ => trivial)
set_option maxHeartbeats 8000000 in
set_option maxRecDepth 100000 in
theorem impl_rescue_1.calls (w : World) (n n1 : Nat) (a0 a1 a2 st : Int) (A2 : Option Addr) (c2 : Nat) (ts : List Int) (back : Bool) (hr2 : Kd.C (Kd.int .i64) w A2 ts.length ts) (hc2 : ts.length ≤ c2) (hn : w.heap.size = n) (ht5 : ts.length ≤ 5) : ∀ (k : Nat) (order : List Int) (at_ len : Int) (s s' : List Int × Int), impl_rescue.l0 a0 a1 a2 ts st back k order at_ len s = some s' →
  ∀ (W : World) (A0 : Option Addr) (c0 : Nat), RSt w n n1 a0 a1 a2 st A2 c2 ts back W s → Kd.R (Kd.int .i64) 3 W (n1 + 3) (fun _ => True) (.slice A0 order.length c0) order →
  Calls Try.prog 97 #[.slice A0 order.length c0, .int .i64 at_, .int .i64 len, .pointer (some ⟨n + 2, 0, none⟩), .pointer (some ⟨n + 3, 0, none⟩), .pointer (some ⟨n, 0, none⟩), .pointer (some ⟨n + 1, 0, none⟩), .pointer (some ⟨n1 + 1, 0, none⟩), .pointer (some ⟨n1, 0, none⟩), .pointer (some ⟨n1 + 2, 0, none⟩)] W fun e w' => e = .returned (.tuple #[]) ∧ RSt w n n1 a0 a1 a2 st A2 c2 ts back w' s' ∧ Kept W w' (fun k => k = n1 + 1 ∨ k = n1) := by
 intro k
 induction k with
 | zero => intro order at_ len s s' h; exact absurd h (by simp [impl_rescue.l0])
 | succ k ih =>
  intro order at_ len s s' h W A0 c0 hS hO
  rw [impl_rescue.l0] at h
  have hu := Try.underlying30
  by_cases q5 : 5 < order.length
  ·rw [if_pos q5] at h; exact absurd h (by simp)
  rw [if_neg q5] at h
  have Q5 := aK q5
  have hO' := Kd.R_reads' hO
  have HC := aK hO'.2.2
  have HCC := aK hO'.2.1
  have HS := aK hS
  have HO := aK hO
  have HR2 := aK hr2
  have HN := aK hn
  have HT5 := aK ht5
  clear hO' hO hS q5
  obtain ⟨x0, x1, x2, x3, x4, x5, x6, x7⟩ := HS.out.cells
  by_cases qe : order.length = ts.length
  ·rw [if_pos qe] at h
   obtain ⟨len2, hl, hs⟩ := Option.bind_eq_some_iff.mp h
   clear h
   have hs := Option.some.inj hs
   have e1 : ((order.length : Int) == (ts.length : Int)) = true := by simp [qe]
   have QE := aK qe
   have HCL : slices_Clone_int.f order = some order := by unfold slices_Clone_int.f; rw [if_pos (by have := Q5.out; omega)]
   have HCN := fun (w1 : World) (hb : Below W.heap.size W w1) => slices_Clone_int.calls A0 c0 order order w1 (Kd.C_below HC.out hb) HCC.out HCL
   clear qe HCL
   have RET : ∀ (W1 : World), Below W.heap.size W W1 → RSt w n n1 a0 a1 a2 st A2 c2 ts back W1 s ∧ Kept W W1 (fun k => k = n1 + 1 ∨ k = n1) := fun W1 hb => ⟨HS.out.below hb, Kept.of_below hb _⟩
   have HRET := aK RET
   clear RET
   by_cases qc : s.2 < 0 ∨ len2 < s.2
   ·rw [if_pos qc] at hs
    obtain rfl := hs
    cases back with
    | true =>
     rw [if_pos rfl] at hl
     obtain ⟨d, hd, hl⟩ := Option.bind_eq_some_iff.mp hl
     obtain rfl := Option.some.inj hl
     have c1 : (decide (s.2 < 0) || decide (wrap64 (len + d) < s.2)) = true := by simpa using qc
     clear qc hl
     go_enter Try.func97, Try.ntmps97
     go_wp2_with (first | (go_at_call 98; refine (impl_DistanceOf.calls 1000 a0 a1 a2 at_ st d _ hd).mono ?_; rintro e w1 ⟨rfl, hb⟩; have HB1 := aK hb; have HS1 := aK (HS.out.below hb); obtain ⟨y0, y1, y2, y3, y4, y5, y6, y7⟩ := HS1.out.cells; clear hb) | (go_at_call 99; refine (HCN _ HB1.out).mono ?_; rintro e w2 ⟨v2, rfl, hR2, hb⟩; obtain ⟨Av, cv, rfl⟩ := Kd.R_slice hR2; have HB2 := aK hb; have HS2 := aK (HS1.out.below hb); have HR3 := aK (Kd.R_lower hR2 HS1.out.z); obtain ⟨u0, h1, _⟩ := HS2.out.b; have z0 : w2.cell? ⟨n1, 0, none⟩ = some u0 := (kC h1 0).trans rfl; have z1 := kF h1 0; have z2 := kF HS2.out.l 0; obtain ⟨_, _, _, _, _, _, u6, _⟩ := HS2.out.cells; clear hb hR2 h1))
     all_goals (refine bodyPost_ret (results_none rfl _ _ _) rfl ?_; exact ⟨rfl, (HS2.out.stores _ HR3.out).1, (Kept.of_below (HB1.out.trans (HB2.out.mono HB1.out.size)) _).then_ (HS2.out.stores _ HR3.out).2 (fun _ hk => .inl hk)⟩)
    | false =>
     rw [if_neg Bool.false_ne_true] at hl
     obtain rfl := Option.some.inj hl
     have c1 : (decide (s.2 < 0) || decide (len < s.2)) = true := by simpa using qc
     clear qc hl
     have HB1 := aK (Below.refl W.heap.size W)
     have HS1 := HS
     go_enter Try.func97, Try.ntmps97
     go_wp2_with (first | (go_at_call 99; refine (HCN _ HB1.out).mono ?_; rintro e w2 ⟨v2, rfl, hR2, hb⟩; obtain ⟨Av, cv, rfl⟩ := Kd.R_slice hR2; have HB2 := aK hb; have HS2 := aK (HS1.out.below hb); have HR3 := aK (Kd.R_lower hR2 HS1.out.z); obtain ⟨u0, h1, _⟩ := HS2.out.b; have z0 : w2.cell? ⟨n1, 0, none⟩ = some u0 := (kC h1 0).trans rfl; have z1 := kF h1 0; have z2 := kF HS2.out.l 0; obtain ⟨_, _, _, _, _, _, u6, _⟩ := HS2.out.cells; clear hb hR2 h1))
     all_goals (refine bodyPost_ret (results_none rfl _ _ _) rfl ?_; exact ⟨rfl, (HS2.out.stores _ HR3.out).1, (Kept.of_below HB2.out _).then_ (HS2.out.stores _ HR3.out).2 (fun _ hk => .inl hk)⟩)
   ·rw [if_neg qc] at hs
    obtain rfl := hs
    have qc1 : ¬ s.2 < 0 := fun e => qc (.inl e)
    have qc2 : ¬ len2 < s.2 := fun e => qc (.inr e)
    have c1 : decide (s.2 < 0) = false := decide_eq_false qc1
    have c2 : decide (len2 < s.2) = false := decide_eq_false qc2
    clear qc qc1 qc2
    cases back with
    | true =>
     rw [if_pos rfl] at hl
     obtain ⟨d, hd, hl⟩ := Option.bind_eq_some_iff.mp hl
     obtain rfl := Option.some.inj hl
     clear hl
     go_enter Try.func97, Try.ntmps97
     go_wp2_with (first | (go_at_call 98; refine (impl_DistanceOf.calls 1000 a0 a1 a2 at_ st d _ hd).mono ?_; rintro e w1 ⟨rfl, hb⟩; have HB1 := aK hb; have HS1 := aK (HS.out.below hb); obtain ⟨y0, y1, y2, y3, y4, y5, y6, y7⟩ := HS1.out.cells; clear hb))
     all_goals (refine bodyPost_ret (results_none rfl _ _ _) rfl ?_; exact ⟨rfl, HRET.out _ HB1.out⟩)
    | false =>
     rw [if_neg Bool.false_ne_true] at hl
     obtain rfl := Option.some.inj hl
     clear hl
     go_enter Try.func97, Try.ntmps97
     go_wp2
     all_goals (refine bodyPost_ret (results_none rfl _ _ _) rfl ?_; exact ⟨rfl, HRET.out _ (Below.refl _ _)⟩)
  ·rw [if_neg qe] at h
   have e1 : ((order.length : Int) == (ts.length : Int)) = false := by simp; omega
   have HF := aK h
   clear h qe
   go_enter Try.func97, Try.ntmps97
   go_wp2
   go_loopg [40] ts.length (fun gk v40 wr => ∃ (kk : Nat) (sk : List Int × Int), v40 = .int .i64 kk ∧ Aside0 (kk ≤ ts.length) ∧ Aside0 (ts.length - kk ≤ gk) ∧ Aside0 (foldO (fun (i : Nat) s => (impl_DistanceOf.f 1000 a0 a1 a2 at_ (rd ts i)).bind fun d => if 0 ≤ d then (slices_Contains_int.f 1000 order i).bind fun b => if b = true then some s else impl_rescue.l0 a0 a1 a2 ts st back k (order ++ [(i : Int)]) (rd ts i) (wrap64 (len + d)) s else some s) (ts.length - kk) kk sk = some s') ∧ Aside0 (RSt w n n1 a0 a1 a2 st A2 c2 ts back wr sk) ∧ Aside0 (Kept W wr (fun k => k = n1 + 1 ∨ k = n1)))
   case atStart => exact ⟨0, s, rfl, ⟨Nat.zero_le _⟩, ⟨by omega⟩, HF, HS, ⟨Kept.refl _ _⟩⟩
   case round =>
    clear HF HS x0 x1 x2 x3 x4 x5 x6 x7 e1
    obtain ⟨kk, sk, rfl, HK, HG, HF, HS, HKP⟩ := hrel
    obtain ⟨x0, x1, x2, x3, x4, x5, x6, x7⟩ := HS.out.cells
    by_cases hlt : kk < ts.length
    ·have hltz : (kk : Int) < (ts.length : Int) := by omega
     have hz : (0 : Int) ≤ (kk : Int) := by omega
     have HBW := aK (show Below w.heap.size w wr by have := HS.out.B; rw [← HN.out] at this; exact this)
     obtain ⟨ad, rfl, hx⟩ := Kd.at_int (Kd.C_below HR2.out HBW.out) (kk : Int) hz hltz
     rw [Int.toNat_natCast] at hx
     have hF := HF.out
     rw [show ts.length - kk = (ts.length - (kk + 1)) + 1 by omega] at hF
     simp only [foldO] at hF
     obtain ⟨sn, h1, h2⟩ := Option.bind_eq_some_iff.mp hF
     obtain ⟨d, hd, h1⟩ := Option.bind_eq_some_iff.mp h1
     have HF2 := aK h2
     have HOr := aK (R_k2 HO.out HKP.out (by omega) (by omega))
     have HCr := aK (Kd.R_reads' HOr.out).2.2
     obtain ⟨tk, htk⟩ : ∃ tk, tk = rd ts (kk : Int) := ⟨_, rfl⟩
     rw [← htk] at hx hd h1
     have HTK := aK htk
     have HLT := aK hlt
     clear hF h2 HF hlt htk
     by_cases hd0 : 0 ≤ d
     ·rw [if_pos hd0] at h1
      obtain ⟨b, hcon, h1⟩ := Option.bind_eq_some_iff.mp h1
      have dge : decide (d ≥ 0) = true := decide_eq_true hd0
      have HCON := fun (W1 : World) (hb : Below wr.heap.size wr W1) => (slices_Contains_int.calls 1000 A0 c0 order (kk : Int) b W1 (Kd.C_below HCr.out hb) HCC.out hcon).mono (fun _ _ hh => And.intro hh.1 hh.2.below)
      clear hd0
      cases b with
      | true =>
       rw [if_pos rfl] at h1
       obtain rfl := Option.some.inj h1
       go_wp2_with (first | (go_at_call 98; refine (impl_DistanceOf.calls 1000 a0 a1 a2 at_ tk d _ hd).mono ?_; rintro e w1 ⟨rfl, hb⟩; have HB1 := aK hb; clear hb) | (go_at_call 100; refine (HCON _ HB1.out).mono ?_; rintro e w2 ⟨rfl, hb⟩; have HB2 := aK (HB1.out.trans (hb.mono HB1.out.size)); clear hb))
       go_roundg (ts.length - (kk + 1))
       case measure => have h1 := HG.out; have h2 := HLT.out; omega
       case rel => exact ⟨kk + 1, sk, by go_num, ⟨HLT.out⟩, ⟨Nat.le_refl _⟩, HF2, ⟨HS.out.below HB2.out⟩, ⟨HKP.out.below HB2.out⟩⟩
      | false =>
       rw [if_neg Bool.false_ne_true] at h1
       have HREC := aK h1
       go_wp2_with (first | (go_at_call 98; refine (impl_DistanceOf.calls 1000 a0 a1 a2 at_ tk d _ hd).mono ?_; rintro e w1 ⟨rfl, hb⟩; have HB1 := aK hb; clear hb) | (go_at_call 100; refine (HCON _ HB1.out).mono ?_; rintro e w2 ⟨rfl, hb⟩; have HB2 := aK (HB1.out.trans (hb.mono HB1.out.size)); have HS2 := aK (HS.out.below HB2.out); have y7 := HS2.out.cells.2.2.2.2.2.2.2; clear hb))
       have HCL : slices_Clone_int.f order = some order := by unfold slices_Clone_int.f; rw [if_pos (by have := Q5.out; omega)]
       have HCLL := aK HCL
       have eg : ∀ args w, (callFunc 97 args).run Try.prog w = .ok (.enter 97 args) w := enters_of Try.func97 (by kernel_rfl) rfl
       clear HCL h1 dge hcon HCON x0 x1 x2 x3 x4 x5 x6 x7 hx
       go_region_held3 (fun w' => w'.cell? ⟨n1 + 2, 0, none⟩ = some (.func (.func 97) #[] #[.pointer (some ⟨n + 2, 0, none⟩), .pointer (some ⟨n + 3, 0, none⟩), .pointer (some ⟨n, 0, none⟩), .pointer (some ⟨n + 1, 0, none⟩), .pointer (some ⟨n1 + 1, 0, none⟩), .pointer (some ⟨n1, 0, none⟩), .pointer (some ⟨n1 + 2, 0, none⟩)])) (first | go_keep | exact HS6.out.cells.2.2.2.2.2.2.2 | exact HS5.out.cells.2.2.2.2.2.2.2 | exact (HS2.out.below HB3.out).cells.2.2.2.2.2.2.2)
        (first
         | (go_at_call 99; refine (slices_Clone_int.calls A0 c0 order order _ (by repeat (first | exact Kd.C_below HCr.out HB2.out | (with_reducible refine Kd.C_alloc ?_ _) | (with_reducible refine Kd.C_drewN ?_ _) | (with_reducible refine Kd.C_drew ?_))) HCC.out HCLL.out).mono ?_; rintro e w3 ⟨v3, rfl, hR3, hb3⟩; obtain ⟨Av, cv, rfl⟩ := Kd.R_slice hR3; have HR3 := aK hR3; have HB3' := aK hb3; have HB3 := aK (bSp (w := w2) (by repeat (first | exact Below.refl _ _ | apply bAl | apply bDN | apply bD1)) hb3); clear hR3 hb3)
         | (go_at_fn 97; have q_ := ih _ _ _ _ _ HREC.out _ A5 c5 HS5.out HR5.out; rw [← i64_w, List.length_append, List.length_singleton] at q_; refine q_.mono ?_; clear q_; rintro e w6 ⟨rfl, hs6, hk6⟩; have HS6 := aK hs6; have HK6 := aK hk6; clear hs6 hk6)
         | (refine Kd.R_append_rows_step (Kd.int .i64) (w0 := w2) w2.heap.size (by rfl) (.tmp 59) (.tmp 61) 26 3 (.int .i64 0) 8 rfl Try.underlying26 info3 rfl (by decide) (by omega) (.slice Av order.length cv) order [(kk : Int)] _ _ _ (fun _ => True) (fun _ => False) rfl rfl (Kd.R_lower (base' := w2.heap.size) (zA HR3) (by first | exact Nat.le_refl _ | (simp; done) | exact Nat.le_succ _)) (one_row _ _ _ (by first | exact (kC (heap_alloc_new _ _) 0).trans rfl | exact (kC ((HB3'.out.block _ (by simp)).trans (heap_alloc_new _ _)) 0).trans rfl)) (fun _ _ h => h) (fun _ h => h.elim) (fun _ _ => trivial) (by repeat (first | exact HB3.out | apply bAl | apply bDN | apply bD1)) (bSz (by repeat (first | exact HB3.out | apply bAl | apply bDN | apply bD1))) (by have := Q5.out; omega) ?_; intro v5 w5 ho5 hb5 hg5 hat5; obtain ⟨A5, c5, rfl⟩ := Kd.R_slice ho5; have HR5 := aK (Kd.R_lower ho5 HS2.out.z); have HB5 := aK hb5; have HS5 := aK (HS2.out.below hb5); clear ho5 hb5 hg5 hat5))
       all_goals
        go_wp2
        go_roundg (ts.length - (kk + 1))
        case measure => have h1 := HG.out; have h2 := HLT.out; omega
        case rel => exact ⟨kk + 1, sn, by go_num, ⟨HLT.out⟩, ⟨Nat.le_refl _⟩, HF2, HS6, ⟨((HKP.out.below HB2.out).below HB5.out).then_ HK6.out (fun _ hk => .inl hk)⟩⟩
     ·rw [if_neg hd0] at h1
      obtain rfl := Option.some.inj h1
      have dge : decide (d ≥ 0) = false := decide_eq_false hd0
      clear hd0
      go_wp2_with (first | (go_at_call 98; refine (impl_DistanceOf.calls 1000 a0 a1 a2 at_ tk d _ hd).mono ?_; rintro e w1 ⟨rfl, hb⟩; have HB1 := aK hb; clear hb))
      go_roundg (ts.length - (kk + 1))
      case measure => have h1 := HG.out; have h2 := HLT.out; omega
      case rel => exact ⟨kk + 1, sk, by go_num, ⟨HLT.out⟩, ⟨Nat.le_refl _⟩, HF2, ⟨HS.out.below HB1.out⟩, ⟨HKP.out.below HB1.out⟩⟩
    ·have hltz : ¬ (kk : Int) < (ts.length : Int) := by omega
     have hkk : ts.length - kk = 0 := by omega
     have hF := HF.out
     rw [hkk] at hF
     obtain rfl := Option.some.inj hF
     clear hF hkk HF
     go_wp2
     go_end0
     exact ⟨rfl, HS.out, HKP.out⟩
theorem heap_new4 (w : World) (o1 o2 o3 o4 : Obj) : ((((w.alloc o1).alloc o2).alloc o3).alloc o4).heap[w.heap.size + 3]? = some o4 := by
  have := heap_new3 (w.alloc o1) o2 o3 o4
  rw [show (w.alloc o1).heap.size = w.heap.size + 1 by simp] at this
  exact this
set_option maxHeartbeats 4000000 in
set_option maxRecDepth 100000 in
theorem impl_rescue.calls (a0_0 a0_1 a0_2 a1 : Int) (A2 : Option Addr) (c2 : Nat) (l2 : List Int) (a3 : Bool) (r1 : List Int) (r2 : Int) (w : World) (hr2 : Kd.C (Kd.int .i64) w A2 l2.length l2) (hc2 : l2.length ≤ c2) (h : impl_rescue.f a0_0 a0_1 a0_2 a1 l2 a3 = some (r1, r2)) :
  Calls Try.prog 66 #[.agg #[.int .i64 a0_0, .int .i64 a0_1, .int .i64 a0_2], .int .i64 a1, .slice A2 l2.length c2, .bool a3] w fun e w' => ∃ v0_ : Value, e = .returned (.tuple #[v0_, .int .i64 r2]) ∧ Kd.R (Kd.int .i64) 3 w' w.heap.size (fun _ => True) v0_ r1 ∧ Below w.heap.size w w' := by
 have hu := Try.underlying30
 have hul := Try.underlying26
 have huf := Try.underlying104
 have HR2 := aK hr2
 have HC2 := aK hc2
 clear hr2 hc2
 obtain ⟨b, hm, H⟩ := Option.bind_eq_some_iff.mp h
 clear h
 have HI := fun (W : World) (A : Addr) (hA : W.cell? A = some (.int .i64 a1)) => impl_isIn.calls a0_0 a0_1 a0_2 (some A) 1 [a1] b W (one_row W A a1 hA) (Nat.le_refl 1) hm
 simp only [List.length_singleton] at HI
 obtain ⟨w0, hw0⟩ : ∃ w0 : World, w0 = (((w.alloc (.cells #[.int .i64 a0_0, .int .i64 a0_1, .int .i64 a0_2] 30)).alloc (.cells #[.int .i64 a1] 3)).alloc (.cells #[.slice A2 l2.length c2] 26)).alloc (.cells #[.bool a3] 4) := ⟨_, rfl⟩
 have HB0 := aK (show Below w.heap.size w w0 by rw [hw0]; exact ((((Below.refl _ w).alloc (Nat.le_refl _) _).alloc (by simp) _).alloc (by simp; omega) _).alloc (by simp; omega) _)
 have K0 := aK (show w0.heap[w.heap.size]? = some (.cells #[.int .i64 a0_0, .int .i64 a0_1, .int .i64 a0_2] 30 (0, 0)) by rw [hw0]; exact kA (kA (kA (heap_alloc_new w _) _) _) _)
 have K1 := aK (show w0.heap[w.heap.size + 1]? = some (.cells #[.int .i64 a1] 3 (0, 0)) by rw [hw0]; exact kA (kA (heap_new2 w _ _) _) _)
 have K2 := aK (show w0.heap[w.heap.size + 1 + 1]? = some (.cells #[.slice A2 l2.length c2] 26 (0, 0)) by rw [hw0]; exact kA (heap_new3 w _ _ _) _)
 have K3 := aK (show w0.heap[w.heap.size + 3]? = some (.cells #[.bool a3] 4 (0, 0)) by rw [hw0]; exact heap_new4 _ _ _ _ _)
 have SZ := aK (show w0.heap.size = w.heap.size + 4 by rw [hw0]; simp)
 have HW := aK hw0
 clear hw0
 have HCL := aK (show ∀ W : World, Below w0.heap.size w0 W → W.cell? ⟨w.heap.size, 0, none⟩ = some (.int .i64 a0_0) ∧ W.cell? ⟨w.heap.size, 1, none⟩ = some (.int .i64 a0_1) ∧ W.cell? ⟨w.heap.size, 2, none⟩ = some (.int .i64 a0_2) ∧ W.cell? ⟨w.heap.size + 1, 0, none⟩ = some (.int .i64 a1) ∧ W.cell? ⟨w.heap.size + 2, 0, none⟩ = some (.slice A2 l2.length c2) from fun W hb =>
  ⟨(kC ((hb.block _ (by have := SZ.out; omega)).trans K0.out) 0).trans rfl, (kC ((hb.block _ (by have := SZ.out; omega)).trans K0.out) 1).trans rfl, (kC ((hb.block _ (by have := SZ.out; omega)).trans K0.out) 2).trans rfl, (kC ((hb.block _ (by have := SZ.out; omega)).trans K1.out) 0).trans rfl, (kC ((hb.block _ (by have := SZ.out; omega)).trans K2.out) 0).trans rfl⟩)
 cases b with
 | false =>
  rw [if_neg Bool.false_ne_true] at H
  obtain ⟨rfl, rfl⟩ := Prod.mk.inj (Option.some.inj H)
  go_enter Try.func66, Try.ntmps66
  go_wp2_with (go_at_call 61; rw [← HW.out]; refine (HI _ _ ?hA).mono ?_; (case hA => have e_ := heap_alloc_new w0 (Obj.cells #[.int .i64 a1] 3); rw [SZ.out] at e_; exact (kC e_ 0).trans rfl); rintro e w' ⟨rfl, hb⟩; have HB := aK hb; clear hb)
  go_ret2
  exact ⟨_, rfl, Kd.R_nil _ _ _ _ _, (HB0.out.alloc HB0.out.size _).trans (HB.out.mono (by have := SZ.out; simp; omega))⟩
 | true =>
  rw [if_pos rfl] at H
  obtain ⟨c, hs, H2⟩ := Option.bind_eq_some_iff.mp H
  clear H
  have HI2 := fun (W : World) (hb : Below w.heap.size w W) => impl_isIn.calls a0_0 a0_1 a0_2 A2 c2 l2 c W (Kd.C_below HR2.out hb) HC2.out hs
  by_cases q : c = true ∧ l2.length ≤ 5
  ·obtain ⟨rfl, q5⟩ := q
   rw [if_pos rfl, if_pos q5] at H2
   have q5b : decide ((l2.length : Int) > 5) = false := decide_eq_false (by omega)
   have HREC := aK H2
   have eg : ∀ args w, (callFunc 97 args).run Try.prog w = .ok (.enter 97 args) w := enters_of Try.func97 (by kernel_rfl) rfl
   have HQ5 := aK q5
   clear H2 q5
   go_enter Try.func66, Try.ntmps66
   go_wp2_with (first
    | (go_at_call 61; rw [← HW.out]; refine (HI _ _ ?hA).mono ?_; (case hA => have e_ := heap_alloc_new w0 (Obj.cells #[.int .i64 a1] 3); rw [SZ.out] at e_; exact (kC e_ 0).trans rfl); rintro e w1 ⟨rfl, hb⟩; have HB1 := aK (show Below w0.heap.size w0 w1 from ((Below.refl _ w0).alloc (Nat.le_refl _) _).trans (hb.mono (by simp))); obtain ⟨y0, y1, y2, y3, y4⟩ := HCL.out w1 HB1.out; clear hb)
    | (go_at_call 61; refine (HI2 _ (HB0.out.trans (HB1.out.mono HB0.out.size))).mono ?_; rintro e w2 ⟨rfl, hb⟩; have HB2 := aK (HB1.out.trans (hb.mono HB1.out.size)); have z3 := fun (o1 o2 o3 : Obj) => (kC (kA (kA (kA ((HB2.out.block _ (by have := SZ.out; omega)).trans K1.out) o1) o2) o3) 0).trans rfl; obtain ⟨y0, y1, y2, y3, y4⟩ := HCL.out w2 HB2.out; have HST := aK (RSt.start (w := w) (n := w.heap.size) (HB0.out.trans (HB2.out.mono HB0.out.size)) ((HB2.out.block _ (by have := SZ.out; omega)).trans K0.out) ((HB2.out.block _ (by have := SZ.out; omega)).trans K1.out) ((HB2.out.block _ (by have := SZ.out; omega)).trans K2.out) ((HB2.out.block _ (by have := SZ.out; omega)).trans K3.out) (by have h1 := SZ.out; have h2 := HB2.out.size; omega)); clear hb)
    | (go_at_fn 97; refine (impl_rescue_1.calls w w.heap.size w2.heap.size a0_0 a0_1 a0_2 a1 A2 c2 l2 a3 HR2.out HC2.out rfl HQ5.out 7 [] a1 0 ([], -1) (r1, r2) HREC.out _ none 0 HST.out (Kd.R_nil _ _ _ _ _)).mono ?_; rintro e w3 ⟨rfl, hs3, hk3⟩; have HS3 := aK hs3; have HK3 := aK hk3; clear hs3 hk3; obtain ⟨vb, hb1, hb2⟩ := HS3.out.b; obtain ⟨Ab, cb, rfl⟩ := Kd.R_slice hb2; have HRB := aK hb2; have b0 : w3.cell? ⟨w2.heap.size, 0, none⟩ = some (.slice Ab r1.length cb) := (kC hb1 0).trans rfl; have b1 : w3.cell? ⟨w2.heap.size + 1, 0, none⟩ = some (.int .i64 r2) := (kC HS3.out.l 0).trans rfl; clear hb1 hb2))
   go_region_held3 (fun w' => w'.cell? ⟨w2.heap.size, 0, none⟩ = some (.slice Ab r1.length cb) ∧ w'.cell? ⟨w2.heap.size + 1, 0, none⟩ = some (.int .i64 r2)) (go_keep) (fail)
   all_goals
    go_wp2
    go_ret2
    exact ⟨_, rfl, Kd.R_lower (Kd.R_drew HRB.out) (by have h1 := SZ.out; have h2 := HB2.out.size; omega), bD1 HS3.out.B⟩
  ·have H3 : r1 = [] ∧ r2 = -1 := by
    cases c with
    | false => rw [if_neg Bool.false_ne_true] at H2; obtain ⟨h1, h2⟩ := Prod.mk.inj (Option.some.inj H2); exact ⟨h1.symm, h2.symm⟩
    | true => rw [if_pos rfl, if_neg (fun e => q ⟨rfl, e⟩)] at H2; obtain ⟨h1, h2⟩ := Prod.mk.inj (Option.some.inj H2); exact ⟨h1.symm, h2.symm⟩
   obtain ⟨rfl, rfl⟩ := H3
   have q5b : (!c || decide ((l2.length : Int) > 5)) = true := by
    cases c with
    | false => rfl
    | true => exact decide_eq_true (by have : ¬ l2.length ≤ 5 := fun e => q ⟨rfl, e⟩; omega)
   clear H2 q
   cases c
   all_goals simp only [Bool.not_true, Bool.not_false, Bool.false_or] at q5b
   all_goals
    go_enter Try.func66, Try.ntmps66
    go_wp2_with (first
     | (go_at_call 61; rw [← HW.out]; refine (HI _ _ ?hA).mono ?_; (case hA => have e_ := heap_alloc_new w0 (Obj.cells #[.int .i64 a1] 3); rw [SZ.out] at e_; exact (kC e_ 0).trans rfl); rintro e w1 ⟨rfl, hb⟩; have HB1 := aK (show Below w0.heap.size w0 w1 from ((Below.refl _ w0).alloc (Nat.le_refl _) _).trans (hb.mono (by simp))); obtain ⟨y0, y1, y2, y3, y4⟩ := HCL.out w1 HB1.out; clear hb)
     | (go_at_call 61; refine (HI2 _ (HB0.out.trans (HB1.out.mono HB0.out.size))).mono ?_; rintro e w2 ⟨rfl, hb⟩; have HB2 := aK (HB1.out.trans (hb.mono HB1.out.size)); obtain ⟨z0, z1, z2, z3, z4⟩ := HCL.out w2 HB2.out; clear hb))
    go_ret2
    exact ⟨_, rfl, Kd.R_nil _ _ _ _ _, HB0.out.trans (HB2.out.mono HB0.out.size)⟩
theorem impl_rescue.ctr {a0_0 : Int} {a0_1 : Int} {a0_2 : Int} {a1 : Int} {l2 : List Int} {a3 : Bool} {r1 : List Int} {r2 : Int} (h : impl_rescue.f a0_0 a0_1 a0_2 a1 l2 a3 = some (r1, r2)) : Ctr Try.prog 66 [.ag [.v (.int .i64 a0_0), .v (.int .i64 a0_1), .v (.int .i64 a0_2)], .v (.int .i64 a1), .pr 1 (l2.map eI), .v (.bool a3)] (.tu [.ow 3 1 (r1.map eI), .v (.int .i64 r2)]) := by
  refine ⟨enters_of Try.func66 rfl rfl, fun w ys hys => ?_⟩
  simp only [RepL, Rep] at hys
  obtain ⟨_, _, rfl, ⟨_, rfl, _, _, rfl, rfl, _, _, rfl, rfl, _, _, rfl, rfl, rfl⟩, _, _, rfl, rfl, _, _, rfl, q1, _, _, rfl, rfl, rfl⟩ := hys
  obtain ⟨_, _, rfl, hr1, hc1⟩ := C_of_at E_eI q1
  refine (impl_rescue.calls _ _ _ _ _ _ _ _ _ _ w hr1 hc1 h).mono ?_
  rintro _ w' ⟨v1, rfl, h1, hb⟩
  have o1 := row_of_R E_eI h1
  refine ⟨_, (bk v1).toList, rfl, ?_, by cases bk v1 <;> simp, (by first | exact hb | exact hb.below)⟩
  simp only [RepR, RepRL]
  exact ⟨_, rfl, _, _, (bk v1).toList, [], rfl, by simp, ⟨o1, E_eI.row _, E_eI.pos, rfl⟩, _, _, [], [], rfl, by simp, ⟨rfl, rfl⟩, rfl, rfl⟩
set_option maxRecDepth 20000
set_option maxHeartbeats 4000000
open Nat renaming reduceAdd → p1, reduceSub → p2, reduceMul → p3, reduceDiv → p4, reduceBNe → p5, reduceBEq → p6, reduceEqDiff → p7, reduceLeDiff → p8, reduceLT → p9
open Int renaming reduceLE → p10, reduceLT → p11, reduceEq → p12
theorem impl_RescueLength.ctr {a0_0 : Int} {a0_1 : Int} {a0_2 : Int} {a1 : Int} {l2 : List Int} {r : Int} (h : impl_RescueLength.f a0_0 a0_1 a0_2 a1 l2 = some r) : Ctr Try.prog 29 [.ag [.v (.int .i64 a0_0), .v (.int .i64 a0_1), .v (.int .i64 a0_2)], .v (.int .i64 a1), .pr 1 (l2.map eI)] (.v (.int .i64 r)) := by
  refine Ctr_of tyOk hm Try.func29 rfl rfl (by kernel_rfl) (n := 14) (rv := [.tmp 6]) rfl rfl ?_
  simp only [W, List.replicate]
  unfold impl_RescueLength.f at h
  replace h := bnd h; obtain ⟨⟨t1_1, t1_2⟩, A, h⟩ := h
  dsimp only at h
  try simp only [W, p1, p2, p3, p4, p5, p6, p7, p8, p9, p10, p11, p12]
  refine callR (impl_rescue.ctr A) ?_
  cases h
  try simp only [W, p1, p2, p3, p4, p5, p6, p7, p8, p9, p10, p11, p12]
theorem impl_RescueOrder.ctr {k : Nat} {a0_0 : Int} {a0_1 : Int} {a0_2 : Int} {a1 : Int} {l2 : List Int} {r : List Int} (h : impl_RescueOrder.f k a0_0 a0_1 a0_2 a1 l2 = some r) : Ctr Try.prog 30 [.ag [.v (.int .i64 a0_0), .v (.int .i64 a0_1), .v (.int .i64 a0_2)], .v (.int .i64 a1), .pr 1 (l2.map eI)] (.ow 3 1 (r.map eI)) := by
  refine Ctr_of tyOk hm Try.func30 rfl rfl (by kernel_rfl) (n := 31) (rv := [.tmp 6]) rfl rfl ?_
  simp only [W, List.replicate]
  unfold impl_RescueOrder.f at h
  replace h := bnd h; obtain ⟨⟨t1_1, t1_2⟩, A, h⟩ := h
  dsimp only at h
  try simp only [W, p1, p2, p3, p4, p5, p6, p7, p8, p9, p10, p11, p12]
  refine callR (impl_rescue.ctr A) ?_
  try simp only [W, p1, p2, p3, p4, p5, p6, p7, p8, p9, p10, p11, p12]
  refine loopN (fun x : List Int × List Int × List Int × Int × Int × Int × Int × Int => [.u, .u, .pr 1 (List.map eI x.1), .bp 48 0, .u, .u, .u, .u, .u, .lo 144, .u, .u, .u, .u, .u, .u, .u, .u, .u, .lo 256, .v (.int .i64 x.2.2.2.1), .v (.int .i64 x.2.2.2.2.1), .u, .u, .u, .u, .u, .u, .u, .u, .u, .u, .u, .u]) (fun x => [(48, .box 30 [.v (.int .i64 x.2.2.2.2.2.1), .v (.int .i64 x.2.2.2.2.2.2.1), .v (.int .i64 x.2.2.2.2.2.2.2)]), (144, .row 3 1 (List.map eI x.2.1)), (256, .row 3 1 (List.map eI x.2.2.1))]) (fun n x => impl_RescueOrder.l0 n x.1 x.2.1 x.2.2.1 x.2.2.2.1 x.2.2.2.2.1 = some r) (l2, ([] : List Int), t1_1, (t1_1.length : Int), 0, a0_0, a0_1, a0_2) [] h (by simp only [W, p1, p2, p3, p4, p5, p6, p7, p8, p9, p10, p11, p12] <;> trivial) (by simp only [W, p1, p2, p3, p4, p5, p6, p7, p8, p9, p10, p11, p12] <;> trivial) rfl (fun _ h => by cases h) ?_
  intro n1 ⟨x2, x3, x4, x5, x6, y7, y8, y9⟩ _ h
  simp only [impl_RescueOrder.l0] at h
  replace h := ifS h; rcases h with ⟨c10, h⟩ | ⟨c10, h⟩
  · replace h := ifN h; obtain ⟨c11, h⟩ := h
    replace h := ifN h; obtain ⟨c12, h⟩ := h
    replace h := ifN h; obtain ⟨c13, h⟩ := h
    replace h := ifN h; obtain ⟨c14, h⟩ := h
    replace h := ifN h; obtain ⟨c15, h⟩ := h
    try simp only [W, c10, c11, c12, c13, c14, c15, p1, p2, p3, p4, p5, p6, p7, p8, p9, p10, p11, p12]
    exact nextN (x2, (x3 ++ [rd x2 (rd x4 x6)]), x4, x5, (wrap64 (x6 + 1)), y7, y8, y9) [(144, 496)] n1 (by omega) h (by simp only [W, p1, p2, p3, p4, p5, p6, p7, p8, p9, p10, p11, p12] <;> trivial) (by simp only [W, p1, p2, p3, p4, p5, p6, p7, p8, p9, p10, p11, p12] <;> trivial) rfl
  · cases h
    try simp only [W, c10, p1, p2, p3, p4, p5, p6, p7, p8, p9, p10, p11, p12]
theorem laws_has.ctr {k : Nat} {l0 : List Int} {a1 : Int} {r : Bool} (h : laws_has.f k l0 a1 = some r) : Ctr Try.prog 31 [.pr 1 (l0.map eI), .v (.int .i64 a1)] (.v (.bool r)) := by
  refine Ctr_of tyOk hm Try.func31 rfl rfl (by kernel_rfl) (n := 16) (rv := [.tmp 4]) rfl rfl ?_
  simp only [W, List.replicate]
  unfold laws_has.f at h
  try simp only [W, p1, p2, p3, p4, p5, p6, p7, p8, p9, p10, p11, p12]
  refine loopN (fun x : List Int × Int × Int => [.pr 1 (List.map eI x.1), .v (.int .i64 x.2.1), .u, .u, .u, .v (.int .i64 x.2.2), .u, .u, .u, .u, .u, .u, .u, .u, .u, .u, .u, .u]) (fun x => []) (fun n x => laws_has.l0 n x.1 x.2.1 x.2.2 = some r) (l0, a1, 0) [] h (by simp only [W, p1, p2, p3, p4, p5, p6, p7, p8, p9, p10, p11, p12] <;> trivial) (by simp only [W, p1, p2, p3, p4, p5, p6, p7, p8, p9, p10, p11, p12] <;> trivial) rfl (fun _ h => by cases h) ?_
  intro n1 ⟨x1, x2, x3⟩ _ h
  simp only [laws_has.l0] at h
  replace h := ifS h; rcases h with ⟨c4, h⟩ | ⟨c4, h⟩
  · replace h := ifN h; obtain ⟨c5, h⟩ := h
    replace h := ifS h; rcases h with ⟨c6, h⟩ | ⟨c6, h⟩
    · cases h
      try simp only [W, c4, c5, eq_true c6, p1, p2, p3, p4, p5, p6, p7, p8, p9, p10, p11, p12]
    · try simp only [W, c4, c5, c6, p1, p2, p3, p4, p5, p6, p7, p8, p9, p10, p11, p12]
      exact nextN (x1, x2, (wrap64 (x3 + 1))) [] n1 (by omega) h (by simp only [W, p1, p2, p3, p4, p5, p6, p7, p8, p9, p10, p11, p12] <;> trivial) (by simp only [W, p1, p2, p3, p4, p5, p6, p7, p8, p9, p10, p11, p12] <;> trivial) rfl
  · cases h
    try simp only [W, c4, p1, p2, p3, p4, p5, p6, p7, p8, p9, p10, p11, p12]
theorem impl_ReturnLength.ctr {a0_0 : Int} {a0_1 : Int} {a0_2 : Int} {a1 : Int} {l2 : List Int} {r : Int} (h : impl_ReturnLength.f a0_0 a0_1 a0_2 a1 l2 = some r) : Ctr Try.prog 32 [.ag [.v (.int .i64 a0_0), .v (.int .i64 a0_1), .v (.int .i64 a0_2)], .v (.int .i64 a1), .pr 1 (l2.map eI)] (.v (.int .i64 r)) := by
  refine Ctr_of tyOk hm Try.func32 rfl rfl (by kernel_rfl) (n := 14) (rv := [.tmp 6]) rfl rfl ?_
  simp only [W, List.replicate]
  unfold impl_ReturnLength.f at h
  replace h := bnd h; obtain ⟨⟨t1_1, t1_2⟩, A, h⟩ := h
  dsimp only at h
  try simp only [W, p1, p2, p3, p4, p5, p6, p7, p8, p9, p10, p11, p12]
  refine callR (impl_rescue.ctr A) ?_
  cases h
  try simp only [W, p1, p2, p3, p4, p5, p6, p7, p8, p9, p10, p11, p12]
end Go.Proofs.Ytccjanhdnheclaa.F
end

section
namespace Go.Proofs.Ytccjanhdnheclaa.F
open Go.RowKit Go.Proofs.YtccjanhdnheclaaW.PrintWords Go.Proofs.YtccjanhdnheclaaW.PrintLast Go.Proofs.YtccjanhdnheclaaW.PrintMore
set_option linter.unusedVariables false
set_option linter.unusedSimpArgs false
mutual
def laws_FnRescues.l0 : Nat → Int → List Int → Int → Int → Int → Int → Int → Int → Option (Bool)
  | 0, _, _, _, _, _, _, _, _ => none
  | k + 1, x4, x5, x7, x8, x9, x905000, x905001, x905002 => if x9 < (x5.length : Int) then (if 0 ≤ x9 then ((spec_DistanceOf.f k x905000 x905001 x905002 x4 (rd x5 x9)).bind fun t913 => (laws_FnRescues.l0 k x4 x5 x7 (mx x8 t913) (wrap64 (x9 + 1)) x905000 x905001 x905002)) else (none)) else ((impl_RescueLength.f x905000 x905001 x905002 x4 x5).bind fun t914 => ((impl_RescueOrder.f k x905000 x905001 x905002 x4 x5).bind fun t915 => (if (t915.length : Int) = (x5.length : Int) then (laws_FnRescues.l1 k x4 x5 x7 x8 t914 t915 0 x4 0 x905000 x905001 x905002) else (some false))))
def laws_FnRescues.l1 : Nat → Int → List Int → Int → Int → Int → List Int → Int → Int → Int → Int → Int → Int → Option (Bool)
  | 0, _, _, _, _, _, _, _, _, _, _, _, _ => none
  | k + 1, x4, x5, x7, x8, x10, x11, x12, x13, x14, x905000, x905001, x905002 => if x14 < (x11.length : Int) then (if 0 ≤ x14 then ((laws_has.f k x5 (rd x11 x14)).bind fun t920 => (if t920 = true then ((spec_DistanceOf.f k x905000 x905001 x905002 x13 (rd x11 x14)).bind fun t922 => (laws_FnRescues.l1 k x4 x5 x7 x8 x10 x11 (wrap64 (x12 + t922)) (rd x11 x14) (wrap64 (x14 + 1)) x905000 x905001 x905002)) else (some false))) else (none)) else (if x10 = (wrap64 ((wrap64 (2 * x7)) - x8)) then ((impl_ReturnLength.f x905000 x905001 x905002 x4 x5).bind fun t918 => (if t918 = (wrap64 (2 * x7)) then (some (x12 == x10)) else (some false))) else (some false))
end
def laws_FnRescues.f (k : Nat) (l0 : List Int) : Option (Bool) := (laws_big.f l0).bind fun t896 => (if t896 = true then (some true) else ((spec_DrawRescue.f k l0).bind fun bt897 => ((some (([bt897.2.2.2.1] : List Int) : List Int)).bind fun y905 => (if y905.length + bt897.2.2.2.2.length < 17592186044416 then ((impl_TreeSpan.f k bt897.1 bt897.2.1 bt897.2.2.1 (y905 ++ bt897.2.2.2.2)).bind fun t911 => (laws_FnRescues.l0 k bt897.2.2.2.1 bt897.2.2.2.2 t911 0 0 bt897.1 bt897.2.1 bt897.2.2.1)) else (none)))))
end Go.Proofs.Ytccjanhdnheclaa.F
end

section
namespace Go.Proofs.Ytccjanhdnheclaa.F
open Go.RowKit Go.Proofs.YtccjanhdnheclaaW.PrintWords Go.Proofs.YtccjanhdnheclaaW.PrintLast Go.Proofs.YtccjanhdnheclaaW.PrintMore
set_option linter.unusedVariables false
set_option linter.unusedSimpArgs false
attribute [local go_sem] max2_int min2_int max_two min_two
set_option maxRecDepth 20000 in set_option maxHeartbeats 4000000 in open Nat renaming reduceAdd → p1, reduceSub → p2, reduceMul → p3, reduceDiv → p4, reduceBNe → p5, reduceBEq → p6, reduceEqDiff → p7, reduceLeDiff → p8, reduceLT → p9 in open Int renaming reduceLE → p10, reduceLT → p11, reduceEq → p12 in
theorem laws_FnRescues.ctr {k : Nat} {l0 : List Int} {r : Bool} (h : laws_FnRescues.f k l0 = some r) : Ctr Try.prog 6 [.pr 1 (l0.map eU8)] (.v (.bool r)) := by
  refine Ctr_of tyOk hm Try.func6 rfl rfl (by kernel_rfl) (n := 104) (rv := [.tmp 2]) rfl rfl ?_
  simp only [W, List.replicate]
  unfold laws_FnRescues.f at h
  replace h := bnd h; obtain ⟨t1, A, h⟩ := h
  try simp only [W, p1, p2, p3, p4, p5, p6, p7, p8, p9, p10, p11, p12]
  refine callR (laws_big.ctr A) ?_
  replace h := ifT h; rcases h with ⟨rfl, h⟩ | ⟨rfl, h⟩
  · cases h
    try simp only [W, p1, p2, p3, p4, p5, p6, p7, p8, p9, p10, p11, p12]
  · replace h := bnd h; obtain ⟨⟨t3_1, t3_2, t3_3, t3_4, t3_5⟩, A, h⟩ := h
    dsimp only at h
    try simp only [W, p1, p2, p3, p4, p5, p6, p7, p8, p9, p10, p11, p12]
    refine callR (spec_DrawRescue.ctr A) ?_
    rw [Option.bind_some] at h
    replace h := ifN h; obtain ⟨c4, h⟩ := h
    try simp only [List.length_cons, List.length_nil, Nat.zero_add] at c4
    replace h := bnd h; obtain ⟨t5, A, h⟩ := h
    try simp only [W, c4, Nat.le_of_lt c4, p1, p2, p3, p4, p5, p6, p7, p8, p9, p10, p11, p12]
    first | refine callR (impl_TreeSpan.ctr A) ?_ | refine callRE (impl_TreeSpan.ctr A) (by simp only [toPL, toP, W, p1, p2, p3, p4, p5, p6, p7, p8, p9, p10, p11, p12, List.map_take, List.map_drop, List.map_append, Int.toNat_zero, List.drop_zero]) ?_
    try simp only [W, c4, Nat.le_of_lt c4, p1, p2, p3, p4, p5, p6, p7, p8, p9, p10, p11, p12]
    refine loopN (fun x : Int × List Int × Int × Int × Int × Int × Int × Int => [.u, .u, .u, .bp 48 0, .v (.int .i64 x.1), .lo 304, .u, .v (.int .i64 x.2.2.1), .v (.int .i64 x.2.2.2.1), .v (.int .i64 x.2.2.2.2.1), .u, .u, .u, .u, .u, .u, .u, .u, .u, .u, .u, .u, .u, .u, .u, .u, .u, .u, .u, .u, .u, .u, .u, .u, .u, .u, .u, .u, .u, .u, .u, .u, .u, .u, .u, .u, .u, .u, .u, .u, .u, .u, .u, .u, .u, .u, .u, .u, .u, .u, .u, .u, .u, .u, .u, .u, .u, .u, .u, .u, .u, .u, .u, .u, .u, .u, .u, .u, .u, .u, .u, .u, .u, .u, .u, .u, .u, .u, .u, .u, .u, .u, .u, .u, .u, .u, .u, .u, .u, .u, .u, .u, .u, .u, .u]) (fun x => [(48, .box 30 [.v (.int .i64 x.2.2.2.2.2.1), .v (.int .i64 x.2.2.2.2.2.2.1), .v (.int .i64 x.2.2.2.2.2.2.2)]), (304, .row 3 1 (List.map eI x.2.1))]) (fun n x => laws_FnRescues.l0 n x.1 x.2.1 x.2.2.1 x.2.2.2.1 x.2.2.2.2.1 x.2.2.2.2.2.1 x.2.2.2.2.2.2.1 x.2.2.2.2.2.2.2 = some r) (t3_4, t3_5, t5, 0, 0, t3_1, t3_2, t3_3) [] h (by simp only [W, p1, p2, p3, p4, p5, p6, p7, p8, p9, p10, p11, p12] <;> trivial) (by simp only [W, p1, p2, p3, p4, p5, p6, p7, p8, p9, p10, p11, p12] <;> trivial) rfl (fun _ h => by cases h) ?_
    intro n1 ⟨x6, x7, x8, x9, x10, x11, x12, x13⟩ _ h
    simp only [laws_FnRescues.l0] at h
    replace h := ifS h; rcases h with ⟨c14, h⟩ | ⟨c14, h⟩
    · replace h := ifN h; obtain ⟨c15, h⟩ := h
      replace h := bnd h; obtain ⟨t16, A, h⟩ := h
      try simp only [W, c14, c15, p1, p2, p3, p4, p5, p6, p7, p8, p9, p10, p11, p12]
      refine callR (spec_DistanceOf.ctr A) ?_
      try simp only [W, c14, c15, p1, p2, p3, p4, p5, p6, p7, p8, p9, p10, p11, p12]
      exact nextN (x6, x7, x8, (mx x9 t16), (wrap64 (x10 + 1)), x11, x12, x13) [] n1 (by omega) h (by simp only [W, p1, p2, p3, p4, p5, p6, p7, p8, p9, p10, p11, p12] <;> trivial) (by simp only [W, p1, p2, p3, p4, p5, p6, p7, p8, p9, p10, p11, p12] <;> trivial) rfl
    · replace h := bnd h; obtain ⟨t15, A, h⟩ := h
      try simp only [W, c14, p1, p2, p3, p4, p5, p6, p7, p8, p9, p10, p11, p12]
      refine callR (impl_RescueLength.ctr A) ?_
      replace h := bnd h; obtain ⟨t16, A, h⟩ := h
      try simp only [W, c14, p1, p2, p3, p4, p5, p6, p7, p8, p9, p10, p11, p12]
      refine callR (impl_RescueOrder.ctr A) ?_
      replace h := ifS h; rcases h with ⟨c17, h⟩ | ⟨c17, h⟩
      · try simp only [W, c14, eq_true c17, p1, p2, p3, p4, p5, p6, p7, p8, p9, p10, p11, p12]
        refine loopN (fun x : Int × List Int × Int × Int × Int × List Int × Int × Int × Int × Int × Int × Int => [.u, .u, .u, .bp 48 0, .v (.int .i64 x.1), .lo 304, .u, .v (.int .i64 x.2.2.1), .v (.int .i64 x.2.2.2.1), .u, .v (.int .i64 x.2.2.2.2.1), .lo 832, .v (.int .i64 x.2.2.2.2.2.2.1), .v (.int .i64 x.2.2.2.2.2.2.2.1), .v (.int .i64 x.2.2.2.2.2.2.2.2.1), .u, .u, .u, .u, .u, .u, .u, .u, .u, .u, .u, .u, .u, .u, .u, .u, .u, .u, .u, .u, .u, .u, .u, .u, .u, .u, .u, .u, .u, .u, .u, .u, .u, .u, .u, .u, .u, .u, .u, .u, .u, .u, .u, .u, .u, .u, .u, .u, .u, .u, .u, .u, .u, .u, .u, .u, .u, .u, .u, .u, .u, .u, .u, .u, .u, .u, .u, .u, .u, .u, .u, .u, .u, .u, .u, .u, .u, .u, .u, .u, .u, .u, .u, .u, .u, .u, .u, .u, .u, .u]) (fun x => [(48, .box 30 [.v (.int .i64 x.2.2.2.2.2.2.2.2.2.1), .v (.int .i64 x.2.2.2.2.2.2.2.2.2.2.1), .v (.int .i64 x.2.2.2.2.2.2.2.2.2.2.2)]), (304, .row 3 1 (List.map eI x.2.1)), (832, .row 3 1 (List.map eI x.2.2.2.2.2.1))]) (fun n x => laws_FnRescues.l1 n x.1 x.2.1 x.2.2.1 x.2.2.2.1 x.2.2.2.2.1 x.2.2.2.2.2.1 x.2.2.2.2.2.2.1 x.2.2.2.2.2.2.2.1 x.2.2.2.2.2.2.2.2.1 x.2.2.2.2.2.2.2.2.2.1 x.2.2.2.2.2.2.2.2.2.2.1 x.2.2.2.2.2.2.2.2.2.2.2 = some r) (x6, x7, x8, x9, t15, t16, 0, x6, 0, x11, x12, x13) [] h (by simp only [W, p1, p2, p3, p4, p5, p6, p7, p8, p9, p10, p11, p12] <;> trivial) (by simp only [W, p1, p2, p3, p4, p5, p6, p7, p8, p9, p10, p11, p12] <;> trivial) rfl (fun _ h => by cases h) ?_
        intro n2 ⟨x18, x19, x20, x21, x22, x23, x24, x25, x26, x27, x28, x29⟩ _ h
        simp only [laws_FnRescues.l1] at h
        replace h := ifS h; rcases h with ⟨c30, h⟩ | ⟨c30, h⟩
        · replace h := ifN h; obtain ⟨c31, h⟩ := h
          replace h := bnd h; obtain ⟨t32, A, h⟩ := h
          try simp only [W, c30, c31, p1, p2, p3, p4, p5, p6, p7, p8, p9, p10, p11, p12]
          refine callR (laws_has.ctr A) ?_
          replace h := ifT h; rcases h with ⟨rfl, h⟩ | ⟨rfl, h⟩
          · replace h := bnd h; obtain ⟨t34, A, h⟩ := h
            try simp only [W, c30, c31, p1, p2, p3, p4, p5, p6, p7, p8, p9, p10, p11, p12]
            refine callR (spec_DistanceOf.ctr A) ?_
            try simp only [W, c30, c31, p1, p2, p3, p4, p5, p6, p7, p8, p9, p10, p11, p12]
            exact nextN (x18, x19, x20, x21, x22, x23, (wrap64 (x24 + t34)), (rd x23 x26), (wrap64 (x26 + 1)), x27, x28, x29) [] n2 (by omega) h (by simp only [W, p1, p2, p3, p4, p5, p6, p7, p8, p9, p10, p11, p12] <;> trivial) (by simp only [W, p1, p2, p3, p4, p5, p6, p7, p8, p9, p10, p11, p12] <;> trivial) rfl
          · cases h
            try simp only [W, c30, c31, p1, p2, p3, p4, p5, p6, p7, p8, p9, p10, p11, p12]
        · replace h := ifS h; rcases h with ⟨c31, h⟩ | ⟨c31, h⟩
          · replace h := bnd h; obtain ⟨t32, A, h⟩ := h
            try simp only [W, c30, eq_true c31, p1, p2, p3, p4, p5, p6, p7, p8, p9, p10, p11, p12]
            refine callR (impl_ReturnLength.ctr A) ?_
            replace h := ifS h; rcases h with ⟨c33, h⟩ | ⟨c33, h⟩
            · cases h
              try simp only [W, c30, eq_true c31, eq_true c33, p1, p2, p3, p4, p5, p6, p7, p8, p9, p10, p11, p12]
            · cases h
              try simp only [W, c30, eq_true c31, c33, p1, p2, p3, p4, p5, p6, p7, p8, p9, p10, p11, p12]
          · cases h
            try simp only [W, c30, c31, p1, p2, p3, p4, p5, p6, p7, p8, p9, p10, p11, p12]
      · cases h
        try simp only [W, c14, c17, p1, p2, p3, p4, p5, p6, p7, p8, p9, p10, p11, p12]
theorem laws_FnRescues.calls (k : Nat) (A0 : Option Addr) (c0 : Nat) (l0 : List Int) (w : World) (hr0 : Kd.C (Kd.int .u8) w A0 l0.length l0) (hc0 : l0.length ≤ c0) (h : laws_FnRescues.f k l0 = some true) :
    Calls Try.prog 6 #[.slice A0 l0.length c0] w fun e w' => e = .returned (.bool true) ∧ Below w.heap.size w w' := by
  refine ((laws_FnRescues.ctr h).2 w [.slice A0 l0.length c0] (by simp only [RepL, Rep]; exact ⟨_, _, rfl, at_of_C E_eU8 hr0 hc0, rfl⟩)).mono ?_
  rintro _ _ ⟨y, L, rfl, hR, _, hb⟩
  exact ⟨congrArg Ending.returned (RepR_pln rfl hR).1, hb⟩
end Go.Proofs.Ytccjanhdnheclaa.F
end

section
namespace Go.Proofs.Ytccjanhdnheclaa.F
open Go.RowKit Go.Proofs.YtccjanhdnheclaaW.PrintWords Go.Proofs.YtccjanhdnheclaaW.PrintLast Go.Proofs.YtccjanhdnheclaaW.PrintMore
set_option linter.unusedVariables false
set_option linter.unusedSimpArgs false
theorem w64 {x : Int} (h1 : -9223372036854775808 ≤ x) (h2 : x ≤ 9223372036854775807) : wrap64 x = x := by unfold wrap64; omega
theorem wrapi_nat {n : Nat} (h : n < 9223372036854775808) : IntKind.i64.wrap (n : Int) = (n : Int) := by rw [IntKind.wrap_i64]; omega
theorem wrapu_nat {n : Nat} (h : n < 18446744073709551616) : IntKind.u64.wrap (n : Int) = (n : Int) := by simp [IntKind.wrap, IntKind.bits, IntKind.signed]; omega
theorem bits_and_i {a b : Nat} (ha : a < 2 ^ 63) (hb : b < 2 ^ 63) : Go.bits .and .i64 (a : Int) (b : Int) = ((a &&& b : Nat) : Int) :=
  (bits_nat .i64 63 (by decide) (fun n h0 h1 => by rw [IntKind.wrap_i64]; omega) a b ha hb).1
theorem bits_or_i {a b : Nat} (ha : a < 2 ^ 63) (hb : b < 2 ^ 63) : Go.bits .or .i64 (a : Int) (b : Int) = ((a ||| b : Nat) : Int) :=
  (bits_nat .i64 63 (by decide) (fun n h0 h1 => by rw [IntKind.wrap_i64]; omega) a b ha hb).2
theorem shl_one {g : Nat} (h : g < 63) : shl .i64 1 (g : Int) = ((2 ^ g : Nat) : Int) := by
  unfold shl
  have : min ((g : Int).toNat) IntKind.i64.bits = g := by simp [IntKind.bits]; omega
  rw [this, Int.one_mul]
  have hp : (2 : Nat) ^ g ≤ 2 ^ 62 := Nat.pow_le_pow_right (by decide) (by omega)
  have : ((2 : Int) ^ g) = ((2 ^ g : Nat) : Int) := by simp
  rw [this]
  exact wrapi_nat (by omega)
theorem shr_nat {a g : Nat} (ha : a < 2 ^ 63) : shr .i64 (a : Int) (g : Int) = ((a >>> g : Nat) : Int) := by
  unfold shr
  rw [Nat.shiftRight_eq_div_pow]
  by_cases hg : g ≤ 64
  · have : min ((g : Int).toNat) IntKind.i64.bits = g := by simp [IntKind.bits]; omega
    rw [this]
    have : ((2 : Int) ^ g) = ((2 ^ g : Nat) : Int) := by simp
    rw [this]
    omega
  · have : min ((g : Int).toNat) IntKind.i64.bits = 64 := by simp [IntKind.bits]; omega
    rw [this]
    have hp : (2 : Nat) ^ 64 ≤ 2 ^ g := Nat.pow_le_pow_right (by decide) (by omega)
    rw [Nat.div_eq_of_lt (by omega)]
    have : (a : Int) / 2 ^ 64 = 0 := by omega
    simpa using this
def opn (o g : Int) : Bool := o.toNat.testBit g.toNat
theorem bit_test {o g : Int} (ho : 0 ≤ o) (ho2 : o < 9223372036854775808) (hg : 0 ≤ g) : (Go.bits .and .i64 (shr .i64 o g) 1 == 1) = opn o g := by
  obtain ⟨a, rfl⟩ := Int.eq_ofNat_of_zero_le ho
  obtain ⟨n, rfl⟩ := Int.eq_ofNat_of_zero_le hg
  have ha : a < 2 ^ 63 := by omega
  rw [shr_nat ha]
  have h2 : a >>> n < 2 ^ 63 := Nat.lt_of_le_of_lt (by rw [Nat.shiftRight_eq_div_pow]; exact Nat.div_le_self _ _) ha
  unfold opn
  simp only [Int.toNat_natCast]
  rw [show ((1 : Int)) = ((1 : Nat) : Int) from rfl, bits_and_i h2 (by decide), Nat.testBit, Nat.and_one_is_mod, Nat.one_and_eq_mod_two]
  rcases Nat.mod_two_eq_zero_or_one (a >>> n) with h | h <;> simp [h]
theorem fold_loop {σ ρ : Type} {F : Nat → σ → Int → Option ρ} {n c : Nat} {step : σ → Nat → σ} {fin : σ → ρ} {I : σ → Nat → Prop}
    (hF : ∀ k s (i : Nat), c ≤ k → i < n → I s i → F (k + 1) s (i : Int) = F k (step s i) ((i : Int) + 1)) (hI : ∀ s i, i < n → I s i → I (step s i) (i + 1))
    (hE : ∀ k s, c ≤ k → I s n → F (k + 1) s (n : Int) = some (fin s)) :
    ∀ (d i : Nat) (k : Nat) (s : σ), i + d = n → d + c + 1 ≤ k → I s i → F k s (i : Int) = some (fin ((List.range' i d).foldl step s))
  | 0, i, k, s, hi, hk, h => by
    obtain ⟨m, rfl⟩ : ∃ m, k = m + 1 := ⟨k - 1, by omega⟩
    obtain rfl : i = n := by omega
    simpa using hE m s (by omega) h
  | d + 1, i, k, s, hi, hk, h => by
    obtain ⟨m, rfl⟩ : ∃ m, k = m + 1 := ⟨k - 1, by omega⟩
    rw [hF m s i (by omega) (by omega) h, List.range'_succ, List.foldl_cons]
    have := fold_loop (c := c) (step := step) (fin := fin) hF hI hE d (i + 1) m (step s i) (by omega) (by omega) (hI s i (by omega) h)
    rwa [Int.natCast_add] at this
theorem inv_loop {σ ρ : Type} {F : Nat → σ → Int → Option ρ} {n c : Nat} {fin : σ → ρ} {I : σ → Nat → Prop}
    (hF : ∀ k s (i : Nat), c ≤ k → i < n → I s i → ∃ s', I s' (i + 1) ∧ F (k + 1) s (i : Int) = F k s' ((i : Int) + 1))
    (hE : ∀ k s, c ≤ k → I s n → F (k + 1) s (n : Int) = some (fin s)) :
    ∀ (d i : Nat) (k : Nat) (s : σ), i + d = n → d + c + 1 ≤ k → I s i → ∃ s', I s' n ∧ F k s (i : Int) = some (fin s')
  | 0, i, k, s, hi, hk, h => by
    obtain ⟨m, rfl⟩ : ∃ m, k = m + 1 := ⟨k - 1, by omega⟩
    obtain rfl : i = n := by omega
    exact ⟨s, h, hE m s (by omega) h⟩
  | d + 1, i, k, s, hi, hk, h => by
    obtain ⟨m, rfl⟩ : ∃ m, k = m + 1 := ⟨k - 1, by omega⟩
    obtain ⟨s', h', e⟩ := hF m s i (by omega) (by omega) h
    obtain ⟨s2, h2, e2⟩ := inv_loop (c := c) (fin := fin) hF hE d (i + 1) m s' (by omega) (by omega) h'
    rw [Int.natCast_add] at e2
    exact ⟨s2, h2, e.trans e2⟩
theorem w64_succ {i n : Nat} (h : i < n) (hn : n ≤ 9223372036854775807) : wrap64 ((i : Int) + 1) = (i : Int) + 1 := w64 (by omega) (by omega)
end Go.Proofs.Ytccjanhdnheclaa.F
end

section
namespace Go.Proofs.Ytccjanhdnheclaa.F
open Go.RowKit Go.Proofs.YtccjanhdnheclaaW.PrintWords Go.Proofs.YtccjanhdnheclaaW.PrintLast Go.Proofs.YtccjanhdnheclaaW.PrintMore
set_option linter.unusedVariables false
set_option linter.unusedSimpArgs false
def lst : Int → List Int → Int
  | c, [] => c
  | _, x :: l => lst x l
theorem lst_mem : ∀ (l : List Int) (c : Int), lst c l ∈ c :: l
  | [], c => by simp [lst]
  | x :: l, c => List.mem_cons_of_mem _ (lst_mem l x)
theorem lst_app : ∀ (l : List Int) (c x : Int) (r : List Int), lst c (l ++ x :: r) = lst x r
  | [], c, x, r => rfl
  | y :: l, c, x, r => lst_app l y x r
def b2n (b : Bool) : Nat := if b = true then 1 else 0
section
variable (s : Int → Bool)
def sw : Int → List Int → Nat
  | _, [] => 0
  | c, x :: l => b2n (s c != s x) + sw x l
def sepa (c : Int) (l : List Int) : Bool := l.any fun x => s x != s c
theorem sw_back : ∀ (l : List Int) (c : Int), s c ≠ s (lst c l) → 1 ≤ sw s c l
  | [], c, h => absurd rfl h
  | x :: l, c, h => by
    unfold sw
    by_cases e : s c = s x
    · have := sw_back l x (by rw [← e]; exact h)
      omega
    · have : b2n (s c != s x) = 1 := by unfold b2n; rw [if_pos (by simpa using e)]
      omega
theorem sw_low : ∀ (l : List Int) (c : Int), sepa s c l = true → 2 ≤ sw s c l + b2n (s c != s (lst c l))
  | [], c, h => by simp [sepa] at h
  | x :: l, c, h => by
    unfold sw
    show 2 ≤ b2n (s c != s x) + sw s x l + b2n (s c != s (lst x l))
    by_cases e : s c = s x
    · have h' : sepa s x l = true := by
        unfold sepa at h ⊢
        rw [List.any_cons, e] at h
        simpa using h
      have := sw_low l x h'
      rw [e]
      omega
    · have e1 : b2n (s c != s x) = 1 := by unfold b2n; rw [if_pos (by simpa using e)]
      by_cases q : s c = s (lst x l)
      · have := sw_back s l x (by rw [← q]; exact fun z => e z.symm)
        omega
      · have e2 : b2n (s c != s (lst x l)) = 1 := by unfold b2n; rw [if_pos (by simpa using q)]
        omega
theorem sw_app : ∀ (l : List Int) (c : Int) (r : List Int), sw s c (l ++ r) = sw s c l + sw s (lst c l) r
  | [], c, r => by simp [sw, lst]
  | x :: l, c, r => by
    show b2n (s c != s x) + sw s x (l ++ r) = b2n (s c != s x) + sw s x l + sw s (lst x l) r
    rw [sw_app l x r]
    omega
theorem sw_const : ∀ (l : List Int) (c : Int), sepa s c l = false → sw s c l = 0
  | [], c, _ => rfl
  | x :: l, c, h => by
    unfold sepa at h
    rw [List.any_cons, Bool.or_eq_false_iff] at h
    have e : s x = s c := by simpa using h.1
    have h' : sepa s x l = false := by unfold sepa; rw [e]; exact h.2
    unfold sw
    rw [sw_const l x h', e]
    simp [b2n]
theorem sw_ins (l1 : List Int) (c y x : Int) (l2 : List Int) : sw s c (l1 ++ x :: y :: l2) = sw s c (l1 ++ y :: l2) + 2 * b2n (s (lst c l1) == s y && s y != s x) := by
  rw [sw_app, sw_app]
  show sw s c l1 + (b2n (s (lst c l1) != s x) + (b2n (s x != s y) + sw s y l2)) = sw s c l1 + (b2n (s (lst c l1) != s y) + sw s y l2) + _
  cases s (lst c l1) <;> cases s y <;> cases s x <;> simp [b2n] <;> omega
theorem sepa_ins (l1 : List Int) (c y x : Int) (l2 : List Int) : sepa s c (l1 ++ x :: y :: l2) = ((s x != s c) || sepa s c (l1 ++ y :: l2)) := by
  unfold sepa
  simp only [List.any_append, List.any_cons]
  cases l1.any fun x => s x != s c <;> cases s x != s c <;> simp
end
section
variable (sdE : Int → Int → Bool) (E : List Int)
def opt (c : Int) (l : List Int) : Prop := ∀ e ∈ E, sw (sdE e) c l + b2n (sdE e c != sdE e (lst c l)) = 2 * b2n (sepa (sdE e) c l)
variable {sdE E}
theorem opt_one (c v : Int) : opt sdE E c [v] := by
  intro e _
  simp only [sw, lst, sepa, List.any_cons, List.any_nil, Bool.or_false]
  cases sdE e c <;> cases sdE e v <;> simp [b2n]
def lam (sdE : Int → Int → Bool) (E : List Int) (ok : Int → Prop) : Prop := ∀ e ∈ E, ∀ f ∈ E, ∀ x a, ok x → ok a → sdE e x ≠ sdE e a → sdE f x ≠ sdE f a →
  (∀ z, ok z → sdE e z = sdE e a → sdE f z = sdE f a) ∨ (∀ z, ok z → sdE f z = sdE f a → sdE e z = sdE e a)
theorem ne_ne {a b c : Bool} (h : a ≠ b) (k : c ≠ b) : a = c := by cases a <;> cases b <;> cases c <;> simp_all
theorem gate {ok : Int → Prop} (H : lam sdE E ok) {c x : Int} {l : List Int} (hl : l ≠ []) (hok : ∀ z ∈ c :: l, ok z) (hx : ok x) :
    ∃ l1 y l2, l = l1 ++ y :: l2 ∧ ∀ e ∈ E, sepa (sdE e) c l = true → ¬ (sdE e (lst c l1) = sdE e y ∧ sdE e y ≠ sdE e x) := by
  apply Classical.byContradiction
  intro hno
  have bad : ∀ l1 y l2, l = l1 ++ y :: l2 → ∃ e ∈ E, sepa (sdE e) c l = true ∧ sdE e (lst c l1) = sdE e y ∧ sdE e y ≠ sdE e x := by
    intro l1 y l2 e0
    apply Classical.byContradiction
    intro q
    exact hno ⟨l1, y, l2, e0, fun e he hs hh => q ⟨e, he, hs, hh.1, hh.2⟩⟩
  have key : ∀ n, 0 < n → n ≤ l.length → ∃ e ∈ E, sepa (sdE e) c l = true ∧ ∀ z ∈ c :: l.take n, sdE e z ≠ sdE e x := by
    intro n
    induction n with
    | zero => intro h; omega
    | succ n ih =>
      intro _ hn
      have hnl : n < l.length := by omega
      have hdec : l = l.take n ++ l[n] :: l.drop (n + 1) := by rw [List.getElem_cons_drop, List.take_append_drop]
      obtain ⟨e', he', hs', h1, h2⟩ := bad _ _ _ hdec
      have htk : l.take (n + 1) = l.take n ++ [l[n]] := (List.take_append_getElem hnl).symm
      rcases Nat.eq_zero_or_pos n with h0 | h0
      · subst h0
        refine ⟨e', he', hs', fun z hz => ?_⟩
        rw [htk] at hz
        simp only [List.take_zero, List.nil_append, List.mem_cons, List.not_mem_nil, or_false] at hz
        simp only [List.take_zero, lst] at h1
        rcases hz with rfl | rfl
        · rw [h1]; exact h2
        · exact h2
      · obtain ⟨e, he, hs, hz⟩ := ih h0 (by omega)
        have ha := lst_mem (l.take n) c
        have hmem : ∀ z ∈ c :: l.take n, z ∈ c :: l := fun z hz => by
          rcases List.mem_cons.1 hz with rfl | hz
          · exact List.mem_cons_self
          · exact List.mem_cons_of_mem _ (List.mem_of_mem_take hz)
        have oka := hok _ (hmem _ ha)
        have hy : ok l[n] := hok _ (List.mem_cons_of_mem _ (List.getElem_mem hnl))
        have a1 := hz _ ha
        rcases H e he e' he' x (lst c (l.take n)) hx oka (fun q => a1 q.symm) (fun q => h2 (by rw [← h1]; exact q.symm)) with q | q
        · refine ⟨e', he', hs', fun z hz' => ?_⟩
          rw [htk, ← List.cons_append, List.mem_append] at hz'
          rcases hz' with hz' | hz'
          · rw [q z (hok _ (hmem _ hz')) (ne_ne (hz z hz') a1), h1]; exact h2
          · obtain rfl := List.mem_singleton.1 hz'
            exact h2
        · refine ⟨e, he, hs, fun z hz' => ?_⟩
          rw [htk, ← List.cons_append, List.mem_append] at hz'
          rcases hz' with hz' | hz'
          · exact hz z hz'
          · obtain rfl := List.mem_singleton.1 hz'
            rw [q _ hy h1.symm]; exact a1
  have hpos : 0 < l.length := List.length_pos_iff.2 hl
  obtain ⟨e, he, hs, hz⟩ := key l.length hpos (Nat.le_refl _)
  rw [List.take_length] at hz
  unfold sepa at hs
  obtain ⟨z, hzl, hzs⟩ := List.any_eq_true.1 hs
  have := ne_ne (hz z (List.mem_cons_of_mem _ hzl)) (hz c List.mem_cons_self)
  simp [this] at hzs
theorem opt_ins {ok : Int → Prop} (H : lam sdE E ok) {c x : Int} {l : List Int} (hl : l ≠ []) (hok : ∀ z ∈ c :: l, ok z) (hx : ok x) (O : opt sdE E c l) :
    ∃ l1 l2, l = l1 ++ l2 ∧ l2 ≠ [] ∧ opt sdE E c (l1 ++ x :: l2) := by
  obtain ⟨l1, y, l2, rfl, hg⟩ := gate H hl hok hx
  refine ⟨l1, y :: l2, rfl, by simp, fun e he => ?_⟩
  have o := O e he
  have g := hg e he
  have hc := sw_const (sdE e) (l1 ++ y :: l2) c
  have hlast : lst c (l1 ++ x :: y :: l2) = lst c (l1 ++ y :: l2) := by rw [lst_app, lst_app]; rfl
  rw [sw_ins, sepa_ins, hlast]
  cases hs : sepa (sdE e) c (l1 ++ y :: l2) with
  | true =>
    rw [hs] at o
    have g' := g hs
    have : (sdE e (lst c l1) == sdE e y && sdE e y != sdE e x) = false := by
      cases hq : (sdE e (lst c l1) == sdE e y && sdE e y != sdE e x) with
      | false => rfl
      | true =>
        simp only [Bool.and_eq_true, beq_iff_eq, bne_iff_ne] at hq
        exact absurd hq g'
    rw [this, Bool.or_true]
    simp only [b2n] at o ⊢
    simpa using o
  | false =>
    rw [hs] at o
    have h0 := hc hs
    rw [h0] at o ⊢
    have hall : ∀ z ∈ l1 ++ y :: l2, sdE e z = sdE e c := fun z hz => by
      unfold sepa at hs
      have := List.any_eq_false.1 hs z hz
      simpa using this
    have h1 : sdE e (lst c l1) = sdE e c := by
      rcases List.mem_cons.1 (lst_mem l1 c) with q | q
      · rw [q]
      · exact hall _ (List.mem_append_left _ q)
    have h2 : sdE e y = sdE e c := hall _ (by simp)
    rw [h1, h2]
    have h3 : b2n (sdE e c != sdE e (lst c (l1 ++ y :: l2))) = 0 := by simpa [b2n] using o
    rw [h3]
    cases sdE e c <;> cases sdE e x <;> simp [b2n]
theorem opt_all {α : Type} (tc : α → Int) {ok : Int → Prop} (H : lam sdE E ok) {c : Int} (hc : ok c) (v : α) (hv : ok (tc v)) : ∀ (R : List α), (∀ z ∈ R, ok (tc z)) → ∃ O : List α, O.Perm (v :: R) ∧ opt sdE E c (O.map tc) ∧ lst c (O.map tc) = tc v
  | [], _ => ⟨[v], List.Perm.refl _, opt_one _ _, rfl⟩
  | x :: R, h => by
    obtain ⟨O, hp, ho, hl⟩ := opt_all tc H hc v hv R fun z hz => h z (List.mem_cons_of_mem _ hz)
    have hne : O.map tc ≠ [] := by
      intro q
      have := congrArg List.length q
      simp [hp.length_eq] at this
    obtain ⟨l1, l2, e, h2, o⟩ := opt_ins H hne (x := tc x) (fun z hz => by
      rcases List.mem_cons.1 hz with rfl | hz
      · exact hc
      · obtain ⟨y, hy, rfl⟩ := List.mem_map.1 hz
        rcases List.mem_cons.1 (hp.mem_iff.1 hy) with rfl | hy
        · exact hv
        · exact h y (List.mem_cons_of_mem _ hy)) (h x List.mem_cons_self) ho
    obtain ⟨O1, O2, rfl, rfl, rfl⟩ := List.map_eq_append_iff.1 e
    refine ⟨O1 ++ x :: O2, ?_, by simpa using o, ?_⟩
    · exact (List.perm_middle.trans (List.Perm.cons x hp)).trans (List.Perm.swap _ _ _)
    · rw [← hl, List.map_append, List.map_append]
      cases O2 with
      | nil => exact absurd rfl h2
      | cons y O2 => rw [List.map_cons, List.map_cons, lst_app, lst_app]; rfl
def plen (d : Int → Int → Int) : Int → List Int → Int
  | _, [] => 0
  | c, x :: l => d c x + plen d x l
def sumE (f : Int → Nat) : List Int → Nat
  | [] => 0
  | e :: E => f e + sumE f E
theorem sumE_add (f g : Int → Nat) : ∀ E, sumE (fun e => f e + g e) E = sumE f E + sumE g E
  | [] => rfl
  | e :: E => by simp only [sumE]; rw [sumE_add f g E]; omega
theorem sumE_le {f g : Int → Nat} : ∀ E : List Int, (∀ e ∈ E, f e ≤ g e) → sumE f E ≤ sumE g E
  | [], _ => Nat.le_refl _
  | e :: E, h => by
    have h1 := h e List.mem_cons_self
    have h2 := sumE_le E fun x hx => h x (List.mem_cons_of_mem _ hx)
    simp only [sumE]
    omega
theorem sumE_congr {f g : Int → Nat} (E : List Int) (h : ∀ e ∈ E, f e = g e) : sumE f E = sumE g E :=
  Nat.le_antisymm (sumE_le E fun e he => by rw [h e he]; exact Nat.le_refl _) (sumE_le E fun e he => by rw [h e he]; exact Nat.le_refl _)
theorem sumE_b2n (p : Int → Bool) : ∀ E, sumE (fun e => b2n (p e)) E = E.countP p
  | [] => rfl
  | e :: E => by
    simp only [sumE]
    rw [sumE_b2n p E, List.countP_cons]
    unfold b2n
    omega
theorem sumE_two (f : Int → Nat) : ∀ E, sumE (fun e => 2 * f e) E = 2 * sumE f E
  | [] => rfl
  | e :: E => by simp only [sumE]; rw [sumE_two f E]; omega
theorem plen_sum {d : Int → Int → Int} {ok : Int → Prop} (hd : ∀ a b, ok a → ok b → d a b = (E.countP fun e => sdE e a != sdE e b : Nat)) : ∀ (l : List Int) (c : Int), (∀ z ∈ c :: l, ok z) → plen d c l = (sumE (fun e => sw (sdE e) c l) E : Nat)
  | [], c, _ => by
    have : sumE (fun e => sw (sdE e) c []) E = 0 := by
      have := sumE_b2n (fun _ => false) E
      simp only [b2n] at this
      simpa [sw] using this
    rw [this]; rfl
  | x :: l, c, h => by
    show d c x + plen d x l = _
    rw [plen_sum hd l x fun z hz => h z (List.mem_cons_of_mem _ hz), hd c x (h c List.mem_cons_self) (h x (by simp)), ← sumE_b2n]
    show _ = ((sumE (fun e => b2n (sdE e c != sdE e x) + sw (sdE e) x l) E : Nat) : Int)
    rw [sumE_add]
    omega
theorem plen_low {d : Int → Int → Int} {ok : Int → Prop} (hd : ∀ a b, ok a → ok b → d a b = (E.countP fun e => sdE e a != sdE e b : Nat)) {c : Int} {l : List Int} (h : ∀ z ∈ c :: l, ok z) : 2 * ((E.countP fun e => sepa (sdE e) c l : Nat) : Int) ≤ plen d c l + d c (lst c l) := by
  rw [plen_sum hd l c h, hd c _ (h c List.mem_cons_self) (h _ (lst_mem l c)), ← sumE_b2n, ← sumE_b2n]
  have := sumE_le (f := fun e => 2 * b2n (sepa (sdE e) c l)) (g := fun e => sw (sdE e) c l + b2n (sdE e c != sdE e (lst c l))) E fun e _ => by
    cases q : sepa (sdE e) c l with
    | false => simp [b2n]
    | true => have := sw_low (sdE e) l c q; simp only [b2n] at this ⊢; simpa using this
  rw [sumE_two, sumE_add] at this
  omega
theorem plen_opt {d : Int → Int → Int} {ok : Int → Prop} (hd : ∀ a b, ok a → ok b → d a b = (E.countP fun e => sdE e a != sdE e b : Nat)) {c : Int} {l : List Int} (h : ∀ z ∈ c :: l, ok z) (O : opt sdE E c l) : 2 * ((E.countP fun e => sepa (sdE e) c l : Nat) : Int) = plen d c l + d c (lst c l) := by
  rw [plen_sum hd l c h, hd c _ (h c List.mem_cons_self) (h _ (lst_mem l c)), ← sumE_b2n, ← sumE_b2n]
  have := sumE_congr (f := fun e => sw (sdE e) c l + b2n (sdE e c != sdE e (lst c l))) (g := fun e => 2 * b2n (sepa (sdE e) c l)) E O
  rw [sumE_two, sumE_add] at this
  omega
end
end Go.Proofs.Ytccjanhdnheclaa.F
end

section
namespace Go.Proofs.Ytccjanhdnheclaa.F
open Go.RowKit Go.Proofs.YtccjanhdnheclaaW.PrintWords Go.Proofs.YtccjanhdnheclaaW.PrintLast Go.Proofs.YtccjanhdnheclaaW.PrintMore
set_option linter.unusedVariables false
set_option linter.unusedSimpArgs false
theorem rd_set {D : List Int} {i x v : Int} (hi : 0 ≤ i) (hx : 0 ≤ x) (hl : i < D.length) : rd (D.set i.toNat v) x = if x = i then v else rd D x := by
  unfold rd
  rw [List.getD_eq_getElem?_getD, List.getElem?_set]
  by_cases h : x = i
  · subst h
    rw [if_pos rfl, if_pos (by omega), if_pos rfl]; rfl
  · rw [if_neg (by omega), if_neg h, List.getD_eq_getElem?_getD]
theorem rd_lt {D : List Int} {x : Int} (hx : 0 ≤ x) (hl : x < D.length) : ∃ h : x.toNat < D.length, rd D x = D[x.toNat] := by
  have h : x.toNat < D.length := by omega
  exact ⟨h, by unfold rd; rw [List.getD_eq_getElem?_getD, List.getElem?_eq_getElem h]; rfl⟩
theorem rd_memI {D : List Int} {x : Int} (hx : 0 ≤ x) (hl : x < D.length) : rd D x ∈ D := by
  obtain ⟨h, e⟩ := rd_lt hx hl
  rw [e]; exact List.getElem_mem h
theorem mem_rd {D : List Int} {v : Int} (h : v ∈ D) : ∃ j : Nat, j < D.length ∧ rd D (j : Int) = v := by
  obtain ⟨j, hj, rfl⟩ := List.getElem_of_mem h
  exact ⟨j, hj, by rw [rd_nat, List.getD_eq_getElem?_getD, List.getElem?_eq_getElem hj]; rfl⟩
theorem rd_app_left {D E : List Int} {j : Nat} (h : j < D.length) : rd (D ++ E) (j : Int) = rd D (j : Int) := by
  simp only [rd_nat, List.getD_eq_getElem?_getD]
  rw [List.getElem?_append_left h]
theorem rd_app_last {D : List Int} {v : Int} : rd (D ++ [v]) (D.length : Int) = v := by
  simp only [rd_nat, List.getD_eq_getElem?_getD]
  rw [List.getElem?_append_right (Nat.le_refl _)]
  simp
def bfsD (nx : Int → Int → Int) (c : Int) : List Int → List Int × List Int → List Int × List Int
  | [], s => s
  | d :: ds, s => if 0 ≤ nx c d ∧ rd s.1 (nx c d) < 0 then bfsD nx c ds (s.1.set (nx c d).toNat (rd s.1 c + 1), s.2 ++ [nx c d]) else bfsD nx c ds s
def bfs (nx : Int → Int → Int) : Nat → Nat → List Int × List Int → List Int
  | 0, _, s => s.1
  | f + 1, i, s => if i < s.2.length then bfs nx f (i + 1) (bfsD nx (rd s.2 i) [0, 1, 2, 3] s) else s.1
def dists (nx : Int → Int → Int) (N : Nat) (a : Int) : List Int := bfs nx (N + 1) 0 ((List.replicate N (-1)).set a.toNat 0, [a])
inductive Walk (nx : Int → Int → Int) (a : Int) : Nat → Int → Prop
  | nil : Walk nx a 0 a
  | snoc {n : Nat} {b d : Int} : Walk nx a n b → 0 ≤ nx b d → Walk nx a (n + 1) (nx b d)
structure Steps (nx : Int → Int → Int) (N : Nat) : Prop where
  rng : ∀ c d, 0 ≤ nx c d → 0 ≤ c ∧ c < N ∧ nx c d < N ∧ 0 ≤ d ∧ d ≤ 3
structure Bfs (nx : Int → Int → Int) (N : Nat) (a : Int) (D Q : List Int) : Prop where
  len : D.length = N
  cnt : D.countP (· < 0) + Q.length = N
  inq : ∀ x ∈ Q, 0 ≤ x ∧ x < N ∧ 0 ≤ rd D x ∧ Walk nx a (rd D x).toNat x
  out : ∀ x : Int, 0 ≤ x → x < N → x ∉ Q → rd D x = -1
  src : rd D a = 0 ∧ a ∈ Q
  mono : ∀ j k : Nat, j ≤ k → k < Q.length → rd D (rd Q j) ≤ rd D (rd Q k)
structure BfsAt (nx : Int → Int → Int) (N : Nat) (a : Int) (i : Nat) (D Q : List Int) : Prop extends Bfs nx N a D Q where
  near : i < Q.length → ∀ x ∈ Q, rd D x ≤ rd D (rd Q i) + 1
  done : ∀ j, j < i → j < Q.length → ∀ d, 0 ≤ nx (rd Q j) d → nx (rd Q j) d ∈ Q ∧ rd D (nx (rd Q j) d) ≤ rd D (rd Q j) + 1
theorem countP_lt_set {D : List Int} {i v : Int} (hi : 0 ≤ i) (hl : i < D.length) (hneg : rd D i < 0) (hv : 0 ≤ v) : (D.set i.toNat v).countP (· < 0) + 1 = D.countP (· < 0) := by
  obtain ⟨h, e⟩ := rd_lt hi hl
  rw [e] at hneg
  have hpos : 0 < D.countP (· < 0) := List.countP_pos_iff.2 ⟨D[i.toNat], List.getElem_mem h, by simpa using hneg⟩
  rw [List.countP_set h]
  simp [hneg, show ¬ v < 0 by omega]
  omega
theorem bfs_push {nx : Int → Int → Int} {N : Nat} {a : Int} {i : Nat} {D Q : List Int} (S : Steps nx N) (B : BfsAt nx N a i D Q) (hi : i < Q.length) {d : Int} (h0 : 0 ≤ nx (rd Q i) d) (hneg : rd D (nx (rd Q i) d) < 0) :
    BfsAt nx N a i (D.set (nx (rd Q i) d).toNat (rd D (rd Q i) + 1)) (Q ++ [nx (rd Q i) d]) := by
  have hci : rd Q i ∈ Q := rd_memI (by omega) (by omega)
  generalize hc : rd Q i = c at *
  generalize hn : nx c d = n at *
  have hr := S.rng c d (by omega)
  rw [hn] at hr
  obtain ⟨c0, c1, cd, cw⟩ := B.inq c hci
  have hnl : n < D.length := by rw [B.len]; omega
  have hnQ : n ∉ Q := fun h => by have := (B.inq n h).2.2.1; omega
  have same : ∀ x ∈ Q, rd (D.set n.toNat (rd D c + 1)) x = rd D x := fun x hx => by
    have := (B.inq x hx).1
    rw [rd_set h0 this hnl, if_neg (by rintro rfl; exact hnQ hx)]
  have newv : rd (D.set n.toNat (rd D c + 1)) n = rd D c + 1 := by rw [rd_set h0 h0 hnl, if_pos rfl]
  have rq : ∀ j : Nat, j < Q.length → rd (Q ++ [n]) (j : Int) = rd Q (j : Int) := fun j hj => rd_app_left hj
  have wn : Walk nx a (rd D c + 1).toNat n := by
    have := Walk.snoc (d := d) cw (by omega)
    rw [hn] at this
    rwa [show (rd D c).toNat + 1 = (rd D c + 1).toNat by omega] at this
  refine ⟨⟨by rw [List.length_set, B.len], ?_, ?_, ?_, ?_, ?_⟩, ?_, ?_⟩
  · have := countP_lt_set (v := rd D c + 1) h0 hnl hneg (by omega)
    have := B.cnt
    rw [List.length_append, List.length_singleton]
    omega
  · intro x hx
    rcases List.mem_append.1 hx with hx | hx
    · rw [same x hx]; exact B.inq x hx
    · rw [List.mem_singleton.1 hx, newv]
      exact ⟨h0, hr.2.2.1, by omega, wn⟩
  · intro x x0 x1 hx
    rw [List.mem_append, not_or] at hx
    rw [rd_set h0 x0 hnl, if_neg (by rintro rfl; exact hx.2 (by simp))]
    exact B.out x x0 x1 hx.1
  · exact ⟨by rw [same a B.src.2]; exact B.src.1, List.mem_append_left _ B.src.2⟩
  · intro j k hjk hk
    rw [List.length_append, List.length_singleton] at hk
    by_cases hk' : k < Q.length
    · rw [rq j (by omega), rq k hk', same _ (rd_memI (by omega) (by omega)), same _ (rd_memI (by omega) (by omega))]
      exact B.mono j k hjk hk'
    · have ek : k = Q.length := by omega
      subst ek
      rw [rd_app_last, newv]
      by_cases hj' : j < Q.length
      · rw [rq j hj', same _ (rd_memI (by omega) (by omega))]
        have := B.near hi _ (rd_memI (D := Q) (x := (j : Int)) (by omega) (by omega))
        rw [hc] at this
        exact this
      · have ej : j = Q.length := by omega
        subst ej
        rw [rd_app_last, newv]
        exact Int.le_refl _
  · intro _ x hx
    rw [rq i hi, hc]
    rcases List.mem_append.1 hx with hx | hx
    · rw [same x hx, same c hci]
      have := B.near hi x hx
      rwa [hc] at this
    · rw [List.mem_singleton.1 hx, newv, same c hci]
      exact Int.le_refl _
  · intro j hj hjl e he
    rw [rq j (by omega)] at he ⊢
    obtain ⟨m1, m2⟩ := B.done j hj (by omega) e he
    exact ⟨List.mem_append_left _ m1, by rw [same _ m1, same _ (rd_memI (by omega) (by omega))]; exact m2⟩
theorem bfs_dirs {nx : Int → Int → Int} {N : Nat} {a : Int} {i : Nat} (S : Steps nx N) : ∀ (ds : List Int) (D Q : List Int), BfsAt nx N a i D Q → i < Q.length → ∀ D' Q', bfsD nx (rd Q i) ds (D, Q) = (D', Q') →
    BfsAt nx N a i D' Q' ∧ i < Q'.length ∧ rd Q' i = rd Q i ∧ (∀ x ∈ Q, x ∈ Q') ∧ (∀ d ∈ ds, 0 ≤ nx (rd Q i) d → nx (rd Q i) d ∈ Q' ∧ rd D' (nx (rd Q i) d) ≤ rd D' (rd Q i) + 1)
  | [], D, Q, B, hi, D', Q', e => by
    simp only [bfsD, Prod.mk.injEq] at e
    obtain ⟨rfl, rfl⟩ := e
    exact ⟨B, hi, rfl, fun _ h => h, fun d hd => by simp at hd⟩
  | d :: ds, D, Q, B, hi, D', Q', e => by
    simp only [bfsD] at e
    by_cases h : 0 ≤ nx (rd Q i) d ∧ rd D (nx (rd Q i) d) < 0
    · rw [if_pos h] at e
      have B' := bfs_push S B hi h.1 h.2
      have hq : rd (Q ++ [nx (rd Q i) d]) (i : Int) = rd Q i := rd_app_left hi
      have hi' : i < (Q ++ [nx (rd Q i) d]).length := by rw [List.length_append]; omega
      rw [← hq] at e
      obtain ⟨r1, r2, r3, r4, r5⟩ := bfs_dirs S ds _ _ B' hi' D' Q' (by rw [hq] at e ⊢; exact e)
      rw [hq] at r3 r5
      refine ⟨r1, r2, r3, fun x hx => r4 x (List.mem_append_left _ hx), fun e' he h0 => ?_⟩
      rcases List.mem_cons.1 he with rfl | he
      · have hm := r4 (nx (rd Q i) e') (by simp)
        have := r1.near r2 _ hm
        rw [r3] at this
        exact ⟨hm, this⟩
      · exact r5 e' he h0
    · rw [if_neg h] at e
      obtain ⟨r1, r2, r3, r4, r5⟩ := bfs_dirs S ds D Q B hi D' Q' e
      refine ⟨r1, r2, r3, r4, fun e' he h0 => ?_⟩
      rcases List.mem_cons.1 he with rfl | he
      · have hr := S.rng _ _ h0
        have hge : ¬ rd D (nx (rd Q i) e') < 0 := fun hh => h ⟨h0, hh⟩
        have hm : nx (rd Q i) e' ∈ Q := by
          by_cases hx : nx (rd Q i) e' ∈ Q
          · exact hx
          · have := B.out _ h0 hr.2.2.1 hx
            omega
        have := r1.near r2 _ (r4 _ hm)
        rw [r3] at this
        exact ⟨r4 _ hm, this⟩
      · exact r5 e' he h0
theorem bfs_run {nx : Int → Int → Int} {N : Nat} {a : Int} (S : Steps nx N) : ∀ (f i : Nat) (D Q : List Int), BfsAt nx N a i D Q → N < f + i → ∃ Q', BfsAt nx N a Q'.length (bfs nx f i (D, Q)) Q' ∨ (∃ j, Q'.length ≤ j ∧ BfsAt nx N a j (bfs nx f i (D, Q)) Q')
  | 0, i, D, Q, B, hf => ⟨Q, .inr ⟨i, by have := B.cnt; omega, B⟩⟩
  | f + 1, i, D, Q, B, hf => by
    simp only [bfs]
    by_cases hi : i < Q.length
    · rw [if_pos hi]
      generalize hs : bfsD nx (rd Q i) [0, 1, 2, 3] (D, Q) = s
      obtain ⟨D', Q'⟩ := s
      obtain ⟨r1, r2, r3, r4, r5⟩ := bfs_dirs S _ D Q B hi D' Q' hs
      refine bfs_run S f (i + 1) D' Q' ⟨r1.toBfs, fun h x hx => ?_, fun j hj hjl d hd => ?_⟩ (by omega)
      · have h1 := r1.near r2 x hx
        have h2 := r1.mono i (i + 1) (by omega) h
        omega
      · by_cases hj' : j = i
        · subst hj'
          rw [r3] at hd ⊢
          have hr := S.rng _ _ hd
          exact r5 d (by have : d = 0 ∨ d = 1 ∨ d = 2 ∨ d = 3 := by omega
                         rcases this with rfl | rfl | rfl | rfl <;> simp) hd
        · exact r1.done j (by omega) hjl d hd
    · rw [if_neg hi]
      exact ⟨Q, .inr ⟨i, by omega, B⟩⟩
theorem dists_spec {nx : Int → Int → Int} {N : Nat} {a : Int} (S : Steps nx N) (h0 : 0 ≤ a) (h1 : a < N) : (dists nx N a).length = N ∧ rd (dists nx N a) a = 0 ∧
    ∀ x : Int, 0 ≤ x → x < N → (rd (dists nx N a) x = -1 ∧ ∀ n, ¬ Walk nx a n x) ∨ (0 ≤ rd (dists nx N a) x ∧ Walk nx a (rd (dists nx N a) x).toNat x ∧ ∀ n, Walk nx a n x → rd (dists nx N a) x ≤ n) := by
  have hrep : ∀ x : Int, 0 ≤ x → x < N → rd (List.replicate N (-1)) x = -1 := fun x x0 x1 => by
    obtain ⟨h, e⟩ := rd_lt (D := List.replicate N (-1 : Int)) x0 (by simpa using x1)
    rw [e, List.getElem_replicate]
  have hset : ∀ x : Int, 0 ≤ x → x < N → rd ((List.replicate N (-1)).set a.toNat 0) x = if x = a then 0 else -1 := fun x x0 x1 => by
    rw [rd_set h0 x0 (by simpa using h1)]
    split
    · rfl
    · exact hrep x x0 x1
  have B0 : BfsAt nx N a 0 ((List.replicate N (-1)).set a.toNat 0) [a] := by
    refine ⟨⟨by simp, ?_, ?_, ?_, ?_, ?_⟩, ?_, ?_⟩
    · have := countP_lt_set (D := List.replicate N (-1 : Int)) (i := a) (v := 0) h0 (by simpa using h1) (by rw [hrep a h0 h1]; decide) (by decide)
      rw [List.countP_replicate] at this
      simpa using this
    · intro x hx
      rw [List.mem_singleton.1 hx, hset a h0 h1, if_pos rfl]
      exact ⟨h0, h1, by decide, Walk.nil⟩
    · intro x x0 x1 hx
      rw [hset x x0 x1, if_neg (by simpa using hx)]
    · exact ⟨by rw [hset a h0 h1, if_pos rfl], by simp⟩
    · intro j k hjk hk
      have : j = 0 := by simp at hk; omega
      have : k = 0 := by simp at hk; omega
      subst_vars
      exact Int.le_refl _
    · intro _ x hx
      rw [List.mem_singleton.1 hx]
      simp [rd]
      omega
    · intro j hj; omega
  have fin : ∃ j Q', Q'.length ≤ j ∧ BfsAt nx N a j (dists nx N a) Q' := by
    obtain ⟨Q', h | ⟨j, hj, h⟩⟩ := bfs_run S (N + 1) 0 _ _ B0 (by omega)
    · exact ⟨_, Q', Nat.le_refl _, h⟩
    · exact ⟨j, Q', hj, h⟩
  obtain ⟨j, Q', hj, B⟩ := fin
  have close : ∀ n x, Walk nx a n x → x ∈ Q' ∧ rd (dists nx N a) x ≤ n := by
    intro n x h
    induction h with
    | nil => exact ⟨B.src.2, by rw [B.src.1]; simp⟩
    | @snoc n b d hw hd ih =>
      obtain ⟨m1, m2⟩ := ih
      obtain ⟨i, hi, rfl⟩ := mem_rd m1
      obtain ⟨q1, q2⟩ := B.done i (by omega) hi d hd
      exact ⟨q1, by omega⟩
  refine ⟨B.len, B.src.1, fun x x0 x1 => ?_⟩
  by_cases hx : x ∈ Q'
  · right
    obtain ⟨_, _, q1, q2⟩ := B.inq x hx
    exact ⟨q1, q2, fun n hn => (close n x hn).2⟩
  · left
    exact ⟨B.out x x0 x1 hx, fun n hn => hx (close n x hn).1⟩
structure Sym (nx : Int → Int → Int) : Prop where
  back : ∀ c d, 0 ≤ nx c d → ∃ e, nx (nx c d) e = c
theorem Walk.cons {nx : Int → Int → Int} {a d : Int} (h0 : 0 ≤ nx a d) {n : Nat} {b : Int} (h : Walk nx (nx a d) n b) : Walk nx a (n + 1) b := by
  induction h with
  | nil => exact Walk.snoc Walk.nil h0
  | snoc _ hd ih => exact Walk.snoc ih hd
theorem Walk.trans {nx : Int → Int → Int} {a b : Int} {n : Nat} (h : Walk nx a n b) {m : Nat} {c : Int} (k : Walk nx b m c) : Walk nx a (n + m) c := by
  induction k with
  | nil => exact h
  | snoc _ hd ih => exact Walk.snoc ih hd
theorem Walk.rev {nx : Int → Int → Int} {N : Nat} (S : Steps nx N) (Y : Sym nx) {a : Int} {n : Nat} {b : Int} (h : Walk nx a n b) : Walk nx b n a := by
  induction h with
  | nil => exact Walk.nil
  | @snoc n b d hw hd ih =>
    obtain ⟨e, he⟩ := Y.back b d hd
    have := S.rng b d hd
    have h2 : Walk nx (nx (nx b d) e) n a := by rw [he]; exact ih
    exact Walk.cons (by rw [he]; omega) h2
end Go.Proofs.Ytccjanhdnheclaa.F
end

section
namespace Go.Proofs.Ytccjanhdnheclaa.F
open Go.RowKit Go.Proofs.YtccjanhdnheclaaW.PrintWords Go.Proofs.YtccjanhdnheclaaW.PrintLast Go.Proofs.YtccjanhdnheclaaW.PrintMore
set_option linter.unusedVariables false
set_option linter.unusedSimpArgs false
def gok (w h : Int) : Bool := decide (1 ≤ w ∧ w ≤ 4 ∧ 1 ≤ h ∧ h ≤ 4)
theorem gok_iff {w h : Int} : gok w h = true ↔ 1 ≤ w ∧ w ≤ 4 ∧ 1 ≤ h ∧ h ≤ 4 := by simp [gok]
theorem gok_wide {w h : Int} (H : gok w h = true) : w = 1 ∨ w = 2 ∨ w = 3 ∨ w = 4 := by rw [gok_iff] at H; omega
theorem gok_high {w h : Int} (H : gok w h = true) : h = 1 ∨ h = 2 ∨ h = 3 ∨ h = 4 := by rw [gok_iff] at H; omega
def cells (w h : Int) : Int := if gok w h then w * h else 0
def gaps (w h : Int) : Int := if gok w h then (w - 1) * h + w * (h - 1) else 0
theorem cells_bd (w h : Int) : 0 ≤ cells w h ∧ cells w h ≤ 16 := by
  unfold cells
  by_cases H : gok w h = true
  · rw [if_pos H]
    rcases gok_wide H with rfl | rfl | rfl | rfl <;> rcases gok_high H with rfl | rfl | rfl | rfl <;> omega
  · rw [if_neg H]; omega
theorem gaps_bd (w h : Int) : 0 ≤ gaps w h ∧ gaps w h ≤ 24 := by
  unfold gaps
  by_cases H : gok w h = true
  · rw [if_pos H]
    rcases gok_wide H with rfl | rfl | rfl | rfl <;> rcases gok_high H with rfl | rfl | rfl | rfl <;> omega
  · rw [if_neg H]; omega
theorem impl_GridOk_eq (w h : Int) : impl_GridOk.f w h = some (gok w h) := by
  unfold impl_GridOk.f gok
  by_cases h1 : w ≥ 1 <;> by_cases h2 : w ≤ 4 <;> by_cases h3 : h ≥ 1 <;> simp [*] <;> omega
theorem spec_l01In_eq (x a b : Int) : spec_l01In.f x a b = some (decide (a ≤ x ∧ x ≤ b)) := by
  unfold spec_l01In.f
  by_cases h1 : x ≥ a
  · simp [h1]
  · rw [if_neg h1]; simp; omega
theorem spec_GridOk_eq (w h : Int) : spec_GridOk.f w h = some (gok w h) := by
  unfold spec_GridOk.f
  simp only [spec_l01In_eq, Option.bind_some]
  unfold gok
  by_cases h1 : 1 ≤ w ∧ w ≤ 4
  · simp [h1]
  · rw [if_neg (by simpa using h1)]; simp; omega
theorem gok_mul {w h : Int} (H : gok w h = true) : 1 ≤ w * h ∧ w * h ≤ 16 ∧ 0 ≤ (w - 1) * h ∧ (w - 1) * h ≤ 12 ∧ 0 ≤ w * (h - 1) ∧ w * (h - 1) ≤ 12 := by
  rcases gok_wide H with rfl | rfl | rfl | rfl <;> rcases gok_high H with rfl | rfl | rfl | rfl <;> omega
theorem impl_CountCells_eq (w h : Int) : impl_CountCells.f w h = some (cells w h) := by
  unfold impl_CountCells.f cells
  rw [impl_GridOk_eq, Option.bind_some]
  by_cases H : gok w h = true
  · have := gok_mul H
    rw [if_pos H, if_pos H, w64 (by omega) (by omega)]
  · rw [if_neg H, if_neg H]
theorem spec_CountCells_eq (w h : Int) : spec_CountCells.f w h = some (cells w h) := by
  unfold spec_CountCells.f cells
  rw [spec_GridOk_eq, Option.bind_some]
  by_cases H : gok w h = true
  · have := gok_mul H
    rw [if_pos H, if_pos H, w64 (by omega) (by omega)]
  · rw [if_neg H, if_neg H]
theorem impl_CountGaps_eq (w h : Int) : impl_CountGaps.f w h = some (gaps w h) := by
  unfold impl_CountGaps.f gaps
  rw [impl_GridOk_eq, Option.bind_some]
  by_cases H : gok w h = true
  · have := gok_mul H
    have b := gok_iff.1 H
    rw [if_pos H, if_pos H, w64 (x := w - 1) (by omega) (by omega), w64 (x := h - 1) (by omega) (by omega), w64 (x := (w - 1) * h) (by omega) (by omega), w64 (x := w * (h - 1)) (by omega) (by omega), w64 (by omega) (by omega)]
  · rw [if_neg H, if_neg H]
theorem spec_CountGaps_eq (w h : Int) : spec_CountGaps.f w h = some (gaps w h) := by
  unfold spec_CountGaps.f spec_l02East.f gaps
  rw [spec_GridOk_eq, Option.bind_some]
  by_cases H : gok w h = true
  · have := gok_mul H
    have b := gok_iff.1 H
    rw [if_pos H, if_pos H, Option.bind_some, w64 (x := w - 1) (by omega) (by omega), w64 (x := h - 1) (by omega) (by omega), Int.mul_comm h (w - 1), w64 (x := (w - 1) * h) (by omega) (by omega), w64 (x := w * (h - 1)) (by omega) (by omega), w64 (by omega) (by omega)]
  · rw [if_neg H, if_neg H]
def icell (w h c : Int) : Bool := decide (0 ≤ c ∧ c < cells w h)
def igap (w h g : Int) : Bool := decide (0 ≤ g ∧ g < gaps w h)
theorem icell_iff {w h c : Int} : icell w h c = true ↔ 0 ≤ c ∧ c < cells w h := by simp [icell]
theorem igap_iff {w h c : Int} : igap w h c = true ↔ 0 ≤ c ∧ c < gaps w h := by simp [igap]
theorem impl_isCell_eq (w h c : Int) : impl_isCell.f w h c = some (icell w h c) := by
  unfold impl_isCell.f icell
  rw [impl_CountCells_eq]
  by_cases h1 : c ≥ 0
  · rw [if_pos h1]; simp [h1]
  · rw [if_neg h1]; simp; omega
theorem in_cells (w h c : Int) : decide (0 ≤ c ∧ c ≤ wrap64 (cells w h - 1)) = icell w h c := by
  have := cells_bd w h
  rw [w64 (by omega) (by omega)]
  unfold icell
  rw [Bool.eq_iff_iff]; simp; omega
theorem in_gaps (w h c : Int) : decide (0 ≤ c ∧ c ≤ wrap64 (gaps w h - 1)) = igap w h c := by
  have := gaps_bd w h
  rw [w64 (by omega) (by omega)]
  unfold igap
  rw [Bool.eq_iff_iff]; simp; omega
theorem icell_gok {w h c : Int} (H : icell w h c = true) : gok w h = true := by
  rw [icell_iff] at H
  unfold cells at H
  by_cases G : gok w h = true
  · exact G
  · rw [if_neg G] at H; omega
theorem icell_mul {w h c : Int} (H : icell w h c = true) : 0 ≤ c ∧ c < w * h := by
  have G := icell_gok H
  rw [icell_iff] at H
  unfold cells at H
  rwa [if_pos G] at H
def nb (w h c d : Int) : Int :=
  if icell w h c then
    (if d = 0 then (if c / w > 0 then c - w else -1) else if d = 1 then (if c % w < w - 1 then c + 1 else -1) else if d = 2 then (if c / w < h - 1 then c + w else -1) else if d = 3 then (if c % w > 0 then c - 1 else -1) else -1)
  else -1
theorem div_facts {w h c : Int} (G : gok w h = true) (H : 0 ≤ c ∧ c < w * h) : Int.tdiv c w = c / w ∧ Int.tmod c w = c % w ∧ wrap64 (c / w) = c / w ∧ 0 ≤ c / w ∧ c / w < h ∧ 0 ≤ c % w ∧ c % w < w ∧ w * (c / w) + c % w = c := by
  have b := gok_iff.1 G
  have e1 : Int.tdiv c w = c / w := Int.tdiv_eq_ediv_of_nonneg H.1
  have e2 : Int.tmod c w = c % w := Int.tmod_eq_emod_of_nonneg H.1
  have e3 : 0 ≤ c / w := Int.ediv_nonneg H.1 (by omega)
  have e4 : c / w < h := by
    apply Int.ediv_lt_of_lt_mul (by omega)
    rw [Int.mul_comm]; exact H.2
  exact ⟨e1, e2, w64 (by omega) (by omega), e3, e4, Int.emod_nonneg _ (by omega), Int.emod_lt_of_pos _ (by omega), Int.mul_ediv_add_emod c w⟩
theorem impl_Neighbor_eq {k : Nat} (hk : 3 ≤ k) (w h c d : Int) : impl_Neighbor.f k w h c d = some (nb w h c d) := by
  obtain ⟨m, rfl⟩ : ∃ m, k = m + 3 := ⟨k - 3, by omega⟩
  unfold impl_Neighbor.f nb
  rw [impl_isCell_eq, Option.bind_some]
  by_cases H : icell w h c = true
  · have G := icell_gok H
    have b := gok_iff.1 G
    have hc := icell_mul H
    have hm := gok_mul G
    obtain ⟨e1, e2, e3, y0, y1, x0, x1, hq⟩ := div_facts G hc
    rw [if_pos H, if_pos H, if_neg (by omega), e1, e2, e3]
    simp only [impl_Neighbor.j0, impl_Neighbor.j1, impl_Neighbor.j2]
    rw [w64 (x := w - 1) (by omega) (by omega), w64 (x := h - 1) (by omega) (by omega)]
    by_cases d0 : d = 0
    · subst d0
      by_cases t : c / w > 0 <;> simp [t, w64 (x := c - w) (by omega) (by omega)]
    by_cases d1 : d = 1
    · subst d1
      by_cases t : c % w < w - 1 <;> simp [t, w64 (x := c + 1) (by omega) (by omega)]
    by_cases d2 : d = 2
    · subst d2
      by_cases t : c / w < h - 1 <;> simp [t, w64 (x := c + w) (by omega) (by omega)]
    by_cases d3 : d = 3
    · subst d3
      by_cases t : c % w > 0 <;> simp [t, w64 (x := c - 1) (by omega) (by omega)]
    simp [d0, d1, d2, d3]
  · rw [if_neg H, if_neg H]
theorem spec_j0_eq {w h : Int} (G : gok w h = true) (m : Nat) {x y : Int} : spec_Neighbor.j0 (m + 1) x y w h = some (if 0 ≤ x ∧ x ≤ w - 1 ∧ 0 ≤ y ∧ y ≤ h - 1 then y * w + x else -1) := by
  have b := gok_iff.1 G
  simp only [spec_Neighbor.j0, spec_l01In_eq, Option.bind_some, decide_eq_true_eq]
  rw [w64 (x := w - 1) (by omega) (by omega), w64 (x := h - 1) (by omega) (by omega)]
  by_cases h1 : 0 ≤ x ∧ x ≤ w - 1
  · rw [if_pos h1]
    by_cases h2 : 0 ≤ y ∧ y ≤ h - 1
    · have l1 : y * w ≤ 3 * 4 := Int.mul_le_mul (by omega) (by omega) (by omega) (by omega)
      have l0 : 0 ≤ y * w := Int.mul_nonneg (by omega) (by omega)
      rw [if_pos h2, if_pos ⟨h1.1, h1.2, h2.1, h2.2⟩, w64 (x := y * w) (by omega) (by omega), w64 (by omega) (by omega)]
    · rw [if_neg h2, if_neg (fun h => h2 ⟨h.2.2.1, h.2.2.2⟩)]
  · rw [if_neg h1, if_neg (fun h => h1 ⟨h.1, h.2.1⟩)]
theorem spec_Neighbor_eq {k : Nat} (hk : 1 ≤ k) (w h c d : Int) : spec_Neighbor.f k w h c d = some (nb w h c d) := by
  obtain ⟨m, rfl⟩ : ∃ m, k = m + 1 := ⟨k - 1, by omega⟩
  unfold spec_Neighbor.f nb
  rw [spec_CountCells_eq, Option.bind_some, spec_l01In_eq, Option.bind_some, in_cells]
  by_cases H : icell w h c = true
  · have G := icell_gok H
    have b := gok_iff.1 G
    have hc := icell_mul H
    have hm := gok_mul G
    obtain ⟨e1, e2, e3, y0, y1, x0, x1, hq⟩ := div_facts G hc
    rw [if_pos H, if_pos H, if_neg (by omega), e1, e2, e3, w64 (x := c / w - 1) (by omega) (by omega), w64 (x := c / w + 1) (by omega) (by omega), w64 (x := c % w - 1) (by omega) (by omega), w64 (x := c % w + 1) (by omega) (by omega)]
    simp only [spec_j0_eq G]
    have p1 : (c / w - 1) * w = w * (c / w) - w := by rw [Int.sub_mul, Int.one_mul, Int.mul_comm]
    have p2 : (c / w + 1) * w = w * (c / w) + w := by rw [Int.add_mul, Int.one_mul, Int.mul_comm]
    have p3 : (c / w) * w = w * (c / w) := Int.mul_comm _ _
    rw [p1, p2, p3]
    by_cases d0 : d = 0
    · rw [if_pos d0, if_pos d0]
      by_cases t : c / w > 0
      · rw [if_pos (by omega), if_pos t]; congr 1; omega
      · rw [if_neg (by omega), if_neg t]
    rw [if_neg d0, if_neg d0]
    by_cases d1 : d = 1
    · rw [if_pos d1, if_pos d1]
      by_cases t : c % w < w - 1
      · rw [if_pos (by omega), if_pos t]; congr 1; omega
      · rw [if_neg (by omega), if_neg t]
    rw [if_neg d1, if_neg d1]
    by_cases d2 : d = 2
    · rw [if_pos d2, if_pos d2]
      by_cases t : c / w < h - 1
      · rw [if_pos (by omega), if_pos t]; congr 1; omega
      · rw [if_neg (by omega), if_neg t]
    rw [if_neg d2, if_neg d2]
    by_cases d3 : d = 3
    · rw [if_pos d3, if_pos d3]
      by_cases t : c % w > 0
      · rw [if_pos (by omega), if_pos t]; congr 1; omega
      · rw [if_neg (by omega), if_neg t]
    rw [if_neg d3, if_neg d3]
  · rw [if_neg H, if_neg H]
end Go.Proofs.Ytccjanhdnheclaa.F
end

section
namespace Go.Proofs.Ytccjanhdnheclaa.F
open Go.RowKit Go.Proofs.YtccjanhdnheclaaW.PrintWords Go.Proofs.YtccjanhdnheclaaW.PrintLast Go.Proofs.YtccjanhdnheclaaW.PrintMore
set_option linter.unusedVariables false
set_option linter.unusedSimpArgs false
theorem mn_min (a b : Int) : mn a b = min a b := by unfold mn; omega
theorem mx_max (a b : Int) : mx a b = max a b := by unfold mx; omega
theorem nb_facts {w h c d : Int} (H : 0 ≤ nb w h c d) : icell w h c = true ∧ icell w h (nb w h c d) = true ∧ 0 ≤ d ∧ d ≤ 3 := by
  unfold nb at H ⊢
  by_cases hc : icell w h c = true
  · have G := icell_gok hc
    have b := gok_iff.1 G
    have hm := icell_mul hc
    obtain ⟨_, _, _, y0, y1, x0, x1, hq⟩ := div_facts G hm
    rw [if_pos hc] at H ⊢
    have m1 : w * (c / w) ≤ w * (h - 1) := Int.mul_le_mul_of_nonneg_left (by omega) (by omega)
    have m2 : w * (h - 1) = w * h - w := by rw [Int.mul_sub, Int.mul_one]
    have ce : cells w h = w * h := by unfold cells; rw [if_pos G]
    refine ⟨hc, ?_, ?_⟩
    · rw [icell_iff, ce]
      by_cases d0 : d = 0
      · subst d0
        by_cases t : c / w > 0
        · have m3 : w * 1 ≤ w * (c / w) := Int.mul_le_mul_of_nonneg_left (by omega) (by omega)
          simp [t]; omega
        · simp [t] at H
      by_cases d1 : d = 1
      · subst d1
        by_cases t : c % w < w - 1
        · simp [t]; omega
        · simp [t] at H
      by_cases d2 : d = 2
      · subst d2
        by_cases t : c / w < h - 1
        · have m4 : w * (c / w + 1) ≤ w * (h - 1) := Int.mul_le_mul_of_nonneg_left (by omega) (by omega)
          rw [Int.mul_add, Int.mul_one] at m4
          simp [t]; omega
        · simp [t] at H
      by_cases d3 : d = 3
      · subst d3
        by_cases t : c % w > 0
        · simp [t]; omega
        · simp [t] at H
      simp [d0, d1, d2, d3] at H
    · by_cases d0 : d = 0
      · omega
      by_cases d1 : d = 1
      · omega
      by_cases d2 : d = 2
      · omega
      by_cases d3 : d = 3
      · omega
      simp [d0, d1, d2, d3] at H
  · rw [if_neg hc] at H; omega
def gp (w h c d : Int) : Int :=
  if nb w h c d < 0 then -1 else if d = 1 ∨ d = 3 then min c (nb w h c d) / w * (w - 1) + min c (nb w h c d) % w else (w - 1) * h + min c (nb w h c d)
theorem gp_neg {w h c d : Int} (H : nb w h c d < 0) : gp w h c d = -1 := by unfold gp; rw [if_pos H]
theorem min_facts {w h c d : Int} (H : 0 ≤ nb w h c d) : 0 ≤ min c (nb w h c d) ∧ min c (nb w h c d) < w * h ∧ gok w h = true := by
  obtain ⟨h1, h2, _, _⟩ := nb_facts H
  have a := icell_mul h1
  have b := icell_mul h2
  exact ⟨by omega, by omega, icell_gok h1⟩
theorem impl_GapAt_eq {k : Nat} (hk : 3 ≤ k) (w h c d : Int) : impl_GapAt.f k w h c d = some (gp w h c d) := by
  unfold impl_GapAt.f gp
  rw [impl_Neighbor_eq hk, Option.bind_some]
  by_cases H : nb w h c d < 0
  · rw [if_pos H, if_pos H]
  · have H' : 0 ≤ nb w h c d := by omega
    obtain ⟨m0, m1, G⟩ := min_facts H'
    have b := gok_iff.1 G
    have hm := gok_mul G
    rw [if_neg H, if_neg H, mn_min]
    obtain ⟨e1, e2, e3, y0, y1, x0, x1, hq⟩ := div_facts G ⟨m0, m1⟩
    have l1 : min c (nb w h c d) / w * (w - 1) ≤ 3 * 3 := Int.mul_le_mul (by omega) (by omega) (by omega) (by omega)
    have l0 : 0 ≤ min c (nb w h c d) / w * (w - 1) := Int.mul_nonneg y0 (by omega)
    have t1 : wrap64 (wrap64 (wrap64 (Int.tdiv (min c (nb w h c d)) w) * wrap64 (w - 1)) + Int.tmod (min c (nb w h c d)) w) = min c (nb w h c d) / w * (w - 1) + min c (nb w h c d) % w := by
      rw [e1, e2, e3, w64 (x := w - 1) (by omega) (by omega), w64 (x := _ * _) (by omega) (by omega), w64 (by omega) (by omega)]
    have t2 : wrap64 (wrap64 (wrap64 (w - 1) * h) + min c (nb w h c d)) = (w - 1) * h + min c (nb w h c d) := by
      rw [w64 (x := w - 1) (by omega) (by omega), w64 (x := (w - 1) * h) (by omega) (by omega), w64 (by omega) (by omega)]
    rw [t1, t2]
    by_cases d1 : d = 1
    · simp [d1]; omega
    · by_cases d3 : d = 3
      · simp [d3]; omega
      · simp [d1, d3]
theorem spec_GapAt_eq {k : Nat} (hk : 1 ≤ k) (w h c d : Int) : spec_GapAt.f k w h c d = some (gp w h c d) := by
  unfold spec_GapAt.f gp
  rw [spec_Neighbor_eq hk, Option.bind_some]
  by_cases H : nb w h c d < 0
  · rw [if_pos H, if_pos H]
  · have H' : 0 ≤ nb w h c d := by omega
    obtain ⟨m0, m1, G⟩ := min_facts H'
    have b := gok_iff.1 G
    have hm := gok_mul G
    rw [if_neg H, if_neg H, mn_min]
    obtain ⟨e1, e2, e3, y0, y1, x0, x1, hq⟩ := div_facts G ⟨m0, m1⟩
    have l1 : min c (nb w h c d) / w * (w - 1) ≤ 3 * 3 := Int.mul_le_mul (by omega) (by omega) (by omega) (by omega)
    have l0 : 0 ≤ min c (nb w h c d) / w * (w - 1) := Int.mul_nonneg y0 (by omega)
    have t1 : wrap64 (wrap64 (wrap64 (Int.tdiv (min c (nb w h c d)) w) * wrap64 (w - 1)) + Int.tmod (min c (nb w h c d)) w) = min c (nb w h c d) / w * (w - 1) + min c (nb w h c d) % w := by
      rw [e1, e2, e3, w64 (x := w - 1) (by omega) (by omega), w64 (x := _ * _) (by omega) (by omega), w64 (by omega) (by omega)]
    have t2 : wrap64 (wrap64 (h * wrap64 (w - 1)) + min c (nb w h c d)) = (w - 1) * h + min c (nb w h c d) := by
      rw [w64 (x := w - 1) (by omega) (by omega), Int.mul_comm h, w64 (x := (w - 1) * h) (by omega) (by omega), w64 (by omega) (by omega)]
    simp only [spec_l02East.f, Option.bind_some]
    rw [t1, t2]
    by_cases d1 : d = 1
    · simp [d1]; omega
    · by_cases d3 : d = 3
      · simp [d3]; omega
      · simp [d1, d3]
def mok (w h o : Int) : Bool := gok w h && decide (0 ≤ o ∧ o < 2 ^ (gaps w h).toNat)
theorem mok_iff {w h o : Int} : mok w h o = true ↔ gok w h = true ∧ 0 ≤ o ∧ o < 2 ^ (gaps w h).toNat := by simp [mok]
theorem gpow (w h : Int) : (2 : Int) ^ (gaps w h).toNat ≤ 16777216 ∧ (1 : Int) ≤ 2 ^ (gaps w h).toNat := by
  have b := gaps_bd w h
  have p : (2 : Nat) ^ (gaps w h).toNat ≤ 2 ^ 24 := Nat.pow_le_pow_right (by decide) (by omega)
  have q : 0 < (2 : Nat) ^ (gaps w h).toNat := Nat.two_pow_pos _
  have e : ((2 : Int) ^ (gaps w h).toNat) = ((2 ^ (gaps w h).toNat : Nat) : Int) := by simp
  omega
theorem mok_small {w h o : Int} (H : mok w h o = true) : 0 ≤ o ∧ o < 16777216 := by
  have := mok_iff.1 H
  have := gpow w h
  omega
theorem shl_gaps (w h : Int) : shl .i64 1 (gaps w h) = 2 ^ (gaps w h).toNat := by
  have b := gaps_bd w h
  have := shl_one (g := (gaps w h).toNat) (by omega)
  rw [show (((gaps w h).toNat : Nat) : Int) = gaps w h from Int.toNat_of_nonneg b.1] at this
  rw [this]
  simp
theorem impl_MazeOk_eq (w h o : Int) : impl_MazeOk.f w h o = some (mok w h o) := by
  unfold impl_MazeOk.f mok
  have b := gaps_bd w h
  rw [impl_GridOk_eq, impl_CountGaps_eq]
  simp only [Option.bind_some, shl_gaps]
  by_cases G : gok w h = true
  · simp only [G, if_true, Bool.true_and]
    by_cases h0 : o ≥ 0
    · rw [if_pos h0, if_pos b.1]
      simp; omega
    · rw [if_neg h0]; simp; omega
  · simp [G]
theorem spec_MazeOk_eq (w h o : Int) : spec_MazeOk.f w h o = some (mok w h o) := by
  unfold spec_MazeOk.f mok
  have b := gaps_bd w h
  have p := gpow w h
  rw [spec_GridOk_eq, spec_CountGaps_eq]
  simp only [Option.bind_some, shl_gaps, w64 (x := (2 : Int) ^ (gaps w h).toNat - 1) (by omega) (by omega)]
  by_cases G : gok w h = true
  · simp only [Option.bind_some, G, if_true, Bool.true_and, spec_l01In_eq, if_pos b.1]
    congr 2
    exact propext ⟨fun h => ⟨h.1, by omega⟩, fun h => ⟨h.1, by omega⟩⟩
  · simp [G]
theorem impl_isOpen_eq {w h o : Int} (h0 : 0 ≤ o) (h1 : o < 9223372036854775808) (g : Int) : impl_isOpen.f w h o g = some (decide (0 ≤ g) && opn o g) := by
  unfold impl_isOpen.f
  by_cases hg : g ≥ 0
  · rw [if_pos hg, if_pos (by omega), bit_test h0 h1 (by omega)]
    simp; omega
  · rw [if_neg hg]
    simp; omega
theorem spec_l03Bit_eq {o : Int} (h0 : 0 ≤ o) (h1 : o < 9223372036854775808) {g : Int} (hg : 0 ≤ g) : spec_l03Bit.f o g = some (opn o g) := by
  unfold spec_l03Bit.f
  rw [if_pos hg, bit_test h0 h1 hg]
def psg (w h o g : Int) : Bool := mok w h o && igap w h g && opn o g
theorem spec_IsPassage_eq (w h o g : Int) : spec_IsPassage.f w h o g = some (psg w h o g) := by
  unfold spec_IsPassage.f psg
  rw [spec_MazeOk_eq, spec_CountGaps_eq]
  by_cases M : mok w h o = true
  · have s := mok_small M
    simp only [Option.bind_some, M, if_true, Bool.true_and, spec_l01In_eq, in_gaps]
    by_cases g1 : igap w h g = true
    · rw [if_pos g1, spec_l03Bit_eq s.1 (by omega) (igap_iff.1 g1).1]
      simp [g1]
    · rw [if_neg g1]; simp [g1]
  · simp [M]
theorem gp_range {w h c d : Int} (H : 0 ≤ nb w h c d) : igap w h (gp w h c d) = true := by
  obtain ⟨h1, h2, d0, d3⟩ := nb_facts H
  have G := icell_gok h1
  have a := icell_mul h1
  rw [igap_iff]
  unfold gp gaps
  rw [if_neg (by omega), if_pos G]
  have hd : d = 0 ∨ d = 1 ∨ d = 2 ∨ d = 3 := by omega
  revert H
  unfold nb
  rw [if_pos h1]
  rcases gok_wide G with rfl | rfl | rfl | rfl <;> rcases gok_high G with rfl | rfl | rfl | rfl <;> rcases hd with rfl | rfl | rfl | rfl <;> simp <;> split <;> omega
def st (w h o c d : Int) : Int := if psg w h o (gp w h c d) then nb w h c d else -1
theorem st_nb {w h o c d : Int} (H : 0 ≤ st w h o c d) : st w h o c d = nb w h c d ∧ psg w h o (gp w h c d) = true := by
  unfold st at H ⊢
  by_cases p : psg w h o (gp w h c d) = true
  · rw [if_pos p]; exact ⟨rfl, p⟩
  · rw [if_neg p] at H; omega
theorem impl_Step_eq {k : Nat} (hk : 3 ≤ k) (w h o c d : Int) : impl_Step.f k w h o c d = some (st w h o c d) := by
  unfold impl_Step.f st psg
  rw [impl_MazeOk_eq]
  by_cases M : mok w h o = true
  · have s := mok_small M
    simp only [Option.bind_some, M, if_true, Bool.true_and, impl_GapAt_eq hk, impl_isOpen_eq s.1 (show o < 9223372036854775808 by omega), impl_Neighbor_eq hk]
    by_cases H : 0 ≤ nb w h c d
    · have r := gp_range H
      have := (igap_iff.1 r).1
      simp [r, this]
      split <;> rfl
    · rw [gp_neg (by omega)]
      simp [igap]
  · simp [M]
theorem spec_Step_eq {k : Nat} (hk : 1 ≤ k) (w h o c d : Int) : spec_Step.f k w h o c d = some (st w h o c d) := by
  unfold spec_Step.f st
  rw [spec_MazeOk_eq]
  by_cases M : mok w h o = true
  · simp only [Option.bind_some, M, if_true, spec_GapAt_eq hk, spec_IsPassage_eq, spec_Neighbor_eq hk]
    split <;> rfl
  · simp [M, psg]
theorem st_facts {w h o c d : Int} (H : 0 ≤ st w h o c d) : mok w h o = true ∧ icell w h c = true ∧ icell w h (st w h o c d) = true ∧ 0 ≤ d ∧ d ≤ 3 := by
  obtain ⟨e, p⟩ := st_nb H
  rw [e] at H ⊢
  obtain ⟨h1, h2, h3, h4⟩ := nb_facts H
  unfold psg at p
  simp at p
  exact ⟨p.1.1, h1, h2, h3, h4⟩
end Go.Proofs.Ytccjanhdnheclaa.F
end

section
namespace Go.Proofs.Ytccjanhdnheclaa.F
open Go.RowKit Go.Proofs.YtccjanhdnheclaaW.PrintWords Go.Proofs.YtccjanhdnheclaaW.PrintLast Go.Proofs.YtccjanhdnheclaaW.PrintMore
set_option linter.unusedVariables false
set_option linter.unusedSimpArgs false
def flip (o g : Int) : Int := ((o.toNat ^^^ 2 ^ g.toNat : Nat) : Int)
def setb (o g : Int) (b : Bool) : Int := if b then ((o.toNat ||| 2 ^ g.toNat : Nat) : Int) else ((o.toNat ^^^ (o.toNat &&& 2 ^ g.toNat) : Nat) : Int)
theorem testBit_two_pow' (g i : Nat) : (2 ^ g).testBit i = decide (g = i) := by rw [Nat.testBit_two_pow]
theorem opn_flip {o g i : Int} (hg : 0 ≤ g) (hi : 0 ≤ i) : opn (flip o g) i = if i = g then !opn o i else opn o i := by
  unfold opn flip
  rw [Int.toNat_natCast, Nat.testBit_xor, testBit_two_pow']
  by_cases h : i = g
  · subst h; simp
  · rw [if_neg h]
    have : ¬ g.toNat = i.toNat := by omega
    simp [this]
theorem opn_setb {o g i : Int} (b : Bool) (hg : 0 ≤ g) (hi : 0 ≤ i) : opn (setb o g b) i = if i = g then b else opn o i := by
  unfold opn setb
  cases b with
  | true =>
    rw [if_pos rfl, Int.toNat_natCast, Nat.testBit_or, testBit_two_pow']
    by_cases h : i = g
    · subst h; simp
    · rw [if_neg h]
      have : ¬ g.toNat = i.toNat := by omega
      simp [this]
  | false =>
    rw [if_neg Bool.false_ne_true, Int.toNat_natCast, Nat.testBit_xor, Nat.testBit_and, testBit_two_pow']
    by_cases h : i = g
    · subst h; simp
    · rw [if_neg h]
      have : ¬ g.toNat = i.toNat := by omega
      simp [this]
theorem flip_lt {o g : Int} {n : Nat} (ho : 0 ≤ o) (h1 : o < 2 ^ n) (hg : 0 ≤ g) (h2 : g < n) : 0 ≤ flip o g ∧ flip o g < 2 ^ n := by
  unfold flip
  have e : ((2 : Int) ^ n) = ((2 ^ n : Nat) : Int) := by simp
  rw [e] at h1 ⊢
  have := Nat.xor_lt_two_pow (n := n) (x := o.toNat) (y := 2 ^ g.toNat) (by omega) (Nat.pow_lt_pow_right (by decide) (by omega))
  omega
theorem setb_lt {o g : Int} {n : Nat} (b : Bool) (ho : 0 ≤ o) (h1 : o < 2 ^ n) (hg : 0 ≤ g) (h2 : g < n) : 0 ≤ setb o g b ∧ setb o g b < 2 ^ n := by
  unfold setb
  have e : ((2 : Int) ^ n) = ((2 ^ n : Nat) : Int) := by simp
  rw [e] at h1 ⊢
  have ha : o.toNat < 2 ^ n := by omega
  have hp : 2 ^ g.toNat < 2 ^ n := Nat.pow_lt_pow_right (by decide) (by omega)
  have := Nat.or_lt_two_pow ha hp
  have := Nat.xor_lt_two_pow (n := n) (x := o.toNat) (y := o.toNat &&& 2 ^ g.toNat) ha (Nat.lt_of_le_of_lt Nat.and_le_left ha)
  split <;> omega
theorem eq_of_opn {a b : Int} (ha : 0 ≤ a) (hb : 0 ≤ b) (h : ∀ i : Int, 0 ≤ i → opn a i = opn b i) : a = b := by
  have : a.toNat = b.toNat := Nat.eq_of_testBit_eq fun i => by
    have := h (i : Int) (by omega)
    simpa [opn] using this
  omega
theorem setb_flip {o g : Int} (ho : 0 ≤ o) (hg : 0 ≤ g) : setb o g (!opn o g) = flip o g := by
  refine eq_of_opn (by unfold setb; split <;> omega) (by unfold flip; omega) fun i hi => ?_
  rw [opn_setb _ hg hi, opn_flip hg hi]
  by_cases h : i = g
  · subst h; simp
  · simp [h]
theorem mok_flip {w h o g : Int} (M : mok w h o = true) (hg : igap w h g = true) : mok w h (flip o g) = true := by
  rw [mok_iff] at M ⊢
  have a := igap_iff.1 hg
  have := flip_lt (n := (gaps w h).toNat) M.2.1 M.2.2 a.1 (by omega)
  exact ⟨M.1, this.1, this.2⟩
theorem mok_setb {w h o g : Int} (b : Bool) (M : mok w h o = true) (hg : igap w h g = true) : mok w h (setb o g b) = true := by
  rw [mok_iff] at M ⊢
  have a := igap_iff.1 hg
  have := setb_lt (n := (gaps w h).toNat) b M.2.1 M.2.2 a.1 (by omega)
  exact ⟨M.1, this.1, this.2⟩
end Go.Proofs.Ytccjanhdnheclaa.F
end

section
namespace Go.Proofs.Ytccjanhdnheclaa.F
open Go.RowKit Go.Proofs.YtccjanhdnheclaaW.PrintWords Go.Proofs.YtccjanhdnheclaaW.PrintLast Go.Proofs.YtccjanhdnheclaaW.PrintMore
set_option linter.unusedVariables false
set_option linter.unusedSimpArgs false
theorem impl_isIn_eq (w h o : Int) (l : List Int) : impl_isIn.f w h o l = some (mok w h o && l.all (icell w h)) := by
  unfold impl_isIn.f
  rw [impl_MazeOk_eq, Option.bind_some, allO_of (p := icell w h) (fun x _ => impl_isCell_eq w h x)]
  cases mok w h o <;> simp
theorem spec_l04Has_eq (w h o c : Int) : spec_l04Has.f w h o c = some (mok w h o && icell w h c) := by
  unfold spec_l04Has.f
  rw [spec_MazeOk_eq, spec_CountCells_eq]
  simp only [Option.bind_some, spec_l01In_eq, in_cells]
  cases mok w h o <;> simp
end Go.Proofs.Ytccjanhdnheclaa.F
end

section
namespace Go.Proofs.Ytccjanhdnheclaa.F
open Go.RowKit Go.Proofs.YtccjanhdnheclaaW.PrintWords Go.Proofs.YtccjanhdnheclaaW.PrintLast Go.Proofs.YtccjanhdnheclaaW.PrintMore
set_option linter.unusedVariables false
set_option linter.unusedSimpArgs false
theorem bfs_next {nx : Int → Int → Int} {N : Nat} {a : Int} (S : Steps nx N) {i : Nat} {D Q D' Q' : List Int} (B : BfsAt nx N a i D Q) (hi : i < Q.length) (e : bfsD nx (rd Q i) [0, 1, 2, 3] (D, Q) = (D', Q')) : BfsAt nx N a (i + 1) D' Q' := by
  obtain ⟨r1, r2, r3, r4, r5⟩ := bfs_dirs S _ D Q B hi D' Q' e
  refine ⟨r1.toBfs, fun h x hx => ?_, fun j hj hjl d hd => ?_⟩
  · have h1 := r1.near r2 x hx
    have h2 := r1.mono i (i + 1) (by omega) h
    omega
  · by_cases hj' : j = i
    · subst hj'
      rw [r3] at hd ⊢
      have hr := S.rng _ _ hd
      exact r5 d (by have : d = 0 ∨ d = 1 ∨ d = 2 ∨ d = 3 := by omega
                     rcases this with rfl | rfl | rfl | rfl <;> simp) hd
    · exact r1.done j (by omega) hjl d hd
theorem bfs_init {nx : Int → Int → Int} {N : Nat} {a : Int} (h0 : 0 ≤ a) (h1 : a < N) : BfsAt nx N a 0 ((List.replicate N (-1)).set a.toNat 0) [a] := by
  have hrep : ∀ x : Int, 0 ≤ x → x < N → rd (List.replicate N (-1)) x = -1 := fun x x0 x1 => by
    obtain ⟨h, e⟩ := rd_lt (D := List.replicate N (-1 : Int)) x0 (by simpa using x1)
    rw [e, List.getElem_replicate]
  have hset : ∀ x : Int, 0 ≤ x → x < N → rd ((List.replicate N (-1)).set a.toNat 0) x = if x = a then 0 else -1 := fun x x0 x1 => by
    rw [rd_set h0 x0 (by simpa using h1)]
    split
    · rfl
    · exact hrep x x0 x1
  refine ⟨⟨by simp, ?_, ?_, ?_, ?_, ?_⟩, ?_, ?_⟩
  · have := countP_lt_set (D := List.replicate N (-1 : Int)) (i := a) (v := 0) h0 (by simpa using h1) (by rw [hrep a h0 h1]; decide) (by decide)
    rw [List.countP_replicate] at this
    simpa using this
  · intro x hx
    rw [List.mem_singleton.1 hx, hset a h0 h1, if_pos rfl]
    exact ⟨h0, h1, by decide, Walk.nil⟩
  · intro x x0 x1 hx
    rw [hset x x0 x1, if_neg (by simpa using hx)]
  · exact ⟨by rw [hset a h0 h1, if_pos rfl], by simp⟩
  · intro j k hjk hk
    have : j = 0 := by simp at hk; omega
    have : k = 0 := by simp at hk; omega
    subst_vars
    exact Int.le_refl _
  · intro _ x hx
    rw [List.mem_singleton.1 hx]
    simp [rd]
    omega
  · intro j hj; omega
def bfs1 (nx : Int → Int → Int) (c d : Int) (s : List Int × List Int) : List Int × List Int :=
  if 0 ≤ nx c d ∧ rd s.1 (nx c d) < 0 then (s.1.set (nx c d).toNat (rd s.1 c + 1), s.2 ++ [nx c d]) else s
theorem bfsD_cons (nx : Int → Int → Int) (c d : Int) (ds : List Int) (s : List Int × List Int) : bfsD nx c (d :: ds) s = bfsD nx c ds (bfs1 nx c d s) := by
  unfold bfs1; rw [bfsD]; split <;> rfl
theorem bfsD_filter (nx : Int → Int → Int) (c : Int) : ∀ (ds : List Int) (s : List Int × List Int), bfsD nx c (ds.filter fun d => decide (0 ≤ nx c d)) s = bfsD nx c ds s
  | [], s => rfl
  | d :: ds, s => by
    by_cases h : 0 ≤ nx c d
    · rw [List.filter_cons_of_pos (by simpa using h), bfsD_cons, bfsD_cons, bfsD_filter nx c ds]
    · rw [List.filter_cons_of_neg (by simpa using h), bfsD_cons, bfsD_filter nx c ds]
      unfold bfs1
      rw [if_neg (fun q => h q.1)]
def Small (s : List Int × List Int) : Prop := ∀ x : Int, rd s.1 x < s.2.length
structure Mid (nx : Int → Int → Int) (N : Nat) (a : Int) (i : Nat) (c : Int) (s : List Int × List Int) : Prop where
  at_ : BfsAt nx N a i s.1 s.2
  small : Small s
  lt : i < s.2.length
  cur : rd s.2 i = c
theorem mid1 {nx : Int → Int → Int} {N : Nat} {a : Int} (S : Steps nx N) {i : Nat} {c : Int} {s : List Int × List Int} (M : Mid nx N a i c s) (d : Int) : Mid nx N a i c (bfs1 nx c d s) := by
  have hc := M.cur
  unfold bfs1
  by_cases h : 0 ≤ nx c d ∧ rd s.1 (nx c d) < 0
  · rw [if_pos h]
    have B := M.at_
    have r := S.rng c d h.1
    subst hc
    refine ⟨bfs_push S B M.lt h.1 h.2, fun x => ?_, by simp only [List.length_append]; have := M.lt; omega, by simp only; exact rd_app_left M.lt⟩
    have hs := M.small
    simp only [List.length_append, List.length_singleton]
    by_cases hx : 0 ≤ x
    · rw [rd_set (by omega) hx (by rw [B.len]; omega)]
      have h1 := hs x
      have h2 := hs (rd s.2 i)
      split <;> omega
    · have h1 := hs x
      have : rd (s.1.set (nx (rd s.2 i) d).toNat (rd s.1 (rd s.2 i) + 1)) x = rd (s.1.set (nx (rd s.2 i) d).toNat (rd s.1 (rd s.2 i) + 1)) 0 := by unfold rd; rw [show x.toNat = 0 by omega]; rfl
      rw [this, rd_set (by omega) (by omega) (by rw [B.len]; omega)]
      have h2 := hs (rd s.2 i)
      have h3 := hs 0
      split <;> omega
  · rw [if_neg h]; exact M
theorem bfs_room {nx : Int → Int → Int} {N : Nat} {a : Int} {i : Nat} {c : Int} {s : List Int × List Int} (M : Mid nx N a i c s) : s.1.length = N ∧ s.2.length ≤ N ∧ 0 ≤ c ∧ c < N := by
  have h1 := M.at_.len
  have h2 := M.at_.cnt
  have hm : c ∈ s.2 := by rw [← M.cur]; exact rd_memI (by omega) (by have := M.lt; omega)
  obtain ⟨h3, h4, _⟩ := M.at_.inq c hm
  exact ⟨h1, by omega, h3, h4⟩
def stN (w h : Int) : Nat := (cells w h).toNat
theorem steps_st (w h o : Int) : Steps (st w h o) (stN w h) := ⟨fun c d H => by
  obtain ⟨_, h2, h3, h4, h5⟩ := st_facts H
  have a := icell_iff.1 h2
  have b := icell_iff.1 h3
  unfold stN
  exact ⟨a.1, by omega, by omega, h4, h5⟩⟩
theorem nb_all : ∀ w ∈ ([1, 2, 3, 4] : List Int), ∀ h ∈ ([1, 2, 3, 4] : List Int), ∀ c ∈ ([0, 1, 2, 3, 4, 5, 6, 7, 8, 9, 10, 11, 12, 13, 14, 15] : List Int), ∀ d ∈ ([0, 1, 2, 3] : List Int), 0 ≤ nb w h c d → nb w h (nb w h c d) ((d + 2) % 4) = c ∧ gp w h (nb w h c d) ((d + 2) % 4) = gp w h c d := by
  decide +kernel
theorem nb_back {w h c d : Int} (H : 0 ≤ nb w h c d) : ∃ e, nb w h (nb w h c d) e = c ∧ gp w h (nb w h c d) e = gp w h c d := by
  obtain ⟨h1, _, h3, h4⟩ := nb_facts H
  have g := gok_iff.1 (icell_gok h1)
  have hc := icell_iff.1 h1
  have hb := cells_bd w h
  exact ⟨(d + 2) % 4, nb_all w (by simp; omega) h (by simp; omega) c (by simp; omega) d (by simp; omega) H⟩
theorem sym_st (w h o : Int) : Sym (st w h o) := ⟨fun c d H => by
  obtain ⟨e, p⟩ := st_nb H
  rw [e] at H ⊢
  obtain ⟨q, q1, q2⟩ := nb_back H
  refine ⟨q, ?_⟩
  unfold st
  rw [q2, if_pos p, q1]⟩
def ways (w h o c : Int) : List Int := ([0, 1, 2, 3] : List Int).filter fun d => decide (0 ≤ st w h o c d)
theorem ways_length (w h o c : Int) : (ways w h o c).length ≤ 4 := List.length_filter_le _ _
theorem impl_WaysFrom_eq {k : Nat} (hk : 8 ≤ k) (w h o c : Int) : impl_WaysFrom.f k w h o c = some (ways w h o c) := by
  unfold impl_WaysFrom.f
  have := fold_loop (n := 4) (c := 3) (F := fun k (acc : List Int) i => impl_WaysFrom.l0 k c acc i w h o) (step := fun acc i => if 0 ≤ st w h o c (i : Int) then acc ++ [(i : Int)] else acc) (fin := fun acc : List Int => acc) (I := fun acc i => acc.length ≤ i)
    (fun k acc i hk hi ha => by
      simp only [impl_WaysFrom.l0]
      rw [if_pos (by omega), impl_Step_eq (by omega), Option.bind_some, w64 (x := (i : Int) + 1) (by omega) (by omega)]
      by_cases hd : 0 ≤ st w h o c (i : Int)
      · rw [if_pos hd, if_pos hd, if_pos (by omega)]
      · rw [if_neg hd, if_neg hd])
    (fun acc i _ ha => by
      show (if _ then _ else _ : List Int).length ≤ i + 1
      split
      · simp only [List.length_append, List.length_singleton]; omega
      · omega)
    (fun k acc _ _ => by
      simp only [impl_WaysFrom.l0]
      rw [if_neg (by decide)]) 4 0 k [] (by decide) (by omega) (Nat.le_refl _)
  refine this.trans ?_
  congr 1
  unfold ways
  simp only [List.range'_succ, List.range'_zero, List.foldl_cons, List.foldl_nil, List.filter_cons, List.filter_nil, Nat.zero_add, Int.natCast_add, decide_eq_true_eq]
  show (if 0 ≤ st w h o c (3 : Int) then _ else _) = _
  by_cases h0 : 0 ≤ st w h o c 0 <;> by_cases h1 : 0 ≤ st w h o c 1 <;> by_cases h2 : 0 ≤ st w h o c 2 <;> by_cases h3 : 0 ≤ st w h o c 3 <;> simp [h0, h1, h2, h3]
theorem ways_mem {w h o c d : Int} (H : d ∈ ways w h o c) : 0 ≤ st w h o c d := by
  unfold ways at H
  exact of_decide_eq_true (List.mem_filter.1 H).2
theorem impl_dist1 {w h o a c d : Int} {i : Nat} {s : List Int × List Int} (M : Mid (st w h o) (stN w h) a i c s) (hd : 0 ≤ st w h o c d) {k : Nat} (hk : 3 ≤ k) {W : List Int} {j : Nat} (hj : j < W.length) (hW : W.length ≤ 4) (hr : rd W (j : Int) = d) :
    impl_distances.l1 (k + 1) s.1 s.2 (i : Int) W (W.length : Int) (j : Int) w h o = impl_distances.l1 k (bfs1 (st w h o) c d s).1 (bfs1 (st w h o) c d s).2 (i : Int) W (W.length : Int) ((j : Int) + 1) w h o := by
  obtain ⟨r1, r2, r3, r4⟩ := bfs_room M
  have hN : stN w h ≤ 16 := by have := cells_bd w h; unfold stN; omega
  have rr := (steps_st w h o).rng c d hd
  have hsm := M.small c
  have hlt := M.lt
  have hc := M.cur
  simp only [impl_distances.l1]
  rw [if_pos (by omega), if_pos (by omega), if_pos (by omega), if_pos (by omega), if_pos (by omega), hc, hr, impl_Step_eq hk, Option.bind_some, if_pos hd, if_pos (by omega), w64 (x := (j : Int) + 1) (by omega) (by omega)]
  unfold bfs1
  by_cases hn : rd s.1 (st w h o c d) < 0
  · rw [if_pos hn, if_pos r3, if_pos (by omega), if_pos (by omega), if_pos ⟨hd, hn⟩]
    have hge : 0 ≤ rd s.1 c := by
      have hm : c ∈ s.2 := by rw [← hc]; exact rd_memI (by omega) (by omega)
      exact (M.at_.inq c hm).2.2.1
    rw [w64 (x := rd s.1 c + 1) (by omega) (by omega)]
  · rw [if_neg hn, if_neg (fun q => hn q.2)]
theorem impl_dirs {w h o a c : Int} {i : Nat} {W : List Int} (hW : W.length ≤ 4) (hd : ∀ d ∈ W, 0 ≤ st w h o c d) : ∀ (m j k : Nat) (s : List Int × List Int), j + m = W.length → 3 ≤ k → Mid (st w h o) (stN w h) a i c s →
    impl_distances.l1 (k + m + 1) s.1 s.2 (i : Int) W (W.length : Int) (j : Int) w h o = impl_distances.l0 k (bfsD (st w h o) c (W.drop j) s).1 (bfsD (st w h o) c (W.drop j) s).2 ((i : Int) + 1) w h o ∧ Mid (st w h o) (stN w h) a i c (bfsD (st w h o) c (W.drop j) s)
  | 0, j, k, s, hj, hk, M => by
    rw [List.drop_of_length_le (by omega)]
    have hl := bfs_room M
    have hN : stN w h ≤ 16 := by have := cells_bd w h; unfold stN; omega
    have hlt := M.lt
    refine ⟨?_, M⟩
    simp only [bfsD, Nat.add_zero, impl_distances.l1]
    rw [if_neg (by omega), w64 (x := (i : Int) + 1) (by omega) (by omega)]
  | m + 1, j, k, s, hj, hk, M => by
    have hjl : j < W.length := by omega
    have hmem : rd W (j : Int) ∈ W := rd_memI (by omega) (by omega)
    have hdr : W.drop j = rd W (j : Int) :: W.drop (j + 1) := by
      rw [List.drop_eq_getElem_cons hjl]
      congr 1
      rw [rd_nat, List.getD_eq_getElem?_getD, List.getElem?_eq_getElem hjl]
      rfl
    have M' := mid1 (steps_st w h o) M (rd W (j : Int))
    rw [show k + (m + 1) + 1 = (k + m + 1) + 1 by omega, impl_dist1 M (hd _ hmem) (by omega) hjl hW rfl, hdr, bfsD_cons]
    have := impl_dirs hW hd m (j + 1) k _ (by omega) hk M'
    rwa [Int.natCast_add] at this
theorem impl_bfs {w h o a : Int} : ∀ (f i k : Nat) (D Q : List Int), BfsAt (st w h o) (stN w h) a i D Q → Small (D, Q) → stN w h < f + i → 6 * f + 20 ≤ k → impl_distances.l0 k D Q (i : Int) w h o = some (bfs (st w h o) f i (D, Q))
  | 0, i, k, D, Q, B, V, hf, hk => by
    obtain ⟨m, rfl⟩ : ∃ m, k = m + 1 := ⟨k - 1, by omega⟩
    have := B.cnt
    simp only [impl_distances.l0, bfs]
    rw [if_neg (by omega)]
  | f + 1, i, k, D, Q, B, V, hf, hk => by
    obtain ⟨m, rfl⟩ : ∃ m, k = m + 1 := ⟨k - 1, by omega⟩
    simp only [bfs]
    by_cases hi : i < Q.length
    · rw [if_pos hi]
      have hw := ways_length w h o (rd Q (i : Int))
      simp only [impl_distances.l0]
      rw [if_pos (by omega), if_pos (by omega), impl_WaysFrom_eq (by omega), Option.bind_some]
      obtain ⟨k', hk'⟩ : ∃ k', m = k' + (ways w h o (rd Q (i : Int))).length + 1 := ⟨m - (ways w h o (rd Q (i : Int))).length - 1, by omega⟩
      have M : Mid (st w h o) (stN w h) a i (rd Q (i : Int)) (D, Q) := ⟨B, V, hi, rfl⟩
      obtain ⟨e, M'⟩ := impl_dirs (a := a) (i := i) hw (fun d hd => ways_mem hd) (ways w h o (rd Q (i : Int))).length 0 k' (D, Q) (by omega) (by omega) M
      rw [← hk', List.drop_zero] at e
      rw [List.drop_zero] at M'
      have eb : bfsD (st w h o) (rd Q (i : Int)) (ways w h o (rd Q (i : Int))) (D, Q) = bfsD (st w h o) (rd Q (i : Int)) [0, 1, 2, 3] (D, Q) := bfsD_filter _ _ _ _
      rw [eb] at e M'
      refine e.trans ?_
      have := impl_bfs f (i + 1) k' _ _ (bfs_next (steps_st w h o) B hi rfl) M'.small (by omega) (by omega)
      rwa [Int.natCast_add] at this
    · rw [if_neg hi]
      simp only [impl_distances.l0]
      rw [if_neg (by omega)]
theorem small_init {N : Nat} {a : Int} (h0 : 0 ≤ a) (h1 : a < N) : Small ((List.replicate N (-1)).set a.toNat 0, [a]) := by
  intro x
  simp only [List.length_singleton]
  have hrep : ∀ x : Int, rd (List.replicate N (-1)) x ≤ 0 := fun x => by
    unfold rd
    rw [List.getD_eq_getElem?_getD, List.getElem?_replicate]
    split <;> simp
  unfold rd
  rw [List.getD_eq_getElem?_getD, List.getElem?_set]
  split
  · split <;> simp
  · have := hrep x
    unfold rd at this
    rw [List.getD_eq_getElem?_getD] at this
    omega
theorem impl_distances_eq {w h o a : Int} {k : Nat} (hk : 200 ≤ k) (ha : icell w h a = true) : impl_distances.f k w h o a = some (dists (st w h o) (stN w h) a) := by
  have hc := icell_iff.1 ha
  have hb := cells_bd w h
  have hN : ((stN w h : Nat) : Int) = cells w h := by unfold stN; omega
  unfold impl_distances.f
  rw [impl_CountCells_eq, Option.bind_some, slices_Repeat_int.f, if_pos ⟨rfl, by omega, by omega⟩, Option.bind_some]
  show (if 0 ≤ a then (if a < ((List.replicate (stN w h) (-1 : Int)).length : Int) then _ else _) else _) = _
  rw [if_pos hc.1, if_pos (by rw [List.length_replicate]; omega)]
  exact impl_bfs (stN w h + 1) 0 k _ _ (bfs_init hc.1 (by omega)) (small_init hc.1 (by omega)) (by omega) (by omega)
theorem spec_dist1 {w h o a c : Int} {i : Nat} {s : List Int × List Int} (M : Mid (st w h o) (stN w h) a i c s) {k : Nat} (hk : 1 ≤ k) {j : Nat} (hj : j < 4) :
    spec_l04Distances.l2 (k + 1) s.1 s.2 (i : Int) (j : Int) w h o = spec_l04Distances.l2 k (bfs1 (st w h o) c (j : Int) s).1 (bfs1 (st w h o) c (j : Int) s).2 (i : Int) ((j : Int) + 1) w h o := by
  obtain ⟨r1, r2, r3, r4⟩ := bfs_room M
  have hN : stN w h ≤ 16 := by have := cells_bd w h; unfold stN; omega
  have hsm := M.small c
  have hlt := M.lt
  have hc := M.cur
  simp only [spec_l04Distances.l2]
  rw [if_pos (by omega), if_pos (by omega), if_pos (by omega), hc, spec_Step_eq hk, Option.bind_some, w64 (x := (j : Int) + 1) (by omega) (by omega)]
  unfold bfs1
  by_cases hd : 0 ≤ st w h o c (j : Int)
  · have rr := (steps_st w h o).rng c _ hd
    rw [if_pos hd, if_pos hd, if_pos (by omega)]
    by_cases hn : rd s.1 (st w h o c (j : Int)) < 0
    · rw [if_pos hn, if_pos r3, if_pos (by omega), if_pos (by omega), if_pos ⟨hd, hn⟩]
      have hge : 0 ≤ rd s.1 c := by
        have hm : c ∈ s.2 := by rw [← hc]; exact rd_memI (by omega) (by omega)
        exact (M.at_.inq c hm).2.2.1
      rw [w64 (x := rd s.1 c + 1) (by omega) (by omega)]
    · rw [if_neg hn, if_neg (fun q => hn q.2)]
  · rw [if_neg hd, if_neg (fun q => hd q.1)]
theorem spec_dirs {w h o a c : Int} {i : Nat} {s : List Int × List Int} (M : Mid (st w h o) (stN w h) a i c s) {k : Nat} (hk : 1 ≤ k) :
    spec_l04Distances.l2 (k + 5) s.1 s.2 (i : Int) 0 w h o = spec_l04Distances.l1 k (bfsD (st w h o) c [0, 1, 2, 3] s).1 (bfsD (st w h o) c [0, 1, 2, 3] s).2 ((i : Int) + 1) w h o ∧ Mid (st w h o) (stN w h) a i c (bfsD (st w h o) c [0, 1, 2, 3] s) := by
  have M1 := mid1 (steps_st w h o) M 0
  have M2 := mid1 (steps_st w h o) M1 1
  have M3 := mid1 (steps_st w h o) M2 2
  have M4 := mid1 (steps_st w h o) M3 3
  have e0 := spec_dist1 M (k := k + 4) (by omega) (j := 0) (by decide)
  have e1 := spec_dist1 M1 (k := k + 3) (by omega) (j := 1) (by decide)
  have e2 := spec_dist1 M2 (k := k + 2) (by omega) (j := 2) (by decide)
  have e3 := spec_dist1 M3 (k := k + 1) (by omega) (j := 3) (by decide)
  rw [bfsD_cons, bfsD_cons, bfsD_cons, bfsD_cons]
  show _ = spec_l04Distances.l1 k _ _ _ _ _ _ ∧ _
  refine ⟨(e0.trans (e1.trans (e2.trans e3))).trans ?_, M4⟩
  have hl := bfs_room M4
  have hN : stN w h ≤ 16 := by have := cells_bd w h; unfold stN; omega
  have hlt := M4.lt
  simp only [spec_l04Distances.l2, bfsD]
  rw [if_neg (by decide), w64 (x := (i : Int) + 1) (by omega) (by omega)]
  rfl
theorem spec_bfs {w h o a : Int} : ∀ (f i k : Nat) (D Q : List Int), BfsAt (st w h o) (stN w h) a i D Q → Small (D, Q) → stN w h < f + i → 6 * f + 20 ≤ k → spec_l04Distances.l1 k D Q (i : Int) w h o = some (bfs (st w h o) f i (D, Q))
  | 0, i, k, D, Q, B, V, hf, hk => by
    obtain ⟨m, rfl⟩ : ∃ m, k = m + 1 := ⟨k - 1, by omega⟩
    have := B.cnt
    simp only [spec_l04Distances.l1, bfs]
    rw [if_neg (by omega)]
  | f + 1, i, k, D, Q, B, V, hf, hk => by
    obtain ⟨m, rfl⟩ : ∃ m, k = m + 5 + 1 := ⟨k - 6, by omega⟩
    simp only [bfs]
    by_cases hi : i < Q.length
    · rw [if_pos hi]
      simp only [spec_l04Distances.l1]
      rw [if_pos (by omega)]
      have M : Mid (st w h o) (stN w h) a i (rd Q (i : Int)) (D, Q) := ⟨B, V, hi, rfl⟩
      obtain ⟨e, M'⟩ := spec_dirs M (k := m) (by omega)
      refine e.trans ?_
      have := spec_bfs f (i + 1) m _ _ (bfs_next (steps_st w h o) B hi rfl) M'.small (by omega) (by omega)
      rwa [Int.natCast_add] at this
    · rw [if_neg hi]
      simp only [spec_l04Distances.l1]
      rw [if_neg (by omega)]
theorem spec_l04Distances_eq {w h o a : Int} {k : Nat} (hk : 200 ≤ k) (ha : icell w h a = true) : spec_l04Distances.f k w h o a = some (dists (st w h o) (stN w h) a) := by
  have hc := icell_iff.1 ha
  have hb := cells_bd w h
  have hN : ((stN w h : Nat) : Int) = cells w h := by unfold stN; omega
  have hN16 : stN w h ≤ 16 := by omega
  unfold spec_l04Distances.f
  rw [spec_CountCells_eq, Option.bind_some, if_pos hb.1, if_pos (by omega)]
  show spec_l04Distances.l0 k a (List.replicate (stN w h) 0) 0 w h o = _
  obtain ⟨s, _, e⟩ := inv_loop (n := stN w h) (c := 130) (F := fun k (s : List Int) i => spec_l04Distances.l0 k a s i w h o) (fin := fun _ => dists (st w h o) (stN w h) a)
    (I := fun s i => s = List.replicate i (-1) ++ List.replicate (stN w h - i) 0)
    (fun k s i _ hi hs => by
      refine ⟨List.replicate (i + 1) (-1) ++ List.replicate (stN w h - (i + 1)) 0, rfl, ?_⟩
      have hl : s.length = stN w h := by rw [hs]; simp; omega
      simp only [spec_l04Distances.l0]
      rw [if_pos (by omega), if_pos (by omega), w64_succ hi (by omega), Int.toNat_natCast]
      congr 1
      rw [hs, show stN w h - i = (stN w h - (i + 1)) + 1 by omega, List.replicate_succ, List.replicate_succ']
      rw [List.set_append_right _ _ (by simp)]
      simp)
    (fun k s hk hs => by
      have hs' : s = List.replicate (stN w h) (-1) := by rw [hs, Nat.sub_self]; simp
      simp only [spec_l04Distances.l0]
      rw [hs', List.length_replicate, if_neg (by omega), if_pos hc.1, if_pos (by omega)]
      exact spec_bfs (stN w h + 1) 0 k _ _ (bfs_init hc.1 (by omega)) (small_init hc.1 (by omega)) (by omega) (by omega)) (stN w h) 0 k (List.replicate (stN w h) 0) (by omega) (by omega) (by simp)
  exact e
def dst (w h o a b : Int) : Int := rd (dists (st w h o) (stN w h) a) b
theorem dst_sym {w h o a b : Int} (ha : icell w h a = true) (hb : icell w h b = true) : dst w h o a b = dst w h o b a := by
  have ca := icell_iff.1 ha
  have cb := icell_iff.1 hb
  have hN : ((stN w h : Nat) : Int) = cells w h := by have := cells_bd w h; unfold stN; omega
  obtain ⟨_, _, p⟩ := dists_spec (steps_st w h o) (a := a) ca.1 (by omega)
  obtain ⟨_, _, q⟩ := dists_spec (steps_st w h o) (a := b) cb.1 (by omega)
  have rev : ∀ {x y : Int} {n : Nat}, Walk (st w h o) x n y → Walk (st w h o) y n x := fun H => Walk.rev (steps_st w h o) (sym_st w h o) H
  unfold dst
  rcases p b cb.1 (by omega) with ⟨e, n1⟩ | ⟨g1, w1, m1⟩ <;> rcases q a ca.1 (by omega) with ⟨e', n2⟩ | ⟨g2, w2, m2⟩
  · rw [e, e']
  · exact absurd (rev w2) (n1 _)
  · exact absurd (rev w1) (n2 _)
  · have := m1 _ (rev w2)
    have := m2 _ (rev w1)
    omega
theorem dst_bd {w h o a b : Int} (ha : icell w h a = true) (hb : icell w h b = true) : -1 ≤ dst w h o a b := by
  have ca := icell_iff.1 ha
  have cb := icell_iff.1 hb
  have hN : ((stN w h : Nat) : Int) = cells w h := by have := cells_bd w h; unfold stN; omega
  obtain ⟨_, _, p⟩ := dists_spec (steps_st w h o) (a := a) ca.1 (by omega)
  unfold dst
  rcases p b cb.1 (by omega) with ⟨e, _⟩ | ⟨g, _⟩ <;> omega
theorem dists_length {w h o a : Int} (ha : icell w h a = true) : ((dists (st w h o) (stN w h) a).length : Int) = cells w h := by
  have ca := icell_iff.1 ha
  have hN : ((stN w h : Nat) : Int) = cells w h := by have := cells_bd w h; unfold stN; omega
  rw [(dists_spec (steps_st w h o) (a := a) ca.1 (by omega)).1, hN]
theorem impl_DistanceOf_eq {w h o : Int} {k : Nat} (hk : 200 ≤ k) (a b : Int) : impl_DistanceOf.f k w h o a b = some (if mok w h o = true ∧ icell w h a = true ∧ icell w h b = true then dst w h o a b else -1) := by
  unfold impl_DistanceOf.f
  rw [impl_isIn_eq]
  simp only [Option.bind_some, List.all_cons, List.all_nil, Bool.and_true]
  by_cases H : mok w h o = true ∧ icell w h a = true ∧ icell w h b = true
  · rw [if_pos H, if_pos (by simp [H.1, H.2.1, H.2.2]), impl_distances_eq hk H.2.1, Option.bind_some]
    have cb := icell_iff.1 H.2.2
    rw [if_pos cb.1, if_pos (by rw [dists_length H.2.1]; exact cb.2)]
    rfl
  · rw [if_neg H, if_neg (by simpa using fun h1 h2 h3 => H ⟨h1, h2, h3⟩)]
end Go.Proofs.Ytccjanhdnheclaa.F
end

section
namespace Go.Proofs.Ytccjanhdnheclaa.F
open Go.RowKit Go.Proofs.YtccjanhdnheclaaW.PrintWords Go.Proofs.YtccjanhdnheclaaW.PrintLast Go.Proofs.YtccjanhdnheclaaW.PrintMore
set_option linter.unusedVariables false
set_option linter.unusedSimpArgs false
theorem slices_Contains_eq {l : List Int} {k : Nat} (hl : l.length ≤ 1000000000) (hk : l.length + 1 ≤ k) (c : Int) : slices_Contains_int.f k l c = some (l.contains c) := by
  unfold slices_Contains_int.f slices_Index_int.f
  have key : ∀ (d i k : Nat), i + d = l.length → d + 1 ≤ k → ∃ t : Int, slices_Index_int.l0 k l c (l.length : Int) (i : Int) = some t ∧ decide (t ≥ 0) = (l.drop i).contains c := by
    intro d
    induction d with
    | zero =>
      intro i k hi hk
      obtain ⟨m, rfl⟩ : ∃ m, k = m + 1 := ⟨k - 1, by omega⟩
      simp only [slices_Index_int.l0]
      rw [if_neg (by omega), List.drop_of_length_le (by omega)]
      exact ⟨-1, rfl, rfl⟩
    | succ d ih =>
      intro i k hi hk
      obtain ⟨m, rfl⟩ : ∃ m, k = m + 1 := ⟨k - 1, by omega⟩
      have hil : i < l.length := by omega
      have e : rd l (i : Int) = l[i] := by rw [rd_nat, List.getD_eq_getElem?_getD, List.getElem?_eq_getElem hil]; rfl
      simp only [slices_Index_int.l0]
      rw [if_pos (by omega), if_pos (by omega), if_pos (by omega), e, w64_succ hil (by omega), List.drop_eq_getElem_cons hil, List.contains_cons]
      by_cases q : c = l[i]
      · rw [if_pos q]
        exact ⟨_, rfl, by simp [q]⟩
      · rw [if_neg q]
        obtain ⟨t, e1, e2⟩ := ih (i + 1) m (by omega) (by omega)
        rw [Int.natCast_add] at e1
        refine ⟨t, e1, e2.trans ?_⟩
        rw [beq_eq_false_iff_ne.2 q, Bool.false_or]
  obtain ⟨t, e1, e2⟩ := key l.length 0 k (by omega) (by omega)
  rw [show slices_Index_int.l0 k l c (l.length : Int) 0 = some t from e1, Option.bind_some, e2]
  simp
theorem nodup_le' : ∀ {l L : List Int}, l.Nodup → (∀ x ∈ l, x ∈ L) → l.length ≤ L.length
  | [], _, _, _ => Nat.zero_le _
  | x :: l, L, hn, hs => by
    obtain ⟨h1, h2⟩ := List.nodup_cons.1 hn
    have hx : x ∈ L := hs x (by simp)
    have := nodup_le' (l := l) (L := L.erase x) h2 (fun y hy => (List.mem_erase_of_ne (fun e => h1 (by rw [← e]; exact hy))).2 (hs y (by simp [hy])))
    rw [List.length_erase_of_mem hx] at this
    have := List.length_pos_of_mem hx
    simp only [List.length_cons]
    omega
theorem icell_16 {w h c : Int} (H : icell w h c = true) : 0 ≤ c ∧ c < 16 := by
  have a := icell_iff.1 H
  have b := cells_bd w h
  omega
end Go.Proofs.Ytccjanhdnheclaa.F
end

section
namespace Go.Proofs.Ytccjanhdnheclaa.F
open Go.RowKit Go.Proofs.YtccjanhdnheclaaW.PrintWords Go.Proofs.YtccjanhdnheclaaW.PrintLast Go.Proofs.YtccjanhdnheclaaW.PrintMore
set_option linter.unusedVariables false
set_option linter.unusedSimpArgs false
theorem gaps_small {w h g : Int} (hg : igap w h g = true) : 0 ≤ g ∧ g < 24 := by
  have := igap_iff.1 hg
  have := gaps_bd w h
  omega
end Go.Proofs.Ytccjanhdnheclaa.F
end

section
namespace Go.Proofs.Ytccjanhdnheclaa.F
open Go.RowKit Go.Proofs.YtccjanhdnheclaaW.PrintWords Go.Proofs.YtccjanhdnheclaaW.PrintLast Go.Proofs.YtccjanhdnheclaaW.PrintMore
set_option linter.unusedVariables false
set_option linter.unusedSimpArgs false
def ints (n : Nat) : List Int := (List.range n).map fun (j : Nat) => (j : Int)
theorem ints_succ (n : Nat) : ints (n + 1) = ints n ++ [(n : Int)] := by
  unfold ints
  rw [List.range_succ, List.map_append]
  rfl
theorem ints_length (n : Nat) : (ints n).length = n := by simp [ints]
theorem mem_ints {n : Nat} {x : Int} : x ∈ ints n ↔ 0 ≤ x ∧ x < n := by
  unfold ints
  rw [List.mem_map]
  constructor
  · rintro ⟨j, hj, rfl⟩
    rw [List.mem_range] at hj
    omega
  · intro h
    exact ⟨x.toNat, by rw [List.mem_range]; omega, by omega⟩
theorem impl_upTo_eq {n k : Nat} (hn : n ≤ 1000) (hk : n + 1 ≤ k) : impl_upTo.f k (n : Int) = some (ints n) := by
  unfold impl_upTo.f
  obtain ⟨s, hs, e⟩ := inv_loop (F := fun k (s : List Int) i => impl_upTo.l0 k (n : Int) s i) (n := n) (c := 0) (fin := fun s => s) (I := fun s i => s = ints i)
    (fun k s i _ hi hs => ⟨ints (i + 1), rfl, by
      subst hs
      simp only [impl_upTo.l0]
      rw [if_pos (by omega), if_pos (by rw [ints_length]; omega), ints_succ, w64 (by omega) (by omega)]⟩)
    (fun k s _ hs => by
      simp only [impl_upTo.l0]
      rw [if_neg (by omega)]) n 0 k [] (by omega) (by omega) rfl
  subst hs
  exact e
def reach (w h o a : Int) : List Int := (ints (stN w h)).filter fun c => !decide (dst w h o a c < 0)
theorem stN_int (w h : Int) : ((stN w h : Nat) : Int) = cells w h := by have := cells_bd w h; unfold stN; omega
theorem stN_le (w h : Int) : stN w h ≤ 16 := by have := cells_bd w h; unfold stN; omega
theorem dst_self {w h o a : Int} (ha : icell w h a = true) : dst w h o a a = 0 := by
  have ca := icell_iff.1 ha
  exact (dists_spec (steps_st w h o) (a := a) ca.1 (by rw [stN_int]; exact ca.2)).2.1
theorem reach_self {w h o a : Int} (ha : icell w h a = true) : a ∈ reach w h o a := by
  have ca := icell_iff.1 ha
  unfold reach
  rw [List.mem_filter, mem_ints, dst_self ha, stN_int]
  exact ⟨ca, rfl⟩
theorem reach_pos {w h o a : Int} (ha : icell w h a = true) : 0 < (reach w h o a).length := List.length_pos_of_mem (reach_self ha)
theorem impl_Reached_eq (w h o a : Int) : impl_Reached.f w h o a = some (if (mok w h o && icell w h a) = true then reach w h o a else []) := by
  unfold impl_Reached.f
  rw [impl_isIn_eq, Option.bind_some]
  by_cases H : (mok w h o && icell w h a) = true
  · rw [if_pos (by simpa using H), if_pos H]
    obtain ⟨M, C⟩ := Bool.and_eq_true_iff.1 H
    have ca := icell_iff.1 C
    have hl := dists_length (o := o) C
    have hN := stN_int w h
    have hL := stN_le w h
    have hlen : (dists (st w h o) (stN w h) a).length = stN w h := by omega
    rw [impl_distances_eq (by decide) C, Option.bind_some, if_pos (by omega), hlen, impl_upTo_eq (by omega) (by omega), Option.bind_some, if_pos]
    · rfl
    · refine ⟨List.all_eq_true.2 fun x hx => ?_, by rw [ints_length]; omega⟩
      have := mem_ints.1 hx
      simpa using this
  · rw [if_neg (by simpa using H), if_neg H]
theorem impl_Reached_in {w h o a : Int} (M : mok w h o = true) (C : icell w h a = true) : impl_Reached.f w h o a = some (reach w h o a) := by
  rw [impl_Reached_eq, if_pos (by simp [M, C])]
def pstep (w h o : Int) (n : Int) (i : Nat) : Int := if rd (reach w h o (i : Int)) 0 = (i : Int) then n + 1 else n
def parts (w h o : Int) : Int := if mok w h o = true then (List.range' 0 (stN w h)).foldl (pstep w h o) 0 else 0
theorem impl_CountParts_eq {k : Nat} (hk : 20 ≤ k) (w h o : Int) : impl_CountParts.f k w h o = some (parts w h o) := by
  unfold impl_CountParts.f parts
  have hN := stN_int w h
  have hL := stN_le w h
  by_cases M : mok w h o = true
  · rw [if_pos M]
    exact fold_loop (F := fun k n i => impl_CountParts.l0 k n i w h o) (n := stN w h) (c := 0) (step := pstep w h o) (fin := fun n => n) (I := fun n i => 0 ≤ n ∧ n ≤ i)
      (fun k n i _ hi hn => by
        have C : icell w h (i : Int) = true := icell_iff.2 ⟨by omega, by omega⟩
        simp only [impl_CountParts.l0]
        rw [impl_isIn_eq, Option.bind_some, if_pos (by simp [M, C]), impl_Reached_in M C, Option.bind_some, if_pos (by have := reach_pos (o := o) C; omega), w64 (x := (i : Int) + 1) (by omega) (by omega), w64 (x := n + 1) (by omega) (by omega)]
        unfold pstep
        split <;> rfl)
      (fun n i hi hn => by
        unfold pstep
        split <;> omega)
      (fun k n _ _ => by
        have C : ¬ icell w h (stN w h : Int) = true := fun c => by have := icell_iff.1 c; omega
        simp only [impl_CountParts.l0]
        rw [impl_isIn_eq, Option.bind_some, if_neg (by simp [C])]) (stN w h) 0 k 0 (by omega) (by omega) ⟨Int.le_refl _, Int.le_refl _⟩
  · rw [if_neg M]
    obtain ⟨m, rfl⟩ : ∃ m, k = m + 1 := ⟨k - 1, by omega⟩
    simp only [impl_CountParts.l0]
    rw [impl_isIn_eq, Option.bind_some, if_neg (by simp [M])]
def conn (w h o : Int) : Bool := parts w h o == 1
theorem conn_mok {w h o : Int} (H : conn w h o = true) : mok w h o = true := by
  unfold conn parts at H
  by_cases M : mok w h o = true
  · exact M
  · rw [if_neg M] at H; cases H
theorem impl_IsConnected_eq {k : Nat} (hk : 20 ≤ k) (w h o : Int) : impl_IsConnected.f k w h o = some (conn w h o) := by
  unfold impl_IsConnected.f
  rw [impl_CountParts_eq hk, Option.bind_some]
  rfl
end Go.Proofs.Ytccjanhdnheclaa.F
end

section
namespace Go.Proofs.Ytccjanhdnheclaa.F
open Go.RowKit Go.Proofs.YtccjanhdnheclaaW.PrintWords Go.Proofs.YtccjanhdnheclaaW.PrintLast Go.Proofs.YtccjanhdnheclaaW.PrintMore
set_option linter.unusedVariables false
set_option linter.unusedSimpArgs false
theorem bfs_small {nx : Int → Int → Int} {N : Nat} {a : Int} (S : Steps nx N) : ∀ (f i : Nat) (D Q : List Int), BfsAt nx N a i D Q → Small (D, Q) → ∀ x, rd (bfs nx f i (D, Q)) x < N
  | 0, i, D, Q, B, V, x => by
    have := B.cnt
    have := V x
    simp only [bfs] at *
    omega
  | f + 1, i, D, Q, B, V, x => by
    simp only [bfs]
    by_cases hi : i < Q.length
    · rw [if_pos hi]
      have M : Mid nx N a i (rd Q i) (D, Q) := ⟨B, V, hi, rfl⟩
      have M4 := mid1 S (mid1 S (mid1 S (mid1 S M 0) 1) 2) 3
      have e : bfsD nx (rd Q i) [0, 1, 2, 3] (D, Q) = bfs1 nx (rd Q i) 3 (bfs1 nx (rd Q i) 2 (bfs1 nx (rd Q i) 1 (bfs1 nx (rd Q i) 0 (D, Q)))) := by rw [bfsD_cons, bfsD_cons, bfsD_cons, bfsD_cons]; rfl
      have V4 := M4.small
      rw [← e] at V4
      generalize hs : bfsD nx (rd Q i) [0, 1, 2, 3] (D, Q) = s at V4
      obtain ⟨D', Q'⟩ := s
      exact bfs_small S f (i + 1) D' Q' (bfs_next S B hi hs) V4 x
    · rw [if_neg hi]
      have := B.cnt
      have := V x
      simp only at *
      omega
theorem dst_lt {w h o a b : Int} (ha : icell w h a = true) : dst w h o a b < 16 := by
  have ca := icell_iff.1 ha
  have hc := cells_bd w h
  have hN : ((stN w h : Nat) : Int) = cells w h := by unfold stN; omega
  have := bfs_small (steps_st w h o) (stN w h + 1) 0 _ _ (bfs_init ca.1 (by omega)) (small_init ca.1 (by omega)) b
  have e : dst w h o a b = rd (bfs (st w h o) (stN w h + 1) 0 ((List.replicate (stN w h) (-1)).set a.toNat 0, [a])) b := rfl
  omega
theorem dst_near {w h o g c d : Int} (hg : icell w h g = true) (hd : 0 ≤ st w h o c d) (H : 0 ≤ dst w h o g c) : 0 ≤ dst w h o g (st w h o c d) ∧ dst w h o g c ≤ dst w h o g (st w h o c d) + 1 := by
  have cg := icell_iff.1 hg
  obtain ⟨_, f2, f3, _, _⟩ := st_facts hd
  have cc := icell_iff.1 f2
  have cs := icell_iff.1 f3
  have hN : ((stN w h : Nat) : Int) = cells w h := by have := cells_bd w h; unfold stN; omega
  obtain ⟨_, _, p⟩ := dists_spec (steps_st w h o) (a := g) cg.1 (by omega)
  unfold dst at H ⊢
  rcases p c cc.1 (by omega) with ⟨e, _⟩ | ⟨g1, w1, m1⟩
  · omega
  · rcases p (st w h o c d) cs.1 (by omega) with ⟨e, n2⟩ | ⟨g2, w2, m2⟩
    · exact absurd (Walk.snoc w1 hd) (n2 _)
    · obtain ⟨q, hq⟩ := (sym_st w h o).back c d hd
      have := Walk.snoc (d := q) w2 (by rw [hq]; exact cc.1)
      rw [hq] at this
      have := m1 _ this
      exact ⟨g2, by omega⟩
theorem dst_zero {w h o g c : Int} (hg : icell w h g = true) (hc : icell w h c = true) : dst w h o g c = 0 ↔ c = g := by
  have cg := icell_iff.1 hg
  have cc := icell_iff.1 hc
  have hN : ((stN w h : Nat) : Int) = cells w h := by have := cells_bd w h; unfold stN; omega
  obtain ⟨_, p0, p⟩ := dists_spec (steps_st w h o) (a := g) cg.1 (by omega)
  constructor
  · intro H
    unfold dst at H
    rcases p c cc.1 (by omega) with ⟨e, _⟩ | ⟨g1, w1, m1⟩
    · omega
    · rw [H] at w1
      cases w1
      rfl
  · rintro rfl; exact p0
theorem dst_down {w h o g c : Int} {n : Nat} (hg : icell w h g = true) (hc : icell w h c = true) (H : dst w h o g c = (n : Int) + 1) : ∃ d, 0 ≤ d ∧ d ≤ 3 ∧ 0 ≤ st w h o c d ∧ dst w h o g (st w h o c d) < dst w h o g c := by
  have cg := icell_iff.1 hg
  have cc := icell_iff.1 hc
  have hN : ((stN w h : Nat) : Int) = cells w h := by have := cells_bd w h; unfold stN; omega
  obtain ⟨_, _, p⟩ := dists_spec (steps_st w h o) (a := g) cg.1 (by omega)
  have H0 := H
  unfold dst at H
  rcases p c cc.1 (by omega) with ⟨e, _⟩ | ⟨g1, w1, m1⟩
  · omega
  · rw [H, show ((n : Int) + 1).toNat = n + 1 by omega] at w1
    cases w1 with
    | @snoc _ b e hw he =>
      obtain ⟨q, hq⟩ := (sym_st w h o).back b e he
      obtain ⟨_, f2, _, _, _⟩ := st_facts he
      have cb := icell_iff.1 f2
      have hs : 0 ≤ st w h o (st w h o b e) q := by rw [hq]; exact cb.1
      obtain ⟨_, _, _, d0, d3⟩ := st_facts hs
      refine ⟨q, d0, d3, hs, ?_⟩
      rw [hq, H0]
      rcases p b cb.1 (by omega) with ⟨e2, n2⟩ | ⟨g2, w2, m2⟩
      · exact absurd hw (n2 _)
      · have := m2 _ hw
        unfold dst
        omega
def near (w h o g c d : Int) : Bool := decide (0 ≤ st w h o c d) && decide (dst w h o g (st w h o c d) < dst w h o g c)
def fdir (w h o g c : Int) : Int := (([0, 1, 2, 3] : List Int).find? (near w h o g c)).getD 0
def wayM (w h o g : Int) : Nat → Int → List Int
  | 0, _ => []
  | n + 1, c => fdir w h o g c :: wayM w h o g n (st w h o c (fdir w h o g c))
theorem fdir_some {w h o g c : Int} {n : Nat} (hg : icell w h g = true) (hc : icell w h c = true) (H : dst w h o g c = (n : Int) + 1) :
    ([0, 1, 2, 3] : List Int).find? (near w h o g c) = some (fdir w h o g c) ∧ 0 ≤ st w h o c (fdir w h o g c) ∧ dst w h o g (st w h o c (fdir w h o g c)) = n := by
  obtain ⟨d, d0, d3, hd, hlt⟩ := dst_down hg hc H
  have hn : near w h o g c d = true := by unfold near; rw [decide_eq_true hd, decide_eq_true hlt]; rfl
  cases hf : ([0, 1, 2, 3] : List Int).find? (near w h o g c) with
  | none =>
    have := List.find?_eq_none.1 hf d (by have : d = 0 ∨ d = 1 ∨ d = 2 ∨ d = 3 := by omega
                                          rcases this with rfl | rfl | rfl | rfl <;> simp)
    exact absurd hn this
  | some e =>
    have he : fdir w h o g c = e := by unfold fdir; rw [hf]; rfl
    have hp := List.find?_some hf
    rw [he]
    unfold near at hp
    rw [Bool.and_eq_true, decide_eq_true_eq, decide_eq_true_eq] at hp
    obtain ⟨q1, q2⟩ := dst_near hg hp.1 (by omega)
    exact ⟨rfl, hp.1, by omega⟩
theorem wayM_length (w h o g : Int) : ∀ n c, (wayM w h o g n c).length = n
  | 0, c => rfl
  | n + 1, c => by simp [wayM, wayM_length w h o g n]
theorem drop_rd {l : List Int} {i : Nat} (hi : i < l.length) : l.drop i = rd l (i : Int) :: l.drop (i + 1) := by
  rw [List.drop_eq_getElem_cons hi]
  congr 1
  rw [rd_nat, List.getD_eq_getElem?_getD, List.getElem?_eq_getElem hi]
  rfl
theorem impl_way1 {w h o g c : Int} (hg : icell w h g = true) (hc : icell w h c = true) {W : List Int} (hW : W.length ≤ 4) (hd : ∀ d ∈ W, 0 ≤ st w h o c d) {acc : List Int} (ha : acc.length ≤ 1000) {k : Nat} (hk : 3 ≤ k) {d0 : Int} {r : List Int × Bool}
    (hr : impl_WayBetween.l0 k g (dists (st w h o) (stN w h) g) (acc ++ [d0]) (st w h o c d0) w h o = some r) : ∀ (m j : Nat), j + m = W.length → (W.drop j).find? (near w h o g c) = some d0 →
    impl_WayBetween.l1 (k + m) g (dists (st w h o) (stN w h) g) acc c W (W.length : Int) (j : Int) w h o = some r
  | 0, j, hj, hf => by rw [List.drop_of_length_le (by omega)] at hf; exact absurd hf (by simp)
  | m + 1, j, hj, hf => by
    have hjl : j < W.length := by omega
    have hmem : rd W (j : Int) ∈ W := rd_memI (by omega) (by omega)
    have h0 := hd _ hmem
    obtain ⟨_, _, f3, _, _⟩ := st_facts h0
    have cs := icell_iff.1 f3
    have cc := icell_iff.1 hc
    rw [drop_rd hjl] at hf
    rw [show k + (m + 1) = (k + m) + 1 by omega]
    simp only [impl_WayBetween.l1]
    rw [if_pos (by omega), if_pos (by omega), if_pos (by omega), impl_Step_eq (by omega), Option.bind_some, if_pos h0, if_pos (by rw [dists_length hg]; exact cs.2), if_pos cc.1, if_pos (by rw [dists_length hg]; exact cc.2)]
    show (if dst w h o g (st w h o c (rd W (j : Int))) < dst w h o g c then _ else _) = _
    by_cases hlt : dst w h o g (st w h o c (rd W (j : Int))) < dst w h o g c
    · have hn : near w h o g c (rd W (j : Int)) = true := by unfold near; rw [decide_eq_true h0, decide_eq_true hlt]; rfl
      rw [List.find?_cons_of_pos hn] at hf
      obtain rfl := Option.some.inj hf
      rw [if_pos hlt, if_pos (by omega)]
      exact at_rounds (g := fun k => impl_WayBetween.l0 k g (dists (st w h o) (stN w h) g) (acc ++ [rd W (j : Int)]) (st w h o c (rd W (j : Int))) w h o) (fun k => (impl_WayBetween.mono_l k).1 _ _ _ _ _ _ _) (k := k) (by omega) hr
    · have hn : ¬ near w h o g c (rd W (j : Int)) = true := by unfold near; rw [decide_eq_false hlt]; simp
      rw [List.find?_cons_of_neg hn] at hf
      rw [if_neg hlt, w64 (x := (j : Int) + 1) (by omega) (by omega)]
      have := impl_way1 hg hc hW hd ha hk hr m (j + 1) (by omega) hf
      rwa [Int.natCast_add] at this
theorem impl_way {w h o g : Int} (hg : icell w h g = true) : ∀ (n k : Nat) (acc : List Int) (c : Int), icell w h c = true → dst w h o g c = n → acc.length + n ≤ 1000 → 6 * n + 20 ≤ k → impl_WayBetween.l0 k g (dists (st w h o) (stN w h) g) acc c w h o = some (acc ++ wayM w h o g n c, true)
  | 0, k, acc, c, hc, hn, ha, hk => by
    obtain ⟨m, rfl⟩ : ∃ m, k = m + 1 := ⟨k - 1, by omega⟩
    simp only [impl_WayBetween.l0, wayM, List.append_nil]
    rw [if_pos ((dst_zero hg hc).1 hn)]
  | n + 1, k, acc, c, hc, hn, ha, hk => by
    obtain ⟨m, rfl⟩ : ∃ m, k = m + 1 := ⟨k - 1, by omega⟩
    have hne : ¬ c = g := fun e => by have := (dst_zero (o := o) hg hc).2 e; omega
    obtain ⟨e1, e2, e3⟩ := fdir_some (o := o) (n := n) hg hc (by omega)
    obtain ⟨_, _, f3, _, _⟩ := st_facts e2
    have ih := impl_way hg n (m - 4) (acc ++ [fdir w h o g c]) (st w h o c (fdir w h o g c)) f3 e3 (by simp only [List.length_append, List.length_singleton]; omega) (by omega)
    simp only [impl_WayBetween.l0]
    rw [if_neg hne, impl_WaysFrom_eq (by omega), Option.bind_some]
    have hw := ways_length w h o c
    have hf : ((ways w h o c).drop 0).find? (near w h o g c) = some (fdir w h o g c) := by
      rw [List.drop_zero, ← e1]
      unfold ways
      rw [List.find?_filter]
      congr 1
      funext d
      unfold near
      cases decide (0 ≤ st w h o c d) <;> simp
    have := impl_way1 hg hc hw (fun d hd => ways_mem hd) (by omega : acc.length ≤ 1000) (by omega : 3 ≤ m - 4) ih (ways w h o c).length 0 (by omega) hf
    have r := at_rounds (g := fun k => impl_WayBetween.l1 k g (dists (st w h o) (stN w h) g) acc c (ways w h o c) ((ways w h o c).length : Int) (0 : Int) w h o) (fun k => (impl_WayBetween.mono_l k).2 _ _ _ _ _ _ _ _ _ _) (k := m - 4 + (ways w h o c).length) (k' := m) (by omega) this
    rw [show wayM w h o g (n + 1) c = fdir w h o g c :: wayM w h o g n (st w h o c (fdir w h o g c)) from rfl]
    rw [List.append_assoc] at r
    exact r
def wayOf (w h o a b : Int) : List Int × Bool := if mok w h o = true ∧ icell w h a = true ∧ icell w h b = true ∧ 0 ≤ dst w h o b a then (wayM w h o b (dst w h o b a).toNat a, true) else ([], false)
theorem impl_WayBetween_eq {w h o : Int} {k : Nat} (hk : 300 ≤ k) (a b : Int) : impl_WayBetween.f k w h o a b = some (wayOf w h o a b) := by
  unfold impl_WayBetween.f wayOf
  rw [impl_DistanceOf_eq (by omega), Option.bind_some]
  by_cases H : mok w h o = true ∧ icell w h a = true ∧ icell w h b = true
  · obtain ⟨h1, h2, h3⟩ := H
    rw [if_pos (show mok w h o = true ∧ icell w h a = true ∧ icell w h b = true from ⟨h1, h2, h3⟩), dst_sym h2 h3]
    by_cases h4 : 0 ≤ dst w h o b a
    · rw [if_neg (by omega), if_pos ⟨h1, h2, h3, h4⟩, impl_distances_eq (by omega) h3, Option.bind_some]
      have hlt := dst_lt (o := o) (b := a) h3
      have := impl_way (o := o) h3 (dst w h o b a).toNat k [] a h2 (by omega) (by simp; omega) (by omega)
      simpa using this
    · rw [if_pos (by omega), if_neg (fun q => h4 q.2.2.2)]
  · rw [if_neg H, if_pos (by decide), if_neg (fun q => H ⟨q.1, q.2.1, q.2.2.1⟩)]
end Go.Proofs.Ytccjanhdnheclaa.F
end

section
namespace Go.Proofs.Ytccjanhdnheclaa.F
open Go.RowKit Go.Proofs.YtccjanhdnheclaaW.PrintWords Go.Proofs.YtccjanhdnheclaaW.PrintLast Go.Proofs.YtccjanhdnheclaaW.PrintMore
set_option linter.unusedVariables false
set_option linter.unusedSimpArgs false
def wo (R : List Int) (i : Int) : List Int := R.filter fun j => j != i
theorem mem_wo {R : List Int} {i j : Int} : j ∈ wo R i ↔ j ∈ R ∧ j ≠ i := by unfold wo; rw [List.mem_filter]; simp
theorem wo_nodup {R : List Int} {i : Int} (h : R.Nodup) : (wo R i).Nodup := h.filter _
theorem wo_at {R : List Int} (h : R.Nodup) {p : Nat} (hp : p < R.length) : wo R R[p] = R.take p ++ R.drop (p + 1) := by
  induction R generalizing p with
  | nil => simp at hp
  | cons x R ih =>
    rw [List.nodup_cons] at h
    cases p with
    | zero =>
      simp only [List.getElem_cons_zero, List.take_zero, List.drop_succ_cons, List.drop_zero, List.nil_append]
      unfold wo
      rw [List.filter_cons_of_neg (by simp)]
      refine List.filter_eq_self.2 fun y hy => ?_
      simp only [bne_iff_ne, ne_eq]
      rintro rfl
      exact h.1 hy
    | succ p =>
      have hp' : p < R.length := by simpa using hp
      have e := ih h.2 hp'
      simp only [List.getElem_cons_succ, List.take_succ_cons, List.drop_succ_cons, List.cons_append]
      unfold wo at e ⊢
      rw [List.filter_cons_of_pos (by simp only [bne_iff_ne, ne_eq]; intro e; exact h.1 (by rw [e]; exact List.getElem_mem hp')), e]
theorem wo_length {R : List Int} (h : R.Nodup) {i : Int} (hi : i ∈ R) : (wo R i).length + 1 = R.length := by
  obtain ⟨p, hp, rfl⟩ := List.getElem_of_mem hi
  rw [wo_at h hp]
  simp
  omega
section
variable (d : Int → Int → Int) (tc : Int → Int) (back : Int)
def rstep (c : Int) (r : Int → List Int × Int) (s : List Int × Int) (i : Int) : List Int × Int :=
  if 0 ≤ d c (tc i) ∧ 0 ≤ (r i).2 ∧ (s.2 < 0 ∨ d c (tc i) + (r i).2 < s.2) then (i :: (r i).1, d c (tc i) + (r i).2) else s
def rbest : Nat → Int → List Int → List Int × Int
  | 0, c, _ => ([], if back < 0 then 0 else d c back)
  | n + 1, c, R => R.foldl (rstep d tc c (fun i => rbest n (tc i) (wo R i))) ([], -1)
variable {d tc back}
theorem rstep_inv {P : List Int × Int → Prop} {c : Int} {r : Int → List Int × Int} (hv : ∀ i, 0 ≤ d c (tc i) → 0 ≤ (r i).2 → P (i :: (r i).1, d c (tc i) + (r i).2)) : ∀ (R : List Int) (s : List Int × Int), P s → P (R.foldl (rstep d tc c r) s)
  | [], s, h => h
  | i :: R, s, h => by
    rw [List.foldl_cons]
    refine rstep_inv hv R _ ?_
    unfold rstep
    split
    · rename_i q; exact hv i q.1 q.2.1
    · exact h
theorem rfold {c : Int} {r : Int → List Int × Int} {R : List Int} : ∀ t, t ≤ R.length →
    (∀ i ∈ R.take t, 0 ≤ d c (tc i) → 0 ≤ (r i).2 → 0 ≤ ((R.take t).foldl (rstep d tc c r) ([], -1)).2 ∧ ((R.take t).foldl (rstep d tc c r) ([], -1)).2 ≤ d c (tc i) + (r i).2) ∧
    ((R.take t).foldl (rstep d tc c r) ([], -1) = ([], -1) ∨ ∃ (p : Nat) (hp : p < R.length), p < t ∧ (R.take t).foldl (rstep d tc c r) ([], -1) = (R[p] :: (r R[p]).1, d c (tc R[p]) + (r R[p]).2) ∧ 0 ≤ d c (tc R[p]) ∧ 0 ≤ (r R[p]).2 ∧ ∀ (j : Nat) (hj : j < R.length), j < p → 0 ≤ d c (tc R[j]) → 0 ≤ (r R[j]).2 → d c (tc R[p]) + (r R[p]).2 < d c (tc R[j]) + (r R[j]).2)
  | 0, _ => ⟨fun i hi => absurd hi (by simp), .inl rfl⟩
  | t + 1, ht => by
    obtain ⟨h1, h2⟩ := rfold (c := c) (r := r) (R := R) t (by omega)
    have htl : t < R.length := by omega
    have e : R.take (t + 1) = R.take t ++ [R[t]] := by rw [List.take_add_one, List.getElem?_eq_getElem htl]; rfl
    rw [e, List.foldl_append]
    generalize hs : (R.take t).foldl (rstep d tc c r) ([], -1) = s at h1 h2
    simp only [List.foldl_cons, List.foldl_nil]
    have hmem : ∀ j (hj : j < R.length), j < t → R[j] ∈ R.take t := fun j hj hjt => by
      rw [List.mem_iff_getElem]
      exact ⟨j, by rw [List.length_take]; omega, by rw [List.getElem_take]⟩
    unfold rstep
    by_cases q : 0 ≤ d c (tc R[t]) ∧ 0 ≤ (r R[t]).2 ∧ (s.2 < 0 ∨ d c (tc R[t]) + (r R[t]).2 < s.2)
    · rw [if_pos q]
      refine ⟨fun i hi d0 m0 => ?_, .inr ⟨t, htl, by omega, rfl, q.1, q.2.1, fun j hj hjt d0 m0 => ?_⟩⟩
      · simp only
        rcases List.mem_append.1 hi with hi | hi
        · obtain ⟨a, b⟩ := h1 i hi d0 m0
          rcases q.2.2 with z | z <;> omega
        · rw [List.mem_singleton.1 hi]; omega
      · obtain ⟨a, b⟩ := h1 _ (hmem j hj hjt) d0 m0
        rcases q.2.2 with z | z <;> omega
    · rw [if_neg q]
      refine ⟨fun i hi d0 m0 => ?_, ?_⟩
      · rcases List.mem_append.1 hi with hi | hi
        · exact h1 i hi d0 m0
        · rw [List.mem_singleton.1 hi] at d0 m0 ⊢
          have : ¬ (s.2 < 0 ∨ d c (tc R[t]) + (r R[t]).2 < s.2) := fun z => q ⟨d0, m0, z⟩
          omega
      · rcases h2 with h2 | ⟨p, hp, h3, h4⟩
        · exact .inl h2
        · exact .inr ⟨p, hp, by omega, h4⟩
structure Rel (d : Int → Int → Int) (ok : Int → Prop) : Prop where
  bd : ∀ x y, -1 ≤ d x y ∧ d x y ≤ 15
  self : ∀ x, ok x → d x x = 0
  rel : ∀ a b c, 0 ≤ d a b → 0 ≤ d a c → 0 ≤ d b c
def comb (order : List Int) (len : Int) (q s : List Int × Int) : List Int × Int := if q.2 < 0 then s else if s.2 < 0 ∨ len + q.2 < s.2 then (order ++ q.1, len + q.2) else s
def rgo (c : Int) (r : Int → List Int × Int) (order : List Int) (len : Int) (s : List Int × Int) (i : Int) : List Int × Int := if 0 ≤ d c (tc i) then comb (order ++ [i]) (len + d c (tc i)) (r i) s else s
theorem comb_step {c len : Int} {r : Int → List Int × Int} {order : List Int} (hl : 0 ≤ len) (q s : List Int × Int) (i : Int) : rgo (d := d) (tc := tc) c r order len (comb order len q s) i = comb order len (rstep d tc c r q i) s := by
  unfold rgo rstep
  by_cases v : 0 ≤ d c (tc i)
  · rw [if_pos v]
    by_cases m : 0 ≤ (r i).2
    · have hm : ¬ (r i).2 < 0 := by omega
      have hb : ¬ d c (tc i) + (r i).2 < 0 := by omega
      have ea : len + d c (tc i) + (r i).2 = len + (d c (tc i) + (r i).2) := by omega
      have el : (order ++ [i]) ++ (r i).1 = order ++ i :: (r i).1 := by simp
      have L : ∀ X : List Int × Int, comb (order ++ [i]) (len + d c (tc i)) (r i) X = if X.2 < 0 ∨ len + (d c (tc i) + (r i).2) < X.2 then (order ++ i :: (r i).1, len + (d c (tc i) + (r i).2)) else X := fun X => by
        unfold comb
        rw [if_neg hm, ea, el]
      rw [L]
      by_cases z : q.2 < 0 ∨ d c (tc i) + (r i).2 < q.2
      · rw [if_pos (show 0 ≤ d c (tc i) ∧ 0 ≤ (r i).2 ∧ (q.2 < 0 ∨ d c (tc i) + (r i).2 < q.2) from ⟨v, m, z⟩)]
        have R : comb order len (i :: (r i).1, d c (tc i) + (r i).2) s = if s.2 < 0 ∨ len + (d c (tc i) + (r i).2) < s.2 then (order ++ i :: (r i).1, len + (d c (tc i) + (r i).2)) else s := by
          unfold comb
          exact if_neg hb
        rw [R]
        by_cases q0 : q.2 < 0
        · have e : comb order len q s = s := by unfold comb; rw [if_pos q0]
          rw [e]
        · by_cases s0 : s.2 < 0 ∨ len + q.2 < s.2
          · have e : comb order len q s = (order ++ q.1, len + q.2) := by unfold comb; rw [if_neg q0, if_pos s0]
            rw [e, if_pos (show (order ++ q.1, len + q.2).2 < 0 ∨ len + (d c (tc i) + (r i).2) < (order ++ q.1, len + q.2).2 from .inr (by simp only; omega)), if_pos (show s.2 < 0 ∨ len + (d c (tc i) + (r i).2) < s.2 by omega)]
          · have e : comb order len q s = s := by unfold comb; rw [if_neg q0, if_neg s0]
            rw [e]
      · rw [if_neg (show ¬ (0 ≤ d c (tc i) ∧ 0 ≤ (r i).2 ∧ (q.2 < 0 ∨ d c (tc i) + (r i).2 < q.2)) from fun y => z y.2.2)]
        have q0 : ¬ q.2 < 0 := fun e => z (.inl e)
        by_cases s0 : s.2 < 0 ∨ len + q.2 < s.2
        · have e : comb order len q s = (order ++ q.1, len + q.2) := by unfold comb; rw [if_neg q0, if_pos s0]
          rw [e, if_neg (show ¬ ((order ++ q.1, len + q.2).2 < 0 ∨ len + (d c (tc i) + (r i).2) < (order ++ q.1, len + q.2).2) by simp only; omega)]
        · have e : comb order len q s = s := by unfold comb; rw [if_neg q0, if_neg s0]
          rw [e, if_neg (show ¬ (s.2 < 0 ∨ len + (d c (tc i) + (r i).2) < s.2) by omega)]
    · rw [if_neg (fun z => m z.2.1)]
      have hm : (r i).2 < 0 := by omega
      have L : ∀ X : List Int × Int, comb (order ++ [i]) (len + d c (tc i)) (r i) X = X := fun X => by
        unfold comb
        rw [if_pos hm]
      rw [L]
  · rw [if_neg v, if_neg (fun z => v z.1)]
theorem comb_fold {c len : Int} {r : Int → List Int × Int} {order : List Int} (hl : 0 ≤ len) : ∀ (R : List Int) (q s : List Int × Int), R.foldl (rgo (d := d) (tc := tc) c r order len) (comb order len q s) = comb order len (R.foldl (rstep d tc c r) q) s
  | [], q, s => rfl
  | i :: R, q, s => by
    rw [List.foldl_cons, List.foldl_cons, comb_step hl, comb_fold hl R]
end
def left (n : Nat) (order : List Int) : List Int := (ints n).filter fun i => !order.contains i
theorem ints_nodup (n : Nat) : (ints n).Nodup := by
  unfold ints
  exact List.pairwise_map.2 (List.nodup_range.imp fun h e => h (by omega))
theorem left_nodup (n : Nat) (order : List Int) : (left n order).Nodup := (ints_nodup n).filter _
theorem mem_left {n : Nat} {order : List Int} {i : Int} : i ∈ left n order ↔ (0 ≤ i ∧ i < n) ∧ i ∉ order := by
  unfold left
  rw [List.mem_filter, mem_ints]
  simp
theorem left_wo (n : Nat) (order : List Int) (i : Int) : left n (order ++ [i]) = wo (left n order) i := by
  unfold left wo
  rw [List.filter_filter]
  refine List.filter_congr fun j _ => ?_
  rw [Bool.eq_iff_iff]
  simp only [List.contains_eq_mem, List.mem_append, List.mem_singleton, Bool.not_eq_eq_eq_not, Bool.not_true, decide_eq_false_iff_not, not_or, Bool.and_eq_true, bne_iff_ne, ne_eq]
  exact And.comm
theorem foldO_some {σ : Type} {f : Nat → σ → Option σ} {g : σ → Int → σ} {n : Nat} (h : ∀ i, i < n → ∀ s, f i s = some (g s (i : Int))) : ∀ (m i : Nat) (s : σ), i + m = n → foldO f m i s = some (((List.range' i m).map fun (j : Nat) => (j : Int)).foldl g s)
  | 0, i, s, _ => rfl
  | m + 1, i, s, hm => by
    simp only [foldO]
    rw [h i (by omega), Option.bind_some, foldO_some h m (i + 1) _ (by omega), List.range'_succ, List.map_cons, List.foldl_cons]
theorem foldl_filter_if {σ : Type} (p : Int → Bool) (g : σ → Int → σ) : ∀ (l : List Int) (s : σ), l.foldl (fun s i => if p i = true then g s i else s) s = (l.filter p).foldl g s
  | [], s => rfl
  | i :: l, s => by
    rw [List.foldl_cons]
    by_cases h : p i = true
    · rw [if_pos h, List.filter_cons_of_pos h, List.foldl_cons, foldl_filter_if p g l]
    · rw [if_neg h, List.filter_cons_of_neg h, foldl_filter_if p g l]
end Go.Proofs.Ytccjanhdnheclaa.F
end

section
namespace Go.Proofs.Ytccjanhdnheclaa.F
open Go.RowKit Go.Proofs.YtccjanhdnheclaaW.PrintWords Go.Proofs.YtccjanhdnheclaaW.PrintLast Go.Proofs.YtccjanhdnheclaaW.PrintMore
set_option linter.unusedVariables false
set_option linter.unusedSimpArgs false
def dd (w h o a b : Int) : Int := if mok w h o = true ∧ icell w h a = true ∧ icell w h b = true then dst w h o a b else -1
theorem dd_in {w h o a b : Int} (M : mok w h o = true) (ha : icell w h a = true) (hb : icell w h b = true) : dd w h o a b = dst w h o a b := by unfold dd; rw [if_pos ⟨M, ha, hb⟩]
theorem dst_iff {w h o a b : Int} (ha : icell w h a = true) (hb : icell w h b = true) : 0 ≤ dst w h o a b ↔ ∃ n, Walk (st w h o) a n b := by
  have ca := icell_iff.1 ha
  have cb := icell_iff.1 hb
  have hN := stN_int w h
  obtain ⟨_, _, p⟩ := dists_spec (steps_st w h o) (a := a) ca.1 (by omega)
  unfold dst
  rcases p b cb.1 (by omega) with ⟨e, n1⟩ | ⟨g1, w1, m1⟩
  · rw [e]
    exact ⟨fun z => absurd z (by decide), fun ⟨n, z⟩ => absurd z (n1 n)⟩
  · exact ⟨fun _ => ⟨_, w1⟩, fun _ => g1⟩
theorem dd_rel (w h o : Int) : Rel (dd w h o) (fun c => mok w h o = true ∧ icell w h c = true) := by
  refine ⟨fun x y => ?_, fun x hx => ?_, fun a b c hab hac => ?_⟩
  · unfold dd
    split
    · rename_i q
      have h1 := dst_bd (o := o) q.2.1 q.2.2
      have h2 := dst_lt (o := o) (b := y) q.2.1
      omega
    · omega
  · rw [dd_in hx.1 hx.2 hx.2, dst_self hx.2]
  · unfold dd at hab hac
    split at hab
    · rename_i q
      split at hac
      · rename_i q2
        rw [dd_in q.1 q.2.2 q2.2.2]
        obtain ⟨n, h1⟩ := (dst_iff q.2.1 q.2.2).1 hab
        obtain ⟨m, h2⟩ := (dst_iff q2.2.1 q2.2.2).1 hac
        exact (dst_iff q.2.2 q2.2.2).2 ⟨n + m, (Walk.rev (steps_st w h o) (sym_st w h o) h1).trans h2⟩
      · exact absurd hac (by decide)
    · exact absurd hab (by decide)
theorem spec_DistanceOf_eq {w h o : Int} {k : Nat} (hk : 200 ≤ k) (a b : Int) : spec_DistanceOf.f k w h o a b = some (dd w h o a b) := by
  unfold spec_DistanceOf.f dd
  rw [spec_l04Has_eq, Option.bind_some, spec_l04Has_eq, Option.bind_some]
  by_cases H1 : (mok w h o && icell w h a) = true
  · rw [if_pos H1]
    obtain ⟨M, ha⟩ := Bool.and_eq_true_iff.1 H1
    by_cases hb : icell w h b = true
    · have cb := icell_iff.1 hb
      rw [if_pos (by simp [M, hb]), spec_l04Distances_eq hk ha, Option.bind_some, if_pos cb.1, if_pos (by rw [dists_length ha]; exact cb.2), if_pos ⟨M, ha, hb⟩]
      rfl
    · rw [if_neg (by simp [hb]), if_neg (fun z => hb z.2.2)]
  · rw [if_neg H1, if_neg (fun z => H1 (by simp [z.1, z.2.1]))]
theorem impl_DistanceOf_dd {w h o : Int} {k : Nat} (hk : 200 ≤ k) (a b : Int) : impl_DistanceOf.f k w h o a b = some (dd w h o a b) := impl_DistanceOf_eq hk a b
def resok (w h o s : Int) (T : List Int) : Bool := mok w h o && icell w h s && T.all (icell w h) && decide (T.length ≤ 5)
theorem resok_iff {w h o s : Int} {T : List Int} : resok w h o s T = true ↔ mok w h o = true ∧ icell w h s = true ∧ (∀ c ∈ T, icell w h c = true) ∧ T.length ≤ 5 := by
  unfold resok
  simp only [Bool.and_eq_true, decide_eq_true_eq, List.all_eq_true]
  exact ⟨fun ⟨⟨⟨a, b⟩, c⟩, d⟩ => ⟨a, b, c, d⟩, fun ⟨a, b, c, d⟩ => ⟨⟨⟨a, b⟩, c⟩, d⟩⟩
def resc (w h o s : Int) (T : List Int) (back : Int) : List Int × Int := if resok w h o s T = true then rbest (dd w h o) (rd T) back T.length s (ints T.length) else ([], -1)
theorem ints_map (T : List Int) : (ints T.length).map (rd T) = T := by
  apply List.ext_getElem
  · rw [List.length_map, ints_length]
  · intro i h1 h2
    unfold ints
    simp only [List.map_map, List.getElem_map, List.getElem_range, Function.comp]
    rw [rd_nat, List.getD_eq_getElem?_getD, List.getElem?_eq_getElem h2]; rfl
end Go.Proofs.Ytccjanhdnheclaa.F
end

section
namespace Go.Proofs.Ytccjanhdnheclaa.F
open Go.RowKit Go.Proofs.YtccjanhdnheclaaW.PrintWords Go.Proofs.YtccjanhdnheclaaW.PrintLast Go.Proofs.YtccjanhdnheclaaW.PrintMore
set_option linter.unusedVariables false
set_option linter.unusedSimpArgs false
theorem impl_res {w h o start : Int} {T : List Int} {back : Bool} (M : mok w h o = true) (hT : ∀ c ∈ T, icell w h c = true) (h5 : T.length ≤ 5) (hst : 0 ≤ start) : ∀ (n k : Nat) (order : List Int) (at_ len : Int) (s : List Int × Int),
    order.length + n = T.length → (left T.length order).length = n → icell w h at_ = true → (back = true → 0 ≤ dd w h o at_ start) → 0 ≤ len ∧ len ≤ 16 * (5 - (n : Int)) → n < k →
    impl_rescue.l0 w h o T start back k order at_ len s = some (comb order len (rbest (dd w h o) (rd T) (if back = true then start else -1) n at_ (left T.length order)) s)
  | 0, k, order, at_, len, s, ho, hl, ha, hb, hlen, hk => by
    obtain ⟨m, rfl⟩ : ∃ m, k = m + 1 := ⟨k - 1, by omega⟩
    rw [impl_rescue.l0, if_neg (by omega), if_pos (by omega)]
    cases back with
    | true =>
      have hb := hb rfl
      have := (dd_rel w h o).bd at_ start
      have e : ∀ R, rbest (dd w h o) (rd T) start 0 at_ R = ([], dd w h o at_ start) := fun R => by
        simp only [rbest]
        rw [if_neg (show ¬ start < 0 by omega)]
      simp only [if_true]
      rw [impl_DistanceOf_dd (by decide), Option.bind_some, Option.bind_some, w64 (by omega) (by omega), e]
      unfold comb
      simp only [List.append_nil]
      rw [if_neg (show ¬ dd w h o at_ start < 0 by omega)]
    | false =>
      have e : ∀ R, rbest (dd w h o) (rd T) (-1) 0 at_ R = ([], 0) := fun R => by
        simp only [rbest]
        rw [if_pos (by decide)]
      simp only [Bool.false_eq_true, if_false]
      rw [Option.bind_some, e]
      unfold comb
      simp only [List.append_nil, Int.add_zero]
      rw [if_neg (show ¬ (0 : Int) < 0 by decide)]
  | n + 1, k, order, at_, len, s, ho, hl, ha, hb, hlen, hk => by
    obtain ⟨m, rfl⟩ : ∃ m, k = m + 1 := ⟨k - 1, by omega⟩
    rw [impl_rescue.l0, if_neg (by omega), if_neg (by omega)]
    have hr : ∀ i : Int, i ∈ left T.length order → 0 ≤ i ∧ i < T.length := fun i hi => (mem_left.1 hi).1
    rw [foldO_some (n := T.length) (g := fun s i => if (!order.contains i) = true then rgo (d := dd w h o) (tc := rd T) at_ (fun i => rbest (dd w h o) (rd T) (if back = true then start else -1) n (rd T i) (wo (left T.length order) i)) order len s i else s) (fun i hi s => ?_) T.length 0 s (by omega)]
    · have e : ((List.range' 0 T.length).map fun (j : Nat) => (j : Int)) = ints T.length := by unfold ints; rw [List.range_eq_range']
      rw [e, foldl_filter_if (fun i => !order.contains i)]
      have := comb_fold (d := dd w h o) (tc := rd T) (c := at_) (len := len) (r := fun i => rbest (dd w h o) (rd T) (if back = true then start else -1) n (rd T i) (wo (left T.length order) i)) (order := order) hlen.1 (left T.length order) ([], -1) s
      simp only [rbest]
      rw [← this]
      rfl
    · have hic : icell w h (rd T (i : Int)) = true := hT _ (rd_memI (by omega) (by omega))
      rw [impl_DistanceOf_dd (by decide), Option.bind_some]
      have hd := (dd_rel w h o).bd at_ (rd T (i : Int))
      unfold rgo
      by_cases d0 : 0 ≤ dd w h o at_ (rd T (i : Int))
      · rw [if_pos d0, slices_Contains_eq (by omega) (by omega), Option.bind_some]
        by_cases c : order.contains (i : Int) = true
        · rw [if_pos c, if_neg (by rw [c]; decide)]
        · have hc : (i : Int) ∉ order := by simpa using c
          rw [if_neg c, if_pos (by simpa using hc), if_pos d0]
          have hmem : (i : Int) ∈ left T.length order := mem_left.2 ⟨⟨by omega, by omega⟩, hc⟩
          have hw := wo_length (left_nodup T.length order) hmem
          have := impl_res M hT h5 hst n m (order ++ [(i : Int)]) (rd T (i : Int)) (wrap64 (len + dd w h o at_ (rd T (i : Int)))) s (by simp; omega) (by rw [left_wo]; omega) hic (fun q => (dd_rel w h o).rel at_ _ _ d0 (hb q)) (by rw [w64 (by omega) (by omega)]; omega) (by omega)
          rw [this, left_wo, w64 (by omega) (by omega)]
      · rw [if_neg d0]
        split <;> simp [d0]
theorem left_nil (n : Nat) : left n [] = ints n := by
  unfold left
  exact List.filter_eq_self.2 fun _ _ => rfl
theorem rbest_none {d : Int → Int → Int} {tc : Int → Int} {back c : Int} {n : Nat} {R : List Int} (h : (rbest d tc back (n + 1) c R).2 < 0) : rbest d tc back (n + 1) c R = ([], -1) := by
  simp only [rbest] at h ⊢
  obtain ⟨_, h1⟩ := rfold (d := d) (tc := tc) (c := c) (r := fun i => rbest d tc back n (tc i) (wo R i)) (R := R) R.length (Nat.le_refl _)
  rw [List.take_length] at h1
  rcases h1 with h1 | ⟨p, hp, _, e, d0, m0, _⟩
  · exact h1
  · rw [e] at h; simp only at h; omega
theorem impl_rescue_eq (w h o s : Int) (T : List Int) (back : Bool) : impl_rescue.f w h o s T back = some (resc w h o s T (if back = true then s else -1)) := by
  unfold impl_rescue.f
  rw [impl_isIn_eq, Option.bind_some, impl_isIn_eq, Option.bind_some]
  by_cases H : resok w h o s T = true
  · obtain ⟨M, hs, hT, h5⟩ := resok_iff.1 H
    have cs := icell_iff.1 hs
    rw [if_pos (by simp [M, hs]), if_pos (by rw [M]; simpa using hT), if_pos h5, impl_res M hT h5 cs.1 T.length 7 [] s 0 ([], -1) (by simp) (by rw [left_nil, ints_length]) hs (fun _ => by rw [(dd_rel w h o).self s ⟨M, hs⟩]; decide) (by omega) (by omega), left_nil]
    unfold resc
    rw [if_pos H]
    congr 1
    have hbk : (if back = true then s else -1) = s ∨ (if back = true then s else (-1 : Int)) < 0 := by cases back <;> simp
    generalize (if back = true then s else -1) = bk at hbk ⊢
    by_cases q : (rbest (dd w h o) (rd T) bk T.length s (ints T.length)).2 < 0
    · unfold comb
      rw [if_pos q]
      cases e : T.length with
      | zero =>
        exfalso
        rw [e] at q
        simp only [rbest] at q
        rcases hbk with rfl | hb
        · rw [(dd_rel w h o).self bk ⟨M, hs⟩] at q
          split at q <;> omega
        · rw [if_pos hb] at q
          omega
      | succ n =>
        rw [e] at q
        exact (rbest_none q).symm
    · unfold comb
      rw [if_neg q, if_pos (.inl (by decide))]
      simp
  · unfold resc
    rw [if_neg H]
    by_cases h1 : (mok w h o && [s].all (icell w h)) = true
    · rw [if_pos h1]
      by_cases h2 : (mok w h o && T.all (icell w h)) = true
      · rw [if_pos h2, if_neg (fun h5 => H (resok_iff.2 ?_))]
        simp only [Bool.and_eq_true, List.all_eq_true, List.mem_singleton, forall_eq] at h1 h2
        exact ⟨h1.1, h1.2, h2.2, h5⟩
      · rw [if_neg h2]
    · rw [if_neg h1]
end Go.Proofs.Ytccjanhdnheclaa.F
end

section
namespace Go.Proofs.Ytccjanhdnheclaa.F
open Go.RowKit Go.Proofs.YtccjanhdnheclaaW.PrintWords Go.Proofs.YtccjanhdnheclaaW.PrintLast Go.Proofs.YtccjanhdnheclaaW.PrintMore
set_option linter.unusedVariables false
set_option linter.unusedSimpArgs false
theorem rbest_len {d : Int → Int → Int} {tc : Int → Int} {back : Int} : ∀ (n : Nat) (c : Int) (R : List Int), (rbest d tc back n c R).1.length ≤ n
  | 0, c, R => by simp [rbest]
  | n + 1, c, R => by
    simp only [rbest]
    refine rstep_inv (P := fun s => s.1.length ≤ n + 1) (fun i _ _ => ?_) R _ (by simp)
    have := rbest_len (d := d) (tc := tc) (back := back) n (tc i) (wo R i)
    simp only [List.length_cons]
    omega
theorem rbest_mem {d : Int → Int → Int} {tc : Int → Int} {back : Int} : ∀ (n : Nat) (c : Int) (R : List Int), ∀ j ∈ (rbest d tc back n c R).1, j ∈ R
  | 0, c, R, j, hj => by simp [rbest] at hj
  | n + 1, c, R, j, hj => by
    simp only [rbest] at hj
    obtain ⟨_, h1⟩ := rfold (d := d) (tc := tc) (c := c) (r := fun i => rbest d tc back n (tc i) (wo R i)) (R := R) R.length (Nat.le_refl _)
    rw [List.take_length] at h1
    rcases h1 with h1 | ⟨p, hp, _, e, _⟩
    · rw [h1] at hj; simp at hj
    · rw [e] at hj
      rcases List.mem_cons.1 hj with rfl | hj
      · exact List.getElem_mem hp
      · exact (mem_wo.1 (rbest_mem n _ _ j hj)).1
def rord (w h o s : Int) (T : List Int) : List Int := (resc w h o s T (-1)).1.map (rd T)
theorem resc_len (w h o s : Int) (T : List Int) (back : Int) : (resc w h o s T back).1.length ≤ 5 := by
  unfold resc
  split
  · rename_i H
    obtain ⟨_, _, _, h5⟩ := resok_iff.1 H
    exact Nat.le_trans (rbest_len _ _ _) h5
  · simp
theorem resc_mem {w h o s : Int} {T : List Int} {back : Int} : ∀ j ∈ (resc w h o s T back).1, 0 ≤ j ∧ j < T.length := by
  intro j hj
  unfold resc at hj
  split at hj
  · exact mem_ints.1 (rbest_mem _ _ _ j hj)
  · simp at hj
theorem impl_RescueOrder_eq {k : Nat} (hk : 10 ≤ k) (w h o s : Int) (T : List Int) : impl_RescueOrder.f k w h o s T = some (rord w h o s T) := by
  unfold impl_RescueOrder.f rord
  rw [impl_rescue_eq, Option.bind_some, if_neg (by decide)]
  have hl := resc_len w h o s T (-1)
  have hm := @resc_mem w h o s T (-1)
  generalize (resc w h o s T (-1)).1 = L at hl hm
  have key : ∀ (t i k : Nat) (acc : List Int), i + t = L.length → t + 1 ≤ k → acc.length ≤ i → impl_RescueOrder.l0 k T acc L (L.length : Int) (i : Int) = some (acc ++ (L.drop i).map (rd T)) := by
    intro t
    induction t with
    | zero =>
      intro i k acc hi hk ha
      obtain ⟨m, rfl⟩ : ∃ m, k = m + 1 := ⟨k - 1, by omega⟩
      simp only [impl_RescueOrder.l0]
      rw [if_neg (by omega), List.drop_of_length_le (by omega)]
      simp
    | succ t ih =>
      intro i k acc hi hk ha
      obtain ⟨m, rfl⟩ : ∃ m, k = m + 1 := ⟨k - 1, by omega⟩
      have hil : i < L.length := by omega
      have e : rd L (i : Int) = L[i] := by rw [rd_nat, List.getD_eq_getElem?_getD, List.getElem?_eq_getElem hil]; rfl
      have hb := hm _ (List.getElem_mem hil)
      simp only [impl_RescueOrder.l0]
      rw [if_pos (by omega), if_pos (by omega), if_pos (by omega), e, if_pos hb.1, if_pos hb.2, if_pos (by omega), w64_succ hil (by omega), List.drop_eq_getElem_cons hil]
      have := ih (i + 1) m (acc ++ [rd T L[i]]) (by omega) (by omega) (by simp; omega)
      refine this.trans ?_
      rw [List.map_cons, List.append_assoc]
      rfl
  have := key L.length 0 k [] (by omega) (by omega) (by simp)
  simpa using this
end Go.Proofs.Ytccjanhdnheclaa.F
end

section
namespace Go.Proofs.Ytccjanhdnheclaa.F
open Go.RowKit Go.Proofs.YtccjanhdnheclaaW.PrintWords Go.Proofs.YtccjanhdnheclaaW.PrintLast Go.Proofs.YtccjanhdnheclaaW.PrintMore
set_option linter.unusedVariables false
set_option linter.unusedSimpArgs false
def lnk (w h o a b : Int) : Prop := ∃ n, Walk (st w h o) a n b
theorem lnk_refl (w h o a : Int) : lnk w h o a a := ⟨0, Walk.nil⟩
theorem lnk_symm {w h o a b : Int} (H : lnk w h o a b) : lnk w h o b a := by
  obtain ⟨n, H⟩ := H
  exact ⟨n, Walk.rev (steps_st w h o) (sym_st w h o) H⟩
theorem lnk_trans {w h o a b c : Int} (H : lnk w h o a b) (K : lnk w h o b c) : lnk w h o a c := by
  obtain ⟨n, H⟩ := H
  obtain ⟨m, K⟩ := K
  exact ⟨n + m, H.trans K⟩
theorem lnk_step {w h o a d : Int} (H : 0 ≤ st w h o a d) : lnk w h o a (st w h o a d) := ⟨1, Walk.snoc Walk.nil H⟩
theorem dst_lnk {w h o a b : Int} (ha : icell w h a = true) (hb : icell w h b = true) : 0 ≤ dst w h o a b ↔ lnk w h o a b := by
  have ca := icell_iff.1 ha
  have cb := icell_iff.1 hb
  have hN := stN_int w h
  obtain ⟨_, _, p⟩ := dists_spec (steps_st w h o) (a := a) ca.1 (by omega)
  unfold dst lnk
  rcases p b cb.1 (by omega) with ⟨e, n1⟩ | ⟨g1, w1, m1⟩
  · rw [e]
    exact ⟨fun z => absurd z (by decide), fun ⟨n, z⟩ => absurd z (n1 n)⟩
  · exact ⟨fun _ => ⟨_, w1⟩, fun _ => g1⟩
theorem st_more {w h o o2 c d : Int} (M : mok w h o2 = true) (hs : ∀ g, 0 ≤ g → opn o g = true → opn o2 g = true) (H : 0 ≤ st w h o c d) : st w h o2 c d = st w h o c d := by
  obtain ⟨e, p⟩ := st_nb H
  rw [e]
  unfold psg at p
  simp only [Bool.and_eq_true] at p
  have g0 := (igap_iff.1 p.1.2).1
  have : psg w h o2 (gp w h c d) = true := by
    unfold psg
    rw [M, p.1.2, hs _ g0 p.2]; rfl
  unfold st
  rw [if_pos this]
theorem lnk_more {w h o o2 a b : Int} (M : mok w h o2 = true) (hs : ∀ g, 0 ≤ g → opn o g = true → opn o2 g = true) (H : lnk w h o a b) : lnk w h o2 a b := by
  obtain ⟨n, H⟩ := H
  refine ⟨n, ?_⟩
  induction H with
  | nil => exact Walk.nil
  | snoc _ hd ih =>
    have e := st_more M hs hd
    rw [← e]
    exact Walk.snoc ih (by rw [e]; exact hd)
def first (w h o i : Int) : Int := rd (reach w h o i) 0
theorem ints_sorted (n : Nat) : (ints n).Pairwise (· < ·) := by
  unfold ints
  exact List.pairwise_map.2 (List.pairwise_lt_range.imp fun h => by omega)
theorem mem_reach {w h o i x : Int} (hi : icell w h i = true) : x ∈ reach w h o i ↔ icell w h x = true ∧ lnk w h o i x := by
  unfold reach
  rw [List.mem_filter, mem_ints, stN_int]
  constructor
  · intro ⟨h1, h2⟩
    have hx : icell w h x = true := icell_iff.2 h1
    refine ⟨hx, (dst_lnk hi hx).1 ?_⟩
    simpa using h2
  · intro ⟨h1, h2⟩
    refine ⟨icell_iff.1 h1, ?_⟩
    have := (dst_lnk hi h1).2 h2
    simpa using this
theorem first_spec {w h o i : Int} (hi : icell w h i = true) : icell w h (first w h o i) = true ∧ lnk w h o i (first w h o i) ∧ ∀ x, icell w h x = true → lnk w h o i x → first w h o i ≤ x := by
  have hp := reach_pos (o := o) hi
  have hm : first w h o i ∈ reach w h o i := rd_memI (Int.le_refl _) (by omega)
  obtain ⟨h1, h2⟩ := (mem_reach hi).1 hm
  refine ⟨h1, h2, fun x hx hl => ?_⟩
  have hxm := (mem_reach hi).2 ⟨hx, hl⟩
  have hs : (reach w h o i).Pairwise (· < ·) := (ints_sorted _).sublist List.filter_sublist
  unfold first
  cases e : reach w h o i with
  | nil => rw [e] at hp; exact absurd hp (by simp)
  | cons y ys =>
    rw [e] at hs hxm
    have : rd (y :: ys) 0 = y := rfl
    rw [this]
    rcases List.mem_cons.1 hxm with rfl | hz
    · exact Int.le_refl _
    · exact Int.le_of_lt ((List.pairwise_cons.1 hs).1 x hz)
theorem foldl_pstep (w h o : Int) : ∀ (l : List Nat) (n : Int), l.foldl (pstep w h o) n = n + (l.countP fun (i : Nat) => first w h o (i : Int) == (i : Int) : Nat)
  | [], n => by simp
  | i :: l, n => by
    rw [List.foldl_cons, foldl_pstep w h o l, List.countP_cons]
    unfold pstep
    by_cases c : rd (reach w h o (i : Int)) 0 = (i : Int)
    · rw [if_pos c, if_pos (by simpa [first] using c)]
      omega
    · rw [if_neg c, if_neg (by simpa [first] using c)]
      omega
theorem cells_pos {w h : Int} (G : gok w h = true) : 1 ≤ cells w h := by
  unfold cells
  rw [if_pos G]
  exact (gok_mul G).1
theorem icell_zero {w h : Int} (G : gok w h = true) : icell w h 0 = true := icell_iff.2 ⟨Int.le_refl _, by have := cells_pos G; omega⟩
theorem conn_iff {w h o : Int} : conn w h o = true ↔ mok w h o = true ∧ ∀ x, icell w h x = true → lnk w h o 0 x := by
  constructor
  · intro H
    have M := conn_mok H
    have G := (mok_iff.1 M).1
    have h0 := icell_zero G
    have hN := stN_int w h
    have hc := cells_pos G
    refine ⟨M, ?_⟩
    unfold conn parts at H
    rw [if_pos M, foldl_pstep] at H
    obtain ⟨m, hm⟩ : ∃ m, stN w h = m + 1 := ⟨stN w h - 1, by omega⟩
    rw [hm, List.range'_succ, List.countP_cons] at H
    have f0 : first w h o 0 = 0 := by
      obtain ⟨a, _, b⟩ := first_spec (o := o) h0
      have := b 0 h0 (lnk_refl _ _ _ _)
      have := icell_iff.1 a
      omega
    rw [if_pos (by simpa using f0)] at H
    have hz : (List.range' (0 + 1) m).countP (fun (i : Nat) => first w h o (i : Int) == (i : Int)) = 0 := by
      simp only [beq_iff_eq] at H
      omega
    rw [List.countP_eq_zero] at hz
    have key : ∀ (n : Nat) (x : Int), x.toNat ≤ n → icell w h x = true → lnk w h o 0 x := by
      intro n
      induction n with
      | zero =>
        intro x hx hc
        have := icell_iff.1 hc
        obtain rfl : x = 0 := by omega
        exact lnk_refl _ _ _ _
      | succ n ih =>
        intro x hx hc
        have cx := icell_iff.1 hc
        by_cases x0 : x = 0
        · rw [x0]; exact lnk_refl _ _ _ _
        obtain ⟨a, b, c⟩ := first_spec (o := o) hc
        have h1 := c x hc (lnk_refl _ _ _ _)
        have h2 := hz x.toNat (by rw [List.mem_range'_1]; omega)
        rw [show ((x.toNat : Nat) : Int) = x by omega] at h2
        have h3 : first w h o x ≠ x := by simpa using h2
        have ca := icell_iff.1 a
        exact lnk_trans (ih _ (by omega) a) (lnk_symm b)
    exact fun x hx => key _ x (Nat.le_refl _) hx
  · intro ⟨M, H⟩
    have G := (mok_iff.1 M).1
    have h0 := icell_zero G
    have hN := stN_int w h
    have hc := cells_pos G
    unfold conn parts
    rw [if_pos M, foldl_pstep]
    obtain ⟨m, hm⟩ : ∃ m, stN w h = m + 1 := ⟨stN w h - 1, by omega⟩
    have f0 : ∀ x, icell w h x = true → first w h o x = 0 := fun x hx => by
      obtain ⟨a, _, b⟩ := first_spec (o := o) hx
      have := b 0 h0 (lnk_symm (H x hx))
      have := icell_iff.1 a
      omega
    rw [hm, List.range'_succ, List.countP_cons, if_pos (by simpa using f0 0 h0)]
    have hz : (List.range' (0 + 1) m).countP (fun (i : Nat) => first w h o (i : Int) == (i : Int)) = 0 := by
      rw [List.countP_eq_zero]
      intro i hi
      rw [List.mem_range'_1] at hi
      rw [f0 i (icell_iff.2 (by omega))]
      simp
      omega
    rw [hz]
    rfl
theorem conn_lnk {w h o x y : Int} (H : conn w h o = true) (hx : icell w h x = true) (hy : icell w h y = true) : lnk w h o x y := by
  obtain ⟨_, h1⟩ := conn_iff.1 H
  exact lnk_trans (lnk_symm (h1 x hx)) (h1 y hy)
end Go.Proofs.Ytccjanhdnheclaa.F
end

section
namespace Go.Proofs.Ytccjanhdnheclaa.F
open Go.RowKit Go.Proofs.YtccjanhdnheclaaW.PrintWords Go.Proofs.YtccjanhdnheclaaW.PrintLast Go.Proofs.YtccjanhdnheclaaW.PrintMore
set_option linter.unusedVariables false
set_option linter.unusedSimpArgs false
theorem and_mask (x : Int) (m : Nat) (hm : m < 2 ^ 63) : 0 ≤ Go.bits .and .i64 x (m : Int) ∧ Go.bits .and .i64 x (m : Int) ≤ m := by
  have hm' : m % 2 ^ 64 = m := Nat.mod_eq_of_lt (by omega)
  have e : Go.bits .and .i64 x (m : Int) = IntKind.i64.wrap (((BitVec.ofInt 64 x &&& BitVec.ofInt 64 (m : Int)).toNat : Nat) : Int) := rfl
  have h : (BitVec.ofInt 64 x &&& BitVec.ofInt 64 (m : Int)).toNat ≤ m := by
    rw [BitVec.ofInt_natCast, BitVec.toNat_and, BitVec.toNat_ofNat, hm']
    exact Nat.and_le_right
  rw [e, wrapi_nat (by omega)]
  omega
theorem byte_draw {l : List Int} {i h : Int} (hi : 0 ≤ i) (hl : l.length ≤ 1048576) : ∃ b i' h', spec_l01Byte.f l i h = some (b, i', h') ∧ 0 ≤ b ∧ b ≤ 255 ∧ 0 ≤ i' := by
  unfold spec_l01Byte.f
  by_cases c : i < (l.length : Int)
  · rw [if_pos c, if_pos hi]
    exact ⟨_, _, _, rfl, (and_mask _ 255 (by decide)).1, (and_mask _ 255 (by decide)).2, by rw [w64 (by omega) (by omega)]; omega⟩
  · rw [if_neg c]
    exact ⟨_, _, _, rfl, (and_mask _ 255 (by decide)).1, (and_mask _ 255 (by decide)).2, hi⟩
theorem below_draw {l : List Int} {i h n : Int} (hi : 0 ≤ i) (hl : l.length ≤ 1048576) (hn : 1 ≤ n) (hn2 : n ≤ 256) : ∃ b i' h', spec_l01Below.f l i h n = some (b, i', h') ∧ 0 ≤ b ∧ b < n ∧ 0 ≤ i' := by
  obtain ⟨b, i', h', e, h0, h1, h2⟩ := byte_draw (h := h) hi hl
  unfold spec_l01Below.f
  rw [if_neg (by omega), if_pos hn2, e, Option.bind_some, if_neg (by omega)]
  exact ⟨_, _, _, rfl, Int.tmod_nonneg _ h0, Int.tmod_lt_of_pos _ (by omega), h2⟩
theorem new_draw {k : Nat} {l : List Int} (hl : l.length ≤ 1048576) (hk : l.length + 1 ≤ k) : ∃ h, spec_l01New.f k l = some (l, 0, h) := by
  unfold spec_l01New.f
  obtain ⟨s, _, e⟩ := inv_loop (n := min l.length 4000) (c := 0) (F := fun k (s : Int) i => spec_l01New.l0 k l s i) (fin := fun s => (l, (0 : Int), s)) (I := fun _ _ => True)
    (fun k s i _ hi _ => ⟨_, trivial, by
      simp only [spec_l01New.l0]
      rw [if_pos (by omega), if_pos (by omega), if_pos (by omega), w64_succ hi (by omega)]⟩)
    (fun k s _ _ => by
      simp only [spec_l01New.l0]
      by_cases c : ((min l.length 4000 : Nat) : Int) < (l.length : Int)
      · rw [if_pos c, if_neg (by omega)]
      · rw [if_neg c]) (min l.length 4000) 0 k _ (by omega) (by omega) trivial
  exact ⟨s, e⟩
end Go.Proofs.Ytccjanhdnheclaa.F
end

section
namespace Go.Proofs.Ytccjanhdnheclaa.F
open Go.RowKit Go.Proofs.YtccjanhdnheclaaW.PrintWords Go.Proofs.YtccjanhdnheclaaW.PrintLast Go.Proofs.YtccjanhdnheclaaW.PrintMore
set_option linter.unusedVariables false
set_option linter.unusedSimpArgs false
def pcn (n m : Nat) : Nat := (List.range m).countP fun i => n.testBit i
theorem pcn_split (q b m : Nat) (hb : b < 256) : pcn (256 * q + b) (8 + m) = pcn b 8 + pcn q m := by
  unfold pcn
  rw [List.range_add, List.countP_append, List.countP_map]
  congr 1
  · apply List.countP_congr
    intro i hi
    have := List.mem_range.1 hi
    rw [show (256 : Nat) = 2 ^ 8 from rfl, Nat.testBit_two_pow_mul_add q (by simpa using hb), if_pos this]
  · apply List.countP_congr
    intro i hi
    show (256 * q + b).testBit (8 + i) = true ↔ _
    rw [show (256 : Nat) = 2 ^ 8 from rfl, Nat.testBit_two_pow_mul_add q (by simpa using hb), if_neg (by omega), Nat.add_sub_cancel_left]
theorem and_byte (a d m : Nat) (hd : d < 256) : (256 * a + d) &&& m = 256 * (a &&& (m / 256)) + (d &&& (m % 256)) := by
  have hd' : d &&& (m % 256) < 2 ^ 8 := Nat.and_lt_two_pow _ (Nat.mod_lt _ (by decide))
  apply Nat.eq_of_testBit_eq
  intro i
  have em : m = 2 ^ 8 * (m / 256) + m % 256 := by omega
  conv => lhs; rw [em]
  rw [Nat.testBit_and, show (256 : Nat) = 2 ^ 8 from rfl, Nat.testBit_two_pow_mul_add _ (by simpa using hd), Nat.testBit_two_pow_mul_add _ (Nat.mod_lt _ (by decide)), Nat.testBit_two_pow_mul_add _ hd']
  split
  · rw [Nat.testBit_and]
  · rw [Nat.testBit_and]
def h1 (b : Nat) : Nat := (b / 2 &&& 85) + (b &&& 85)
def h2 (c : Nat) : Nat := (c / 4 &&& 51) + (c &&& 51)
theorem decA : ∀ b : Fin 256, ∀ e : Fin 2, ((b.val / 2 + 128 * e.val) &&& 85) = (b.val / 2 &&& 85) := by decide +kernel
theorem decA2 : ∀ b : Fin 256, (b.val / 2 &&& 93824992236885) = (b.val / 2 &&& 85) ∧ (b.val &&& 93824992236885) = (b.val &&& 85) := by decide +kernel
theorem decB : ∀ b : Fin 256, ∀ e : Fin 4, ((b.val / 4 + 64 * e.val) &&& 51) = (b.val / 4 &&& 51) := by decide +kernel
theorem decB2 : ∀ b : Fin 256, (b.val / 4 &&& 56294995342131) = (b.val / 4 &&& 51) ∧ (b.val &&& 56294995342131) = (b.val &&& 51) := by decide +kernel
theorem decC : ∀ b : Fin 256, h1 b.val ≤ 170 ∧ h2 (h1 b.val) ≤ 68 ∧ h2 (h1 b.val) % 16 ≤ 4 ∧ pcn b.val 8 ≤ 8 := by decide +kernel
theorem decD : ∀ b : Fin 256, ∀ e : Fin 5, ((h2 (h1 b.val) / 16 + 16 * e.val + h2 (h1 b.val)) &&& 15) = pcn b.val 8 := by decide +kernel
theorem decD2 : ∀ b : Fin 256, ((h2 (h1 b.val) / 16 + h2 (h1 b.val)) &&& 16557351571215) = pcn b.val 8 := by decide +kernel
theorem step1 {b0 b1 b2 : Nat} (l0 : b0 < 256) (l1 : b1 < 256) (l2 : b2 < 256) : ((256 * (256 * b2 + b1) + b0) / 2 &&& 6148914691236517205) + ((256 * (256 * b2 + b1) + b0) &&& 6148914691236517205) = 256 * (256 * h1 b2 + h1 b1) + h1 b0 := by
  have e0 : (256 * (256 * b2 + b1) + b0) / 2 = 256 * (256 * (b2 / 2) + (b1 / 2 + 128 * (b2 % 2))) + (b0 / 2 + 128 * (b1 % 2)) := by omega
  rw [e0, and_byte _ _ _ (by omega), and_byte _ _ _ (by omega), and_byte _ _ _ l0, and_byte _ _ _ l1]
  have a0 := decA ⟨b0, l0⟩ ⟨b1 % 2, by omega⟩
  have a1 := decA ⟨b1, l1⟩ ⟨b2 % 2, by omega⟩
  have a2 := decA2 ⟨b2, l2⟩
  simp only [] at a0 a1 a2
  simp only [show 6148914691236517205 / 256 = 24019198012642645 from rfl, show 6148914691236517205 % 256 = 85 from rfl, show 24019198012642645 / 256 = 93824992236885 from rfl, show 24019198012642645 % 256 = 85 from rfl, a0, a1, a2.1, a2.2]
  unfold h1
  omega
theorem step2 {b0 b1 b2 : Nat} (l0 : b0 < 256) (l1 : b1 < 256) (l2 : b2 < 256) : ((256 * (256 * b2 + b1) + b0) / 4 &&& 3689348814741910323) + ((256 * (256 * b2 + b1) + b0) &&& 3689348814741910323) = 256 * (256 * h2 b2 + h2 b1) + h2 b0 := by
  have e0 : (256 * (256 * b2 + b1) + b0) / 4 = 256 * (256 * (b2 / 4) + (b1 / 4 + 64 * (b2 % 4))) + (b0 / 4 + 64 * (b1 % 4)) := by omega
  rw [e0, and_byte _ _ _ (by omega), and_byte _ _ _ (by omega), and_byte _ _ _ l0, and_byte _ _ _ l1]
  have a0 := decB ⟨b0, l0⟩ ⟨b1 % 4, by omega⟩
  have a1 := decB ⟨b1, l1⟩ ⟨b2 % 4, by omega⟩
  have a2 := decB2 ⟨b2, l2⟩
  simp only [] at a0 a1 a2
  simp only [show 3689348814741910323 / 256 = 14411518807585587 from rfl, show 3689348814741910323 % 256 = 51 from rfl, show 14411518807585587 / 256 = 56294995342131 from rfl, show 14411518807585587 % 256 = 51 from rfl, a0, a1, a2.1, a2.2]
  unfold h2
  omega
theorem step3 {b0 b1 b2 : Nat} (l0 : b0 < 256) (l1 : b1 < 256) (l2 : b2 < 256) {x : Nat} (hx : x = 256 * (256 * h2 (h1 b2) + h2 (h1 b1)) + h2 (h1 b0)) : (x / 16 + x) &&& 1085102592571150095 = 256 * (256 * pcn b2 8 + pcn b1 8) + pcn b0 8 := by
  have c0 := decC ⟨b0, l0⟩
  have c1 := decC ⟨b1, l1⟩
  have c2 := decC ⟨b2, l2⟩
  have d0 := decD ⟨b0, l0⟩ ⟨h2 (h1 b1) % 16, by have := c1; simp only [] at this; omega⟩
  have d1 := decD ⟨b1, l1⟩ ⟨h2 (h1 b2) % 16, by have := c2; simp only [] at this; omega⟩
  have d2 := decD2 ⟨b2, l2⟩
  simp only [] at c0 c1 c2 d0 d1 d2
  subst hx
  generalize h2 (h1 b0) = e0 at *
  generalize h2 (h1 b1) = e1 at *
  generalize h2 (h1 b2) = e2 at *
  have e : (256 * (256 * e2 + e1) + e0) / 16 + (256 * (256 * e2 + e1) + e0) = 256 * (256 * (e2 / 16 + e2) + (e1 / 16 + 16 * (e2 % 16) + e1)) + (e0 / 16 + 16 * (e1 % 16) + e0) := by omega
  rw [e, and_byte _ _ _ (by omega), and_byte _ _ _ (by omega)]
  simp only [show 1085102592571150095 / 256 = 4238682002231055 from rfl, show 1085102592571150095 % 256 = 15 from rfl, show 4238682002231055 / 256 = 16557351571215 from rfl, show 4238682002231055 % 256 = 15 from rfl, d0, d1, d2]
theorem sum3 {p0 p1 p2 x3 x4 x5 : Nat} (q0 : p0 ≤ 8) (q1 : p1 ≤ 8) (q2 : p2 ≤ 8) (e3 : x3 = 256 * (256 * p2 + p1) + p0) (e4 : x4 = x3 + x3 / 256) (e5 : x5 = x4 + x4 / 65536) : x5 % 128 = p0 + (p1 + p2) := by
  have d3 : x3 / 256 = 256 * p2 + p1 := by omega
  have e4' : x4 = 65536 * p2 + 256 * (p1 + p2) + (p0 + p1) := by omega
  have d4 : x4 / 65536 = p2 := by omega
  have e5' : x5 = 128 * (512 * p2 + 2 * (p1 + p2)) + (p0 + p1 + p2) := by omega
  clear e3 e4 e5 d3 e4' d4
  omega
theorem bits_and_u {a b : Nat} (ha : a < 2 ^ 64) (hb : b < 2 ^ 64) : Go.bits .and .u64 (a : Int) (b : Int) = ((a &&& b : Nat) : Int) :=
  (bits_nat .u64 64 (by decide) (fun n h0 h1 => by obtain ⟨m, rfl⟩ := Int.eq_ofNat_of_zero_le h0; exact wrapu_nat (by omega)) a b ha hb).1
theorem and_lit_u {a : Nat} (m : Nat) (ha : a < 2 ^ 64) (hm : m < 2 ^ 64) {z : Int} (hz : z = (m : Int)) : Go.bits .and .u64 (a : Int) z = ((a &&& m : Nat) : Int) := by rw [hz]; exact bits_and_u ha hm
theorem onesCount64 {n : Nat} (hn : n < 16777216) : math_bits_OnesCount64.f (n : Int) = some ((pcn n 24 : Nat) : Int) := by
  obtain ⟨b0, b1, b2, l0, l1, l2, rfl⟩ : ∃ b0 b1 b2, b0 < 256 ∧ b1 < 256 ∧ b2 < 256 ∧ n = 256 * (256 * b2 + b1) + b0 := ⟨n % 256, n / 256 % 256, n / 65536, by omega, by omega, by omega, by omega⟩
  obtain ⟨x, hx⟩ : ∃ x, x = 256 * (256 * b2 + b1) + b0 := ⟨_, rfl⟩
  have s1 := step1 l0 l1 l2
  have c0 := decC ⟨b0, l0⟩
  have c1 := decC ⟨b1, l1⟩
  have c2 := decC ⟨b2, l2⟩
  simp only [] at c0 c1 c2
  rw [← hx] at s1 hn ⊢
  obtain ⟨x1, hx1⟩ : ∃ x1, x1 = 256 * (256 * h1 b2 + h1 b1) + h1 b0 := ⟨_, rfl⟩
  have s2 := step2 (b0 := h1 b0) (b1 := h1 b1) (b2 := h1 b2) (by omega) (by omega) (by omega)
  rw [← hx1] at s1 s2
  obtain ⟨x2, hx2⟩ : ∃ x2, x2 = 256 * (256 * h2 (h1 b2) + h2 (h1 b1)) + h2 (h1 b0) := ⟨_, rfl⟩
  have s3 := step3 l0 l1 l2 hx2
  rw [← hx2] at s2
  obtain ⟨x3, hx3⟩ : ∃ x3, x3 = 256 * (256 * pcn b2 8 + pcn b1 8) + pcn b0 8 := ⟨_, rfl⟩
  rw [← hx3] at s3
  have t1 : IntKind.u64.wrap (Go.bits .and .u64 ((x : Int) / 2) 6148914691236517205 + Go.bits .and .u64 (x : Int) 6148914691236517205) = (x1 : Int) := by
    rw [show (x : Int) / 2 = ((x / 2 : Nat) : Int) by omega, and_lit_u (a := x / 2) (z := 6148914691236517205) 6148914691236517205 (by omega) (by decide) rfl, and_lit_u (a := x) (z := 6148914691236517205) 6148914691236517205 (by omega) (by decide) rfl, ← Int.natCast_add, s1]
    exact wrapu_nat (by omega)
  have t2 : IntKind.u64.wrap (Go.bits .and .u64 ((x1 : Int) / 4) 3689348814741910323 + Go.bits .and .u64 (x1 : Int) 3689348814741910323) = (x2 : Int) := by
    rw [show (x1 : Int) / 4 = ((x1 / 4 : Nat) : Int) by omega, and_lit_u (a := x1 / 4) (z := 3689348814741910323) 3689348814741910323 (by omega) (by decide) rfl, and_lit_u (a := x1) (z := 3689348814741910323) 3689348814741910323 (by omega) (by decide) rfl, ← Int.natCast_add, s2]
    exact wrapu_nat (by omega)
  have t3 : Go.bits .and .u64 (IntKind.u64.wrap ((x2 : Int) / 16 + (x2 : Int))) 1085102592571150095 = (x3 : Int) := by
    rw [show (x2 : Int) / 16 + (x2 : Int) = ((x2 / 16 + x2 : Nat) : Int) by omega, wrapu_nat (by omega), and_lit_u (a := x2 / 16 + x2) (z := 1085102592571150095) 1085102592571150095 (by omega) (by decide) rfl, s3]
  have t4 : IntKind.u64.wrap ((x3 : Int) + (x3 : Int) / 256) = ((x3 + x3 / 256 : Nat) : Int) := by
    rw [show (x3 : Int) + (x3 : Int) / 256 = ((x3 + x3 / 256 : Nat) : Int) by omega]
    exact wrapu_nat (by omega)
  obtain ⟨x4, hx4⟩ : ∃ x4, x4 = x3 + x3 / 256 := ⟨_, rfl⟩
  rw [← hx4] at t4
  have t5 : IntKind.u64.wrap ((x4 : Int) + (x4 : Int) / 65536) = ((x4 + x4 / 65536 : Nat) : Int) := by
    rw [show (x4 : Int) + (x4 : Int) / 65536 = ((x4 + x4 / 65536 : Nat) : Int) by omega]
    exact wrapu_nat (by omega)
  obtain ⟨x5, hx5⟩ : ∃ x5, x5 = x4 + x4 / 65536 := ⟨_, rfl⟩
  rw [← hx5] at t5
  have t6 : IntKind.u64.wrap ((x5 : Int) + (x5 : Int) / 4294967296) = (x5 : Int) := by
    rw [show (x5 : Int) + (x5 : Int) / 4294967296 = (x5 : Int) by omega]
    exact wrapu_nat (by omega)
  unfold math_bits_OnesCount64.f
  rw [t1, t2, t3, t4, t5, t6]
  rw [w64 (by omega) (by omega)]
  congr 1
  have := bits_and_i (a := x5) (b := 127) (by omega) (by decide)
  refine this.trans ?_
  congr 1
  have p : pcn x 24 = pcn b0 8 + (pcn b1 8 + pcn b2 8) := by
    rw [hx, show 24 = 8 + (8 + 8) from rfl, pcn_split _ _ _ l0, pcn_split _ _ _ l1]
  rw [p, show (127 : Nat) = 2 ^ 7 - 1 from rfl, Nat.and_two_pow_sub_one_eq_mod]
  exact sum3 c0.2.2.2 c1.2.2.2 c2.2.2.2 hx3 hx4 hx5
end Go.Proofs.Ytccjanhdnheclaa.F
end

section
namespace Go.Proofs.Ytccjanhdnheclaa.F
open Go.RowKit Go.Proofs.YtccjanhdnheclaaW.PrintWords Go.Proofs.YtccjanhdnheclaaW.PrintLast Go.Proofs.YtccjanhdnheclaaW.PrintMore
set_option linter.unusedVariables false
set_option linter.unusedSimpArgs false
def cp (w h o : Int) : Int := if mok w h o then ((pcn o.toNat 24 : Nat) : Int) else 0
theorem impl_CountPassages_eq (w h o : Int) : impl_CountPassages.f w h o = some (cp w h o) := by
  unfold impl_CountPassages.f cp math_bits_OnesCount.f
  rw [impl_MazeOk_eq, Option.bind_some]
  by_cases M : mok w h o = true
  · rw [if_pos M, if_pos M]
    have s := mok_small M
    obtain ⟨n, rfl⟩ := Int.eq_ofNat_of_zero_le s.1
    rw [wrapu_nat (by omega), onesCount64 (by omega)]
    rfl
  · rw [if_neg M, if_neg M]
end Go.Proofs.Ytccjanhdnheclaa.F
end
