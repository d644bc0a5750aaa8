/- Packed by a program of the session (wip/tools/pack.py): what the claim's theorem reaches, of the texts that wip/ and the kit's printer lay. -/
import Derived.Test.YtimejdhglmajdaaPkFnRebuilding2
section
namespace Go.Proofs.Ytimejdhglmajdaa.F
open Go.RowKit Go.Proofs.YtimejdhglmajdaaW.PrintWords Go.Proofs.YtimejdhglmajdaaW.PrintLast Go.Proofs.YtimejdhglmajdaaW.PrintMore
set_option linter.unusedVariables false
set_option linter.unusedSimpArgs false
attribute [local go_sem] max2_int min2_int max_two min_two
set_option maxHeartbeats 8000000 in
set_option maxRecDepth 100000 in
theorem laws_big.calls (A0 : Option Addr) (c0 : Nat) (l0 : List Int) (r : Bool) (w : World) (hr0 : Kd.C (Kd.int .u8) w A0 l0.length l0) (hc0 : l0.length ≤ c0) (h : laws_big.f l0 = some r) :
  Calls Try.prog 44 #[.slice A0 l0.length c0] w fun e w' => e = .returned (.bool r) ∧ Drawn0 w w' := by
 have HR0 := aK hr0
 have HC0 := aK hc0
 clear hr0 hc0
 have H : (some (decide ((l0.length : Int) > 1048576))) = some r := h
 clear h
 obtain rfl := Option.some.inj H
 go_enter Try.func44, Try.ntmps44
 go_wp2
 go_ret
 exact ⟨by first | rfl | (simp; done) | (simp [*]; done), by repeat (first | exact Drawn0.refl _ | apply Drawn0.step)⟩
def IsS151 (w0 W : World) (g : Nat) (f0 : List Int) (f1 : Int) (f2 : Int) : Prop := ∃ A0 c0, W.heap[g]? = some (.cells #[.slice A0 f0.length c0, .int .i64 f1, .int .i64 f2] 151 (0, 0)) ∧ w0.heap.size ≤ g ∧ Kd.C (Kd.int .u8) w0 A0 f0.length f0
theorem IsS151.grown {w0 W : World} {g : Nat} {f0 : List Int} {f1 : Int} {f2 : Int} {W1 : World} {row : Option Nat} (h : IsS151 w0 W g f0 f1 f2) (hw : W.grownBy W1 row) (hne : some g ≠ row) : IsS151 w0 W1 g f0 f1 f2 := by
  obtain ⟨A0, c0, hb, hg, hr0⟩ := h
  exact ⟨A0, c0, blk_grown hb hw hne, hg, hr0⟩
theorem IsS151.below {w0 W : World} {g : Nat} {f0 : List Int} {f1 : Int} {f2 : Int} {W1 : World} (h : IsS151 w0 W g f0 f1 f2) (hw : Below W.heap.size W W1) : IsS151 w0 W1 g f0 f1 f2 := h.grown (grown_of_below hw none) (by simp)
theorem IsS151.drewN {w0 W : World} {g : Nat} {f0 : List Int} {f1 : Int} {f2 : Int} (h : IsS151 w0 W g f0 f1 f2) (m : Nat) : IsS151 w0 (W.drewN m) g f0 f1 f2 := h
theorem IsS151.drew {w0 W : World} {g : Nat} {f0 : List Int} {f1 : Int} {f2 : Int} (h : IsS151 w0 W g f0 f1 f2) : IsS151 w0 W.drew g f0 f1 f2 := h
theorem IsS151.apart {w0 W : World} {g : Nat} {f0 : List Int} {f1 : Int} {f2 : Int} {α : Type} {d : Kd α} {e : Nat} {base : Nat} {ok : Nat → Prop} {v : Value} {xs : List α} (h : IsS151 w0 W g f0 f1 f2) (ho : d.R e W base ok v xs) (ht : ∀ q, q ∈ e :: d.E → q ≠ 151) : d.R e W base (fun k => ok k ∧ k ≠ g) v xs := by
  obtain ⟨A0, c0, hb, hg, hr0⟩ := h
  exact Kd.R_types ho hb ht
theorem IsS151.own_ne {w0 W : World} {g : Nat} {f0 : List Int} {f1 : Int} {f2 : Int} {α : Type} {d : Kd α} {e : Nat} {base : Nat} {ok : Nat → Prop} {v : Value} {xs : List α} (h : IsS151 w0 W g f0 f1 f2) (ho : d.R e W base ok v xs) (ht : e ≠ 151) : some g ≠ v.ownBlock := by
  obtain ⟨A0, c0, hb, hg, hr0⟩ := h
  exact Kd.R_ne ho hb ht
theorem IsS151.lt {w0 W : World} {g : Nat} {f0 : List Int} {f1 : Int} {f2 : Int} (h : IsS151 w0 W g f0 f1 f2) : g < W.heap.size := by
  obtain ⟨A0, c0, hb, hg, hr0⟩ := h
  exact blk_lt hb
theorem IsS151.ge {w0 W : World} {g : Nat} {f0 : List Int} {f1 : Int} {f2 : Int} (h : IsS151 w0 W g f0 f1 f2) : w0.heap.size ≤ g := by
  obtain ⟨A0, c0, hb, hg, hr0⟩ := h
  exact hg
theorem IsS151.ne_blk {w0 W : World} {g : Nat} {f0 : List Int} {f1 : Int} {f2 : Int} {a : Nat} {cs : Array Value} {t : TypeId} {fr : Nat × Nat} (h : IsS151 w0 W g f0 f1 f2) (hb2 : W.heap[a]? = some (.cells cs t fr)) (ht : t ≠ 151) : g ≠ a := by
  obtain ⟨A0, c0, hb, hg, hr0⟩ := h
  rintro rfl
  rw [hb] at hb2
  injection hb2 with hb2
  injection hb2 with _ ht2
  exact ht ht2.symm
theorem IsS151.far {w0 W : World} {g : Nat} {f0 : List Int} {f1 : Int} {f2 : Int} {p : Addr} (h : IsS151 w0 W g f0 f1 f2) (hne : g ≠ p.block) (u : Value) : IsS151 w0 (W.setCell p u) g f0 f1 f2 := by
  obtain ⟨A0, c0, hb, hg, hr0⟩ := h
  exact ⟨A0, c0, blk_far hb hne u, hg, hr0⟩
theorem cellS151_0 {W : World} {g : Nat} {A0 : Option Addr} {c0 : Nat} {f0 : List Int} {f1 : Int} {f2 : Int} (h : W.heap[g]? = some (.cells #[.slice A0 f0.length c0, .int .i64 f1, .int .i64 f2] 151 (0, 0))) : W.cell? ⟨g, 0, none⟩ = some (.slice A0 f0.length c0) := (kC h 0).trans rfl
theorem cellS151_1 {W : World} {g : Nat} {A0 : Option Addr} {c0 : Nat} {f0 : List Int} {f1 : Int} {f2 : Int} (h : W.heap[g]? = some (.cells #[.slice A0 f0.length c0, .int .i64 f1, .int .i64 f2] 151 (0, 0))) : W.cell? ⟨g, 1, none⟩ = some (.int .i64 f1) := (kC h 1).trans rfl
theorem IsS151.set_1 {w0 W : World} {g : Nat} {f0 : List Int} {f1 : Int} {f2 : Int} (h : IsS151 w0 W g f0 f1 f2) (x : Int) : IsS151 w0 (W.setCell ⟨g, 1, none⟩ (.int .i64 x)) g f0 x f2 := by
  obtain ⟨A0, c0, hb, hg, hr0⟩ := h
  exact ⟨A0, c0, by simpa using blk_set hb 1 (.int .i64 x), hg, hr0⟩
theorem cellS151_2 {W : World} {g : Nat} {A0 : Option Addr} {c0 : Nat} {f0 : List Int} {f1 : Int} {f2 : Int} (h : W.heap[g]? = some (.cells #[.slice A0 f0.length c0, .int .i64 f1, .int .i64 f2] 151 (0, 0))) : W.cell? ⟨g, 2, none⟩ = some (.int .i64 f2) := (kC h 2).trans rfl
theorem IsS151.set_2 {w0 W : World} {g : Nat} {f0 : List Int} {f1 : Int} {f2 : Int} (h : IsS151 w0 W g f0 f1 f2) (x : Int) : IsS151 w0 (W.setCell ⟨g, 2, none⟩ (.int .i64 x)) g f0 f1 x := by
  obtain ⟨A0, c0, hb, hg, hr0⟩ := h
  exact ⟨A0, c0, by simpa using blk_set hb 2 (.int .i64 x), hg, hr0⟩
set_option maxHeartbeats 8000000 in
set_option maxRecDepth 100000 in
theorem spec_l01Byte.calls (g : Nat) (s0_0 : List Int) (s0_1 : Int) (s0_2 : Int) (r1 : Int) (r2 : Int) (r3 : Int) (w0 w : World) (hI : IsS151 w0 w g s0_0 s0_1 s0_2) (hB : Below w0.heap.size w0 w) (h : spec_l01Byte.f s0_0 s0_1 s0_2 = some (r1, r2, r3)) :
  Calls Try.prog 163 #[.pointer (some ⟨g, 0, none⟩)] w fun e w' => e = .returned (.int .i64 r1) ∧ IsS151 w0 w' g s0_0 r2 r3 ∧ Below w0.heap.size w0 w' ∧ KeepBut w w' g none := by
 have HI0 := aK hI
 have HK := aK (KeepBut.refl w g none)
 have HL := aK hB.size
 clear hI
 have HW0 := aK hB.size
 have HB := aK hB
 clear hB
 have H : (if s0_1 < (s0_0.length : Int) then (if 0 ≤ s0_1 then (some (Go.bits .and .i64 (wrap64 ((Go.bits .and .i64 (Go.bits .xor .i64 ((wrap64 ((wrap64 (s0_2 * 6364136223846793005)) + 1442695040888963407)) / 8589934592) ((wrap64 ((wrap64 (s0_2 * 6364136223846793005)) + 1442695040888963407)) / 35184372088832)) 255) + (wrap64 (rd s0_0 s0_1)))) 255, wrap64 (s0_1 + 1), wrap64 ((wrap64 (s0_2 * 6364136223846793005)) + 1442695040888963407))) else (none)) else (some (Go.bits .and .i64 (Go.bits .xor .i64 ((wrap64 ((wrap64 (s0_2 * 6364136223846793005)) + 1442695040888963407)) / 8589934592) ((wrap64 ((wrap64 (s0_2 * 6364136223846793005)) + 1442695040888963407)) / 35184372088832)) 255, s0_1, wrap64 ((wrap64 (s0_2 * 6364136223846793005)) + 1442695040888963407)))) = some (r1, r2, r3) := h
 clear h
 by_cases c2 : s0_1 < (s0_0.length : Int)
 ·rw [if_pos c2] at H
  have c2b0 : decide (s0_1 < (s0_0.length : Int)) = true := decide_eq_true c2
  clear c2
  by_cases c3 : 0 ≤ s0_1
  ·rw [if_pos c3] at H
   have c3b0 : decide (0 ≤ s0_1) = true := decide_eq_true c3
   clear c3
   simp only [Option.some.injEq, Prod.mk.injEq] at H
   obtain ⟨rfl, rfl, rfl⟩ := H
   obtain ⟨ASz4_0, cSz4_0, HGz4, hgz4, HSz4_0⟩ := HI0.out
   have hcz4_0 := cellS151_0 HGz4
   have hcz4_1 := cellS151_1 HGz4
   have hcz4_2 := cellS151_2 HGz4
   have hfz4_1 := kF HGz4 1
   have hfz4_2 := kF HGz4 2
   clear HGz4 hgz4
   have p879 : 0 ≤ (s0_1 : Int) := of_decide_eq_true (by first | (with_reducible assumption) | assumption)
   have q879 : s0_1 < (s0_0.length : Int) := of_decide_eq_true (by first | (with_reducible assumption) | assumption)
   obtain ⟨ad879, e879, hx879_0⟩ := Kd.at_int HSz4_0 s0_1 p879 q879
   cases e879
   have hn879_0 : ad879.block ≠ g := Nat.ne_of_lt (Nat.lt_of_lt_of_le (by have := World.block_lt_of_cell? _ _ hx879_0; first | rwa [add_block] at this | exact this) (IsS151.ge HI0.out))
   replace hx879_0 := pw_cell_below HB.out hx879_0
   replace hx879_0 := (cell_far (p := ⟨g, 2, none⟩) (by first | (rw [add_block]; exact hn879_0) | (show (Addr.add _ _).block ≠ _; rw [add_block]; exact hn879_0) | exact hn879_0) (.int .i64 (wrap64 ((wrap64 (s0_2 * 6364136223846793005)) + 1442695040888963407)))).trans hx879_0
   (try have hy879_0 := fun (n_ : Nat) => (show (((w.drewN n_).setCell ⟨g, 2, none⟩ (.int .i64 (wrap64 ((wrap64 (s0_2 * 6364136223846793005)) + 1442695040888963407))))).cell? _ = some _ from hx879_0))
   clear hn879_0
   replace p879 := eq_true p879
   replace q879 := eq_true q879
   go_enter Try.func163, Try.ntmps163
   go_wp2
   repeat (go_quiet (fail); try go_wp2)
   go_ret
   exact ⟨by first | rfl | (simp [errW_none, errW_some] <;> rfl) | (simp [*, errW_none, errW_some] <;> rfl), by repeat (first | (with_reducible first | exact HI0.out | apply IsS151.alloc | apply IsS151.drewN | apply IsS151.drew | apply IsS151.set_1 | apply IsS151.set_2) | exact HI0.out), by repeat (first | (with_reducible first | exact HB.out | apply bAl | apply bDN | apply bD1 | refine bSt ?_ (IsS151.ge HI0.out)) | exact HB.out), by repeat (first | (with_reducible first | exact HK.out | apply KeepBut.set_ | apply keep_drewN | apply keep_drew | apply keep_alloc) | exact HK.out)⟩
  ·rw [if_neg c3] at H
   exact absurd H (by simp)
 ·rw [if_neg c2] at H
  have c2b0 : decide (s0_1 < (s0_0.length : Int)) = false := decide_eq_false c2
  clear c2
  simp only [Option.some.injEq, Prod.mk.injEq] at H
  obtain ⟨rfl, rfl, rfl⟩ := H
  obtain ⟨ASz5_0, cSz5_0, HGz5, hgz5, HSz5_0⟩ := HI0.out
  have hcz5_0 := cellS151_0 HGz5
  have hcz5_1 := cellS151_1 HGz5
  have hcz5_2 := cellS151_2 HGz5
  have hfz5_1 := kF HGz5 1
  have hfz5_2 := kF HGz5 2
  clear HGz5 hgz5
  go_enter Try.func163, Try.ntmps163
  go_wp2
  repeat (go_quiet (fail); try go_wp2)
  go_ret
  exact ⟨by first | rfl | (simp [errW_none, errW_some] <;> rfl) | (simp [*, errW_none, errW_some] <;> rfl), by repeat (first | (with_reducible first | exact HI0.out | apply IsS151.alloc | apply IsS151.drewN | apply IsS151.drew | apply IsS151.set_1 | apply IsS151.set_2) | exact HI0.out), by repeat (first | (with_reducible first | exact HB.out | apply bAl | apply bDN | apply bD1 | refine bSt ?_ (IsS151.ge HI0.out)) | exact HB.out), by repeat (first | (with_reducible first | exact HK.out | apply KeepBut.set_ | apply keep_drewN | apply keep_drew | apply keep_alloc) | exact HK.out)⟩
set_option maxHeartbeats 8000000 in
set_option maxRecDepth 100000 in
theorem spec_l01Below.calls (g : Nat) (s0_0 : List Int) (s0_1 : Int) (s0_2 : Int) (a1 : Int) (r1 : Int) (r2 : Int) (r3 : Int) (w0 w : World) (hI : IsS151 w0 w g s0_0 s0_1 s0_2) (hB : Below w0.heap.size w0 w) (h : spec_l01Below.f s0_0 s0_1 s0_2 a1 = some (r1, r2, r3)) :
  Calls Try.prog 151 #[.pointer (some ⟨g, 0, none⟩), .int .i64 a1] w fun e w' => e = .returned (.int .i64 r1) ∧ IsS151 w0 w' g s0_0 r2 r3 ∧ Below w0.heap.size w0 w' ∧ KeepBut w w' g none := by
 have HI0 := aK hI
 have HK := aK (KeepBut.refl w g none)
 have HL := aK hB.size
 clear hI
 have HW0 := aK hB.size
 have HB := aK hB
 clear hB
 have H : (if a1 ≤ 0 then (some (0, s0_1, s0_2)) else (if a1 ≤ 256 then ((spec_l01Byte.f s0_0 s0_1 s0_2).bind fun bt880 => (if a1 = 0 then (none) else (some (Int.tmod bt880.1 a1, bt880.2.1, bt880.2.2)))) else ((spec_l01Byte.f s0_0 s0_1 s0_2).bind fun bt883 => ((spec_l01Byte.f s0_0 bt883.2.1 bt883.2.2).bind fun bt886 => ((spec_l01Byte.f s0_0 bt886.2.1 bt886.2.2).bind fun bt889 => ((spec_l01Byte.f s0_0 bt889.2.1 bt889.2.2).bind fun bt892 => (if a1 = 0 then (none) else (some (Int.tmod (wrap64 ((wrap64 ((wrap64 ((wrap64 (bt883.1 * 16777216)) + (wrap64 (bt886.1 * 65536)))) + (wrap64 (bt889.1 * 256)))) + bt892.1)) a1, bt892.2.1, bt892.2.2))))))))) = some (r1, r2, r3) := h
 clear h
 by_cases c3 : a1 ≤ 0
 ·rw [if_pos c3] at H
  have c3b0 : decide (a1 ≤ 0) = true := decide_eq_true c3
  clear c3
  simp only [Option.some.injEq, Prod.mk.injEq] at H
  obtain ⟨rfl, rfl, rfl⟩ := H
  go_enter Try.func151, Try.ntmps151
  go_wp2
  go_ret
  exact ⟨by first | rfl | (simp [errW_none, errW_some] <;> rfl) | (simp [*, errW_none, errW_some] <;> rfl), by repeat (first | (with_reducible first | exact HI0.out | apply IsS151.alloc | apply IsS151.drewN | apply IsS151.drew | apply IsS151.set_1 | apply IsS151.set_2) | exact HI0.out), by repeat (first | (with_reducible first | exact HB.out | apply bAl | apply bDN | apply bD1 | refine bSt ?_ (IsS151.ge HI0.out)) | exact HB.out), by repeat (first | (with_reducible first | exact HK.out | apply KeepBut.set_ | apply keep_drewN | apply keep_drew | apply keep_alloc) | exact HK.out)⟩
 ·rw [if_neg c3] at H
  have c3b0 : decide (a1 ≤ 0) = false := decide_eq_false c3
  clear c3
  by_cases c4 : a1 ≤ 256
  ·rw [if_pos c4] at H
   have c4b0 : decide (a1 ≤ 256) = true := decide_eq_true c4
   clear c4
   replace H := Option.bind_eq_some_iff.mp H
   obtain ⟨⟨t880, t881, t882⟩, A50, H⟩ := H
   replace H : (if a1 = 0 then (none) else (some (Int.tmod t880 a1, t881, t882))) = some (r1, r2, r3) := H
   have A5 := aK A50
   clear A50
   by_cases c6 : a1 = 0
   ·rw [if_pos c6] at H
    exact absurd H (by simp)
   ·rw [if_neg c6] at H
    have c6b0 : (a1 == 0) = false := beq_eq_false_iff_ne.mpr c6
    have c6b1 : (a1 != 0) = true := bne_iff_ne.mpr c6
    simp only [Option.some.injEq, Prod.mk.injEq] at H
    obtain ⟨rfl, rfl, rfl⟩ := H
    go_enter Try.func151, Try.ntmps151
    go_wp2_with (first | ((with_reducible refine gate_callee (f := 163) rfl ?_); refine goesL_ (some 14) rfl rfl Try.func163 (by kernel_rfl) rfl #[.pointer (some ⟨g, 0, none⟩)] rfl (by (try simp only [List.map_toArray, List.map_cons, List.map_nil]); first | done | rfl | (simp only [List.length_drop, List.length_take]; rfl)) ?_; (with_reducible refine (spec_l01Byte.calls g s0_0 s0_1 s0_2 t880 t881 t882 w0 _ ?side1 ?side2 A5.out).mono ?_); (case side1 => repeat (first | (with_reducible first | exact HI0.out | apply IsS151.alloc | apply IsS151.drewN | apply IsS151.drew | apply IsS151.set_1 | apply IsS151.set_2) | exact HI0.out)); (case side2 => repeat (first | (with_reducible first | exact HB.out | apply bAl | apply bDN | apply bD1 | refine bSt ?_ (IsS151.ge HI0.out)) | exact HB.out)); rintro e w7 ⟨rfl, hi, hb, hk⟩; refine ⟨_, rfl, ?_⟩; have n0_ := aK (KeepBut.trans (by repeat (first | (with_reducible first | exact HK.out | apply KeepBut.set_ | apply keep_drewN | apply keep_drew | apply keep_alloc) | exact HK.out)) hk (.inl rfl)); have n1_ := aK (hb); have n2_ := aK (hi); clear HK; clear HB; clear HI0; have HK := n0_; have HB := n1_; have HI0 := n2_; clear n0_ n1_ n2_; (try clear hb); (try clear hb2); (try clear hk); (try clear hi)))
    go_ret
    exact ⟨by first | rfl | (simp [errW_none, errW_some] <;> rfl) | (simp [*, errW_none, errW_some] <;> rfl), by repeat (first | (with_reducible first | exact HI0.out | apply IsS151.alloc | apply IsS151.drewN | apply IsS151.drew | apply IsS151.set_1 | apply IsS151.set_2) | exact HI0.out), by repeat (first | (with_reducible first | exact HB.out | apply bAl | apply bDN | apply bD1 | refine bSt ?_ (IsS151.ge HI0.out)) | exact HB.out), by repeat (first | (with_reducible first | exact HK.out | apply KeepBut.set_ | apply keep_drewN | apply keep_drew | apply keep_alloc) | exact HK.out)⟩
  ·rw [if_neg c4] at H
   have c4b0 : decide (a1 ≤ 256) = false := decide_eq_false c4
   clear c4
   replace H := Option.bind_eq_some_iff.mp H
   obtain ⟨⟨t883, t884, t885⟩, A80, H⟩ := H
   replace H : ((spec_l01Byte.f s0_0 t884 t885).bind fun bt886 => ((spec_l01Byte.f s0_0 bt886.2.1 bt886.2.2).bind fun bt889 => ((spec_l01Byte.f s0_0 bt889.2.1 bt889.2.2).bind fun bt892 => (if a1 = 0 then (none) else (some (Int.tmod (wrap64 ((wrap64 ((wrap64 ((wrap64 (t883 * 16777216)) + (wrap64 (bt886.1 * 65536)))) + (wrap64 (bt889.1 * 256)))) + bt892.1)) a1, bt892.2.1, bt892.2.2)))))) = some (r1, r2, r3) := H
   have A8 := aK A80
   clear A80
   replace H := Option.bind_eq_some_iff.mp H
   obtain ⟨⟨t886, t887, t888⟩, A90, H⟩ := H
   replace H : ((spec_l01Byte.f s0_0 t887 t888).bind fun bt889 => ((spec_l01Byte.f s0_0 bt889.2.1 bt889.2.2).bind fun bt892 => (if a1 = 0 then (none) else (some (Int.tmod (wrap64 ((wrap64 ((wrap64 ((wrap64 (t883 * 16777216)) + (wrap64 (t886 * 65536)))) + (wrap64 (bt889.1 * 256)))) + bt892.1)) a1, bt892.2.1, bt892.2.2))))) = some (r1, r2, r3) := H
   have A9 := aK A90
   clear A90
   replace H := Option.bind_eq_some_iff.mp H
   obtain ⟨⟨t889, t890, t891⟩, A100, H⟩ := H
   replace H : ((spec_l01Byte.f s0_0 t890 t891).bind fun bt892 => (if a1 = 0 then (none) else (some (Int.tmod (wrap64 ((wrap64 ((wrap64 ((wrap64 (t883 * 16777216)) + (wrap64 (t886 * 65536)))) + (wrap64 (t889 * 256)))) + bt892.1)) a1, bt892.2.1, bt892.2.2)))) = some (r1, r2, r3) := H
   have A10 := aK A100
   clear A100
   replace H := Option.bind_eq_some_iff.mp H
   obtain ⟨⟨t892, t893, t894⟩, A110, H⟩ := H
   replace H : (if a1 = 0 then (none) else (some (Int.tmod (wrap64 ((wrap64 ((wrap64 ((wrap64 (t883 * 16777216)) + (wrap64 (t886 * 65536)))) + (wrap64 (t889 * 256)))) + t892)) a1, t893, t894))) = some (r1, r2, r3) := H
   have A11 := aK A110
   clear A110
   by_cases c12 : a1 = 0
   ·rw [if_pos c12] at H
    exact absurd H (by simp)
   ·rw [if_neg c12] at H
    have c12b0 : (a1 == 0) = false := beq_eq_false_iff_ne.mpr c12
    have c12b1 : (a1 != 0) = true := bne_iff_ne.mpr c12
    simp only [Option.some.injEq, Prod.mk.injEq] at H
    obtain ⟨rfl, rfl, rfl⟩ := H
    go_enter Try.func151, Try.ntmps151
    go_wp2_with (first | ((with_reducible refine gate_callee (f := 163) rfl ?_); refine goesL_ (some 18) rfl rfl Try.func163 (by kernel_rfl) rfl #[.pointer (some ⟨g, 0, none⟩)] rfl (by (try simp only [List.map_toArray, List.map_cons, List.map_nil]); first | done | rfl | (simp only [List.length_drop, List.length_take]; rfl)) ?_; (with_reducible refine (spec_l01Byte.calls g s0_0 s0_1 s0_2 t883 t884 t885 w0 _ ?side1 ?side2 A8.out).mono ?_); (case side1 => repeat (first | (with_reducible first | exact HI0.out | apply IsS151.alloc | apply IsS151.drewN | apply IsS151.drew | apply IsS151.set_1 | apply IsS151.set_2) | exact HI0.out)); (case side2 => repeat (first | (with_reducible first | exact HB.out | apply bAl | apply bDN | apply bD1 | refine bSt ?_ (IsS151.ge HI0.out)) | exact HB.out)); rintro e w13 ⟨rfl, hi, hb, hk⟩; refine ⟨_, rfl, ?_⟩; have n0_ := aK (KeepBut.trans (by repeat (first | (with_reducible first | exact HK.out | apply KeepBut.set_ | apply keep_drewN | apply keep_drew | apply keep_alloc) | exact HK.out)) hk (.inl rfl)); have n1_ := aK (hb); have n2_ := aK (hi); clear HK; clear HB; clear HI0; have HK := n0_; have HB := n1_; have HI0 := n2_; clear n0_ n1_ n2_; (try clear hb); (try clear hb2); (try clear hk); (try clear hi)) | ((with_reducible refine gate_callee (f := 163) rfl ?_); refine goesL_ (some 20) rfl rfl Try.func163 (by kernel_rfl) rfl #[.pointer (some ⟨g, 0, none⟩)] rfl (by (try simp only [List.map_toArray, List.map_cons, List.map_nil]); first | done | rfl | (simp only [List.length_drop, List.length_take]; rfl)) ?_; (with_reducible refine (spec_l01Byte.calls g s0_0 t884 t885 t886 t887 t888 w0 _ ?side1 ?side2 A9.out).mono ?_); (case side1 => repeat (first | (with_reducible first | exact HI0.out | apply IsS151.alloc | apply IsS151.drewN | apply IsS151.drew | apply IsS151.set_1 | apply IsS151.set_2) | exact HI0.out)); (case side2 => repeat (first | (with_reducible first | exact HB.out | apply bAl | apply bDN | apply bD1 | refine bSt ?_ (IsS151.ge HI0.out)) | exact HB.out)); rintro e w14 ⟨rfl, hi, hb, hk⟩; refine ⟨_, rfl, ?_⟩; have n0_ := aK (KeepBut.trans (by repeat (first | (with_reducible first | exact HK.out | apply KeepBut.set_ | apply keep_drewN | apply keep_drew | apply keep_alloc) | exact HK.out)) hk (.inl rfl)); have n1_ := aK (hb); have n2_ := aK (hi); clear HK; clear HB; clear HI0; have HK := n0_; have HB := n1_; have HI0 := n2_; clear n0_ n1_ n2_; (try clear hb); (try clear hb2); (try clear hk); (try clear hi)) | ((with_reducible refine gate_callee (f := 163) rfl ?_); refine goesL_ (some 22) rfl rfl Try.func163 (by kernel_rfl) rfl #[.pointer (some ⟨g, 0, none⟩)] rfl (by (try simp only [List.map_toArray, List.map_cons, List.map_nil]); first | done | rfl | (simp only [List.length_drop, List.length_take]; rfl)) ?_; (with_reducible refine (spec_l01Byte.calls g s0_0 t887 t888 t889 t890 t891 w0 _ ?side1 ?side2 A10.out).mono ?_); (case side1 => repeat (first | (with_reducible first | exact HI0.out | apply IsS151.alloc | apply IsS151.drewN | apply IsS151.drew | apply IsS151.set_1 | apply IsS151.set_2) | exact HI0.out)); (case side2 => repeat (first | (with_reducible first | exact HB.out | apply bAl | apply bDN | apply bD1 | refine bSt ?_ (IsS151.ge HI0.out)) | exact HB.out)); rintro e w15 ⟨rfl, hi, hb, hk⟩; refine ⟨_, rfl, ?_⟩; have n0_ := aK (KeepBut.trans (by repeat (first | (with_reducible first | exact HK.out | apply KeepBut.set_ | apply keep_drewN | apply keep_drew | apply keep_alloc) | exact HK.out)) hk (.inl rfl)); have n1_ := aK (hb); have n2_ := aK (hi); clear HK; clear HB; clear HI0; have HK := n0_; have HB := n1_; have HI0 := n2_; clear n0_ n1_ n2_; (try clear hb); (try clear hb2); (try clear hk); (try clear hi)) | ((with_reducible refine gate_callee (f := 163) rfl ?_); refine goesL_ (some 24) rfl rfl Try.func163 (by kernel_rfl) rfl #[.pointer (some ⟨g, 0, none⟩)] rfl (by (try simp only [List.map_toArray, List.map_cons, List.map_nil]); first | done | rfl | (simp only [List.length_drop, List.length_take]; rfl)) ?_; (with_reducible refine (spec_l01Byte.calls g s0_0 t890 t891 t892 t893 t894 w0 _ ?side1 ?side2 A11.out).mono ?_); (case side1 => repeat (first | (with_reducible first | exact HI0.out | apply IsS151.alloc | apply IsS151.drewN | apply IsS151.drew | apply IsS151.set_1 | apply IsS151.set_2) | exact HI0.out)); (case side2 => repeat (first | (with_reducible first | exact HB.out | apply bAl | apply bDN | apply bD1 | refine bSt ?_ (IsS151.ge HI0.out)) | exact HB.out)); rintro e w16 ⟨rfl, hi, hb, hk⟩; refine ⟨_, rfl, ?_⟩; have n0_ := aK (KeepBut.trans (by repeat (first | (with_reducible first | exact HK.out | apply KeepBut.set_ | apply keep_drewN | apply keep_drew | apply keep_alloc) | exact HK.out)) hk (.inl rfl)); have n1_ := aK (hb); have n2_ := aK (hi); clear HK; clear HB; clear HI0; have HK := n0_; have HB := n1_; have HI0 := n2_; clear n0_ n1_ n2_; (try clear hb); (try clear hb2); (try clear hk); (try clear hi)))
    go_ret
    exact ⟨by first | rfl | (simp [errW_none, errW_some] <;> rfl) | (simp [*, errW_none, errW_some] <;> rfl), by repeat (first | (with_reducible first | exact HI0.out | apply IsS151.alloc | apply IsS151.drewN | apply IsS151.drew | apply IsS151.set_1 | apply IsS151.set_2) | exact HI0.out), by repeat (first | (with_reducible first | exact HB.out | apply bAl | apply bDN | apply bD1 | refine bSt ?_ (IsS151.ge HI0.out)) | exact HB.out), by repeat (first | (with_reducible first | exact HK.out | apply KeepBut.set_ | apply keep_drewN | apply keep_drew | apply keep_alloc) | exact HK.out)⟩
set_option maxHeartbeats 8000000 in
set_option maxRecDepth 100000 in
theorem spec_l01PickInt.calls (g : Nat) (s0_0 : List Int) (s0_1 : Int) (s0_2 : Int) (A1 : Option Addr) (c1 : Nat) (l1 : List Int) (r1 : Int) (r2 : Int) (r3 : Int) (w0 w : World) (hI : IsS151 w0 w g s0_0 s0_1 s0_2) (hB : Below w0.heap.size w0 w) (hr1 : Kd.C (Kd.int .i64) w A1 l1.length l1) (hc1 : l1.length ≤ c1) (hf1 : ∀ ad, A1 = some ad → 0 < l1.length → ad.block ≠ g) (h : spec_l01PickInt.f s0_0 s0_1 s0_2 l1 = some (r1, r2, r3)) :
  Calls Try.prog 160 #[.pointer (some ⟨g, 0, none⟩), .slice A1 l1.length c1] w fun e w' => e = .returned (.int .i64 r1) ∧ IsS151 w0 w' g s0_0 r2 r3 ∧ Below w0.heap.size w0 w' ∧ KeepBut w w' g none := by
 have HR1 := aK hr1
 have HC1 := aK hc1
 clear hr1 hc1
 have HI0 := aK hI
 have HK := aK (KeepBut.refl w g none)
 have HL := aK hB.size
 clear hI
 have HW0 := aK hB.size
 have HB := aK hB
 clear hB
 have H : ((spec_l01Below.f s0_0 s0_1 s0_2 (l1.length : Int)).bind fun bt895 => (if 0 ≤ bt895.1 then (if bt895.1 < (l1.length : Int) then (some (rd l1 bt895.1, bt895.2.1, bt895.2.2)) else (none)) else (none))) = some (r1, r2, r3) := h
 clear h
 replace H := Option.bind_eq_some_iff.mp H
 obtain ⟨⟨t895, t896, t897⟩, A30, H⟩ := H
 replace H : (if 0 ≤ t895 then (if t895 < (l1.length : Int) then (some (rd l1 t895, t896, t897)) else (none)) else (none)) = some (r1, r2, r3) := H
 have A3 := aK A30
 clear A30
 by_cases c4 : 0 ≤ t895
 ·rw [if_pos c4] at H
  have c4b0 : decide (0 ≤ t895) = true := decide_eq_true c4
  clear c4
  by_cases c5 : t895 < (l1.length : Int)
  ·rw [if_pos c5] at H
   have c5b0 : decide (t895 < (l1.length : Int)) = true := decide_eq_true c5
   clear c5
   simp only [Option.some.injEq, Prod.mk.injEq] at H
   obtain ⟨rfl, rfl, rfl⟩ := H
   go_enter Try.func160, Try.ntmps160
   go_wp2_with (first | ((with_reducible refine gate_callee (f := 151) rfl ?_); refine goesL_ (some 9) rfl rfl Try.func151 (by kernel_rfl) rfl #[.pointer (some ⟨g, 0, none⟩), .int .i64 (l1.length : Int)] rfl (by (try simp only [List.map_toArray, List.map_cons, List.map_nil]); first | done | rfl | (simp only [List.length_drop, List.length_take]; rfl)) ?_; (with_reducible refine (spec_l01Below.calls g s0_0 s0_1 s0_2 (l1.length : Int) t895 t896 t897 w0 _ ?side1 ?side2 A3.out).mono ?_); (case side1 => repeat (first | (with_reducible first | exact HI0.out | apply IsS151.alloc | apply IsS151.drewN | apply IsS151.drew | apply IsS151.set_1 | apply IsS151.set_2) | exact HI0.out)); (case side2 => repeat (first | (with_reducible first | exact HB.out | apply bAl | apply bDN | apply bD1 | refine bSt ?_ (IsS151.ge HI0.out)) | exact HB.out)); rintro e w6 ⟨rfl, hi, hb, hk⟩; refine ⟨_, rfl, ?_⟩; have n0_ := aK (KeepBut.trans (by repeat (first | (with_reducible first | exact HK.out | apply KeepBut.set_ | apply keep_drewN | apply keep_drew | apply keep_alloc) | exact HK.out)) hk (.inl rfl)); have n1_ := aK (hb); have n2_ := aK (hi); clear HK; clear HB; clear HI0; have HK := n0_; have HB := n1_; have HI0 := n2_; clear n0_ n1_ n2_; (try clear hb); (try clear hb2); (try clear hk); (try clear hi); have p898 : 0 ≤ (t895 : Int) := of_decide_eq_true (by first | (with_reducible assumption) | assumption); have q898 : t895 < (l1.length : Int) := of_decide_eq_true (by first | (with_reducible assumption) | assumption); obtain ⟨ad898, e898, hx898_0⟩ := Kd.at_int HR1.out t895 p898 q898; cases e898; replace hx898_0 := keep_cell HK.out hx898_0 (by first | (rw [add_block]; exact hf1 _ rfl (by omega)) | exact hf1 _ rfl (by omega) | exact hf1 ad898 rfl (by omega)); replace p898 := eq_true p898; replace q898 := eq_true q898))
   go_ret
   exact ⟨by first | rfl | (simp [errW_none, errW_some] <;> rfl) | (simp [*, errW_none, errW_some] <;> rfl), by repeat (first | (with_reducible first | exact HI0.out | apply IsS151.alloc | apply IsS151.drewN | apply IsS151.drew | apply IsS151.set_1 | apply IsS151.set_2) | exact HI0.out), by repeat (first | (with_reducible first | exact HB.out | apply bAl | apply bDN | apply bD1 | refine bSt ?_ (IsS151.ge HI0.out)) | exact HB.out), by repeat (first | (with_reducible first | exact HK.out | apply KeepBut.set_ | apply keep_drewN | apply keep_drew | apply keep_alloc) | exact HK.out)⟩
  ·rw [if_neg c5] at H
   exact absurd H (by simp)
 ·rw [if_neg c4] at H
  exact absurd H (by simp)
set_option maxHeartbeats 8000000 in
set_option maxRecDepth 100000 in
theorem spec_l02Grid.calls (g : Nat) (s0_0 : List Int) (s0_1 : Int) (s0_2 : Int) (r1 : Int) (r2 : Int) (r3 : Int) (r4 : Int) (w0 w : World) (hI : IsS151 w0 w g s0_0 s0_1 s0_2) (hB : Below w0.heap.size w0 w) (h : spec_l02Grid.f s0_0 s0_1 s0_2 = some (r1, r2, r3, r4)) :
  Calls Try.prog 149 #[.pointer (some ⟨g, 0, none⟩)] w fun e w' => e = .returned (.agg #[.int .i64 r1, .int .i64 r2]) ∧ IsS151 w0 w' g s0_0 r3 r4 ∧ Below w0.heap.size w0 w' ∧ KeepBut w w' g none := by
 have hu30 := Try.underlying30
 have HI0 := aK hI
 have HK := aK (KeepBut.refl w g none)
 have HL := aK hB.size
 clear hI
 have HW0 := aK hB.size
 have HB := aK hB
 clear hB
 have H : ((spec_l01PickInt.f s0_0 s0_1 s0_2 (([1, 2, 3, 3, 4] : List Int))).bind fun bt903 => ((spec_l01PickInt.f s0_0 bt903.2.1 bt903.2.2 (([1, 2, 3, 3, 4] : List Int))).bind fun bt909 => (some (bt903.1, bt909.1, bt909.2.1, bt909.2.2)))) = some (r1, r2, r3, r4) := h
 clear h
 obtain ⟨y900, hy900⟩ : ∃ y_ : List Int, y_ = (([1, 2, 3, 3, 4] : List Int)) := ⟨_, rfl⟩
 replace H : ((spec_l01PickInt.f s0_0 s0_1 s0_2 y900).bind fun bt903 => ((spec_l01PickInt.f s0_0 bt903.2.1 bt903.2.2 (([1, 2, 3, 3, 4] : List Int))).bind fun bt909 => (some (bt903.1, bt909.1, bt909.2.1, bt909.2.2)))) = some (r1, r2, r3, r4) := by first | (rw [hy900]; with_reducible exact H) | (have H2_ := (Option.bind_some _ _).symm.trans H; rw [hy900]; with_reducible exact H2_) | (have H2_ := (Option.bind_some _ _).symm.trans H; with_reducible exact H2_) | with_reducible exact H | (rw [hy900]; exact H) | exact H
 have Ny900 := aK hy900
 clear hy900
 replace H := Option.bind_eq_some_iff.mp H
 obtain ⟨⟨t903, t904, t905⟩, A20, H⟩ := H
 replace H : ((spec_l01PickInt.f s0_0 t904 t905 (([1, 2, 3, 3, 4] : List Int))).bind fun bt909 => (some (t903, bt909.1, bt909.2.1, bt909.2.2))) = some (r1, r2, r3, r4) := H
 have A2 := aK A20
 clear A20
 obtain ⟨y906, hy906⟩ : ∃ y_ : List Int, y_ = (([1, 2, 3, 3, 4] : List Int)) := ⟨_, rfl⟩
 replace H : ((spec_l01PickInt.f s0_0 t904 t905 y906).bind fun bt909 => (some (t903, bt909.1, bt909.2.1, bt909.2.2))) = some (r1, r2, r3, r4) := by first | (rw [hy906]; with_reducible exact H) | (have H2_ := (Option.bind_some _ _).symm.trans H; rw [hy906]; with_reducible exact H2_) | (have H2_ := (Option.bind_some _ _).symm.trans H; with_reducible exact H2_) | with_reducible exact H | (rw [hy906]; exact H) | exact H
 have Ny906 := aK hy906
 clear hy906
 replace H := Option.bind_eq_some_iff.mp H
 obtain ⟨⟨t909, t910, t911⟩, A30, H⟩ := H
 replace H : (some (t903, t909, t910, t911)) = some (r1, r2, r3, r4) := H
 have A3 := aK A30
 clear A30
 simp only [Option.some.injEq, Prod.mk.injEq] at H
 obtain ⟨rfl, rfl, rfl, rfl⟩ := H
 go_enter Try.func149, Try.ntmps149
 go_wp2_with (first | ((with_reducible refine gate_dst (N := 2) rfl ?_); refine box_event ?hg (N := 2) ?hd (cs := #[.int .i64 0, .int .i64 0]) (t := 30) ?hr ?_; (case hd => rfl); (case hg => rfl); (case hr => first | (go_simp; done) | (go_simp; rfl)); intro gb899 hg w4 hbox hb; have n0_ := aK (IsS151.below (by repeat (first | (with_reducible first | exact HI0.out | apply IsS151.alloc | apply IsS151.drewN | apply IsS151.drew | apply IsS151.set_1 | apply IsS151.set_2) | exact HI0.out)) hb); have n1_ := aK (KeepBut.trans (by repeat (first | (with_reducible first | exact HK.out | apply KeepBut.set_ | apply keep_drewN | apply keep_drew | apply keep_alloc) | exact HK.out)) (KeepBut.of_below hb g none) (.inl rfl)); have n2_ := aK (bSp (by repeat (first | (with_reducible first | exact HB.out | apply bAl | apply bDN | apply bD1 | refine bSt ?_ (IsS151.ge HI0.out)) | exact HB.out)) hb); have n3_ := aK (hbox); have n4_ := aK ((by rw [hg]; exact (keep_size (w := w) (g := g) (row := none) (by repeat (first | (with_reducible first | exact HK.out | apply KeepBut.set_ | apply keep_drewN | apply keep_drew | apply keep_alloc) | exact HK.out))) : w.heap.size ≤ gb899)); have n5_ := aK ((Nat.le_trans HW0.out (by rw [hg]; exact (keep_size (w := w) (g := g) (row := none) (by repeat (first | (with_reducible first | exact HK.out | apply KeepBut.set_ | apply keep_drewN | apply keep_drew | apply keep_alloc) | exact HK.out))) : w.heap.size ≤ gb899) : w0.heap.size ≤ gb899)); have n6_ := aK ((by rw [hg]; exact Nat.ne_of_lt (IsS151.lt (show IsS151 w0 _ g s0_0 s0_1 s0_2 from by repeat (first | (with_reducible first | exact HI0.out | apply IsS151.alloc | apply IsS151.drewN | apply IsS151.drew | apply IsS151.set_1 | apply IsS151.set_2) | exact HI0.out))) : g ≠ gb899)); have n7_ := aK ((by rw [hg]; exact Nat.ne_of_gt (IsS151.lt (show IsS151 w0 _ g s0_0 s0_1 s0_2 from by repeat (first | (with_reducible first | exact HI0.out | apply IsS151.alloc | apply IsS151.drewN | apply IsS151.drew | apply IsS151.set_1 | apply IsS151.set_2) | exact HI0.out))) : gb899 ≠ g)); clear HI0; clear HK; clear HB; have HI0 := n0_; have HK := n1_; have HB := n2_; have BK899 := n3_; have GW899 := n4_; have GE899 := n5_; have NB0_899 := n6_; have NB899_0 := n7_; clear n0_ n1_ n2_ n3_ n4_ n5_ n6_ n7_; clear hb hbox hg) | ((with_reducible refine gate_dst (N := 5) rfl ?_); refine Kd.R_lit (Kd.int .i64) _ 3 ?hg (N := 5) ?hd (xs := ([1, 2, 3, 3, 4] : List Int)) (inner := [.int .i64 1, .int .i64 2, .int .i64 3, .int .i64 3, .int .i64 4]) (ok := fun _ => True) (okp := fun _ => True) ?hr ?hp (fun _ hk => hk) trivial (Below.refl _ _) (Nat.le_refl _) (by simp) ?_; (case hd => rfl); (case hg => rfl); (case hr => first | (go_simp; done) | (go_simp; rfl)); (case hp => exact (Reps.one (show Kd.M (Kd.int .i64) _ _ _ 1 [.int .i64 1] from rfl) (Reps.one (show Kd.M (Kd.int .i64) _ _ _ 2 [.int .i64 2] from rfl) (Reps.one (show Kd.M (Kd.int .i64) _ _ _ 3 [.int .i64 3] from rfl) (Reps.one (show Kd.M (Kd.int .i64) _ _ _ 3 [.int .i64 3] from rfl) (Reps.one (show Kd.M (Kd.int .i64) _ _ _ 4 [.int .i64 4] from rfl) (Reps.none _ _))))))); intro v901 w5 ho6 hb hg_ hnew_; clear hg_ hnew_; (first | rw [← Ny900.out] at ho6 | (simp only [Int.reduceToNat] at ho6; rw [← Ny900.out] at ho6)); have n0_ := aK (Kd.R_lower ho6 (keep_size (w := w) (g := g) (row := none) (by repeat (first | (with_reducible first | exact HK.out | apply KeepBut.set_ | apply keep_drewN | apply keep_drew | apply keep_alloc | refine keep_far ?_ GW899.out _) | exact HK.out)))); have n1_ := aK (IsS151.below (by repeat (first | (with_reducible first | exact HI0.out | apply IsS151.alloc | apply IsS151.drewN | apply IsS151.drew | apply IsS151.set_1 | apply IsS151.set_2 | refine IsS151.far ?_ NB0_899.out _) | exact HI0.out)) hb); have n2_ := bkb BK899 hb (by intro z_; (with_reducible repeat (first | refine kDN ?_ _ | refine kD ?_ | refine kA ?_ _)); exact z_); have n3_ := aK (KeepBut.trans (by repeat (first | (with_reducible first | exact HK.out | apply KeepBut.set_ | apply keep_drewN | apply keep_drew | apply keep_alloc | refine keep_far ?_ GW899.out _) | exact HK.out)) (KeepBut.of_below hb g none) (.inl rfl)); have n4_ := aK (bSp (by repeat (first | (with_reducible first | exact HB.out | apply bAl | apply bDN | apply bD1 | refine bSt ?_ (IsS151.ge HI0.out) | refine bSt ?_ GE899.out) | exact HB.out)) hb); clear HI0; clear BK899; clear HK; clear HB; have HO902 := n0_; have HI0 := n1_; have BK899 := n2_; have HK := n3_; have HB := n4_; clear n0_ n1_ n2_ n3_ n4_; clear hb ho6; obtain ⟨Ao7, co7, eo7⟩ := Kd.R_slice HO902.out; subst eo7) | ((with_reducible refine gate_callee (f := 160) rfl ?_); refine goesL_ (some 6) rfl rfl Try.func160 (by kernel_rfl) rfl #[.pointer (some ⟨g, 0, none⟩), .slice Ao7 y900.length co7] rfl (by (try simp only [List.map_toArray, List.map_cons, List.map_nil]); first | done | rfl | (simp only [List.length_drop, List.length_take]; rfl)) ?_; (with_reducible refine (spec_l01PickInt.calls g s0_0 s0_1 s0_2 _ _ y900 t903 t904 t905 w0 _ ?side1 ?side2 ?side3 ?side4 ?side5 A2.out).mono ?_); (case side1 => repeat (first | (with_reducible first | exact HI0.out | apply IsS151.alloc | apply IsS151.drewN | apply IsS151.drew | apply IsS151.set_1 | apply IsS151.set_2 | refine IsS151.far ?_ NB0_899.out _) | exact HI0.out)); (case side2 => repeat (first | (with_reducible first | exact HB.out | apply bAl | apply bDN | apply bD1 | refine bSt ?_ (IsS151.ge HI0.out) | refine bSt ?_ GE899.out) | exact HB.out)); (case side3 => repeat (first | exact (Kd.R_reads' HO902.out).2.2 | (with_reducible refine Kd.C_alloc ?_ _) | (with_reducible refine Kd.C_drewN ?_ _) | (with_reducible refine Kd.C_drew ?_))); (case side4 => exact (Kd.R_reads' HO902.out).2.1); (case side5 => exact far_slice (IsS151.own_ne HI0.out HO902.out (by decide))); rintro e w8 ⟨rfl, hi, hb, hk⟩; refine ⟨_, rfl, ?_⟩; have n0_ := aK (KeepBut.blk hk (g' := gb899) (o := .cells #[.int .i64 0, .int .i64 0] 30 (0, 0)) (by (with_reducible repeat (first | refine kDN ?_ _ | refine kD ?_ | refine kA ?_ _)); exact BK899.out) NB899_0.out (by simp)); have n1_ := aK (Kd.R_mono (Kd.R_keep (IsS151.apart (show IsS151 w0 _ g s0_0 s0_1 s0_2 from by repeat (first | (with_reducible first | exact HI0.out | apply IsS151.alloc | apply IsS151.drewN | apply IsS151.drew | apply IsS151.set_1 | apply IsS151.set_2 | refine IsS151.far ?_ NB0_899.out _) | exact HI0.out)) (by (with_reducible repeat (first | apply Kd.R_alloc | apply Kd.R_drewN | apply Kd.R_drew)); exact HO902.out) (by decide)) hk (fun _ h => h.2)) (fun _ h => h.1)); have n2_ := aK (KeepBut.trans (by repeat (first | (with_reducible first | exact HK.out | apply KeepBut.set_ | apply keep_drewN | apply keep_drew | apply keep_alloc | refine keep_far ?_ GW899.out _) | exact HK.out)) hk (.inl rfl)); have n3_ := aK (hb); have n4_ := aK (hi); clear BK899; clear HO902; clear HK; clear HB; clear HI0; have BK899 := n0_; have HO902 := n1_; have HK := n2_; have HB := n3_; have HI0 := n4_; clear n0_ n1_ n2_ n3_ n4_; (try clear hb); (try clear hb2); (try clear hk); (try clear hi)) | ((with_reducible refine gate_dst (N := 9) rfl ?_); refine Kd.R_lit (Kd.int .i64) _ 3 ?hg (N := 9) ?hd (xs := ([1, 2, 3, 3, 4] : List Int)) (inner := [.int .i64 1, .int .i64 2, .int .i64 3, .int .i64 3, .int .i64 4]) (ok := fun _ => True) (okp := fun _ => True) ?hr ?hp (fun _ hk => hk) trivial (Below.refl _ _) (Nat.le_refl _) (by simp) ?_; (case hd => rfl); (case hg => rfl); (case hr => first | (go_simp; done) | (go_simp; rfl)); (case hp => exact (Reps.one (show Kd.M (Kd.int .i64) _ _ _ 1 [.int .i64 1] from rfl) (Reps.one (show Kd.M (Kd.int .i64) _ _ _ 2 [.int .i64 2] from rfl) (Reps.one (show Kd.M (Kd.int .i64) _ _ _ 3 [.int .i64 3] from rfl) (Reps.one (show Kd.M (Kd.int .i64) _ _ _ 3 [.int .i64 3] from rfl) (Reps.one (show Kd.M (Kd.int .i64) _ _ _ 4 [.int .i64 4] from rfl) (Reps.none _ _))))))); intro v907 w9 ho10 hb hg_ hnew_; clear hg_ hnew_; (first | rw [← Ny906.out] at ho10 | (simp only [Int.reduceToNat] at ho10; rw [← Ny906.out] at ho10)); have n0_ := aK (Kd.R_elder' (by (with_reducible repeat (first | apply Kd.R_alloc | apply Kd.R_drewN | apply Kd.R_drew)); exact HO902.out) (Kd.R_base ho10) hb); have n1_ := aK (Kd.R_lower (Kd.R_new' ho10 (Kd.R_lt (by (with_reducible repeat (first | apply Kd.R_alloc | apply Kd.R_drewN | apply Kd.R_drew)); exact HO902.out))) (keep_size (w := w) (g := g) (row := none) (by repeat (first | (with_reducible first | exact HK.out | apply KeepBut.set_ | apply keep_drewN | apply keep_drew | apply keep_alloc | refine keep_far ?_ GW899.out _) | exact HK.out)))); have n2_ := aK (IsS151.below (by repeat (first | (with_reducible first | exact HI0.out | apply IsS151.alloc | apply IsS151.drewN | apply IsS151.drew | apply IsS151.set_1 | apply IsS151.set_2 | refine IsS151.far ?_ NB0_899.out _) | exact HI0.out)) hb); have n3_ := bkb BK899 hb (by intro z_; (with_reducible repeat (first | refine kDN ?_ _ | refine kD ?_ | refine kA ?_ _)); exact z_); have n4_ := aK (KeepBut.trans (by repeat (first | (with_reducible first | exact HK.out | apply KeepBut.set_ | apply keep_drewN | apply keep_drew | apply keep_alloc | refine keep_far ?_ GW899.out _) | exact HK.out)) (KeepBut.of_below hb g none) (.inl rfl)); have n5_ := aK (bSp (by repeat (first | (with_reducible first | exact HB.out | apply bAl | apply bDN | apply bD1 | refine bSt ?_ (IsS151.ge HI0.out) | refine bSt ?_ GE899.out) | exact HB.out)) hb); clear HO902; clear HI0; clear BK899; clear HK; clear HB; have HO902 := n0_; have HO908 := n1_; have HI0 := n2_; have BK899 := n3_; have HK := n4_; have HB := n5_; clear n0_ n1_ n2_ n3_ n4_ n5_; clear hb ho10; obtain ⟨Ao11, co11, eo11⟩ := Kd.R_slice HO908.out; subst eo11) | ((with_reducible refine gate_callee (f := 160) rfl ?_); refine goesL_ (some 10) rfl rfl Try.func160 (by kernel_rfl) rfl #[.pointer (some ⟨g, 0, none⟩), .slice Ao11 y906.length co11] rfl (by (try simp only [List.map_toArray, List.map_cons, List.map_nil]); first | done | rfl | (simp only [List.length_drop, List.length_take]; rfl)) ?_; (with_reducible refine (spec_l01PickInt.calls g s0_0 t904 t905 _ _ y906 t909 t910 t911 w0 _ ?side1 ?side2 ?side3 ?side4 ?side5 A3.out).mono ?_); (case side1 => repeat (first | (with_reducible first | exact HI0.out | apply IsS151.alloc | apply IsS151.drewN | apply IsS151.drew | apply IsS151.set_1 | apply IsS151.set_2 | refine IsS151.far ?_ NB0_899.out _) | exact HI0.out)); (case side2 => repeat (first | (with_reducible first | exact HB.out | apply bAl | apply bDN | apply bD1 | refine bSt ?_ (IsS151.ge HI0.out) | refine bSt ?_ GE899.out) | exact HB.out)); (case side3 => repeat (first | exact (Kd.R_reads' HO908.out).2.2 | (with_reducible refine Kd.C_alloc ?_ _) | (with_reducible refine Kd.C_drewN ?_ _) | (with_reducible refine Kd.C_drew ?_))); (case side4 => exact (Kd.R_reads' HO908.out).2.1); (case side5 => exact far_slice (IsS151.own_ne HI0.out HO908.out (by decide))); rintro e w12 ⟨rfl, hi, hb, hk⟩; refine ⟨_, rfl, ?_⟩; have n0_ := aK (KeepBut.blk hk (g' := gb899) (o := .cells #[.int .i64 0, .int .i64 0] 30 (0, 0)) (by (with_reducible repeat (first | refine kDN ?_ _ | refine kD ?_ | refine kA ?_ _)); exact BK899.out) NB899_0.out (by simp)); have n1_ := aK (Kd.R_mono (Kd.R_keep (IsS151.apart (show IsS151 w0 _ g s0_0 t904 t905 from by repeat (first | (with_reducible first | exact HI0.out | apply IsS151.alloc | apply IsS151.drewN | apply IsS151.drew | apply IsS151.set_1 | apply IsS151.set_2 | refine IsS151.far ?_ NB0_899.out _) | exact HI0.out)) (by (with_reducible repeat (first | apply Kd.R_alloc | apply Kd.R_drewN | apply Kd.R_drew)); exact HO902.out) (by decide)) hk (fun _ h => h.2)) (fun _ h => h.1)); have n2_ := aK (Kd.R_mono (Kd.R_keep (IsS151.apart (show IsS151 w0 _ g s0_0 t904 t905 from by repeat (first | (with_reducible first | exact HI0.out | apply IsS151.alloc | apply IsS151.drewN | apply IsS151.drew | apply IsS151.set_1 | apply IsS151.set_2 | refine IsS151.far ?_ NB0_899.out _) | exact HI0.out)) (by (with_reducible repeat (first | apply Kd.R_alloc | apply Kd.R_drewN | apply Kd.R_drew)); exact HO908.out) (by decide)) hk (fun _ h => h.2)) (fun _ h => h.1)); have n3_ := aK (KeepBut.trans (by repeat (first | (with_reducible first | exact HK.out | apply KeepBut.set_ | apply keep_drewN | apply keep_drew | apply keep_alloc | refine keep_far ?_ GW899.out _) | exact HK.out)) hk (.inl rfl)); have n4_ := aK (hb); have n5_ := aK (hi); clear BK899; clear HO902; clear HO908; clear HK; clear HB; clear HI0; have BK899 := n0_; have HO902 := n1_; have HO908 := n2_; have HK := n3_; have HB := n4_; have HI0 := n5_; clear n0_ n1_ n2_ n3_ n4_ n5_; (try clear hb); (try clear hb2); (try clear hk); (try clear hi); have hnb13 := NB899_0.out; have hnc13 := NB0_899.out; obtain ⟨hcz14_0, hcz14_1, hfz14_0, hfz14_1⟩ := cl2 BK899.out))
 refine bodyPost_ret (results_cell_row rfl _ _ gb899 30 #[.int .i64 t903, .int .i64 t909] (0, 0) _ rfl (by (with_reducible repeat (first | refine kDN ?_ _ | refine kD ?_ | refine kA ?_ _)); refine blk_put (cs := #[.int .i64 t903, .int .i64 0]) ?_ 1 _ rfl; (with_reducible repeat (first | refine kDN ?_ _ | refine kD ?_ | refine kA ?_ _)); refine blk_put (cs := #[.int .i64 0, .int .i64 0]) ?_ 0 _ rfl; (with_reducible repeat (first | refine kDN ?_ _ | refine kD ?_ | refine kA ?_ _)); exact BK899.out) Try.underlying30 rfl (by kernel_rfl)) rfl ?_
 exact ⟨by first | rfl | (simp [errW_none, errW_some] <;> rfl) | (simp [*, errW_none, errW_some] <;> rfl), by repeat (first | (with_reducible first | exact HI0.out | apply IsS151.alloc | apply IsS151.drewN | apply IsS151.drew | apply IsS151.set_1 | apply IsS151.set_2 | refine IsS151.far ?_ NB0_899.out _) | exact HI0.out), by repeat (first | (with_reducible first | exact HB.out | apply bAl | apply bDN | apply bD1 | refine bSt ?_ (IsS151.ge HI0.out) | refine bSt ?_ GE899.out) | exact HB.out), by repeat (first | (with_reducible first | exact HK.out | apply KeepBut.set_ | apply keep_drewN | apply keep_drew | apply keep_alloc | refine keep_far ?_ GW899.out _) | exact HK.out)⟩
set_option maxHeartbeats 8000000 in
set_option maxRecDepth 100000 in
theorem spec_l03Common.calls (k : Nat) (a0 : Int) (a1 : Int) (r : Bool) (w : World) (h : spec_l03Common.f k a0 a1 = some r) :
  Calls Try.prog 161 #[.int .i64 a0, .int .i64 a1] w fun e w' => e = .returned (.bool r) ∧ Drawn0 w w' := by
 have H : (spec_l03Common.l0 k a0 a1) = some r := h
 clear h
 have H' := aK H
 clear H
 go_enter Try.func161, Try.ntmps161
 go_wp2
 repeat (go_quiet (fail); try go_wp2)
 go_loopg [0, 1] k (fun kq v0 v1 w' => ∃ (x0_1 : Int) (x1_1 : Int), v0 = .int .i64 x0_1 ∧ v1 = .int .i64 x1_1 ∧ Aside0 (spec_l03Common.l0 kq x0_1 x1_1 = some r) ∧ Aside0 (kq ≤ k) ∧ Drawn0 w w')
 case atStart => exact ⟨(a0), (a1), (by first | rfl | (simp; done) | (simp [*]; done)), (by first | rfl | (simp; done) | (simp [*]; done)), H', ⟨Nat.le_refl _⟩, by repeat (first | exact Drawn0.refl _ | apply Drawn0.step)⟩
 case round =>
  clear H'
  try clear c1
  try clear p2
  obtain ⟨x0_1, x1_1, rfl, rfl, HA, HK1, ⟨m1, rfl⟩⟩ := hrel
  cases gk with
  | zero => exact absurd HA.out (by simp [spec_l03Common.l0])
  | succ k1 =>
   have H := HA.out
   clear HA
   simp only [spec_l03Common.l0] at H
   by_cases c3 : x1_1 > 0
   ·rw [if_pos c3] at H
    have c3b0 : decide (0 < x1_1) = true := decide_eq_true c3
    clear c3
    by_cases c4 : x1_1 = 0
    ·rw [if_pos c4] at H
     exact absurd H (by simp)
    ·rw [if_neg c4] at H
     have c4b0 : (x1_1 == 0) = false := beq_eq_false_iff_ne.mpr c4
     have c4b1 : (x1_1 != 0) = true := bne_iff_ne.mpr c4
     have H' := aK H
     clear H
     go_wp2
     repeat (go_quiet (fail); try go_wp2)
     go_roundg k1
     case measure => have := HK1.out; omega
     case rel => exact ⟨(x1_1), (Int.tmod x0_1 x1_1), (by first | rfl | (simp; done) | (simp [*]; done)), (by first | rfl | (simp; done) | (simp [*]; done)), H', ⟨by have := HK1.out; omega⟩, by repeat (first | exact Drawn0.refl _ | apply Drawn0.step)⟩
   ·rw [if_neg c3] at H
    have c3b0 : decide (0 < x1_1) = false := decide_eq_false c3
    clear c3
    obtain rfl := Option.some.inj H
    go_wp2
    repeat (go_quiet (fail); try go_wp2)
    go_ret
    exact ⟨by first | rfl | (simp; done) | (simp [*]; done), by repeat (first | exact Drawn0.refl _ | apply Drawn0.step)⟩
set_option maxHeartbeats 8000000 in
set_option maxRecDepth 100000 in
theorem spec_EndsOf.calls (a0_0 : Int) (a0_1 : Int) (a1 : Int) (r1 : Int) (r2 : Int) (w : World) (h : spec_EndsOf.f a0_0 a0_1 a1 = some (r1, r2)) :
  Calls Try.prog 162 #[.agg #[.int .i64 a0_0, .int .i64 a0_1], .int .i64 a1] w fun e w' => e = .returned (.tuple #[.int .i64 r1, .int .i64 r2]) ∧ Below w.heap.size w w' := by
 have hu30 := Try.underlying30
 have HB := aK (Below.refl w.heap.size w)
 have H : ((spec_CountGaps.f a0_0 a0_1).bind fun t913 => ((spec_l01In.f a1 0 (wrap64 (t913 - 1))).bind fun t914 => (if t914 = true then ((spec_l02East.f a0_0 a0_1).bind fun t915 => (if a1 < t915 then (if (wrap64 (a0_0 - 1)) = 0 then (none) else (some (wrap64 ((wrap64 ((wrap64 (Int.tdiv a1 (wrap64 (a0_0 - 1)))) * a0_0)) + (Int.tmod a1 (wrap64 (a0_0 - 1)))), wrap64 ((wrap64 ((wrap64 ((wrap64 (Int.tdiv a1 (wrap64 (a0_0 - 1)))) * a0_0)) + (Int.tmod a1 (wrap64 (a0_0 - 1))))) + 1)))) else ((spec_l02East.f a0_0 a0_1).bind fun t916 => (some (wrap64 (a1 - t916), wrap64 ((wrap64 (a1 - t916)) + a0_0)))))) else (some ((-1), (-1)))))) = some (r1, r2) := h
 clear h
 replace H := Option.bind_eq_some_iff.mp H
 obtain ⟨t913, A30, H⟩ := H
 replace H : ((spec_l01In.f a1 0 (wrap64 (t913 - 1))).bind fun t914 => (if t914 = true then ((spec_l02East.f a0_0 a0_1).bind fun t915 => (if a1 < t915 then (if (wrap64 (a0_0 - 1)) = 0 then (none) else (some (wrap64 ((wrap64 ((wrap64 (Int.tdiv a1 (wrap64 (a0_0 - 1)))) * a0_0)) + (Int.tmod a1 (wrap64 (a0_0 - 1)))), wrap64 ((wrap64 ((wrap64 ((wrap64 (Int.tdiv a1 (wrap64 (a0_0 - 1)))) * a0_0)) + (Int.tmod a1 (wrap64 (a0_0 - 1))))) + 1)))) else ((spec_l02East.f a0_0 a0_1).bind fun t916 => (some (wrap64 (a1 - t916), wrap64 ((wrap64 (a1 - t916)) + a0_0)))))) else (some ((-1), (-1))))) = some (r1, r2) := H
 have A3 := aK A30
 clear A30
 replace H := Option.bind_eq_some_iff.mp H
 obtain ⟨t914, A40, H⟩ := H
 replace H : (if t914 = true then ((spec_l02East.f a0_0 a0_1).bind fun t915 => (if a1 < t915 then (if (wrap64 (a0_0 - 1)) = 0 then (none) else (some (wrap64 ((wrap64 ((wrap64 (Int.tdiv a1 (wrap64 (a0_0 - 1)))) * a0_0)) + (Int.tmod a1 (wrap64 (a0_0 - 1)))), wrap64 ((wrap64 ((wrap64 ((wrap64 (Int.tdiv a1 (wrap64 (a0_0 - 1)))) * a0_0)) + (Int.tmod a1 (wrap64 (a0_0 - 1))))) + 1)))) else ((spec_l02East.f a0_0 a0_1).bind fun t916 => (some (wrap64 (a1 - t916), wrap64 ((wrap64 (a1 - t916)) + a0_0)))))) else (some ((-1), (-1)))) = some (r1, r2) := H
 have A4 := aK A40
 clear A40
 by_cases c5 : t914 = true
 ·subst c5
  have H1 : ((spec_l02East.f a0_0 a0_1).bind fun t915 => (if a1 < t915 then (if (wrap64 (a0_0 - 1)) = 0 then (none) else (some (wrap64 ((wrap64 ((wrap64 (Int.tdiv a1 (wrap64 (a0_0 - 1)))) * a0_0)) + (Int.tmod a1 (wrap64 (a0_0 - 1)))), wrap64 ((wrap64 ((wrap64 ((wrap64 (Int.tdiv a1 (wrap64 (a0_0 - 1)))) * a0_0)) + (Int.tmod a1 (wrap64 (a0_0 - 1))))) + 1)))) else ((spec_l02East.f a0_0 a0_1).bind fun t916 => (some (wrap64 (a1 - t916), wrap64 ((wrap64 (a1 - t916)) + a0_0)))))) = some (r1, r2) := by rw [if_pos rfl] at H; exact H
  clear H
  have H := H1
  clear H1
  replace H := Option.bind_eq_some_iff.mp H
  obtain ⟨t915, A60, H⟩ := H
  replace H : (if a1 < t915 then (if (wrap64 (a0_0 - 1)) = 0 then (none) else (some (wrap64 ((wrap64 ((wrap64 (Int.tdiv a1 (wrap64 (a0_0 - 1)))) * a0_0)) + (Int.tmod a1 (wrap64 (a0_0 - 1)))), wrap64 ((wrap64 ((wrap64 ((wrap64 (Int.tdiv a1 (wrap64 (a0_0 - 1)))) * a0_0)) + (Int.tmod a1 (wrap64 (a0_0 - 1))))) + 1)))) else ((spec_l02East.f a0_0 a0_1).bind fun t916 => (some (wrap64 (a1 - t916), wrap64 ((wrap64 (a1 - t916)) + a0_0))))) = some (r1, r2) := H
  have A6 := aK A60
  clear A60
  by_cases c7 : a1 < t915
  ·rw [if_pos c7] at H
   have c7b0 : decide (a1 < t915) = true := decide_eq_true c7
   clear c7
   by_cases c8 : (wrap64 (a0_0 - 1)) = 0
   ·rw [if_pos c8] at H
    exact absurd H (by simp)
   ·rw [if_neg c8] at H
    have c8b0 : ((wrap64 (a0_0 - 1)) == 0) = false := beq_eq_false_iff_ne.mpr c8
    have c8b1 : ((wrap64 (a0_0 - 1)) != 0) = true := bne_iff_ne.mpr c8
    simp only [Option.some.injEq, Prod.mk.injEq] at H
    obtain ⟨rfl, rfl⟩ := H
    go_enter Try.func162, Try.ntmps162
    go_wp2_with (first | ((with_reducible refine gate_dst (N := 2) rfl ?_); refine box_event ?hg (N := 2) ?hd (cs := #[.int .i64 a0_0, .int .i64 a0_1]) (t := 30) ?hr ?_; (case hd => rfl); (case hg => rfl); (case hr => first | (go_simp; done) | (go_simp; rfl)); intro gb912 hg w9 hbox hb; have n0_ := aK (bSp (by repeat (first | (with_reducible first | exact HB.out | apply bAl | apply bDN | apply bD1) | exact HB.out)) hb); have n1_ := aK (hbox); have n2_ := aK ((by rw [hg]; exact (bSz (by repeat (first | (with_reducible first | exact HB.out | apply bAl | apply bDN | apply bD1) | exact HB.out))) : w.heap.size ≤ gb912)); have n3_ := n2_; clear HB; have HB := n0_; have BK912 := n1_; have GW912 := n2_; have GE912 := n3_; clear n0_ n1_ n2_ n3_; clear hb hbox hg; obtain ⟨hcz10_0, hcz10_1, hfz10_0, hfz10_1⟩ := cl2 BK912.out) | (go_at_call 128; (with_reducible refine (spec_CountGaps.calls a0_0 a0_1 t913 _ A3.out).mono ?_); rintro e w11 ⟨rfl, hb⟩; have n0_ := bkb BK912 hb (by intro z_; (with_reducible repeat (first | refine kDN ?_ _ | refine kD ?_ | refine kA ?_ _)); exact z_); have n1_ := aK (bSp (by repeat (first | (with_reducible first | exact HB.out | apply bAl | apply bDN | apply bD1 | refine bSt ?_ GE912.out) | exact HB.out)) hb); clear BK912; clear HB; have BK912 := n0_; have HB := n1_; clear n0_ n1_; (try clear hb); (try clear hb2); (try clear hk); (try clear hi)) | (go_at_call 109; (with_reducible refine (spec_l01In.calls a1 0 (wrap64 (t913 - 1)) true _ A4.out).mono ?_); rintro e w' ⟨rfl, ⟨nd, rfl⟩⟩; (try first | exact ⟨rfl, _, World.drewN_drewN _ _ _⟩ | exact ⟨rfl, _, Eq.trans (World.drewN_drewN _ _ _) (congrArg (World.drewN _) (Nat.add_assoc _ _ _))⟩); obtain ⟨hcz12_0, hcz12_1, hfz12_0, hfz12_1⟩ := cl2 BK912.out) | (go_at_call 155; (with_reducible refine (spec_l02East.calls a0_0 a0_1 t915 _ A6.out).mono ?_); rintro e w13 ⟨rfl, hb⟩; have n0_ := bkb BK912 hb (by intro z_; (with_reducible repeat (first | refine kDN ?_ _ | refine kD ?_ | refine kA ?_ _)); exact z_); have n1_ := aK (bSp (by repeat (first | (with_reducible first | exact HB.out | apply bAl | apply bDN | apply bD1 | refine bSt ?_ GE912.out) | exact HB.out)) hb); clear BK912; clear HB; have BK912 := n0_; have HB := n1_; clear n0_ n1_; (try clear hb); (try clear hb2); (try clear hk); (try clear hi); obtain ⟨hcz14_0, hcz14_1, hfz14_0, hfz14_1⟩ := cl2 BK912.out))
    repeat (go_quiet (first | ((with_reducible refine gate_dst (N := 2) rfl ?_); refine box_event ?hg (N := 2) ?hd (cs := #[.int .i64 a0_0, .int .i64 a0_1]) (t := 30) ?hr ?_; (case hd => rfl); (case hg => rfl); (case hr => first | (go_simp; done) | (go_simp; rfl)); intro gb912 hg w9 hbox hb; have n0_ := aK (bSp (by repeat (first | (with_reducible first | exact HB.out | apply bAl | apply bDN | apply bD1) | exact HB.out)) hb); have n1_ := aK (hbox); have n2_ := aK ((by rw [hg]; exact (bSz (by repeat (first | (with_reducible first | exact HB.out | apply bAl | apply bDN | apply bD1) | exact HB.out))) : w.heap.size ≤ gb912)); have n3_ := n2_; clear HB; have HB := n0_; have BK912 := n1_; have GW912 := n2_; have GE912 := n3_; clear n0_ n1_ n2_ n3_; clear hb hbox hg; obtain ⟨hcz10_0, hcz10_1, hfz10_0, hfz10_1⟩ := cl2 BK912.out) | (go_at_call 128; (with_reducible refine (spec_CountGaps.calls a0_0 a0_1 t913 _ A3.out).mono ?_); rintro e w11 ⟨rfl, hb⟩; have n0_ := bkb BK912 hb (by intro z_; (with_reducible repeat (first | refine kDN ?_ _ | refine kD ?_ | refine kA ?_ _)); exact z_); have n1_ := aK (bSp (by repeat (first | (with_reducible first | exact HB.out | apply bAl | apply bDN | apply bD1 | refine bSt ?_ GE912.out) | exact HB.out)) hb); clear BK912; clear HB; have BK912 := n0_; have HB := n1_; clear n0_ n1_; (try clear hb); (try clear hb2); (try clear hk); (try clear hi)) | (go_at_call 109; (with_reducible refine (spec_l01In.calls a1 0 (wrap64 (t913 - 1)) true _ A4.out).mono ?_); rintro e w' ⟨rfl, ⟨nd, rfl⟩⟩; (try first | exact ⟨rfl, _, World.drewN_drewN _ _ _⟩ | exact ⟨rfl, _, Eq.trans (World.drewN_drewN _ _ _) (congrArg (World.drewN _) (Nat.add_assoc _ _ _))⟩); obtain ⟨hcz12_0, hcz12_1, hfz12_0, hfz12_1⟩ := cl2 BK912.out) | (go_at_call 155; (with_reducible refine (spec_l02East.calls a0_0 a0_1 t915 _ A6.out).mono ?_); rintro e w13 ⟨rfl, hb⟩; have n0_ := bkb BK912 hb (by intro z_; (with_reducible repeat (first | refine kDN ?_ _ | refine kD ?_ | refine kA ?_ _)); exact z_); have n1_ := aK (bSp (by repeat (first | (with_reducible first | exact HB.out | apply bAl | apply bDN | apply bD1 | refine bSt ?_ GE912.out) | exact HB.out)) hb); clear BK912; clear HB; have BK912 := n0_; have HB := n1_; clear n0_ n1_; (try clear hb); (try clear hb2); (try clear hk); (try clear hi); obtain ⟨hcz14_0, hcz14_1, hfz14_0, hfz14_1⟩ := cl2 BK912.out)); try go_wp2_with (first | ((with_reducible refine gate_dst (N := 2) rfl ?_); refine box_event ?hg (N := 2) ?hd (cs := #[.int .i64 a0_0, .int .i64 a0_1]) (t := 30) ?hr ?_; (case hd => rfl); (case hg => rfl); (case hr => first | (go_simp; done) | (go_simp; rfl)); intro gb912 hg w9 hbox hb; have n0_ := aK (bSp (by repeat (first | (with_reducible first | exact HB.out | apply bAl | apply bDN | apply bD1) | exact HB.out)) hb); have n1_ := aK (hbox); have n2_ := aK ((by rw [hg]; exact (bSz (by repeat (first | (with_reducible first | exact HB.out | apply bAl | apply bDN | apply bD1) | exact HB.out))) : w.heap.size ≤ gb912)); have n3_ := n2_; clear HB; have HB := n0_; have BK912 := n1_; have GW912 := n2_; have GE912 := n3_; clear n0_ n1_ n2_ n3_; clear hb hbox hg; obtain ⟨hcz10_0, hcz10_1, hfz10_0, hfz10_1⟩ := cl2 BK912.out) | (go_at_call 128; (with_reducible refine (spec_CountGaps.calls a0_0 a0_1 t913 _ A3.out).mono ?_); rintro e w11 ⟨rfl, hb⟩; have n0_ := bkb BK912 hb (by intro z_; (with_reducible repeat (first | refine kDN ?_ _ | refine kD ?_ | refine kA ?_ _)); exact z_); have n1_ := aK (bSp (by repeat (first | (with_reducible first | exact HB.out | apply bAl | apply bDN | apply bD1 | refine bSt ?_ GE912.out) | exact HB.out)) hb); clear BK912; clear HB; have BK912 := n0_; have HB := n1_; clear n0_ n1_; (try clear hb); (try clear hb2); (try clear hk); (try clear hi)) | (go_at_call 109; (with_reducible refine (spec_l01In.calls a1 0 (wrap64 (t913 - 1)) true _ A4.out).mono ?_); rintro e w' ⟨rfl, ⟨nd, rfl⟩⟩; (try first | exact ⟨rfl, _, World.drewN_drewN _ _ _⟩ | exact ⟨rfl, _, Eq.trans (World.drewN_drewN _ _ _) (congrArg (World.drewN _) (Nat.add_assoc _ _ _))⟩); obtain ⟨hcz12_0, hcz12_1, hfz12_0, hfz12_1⟩ := cl2 BK912.out) | (go_at_call 155; (with_reducible refine (spec_l02East.calls a0_0 a0_1 t915 _ A6.out).mono ?_); rintro e w13 ⟨rfl, hb⟩; have n0_ := bkb BK912 hb (by intro z_; (with_reducible repeat (first | refine kDN ?_ _ | refine kD ?_ | refine kA ?_ _)); exact z_); have n1_ := aK (bSp (by repeat (first | (with_reducible first | exact HB.out | apply bAl | apply bDN | apply bD1 | refine bSt ?_ GE912.out) | exact HB.out)) hb); clear BK912; clear HB; have BK912 := n0_; have HB := n1_; clear n0_ n1_; (try clear hb); (try clear hb2); (try clear hk); (try clear hi); obtain ⟨hcz14_0, hcz14_1, hfz14_0, hfz14_1⟩ := cl2 BK912.out)))
    go_ret2
    exact ⟨by first | rfl | (rw [Option.some.inj (A6.out.symm.trans A15.out)]; done) | (rw [Option.some.inj (A6.out.symm.trans A15.out)]; rfl) | (simp [errW_none, errW_some] <;> rfl) | (simp [*, errW_none, errW_some] <;> rfl), by repeat (first | (with_reducible first | exact HB.out | apply bAl | apply bDN | apply bD1 | refine bSt ?_ GE912.out) | exact HB.out)⟩
  ·rw [if_neg c7] at H
   have c7b0 : decide (a1 < t915) = false := decide_eq_false c7
   clear c7
   replace H := Option.bind_eq_some_iff.mp H
   obtain ⟨t916, A150, H⟩ := H
   replace H : (some (wrap64 (a1 - t916), wrap64 ((wrap64 (a1 - t916)) + a0_0))) = some (r1, r2) := H
   have A15 := aK A150
   clear A150
   simp only [Option.some.injEq, Prod.mk.injEq] at H
   obtain ⟨rfl, rfl⟩ := H
   go_enter Try.func162, Try.ntmps162
   go_wp2_with (first | ((with_reducible refine gate_dst (N := 2) rfl ?_); refine box_event ?hg (N := 2) ?hd (cs := #[.int .i64 a0_0, .int .i64 a0_1]) (t := 30) ?hr ?_; (case hd => rfl); (case hg => rfl); (case hr => first | (go_simp; done) | (go_simp; rfl)); intro gb912 hg w16 hbox hb; have n0_ := aK (bSp (by repeat (first | (with_reducible first | exact HB.out | apply bAl | apply bDN | apply bD1) | exact HB.out)) hb); have n1_ := aK (hbox); have n2_ := aK ((by rw [hg]; exact (bSz (by repeat (first | (with_reducible first | exact HB.out | apply bAl | apply bDN | apply bD1) | exact HB.out))) : w.heap.size ≤ gb912)); have n3_ := n2_; clear HB; have HB := n0_; have BK912 := n1_; have GW912 := n2_; have GE912 := n3_; clear n0_ n1_ n2_ n3_; clear hb hbox hg; obtain ⟨hcz17_0, hcz17_1, hfz17_0, hfz17_1⟩ := cl2 BK912.out) | (go_at_call 128; (with_reducible refine (spec_CountGaps.calls a0_0 a0_1 t913 _ A3.out).mono ?_); rintro e w18 ⟨rfl, hb⟩; have n0_ := bkb BK912 hb (by intro z_; (with_reducible repeat (first | refine kDN ?_ _ | refine kD ?_ | refine kA ?_ _)); exact z_); have n1_ := aK (bSp (by repeat (first | (with_reducible first | exact HB.out | apply bAl | apply bDN | apply bD1 | refine bSt ?_ GE912.out) | exact HB.out)) hb); clear BK912; clear HB; have BK912 := n0_; have HB := n1_; clear n0_ n1_; (try clear hb); (try clear hb2); (try clear hk); (try clear hi)) | (go_at_call 109; (with_reducible refine (spec_l01In.calls a1 0 (wrap64 (t913 - 1)) true _ A4.out).mono ?_); rintro e w' ⟨rfl, ⟨nd, rfl⟩⟩; (try first | exact ⟨rfl, _, World.drewN_drewN _ _ _⟩ | exact ⟨rfl, _, Eq.trans (World.drewN_drewN _ _ _) (congrArg (World.drewN _) (Nat.add_assoc _ _ _))⟩); obtain ⟨hcz19_0, hcz19_1, hfz19_0, hfz19_1⟩ := cl2 BK912.out) | (go_at_call 155; (with_reducible refine (spec_l02East.calls a0_0 a0_1 t915 _ A6.out).mono ?_); rintro e w20 ⟨rfl, hb⟩; have n0_ := bkb BK912 hb (by intro z_; (with_reducible repeat (first | refine kDN ?_ _ | refine kD ?_ | refine kA ?_ _)); exact z_); have n1_ := aK (bSp (by repeat (first | (with_reducible first | exact HB.out | apply bAl | apply bDN | apply bD1 | refine bSt ?_ GE912.out) | exact HB.out)) hb); clear BK912; clear HB; have BK912 := n0_; have HB := n1_; clear n0_ n1_; (try clear hb); (try clear hb2); (try clear hk); (try clear hi); obtain ⟨hcz21_0, hcz21_1, hfz21_0, hfz21_1⟩ := cl2 BK912.out) | (go_at_call 155; (with_reducible refine (spec_l02East.calls a0_0 a0_1 t916 _ A15.out).mono ?_); rintro e w22 ⟨rfl, hb⟩; have n0_ := bkb BK912 hb (by intro z_; (with_reducible repeat (first | refine kDN ?_ _ | refine kD ?_ | refine kA ?_ _)); exact z_); have n1_ := aK (bSp (by repeat (first | (with_reducible first | exact HB.out | apply bAl | apply bDN | apply bD1 | refine bSt ?_ GE912.out) | exact HB.out)) hb); clear BK912; clear HB; have BK912 := n0_; have HB := n1_; clear n0_ n1_; (try clear hb); (try clear hb2); (try clear hk); (try clear hi); obtain ⟨hcz23_0, hcz23_1, hfz23_0, hfz23_1⟩ := cl2 BK912.out))
   repeat (go_quiet (first | ((with_reducible refine gate_dst (N := 2) rfl ?_); refine box_event ?hg (N := 2) ?hd (cs := #[.int .i64 a0_0, .int .i64 a0_1]) (t := 30) ?hr ?_; (case hd => rfl); (case hg => rfl); (case hr => first | (go_simp; done) | (go_simp; rfl)); intro gb912 hg w16 hbox hb; have n0_ := aK (bSp (by repeat (first | (with_reducible first | exact HB.out | apply bAl | apply bDN | apply bD1) | exact HB.out)) hb); have n1_ := aK (hbox); have n2_ := aK ((by rw [hg]; exact (bSz (by repeat (first | (with_reducible first | exact HB.out | apply bAl | apply bDN | apply bD1) | exact HB.out))) : w.heap.size ≤ gb912)); have n3_ := n2_; clear HB; have HB := n0_; have BK912 := n1_; have GW912 := n2_; have GE912 := n3_; clear n0_ n1_ n2_ n3_; clear hb hbox hg; obtain ⟨hcz17_0, hcz17_1, hfz17_0, hfz17_1⟩ := cl2 BK912.out) | (go_at_call 128; (with_reducible refine (spec_CountGaps.calls a0_0 a0_1 t913 _ A3.out).mono ?_); rintro e w18 ⟨rfl, hb⟩; have n0_ := bkb BK912 hb (by intro z_; (with_reducible repeat (first | refine kDN ?_ _ | refine kD ?_ | refine kA ?_ _)); exact z_); have n1_ := aK (bSp (by repeat (first | (with_reducible first | exact HB.out | apply bAl | apply bDN | apply bD1 | refine bSt ?_ GE912.out) | exact HB.out)) hb); clear BK912; clear HB; have BK912 := n0_; have HB := n1_; clear n0_ n1_; (try clear hb); (try clear hb2); (try clear hk); (try clear hi)) | (go_at_call 109; (with_reducible refine (spec_l01In.calls a1 0 (wrap64 (t913 - 1)) true _ A4.out).mono ?_); rintro e w' ⟨rfl, ⟨nd, rfl⟩⟩; (try first | exact ⟨rfl, _, World.drewN_drewN _ _ _⟩ | exact ⟨rfl, _, Eq.trans (World.drewN_drewN _ _ _) (congrArg (World.drewN _) (Nat.add_assoc _ _ _))⟩); obtain ⟨hcz19_0, hcz19_1, hfz19_0, hfz19_1⟩ := cl2 BK912.out) | (go_at_call 155; (with_reducible refine (spec_l02East.calls a0_0 a0_1 t915 _ A6.out).mono ?_); rintro e w20 ⟨rfl, hb⟩; have n0_ := bkb BK912 hb (by intro z_; (with_reducible repeat (first | refine kDN ?_ _ | refine kD ?_ | refine kA ?_ _)); exact z_); have n1_ := aK (bSp (by repeat (first | (with_reducible first | exact HB.out | apply bAl | apply bDN | apply bD1 | refine bSt ?_ GE912.out) | exact HB.out)) hb); clear BK912; clear HB; have BK912 := n0_; have HB := n1_; clear n0_ n1_; (try clear hb); (try clear hb2); (try clear hk); (try clear hi); obtain ⟨hcz21_0, hcz21_1, hfz21_0, hfz21_1⟩ := cl2 BK912.out) | (go_at_call 155; (with_reducible refine (spec_l02East.calls a0_0 a0_1 t916 _ A15.out).mono ?_); rintro e w22 ⟨rfl, hb⟩; have n0_ := bkb BK912 hb (by intro z_; (with_reducible repeat (first | refine kDN ?_ _ | refine kD ?_ | refine kA ?_ _)); exact z_); have n1_ := aK (bSp (by repeat (first | (with_reducible first | exact HB.out | apply bAl | apply bDN | apply bD1 | refine bSt ?_ GE912.out) | exact HB.out)) hb); clear BK912; clear HB; have BK912 := n0_; have HB := n1_; clear n0_ n1_; (try clear hb); (try clear hb2); (try clear hk); (try clear hi); obtain ⟨hcz23_0, hcz23_1, hfz23_0, hfz23_1⟩ := cl2 BK912.out)); try go_wp2_with (first | ((with_reducible refine gate_dst (N := 2) rfl ?_); refine box_event ?hg (N := 2) ?hd (cs := #[.int .i64 a0_0, .int .i64 a0_1]) (t := 30) ?hr ?_; (case hd => rfl); (case hg => rfl); (case hr => first | (go_simp; done) | (go_simp; rfl)); intro gb912 hg w16 hbox hb; have n0_ := aK (bSp (by repeat (first | (with_reducible first | exact HB.out | apply bAl | apply bDN | apply bD1) | exact HB.out)) hb); have n1_ := aK (hbox); have n2_ := aK ((by rw [hg]; exact (bSz (by repeat (first | (with_reducible first | exact HB.out | apply bAl | apply bDN | apply bD1) | exact HB.out))) : w.heap.size ≤ gb912)); have n3_ := n2_; clear HB; have HB := n0_; have BK912 := n1_; have GW912 := n2_; have GE912 := n3_; clear n0_ n1_ n2_ n3_; clear hb hbox hg; obtain ⟨hcz17_0, hcz17_1, hfz17_0, hfz17_1⟩ := cl2 BK912.out) | (go_at_call 128; (with_reducible refine (spec_CountGaps.calls a0_0 a0_1 t913 _ A3.out).mono ?_); rintro e w18 ⟨rfl, hb⟩; have n0_ := bkb BK912 hb (by intro z_; (with_reducible repeat (first | refine kDN ?_ _ | refine kD ?_ | refine kA ?_ _)); exact z_); have n1_ := aK (bSp (by repeat (first | (with_reducible first | exact HB.out | apply bAl | apply bDN | apply bD1 | refine bSt ?_ GE912.out) | exact HB.out)) hb); clear BK912; clear HB; have BK912 := n0_; have HB := n1_; clear n0_ n1_; (try clear hb); (try clear hb2); (try clear hk); (try clear hi)) | (go_at_call 109; (with_reducible refine (spec_l01In.calls a1 0 (wrap64 (t913 - 1)) true _ A4.out).mono ?_); rintro e w' ⟨rfl, ⟨nd, rfl⟩⟩; (try first | exact ⟨rfl, _, World.drewN_drewN _ _ _⟩ | exact ⟨rfl, _, Eq.trans (World.drewN_drewN _ _ _) (congrArg (World.drewN _) (Nat.add_assoc _ _ _))⟩); obtain ⟨hcz19_0, hcz19_1, hfz19_0, hfz19_1⟩ := cl2 BK912.out) | (go_at_call 155; (with_reducible refine (spec_l02East.calls a0_0 a0_1 t915 _ A6.out).mono ?_); rintro e w20 ⟨rfl, hb⟩; have n0_ := bkb BK912 hb (by intro z_; (with_reducible repeat (first | refine kDN ?_ _ | refine kD ?_ | refine kA ?_ _)); exact z_); have n1_ := aK (bSp (by repeat (first | (with_reducible first | exact HB.out | apply bAl | apply bDN | apply bD1 | refine bSt ?_ GE912.out) | exact HB.out)) hb); clear BK912; clear HB; have BK912 := n0_; have HB := n1_; clear n0_ n1_; (try clear hb); (try clear hb2); (try clear hk); (try clear hi); obtain ⟨hcz21_0, hcz21_1, hfz21_0, hfz21_1⟩ := cl2 BK912.out) | (go_at_call 155; (with_reducible refine (spec_l02East.calls a0_0 a0_1 t916 _ A15.out).mono ?_); rintro e w22 ⟨rfl, hb⟩; have n0_ := bkb BK912 hb (by intro z_; (with_reducible repeat (first | refine kDN ?_ _ | refine kD ?_ | refine kA ?_ _)); exact z_); have n1_ := aK (bSp (by repeat (first | (with_reducible first | exact HB.out | apply bAl | apply bDN | apply bD1 | refine bSt ?_ GE912.out) | exact HB.out)) hb); clear BK912; clear HB; have BK912 := n0_; have HB := n1_; clear n0_ n1_; (try clear hb); (try clear hb2); (try clear hk); (try clear hi); obtain ⟨hcz23_0, hcz23_1, hfz23_0, hfz23_1⟩ := cl2 BK912.out)))
   go_ret2
   exact ⟨by first | rfl | (rw [Option.some.inj (A6.out.symm.trans A15.out)]; done) | (rw [Option.some.inj (A6.out.symm.trans A15.out)]; rfl) | (simp [errW_none, errW_some] <;> rfl) | (simp [*, errW_none, errW_some] <;> rfl), by repeat (first | (with_reducible first | exact HB.out | apply bAl | apply bDN | apply bD1 | refine bSt ?_ GE912.out) | exact HB.out)⟩
 ·replace c5 := Bool.eq_false_iff.mpr c5
  subst c5
  have H1 : (some ((-1), (-1))) = some (r1, r2) := by rw [if_neg (show ¬ (false = true) by decide)] at H; exact H
  clear H
  have H := H1
  clear H1
  simp only [Option.some.injEq, Prod.mk.injEq] at H
  obtain ⟨rfl, rfl⟩ := H
  go_enter Try.func162, Try.ntmps162
  go_wp2_with (first | ((with_reducible refine gate_dst (N := 2) rfl ?_); refine box_event ?hg (N := 2) ?hd (cs := #[.int .i64 a0_0, .int .i64 a0_1]) (t := 30) ?hr ?_; (case hd => rfl); (case hg => rfl); (case hr => first | (go_simp; done) | (go_simp; rfl)); intro gb912 hg w24 hbox hb; have n0_ := aK (bSp (by repeat (first | (with_reducible first | exact HB.out | apply bAl | apply bDN | apply bD1) | exact HB.out)) hb); have n1_ := aK (hbox); have n2_ := aK ((by rw [hg]; exact (bSz (by repeat (first | (with_reducible first | exact HB.out | apply bAl | apply bDN | apply bD1) | exact HB.out))) : w.heap.size ≤ gb912)); have n3_ := n2_; clear HB; have HB := n0_; have BK912 := n1_; have GW912 := n2_; have GE912 := n3_; clear n0_ n1_ n2_ n3_; clear hb hbox hg; obtain ⟨hcz25_0, hcz25_1, hfz25_0, hfz25_1⟩ := cl2 BK912.out) | (go_at_call 128; (with_reducible refine (spec_CountGaps.calls a0_0 a0_1 t913 _ A3.out).mono ?_); rintro e w26 ⟨rfl, hb⟩; have n0_ := bkb BK912 hb (by intro z_; (with_reducible repeat (first | refine kDN ?_ _ | refine kD ?_ | refine kA ?_ _)); exact z_); have n1_ := aK (bSp (by repeat (first | (with_reducible first | exact HB.out | apply bAl | apply bDN | apply bD1 | refine bSt ?_ GE912.out) | exact HB.out)) hb); clear BK912; clear HB; have BK912 := n0_; have HB := n1_; clear n0_ n1_; (try clear hb); (try clear hb2); (try clear hk); (try clear hi)) | (go_at_call 109; (with_reducible refine (spec_l01In.calls a1 0 (wrap64 (t913 - 1)) false _ A4.out).mono ?_); rintro e w' ⟨rfl, ⟨nd, rfl⟩⟩; (try first | exact ⟨rfl, _, World.drewN_drewN _ _ _⟩ | exact ⟨rfl, _, Eq.trans (World.drewN_drewN _ _ _) (congrArg (World.drewN _) (Nat.add_assoc _ _ _))⟩)))
  repeat (go_quiet (first | ((with_reducible refine gate_dst (N := 2) rfl ?_); refine box_event ?hg (N := 2) ?hd (cs := #[.int .i64 a0_0, .int .i64 a0_1]) (t := 30) ?hr ?_; (case hd => rfl); (case hg => rfl); (case hr => first | (go_simp; done) | (go_simp; rfl)); intro gb912 hg w24 hbox hb; have n0_ := aK (bSp (by repeat (first | (with_reducible first | exact HB.out | apply bAl | apply bDN | apply bD1) | exact HB.out)) hb); have n1_ := aK (hbox); have n2_ := aK ((by rw [hg]; exact (bSz (by repeat (first | (with_reducible first | exact HB.out | apply bAl | apply bDN | apply bD1) | exact HB.out))) : w.heap.size ≤ gb912)); have n3_ := n2_; clear HB; have HB := n0_; have BK912 := n1_; have GW912 := n2_; have GE912 := n3_; clear n0_ n1_ n2_ n3_; clear hb hbox hg; obtain ⟨hcz25_0, hcz25_1, hfz25_0, hfz25_1⟩ := cl2 BK912.out) | (go_at_call 128; (with_reducible refine (spec_CountGaps.calls a0_0 a0_1 t913 _ A3.out).mono ?_); rintro e w26 ⟨rfl, hb⟩; have n0_ := bkb BK912 hb (by intro z_; (with_reducible repeat (first | refine kDN ?_ _ | refine kD ?_ | refine kA ?_ _)); exact z_); have n1_ := aK (bSp (by repeat (first | (with_reducible first | exact HB.out | apply bAl | apply bDN | apply bD1 | refine bSt ?_ GE912.out) | exact HB.out)) hb); clear BK912; clear HB; have BK912 := n0_; have HB := n1_; clear n0_ n1_; (try clear hb); (try clear hb2); (try clear hk); (try clear hi)) | (go_at_call 109; (with_reducible refine (spec_l01In.calls a1 0 (wrap64 (t913 - 1)) false _ A4.out).mono ?_); rintro e w' ⟨rfl, ⟨nd, rfl⟩⟩; (try first | exact ⟨rfl, _, World.drewN_drewN _ _ _⟩ | exact ⟨rfl, _, Eq.trans (World.drewN_drewN _ _ _) (congrArg (World.drewN _) (Nat.add_assoc _ _ _))⟩))); try go_wp2_with (first | ((with_reducible refine gate_dst (N := 2) rfl ?_); refine box_event ?hg (N := 2) ?hd (cs := #[.int .i64 a0_0, .int .i64 a0_1]) (t := 30) ?hr ?_; (case hd => rfl); (case hg => rfl); (case hr => first | (go_simp; done) | (go_simp; rfl)); intro gb912 hg w24 hbox hb; have n0_ := aK (bSp (by repeat (first | (with_reducible first | exact HB.out | apply bAl | apply bDN | apply bD1) | exact HB.out)) hb); have n1_ := aK (hbox); have n2_ := aK ((by rw [hg]; exact (bSz (by repeat (first | (with_reducible first | exact HB.out | apply bAl | apply bDN | apply bD1) | exact HB.out))) : w.heap.size ≤ gb912)); have n3_ := n2_; clear HB; have HB := n0_; have BK912 := n1_; have GW912 := n2_; have GE912 := n3_; clear n0_ n1_ n2_ n3_; clear hb hbox hg; obtain ⟨hcz25_0, hcz25_1, hfz25_0, hfz25_1⟩ := cl2 BK912.out) | (go_at_call 128; (with_reducible refine (spec_CountGaps.calls a0_0 a0_1 t913 _ A3.out).mono ?_); rintro e w26 ⟨rfl, hb⟩; have n0_ := bkb BK912 hb (by intro z_; (with_reducible repeat (first | refine kDN ?_ _ | refine kD ?_ | refine kA ?_ _)); exact z_); have n1_ := aK (bSp (by repeat (first | (with_reducible first | exact HB.out | apply bAl | apply bDN | apply bD1 | refine bSt ?_ GE912.out) | exact HB.out)) hb); clear BK912; clear HB; have BK912 := n0_; have HB := n1_; clear n0_ n1_; (try clear hb); (try clear hb2); (try clear hk); (try clear hi)) | (go_at_call 109; (with_reducible refine (spec_l01In.calls a1 0 (wrap64 (t913 - 1)) false _ A4.out).mono ?_); rintro e w' ⟨rfl, ⟨nd, rfl⟩⟩; (try first | exact ⟨rfl, _, World.drewN_drewN _ _ _⟩ | exact ⟨rfl, _, Eq.trans (World.drewN_drewN _ _ _) (congrArg (World.drewN _) (Nat.add_assoc _ _ _))⟩))))
  go_ret2
  exact ⟨by first | rfl | (rw [Option.some.inj (A6.out.symm.trans A15.out)]; done) | (rw [Option.some.inj (A6.out.symm.trans A15.out)]; rfl) | (simp [errW_none, errW_some] <;> rfl) | (simp [*, errW_none, errW_some] <;> rfl), by repeat (first | (with_reducible first | exact HB.out | apply bAl | apply bDN | apply bD1 | refine bSt ?_ GE912.out) | exact HB.out)⟩
end Go.Proofs.Ytimejdhglmajdaa.F
end

section
namespace Go.Proofs.Ytimejdhglmajdaa.F
open Go.RowKit Go.Proofs.YtimejdhglmajdaaW.PrintWords Go.Proofs.YtimejdhglmajdaaW.PrintLast Go.Proofs.YtimejdhglmajdaaW.PrintMore
set_option linter.unusedVariables false
set_option linter.unusedSimpArgs false
attribute [local go_sem] max2_int min2_int max_two min_two
def spec_l03Tree.T19 : Bool × List (List Nat × List Nat) := (true, [([], []), ([], []), ([0, 1], [0, 1]), ([2], [2]), ([], []), ([], []), ([4, 5], [4, 5]), ([6], [6]), ([3, 7], [3, 7])])
def spec_l03Tree.B19 : List Nat := [0, 0, 3, 7, 0, 0, 48, 112, 255]
theorem spec_l03Tree.tab19 : rtab .any (opsOf Try.f150 19) = spec_l03Tree.T19 := by kernel_rfl
theorem spec_l03Tree.bits19 : waitsOk spec_l03Tree.T19.2 spec_l03Tree.B19 = true := by kernel_rfl
set_option maxHeartbeats 8000000 in
set_option maxRecDepth 100000 in
theorem spec_l03Tree.calls (k : Nat) (g : Nat) (s0_0 : List Int) (s0_1 : Int) (s0_2 : Int) (a1_0 : Int) (a1_1 : Int) (r1 : Int) (r2 : Int) (r3 : Int) (r4 : Int) (r5 : Int) (w0 w : World) (hI : IsS151 w0 w g s0_0 s0_1 s0_2) (hB : Below w0.heap.size w0 w) (h : spec_l03Tree.f k s0_0 s0_1 s0_2 a1_0 a1_1 = some (r1, r2, r3, r4, r5)) :
  Calls Try.prog 150 #[.pointer (some ⟨g, 0, none⟩), .agg #[.int .i64 a1_0, .int .i64 a1_1]] w fun e w' => e = .returned (.agg #[.int .i64 r1, .int .i64 r2, .int .i64 r3]) ∧ IsS151 w0 w' g s0_0 r4 r5 ∧ Below w0.heap.size w0 w' ∧ KeepBut w w' g none := by
 have hu30 := Try.underlying30
 have hu32 := Try.underlying32
 have HI0 := aK hI
 have HK := aK (KeepBut.refl w g none)
 have HL := aK hB.size
 clear hI
 have HW0 := aK hB.size
 have HB := aK hB
 clear hB
 have H : ((spec_CountGaps.f a1_0 a1_1).bind fun t920 => ((spec_CountCells.f a1_0 a1_1).bind fun t921 => (if 0 ≤ t921 then (if (t921 : Int).toNat ≤ 35184372088832 then (spec_l03Tree.l0 k t920 (List.replicate (t921 : Int).toNat 0) 0 s0_0 s0_1 s0_2 a1_0 a1_1 a1_0 a1_1 0) else (none)) else (none)))) = some (r1, r2, r3, r4, r5) := h
 clear h
 replace H := Option.bind_eq_some_iff.mp H
 obtain ⟨t920, A30, H⟩ := H
 replace H : ((spec_CountCells.f a1_0 a1_1).bind fun t921 => (if 0 ≤ t921 then (if (t921 : Int).toNat ≤ 35184372088832 then (spec_l03Tree.l0 k t920 (List.replicate (t921 : Int).toNat 0) 0 s0_0 s0_1 s0_2 a1_0 a1_1 a1_0 a1_1 0) else (none)) else (none))) = some (r1, r2, r3, r4, r5) := H
 have A3 := aK A30
 clear A30
 replace H := Option.bind_eq_some_iff.mp H
 obtain ⟨t921, A40, H⟩ := H
 replace H : (if 0 ≤ t921 then (if (t921 : Int).toNat ≤ 35184372088832 then (spec_l03Tree.l0 k t920 (List.replicate (t921 : Int).toNat 0) 0 s0_0 s0_1 s0_2 a1_0 a1_1 a1_0 a1_1 0) else (none)) else (none)) = some (r1, r2, r3, r4, r5) := H
 have A4 := aK A40
 clear A40
 by_cases c5 : 0 ≤ t921
 ·rw [if_pos c5] at H
  have c5b0 := eq_true c5
  have c5b1 : decide (0 ≤ t921) = true := decide_eq_true c5
  clear c5
  by_cases c6 : (t921 : Int).toNat ≤ 35184372088832
  ·rw [if_pos c6] at H
   have c6b0 := eq_true c6
   have c6b1 : decide ((t921 : Int).toNat ≤ 35184372088832) = true := decide_eq_true c6
   clear c6
   obtain ⟨y922, hy922⟩ : ∃ y_ : List Int, y_ = (List.replicate (t921 : Int).toNat 0) := ⟨_, rfl⟩
   replace H : (spec_l03Tree.l0 k t920 y922 0 s0_0 s0_1 s0_2 a1_0 a1_1 a1_0 a1_1 0) = some (r1, r2, r3, r4, r5) := by first | (rw [hy922]; with_reducible exact H) | (have H2_ := (Option.bind_some _ _).symm.trans H; rw [hy922]; with_reducible exact H2_) | (have H2_ := (Option.bind_some _ _).symm.trans H; with_reducible exact H2_) | with_reducible exact H | (rw [hy922]; exact H) | exact H
   have Ny922 := aK hy922
   clear hy922
   have H' := aK H
   clear H
   go_enter Try.func150, Try.ntmps150
   go_wp2_with (first | ((with_reducible refine gate_dst (N := 3) rfl ?_); refine box_event ?hg (N := 3) ?hd (cs := #[.int .i64 a1_0, .int .i64 a1_1]) (t := 30) ?hr ?_; (case hd => rfl); (case hg => rfl); (case hr => first | (go_simp; done) | (go_simp; rfl)); intro gb917 hg w7 hbox hb; have n0_ := aK (IsS151.below (by repeat (first | (with_reducible first | exact HI0.out | apply IsS151.alloc | apply IsS151.drewN | apply IsS151.drew | apply IsS151.set_1 | apply IsS151.set_2) | exact HI0.out)) hb); have n1_ := aK (KeepBut.trans (by repeat (first | (with_reducible first | exact HK.out | apply KeepBut.set_ | apply keep_drewN | apply keep_drew | apply keep_alloc) | exact HK.out)) (KeepBut.of_below hb g none) (.inl rfl)); have n2_ := aK (bSp (by repeat (first | (with_reducible first | exact HB.out | apply bAl | apply bDN | apply bD1 | refine bSt ?_ (IsS151.ge HI0.out)) | exact HB.out)) hb); have n3_ := aK (hbox); have n4_ := aK ((by rw [hg]; exact (keep_size (w := w) (g := g) (row := none) (by repeat (first | (with_reducible first | exact HK.out | apply KeepBut.set_ | apply keep_drewN | apply keep_drew | apply keep_alloc) | exact HK.out))) : w.heap.size ≤ gb917)); have n5_ := aK ((Nat.le_trans HW0.out (by rw [hg]; exact (keep_size (w := w) (g := g) (row := none) (by repeat (first | (with_reducible first | exact HK.out | apply KeepBut.set_ | apply keep_drewN | apply keep_drew | apply keep_alloc) | exact HK.out))) : w.heap.size ≤ gb917) : w0.heap.size ≤ gb917)); have n6_ := aK ((by rw [hg]; exact Nat.ne_of_lt (IsS151.lt (show IsS151 w0 _ g s0_0 s0_1 s0_2 from by repeat (first | (with_reducible first | exact HI0.out | apply IsS151.alloc | apply IsS151.drewN | apply IsS151.drew | apply IsS151.set_1 | apply IsS151.set_2) | exact HI0.out))) : g ≠ gb917)); have n7_ := aK ((by rw [hg]; exact Nat.ne_of_gt (IsS151.lt (show IsS151 w0 _ g s0_0 s0_1 s0_2 from by repeat (first | (with_reducible first | exact HI0.out | apply IsS151.alloc | apply IsS151.drewN | apply IsS151.drew | apply IsS151.set_1 | apply IsS151.set_2) | exact HI0.out))) : gb917 ≠ g)); clear HI0; clear HK; clear HB; have HI0 := n0_; have HK := n1_; have HB := n2_; have BK917 := n3_; have GW917 := n4_; have GE917 := n5_; have NB0_917 := n6_; have NB917_0 := n7_; clear n0_ n1_ n2_ n3_ n4_ n5_ n6_ n7_; clear hb hbox hg) | ((with_reducible refine gate_dst (N := 4) rfl ?_); refine box_event ?hg (N := 4) ?hd (cs := #[.int .i64 0, .int .i64 0, .int .i64 0]) (t := 32) ?hr ?_; (case hd => rfl); (case hg => rfl); (case hr => first | (go_simp; done) | (go_simp; rfl)); intro gb918 hg w8 hbox hb; have n0_ := aK (IsS151.below (by repeat (first | (with_reducible first | exact HI0.out | apply IsS151.alloc | apply IsS151.drewN | apply IsS151.drew | apply IsS151.set_1 | apply IsS151.set_2 | refine IsS151.far ?_ NB0_917.out _) | exact HI0.out)) hb); have n1_ := bkb BK917 hb (by intro z_; (with_reducible repeat (first | refine kDN ?_ _ | refine kD ?_ | refine kA ?_ _)); exact z_); have n2_ := aK (KeepBut.trans (by repeat (first | (with_reducible first | exact HK.out | apply KeepBut.set_ | apply keep_drewN | apply keep_drew | apply keep_alloc | refine keep_far ?_ GW917.out _) | exact HK.out)) (KeepBut.of_below hb g none) (.inl rfl)); have n3_ := aK (bSp (by repeat (first | (with_reducible first | exact HB.out | apply bAl | apply bDN | apply bD1 | refine bSt ?_ (IsS151.ge HI0.out) | refine bSt ?_ GE917.out) | exact HB.out)) hb); have n4_ := aK (hbox); have n5_ := aK ((by rw [hg]; exact (keep_size (w := w) (g := g) (row := none) (by repeat (first | (with_reducible first | exact HK.out | apply KeepBut.set_ | apply keep_drewN | apply keep_drew | apply keep_alloc | refine keep_far ?_ GW917.out _) | exact HK.out))) : w.heap.size ≤ gb918)); have n6_ := aK ((Nat.le_trans HW0.out (by rw [hg]; exact (keep_size (w := w) (g := g) (row := none) (by repeat (first | (with_reducible first | exact HK.out | apply KeepBut.set_ | apply keep_drewN | apply keep_drew | apply keep_alloc | refine keep_far ?_ GW917.out _) | exact HK.out))) : w.heap.size ≤ gb918) : w0.heap.size ≤ gb918)); have n7_ := nbl BK917 hg (by intro z_; (with_reducible repeat (first | refine kDN ?_ _ | refine kD ?_ | refine kA ?_ _)); exact z_); have n8_ := nbs n7_; have n9_ := aK ((by rw [hg]; exact Nat.ne_of_lt (IsS151.lt (show IsS151 w0 _ g s0_0 s0_1 s0_2 from by repeat (first | (with_reducible first | exact HI0.out | apply IsS151.alloc | apply IsS151.drewN | apply IsS151.drew | apply IsS151.set_1 | apply IsS151.set_2 | refine IsS151.far ?_ NB0_917.out _) | exact HI0.out))) : g ≠ gb918)); have n10_ := aK ((by rw [hg]; exact Nat.ne_of_gt (IsS151.lt (show IsS151 w0 _ g s0_0 s0_1 s0_2 from by repeat (first | (with_reducible first | exact HI0.out | apply IsS151.alloc | apply IsS151.drewN | apply IsS151.drew | apply IsS151.set_1 | apply IsS151.set_2 | refine IsS151.far ?_ NB0_917.out _) | exact HI0.out))) : gb918 ≠ g)); clear HI0; clear BK917; clear HK; clear HB; have HI0 := n0_; have BK917 := n1_; have HK := n2_; have HB := n3_; have BK918 := n4_; have GW918 := n5_; have GE918 := n6_; have NB917_918 := n7_; have NB918_917 := n8_; have NB0_918 := n9_; have NB918_0 := n10_; clear n0_ n1_ n2_ n3_ n4_ n5_ n6_ n7_ n8_ n9_ n10_; clear hb hbox hg; have hnb9 := NB917_918.out; have hnc9 := NB918_917.out; have hnb10 := NB917_0.out; have hnc10 := NB0_917.out; obtain ⟨hcz11_0, hcz11_1, hfz11_0, hfz11_1⟩ := cl2 BK917.out) | ((with_reducible refine gate_dst (N := 5) rfl ?_); refine box_event ?hg (N := 5) ?hd (cs := #[.int .i64 0, .int .i64 0, .int .i64 0]) (t := 32) ?hr ?_; (case hd => rfl); (case hg => rfl); (case hr => first | (go_simp; done) | (go_simp; rfl)); intro gb919 hg w12 hbox hb; have n0_ := aK (IsS151.below (by repeat (first | (with_reducible first | exact HI0.out | apply IsS151.alloc | apply IsS151.drewN | apply IsS151.drew | apply IsS151.set_1 | apply IsS151.set_2 | refine IsS151.far ?_ NB0_917.out _ | refine IsS151.far ?_ NB0_918.out _) | exact HI0.out)) hb); have n1_ := bkb BK917 hb (by intro z_; (with_reducible repeat (first | refine kDN ?_ _ | refine kD ?_ | refine kA ?_ _)); exact z_); have n2_ := bkb BK918 hb (by intro z_; (with_reducible repeat (first | refine kDN ?_ _ | refine kD ?_ | refine kA ?_ _)); exact z_); have n3_ := aK (KeepBut.trans (by repeat (first | (with_reducible first | exact HK.out | apply KeepBut.set_ | apply keep_drewN | apply keep_drew | apply keep_alloc | refine keep_far ?_ GW917.out _ | refine keep_far ?_ GW918.out _) | exact HK.out)) (KeepBut.of_below hb g none) (.inl rfl)); have n4_ := aK (bSp (by repeat (first | (with_reducible first | exact HB.out | apply bAl | apply bDN | apply bD1 | refine bSt ?_ (IsS151.ge HI0.out) | refine bSt ?_ GE917.out | refine bSt ?_ GE918.out) | exact HB.out)) hb); have n5_ := aK (hbox); have n6_ := aK ((by rw [hg]; exact (keep_size (w := w) (g := g) (row := none) (by repeat (first | (with_reducible first | exact HK.out | apply KeepBut.set_ | apply keep_drewN | apply keep_drew | apply keep_alloc | refine keep_far ?_ GW917.out _ | refine keep_far ?_ GW918.out _) | exact HK.out))) : w.heap.size ≤ gb919)); have n7_ := aK ((Nat.le_trans HW0.out (by rw [hg]; exact (keep_size (w := w) (g := g) (row := none) (by repeat (first | (with_reducible first | exact HK.out | apply KeepBut.set_ | apply keep_drewN | apply keep_drew | apply keep_alloc | refine keep_far ?_ GW917.out _ | refine keep_far ?_ GW918.out _) | exact HK.out))) : w.heap.size ≤ gb919) : w0.heap.size ≤ gb919)); have n8_ := nbl BK917 hg (by intro z_; (with_reducible repeat (first | refine kDN ?_ _ | refine kD ?_ | refine kA ?_ _)); exact z_); have n9_ := nbs n8_; have n10_ := nbl BK918 hg (by intro z_; (with_reducible repeat (first | refine kDN ?_ _ | refine kD ?_ | refine kA ?_ _)); exact z_); have n11_ := nbs n10_; have n12_ := aK ((by rw [hg]; exact Nat.ne_of_lt (IsS151.lt (show IsS151 w0 _ g s0_0 s0_1 s0_2 from by repeat (first | (with_reducible first | exact HI0.out | apply IsS151.alloc | apply IsS151.drewN | apply IsS151.drew | apply IsS151.set_1 | apply IsS151.set_2 | refine IsS151.far ?_ NB0_917.out _ | refine IsS151.far ?_ NB0_918.out _) | exact HI0.out))) : g ≠ gb919)); have n13_ := aK ((by rw [hg]; exact Nat.ne_of_gt (IsS151.lt (show IsS151 w0 _ g s0_0 s0_1 s0_2 from by repeat (first | (with_reducible first | exact HI0.out | apply IsS151.alloc | apply IsS151.drewN | apply IsS151.drew | apply IsS151.set_1 | apply IsS151.set_2 | refine IsS151.far ?_ NB0_917.out _ | refine IsS151.far ?_ NB0_918.out _) | exact HI0.out))) : gb919 ≠ g)); clear HI0; clear BK917; clear BK918; clear HK; clear HB; have HI0 := n0_; have BK917 := n1_; have BK918 := n2_; have HK := n3_; have HB := n4_; have BK919 := n5_; have GW919 := n6_; have GE919 := n7_; have NB917_919 := n8_; have NB919_917 := n9_; have NB918_919 := n10_; have NB919_918 := n11_; have NB0_919 := n12_; have NB919_0 := n13_; clear n0_ n1_ n2_ n3_ n4_ n5_ n6_ n7_ n8_ n9_ n10_ n11_ n12_ n13_; clear hb hbox hg; have hnb13 := NB919_917.out; have hnc13 := NB917_919.out; have hnb14 := NB919_918.out; have hnc14 := NB918_919.out; have hnb15 := NB919_0.out; have hnc15 := NB0_919.out; obtain ⟨hcz16_0, hcz16_1, hcz16_2, hfz16_0, hfz16_1, hfz16_2⟩ := cl3 BK919.out; obtain ⟨hcz17_0, hcz17_1, hfz17_0, hfz17_1⟩ := cl2 BK917.out) | ((with_reducible refine gate_callee (f := 128) rfl ?_); refine goesL_ (some 20) rfl rfl Try.func128 (by kernel_rfl) rfl #[.agg #[.int .i64 a1_0, .int .i64 a1_1]] rfl (by (try simp only [List.map_toArray, List.map_cons, List.map_nil]); first | done | rfl | (simp only [List.length_drop, List.length_take]; rfl)) ?_; (with_reducible refine (spec_CountGaps.calls a1_0 a1_1 t920 _ A3.out).mono ?_); rintro e w18 ⟨rfl, hb⟩; refine ⟨_, rfl, ?_⟩; have n0_ := aK (IsS151.below (show IsS151 w0 (((w12.setCell ⟨gb919, 0, none⟩ (.int .i64 a1_0)).setCell ⟨gb919, 1, none⟩ (.int .i64 a1_1)).setCell ⟨gb919, 2, none⟩ (.int .i64 0)) g s0_0 s0_1 s0_2 from by repeat (first | (with_reducible first | exact HI0.out | apply IsS151.alloc | apply IsS151.drewN | apply IsS151.drew | apply IsS151.set_1 | apply IsS151.set_2 | refine IsS151.far ?_ NB0_917.out _ | refine IsS151.far ?_ NB0_918.out _ | refine IsS151.far ?_ NB0_919.out _) | exact HI0.out)) hb); have n1_ := bkb BK917 hb (by intro z_; (with_reducible repeat (first | refine kDN ?_ _ | refine kD ?_ | refine kA ?_ _)); refine blk_far ?_ NB917_919.out _; (with_reducible repeat (first | refine kDN ?_ _ | refine kD ?_ | refine kA ?_ _)); refine blk_far ?_ NB917_919.out _; (with_reducible repeat (first | refine kDN ?_ _ | refine kD ?_ | refine kA ?_ _)); refine blk_far ?_ NB917_919.out _; (with_reducible repeat (first | refine kDN ?_ _ | refine kD ?_ | refine kA ?_ _)); exact z_); have n2_ := bkb BK918 hb (by intro z_; (with_reducible repeat (first | refine kDN ?_ _ | refine kD ?_ | refine kA ?_ _)); refine blk_far ?_ NB918_919.out _; (with_reducible repeat (first | refine kDN ?_ _ | refine kD ?_ | refine kA ?_ _)); refine blk_far ?_ NB918_919.out _; (with_reducible repeat (first | refine kDN ?_ _ | refine kD ?_ | refine kA ?_ _)); refine blk_far ?_ NB918_919.out _; (with_reducible repeat (first | refine kDN ?_ _ | refine kD ?_ | refine kA ?_ _)); exact z_); have n3_ := aK (blk_below (g := gb919) (o := .cells #[.int .i64 a1_0, .int .i64 a1_1, .int .i64 0] 32 (0, 0)) (by (with_reducible repeat (first | refine kDN ?_ _ | refine kD ?_ | refine kA ?_ _)); refine blk_put (cs := #[.int .i64 a1_0, .int .i64 a1_1, .int .i64 0]) ?_ 2 _ rfl; (with_reducible repeat (first | refine kDN ?_ _ | refine kD ?_ | refine kA ?_ _)); refine blk_put (cs := #[.int .i64 a1_0, .int .i64 0, .int .i64 0]) ?_ 1 _ rfl; (with_reducible repeat (first | refine kDN ?_ _ | refine kD ?_ | refine kA ?_ _)); refine blk_put (cs := #[.int .i64 0, .int .i64 0, .int .i64 0]) ?_ 0 _ rfl; (with_reducible repeat (first | refine kDN ?_ _ | refine kD ?_ | refine kA ?_ _)); exact BK919.out) hb); have n4_ := aK (KeepBut.trans (by repeat (first | (with_reducible first | exact HK.out | apply KeepBut.set_ | apply keep_drewN | apply keep_drew | apply keep_alloc | refine keep_far ?_ GW917.out _ | refine keep_far ?_ GW918.out _ | refine keep_far ?_ GW919.out _) | exact HK.out)) (KeepBut.of_below hb g none) (.inl rfl)); have n5_ := aK (bSp (by repeat (first | (with_reducible first | exact HB.out | apply bAl | apply bDN | apply bD1 | refine bSt ?_ (IsS151.ge HI0.out) | refine bSt ?_ GE917.out | refine bSt ?_ GE918.out | refine bSt ?_ GE919.out) | exact HB.out)) hb); clear HI0; clear BK917; clear BK918; clear BK919; clear HK; clear HB; have HI0 := n0_; have BK917 := n1_; have BK918 := n2_; have BK919 := n3_; have HK := n4_; have HB := n5_; clear n0_ n1_ n2_ n3_ n4_ n5_; (try clear hb); (try clear hb2); (try clear hk); (try clear hi); obtain ⟨hcz19_0, hcz19_1, hfz19_0, hfz19_1⟩ := cl2 BK917.out) | ((with_reducible refine gate_callee (f := 92) rfl ?_); refine goesL_ (some 22) rfl rfl Try.func92 (by kernel_rfl) rfl #[.agg #[.int .i64 a1_0, .int .i64 a1_1]] rfl (by (try simp only [List.map_toArray, List.map_cons, List.map_nil]); first | done | rfl | (simp only [List.length_drop, List.length_take]; rfl)) ?_; (with_reducible refine (spec_CountCells.calls a1_0 a1_1 t921 _ A4.out).mono ?_); rintro e w20 ⟨rfl, hb⟩; refine ⟨_, rfl, ?_⟩; have n0_ := aK (IsS151.below (by repeat (first | (with_reducible first | exact HI0.out | apply IsS151.alloc | apply IsS151.drewN | apply IsS151.drew | apply IsS151.set_1 | apply IsS151.set_2 | refine IsS151.far ?_ NB0_917.out _ | refine IsS151.far ?_ NB0_918.out _ | refine IsS151.far ?_ NB0_919.out _) | exact HI0.out)) hb); have n1_ := bkb BK917 hb (by intro z_; (with_reducible repeat (first | refine kDN ?_ _ | refine kD ?_ | refine kA ?_ _)); exact z_); have n2_ := bkb BK918 hb (by intro z_; (with_reducible repeat (first | refine kDN ?_ _ | refine kD ?_ | refine kA ?_ _)); exact z_); have n3_ := bkb BK919 hb (by intro z_; (with_reducible repeat (first | refine kDN ?_ _ | refine kD ?_ | refine kA ?_ _)); exact z_); have n4_ := aK (KeepBut.trans (by repeat (first | (with_reducible first | exact HK.out | apply KeepBut.set_ | apply keep_drewN | apply keep_drew | apply keep_alloc | refine keep_far ?_ GW917.out _ | refine keep_far ?_ GW918.out _ | refine keep_far ?_ GW919.out _) | exact HK.out)) (KeepBut.of_below hb g none) (.inl rfl)); have n5_ := aK (bSp (by repeat (first | (with_reducible first | exact HB.out | apply bAl | apply bDN | apply bD1 | refine bSt ?_ (IsS151.ge HI0.out) | refine bSt ?_ GE917.out | refine bSt ?_ GE918.out | refine bSt ?_ GE919.out) | exact HB.out)) hb); clear HI0; clear BK917; clear BK918; clear BK919; clear HK; clear HB; have HI0 := n0_; have BK917 := n1_; have BK918 := n2_; have BK919 := n3_; have HK := n4_; have HB := n5_; clear n0_ n1_ n2_ n3_ n4_ n5_; (try clear hb); (try clear hb2); (try clear hk); (try clear hi)) | ((with_reducible refine gate_dst (N := 23) rfl ?_); refine Kd.R_make (Kd.int .i64) _ 3 rfl (N := 23) rfl 28 _ _ rfl t921 rfl rfl Try.underlying28 (.int .i64 0) 8 info3 rfl (by decide) (by omega) 0 (ok := fun _ => True) (okp := fun _ => True) rfl (fun _ hk => hk) trivial (of_decide_eq_true (by first | (with_reducible assumption) | assumption)) (Nat.le_trans (Nat.mul_le_mul_right _ (of_decide_eq_true (by first | (with_reducible assumption) | assumption) : t921.toNat ≤ 35184372088832)) (by omega)) (Below.refl _ _) (Nat.le_refl _) ?_; intro v923 w21 ho22 hb hg_ hnew_; clear hg_ hnew_; (first | rw [← Ny922.out] at ho22 | (simp only [Int.reduceToNat] at ho22; rw [← Ny922.out] at ho22)); have n0_ := aK (Kd.R_lower ho22 (keep_size (w := w) (g := g) (row := none) (by repeat (first | (with_reducible first | exact HK.out | apply KeepBut.set_ | apply keep_drewN | apply keep_drew | apply keep_alloc | refine keep_far ?_ GW917.out _ | refine keep_far ?_ GW918.out _ | refine keep_far ?_ GW919.out _) | exact HK.out)))); have n1_ := aK (IsS151.below (by repeat (first | (with_reducible first | exact HI0.out | apply IsS151.alloc | apply IsS151.drewN | apply IsS151.drew | apply IsS151.set_1 | apply IsS151.set_2 | refine IsS151.far ?_ NB0_917.out _ | refine IsS151.far ?_ NB0_918.out _ | refine IsS151.far ?_ NB0_919.out _) | exact HI0.out)) hb); have n2_ := bkb BK917 hb (by intro z_; (with_reducible repeat (first | refine kDN ?_ _ | refine kD ?_ | refine kA ?_ _)); exact z_); have n3_ := bkb BK918 hb (by intro z_; (with_reducible repeat (first | refine kDN ?_ _ | refine kD ?_ | refine kA ?_ _)); exact z_); have n4_ := bkb BK919 hb (by intro z_; (with_reducible repeat (first | refine kDN ?_ _ | refine kD ?_ | refine kA ?_ _)); exact z_); have n5_ := aK (KeepBut.trans (by repeat (first | (with_reducible first | exact HK.out | apply KeepBut.set_ | apply keep_drewN | apply keep_drew | apply keep_alloc | refine keep_far ?_ GW917.out _ | refine keep_far ?_ GW918.out _ | refine keep_far ?_ GW919.out _) | exact HK.out)) (KeepBut.of_below hb g none) (.inl rfl)); have n6_ := aK (bSp (by repeat (first | (with_reducible first | exact HB.out | apply bAl | apply bDN | apply bD1 | refine bSt ?_ (IsS151.ge HI0.out) | refine bSt ?_ GE917.out | refine bSt ?_ GE918.out | refine bSt ?_ GE919.out) | exact HB.out)) hb); clear HI0; clear BK917; clear BK918; clear BK919; clear HK; clear HB; have HO924 := n0_; have HI0 := n1_; have BK917 := n2_; have BK918 := n3_; have BK919 := n4_; have HK := n5_; have HB := n6_; clear n0_ n1_ n2_ n3_ n4_ n5_ n6_; clear hb ho22))
   go_loopg [8] k (fun kq v8 w' => ∃ (x7_1 : List Int) (x8_1 : Int), v8 = .int .i64 x8_1 ∧ Aside0 (spec_l03Tree.l0 kq t920 x7_1 x8_1 s0_0 s0_1 s0_2 a1_0 a1_1 a1_0 a1_1 0 = some (r1, r2, r3, r4, r5)) ∧ Aside0 (kq ≤ k) ∧ Aside0 (Kd.R (Kd.int .i64) 3 w' w.heap.size (fun _ => True) v923 x7_1) ∧ Aside0 (w'.heap[gb917]? = some (.cells #[.int .i64 a1_0, .int .i64 a1_1] 30 (0, 0))) ∧ Aside0 (w'.heap[gb918]? = some (.cells #[.int .i64 0, .int .i64 0, .int .i64 0] 32 (0, 0))) ∧ Aside0 (w'.heap[gb919]? = some (.cells #[.int .i64 a1_0, .int .i64 a1_1, .int .i64 0] 32 (0, 0))) ∧ Aside0 (IsS151 w0 w' g s0_0 s0_1 s0_2) ∧ Aside0 (KeepBut w w' g none) ∧ Aside0 (Below w0.heap.size w0 w'))
   case atStart => exact ⟨(y922), (0), (by first | rfl | (simp; done) | (simp [*]; done)), H', ⟨Nat.le_refl _⟩, ⟨by (with_reducible repeat (first | apply Kd.R_alloc | apply Kd.R_drewN | apply Kd.R_drew)); exact HO924.out⟩, ⟨by (with_reducible repeat (first | refine kDN ?_ _ | refine kD ?_ | refine kA ?_ _)); exact BK917.out⟩, ⟨by (with_reducible repeat (first | refine kDN ?_ _ | refine kD ?_ | refine kA ?_ _)); exact BK918.out⟩, ⟨by (with_reducible repeat (first | refine kDN ?_ _ | refine kD ?_ | refine kA ?_ _)); exact BK919.out⟩, ⟨by repeat (first | (with_reducible first | exact HI0.out | apply IsS151.alloc | apply IsS151.drewN | apply IsS151.drew | apply IsS151.set_1 | apply IsS151.set_2 | refine IsS151.far ?_ NB0_917.out _ | refine IsS151.far ?_ NB0_918.out _ | refine IsS151.far ?_ NB0_919.out _) | exact HI0.out)⟩, ⟨by repeat (first | (with_reducible first | exact HK.out | apply KeepBut.set_ | apply keep_drewN | apply keep_drew | apply keep_alloc | refine keep_far ?_ GW917.out _ | refine keep_far ?_ GW918.out _ | refine keep_far ?_ GW919.out _) | exact HK.out)⟩, ⟨by repeat (first | (with_reducible first | exact HB.out | apply bAl | apply bDN | apply bD1 | refine bSt ?_ (IsS151.ge HI0.out) | refine bSt ?_ GE917.out | refine bSt ?_ GE918.out | refine bSt ?_ GE919.out) | exact HB.out)⟩⟩
   case round =>
    clear H'
    try clear c1
    try clear p2
    try clear c5
    try clear c5b0
    try clear c5b1
    try clear c6
    try clear c6b0
    try clear c6b1
    try clear c9
    try clear c10
    try clear c12
    try clear c13
    try clear c14
    try clear c15
    try clear hcz11_0
    try clear hcz11_1
    try clear hcz16_0
    try clear hcz16_1
    try clear hcz16_2
    try clear hcz17_0
    try clear hcz17_1
    try clear hcz19_0
    try clear hcz19_1
    try clear hfz11_0
    try clear hfz11_1
    try clear hfz16_0
    try clear hfz16_1
    try clear hfz16_2
    try clear hfz17_0
    try clear hfz17_1
    try clear hfz19_0
    try clear hfz19_1
    obtain ⟨x7_1, x8_1, rfl, HA, HK1, HO_7, BK917, BK918, BK919, HI0, HK, HB⟩ := hrel
    cases gk with
    | zero => exact absurd HA.out (by simp [spec_l03Tree.l0])
    | succ k1 =>
     have H := HA.out
     clear HA
     simp only [spec_l03Tree.l0] at H
     by_cases c23 : x8_1 < (x7_1.length : Int)
     ·rw [if_pos c23] at H
      have c23b0 : decide (x8_1 < (x7_1.length : Int)) = true := decide_eq_true c23
      clear c23
      by_cases c24 : 0 ≤ x8_1
      ·rw [if_pos c24] at H
       have c24b0 : decide (0 ≤ x8_1) = true := decide_eq_true c24
       clear c24
       obtain ⟨y925, hy925⟩ : ∃ y_ : List Int, y_ = (x7_1.set (x8_1 : Int).toNat x8_1) := ⟨_, rfl⟩
       replace H : (spec_l03Tree.l0 k1 t920 y925 (wrap64 (x8_1 + 1)) s0_0 s0_1 s0_2 a1_0 a1_1 a1_0 a1_1 0) = some (r1, r2, r3, r4, r5) := by first | (rw [hy925]; with_reducible exact H) | (have H2_ := (Option.bind_some _ _).symm.trans H; rw [hy925]; with_reducible exact H2_) | (have H2_ := (Option.bind_some _ _).symm.trans H; with_reducible exact H2_) | with_reducible exact H | (rw [hy925]; exact H) | exact H
       have Ny925 := aK hy925
       clear hy925
       have H' := aK H
       clear H
       obtain ⟨Ao26, co26, eo26⟩ := Kd.R_slice HO_7.out
       subst eo26
       have p25 : 0 ≤ (x8_1 : Int) := of_decide_eq_true (by first | (with_reducible assumption) | assumption)
       have q25 : (x8_1 : Int) < ((x7_1.length : Int) : Int) := of_decide_eq_true (by first | (with_reducible assumption) | assumption)
       obtain ⟨go25, co25, eo25, gb25, gl25, cl25, HG25⟩ := Kd.R_form HO_7.out (by omega)
       (first | cases eo25 | (injection eo25 with ea_ en_ ec_; (first | subst ea_ | (injection ea_ with ea_; subst ea_)); subst ec_; clear en_))
       have GB25 := aK gb25
       have GG25 := aK HG25
       clear gb25 gl25 HG25
       obtain ⟨hx25_0, hf25_0⟩ := Kd.R_celln 0 HO_7.out (x8_1 : Int) p25 q25
       replace p25 := eq_true p25
       replace q25 := eq_true q25
       have HP27 := Kd.R_putg HO_7.out (x8_1 : Int) x8_1
       go_wp2_with (first | ((with_reducible refine gate_store (t := 3) (p := 33) rfl ?_); refine store_event (t := 3) (p := 33) (v := ?vo_w28) (w1 := (wr.setCell ⟨go25, (x8_1 : Int).toNat, none⟩ (.int .i64 x8_1))) ?hg ?ho ?hn ?hr ?_; (case ho => rfl); (case hg => rfl); (case hn => rfl); (case hr => first | (go_simp; done) | (go_simp; rfl)); intro w28 hw; have hg : wr.grownBy w28 (some go25) := (by rw [hw]; exact HP27.2); have hp_ : Kd.R (Kd.int .i64) 3 w28 w.heap.size (fun _ => True) (.slice (some ⟨go25, 0, none⟩) x7_1.length co26) y925 := (by rw [hw, Ny925.out]; exact HP27.1); clear HP27; have n0_ := aK (hp_); have n1_ := aK (blk_grown (g := gb917) (o := .cells #[.int .i64 a1_0, .int .i64 a1_1] 30 (0, 0)) (by (with_reducible repeat (first | refine kDN ?_ _ | refine kD ?_ | refine kA ?_ _)); exact BK917.out) hg (Kd.R_ne HO_7.out BK917.out (by decide))); have n2_ := aK (blk_grown (g := gb918) (o := .cells #[.int .i64 0, .int .i64 0, .int .i64 0] 32 (0, 0)) (by (with_reducible repeat (first | refine kDN ?_ _ | refine kD ?_ | refine kA ?_ _)); exact BK918.out) hg (Kd.R_ne HO_7.out BK918.out (by decide))); have n3_ := aK (blk_grown (g := gb919) (o := .cells #[.int .i64 a1_0, .int .i64 a1_1, .int .i64 0] 32 (0, 0)) (by (with_reducible repeat (first | refine kDN ?_ _ | refine kD ?_ | refine kA ?_ _)); exact BK919.out) hg (Kd.R_ne HO_7.out BK919.out (by decide))); have n4_ := aK (IsS151.grown (show IsS151 w0 _ g s0_0 s0_1 s0_2 from by repeat (first | (with_reducible first | exact HI0.out | apply IsS151.alloc | apply IsS151.drewN | apply IsS151.drew | apply IsS151.set_1 | apply IsS151.set_2 | refine IsS151.far ?_ NB0_917.out _ | refine IsS151.far ?_ NB0_918.out _ | refine IsS151.far ?_ NB0_919.out _) | exact HI0.out)) hg (IsS151.own_ne HI0.out HO_7.out (by decide))); have n5_ := aK ((by rw [hw]; exact bSt (HB.out) (Nat.le_trans HL.out GB25.out) : Below w0.heap.size w0 w28)); have n6_ := aK (KeepBut.trans (by repeat (first | (with_reducible first | exact HK.out | apply KeepBut.set_ | apply keep_drewN | apply keep_drew | apply keep_alloc | refine keep_far ?_ GW917.out _ | refine keep_far ?_ GW918.out _ | refine keep_far ?_ GW919.out _) | exact HK.out)) (KeepBut.of_grown hg g) (Kd.R_base2 HO_7.out)); clear HO_7; clear BK917; clear BK918; clear BK919; clear HI0; clear HB; clear HK; have HO_7 := n0_; have BK917 := n1_; have BK918 := n2_; have BK919 := n3_; have HI0 := n4_; have HB := n5_; have HK := n6_; clear n0_ n1_ n2_ n3_ n4_ n5_ n6_; clear hg hw hp_))
       go_roundg k1
       case measure => have := HK1.out; omega
       case rel => exact ⟨(y925), (wrap64 (x8_1 + 1)), (by first | rfl | (simp; done) | (simp [*]; done)), H', ⟨by have := HK1.out; omega⟩, ⟨by (with_reducible repeat (first | apply Kd.R_alloc | apply Kd.R_drewN | apply Kd.R_drew)); exact HO_7.out⟩, ⟨by (with_reducible repeat (first | refine kDN ?_ _ | refine kD ?_ | refine kA ?_ _)); exact BK917.out⟩, ⟨by (with_reducible repeat (first | refine kDN ?_ _ | refine kD ?_ | refine kA ?_ _)); exact BK918.out⟩, ⟨by (with_reducible repeat (first | refine kDN ?_ _ | refine kD ?_ | refine kA ?_ _)); exact BK919.out⟩, ⟨by repeat (first | (with_reducible first | exact HI0.out | apply IsS151.alloc | apply IsS151.drewN | apply IsS151.drew | apply IsS151.set_1 | apply IsS151.set_2 | refine IsS151.far ?_ NB0_917.out _ | refine IsS151.far ?_ NB0_918.out _ | refine IsS151.far ?_ NB0_919.out _) | exact HI0.out)⟩, ⟨by repeat (first | (with_reducible first | exact HK.out | apply KeepBut.set_ | apply keep_drewN | apply keep_drew | apply keep_alloc | refine keep_far ?_ GW917.out _ | refine keep_far ?_ GW918.out _ | refine keep_far ?_ GW919.out _) | exact HK.out)⟩, ⟨by repeat (first | (with_reducible first | exact HB.out | apply bAl | apply bDN | apply bD1 | refine bSt ?_ (IsS151.ge HI0.out) | refine bSt ?_ GE917.out | refine bSt ?_ GE918.out | refine bSt ?_ GE919.out) | exact HB.out)⟩⟩
      ·rw [if_neg c24] at H
       exact absurd H (by simp)
     ·rw [if_neg c23] at H
      have c23b0 : decide (x8_1 < (x7_1.length : Int)) = false := decide_eq_false c23
      clear c23
      by_cases c29 : t920 = 0
      ·rw [if_pos c29] at H
       have c29b0 : (t920 == 0) = true := beq_iff_eq.mpr c29
       have c29b1 : (t920 != 0) = false := bne_eq_false_iff_eq.mpr c29
       clear c29
       simp only [Option.some.injEq, Prod.mk.injEq] at H
       obtain ⟨rfl, rfl, rfl, rfl, rfl⟩ := H
       obtain ⟨Ao30, co30, eo30⟩ := Kd.R_slice HO_7.out
       subst eo30
       have hnb31 := NB919_917.out
       have hnc31 := NB917_919.out
       have hnb32 := NB919_918.out
       have hnc32 := NB918_919.out
       have hnb33 := NB919_0.out
       have hnc33 := NB0_919.out
       obtain ⟨hcz34_0, hcz34_1, hcz34_2, hfz34_0, hfz34_1, hfz34_2⟩ := cl3 BK919.out
       have hnb35 := NB918_917.out
       have hnc35 := NB917_918.out
       have hnb36 := NB918_0.out
       have hnc36 := NB0_918.out
       obtain ⟨hcz37_0, hcz37_1, hcz37_2, hfz37_0, hfz37_1, hfz37_2⟩ := cl3 BK918.out
       go_wp2
       refine bodyPost_ret (results_cell_row rfl _ _ gb918 32 #[.int .i64 a1_0, .int .i64 a1_1, .int .i64 0] (0, 0) _ rfl (by (with_reducible repeat (first | refine kDN ?_ _ | refine kD ?_ | refine kA ?_ _)); refine blk_put (cs := #[.int .i64 a1_0, .int .i64 a1_1, .int .i64 0]) ?_ 2 _ rfl; (with_reducible repeat (first | refine kDN ?_ _ | refine kD ?_ | refine kA ?_ _)); refine blk_put (cs := #[.int .i64 a1_0, .int .i64 0, .int .i64 0]) ?_ 1 _ rfl; (with_reducible repeat (first | refine kDN ?_ _ | refine kD ?_ | refine kA ?_ _)); refine blk_put (cs := #[.int .i64 0, .int .i64 0, .int .i64 0]) ?_ 0 _ rfl; (with_reducible repeat (first | refine kDN ?_ _ | refine kD ?_ | refine kA ?_ _)); exact BK918.out) Try.underlying32 rfl (by kernel_rfl)) rfl ?_
       exact ⟨by first | rfl | (simp [errW_none, errW_some] <;> rfl) | (simp [*, errW_none, errW_some] <;> rfl), by repeat (first | (with_reducible first | exact HI0.out | apply IsS151.alloc | apply IsS151.drewN | apply IsS151.drew | apply IsS151.set_1 | apply IsS151.set_2 | refine IsS151.far ?_ NB0_917.out _ | refine IsS151.far ?_ NB0_918.out _ | refine IsS151.far ?_ NB0_919.out _) | exact HI0.out), by repeat (first | (with_reducible first | exact HB.out | apply bAl | apply bDN | apply bD1 | refine bSt ?_ (IsS151.ge HI0.out) | refine bSt ?_ GE917.out | refine bSt ?_ GE918.out | refine bSt ?_ GE919.out) | exact HB.out), by repeat (first | (with_reducible first | exact HK.out | apply KeepBut.set_ | apply keep_drewN | apply keep_drew | apply keep_alloc | refine keep_far ?_ GW917.out _ | refine keep_far ?_ GW918.out _ | refine keep_far ?_ GW919.out _) | exact HK.out)⟩
      ·rw [if_neg c29] at H
       have c29b0 : (t920 == 0) = false := beq_eq_false_iff_ne.mpr c29
       have c29b1 : (t920 != 0) = true := bne_iff_ne.mpr c29
       replace H := Option.bind_eq_some_iff.mp H
       obtain ⟨⟨t926, t927, t928⟩, A380, H⟩ := H
       replace H : ((spec_l01Below.f s0_0 t927 t928 t920).bind fun bt929 => (spec_l03Tree.l1 k1 t920 x7_1 t926 (wrap64 (1 + bt929.1)) s0_0 bt929.2.1 bt929.2.2 a1_0 a1_1 a1_0 a1_1 0)) = some (r1, r2, r3, r4, r5) := H
       have A38 := aK A380
       clear A380
       replace H := Option.bind_eq_some_iff.mp H
       obtain ⟨⟨t929, t930, t931⟩, A390, H⟩ := H
       replace H : (spec_l03Tree.l1 k1 t920 x7_1 t926 (wrap64 (1 + t929)) s0_0 t930 t931 a1_0 a1_1 a1_0 a1_1 0) = some (r1, r2, r3, r4, r5) := H
       have A39 := aK A390
       clear A390
       have H' := aK H
       clear H
       obtain ⟨Ao40, co40, eo40⟩ := Kd.R_slice HO_7.out
       subst eo40
       go_wp2_with (first | ((with_reducible refine gate_callee (f := 151) rfl ?_); refine goesL_ (some 39) rfl rfl Try.func151 (by kernel_rfl) rfl #[.pointer (some ⟨g, 0, none⟩), .int .i64 t920] rfl (by (try simp only [List.map_toArray, List.map_cons, List.map_nil]); first | done | rfl | (simp only [List.length_drop, List.length_take]; rfl)) ?_; (with_reducible refine (spec_l01Below.calls g s0_0 s0_1 s0_2 t920 t926 t927 t928 w0 _ ?side1 ?side2 A38.out).mono ?_); (case side1 => repeat (first | (with_reducible first | exact HI0.out | apply IsS151.alloc | apply IsS151.drewN | apply IsS151.drew | apply IsS151.set_1 | apply IsS151.set_2 | refine IsS151.far ?_ NB0_917.out _ | refine IsS151.far ?_ NB0_918.out _ | refine IsS151.far ?_ NB0_919.out _) | exact HI0.out)); (case side2 => repeat (first | (with_reducible first | exact HB.out | apply bAl | apply bDN | apply bD1 | refine bSt ?_ (IsS151.ge HI0.out) | refine bSt ?_ GE917.out | refine bSt ?_ GE918.out | refine bSt ?_ GE919.out) | exact HB.out)); rintro e w41 ⟨rfl, hi, hb, hk⟩; refine ⟨_, rfl, ?_⟩; have n0_ := aK (Kd.R_mono (Kd.R_keep (IsS151.apart (show IsS151 w0 _ g s0_0 s0_1 s0_2 from by repeat (first | (with_reducible first | exact HI0.out | apply IsS151.alloc | apply IsS151.drewN | apply IsS151.drew | apply IsS151.set_1 | apply IsS151.set_2 | refine IsS151.far ?_ NB0_917.out _ | refine IsS151.far ?_ NB0_918.out _ | refine IsS151.far ?_ NB0_919.out _) | exact HI0.out)) (by (with_reducible repeat (first | apply Kd.R_alloc | apply Kd.R_drewN | apply Kd.R_drew)); exact HO_7.out) (by decide)) hk (fun _ h => h.2)) (fun _ h => h.1)); have n1_ := aK (KeepBut.blk hk (g' := gb917) (o := .cells #[.int .i64 a1_0, .int .i64 a1_1] 30 (0, 0)) (by (with_reducible repeat (first | refine kDN ?_ _ | refine kD ?_ | refine kA ?_ _)); exact BK917.out) NB917_0.out (by simp)); have n2_ := aK (KeepBut.blk hk (g' := gb918) (o := .cells #[.int .i64 0, .int .i64 0, .int .i64 0] 32 (0, 0)) (by (with_reducible repeat (first | refine kDN ?_ _ | refine kD ?_ | refine kA ?_ _)); exact BK918.out) NB918_0.out (by simp)); have n3_ := aK (KeepBut.blk hk (g' := gb919) (o := .cells #[.int .i64 a1_0, .int .i64 a1_1, .int .i64 0] 32 (0, 0)) (by (with_reducible repeat (first | refine kDN ?_ _ | refine kD ?_ | refine kA ?_ _)); exact BK919.out) NB919_0.out (by simp)); have n4_ := aK (KeepBut.trans (by repeat (first | (with_reducible first | exact HK.out | apply KeepBut.set_ | apply keep_drewN | apply keep_drew | apply keep_alloc | refine keep_far ?_ GW917.out _ | refine keep_far ?_ GW918.out _ | refine keep_far ?_ GW919.out _) | exact HK.out)) hk (.inl rfl)); have n5_ := aK (hb); have n6_ := aK (hi); clear HO_7; clear BK917; clear BK918; clear BK919; clear HK; clear HB; clear HI0; have HO_7 := n0_; have BK917 := n1_; have BK918 := n2_; have BK919 := n3_; have HK := n4_; have HB := n5_; have HI0 := n6_; clear n0_ n1_ n2_ n3_ n4_ n5_ n6_; (try clear hb); (try clear hb2); (try clear hk); (try clear hi)) | ((with_reducible refine gate_callee (f := 151) rfl ?_); refine goesL_ (some 42) rfl rfl Try.func151 (by kernel_rfl) rfl #[.pointer (some ⟨g, 0, none⟩), .int .i64 t920] rfl (by (try simp only [List.map_toArray, List.map_cons, List.map_nil]); first | done | rfl | (simp only [List.length_drop, List.length_take]; rfl)) ?_; (with_reducible refine (spec_l01Below.calls g s0_0 t927 t928 t920 t929 t930 t931 w0 _ ?side1 ?side2 A39.out).mono ?_); (case side1 => repeat (first | (with_reducible first | exact HI0.out | apply IsS151.alloc | apply IsS151.drewN | apply IsS151.drew | apply IsS151.set_1 | apply IsS151.set_2 | refine IsS151.far ?_ NB0_917.out _ | refine IsS151.far ?_ NB0_918.out _ | refine IsS151.far ?_ NB0_919.out _) | exact HI0.out)); (case side2 => repeat (first | (with_reducible first | exact HB.out | apply bAl | apply bDN | apply bD1 | refine bSt ?_ (IsS151.ge HI0.out) | refine bSt ?_ GE917.out | refine bSt ?_ GE918.out | refine bSt ?_ GE919.out) | exact HB.out)); rintro e w42 ⟨rfl, hi, hb, hk⟩; refine ⟨_, rfl, ?_⟩; have n0_ := aK (Kd.R_mono (Kd.R_keep (IsS151.apart (show IsS151 w0 _ g s0_0 t927 t928 from by repeat (first | (with_reducible first | exact HI0.out | apply IsS151.alloc | apply IsS151.drewN | apply IsS151.drew | apply IsS151.set_1 | apply IsS151.set_2 | refine IsS151.far ?_ NB0_917.out _ | refine IsS151.far ?_ NB0_918.out _ | refine IsS151.far ?_ NB0_919.out _) | exact HI0.out)) (by (with_reducible repeat (first | apply Kd.R_alloc | apply Kd.R_drewN | apply Kd.R_drew)); exact HO_7.out) (by decide)) hk (fun _ h => h.2)) (fun _ h => h.1)); have n1_ := aK (KeepBut.blk hk (g' := gb917) (o := .cells #[.int .i64 a1_0, .int .i64 a1_1] 30 (0, 0)) (by (with_reducible repeat (first | refine kDN ?_ _ | refine kD ?_ | refine kA ?_ _)); exact BK917.out) NB917_0.out (by simp)); have n2_ := aK (KeepBut.blk hk (g' := gb918) (o := .cells #[.int .i64 0, .int .i64 0, .int .i64 0] 32 (0, 0)) (by (with_reducible repeat (first | refine kDN ?_ _ | refine kD ?_ | refine kA ?_ _)); exact BK918.out) NB918_0.out (by simp)); have n3_ := aK (KeepBut.blk hk (g' := gb919) (o := .cells #[.int .i64 a1_0, .int .i64 a1_1, .int .i64 0] 32 (0, 0)) (by (with_reducible repeat (first | refine kDN ?_ _ | refine kD ?_ | refine kA ?_ _)); exact BK919.out) NB919_0.out (by simp)); have n4_ := aK (KeepBut.trans (by repeat (first | (with_reducible first | exact HK.out | apply KeepBut.set_ | apply keep_drewN | apply keep_drew | apply keep_alloc | refine keep_far ?_ GW917.out _ | refine keep_far ?_ GW918.out _ | refine keep_far ?_ GW919.out _) | exact HK.out)) hk (.inl rfl)); have n5_ := aK (hb); have n6_ := aK (hi); clear HO_7; clear BK917; clear BK918; clear BK919; clear HK; clear HB; clear HI0; have HO_7 := n0_; have BK917 := n1_; have BK918 := n2_; have BK919 := n3_; have HK := n4_; have HB := n5_; have HI0 := n6_; clear n0_ n1_ n2_ n3_ n4_ n5_ n6_; (try clear hb); (try clear hb2); (try clear hk); (try clear hi)))
       go_loopg [10] k1 (fun kq v10 w' => ∃ (x10_2 : Int), v10 = .int .i64 x10_2 ∧ Aside0 (spec_l03Tree.l1 kq t920 x7_1 t926 x10_2 s0_0 t930 t931 a1_0 a1_1 a1_0 a1_1 0 = some (r1, r2, r3, r4, r5)) ∧ Aside0 (kq ≤ k1) ∧ Aside0 (Kd.R (Kd.int .i64) 3 w' w.heap.size (fun _ => True) (.slice Ao40 x7_1.length co40) x7_1) ∧ Aside0 (w'.heap[gb917]? = some (.cells #[.int .i64 a1_0, .int .i64 a1_1] 30 (0, 0))) ∧ Aside0 (w'.heap[gb918]? = some (.cells #[.int .i64 0, .int .i64 0, .int .i64 0] 32 (0, 0))) ∧ Aside0 (w'.heap[gb919]? = some (.cells #[.int .i64 a1_0, .int .i64 a1_1, .int .i64 0] 32 (0, 0))) ∧ Aside0 (IsS151 w0 w' g s0_0 t930 t931) ∧ Aside0 (KeepBut w w' g none) ∧ Aside0 (Below w0.heap.size w0 w'))
       case atStart => exact ⟨(wrap64 (1 + t929)), (by first | rfl | (simp; done) | (simp [*]; done)), H', ⟨Nat.le_refl _⟩, ⟨by (with_reducible repeat (first | apply Kd.R_alloc | apply Kd.R_drewN | apply Kd.R_drew)); exact HO_7.out⟩, ⟨by (with_reducible repeat (first | refine kDN ?_ _ | refine kD ?_ | refine kA ?_ _)); exact BK917.out⟩, ⟨by (with_reducible repeat (first | refine kDN ?_ _ | refine kD ?_ | refine kA ?_ _)); exact BK918.out⟩, ⟨by (with_reducible repeat (first | refine kDN ?_ _ | refine kD ?_ | refine kA ?_ _)); exact BK919.out⟩, ⟨by repeat (first | (with_reducible first | exact HI0.out | apply IsS151.alloc | apply IsS151.drewN | apply IsS151.drew | apply IsS151.set_1 | apply IsS151.set_2 | refine IsS151.far ?_ NB0_917.out _ | refine IsS151.far ?_ NB0_918.out _ | refine IsS151.far ?_ NB0_919.out _) | exact HI0.out)⟩, ⟨by repeat (first | (with_reducible first | exact HK.out | apply KeepBut.set_ | apply keep_drewN | apply keep_drew | apply keep_alloc | refine keep_far ?_ GW917.out _ | refine keep_far ?_ GW918.out _ | refine keep_far ?_ GW919.out _) | exact HK.out)⟩, ⟨by repeat (first | (with_reducible first | exact HB.out | apply bAl | apply bDN | apply bD1 | refine bSt ?_ (IsS151.ge HI0.out) | refine bSt ?_ GE917.out | refine bSt ?_ GE918.out | refine bSt ?_ GE919.out) | exact HB.out)⟩⟩
       case round =>
        clear H'
        try clear c1
        try clear c2
        try clear p2
        try clear q2
        try clear hx2
        try clear hf2
        try clear c3
        try clear c5
        try clear c5b0
        try clear c5b1
        try clear c6
        try clear c6b0
        try clear c6b1
        try clear p6
        try clear c9
        try clear c10
        try clear c12
        try clear c13
        try clear c14
        try clear c15
        try clear c23
        try clear c23b0
        try clear c24
        try clear c24b0
        try clear p25
        try clear q25
        try clear hx25
        try clear hf25
        try clear c29
        try clear c29b0
        try clear c29b1
        try clear c31
        try clear c32
        try clear c33
        try clear c35
        try clear c36
        try clear hcz11_0
        try clear hcz11_1
        try clear hcz16_0
        try clear hcz16_1
        try clear hcz16_2
        try clear hcz17_0
        try clear hcz17_1
        try clear hcz19_0
        try clear hcz19_1
        try clear hcz34_0
        try clear hcz34_1
        try clear hcz34_2
        try clear hcz37_0
        try clear hcz37_1
        try clear hcz37_2
        try clear hfz11_0
        try clear hfz11_1
        try clear hfz16_0
        try clear hfz16_1
        try clear hfz16_2
        try clear hfz17_0
        try clear hfz17_1
        try clear hfz19_0
        try clear hfz19_1
        try clear hfz34_0
        try clear hfz34_1
        try clear hfz34_2
        try clear hfz37_0
        try clear hfz37_1
        try clear hfz37_2
        try clear hx25_0
        try clear p2
        try clear p25
        try clear q25
        obtain ⟨x10_2, rfl, HA, HK2, HO_7, BK917, BK918, BK919, HI0, HK, HB⟩ := hrel
        cases gk with
        | zero => exact absurd HA.out (by simp [spec_l03Tree.l1])
        | succ k2 =>
         have H := HA.out
         clear HA
         simp only [spec_l03Tree.l1] at H
         replace H := Option.bind_eq_some_iff.mp H
         obtain ⟨t932, A430, H⟩ := H
         replace H : (if t932 = true then (spec_l03Tree.l1 k2 t920 x7_1 t926 (wrap64 (x10_2 + 1)) s0_0 t930 t931 a1_0 a1_1 a1_0 a1_1 0) else (spec_l03Tree.l2 k2 t920 x7_1 t926 x10_2 0 s0_0 t930 t931 a1_0 a1_1 a1_0 a1_1 0)) = some (r1, r2, r3, r4, r5) := H
         have A43 := aK A430
         clear A430
         by_cases c44 : t932 = true
         ·subst c44
          have H1 : (spec_l03Tree.l1 k2 t920 x7_1 t926 (wrap64 (x10_2 + 1)) s0_0 t930 t931 a1_0 a1_1 a1_0 a1_1 0) = some (r1, r2, r3, r4, r5) := by rw [if_pos rfl] at H; exact H
          clear H
          have H := H1
          clear H1
          have H' := aK H
          clear H
          go_wp2_with (first | ((with_reducible refine gate_callee (f := 161) rfl ?_); refine goesL_ (some 46) rfl rfl Try.func161 (by kernel_rfl) rfl #[.int .i64 x10_2, .int .i64 t920] rfl (by (try simp only [List.map_toArray, List.map_cons, List.map_nil]); first | done | rfl | (simp only [List.length_drop, List.length_take]; rfl)) ?_; (with_reducible refine (spec_l03Common.calls k2 x10_2 t920 true _ A43.out).mono ?_); rintro e w' ⟨rfl, ⟨nd, rfl⟩⟩; refine ⟨_, rfl, ?_⟩))
          go_roundg k2
          case measure => have := HK1.out; have := HK2.out; omega
          case rel => exact ⟨(wrap64 (x10_2 + 1)), (by first | rfl | (simp; done) | (simp [*]; done)), H', ⟨by have := HK1.out; have := HK2.out; omega⟩, ⟨by (with_reducible repeat (first | apply Kd.R_alloc | apply Kd.R_drewN | apply Kd.R_drew)); exact HO_7.out⟩, ⟨by (with_reducible repeat (first | refine kDN ?_ _ | refine kD ?_ | refine kA ?_ _)); exact BK917.out⟩, ⟨by (with_reducible repeat (first | refine kDN ?_ _ | refine kD ?_ | refine kA ?_ _)); exact BK918.out⟩, ⟨by (with_reducible repeat (first | refine kDN ?_ _ | refine kD ?_ | refine kA ?_ _)); exact BK919.out⟩, ⟨by repeat (first | (with_reducible first | exact HI0.out | apply IsS151.alloc | apply IsS151.drewN | apply IsS151.drew | apply IsS151.set_1 | apply IsS151.set_2 | refine IsS151.far ?_ NB0_917.out _ | refine IsS151.far ?_ NB0_918.out _ | refine IsS151.far ?_ NB0_919.out _) | exact HI0.out)⟩, ⟨by repeat (first | (with_reducible first | exact HK.out | apply KeepBut.set_ | apply keep_drewN | apply keep_drew | apply keep_alloc | refine keep_far ?_ GW917.out _ | refine keep_far ?_ GW918.out _ | refine keep_far ?_ GW919.out _) | exact HK.out)⟩, ⟨by repeat (first | (with_reducible first | exact HB.out | apply bAl | apply bDN | apply bD1 | refine bSt ?_ (IsS151.ge HI0.out) | refine bSt ?_ GE917.out | refine bSt ?_ GE918.out | refine bSt ?_ GE919.out) | exact HB.out)⟩⟩
         ·replace c44 := Bool.eq_false_iff.mpr c44
          subst c44
          have H1 : (spec_l03Tree.l2 k2 t920 x7_1 t926 x10_2 0 s0_0 t930 t931 a1_0 a1_1 a1_0 a1_1 0) = some (r1, r2, r3, r4, r5) := by rw [if_neg (show ¬ (false = true) by decide)] at H; exact H
          clear H
          have H := H1
          clear H1
          have H' := aK H
          clear H
          go_wp2_with (first | ((with_reducible refine gate_callee (f := 161) rfl ?_); refine goesL_ (some 46) rfl rfl Try.func161 (by kernel_rfl) rfl #[.int .i64 x10_2, .int .i64 t920] rfl (by (try simp only [List.map_toArray, List.map_cons, List.map_nil]); first | done | rfl | (simp only [List.length_drop, List.length_take]; rfl)) ?_; (with_reducible refine (spec_l03Common.calls k2 x10_2 t920 false _ A43.out).mono ?_); rintro e w' ⟨rfl, ⟨nd, rfl⟩⟩; refine ⟨_, rfl, ?_⟩))
          go_loopg [11] k2 (fun kq v11 w' => ∃ (x7_3 : List Int) (x11_3 : Int) (x920002_3 : Int), v11 = .int .i64 x11_3 ∧ Aside0 (spec_l03Tree.l2 kq t920 x7_3 t926 x10_2 x11_3 s0_0 t930 t931 a1_0 a1_1 a1_0 a1_1 x920002_3 = some (r1, r2, r3, r4, r5)) ∧ Aside0 (kq ≤ k2) ∧ Aside0 (Kd.R (Kd.int .i64) 3 w' w.heap.size (fun _ => True) (.slice Ao40 x7_1.length co40) x7_3) ∧ Aside0 (w'.heap[gb917]? = some (.cells #[.int .i64 a1_0, .int .i64 a1_1] 30 (0, 0))) ∧ Aside0 (w'.heap[gb918]? = some (.cells #[.int .i64 0, .int .i64 0, .int .i64 0] 32 (0, 0))) ∧ Aside0 (w'.heap[gb919]? = some (.cells #[.int .i64 a1_0, .int .i64 a1_1, .int .i64 x920002_3] 32 (0, 0))) ∧ Aside0 (IsS151 w0 w' g s0_0 t930 t931) ∧ Aside0 (KeepBut w w' g none) ∧ Aside0 (Below w0.heap.size w0 w'))
          case atStart => exact ⟨(x7_1), (0), (0), (by first | rfl | (simp; done) | (simp [*]; done)), H', ⟨Nat.le_refl _⟩, ⟨by (with_reducible repeat (first | apply Kd.R_alloc | apply Kd.R_drewN | apply Kd.R_drew)); exact HO_7.out⟩, ⟨by (with_reducible repeat (first | refine kDN ?_ _ | refine kD ?_ | refine kA ?_ _)); exact BK917.out⟩, ⟨by (with_reducible repeat (first | refine kDN ?_ _ | refine kD ?_ | refine kA ?_ _)); exact BK918.out⟩, ⟨by (with_reducible repeat (first | refine kDN ?_ _ | refine kD ?_ | refine kA ?_ _)); exact BK919.out⟩, ⟨by repeat (first | (with_reducible first | exact HI0.out | apply IsS151.alloc | apply IsS151.drewN | apply IsS151.drew | apply IsS151.set_1 | apply IsS151.set_2 | refine IsS151.far ?_ NB0_917.out _ | refine IsS151.far ?_ NB0_918.out _ | refine IsS151.far ?_ NB0_919.out _) | exact HI0.out)⟩, ⟨by repeat (first | (with_reducible first | exact HK.out | apply KeepBut.set_ | apply keep_drewN | apply keep_drew | apply keep_alloc | refine keep_far ?_ GW917.out _ | refine keep_far ?_ GW918.out _ | refine keep_far ?_ GW919.out _) | exact HK.out)⟩, ⟨by repeat (first | (with_reducible first | exact HB.out | apply bAl | apply bDN | apply bD1 | refine bSt ?_ (IsS151.ge HI0.out) | refine bSt ?_ GE917.out | refine bSt ?_ GE918.out | refine bSt ?_ GE919.out) | exact HB.out)⟩⟩
          case round =>
           clear H'
           try clear c1
           try clear c2
           try clear p2
           try clear q2
           try clear hx2
           try clear hf2
           try clear c3
           try clear c4
           try clear c5
           try clear c5b0
           try clear c5b1
           try clear c6
           try clear c6b0
           try clear c6b1
           try clear p6
           try clear c9
           try clear c10
           try clear c12
           try clear c13
           try clear c14
           try clear c15
           try clear c16
           try clear c23
           try clear c23b0
           try clear c24
           try clear c24b0
           try clear p25
           try clear q25
           try clear hx25
           try clear hf25
           try clear c29
           try clear c29b0
           try clear c29b1
           try clear c31
           try clear c32
           try clear c33
           try clear c35
           try clear c36
           try clear c44
           try clear hcz11_0
           try clear hcz11_1
           try clear hcz16_0
           try clear hcz16_1
           try clear hcz16_2
           try clear hcz17_0
           try clear hcz17_1
           try clear hcz19_0
           try clear hcz19_1
           try clear hcz34_0
           try clear hcz34_1
           try clear hcz34_2
           try clear hcz37_0
           try clear hcz37_1
           try clear hcz37_2
           try clear hfz11_0
           try clear hfz11_1
           try clear hfz16_0
           try clear hfz16_1
           try clear hfz16_2
           try clear hfz17_0
           try clear hfz17_1
           try clear hfz19_0
           try clear hfz19_1
           try clear hfz34_0
           try clear hfz34_1
           try clear hfz34_2
           try clear hfz37_0
           try clear hfz37_1
           try clear hfz37_2
           try clear hx25_0
           try clear p2
           try clear p25
           try clear p6
           try clear q2
           try clear q25
           obtain ⟨x7_3, x11_3, x920002_3, rfl, HA, HK3, HO_7, BK917, BK918, BK919, HI0, HK, HB⟩ := hrel
           have hl7_3 := (Kd.R_reads' HO_7.out).1
           rw [hl7_3] at HO_7
           (try simp only [hl7_3])
           (try simp only [hl7_3] at BK917)
           (try simp only [hl7_3] at BK918)
           (try simp only [hl7_3] at BK919)
           cases gk with
           | zero => exact absurd HA.out (by simp [spec_l03Tree.l2])
           | succ k3 =>
            have H := HA.out
            clear HA
            simp only [spec_l03Tree.l2] at H
            by_cases c45 : x11_3 < t920
            ·rw [if_pos c45] at H
             have c45b0 : decide (x11_3 < t920) = true := decide_eq_true c45
             clear c45
             by_cases c46 : t920 = 0
             ·rw [if_pos c46] at H
              exact absurd H (by simp)
             ·rw [if_neg c46] at H
              have c46b0 : (t920 == 0) = false := beq_eq_false_iff_ne.mpr c46
              have c46b1 : (t920 != 0) = true := bne_iff_ne.mpr c46
              replace H := Option.bind_eq_some_iff.mp H
              obtain ⟨⟨t933, t934⟩, A470, H⟩ := H
              replace H : (if 0 ≤ t933 then (if t933 < (x7_3.length : Int) then (if 0 ≤ t934 then (if t934 < (x7_3.length : Int) then (if (rd x7_3 t933) = (rd x7_3 t934) then (spec_l03Tree.l2 k3 t920 x7_3 t926 x10_2 (wrap64 (x11_3 + 1)) s0_0 t930 t931 a1_0 a1_1 a1_0 a1_1 x920002_3) else (if 0 ≤ (Int.tmod (wrap64 (t926 + (wrap64 (x11_3 * x10_2)))) t920) then (spec_l03Tree.l3 k3 t920 x7_3 t926 x10_2 x11_3 t933 (rd x7_3 t934) 0 s0_0 t930 t931 a1_0 a1_1 a1_0 a1_1 (Go.bits .or .i64 x920002_3 (shl .i64 1 (Int.tmod (wrap64 (t926 + (wrap64 (x11_3 * x10_2)))) t920)))) else (none))) else (none)) else (none)) else (none)) else (none)) = some (r1, r2, r3, r4, r5) := H
              have A47 := aK A470
              clear A470
              by_cases c48 : 0 ≤ t933
              ·rw [if_pos c48] at H
               have c48b0 : decide (0 ≤ t933) = true := decide_eq_true c48
               clear c48
               by_cases c49 : t933 < (x7_3.length : Int)
               ·rw [if_pos c49] at H
                have c49b0 : decide (t933 < (x7_3.length : Int)) = true := decide_eq_true c49
                clear c49
                by_cases c50 : 0 ≤ t934
                ·rw [if_pos c50] at H
                 have c50b0 : decide (0 ≤ t934) = true := decide_eq_true c50
                 clear c50
                 by_cases c51 : t934 < (x7_3.length : Int)
                 ·rw [if_pos c51] at H
                  have c51b0 : decide (t934 < (x7_3.length : Int)) = true := decide_eq_true c51
                  clear c51
                  by_cases c52 : (rd x7_3 t933) = (rd x7_3 t934)
                  ·rw [if_pos c52] at H
                   have c52b0 : ((rd x7_3 t933) == (rd x7_3 t934)) = true := beq_iff_eq.mpr c52
                   have c52b1 : ((rd x7_3 t933) != (rd x7_3 t934)) = false := bne_eq_false_iff_eq.mpr c52
                   clear c52
                   have H' := aK H
                   clear H
                   have hnb53 := NB917_918.out
                   have hnc53 := NB918_917.out
                   have hnb54 := NB917_919.out
                   have hnc54 := NB919_917.out
                   have hnb55 := NB917_0.out
                   have hnc55 := NB0_917.out
                   obtain ⟨hcz56_0, hcz56_1, hfz56_0, hfz56_1⟩ := cl2 BK917.out
                   try go_wp2_with (first | ((with_reducible refine gate_callee (f := 162) rfl ?_); refine goesL_ (some 64) rfl rfl Try.func162 (by kernel_rfl) rfl #[.agg #[.int .i64 a1_0, .int .i64 a1_1], .int .i64 (Int.tmod (wrap64 (t926 + (wrap64 (x11_3 * x10_2)))) t920)] rfl (by (try simp only [List.map_toArray, List.map_cons, List.map_nil]); first | done | rfl | (simp only [List.length_drop, List.length_take]; rfl)) ?_; (with_reducible refine (spec_EndsOf.calls a1_0 a1_1 (Int.tmod (wrap64 (t926 + (wrap64 (x11_3 * x10_2)))) t920) t933 t934 _ A47.out).mono ?_); rintro e w57 ⟨rfl, hb⟩; refine ⟨_, rfl, ?_⟩; have n0_ := aK (Kd.R_below (by (with_reducible repeat (first | apply Kd.R_alloc | apply Kd.R_drewN | apply Kd.R_drew)); exact HO_7.out) hb); have n1_ := bkb BK917 hb (by intro z_; (with_reducible repeat (first | refine kDN ?_ _ | refine kD ?_ | refine kA ?_ _)); exact z_); have n2_ := bkb BK918 hb (by intro z_; (with_reducible repeat (first | refine kDN ?_ _ | refine kD ?_ | refine kA ?_ _)); exact z_); have n3_ := bkb BK919 hb (by intro z_; (with_reducible repeat (first | refine kDN ?_ _ | refine kD ?_ | refine kA ?_ _)); exact z_); have n4_ := aK (IsS151.below (by repeat (first | (with_reducible first | exact HI0.out | apply IsS151.alloc | apply IsS151.drewN | apply IsS151.drew | apply IsS151.set_1 | apply IsS151.set_2 | refine IsS151.far ?_ NB0_917.out _ | refine IsS151.far ?_ NB0_918.out _ | refine IsS151.far ?_ NB0_919.out _) | exact HI0.out)) hb); have n5_ := aK (KeepBut.trans (by repeat (first | (with_reducible first | exact HK.out | apply KeepBut.set_ | apply keep_drewN | apply keep_drew | apply keep_alloc | refine keep_far ?_ GW917.out _ | refine keep_far ?_ GW918.out _ | refine keep_far ?_ GW919.out _) | exact HK.out)) (KeepBut.of_below hb g none) (.inl rfl)); have n6_ := aK (bSp (by repeat (first | (with_reducible first | exact HB.out | apply bAl | apply bDN | apply bD1 | refine bSt ?_ (IsS151.ge HI0.out) | refine bSt ?_ GE917.out | refine bSt ?_ GE918.out | refine bSt ?_ GE919.out) | exact HB.out)) hb); clear HO_7; clear BK917; clear BK918; clear BK919; clear HI0; clear HK; clear HB; have HO_7 := n0_; have BK917 := n1_; have BK918 := n2_; have BK919 := n3_; have HI0 := n4_; have HK := n5_; have HB := n6_; clear n0_ n1_ n2_ n3_ n4_ n5_ n6_; (try clear hb); (try clear hb2); (try clear hk); (try clear hi)))
                   have n0_ := aK (Kd.R_drew HO_7.out)
                   have n1_ := aK (kD BK917.out)
                   have n2_ := aK (kD BK918.out)
                   have n3_ := aK (kD BK919.out)
                   have n4_ := aK (IsS151.drew HI0.out)
                   have n5_ := aK (keep_drew HK.out)
                   have n6_ := aK (bD1 HB.out)
                   clear HO_7
                   clear BK917
                   clear BK918
                   clear BK919
                   clear HI0
                   clear HK
                   clear HB
                   have HO_7 := n0_
                   have BK917 := n1_
                   have BK918 := n2_
                   have BK919 := n3_
                   have HI0 := n4_
                   have HK := n5_
                   have HB := n6_
                   clear n0_ n1_ n2_ n3_ n4_ n5_ n6_
                   have p935 : 0 ≤ (t933 : Int) := of_decide_eq_true (by first | (with_reducible assumption) | assumption)
                   have q935 : t933 < (x7_3.length : Int) := of_decide_eq_true (by first | (with_reducible assumption) | assumption)
                   obtain ⟨ad935, e935, hx935_0⟩ := Kd.at_int (Kd.R_reads' HO_7.out).2.2 t933 p935 q935
                   cases e935
                   replace p935 := eq_true p935
                   replace q935 := eq_true q935
                   have p936 : 0 ≤ (t934 : Int) := of_decide_eq_true (by first | (with_reducible assumption) | assumption)
                   have q936 : t934 < (x7_3.length : Int) := of_decide_eq_true (by first | (with_reducible assumption) | assumption)
                   obtain ⟨ad936, e936, hx936_0⟩ := Kd.at_int (Kd.R_reads' HO_7.out).2.2 t934 p936 q936
                   obtain rfl : ad935 = ad936 := (by injection e936)
                   replace p936 := eq_true p936
                   replace q936 := eq_true q936
                   refine start_ (n := 9) (S := fun w' => w'.cell? (ad935.add (t933).toNat) = some (.int .i64 (rd x7_3 t933)) ∧ w'.cell? (ad935.add (t934).toNat) = some (.int .i64 (rd x7_3 t934))) (ds := []) #[bN,bN,bN,bN,bN,bN,bN,bN,bN] (by kernel_rfl) rfl rfl ⟨hx935_0, hx936_0⟩ (fun hHeld => ?_); refine with_tabW spec_l03Tree.tab19 spec_l03Tree.bits19 (fun HT_ HW_ => ?_)
                   generalize w57.drew = w58 at HO_7 BK917 BK918 BK919 HI0 HK HB hx935_0 hx936_0 hHeld ⊢
                   refine pure_ (i := 0) (N := some 67) (v := ?_) (a' := ?_) #[bY,bN,bN,bN,bN,bN,bN,bN,bN] rfl rfl (any_of HT_.out (by kernel_rfl)) (fun _ _ _ h => h) (Or.inl ⟨by rfl, ?_⟩) ?_ ?_
                   rotate_left
                   ·intro w'
                    go_simp
                    with_reducible rfl
                   rotate_left
                   ·simp only [Act.put, sTA, sZ, sS, i64_w, i32_w]
                    rfl
                   refine pure_ (i := 1) (N := some 68) (v := ?_) (a' := ?_) #[bY,bY,bN,bN,bN,bN,bN,bN,bN] rfl rfl (any_of HT_.out (by kernel_rfl)) (fun _ _ _ h => h) (Or.inl ⟨by rfl, ?_⟩) ?_ ?_
                   rotate_left
                   ·intro w'
                    go_simp
                    with_reducible rfl
                   rotate_left
                   ·simp only [Act.put, sTA, sZ, sS, i64_w, i32_w]
                    rfl
                   refine pure_ (i := 2) (N := some 69) (v := ?_) (a' := ?_) #[bY,bY,bY,bN,bN,bN,bN,bN,bN] rfl rfl (any_of HT_.out (by kernel_rfl)) (fun _ _ _ h => h) (Or.inl ⟨by rfl, ?_⟩) ?_ ?_
                   rotate_left
                   ·intro w'
                    go_simp
                    with_reducible rfl
                   rotate_left
                   ·simp only [Act.put, sTA, sZ, sS, i64_w, i32_w]
                    rfl
                   refine pure_ (i := 4) (N := some 71) (v := ?_) (a' := ?_) #[bY,bY,bY,bN,bY,bN,bN,bN,bN] rfl rfl (any_of HT_.out (by kernel_rfl)) (fun _ _ _ h => h) (Or.inl ⟨by rfl, ?_⟩) ?_ ?_
                   rotate_left
                   ·intro w'
                    go_simp
                    with_reducible rfl
                   rotate_left
                   ·simp only [Act.put, sTA, sZ, sS, i64_w, i32_w]
                    rfl
                   refine pure_ (i := 5) (N := some 72) (v := ?_) (a' := ?_) #[bY,bY,bY,bN,bY,bY,bN,bN,bN] rfl rfl (any_of HT_.out (by kernel_rfl)) (fun _ _ _ h => h) (Or.inl ⟨by rfl, ?_⟩) ?_ ?_
                   rotate_left
                   ·intro w'
                    go_simp
                    with_reducible rfl
                   rotate_left
                   ·simp only [Act.put, sTA, sZ, sS, i64_w, i32_w]
                    rfl
                   refine pure_ (i := 6) (N := some 73) (v := ?_) (a' := ?_) #[bY,bY,bY,bN,bY,bY,bY,bN,bN] rfl rfl (any_of HT_.out (by kernel_rfl)) (fun _ _ _ h => h) (Or.inl ⟨by rfl, ?_⟩) ?_ ?_
                   rotate_left
                   ·intro w'
                    go_simp
                    with_reducible rfl
                   rotate_left
                   ·simp only [Act.put, sTA, sZ, sS, i64_w, i32_w]
                    rfl
                   refine take_ (i := 3) (N := some 70) (v := ?_) (a' := ?_) #[bY,bY,bY,bY,bY,bY,bY,bN,bN] rfl rfl (take_ofW HT_.out HW_.out (by kernel_rfl)) (fun _ _ _ h => h) (Or.inl ⟨by rfl, ?_⟩) hHeld ?_ ?_
                   rotate_left
                   ·rintro w' ⟨s0, s1⟩
                    go_simp
                    with_reducible rfl
                   rotate_left
                   ·simp only [Act.put, sTA, sZ, sS, i64_w, i32_w]
                    rfl
                   refine take_ (i := 7) (N := some 74) (v := ?_) (a' := ?_) #[bY,bY,bY,bY,bY,bY,bY,bY,bN] rfl rfl (take_ofW HT_.out HW_.out (by kernel_rfl)) (fun _ _ _ h => h) (Or.inl ⟨by rfl, ?_⟩) hHeld ?_ ?_
                   rotate_left
                   ·rintro w' ⟨s0, s1⟩
                    go_simp
                    with_reducible rfl
                   rotate_left
                   ·simp only [Act.put, sTA, sZ, sS, i64_w, i32_w]
                    rfl
                   refine pure_ (i := 8) (N := some 75) (v := ?_) (a' := ?_) #[bY,bY,bY,bY,bY,bY,bY,bY,bY] rfl rfl (any_of HT_.out (by kernel_rfl)) (fun _ _ _ h => h) (Or.inl ⟨by rfl, ?_⟩) ?_ ?_
                   rotate_left
                   ·intro w'
                    go_simp
                    with_reducible rfl
                   rotate_left
                   ·simp only [Act.put, sTA, sZ, sS, i64_w, i32_w]
                    rfl
                   refine done_ (done_of HT_.out (by kernel_rfl)) ?_
                   try go_wp2
                   (try simp only [← hl7_3])
                   go_roundg k3
                   case measure => have := HK1.out; have := HK2.out; have := HK3.out; omega
                   case rel => exact ⟨(x7_3), (wrap64 (x11_3 + 1)), (x920002_3), (by first | rfl | (simp; done) | (simp [*]; done)), H', ⟨by have := HK1.out; have := HK2.out; have := HK3.out; omega⟩, ⟨by (try simp only [hl7_3]); (with_reducible repeat (first | apply Kd.R_alloc | apply Kd.R_drewN | apply Kd.R_drew)); exact HO_7.out⟩, ⟨by (try simp only [hl7_3]); (with_reducible repeat (first | refine kDN ?_ _ | refine kD ?_ | refine kA ?_ _)); exact BK917.out⟩, ⟨by (try simp only [hl7_3]); (with_reducible repeat (first | refine kDN ?_ _ | refine kD ?_ | refine kA ?_ _)); exact BK918.out⟩, ⟨by (try simp only [hl7_3]); (with_reducible repeat (first | refine kDN ?_ _ | refine kD ?_ | refine kA ?_ _)); exact BK919.out⟩, ⟨by repeat (first | (with_reducible first | exact HI0.out | apply IsS151.alloc | apply IsS151.drewN | apply IsS151.drew | apply IsS151.set_1 | apply IsS151.set_2 | refine IsS151.far ?_ NB0_917.out _ | refine IsS151.far ?_ NB0_918.out _ | refine IsS151.far ?_ NB0_919.out _) | exact HI0.out)⟩, ⟨by repeat (first | (with_reducible first | exact HK.out | apply KeepBut.set_ | apply keep_drewN | apply keep_drew | apply keep_alloc | refine keep_far ?_ GW917.out _ | refine keep_far ?_ GW918.out _ | refine keep_far ?_ GW919.out _) | exact HK.out)⟩, ⟨by repeat (first | (with_reducible first | exact HB.out | apply bAl | apply bDN | apply bD1 | refine bSt ?_ (IsS151.ge HI0.out) | refine bSt ?_ GE917.out | refine bSt ?_ GE918.out | refine bSt ?_ GE919.out) | exact HB.out)⟩⟩
                  ·rw [if_neg c52] at H
                   have c52b0 : ((rd x7_3 t933) == (rd x7_3 t934)) = false := beq_eq_false_iff_ne.mpr c52
                   have c52b1 : ((rd x7_3 t933) != (rd x7_3 t934)) = true := bne_iff_ne.mpr c52
                   obtain ⟨ji59, hji59⟩ : ∃ j_ : Int, (Int.tmod (wrap64 (t926 + (wrap64 (x11_3 * x10_2)))) t920) = j_ := ⟨_, rfl⟩
                   replace H : (if 0 ≤ (ji59) then (spec_l03Tree.l3 k3 t920 x7_3 t926 x10_2 x11_3 t933 (rd x7_3 t934) 0 s0_0 t930 t931 a1_0 a1_1 a1_0 a1_1 (Go.bits .or .i64 x920002_3 (shl .i64 1 (ji59)))) else (none)) = some (r1, r2, r3, r4, r5) := by first | (rw [hji59] at H; exact H) | (simp only [hji59] at H ⊢; exact H)
                   (try rw [hji59] at A47)
                   by_cases c60 : 0 ≤ (ji59)
                   ·rw [if_pos c60] at H
                    have c60b0 := eq_true c60
                    have c60b1 : decide (0 ≤ (ji59)) = true := decide_eq_true c60
                    clear c60
                    obtain ⟨ji61, hji61⟩ : ∃ j_ : Int, (shl .i64 1 (ji59)) = j_ := ⟨_, rfl⟩
                    replace H : (spec_l03Tree.l3 k3 t920 x7_3 t926 x10_2 x11_3 t933 (rd x7_3 t934) 0 s0_0 t930 t931 a1_0 a1_1 a1_0 a1_1 (Go.bits .or .i64 x920002_3 (ji61))) = some (r1, r2, r3, r4, r5) := by first | (rw [hji61] at H; exact H) | (simp only [hji61] at H ⊢; exact H)
                    (try rw [hji61] at A47)
                    have hji61_ : (IntKind.i64.wrap (1 * 2 ^ min (ji59).toNat 64)) = ji61 := hji61
                    have hji61z : (ji59) ≤ 64 → (IntKind.i64.wrap (1 * 2 ^ (ji59).toNat)) = ji61 := shl_small hji61
                    have hji61u : (IntKind.i64.wrap (2 ^ min (ji59).toNat 64)) = ji61 := by have h_ := hji61_; rw [Int.one_mul] at h_; exact h_
                    have hji61v : (ji59) ≤ 64 → (IntKind.i64.wrap (2 ^ (ji59).toNat)) = ji61 := fun hle_ => by have h_ := hji61z hle_; rw [Int.one_mul] at h_; exact h_
                    have hji61y : (wrap64 (1 * 2 ^ min (ji59).toNat 64)) = ji61 := (i64_w _).symm.trans hji61_
                    have hji61x : (ji59) ≤ 64 → (wrap64 (1 * 2 ^ (ji59).toNat)) = ji61 := fun h_ => (i64_w _).symm.trans (hji61z h_)
                    have H' := aK H
                    clear H
                    have hnb62 := NB917_918.out
                    have hnc62 := NB918_917.out
                    have hnb63 := NB917_919.out
                    have hnc63 := NB919_917.out
                    have hnb64 := NB917_0.out
                    have hnc64 := NB0_917.out
                    obtain ⟨hcz65_0, hcz65_1, hfz65_0, hfz65_1⟩ := cl2 BK917.out
                    try go_wp2_with (first | ((with_reducible refine gate_callee (f := 162) rfl ?_); refine goesL_ (some 64) rfl rfl Try.func162 (by kernel_rfl) rfl #[.agg #[.int .i64 a1_0, .int .i64 a1_1], .int .i64 ji59] rfl (by (try simp only [List.map_toArray, List.map_cons, List.map_nil]); first | done | (simp only [hji59]; rfl) | rfl | (simp only [List.length_drop, List.length_take]; rfl)) ?_; (with_reducible refine (spec_EndsOf.calls a1_0 a1_1 ji59 t933 t934 _ A47.out).mono ?_); rintro e w66 ⟨rfl, hb⟩; refine ⟨_, rfl, ?_⟩; have n0_ := aK (Kd.R_below (by (with_reducible repeat (first | apply Kd.R_alloc | apply Kd.R_drewN | apply Kd.R_drew)); exact HO_7.out) hb); have n1_ := bkb BK917 hb (by intro z_; (with_reducible repeat (first | refine kDN ?_ _ | refine kD ?_ | refine kA ?_ _)); exact z_); have n2_ := bkb BK918 hb (by intro z_; (with_reducible repeat (first | refine kDN ?_ _ | refine kD ?_ | refine kA ?_ _)); exact z_); have n3_ := bkb BK919 hb (by intro z_; (with_reducible repeat (first | refine kDN ?_ _ | refine kD ?_ | refine kA ?_ _)); exact z_); have n4_ := aK (IsS151.below (by repeat (first | (with_reducible first | exact HI0.out | apply IsS151.alloc | apply IsS151.drewN | apply IsS151.drew | apply IsS151.set_1 | apply IsS151.set_2 | refine IsS151.far ?_ NB0_917.out _ | refine IsS151.far ?_ NB0_918.out _ | refine IsS151.far ?_ NB0_919.out _) | exact HI0.out)) hb); have n5_ := aK (KeepBut.trans (by repeat (first | (with_reducible first | exact HK.out | apply KeepBut.set_ | apply keep_drewN | apply keep_drew | apply keep_alloc | refine keep_far ?_ GW917.out _ | refine keep_far ?_ GW918.out _ | refine keep_far ?_ GW919.out _) | exact HK.out)) (KeepBut.of_below hb g none) (.inl rfl)); have n6_ := aK (bSp (by repeat (first | (with_reducible first | exact HB.out | apply bAl | apply bDN | apply bD1 | refine bSt ?_ (IsS151.ge HI0.out) | refine bSt ?_ GE917.out | refine bSt ?_ GE918.out | refine bSt ?_ GE919.out) | exact HB.out)) hb); clear HO_7; clear BK917; clear BK918; clear BK919; clear HI0; clear HK; clear HB; have HO_7 := n0_; have BK917 := n1_; have BK918 := n2_; have BK919 := n3_; have HI0 := n4_; have HK := n5_; have HB := n6_; clear n0_ n1_ n2_ n3_ n4_ n5_ n6_; (try clear hb); (try clear hb2); (try clear hk); (try clear hi)))
                    have n0_ := aK (Kd.R_drew HO_7.out)
                    have n1_ := aK (kD BK917.out)
                    have n2_ := aK (kD BK918.out)
                    have n3_ := aK (kD BK919.out)
                    have n4_ := aK (IsS151.drew HI0.out)
                    have n5_ := aK (keep_drew HK.out)
                    have n6_ := aK (bD1 HB.out)
                    clear HO_7
                    clear BK917
                    clear BK918
                    clear BK919
                    clear HI0
                    clear HK
                    clear HB
                    have HO_7 := n0_
                    have BK917 := n1_
                    have BK918 := n2_
                    have BK919 := n3_
                    have HI0 := n4_
                    have HK := n5_
                    have HB := n6_
                    clear n0_ n1_ n2_ n3_ n4_ n5_ n6_
                    have p935 : 0 ≤ (t933 : Int) := of_decide_eq_true (by first | (with_reducible assumption) | assumption)
                    have q935 : t933 < (x7_3.length : Int) := of_decide_eq_true (by first | (with_reducible assumption) | assumption)
                    obtain ⟨ad935, e935, hx935_0⟩ := Kd.at_int (Kd.R_reads' HO_7.out).2.2 t933 p935 q935
                    cases e935
                    replace p935 := eq_true p935
                    replace q935 := eq_true q935
                    have p936 : 0 ≤ (t934 : Int) := of_decide_eq_true (by first | (with_reducible assumption) | assumption)
                    have q936 : t934 < (x7_3.length : Int) := of_decide_eq_true (by first | (with_reducible assumption) | assumption)
                    obtain ⟨ad936, e936, hx936_0⟩ := Kd.at_int (Kd.R_reads' HO_7.out).2.2 t934 p936 q936
                    obtain rfl : ad935 = ad936 := (by injection e936)
                    replace p936 := eq_true p936
                    replace q936 := eq_true q936
                    refine start_ (n := 9) (S := fun w' => w'.cell? (ad935.add (t933).toNat) = some (.int .i64 (rd x7_3 t933)) ∧ w'.cell? (ad935.add (t934).toNat) = some (.int .i64 (rd x7_3 t934))) (ds := []) #[bN,bN,bN,bN,bN,bN,bN,bN,bN] (by kernel_rfl) rfl rfl ⟨hx935_0, hx936_0⟩ (fun hHeld => ?_); refine with_tabW spec_l03Tree.tab19 spec_l03Tree.bits19 (fun HT_ HW_ => ?_)
                    generalize w66.drew = w67 at HO_7 BK917 BK918 BK919 HI0 HK HB hx935_0 hx936_0 hHeld ⊢
                    refine pure_ (i := 0) (N := some 67) (v := ?_) (a' := ?_) #[bY,bN,bN,bN,bN,bN,bN,bN,bN] rfl rfl (any_of HT_.out (by kernel_rfl)) (fun _ _ _ h => h) (Or.inl ⟨by rfl, ?_⟩) ?_ ?_
                    rotate_left
                    ·intro w'
                     go_simp
                     with_reducible rfl
                    rotate_left
                    ·simp only [Act.put, sTA, sZ, sS, i64_w, i32_w]
                     rfl
                    refine pure_ (i := 1) (N := some 68) (v := ?_) (a' := ?_) #[bY,bY,bN,bN,bN,bN,bN,bN,bN] rfl rfl (any_of HT_.out (by kernel_rfl)) (fun _ _ _ h => h) (Or.inl ⟨by rfl, ?_⟩) ?_ ?_
                    rotate_left
                    ·intro w'
                     go_simp
                     with_reducible rfl
                    rotate_left
                    ·simp only [Act.put, sTA, sZ, sS, i64_w, i32_w]
                     rfl
                    refine pure_ (i := 2) (N := some 69) (v := ?_) (a' := ?_) #[bY,bY,bY,bN,bN,bN,bN,bN,bN] rfl rfl (any_of HT_.out (by kernel_rfl)) (fun _ _ _ h => h) (Or.inl ⟨by rfl, ?_⟩) ?_ ?_
                    rotate_left
                    ·intro w'
                     go_simp
                     with_reducible rfl
                    rotate_left
                    ·simp only [Act.put, sTA, sZ, sS, i64_w, i32_w]
                     rfl
                    refine pure_ (i := 4) (N := some 71) (v := ?_) (a' := ?_) #[bY,bY,bY,bN,bY,bN,bN,bN,bN] rfl rfl (any_of HT_.out (by kernel_rfl)) (fun _ _ _ h => h) (Or.inl ⟨by rfl, ?_⟩) ?_ ?_
                    rotate_left
                    ·intro w'
                     go_simp
                     with_reducible rfl
                    rotate_left
                    ·simp only [Act.put, sTA, sZ, sS, i64_w, i32_w]
                     rfl
                    refine pure_ (i := 5) (N := some 72) (v := ?_) (a' := ?_) #[bY,bY,bY,bN,bY,bY,bN,bN,bN] rfl rfl (any_of HT_.out (by kernel_rfl)) (fun _ _ _ h => h) (Or.inl ⟨by rfl, ?_⟩) ?_ ?_
                    rotate_left
                    ·intro w'
                     go_simp
                     with_reducible rfl
                    rotate_left
                    ·simp only [Act.put, sTA, sZ, sS, i64_w, i32_w]
                     rfl
                    refine pure_ (i := 6) (N := some 73) (v := ?_) (a' := ?_) #[bY,bY,bY,bN,bY,bY,bY,bN,bN] rfl rfl (any_of HT_.out (by kernel_rfl)) (fun _ _ _ h => h) (Or.inl ⟨by rfl, ?_⟩) ?_ ?_
                    rotate_left
                    ·intro w'
                     go_simp
                     with_reducible rfl
                    rotate_left
                    ·simp only [Act.put, sTA, sZ, sS, i64_w, i32_w]
                     rfl
                    refine take_ (i := 3) (N := some 70) (v := ?_) (a' := ?_) #[bY,bY,bY,bY,bY,bY,bY,bN,bN] rfl rfl (take_ofW HT_.out HW_.out (by kernel_rfl)) (fun _ _ _ h => h) (Or.inl ⟨by rfl, ?_⟩) hHeld ?_ ?_
                    rotate_left
                    ·rintro w' ⟨s0, s1⟩
                     go_simp
                     with_reducible rfl
                    rotate_left
                    ·simp only [Act.put, sTA, sZ, sS, i64_w, i32_w]
                     rfl
                    refine take_ (i := 7) (N := some 74) (v := ?_) (a' := ?_) #[bY,bY,bY,bY,bY,bY,bY,bY,bN] rfl rfl (take_ofW HT_.out HW_.out (by kernel_rfl)) (fun _ _ _ h => h) (Or.inl ⟨by rfl, ?_⟩) hHeld ?_ ?_
                    rotate_left
                    ·rintro w' ⟨s0, s1⟩
                     go_simp
                     with_reducible rfl
                    rotate_left
                    ·simp only [Act.put, sTA, sZ, sS, i64_w, i32_w]
                     rfl
                    refine pure_ (i := 8) (N := some 75) (v := ?_) (a' := ?_) #[bY,bY,bY,bY,bY,bY,bY,bY,bY] rfl rfl (any_of HT_.out (by kernel_rfl)) (fun _ _ _ h => h) (Or.inl ⟨by rfl, ?_⟩) ?_ ?_
                    rotate_left
                    ·intro w'
                     go_simp
                     with_reducible rfl
                    rotate_left
                    ·simp only [Act.put, sTA, sZ, sS, i64_w, i32_w]
                     rfl
                    refine done_ (done_of HT_.out (by kernel_rfl)) ?_
                    try go_wp2
                    have n0_ := aK (Kd.R_drew HO_7.out)
                    have n1_ := aK (kD BK917.out)
                    have n2_ := aK (kD BK918.out)
                    have n3_ := aK (kD BK919.out)
                    have n4_ := aK (IsS151.drew HI0.out)
                    have n5_ := aK (keep_drew HK.out)
                    have n6_ := aK (bD1 HB.out)
                    clear HO_7
                    clear BK917
                    clear BK918
                    clear BK919
                    clear HI0
                    clear HK
                    clear HB
                    have HO_7 := n0_
                    have BK917 := n1_
                    have BK918 := n2_
                    have BK919 := n3_
                    have HI0 := n4_
                    have HK := n5_
                    have HB := n6_
                    clear n0_ n1_ n2_ n3_ n4_ n5_ n6_
                    refine start_ (n := 7) (S := fun w' => w'.cell? ⟨gb919, 0, none⟩ = some (.int .i64 a1_0) ∧ w'.cell? ⟨gb919, 1, none⟩ = some (.int .i64 a1_1) ∧ w'.cell? ⟨gb919, 2, none⟩ = some (.int .i64 x920002_3)) (ds := [6]) #[bN,bN,bN,bN,bN,bN,bN] (by kernel_rfl) rfl rfl ⟨(kC BK919.out 0).trans rfl, (kC BK919.out 1).trans rfl, (kC BK919.out 2).trans rfl⟩ (fun hHeld => ?_)
                    generalize w67.drew = w68 at HO_7 BK917 BK918 BK919 HI0 HK HB hHeld ⊢
                    refine pure_ (i := 0) (N := some 76) (v := ?_) (a' := ?_) #[bY,bN,bN,bN,bN,bN,bN] rfl rfl (by kernel_rfl) (fun _ _ _ h => h) (Or.inl ⟨by rfl, ?_⟩) ?_ ?_
                    rotate_left
                    ·intro w'
                     go_simp
                     with_reducible rfl
                    rotate_left
                    ·simp only [Act.put, sTA, sZ, sS, i64_w, i32_w]
                     rfl
                    refine pure_ (i := 2) (N := some 78) (v := ?_) (a' := ?_) #[bY,bN,bY,bN,bN,bN,bN] rfl rfl (by kernel_rfl) (fun _ _ _ h => h) (Or.inl ⟨by rfl, ?_⟩) ?_ ?_
                    rotate_left
                    ·intro w'
                     go_simp
                     with_reducible rfl
                    rotate_left
                    ·simp only [Act.put, sTA, sZ, sS, i64_w, i32_w]
                     rfl
                    refine pure_ (i := 3) (N := some 79) (v := ?_) (a' := ?_) #[bY,bN,bY,bY,bN,bN,bN] rfl rfl (by kernel_rfl) (fun _ _ _ h => h) (Or.inl ⟨by rfl, ?_⟩) ?_ ?_
                    rotate_left
                    ·intro w'
                     go_simp
                     with_reducible rfl
                    rotate_left
                    ·simp only [Act.put, sTA, sZ, sS, i64_w, i32_w]
                     rfl
                    refine take_ (i := 1) (N := some 77) (v := ?_) (a' := ?_) #[bY,bY,bY,bY,bN,bN,bN] rfl rfl (by kernel_rfl) (fun _ _ _ h => h) (Or.inl ⟨by rfl, ?_⟩) hHeld ?_ ?_
                    rotate_left
                    ·rintro w' ⟨s0, s1, s2⟩
                     go_simp
                     with_reducible rfl
                    rotate_left
                    ·simp only [Act.put, sTA, sZ, sS, i64_w, i32_w]
                     rfl
                    refine pure_ (i := 4) (N := some 80) (v := ?_) (a' := ?_) #[bY,bY,bY,bY,bY,bN,bN] rfl rfl (by kernel_rfl) (fun _ _ _ h => h) (Or.inl ⟨by rfl, ?_⟩) ?_ ?_
                    rotate_left
                    ·intro w'
                     go_simp
                     with_reducible rfl
                    rotate_left
                    ·simp only [Act.put, sTA, sZ, sS, i64_w, i32_w]
                     rfl
                    refine pure_ (i := 5) (N := some 81) (v := ?_) (a' := ?_) #[bY,bY,bY,bY,bY,bY,bN] rfl rfl (by kernel_rfl) (fun _ _ _ h => h) (Or.inl ⟨by rfl, ?_⟩) ?_ ?_
                    rotate_left
                    ·intro w'
                     go_simp
                     with_reducible rfl
                    rotate_left
                    ·simp only [Act.put, sTA, sZ, sS, i64_w, i32_w]
                     rfl
                    refine last_ (i := 6) (N := none) #[bY,bY,bY,bY,bY,bY,bY] rfl rfl (by kernel_rfl) (by decide) (fun K hK => ?_)
                    have hs69 : w68.cell? ⟨gb919, 2, none⟩ = some (.int .i64 x920002_3) := (kC BK919.out 2).trans rfl
                    have hfs69 := kF BK919.out 2
                    have hns69_0 := NB917_919.out
                    have hns69_1 := NB918_919.out
                    have hms69_0 := NB919_917.out
                    have hms69_1 := NB919_918.out
                    refine skip_ (w1 := ?_) (by rfl) rfl ?_ ?_
                    rotate_left
                    ·go_simp
                     rfl
                    refine hK.out _ _ ?_
                    clear hK K
                    refine done_ (by kernel_rfl) ?_
                    have p937 : 0 ≤ (t934 : Int) := of_decide_eq_true (by first | (with_reducible assumption) | assumption)
                    have q937 : t934 < (x7_3.length : Int) := of_decide_eq_true (by first | (with_reducible assumption) | assumption)
                    obtain ⟨ad937, e937, hx937_0⟩ := Kd.at_int (Kd.R_reads' HO_7.out).2.2 t934 p937 q937
                    obtain rfl : ad935 = ad937 := (by injection e937)
                    have hn937_0 : ad935.block ≠ gb919 := Kd.own_blk (Kd.R_ne HO_7.out BK919.out (by decide))
                    replace hx937_0 := (cell_far (p := ⟨gb919, 2, none⟩) (by first | (rw [add_block]; exact hn937_0) | (show (Addr.add _ _).block ≠ _; rw [add_block]; exact hn937_0) | exact hn937_0) (.int .i64 (Go.bits .or .i64 x920002_3 (ji61)))).trans hx937_0
                    clear hn937_0
                    replace p937 := eq_true p937
                    replace q937 := eq_true q937
                    try go_wp2
                    go_loopg [16] k3 (fun kq v16 w' => ∃ (x7_4 : List Int) (x16_4 : Int), v16 = .int .i64 x16_4 ∧ Aside0 (spec_l03Tree.l3 kq t920 x7_4 t926 x10_2 x11_3 t933 (rd x7_3 t934) x16_4 s0_0 t930 t931 a1_0 a1_1 a1_0 a1_1 (Go.bits .or .i64 x920002_3 (ji61)) = some (r1, r2, r3, r4, r5)) ∧ Aside0 (kq ≤ k3) ∧ Aside0 (Kd.R (Kd.int .i64) 3 w' w.heap.size (fun _ => True) (.slice (some ad935) x7_3.length co40) x7_4) ∧ Aside0 (w'.heap[gb917]? = some (.cells #[.int .i64 a1_0, .int .i64 a1_1] 30 (0, 0))) ∧ Aside0 (w'.heap[gb918]? = some (.cells #[.int .i64 0, .int .i64 0, .int .i64 0] 32 (0, 0))) ∧ Aside0 (w'.heap[gb919]? = some (.cells #[.int .i64 a1_0, .int .i64 a1_1, .int .i64 (Go.bits .or .i64 x920002_3 (ji61))] 32 (0, 0))) ∧ Aside0 (IsS151 w0 w' g s0_0 t930 t931) ∧ Aside0 (KeepBut w w' g none) ∧ Aside0 (Below w0.heap.size w0 w'))
                    case atStart => exact ⟨(x7_3), (0), (by first | rfl | (simp; done) | (simp [*]; done)), H', ⟨Nat.le_refl _⟩, ⟨by (try simp only [hl7_3]); (with_reducible repeat (first | apply Kd.R_alloc | apply Kd.R_drewN | apply Kd.R_drew)); exact Kd.R_mono (Kd.R_far (p := ⟨gb919, 2, none⟩) (Kd.R_types HO_7.out BK919.out (by decide)) (fun _ hk => hk.2) (.int .i64 (Go.bits .or .i64 x920002_3 (ji61)))) (fun _ hk => trivial)⟩, ⟨by (try simp only [hl7_3]); (with_reducible repeat (first | refine kDN ?_ _ | refine kD ?_ | refine kA ?_ _)); refine blk_far ?_ NB917_919.out _; (with_reducible repeat (first | refine kDN ?_ _ | refine kD ?_ | refine kA ?_ _)); exact BK917.out⟩, ⟨by (try simp only [hl7_3]); (with_reducible repeat (first | refine kDN ?_ _ | refine kD ?_ | refine kA ?_ _)); refine blk_far ?_ NB918_919.out _; (with_reducible repeat (first | refine kDN ?_ _ | refine kD ?_ | refine kA ?_ _)); exact BK918.out⟩, ⟨by (try simp only [hl7_3]); (with_reducible repeat (first | refine kDN ?_ _ | refine kD ?_ | refine kA ?_ _)); refine blk_put (cs := #[.int .i64 a1_0, .int .i64 a1_1, .int .i64 x920002_3]) ?_ 2 _ rfl; (with_reducible repeat (first | refine kDN ?_ _ | refine kD ?_ | refine kA ?_ _)); exact BK919.out⟩, ⟨by repeat (first | (with_reducible first | exact HI0.out | apply IsS151.alloc | apply IsS151.drewN | apply IsS151.drew | apply IsS151.set_1 | apply IsS151.set_2 | refine IsS151.far ?_ NB0_917.out _ | refine IsS151.far ?_ NB0_918.out _ | refine IsS151.far ?_ NB0_919.out _) | exact HI0.out)⟩, ⟨by repeat (first | (with_reducible first | exact HK.out | apply KeepBut.set_ | apply keep_drewN | apply keep_drew | apply keep_alloc | refine keep_far ?_ GW917.out _ | refine keep_far ?_ GW918.out _ | refine keep_far ?_ GW919.out _) | exact HK.out)⟩, ⟨by repeat (first | (with_reducible first | exact HB.out | apply bAl | apply bDN | apply bD1 | refine bSt ?_ (IsS151.ge HI0.out) | refine bSt ?_ GE917.out | refine bSt ?_ GE918.out | refine bSt ?_ GE919.out) | exact HB.out)⟩⟩
                    case round =>
                     clear H'
                     try clear c1
                     try clear c2
                     try clear p2
                     try clear q2
                     try clear hx2
                     try clear hf2
                     try clear c3
                     try clear c4
                     try clear c5
                     try clear c5b0
                     try clear c5b1
                     try clear c6
                     try clear c6b0
                     try clear c6b1
                     try clear p6
                     try clear c9
                     try clear p9
                     try clear q9
                     try clear hx9
                     try clear c10
                     try clear c12
                     try clear c13
                     try clear c14
                     try clear c15
                     try clear c16
                     try clear c23
                     try clear c23b0
                     try clear c24
                     try clear c24b0
                     try clear p25
                     try clear q25
                     try clear hx25
                     try clear hf25
                     try clear c29
                     try clear c29b0
                     try clear c29b1
                     try clear c31
                     try clear c32
                     try clear c33
                     try clear c35
                     try clear c36
                     try clear c44
                     try clear c45
                     try clear c45b0
                     try clear c46
                     try clear c46b0
                     try clear c46b1
                     try clear c48
                     try clear c48b0
                     try clear c49
                     try clear c49b0
                     try clear c50
                     try clear c50b0
                     try clear c51
                     try clear c51b0
                     try clear c52
                     try clear c52b0
                     try clear c52b1
                     try clear c53
                     try clear c54
                     try clear c55
                     try clear c60
                     try clear c60b0
                     try clear c60b1
                     try clear c62
                     try clear c63
                     try clear c64
                     try clear p64
                     try clear hcz11_0
                     try clear hcz11_1
                     try clear hcz16_0
                     try clear hcz16_1
                     try clear hcz16_2
                     try clear hcz17_0
                     try clear hcz17_1
                     try clear hcz19_0
                     try clear hcz19_1
                     try clear hcz34_0
                     try clear hcz34_1
                     try clear hcz34_2
                     try clear hcz37_0
                     try clear hcz37_1
                     try clear hcz37_2
                     try clear hcz56_0
                     try clear hcz56_1
                     try clear hcz65_0
                     try clear hcz65_1
                     try clear hfz11_0
                     try clear hfz11_1
                     try clear hfz16_0
                     try clear hfz16_1
                     try clear hfz16_2
                     try clear hfz17_0
                     try clear hfz17_1
                     try clear hfz19_0
                     try clear hfz19_1
                     try clear hfz34_0
                     try clear hfz34_1
                     try clear hfz34_2
                     try clear hfz37_0
                     try clear hfz37_1
                     try clear hfz37_2
                     try clear hfz56_0
                     try clear hfz56_1
                     try clear hfz65_0
                     try clear hfz65_1
                     try clear hx25_0
                     try clear hx935_0
                     try clear hx936_0
                     try clear hx937_0
                     try clear p2
                     try clear p25
                     try clear p6
                     try clear p935
                     try clear p936
                     try clear p937
                     try clear q2
                     try clear q25
                     try clear q935
                     try clear q936
                     try clear q937
                     obtain ⟨x7_4, x16_4, rfl, HA, HK4, HO_7, BK917, BK918, BK919, HI0, HK, HB⟩ := hrel
                     have hl7_4 := (Kd.R_reads' HO_7.out).1
                     rw [hl7_4] at HO_7
                     (try simp only [hl7_4])
                     (try simp only [hl7_4] at BK917)
                     (try simp only [hl7_4] at BK918)
                     (try simp only [hl7_4] at BK919)
                     cases gk with
                     | zero => exact absurd HA.out (by simp [spec_l03Tree.l3])
                     | succ k4 =>
                      have H := HA.out
                      clear HA
                      simp only [spec_l03Tree.l3] at H
                      by_cases c70 : x16_4 < (x7_4.length : Int)
                      ·rw [if_pos c70] at H
                       have c70b0 : decide (x16_4 < (x7_4.length : Int)) = true := decide_eq_true c70
                       clear c70
                       by_cases c71 : 0 ≤ x16_4
                       ·rw [if_pos c71] at H
                        have c71b0 : decide (0 ≤ x16_4) = true := decide_eq_true c71
                        clear c71
                        by_cases c72 : (rd x7_4 x16_4) = (rd x7_3 t934)
                        ·rw [if_pos c72] at H
                         have c72b0 : ((rd x7_4 x16_4) == (rd x7_3 t934)) = true := beq_iff_eq.mpr c72
                         have c72b1 : ((rd x7_4 x16_4) != (rd x7_3 t934)) = false := bne_eq_false_iff_eq.mpr c72
                         clear c72
                         by_cases c73 : 0 ≤ t933
                         ·rw [if_pos c73] at H
                          have c73b0 : decide (0 ≤ t933) = true := decide_eq_true c73
                          clear c73
                          by_cases c74 : t933 < (x7_4.length : Int)
                          ·rw [if_pos c74] at H
                           have c74b0 : decide (t933 < (x7_4.length : Int)) = true := decide_eq_true c74
                           clear c74
                           obtain ⟨y940, hy940⟩ : ∃ y_ : List Int, y_ = (x7_4.set (x16_4 : Int).toNat (rd x7_4 t933)) := ⟨_, rfl⟩
                           replace H : (spec_l03Tree.l3 k4 t920 y940 t926 x10_2 x11_3 t933 (rd x7_3 t934) (wrap64 (x16_4 + 1)) s0_0 t930 t931 a1_0 a1_1 a1_0 a1_1 (Go.bits .or .i64 x920002_3 (ji61))) = some (r1, r2, r3, r4, r5) := by first | (rw [hy940]; with_reducible exact H) | (have H2_ := (Option.bind_some _ _).symm.trans H; rw [hy940]; with_reducible exact H2_) | (have H2_ := (Option.bind_some _ _).symm.trans H; with_reducible exact H2_) | with_reducible exact H | (rw [hy940]; exact H) | exact H
                           have Ny940 := aK hy940
                           clear hy940
                           have H' := aK H
                           clear H
                           have p938 : 0 ≤ (x16_4 : Int) := of_decide_eq_true (by first | (with_reducible assumption) | assumption)
                           have q938 : x16_4 < (x7_4.length : Int) := of_decide_eq_true (by first | (with_reducible assumption) | assumption)
                           obtain ⟨ad938, e938, hx938_0⟩ := Kd.at_int (Kd.R_reads' HO_7.out).2.2 x16_4 p938 q938
                           obtain rfl : ad935 = ad938 := (by injection e938)
                           replace p938 := eq_true p938
                           replace q938 := eq_true q938
                           have p939 : 0 ≤ (t933 : Int) := of_decide_eq_true (by first | (with_reducible assumption) | assumption)
                           have q939 : t933 < (x7_4.length : Int) := of_decide_eq_true (by first | (with_reducible assumption) | assumption)
                           obtain ⟨ad939, e939, hx939_0⟩ := Kd.at_int (Kd.R_reads' HO_7.out).2.2 t933 p939 q939
                           obtain rfl : ad935 = ad939 := (by injection e939)
                           replace p939 := eq_true p939
                           replace q939 := eq_true q939
                           have p75 : 0 ≤ (x16_4 : Int) := of_decide_eq_true (by first | (with_reducible assumption) | assumption)
                           have q75 : (x16_4 : Int) < ((x7_4.length : Int) : Int) := of_decide_eq_true (by first | (with_reducible assumption) | assumption)
                           obtain ⟨go75, co75, eo75, gb75, gl75, cl75, HG75⟩ := Kd.R_form HO_7.out (by omega)
                           (first | cases eo75 | (injection eo75 with ea_ en_ ec_; (first | subst ea_ | (injection ea_ with ea_; subst ea_)); subst ec_; clear en_))
                           have GB75 := aK gb75
                           have GG75 := aK HG75
                           clear gb75 gl75 HG75
                           (first | simp only [add_plain] at hx935_0 | skip)
                           (first | simp only [add_plain] at hx936_0 | skip)
                           (first | simp only [add_plain] at hx937_0 | skip)
                           (first | simp only [add_plain] at hx938_0 | skip)
                           (first | simp only [add_plain] at hx939_0 | skip)
                           obtain ⟨hx75_0, hf75_0⟩ := Kd.R_celln 0 HO_7.out (x16_4 : Int) p75 q75
                           replace p75 := eq_true p75
                           replace q75 := eq_true q75
                           have HP76 := Kd.R_putg HO_7.out (x16_4 : Int) (rd x7_4 t933)
                           go_wp2_with (first | ((with_reducible refine gate_store (t := 3) (p := 104) rfl ?_); refine store_event (t := 3) (p := 104) (v := ?vo_w77) (w1 := (wr.setCell ⟨go75, (x16_4 : Int).toNat, none⟩ (.int .i64 (rd x7_4 t933)))) ?hg ?ho ?hn ?hr ?_; (case ho => rfl); (case hg => rfl); (case hn => rfl); (case hr => first | (go_simp; done) | (go_simp; rfl)); intro w77 hw; have hg : wr.grownBy w77 (some go75) := (by rw [hw]; exact HP76.2); have hp_ : Kd.R (Kd.int .i64) 3 w77 w.heap.size (fun _ => True) (.slice (some ⟨go75, 0, none⟩) x7_4.length co40) y940 := (by rw [hw, Ny940.out]; exact HP76.1); clear HP76; have n0_ := aK (hp_); have n1_ := aK (blk_grown (g := gb917) (o := .cells #[.int .i64 a1_0, .int .i64 a1_1] 30 (0, 0)) (by (with_reducible repeat (first | refine kDN ?_ _ | refine kD ?_ | refine kA ?_ _)); exact BK917.out) hg (Kd.R_ne HO_7.out BK917.out (by decide))); have n2_ := aK (blk_grown (g := gb918) (o := .cells #[.int .i64 0, .int .i64 0, .int .i64 0] 32 (0, 0)) (by (with_reducible repeat (first | refine kDN ?_ _ | refine kD ?_ | refine kA ?_ _)); exact BK918.out) hg (Kd.R_ne HO_7.out BK918.out (by decide))); have n3_ := aK (blk_grown (g := gb919) (o := .cells #[.int .i64 a1_0, .int .i64 a1_1, .int .i64 (Go.bits .or .i64 x920002_3 (ji61))] 32 (0, 0)) (by (with_reducible repeat (first | refine kDN ?_ _ | refine kD ?_ | refine kA ?_ _)); exact BK919.out) hg (Kd.R_ne HO_7.out BK919.out (by decide))); have n4_ := aK (IsS151.grown (show IsS151 w0 _ g s0_0 t930 t931 from by repeat (first | (with_reducible first | exact HI0.out | apply IsS151.alloc | apply IsS151.drewN | apply IsS151.drew | apply IsS151.set_1 | apply IsS151.set_2 | refine IsS151.far ?_ NB0_917.out _ | refine IsS151.far ?_ NB0_918.out _ | refine IsS151.far ?_ NB0_919.out _) | exact HI0.out)) hg (IsS151.own_ne HI0.out HO_7.out (by decide))); have n5_ := aK ((by rw [hw]; exact bSt (HB.out) (Nat.le_trans HL.out GB75.out) : Below w0.heap.size w0 w77)); have n6_ := aK (KeepBut.trans (by repeat (first | (with_reducible first | exact HK.out | apply KeepBut.set_ | apply keep_drewN | apply keep_drew | apply keep_alloc | refine keep_far ?_ GW917.out _ | refine keep_far ?_ GW918.out _ | refine keep_far ?_ GW919.out _) | exact HK.out)) (KeepBut.of_grown hg g) (Kd.R_base2 HO_7.out)); clear HO_7; clear BK917; clear BK918; clear BK919; clear HI0; clear HB; clear HK; have HO_7 := n0_; have BK917 := n1_; have BK918 := n2_; have BK919 := n3_; have HI0 := n4_; have HB := n5_; have HK := n6_; clear n0_ n1_ n2_ n3_ n4_ n5_ n6_; clear hg hw hp_))
                           (try simp only [← hl7_4])
                           (try simp only [add_plain] at *)
                           go_roundg k4
                           case measure => have := HK1.out; have := HK2.out; have := HK3.out; have := HK4.out; omega
                           case rel => exact ⟨(y940), (wrap64 (x16_4 + 1)), (by first | rfl | (simp; done) | (simp [*]; done)), H', ⟨by have := HK1.out; have := HK2.out; have := HK3.out; have := HK4.out; omega⟩, ⟨by (try simp only [hl7_3]); (try simp only [hl7_4]); (with_reducible repeat (first | apply Kd.R_alloc | apply Kd.R_drewN | apply Kd.R_drew)); exact HO_7.out⟩, ⟨by (try simp only [hl7_3]); (try simp only [hl7_4]); (with_reducible repeat (first | refine kDN ?_ _ | refine kD ?_ | refine kA ?_ _)); exact BK917.out⟩, ⟨by (try simp only [hl7_3]); (try simp only [hl7_4]); (with_reducible repeat (first | refine kDN ?_ _ | refine kD ?_ | refine kA ?_ _)); exact BK918.out⟩, ⟨by (try simp only [hl7_3]); (try simp only [hl7_4]); (with_reducible repeat (first | refine kDN ?_ _ | refine kD ?_ | refine kA ?_ _)); exact BK919.out⟩, ⟨by repeat (first | (with_reducible first | exact HI0.out | apply IsS151.alloc | apply IsS151.drewN | apply IsS151.drew | apply IsS151.set_1 | apply IsS151.set_2 | refine IsS151.far ?_ NB0_917.out _ | refine IsS151.far ?_ NB0_918.out _ | refine IsS151.far ?_ NB0_919.out _) | exact HI0.out)⟩, ⟨by repeat (first | (with_reducible first | exact HK.out | apply KeepBut.set_ | apply keep_drewN | apply keep_drew | apply keep_alloc | refine keep_far ?_ GW917.out _ | refine keep_far ?_ GW918.out _ | refine keep_far ?_ GW919.out _) | exact HK.out)⟩, ⟨by repeat (first | (with_reducible first | exact HB.out | apply bAl | apply bDN | apply bD1 | refine bSt ?_ (IsS151.ge HI0.out) | refine bSt ?_ GE917.out | refine bSt ?_ GE918.out | refine bSt ?_ GE919.out) | exact HB.out)⟩⟩
                          ·rw [if_neg c74] at H
                           exact absurd H (by simp)
                         ·rw [if_neg c73] at H
                          exact absurd H (by simp)
                        ·rw [if_neg c72] at H
                         have c72b0 : ((rd x7_4 x16_4) == (rd x7_3 t934)) = false := beq_eq_false_iff_ne.mpr c72
                         have c72b1 : ((rd x7_4 x16_4) != (rd x7_3 t934)) = true := bne_iff_ne.mpr c72
                         have H' := aK H
                         clear H
                         have p938 : 0 ≤ (x16_4 : Int) := of_decide_eq_true (by first | (with_reducible assumption) | assumption)
                         have q938 : x16_4 < (x7_4.length : Int) := of_decide_eq_true (by first | (with_reducible assumption) | assumption)
                         obtain ⟨ad938, e938, hx938_0⟩ := Kd.at_int (Kd.R_reads' HO_7.out).2.2 x16_4 p938 q938
                         obtain rfl : ad935 = ad938 := (by injection e938)
                         replace p938 := eq_true p938
                         replace q938 := eq_true q938
                         go_wp2
                         (try simp only [← hl7_4])
                         (try simp only [add_plain] at *)
                         go_roundg k4
                         case measure => have := HK1.out; have := HK2.out; have := HK3.out; have := HK4.out; omega
                         case rel => exact ⟨(x7_4), (wrap64 (x16_4 + 1)), (by first | rfl | (simp; done) | (simp [*]; done)), H', ⟨by have := HK1.out; have := HK2.out; have := HK3.out; have := HK4.out; omega⟩, ⟨by (try simp only [hl7_3]); (try simp only [hl7_4]); (with_reducible repeat (first | apply Kd.R_alloc | apply Kd.R_drewN | apply Kd.R_drew)); exact HO_7.out⟩, ⟨by (try simp only [hl7_3]); (try simp only [hl7_4]); (with_reducible repeat (first | refine kDN ?_ _ | refine kD ?_ | refine kA ?_ _)); exact BK917.out⟩, ⟨by (try simp only [hl7_3]); (try simp only [hl7_4]); (with_reducible repeat (first | refine kDN ?_ _ | refine kD ?_ | refine kA ?_ _)); exact BK918.out⟩, ⟨by (try simp only [hl7_3]); (try simp only [hl7_4]); (with_reducible repeat (first | refine kDN ?_ _ | refine kD ?_ | refine kA ?_ _)); exact BK919.out⟩, ⟨by repeat (first | (with_reducible first | exact HI0.out | apply IsS151.alloc | apply IsS151.drewN | apply IsS151.drew | apply IsS151.set_1 | apply IsS151.set_2 | refine IsS151.far ?_ NB0_917.out _ | refine IsS151.far ?_ NB0_918.out _ | refine IsS151.far ?_ NB0_919.out _) | exact HI0.out)⟩, ⟨by repeat (first | (with_reducible first | exact HK.out | apply KeepBut.set_ | apply keep_drewN | apply keep_drew | apply keep_alloc | refine keep_far ?_ GW917.out _ | refine keep_far ?_ GW918.out _ | refine keep_far ?_ GW919.out _) | exact HK.out)⟩, ⟨by repeat (first | (with_reducible first | exact HB.out | apply bAl | apply bDN | apply bD1 | refine bSt ?_ (IsS151.ge HI0.out) | refine bSt ?_ GE917.out | refine bSt ?_ GE918.out | refine bSt ?_ GE919.out) | exact HB.out)⟩⟩
                       ·rw [if_neg c71] at H
                        exact absurd H (by simp)
                      ·rw [if_neg c70] at H
                       have c70b0 : decide (x16_4 < (x7_4.length : Int)) = false := decide_eq_false c70
                       clear c70
                       have H' := aK H
                       clear H
                       go_wp2
                       (try simp only [← hl7_3, ← hl7_4])
                       (try simp only [add_plain] at *)
                       go_roundg k4
                       case measure => have := HK1.out; have := HK2.out; have := HK3.out; have := HK4.out; omega
                       case rel => exact ⟨(x7_4), (wrap64 (x11_3 + 1)), ((Go.bits .or .i64 x920002_3 (ji61))), (by first | rfl | (simp; done) | (simp [*]; done)), H', ⟨by have := HK1.out; have := HK2.out; have := HK3.out; have := HK4.out; omega⟩, ⟨by (try simp only [hl7_3]); (try simp only [hl7_4]); (with_reducible repeat (first | apply Kd.R_alloc | apply Kd.R_drewN | apply Kd.R_drew)); exact HO_7.out⟩, ⟨by (try simp only [hl7_3]); (try simp only [hl7_4]); (with_reducible repeat (first | refine kDN ?_ _ | refine kD ?_ | refine kA ?_ _)); exact BK917.out⟩, ⟨by (try simp only [hl7_3]); (try simp only [hl7_4]); (with_reducible repeat (first | refine kDN ?_ _ | refine kD ?_ | refine kA ?_ _)); exact BK918.out⟩, ⟨by (try simp only [hl7_3]); (try simp only [hl7_4]); (with_reducible repeat (first | refine kDN ?_ _ | refine kD ?_ | refine kA ?_ _)); exact BK919.out⟩, ⟨by repeat (first | (with_reducible first | exact HI0.out | apply IsS151.alloc | apply IsS151.drewN | apply IsS151.drew | apply IsS151.set_1 | apply IsS151.set_2 | refine IsS151.far ?_ NB0_917.out _ | refine IsS151.far ?_ NB0_918.out _ | refine IsS151.far ?_ NB0_919.out _) | exact HI0.out)⟩, ⟨by repeat (first | (with_reducible first | exact HK.out | apply KeepBut.set_ | apply keep_drewN | apply keep_drew | apply keep_alloc | refine keep_far ?_ GW917.out _ | refine keep_far ?_ GW918.out _ | refine keep_far ?_ GW919.out _) | exact HK.out)⟩, ⟨by repeat (first | (with_reducible first | exact HB.out | apply bAl | apply bDN | apply bD1 | refine bSt ?_ (IsS151.ge HI0.out) | refine bSt ?_ GE917.out | refine bSt ?_ GE918.out | refine bSt ?_ GE919.out) | exact HB.out)⟩⟩
                   ·rw [if_neg c60] at H
                    exact absurd H (by simp)
                 ·rw [if_neg c51] at H
                  exact absurd H (by simp)
                ·rw [if_neg c50] at H
                 exact absurd H (by simp)
               ·rw [if_neg c49] at H
                exact absurd H (by simp)
              ·rw [if_neg c48] at H
               exact absurd H (by simp)
            ·rw [if_neg c45] at H
             have c45b0 : decide (x11_3 < t920) = false := decide_eq_false c45
             clear c45
             simp only [Option.some.injEq, Prod.mk.injEq] at H
             obtain ⟨rfl, rfl, rfl, rfl, rfl⟩ := H
             have hnb78 := NB919_917.out
             have hnc78 := NB917_919.out
             have hnb79 := NB919_918.out
             have hnc79 := NB918_919.out
             have hnb80 := NB919_0.out
             have hnc80 := NB0_919.out
             obtain ⟨hcz81_0, hcz81_1, hcz81_2, hfz81_0, hfz81_1, hfz81_2⟩ := cl3 BK919.out
             have hnb82 := NB918_917.out
             have hnc82 := NB917_918.out
             have hnb83 := NB918_0.out
             have hnc83 := NB0_918.out
             obtain ⟨hcz84_0, hcz84_1, hcz84_2, hfz84_0, hfz84_1, hfz84_2⟩ := cl3 BK918.out
             go_wp2
             refine bodyPost_ret (results_cell_row rfl _ _ gb918 32 #[.int .i64 a1_0, .int .i64 a1_1, .int .i64 x920002_3] (0, 0) _ rfl (by (with_reducible repeat (first | refine kDN ?_ _ | refine kD ?_ | refine kA ?_ _)); refine blk_put (cs := #[.int .i64 a1_0, .int .i64 a1_1, .int .i64 0]) ?_ 2 _ rfl; (with_reducible repeat (first | refine kDN ?_ _ | refine kD ?_ | refine kA ?_ _)); refine blk_put (cs := #[.int .i64 a1_0, .int .i64 0, .int .i64 0]) ?_ 1 _ rfl; (with_reducible repeat (first | refine kDN ?_ _ | refine kD ?_ | refine kA ?_ _)); refine blk_put (cs := #[.int .i64 0, .int .i64 0, .int .i64 0]) ?_ 0 _ rfl; (with_reducible repeat (first | refine kDN ?_ _ | refine kD ?_ | refine kA ?_ _)); exact BK918.out) Try.underlying32 rfl (by kernel_rfl)) rfl ?_
             exact ⟨by first | rfl | (simp [errW_none, errW_some] <;> rfl) | (simp [*, errW_none, errW_some] <;> rfl), by repeat (first | (with_reducible first | exact HI0.out | apply IsS151.alloc | apply IsS151.drewN | apply IsS151.drew | apply IsS151.set_1 | apply IsS151.set_2 | refine IsS151.far ?_ NB0_917.out _ | refine IsS151.far ?_ NB0_918.out _ | refine IsS151.far ?_ NB0_919.out _) | exact HI0.out), by repeat (first | (with_reducible first | exact HB.out | apply bAl | apply bDN | apply bD1 | refine bSt ?_ (IsS151.ge HI0.out) | refine bSt ?_ GE917.out | refine bSt ?_ GE918.out | refine bSt ?_ GE919.out) | exact HB.out), by repeat (first | (with_reducible first | exact HK.out | apply KeepBut.set_ | apply keep_drewN | apply keep_drew | apply keep_alloc | refine keep_far ?_ GW917.out _ | refine keep_far ?_ GW918.out _ | refine keep_far ?_ GW919.out _) | exact HK.out)⟩
  ·rw [if_neg c6] at H
   exact absurd H (by simp)
 ·rw [if_neg c5] at H
  exact absurd H (by simp)
end Go.Proofs.Ytimejdhglmajdaa.F
end
