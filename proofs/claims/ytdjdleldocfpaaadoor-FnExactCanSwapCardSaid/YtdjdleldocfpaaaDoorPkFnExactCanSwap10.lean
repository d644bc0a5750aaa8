/- Packed by a program of the session (wip/tools/pack.py): what the claim's theorem reaches, of the texts that wip/ and the kit's printer lay. -/
import Derived.Test.YtdjdleldocfpaaaDoorPkFnExactCanSwap9
section
namespace Go.Proofs.YtdjdleldocfpaaaDoor.F
open Go.RowKit Go.Proofs.YtdjdleldocfpaaaDoorW.PrintWords Go.Proofs.YtdjdleldocfpaaaDoorW.PrintLast Go.Proofs.YtdjdleldocfpaaaDoorW.PrintMore
set_option linter.unusedVariables false
set_option linter.unusedSimpArgs false
attribute [local go_sem] max2_int min2_int max_two min_two
def spec_CrowdOk.T4 : Bool × List (List Nat × List Nat) := (true, [([], []), ([], []), ([], []), ([1, 2], [1, 2]), ([3], [3]), ([0, 4], [0, 4]), ([5], [5]), ([6, 5], [6]), ([7], [7]), ([7], [7]), ([8, 9, 7], [7, 8, 9]), ([7], [7]), ([7], [7]), ([11, 12, 7], [7, 11, 12]), ([13, 7], [7, 13]), ([10, 14, 7, 7], [7, 10, 14]), ([7, 15], [7, 15])])
def spec_CrowdOk.B4 : List Nat := [0, 0, 0, 6, 14, 31, 63, 127, 255, 255, 1023, 255, 255, 6399, 14591, 32767, 65535]
theorem spec_CrowdOk.tab4 : rtab .any (opsOf Tryd.f45 4) = spec_CrowdOk.T4 := by kernel_rfl
theorem spec_CrowdOk.bits4 : waitsOk spec_CrowdOk.T4.2 spec_CrowdOk.B4 = true := by kernel_rfl
set_option maxHeartbeats 8000000 in
set_option maxRecDepth 100000 in
theorem spec_CrowdOk.calls (k : Nat) (a0_0 : Int) (a0_1 : Int) (a0_2 : Int) (A1 : Option Addr) (c1 : Nat) (l1 : List Int) (r : Bool) (w : World) (hr1 : Kd.C (Kd.int .i64) w A1 l1.length l1) (hc1 : l1.length ≤ c1) (h : spec_CrowdOk.f k a0_0 a0_1 a0_2 l1 = some r) :
  Calls Tryd.prog 45 #[.agg #[.int .i64 a0_0, .int .i64 a0_1, .int .i64 a0_2], .slice A1 l1.length c1] w fun e w' => e = .returned (.bool r) ∧ Below w.heap.size w w' := by
 have hu41 := Tryd.underlying41
 have HR1 := aK hr1
 have HC1 := aK hc1
 clear hr1 hc1
 have HB := aK (Below.refl w.heap.size w)
 have H : (spec_CrowdOk.l0 k l1 0 a0_0 a0_1 a0_2) = some r := h
 clear h
 have H' := aK H
 clear H
 go_enter Tryd.func45, Tryd.ntmps45
 go_wp2_with (first | ((with_reducible refine gate_dst (N := 2) rfl ?_); (try (refine gate_guard (by rfl) ?_; dsimp only)); refine box_event ?hg (N := 2) ?hd (cs := #[.int .i64 a0_0, .int .i64 a0_1, .int .i64 a0_2]) (t := 41) ?hr ?_; (case hd => rfl); (case hg => rfl); (case hr => first | (go_simp; done) | (go_simp; rfl)); intro gb323 hg w3 hbox hb; have BK323 := aK (hbox); have GW323 := aK ((by rw [hg]; exact (bSz (zH0 HB)) : w.heap.size ≤ gb323)); replace HB := aK (bSp (zH0 HB) hb); have GE323 := GW323; clear hb hbox hg))
 go_loopg [5] k (fun kq v5 w' => ∃ (x5_1 : Int), v5 = .int .i64 x5_1 ∧ Aside0 (spec_CrowdOk.l0 kq l1 x5_1 a0_0 a0_1 a0_2 = some r) ∧ Aside0 (kq ≤ k) ∧ Aside0 (w'.heap[gb323]? = some (.cells #[.int .i64 a0_0, .int .i64 a0_1, .int .i64 a0_2] 41 (0, 0))) ∧ Aside0 (Below w.heap.size w w'))
 case atStart => exact ⟨(0), (by first | rfl | (simp; done) | (simp [*]; done)), H', ⟨Nat.le_refl _⟩, ⟨zK BK323⟩, ⟨zH1 HB GE323⟩⟩
 case round =>
  clear H'
  try clear c1
  try clear p2
  obtain ⟨x5_1, rfl, HA, HK1, BK323, HB⟩ := hrel
  cases gk with
  | zero => exact absurd HA.out (by simp [spec_CrowdOk.l0])
  | succ k1 =>
   have H := HA.out
   clear HA
   simp only [spec_CrowdOk.l0] at H
   by_cases c4 : x5_1 < (l1.length : Int)
   ·rw [if_pos c4] at H
    have c4b0 : decide (x5_1 < (l1.length : Int)) = true := decide_eq_true c4
    clear c4
    by_cases c5 : 0 ≤ x5_1
    ·rw [if_pos c5] at H
     have c5b0 : decide (0 ≤ x5_1) = true := decide_eq_true c5
     clear c5
     replace H := Option.bind_eq_some_iff.mp H
     obtain ⟨t326, A60, H⟩ := H
     replace H : (if t326 = true then (if x5_1 ≤ (l1.length : Int) then ((spec_l07In.f k1 (l1.take (x5_1 : Int).toNat) (rd l1 x5_1)).bind fun t329 => (if t329 = true then (some false) else (spec_CrowdOk.l0 k1 l1 (wrap64 (x5_1 + 1)) a0_0 a0_1 a0_2))) else (none)) else (some false)) = some r := H
     have A6 := aK A60
     clear A60
     by_cases c7 : t326 = true
     ·subst c7
      have H1 : (if x5_1 ≤ (l1.length : Int) then ((spec_l07In.f k1 (l1.take (x5_1 : Int).toNat) (rd l1 x5_1)).bind fun t329 => (if t329 = true then (some false) else (spec_CrowdOk.l0 k1 l1 (wrap64 (x5_1 + 1)) a0_0 a0_1 a0_2))) else (none)) = some r := by rw [if_pos rfl] at H; exact H
      clear H
      have H := H1
      clear H1
      have c8b0 := eq_true (of_decide_eq_true (by first | (with_reducible assumption) | assumption) : 0 ≤ x5_1)
      by_cases c9 : x5_1 ≤ (l1.length : Int)
      ·rw [if_pos c9] at H
       have c9b0 := eq_true c9
       have c9b1 : decide (x5_1 ≤ (l1.length : Int)) = true := decide_eq_true c9
       clear c9
       replace H := Option.bind_eq_some_iff.mp H
       obtain ⟨t329, A100, H⟩ := H
       replace H : (if t329 = true then (some false) else (spec_CrowdOk.l0 k1 l1 (wrap64 (x5_1 + 1)) a0_0 a0_1 a0_2)) = some r := H
       have A10 := aK A100
       clear A100
       by_cases c11 : t329 = true
       ·subst c11
        have H1 : (some false) = some r := by rw [if_pos rfl] at H; exact H
        clear H
        have H := H1
        clear H1
        obtain rfl := Option.some.inj H
        try go_wp2
        have n0_ := aK (kD BK323.out)
        have n1_ := aK (bD1 HB.out)
        clear BK323
        clear HB
        have BK323 := n0_
        have HB := n1_
        clear n0_ n1_
        have p325 : 0 ≤ (x5_1 : Int) := of_decide_eq_true (by first | (with_reducible assumption) | assumption)
        have q325 : x5_1 < (l1.length : Int) := of_decide_eq_true (by first | (with_reducible assumption) | assumption)
        obtain ⟨ad325, e325, hx325_0⟩ := Kd.at_int HR1.out x5_1 p325 q325
        have hw325_0 := hx325_0
        cases e325
        replace hx325_0 := (HB.out.cell (World.block_lt_of_cell? w _ hx325_0)).trans hx325_0
        replace p325 := eq_true p325
        replace q325 := eq_true q325
        have p328 : 0 ≤ (x5_1 : Int) := of_decide_eq_true (by first | (with_reducible assumption) | assumption)
        have q328 : x5_1 < (l1.length : Int) := of_decide_eq_true (by first | (with_reducible assumption) | assumption)
        obtain ⟨ad328, e328, hx328_0⟩ := Kd.at_int HR1.out x5_1 p328 q328
        have hw328_0 := hx328_0
        obtain rfl : ad325 = ad328 := (by injection e328)
        replace hx328_0 := (HB.out.cell (World.block_lt_of_cell? w _ hx328_0)).trans hx328_0
        replace p328 := eq_true p328
        replace q328 := eq_true q328
        refine start_ (n := 17) (S := fun w' => w'.cell? ⟨gb323, 0, none⟩ = some (.int .i64 a0_0) ∧ w'.cell? ⟨gb323, 1, none⟩ = some (.int .i64 a0_1) ∧ w'.cell? ⟨gb323, 2, none⟩ = some (.int .i64 a0_2) ∧ w'.cell? (ad325.add (x5_1).toNat) = some (.int .i64 (rd l1 x5_1)) ∧ w'.cell? (ad325.add (x5_1).toNat) = some (.int .i64 (rd l1 x5_1))) (ds := []) #[bN,bN,bN,bN,bN,bN,bN,bN,bN,bN,bN,bN,bN,bN,bN,bN,bN] (by kernel_rfl) rfl rfl ⟨zQ BK323 0, zQ BK323 1, zQ BK323 2, ((HB.out.cell (World.block_lt_of_cell? w _ hw325_0)).trans hw325_0), ((HB.out.cell (World.block_lt_of_cell? w _ hw328_0)).trans hw328_0)⟩ (fun hHeld => ?_); refine with_tabW spec_CrowdOk.tab4 spec_CrowdOk.bits4 (fun HT_ HW_ => ?_)
        generalize wr.drew = w12 at BK323 HB hx325_0 hx328_0 hHeld ⊢
        refine pure_ (i := 1) (N := some 13) (v := ?_) (a' := ?_) #[bN,bY,bN,bN,bN,bN,bN,bN,bN,bN,bN,bN,bN,bN,bN,bN,bN] rfl rfl (any_of HT_.out (by kernel_rfl)) (fun _ _ _ h => h) (Or.inl ⟨by rfl, ?_⟩) ?_ ?_
        rotate_left
        ·intro w'
         go_simp
         with_reducible rfl
        rotate_left
        ·simp only [Act.put, sTA, sZ, sS, i64_w, i32_w]
         rfl
        refine pure_ (i := 2) (N := some 14) (v := ?_) (a' := ?_) #[bN,bY,bY,bN,bN,bN,bN,bN,bN,bN,bN,bN,bN,bN,bN,bN,bN] rfl rfl (any_of HT_.out (by kernel_rfl)) (fun _ _ _ h => h) (Or.inl ⟨by rfl, ?_⟩) ?_ ?_
        rotate_left
        ·intro w'
         go_simp
         with_reducible rfl
        rotate_left
        ·simp only [Act.put, sTA, sZ, sS, i64_w, i32_w]
         rfl
        refine pure_ (i := 3) (N := some 15) (v := ?_) (a' := ?_) #[bN,bY,bY,bY,bN,bN,bN,bN,bN,bN,bN,bN,bN,bN,bN,bN,bN] rfl rfl (any_of HT_.out (by kernel_rfl)) (fun _ _ _ h => h) (Or.inl ⟨by rfl, ?_⟩) ?_ ?_
        rotate_left
        ·intro w'
         go_simp
         with_reducible rfl
        rotate_left
        ·simp only [Act.put, sTA, sZ, sS, i64_w, i32_w]
         rfl
        refine take_ (i := 0) (N := some 12) (v := ?_) (a' := ?_) #[bY,bY,bY,bY,bN,bN,bN,bN,bN,bN,bN,bN,bN,bN,bN,bN,bN] rfl rfl (take_ofW HT_.out HW_.out (by kernel_rfl)) (fun _ _ _ h => h) (Or.inl ⟨by rfl, ?_⟩) hHeld ?_ ?_
        rotate_left
        ·rintro w' ⟨s0, s1, s2, s3, s4⟩
         go_simp
         with_reducible rfl
        rotate_left
        ·simp only [Act.put, sTA, sZ, sS, i64_w, i32_w]
         rfl
        refine take_ (i := 4) (N := some 16) (v := ?_) (a' := ?_) #[bY,bY,bY,bY,bY,bN,bN,bN,bN,bN,bN,bN,bN,bN,bN,bN,bN] rfl rfl (take_ofW HT_.out HW_.out (by kernel_rfl)) (fun _ _ _ h => h) (Or.inl ⟨by rfl, ?_⟩) hHeld ?_ ?_
        rotate_left
        ·rintro w' ⟨s0, s1, s2, s3, s4⟩
         go_simp
         with_reducible rfl
        rotate_left
        ·simp only [Act.put, sTA, sZ, sS, i64_w, i32_w]
         rfl
        refine one_ (i := 5) (N := some 17) #[bY,bY,bY,bY,bY,bY,bN,bN,bN,bN,bN,bN,bN,bN,bN,bN,bN] rfl rfl (one_of HT_.out (by kernel_rfl)) (by decide) (fun K hK => ?_)
        refine goes_ Tryd.func74 (by kernel_rfl) rfl #[.agg #[.int .i64 a0_0, .int .i64 a0_1, .int .i64 a0_2], .int .i64 (rd l1 x5_1)] (by rfl) rfl rfl zD ?_
        with_reducible refine (spec_l04Has.calls a0_0 a0_1 a0_2 (rd l1 x5_1) true _ A6.out).mono ?_
        rintro e w13 ⟨rfl, hb⟩
        refine ⟨_, rfl, ?_⟩
        have n0_ := zB BK323 hb
        have n1_ := aK (bSp (zH1 HB GE323) hb)
        clear BK323
        clear HB
        have BK323 := n0_
        have HB := n1_
        clear n0_ n1_
        (try clear hb)
        (try clear hb2)
        (try clear hk)
        (try clear hi)
        obtain ⟨i014, hi014, _, hsz14, _⟩ := info_parts info3
        obtain ⟨hcut14, hA14, hC14⟩ := print_take_of (P := Tryd.prog) (Value.int .i64) 0 42 3 .i64 Tryd.underlying42 hi014 hsz14 (some ad325) c1 l1 x5_1 (of_decide_eq_true (by first | (with_reducible assumption) | assumption)) (of_decide_eq_true (by first | (with_reducible assumption) | assumption)) HC1.out
        have HR327 := aK (Kd.C_of_reads (h1 := fun _ => rfl) (hA14 _ (Kd.reads_of_C HR1.out)))
        have HC327 := aK hC14
        clear hA14 hC14 hi014 hsz14
        refine hK.out _ _ ⟨zQ BK323 0, zQ BK323 1, zQ BK323 2, ((HB.out.cell (World.block_lt_of_cell? w _ hw325_0)).trans hw325_0), ((HB.out.cell (World.block_lt_of_cell? w _ hw328_0)).trans hw328_0)⟩ (fun hHeld => ?_)
        clear hK K
        refine norm_ (a' := ?_) ?_ ?_
        rotate_left
        ·show Act.put _ (some 17) _ = _
         simp only [Act.put, sTA, sZ, sS, i64_w, i32_w]
         rfl
        refine pure_ (i := 6) (N := some 18) (v := ?_) (a' := ?_) #[bY,bY,bY,bY,bY,bY,bY,bN,bN,bN,bN,bN,bN,bN,bN,bN,bN] rfl rfl (any_of HT_.out (by kernel_rfl)) (fun _ _ _ h => h) (Or.inl ⟨by rfl, ?_⟩) ?_ ?_
        rotate_left
        ·intro w'
         go_simp
         with_reducible rfl
        rotate_left
        ·simp only [Act.put, sTA, sZ, sS, i64_w, i32_w]
         rfl
        refine pure_ (i := 7) (N := some 19) (v := ?_) (a' := ?_) #[bY,bY,bY,bY,bY,bY,bY,bY,bN,bN,bN,bN,bN,bN,bN,bN,bN] rfl rfl (any_of HT_.out (by kernel_rfl)) (fun _ _ _ h => h) (Or.inl ⟨by rfl, ?_⟩) ?_ ?_
        rotate_left
        ·intro w'
         go_simp
         with_reducible rfl
        rotate_left
        ·simp only [Act.put, sTA, sZ, sS, i64_w, i32_w]
         rfl
        refine pure_ (i := 8) (N := some 20) (v := ?_) (a' := ?_) #[bY,bY,bY,bY,bY,bY,bY,bY,bY,bN,bN,bN,bN,bN,bN,bN,bN] rfl rfl (any_of HT_.out (by kernel_rfl)) (fun _ _ _ h => h) (Or.inl ⟨by rfl, ?_⟩) ?_ ?_
        rotate_left
        ·intro w'
         go_simp
         with_reducible rfl
        rotate_left
        ·simp only [Act.put, sTA, sZ, sS, i64_w, i32_w]
         rfl
        refine pure_ (i := 9) (N := some 21) (v := ?_) (a' := ?_) #[bY,bY,bY,bY,bY,bY,bY,bY,bY,bY,bN,bN,bN,bN,bN,bN,bN] rfl rfl (any_of HT_.out (by kernel_rfl)) (fun _ _ _ h => h) (Or.inl ⟨by rfl, ?_⟩) ?_ ?_
        rotate_left
        ·intro w'
         go_simp
         with_reducible rfl
        rotate_left
        ·simp only [Act.put, sTA, sZ, sS, i64_w, i32_w]
         rfl
        refine pure_ (i := 10) (N := some 22) (v := ?_) (a' := ?_) #[bY,bY,bY,bY,bY,bY,bY,bY,bY,bY,bY,bN,bN,bN,bN,bN,bN] rfl rfl (any_of HT_.out (by kernel_rfl)) (fun _ _ _ h => h) (Or.inl ⟨by rfl, ?_⟩) ?_ ?_
        rotate_left
        ·intro w'
         go_simp
         with_reducible rfl
        rotate_left
        ·simp only [Act.put, sTA, sZ, sS, i64_w, i32_w]
         rfl
        refine pure_ (i := 11) (N := some 23) (v := ?_) (a' := ?_) #[bY,bY,bY,bY,bY,bY,bY,bY,bY,bY,bY,bY,bN,bN,bN,bN,bN] rfl rfl (any_of HT_.out (by kernel_rfl)) (fun _ _ _ h => h) (Or.inl ⟨by rfl, ?_⟩) ?_ ?_
        rotate_left
        ·intro w'
         go_simp
         with_reducible rfl
        rotate_left
        ·simp only [Act.put, sTA, sZ, sS, i64_w, i32_w]
         rfl
        refine pure_ (i := 12) (N := some 24) (v := ?_) (a' := ?_) #[bY,bY,bY,bY,bY,bY,bY,bY,bY,bY,bY,bY,bY,bN,bN,bN,bN] rfl rfl (any_of HT_.out (by kernel_rfl)) (fun _ _ _ h => h) (Or.inl ⟨by rfl, ?_⟩) ?_ ?_
        rotate_left
        ·intro w'
         go_simp
         with_reducible rfl
        rotate_left
        ·simp only [Act.put, sTA, sZ, sS, i64_w, i32_w]
         rfl
        refine pure_ (i := 13) (N := some 25) (v := ?_) (a' := ?_) #[bY,bY,bY,bY,bY,bY,bY,bY,bY,bY,bY,bY,bY,bY,bN,bN,bN] rfl rfl (any_of HT_.out (by kernel_rfl)) (fun _ _ _ h => h) (Or.inl ⟨by rfl, ?_⟩) ?_ ?_
        rotate_left
        ·intro w'
         go_simp
         with_reducible rfl
        rotate_left
        ·simp only [Act.put, sTA, sZ, sS, i64_w, i32_w]
         rfl
        refine take_ (i := 14) (N := some 26) (v := ?_) (a' := ?_) #[bY,bY,bY,bY,bY,bY,bY,bY,bY,bY,bY,bY,bY,bY,bY,bN,bN] rfl rfl (take_ofW HT_.out HW_.out (by kernel_rfl)) (fun _ _ _ h => h) (Or.inl ⟨by rfl, ?_⟩) hHeld ?_ ?_
        rotate_left
        ·rintro w' ⟨s0, s1, s2, s3, s4⟩
         go_simp
         with_reducible rfl
        rotate_left
        ·simp only [Act.put, sTA, sZ, sS, i64_w, i32_w]
         rfl
        refine one_ (i := 15) (N := some 27) #[bY,bY,bY,bY,bY,bY,bY,bY,bY,bY,bY,bY,bY,bY,bY,bY,bN] rfl rfl (one_of HT_.out (by kernel_rfl)) (by decide) (fun K hK => ?_)
        refine goes_ Tryd.func75 (by kernel_rfl) rfl #[.slice (some ad325) (l1.take (x5_1 : Int).toNat).length c1, .int .i64 (rd l1 x5_1)] (by rfl) rfl rfl (by (try simp only [List.map_toArray, List.map_cons, List.map_nil]); first | done | (rw [show (l1.take (x5_1 : Int).toNat).length = x5_1.toNat from (by rw [List.length_take]; have h_ : (x5_1 : Int) ≤ (l1.length : Int) := of_decide_eq_true (by first | (with_reducible assumption) | assumption); omega)] <;> rfl) | rfl | (simp only [List.length_drop, List.length_take]; rfl)) ?_
        with_reducible refine (spec_l07In.calls k1 _ _ (l1.take (x5_1 : Int).toNat) (rd l1 x5_1) true _ ?side1 ?side2 A10.out).mono ?_
        (case side1 => exact zC (Kd.C_below HR327.out HB.out))
        (case side2 => exact HC327.out)
        rintro e w' ⟨rfl, ⟨nd, rfl⟩⟩
        refine ⟨_, rfl, ?_⟩
        refine hK.out _ _ ⟨zQ BK323 0, zQ BK323 1, zQ BK323 2, ((HB.out.cell (World.block_lt_of_cell? w _ hw325_0)).trans hw325_0), ((HB.out.cell (World.block_lt_of_cell? w _ hw328_0)).trans hw328_0)⟩ (fun hHeld => ?_)
        clear hK K
        refine norm_ (a' := ?_) ?_ ?_
        rotate_left
        ·show Act.put _ (some 27) _ = _
         simp only [Act.put, sTA, sZ, sS, i64_w, i32_w]
         rfl
        refine pure_ (i := 16) (N := some 28) (v := ?_) (a' := ?_) #[bY,bY,bY,bY,bY,bY,bY,bY,bY,bY,bY,bY,bY,bY,bY,bY,bY] rfl rfl (any_of HT_.out (by kernel_rfl)) (fun _ _ _ h => h) (Or.inl ⟨by rfl, ?_⟩) ?_ ?_
        rotate_left
        ·intro w'
         go_simp
         with_reducible rfl
        rotate_left
        ·simp only [Act.put, sTA, sZ, sS, i64_w, i32_w]
         rfl
        refine done_ (done_of HT_.out (by kernel_rfl)) ?_
        try go_wp2
        go_ret
        exact ⟨by first | rfl | (simp [errW_none, errW_some] <;> rfl) | (simp [*, errW_none, errW_some] <;> rfl), by repeat (first | (with_reducible first | exact HB.out | apply bAl | apply bDN | apply bD1 | refine bSt ?_ GE323.out) | exact HB.out)⟩
       ·replace c11 := Bool.eq_false_iff.mpr c11
        subst c11
        have H1 : (spec_CrowdOk.l0 k1 l1 (wrap64 (x5_1 + 1)) a0_0 a0_1 a0_2) = some r := by rw [if_neg (show ¬ (false = true) by decide)] at H; exact H
        clear H
        have H := H1
        clear H1
        have H' := aK H
        clear H
        try go_wp2
        have n0_ := aK (kD BK323.out)
        have n1_ := aK (bD1 HB.out)
        clear BK323
        clear HB
        have BK323 := n0_
        have HB := n1_
        clear n0_ n1_
        have p325 : 0 ≤ (x5_1 : Int) := of_decide_eq_true (by first | (with_reducible assumption) | assumption)
        have q325 : x5_1 < (l1.length : Int) := of_decide_eq_true (by first | (with_reducible assumption) | assumption)
        obtain ⟨ad325, e325, hx325_0⟩ := Kd.at_int HR1.out x5_1 p325 q325
        have hw325_0 := hx325_0
        cases e325
        replace hx325_0 := (HB.out.cell (World.block_lt_of_cell? w _ hx325_0)).trans hx325_0
        replace p325 := eq_true p325
        replace q325 := eq_true q325
        have p328 : 0 ≤ (x5_1 : Int) := of_decide_eq_true (by first | (with_reducible assumption) | assumption)
        have q328 : x5_1 < (l1.length : Int) := of_decide_eq_true (by first | (with_reducible assumption) | assumption)
        obtain ⟨ad328, e328, hx328_0⟩ := Kd.at_int HR1.out x5_1 p328 q328
        have hw328_0 := hx328_0
        obtain rfl : ad325 = ad328 := (by injection e328)
        replace hx328_0 := (HB.out.cell (World.block_lt_of_cell? w _ hx328_0)).trans hx328_0
        replace p328 := eq_true p328
        replace q328 := eq_true q328
        refine start_ (n := 17) (S := fun w' => w'.cell? ⟨gb323, 0, none⟩ = some (.int .i64 a0_0) ∧ w'.cell? ⟨gb323, 1, none⟩ = some (.int .i64 a0_1) ∧ w'.cell? ⟨gb323, 2, none⟩ = some (.int .i64 a0_2) ∧ w'.cell? (ad325.add (x5_1).toNat) = some (.int .i64 (rd l1 x5_1)) ∧ w'.cell? (ad325.add (x5_1).toNat) = some (.int .i64 (rd l1 x5_1))) (ds := []) #[bN,bN,bN,bN,bN,bN,bN,bN,bN,bN,bN,bN,bN,bN,bN,bN,bN] (by kernel_rfl) rfl rfl ⟨zQ BK323 0, zQ BK323 1, zQ BK323 2, ((HB.out.cell (World.block_lt_of_cell? w _ hw325_0)).trans hw325_0), ((HB.out.cell (World.block_lt_of_cell? w _ hw328_0)).trans hw328_0)⟩ (fun hHeld => ?_); refine with_tabW spec_CrowdOk.tab4 spec_CrowdOk.bits4 (fun HT_ HW_ => ?_)
        generalize wr.drew = w15 at BK323 HB hx325_0 hx328_0 hHeld ⊢
        refine pure_ (i := 1) (N := some 13) (v := ?_) (a' := ?_) #[bN,bY,bN,bN,bN,bN,bN,bN,bN,bN,bN,bN,bN,bN,bN,bN,bN] rfl rfl (any_of HT_.out (by kernel_rfl)) (fun _ _ _ h => h) (Or.inl ⟨by rfl, ?_⟩) ?_ ?_
        rotate_left
        ·intro w'
         go_simp
         with_reducible rfl
        rotate_left
        ·simp only [Act.put, sTA, sZ, sS, i64_w, i32_w]
         rfl
        refine pure_ (i := 2) (N := some 14) (v := ?_) (a' := ?_) #[bN,bY,bY,bN,bN,bN,bN,bN,bN,bN,bN,bN,bN,bN,bN,bN,bN] rfl rfl (any_of HT_.out (by kernel_rfl)) (fun _ _ _ h => h) (Or.inl ⟨by rfl, ?_⟩) ?_ ?_
        rotate_left
        ·intro w'
         go_simp
         with_reducible rfl
        rotate_left
        ·simp only [Act.put, sTA, sZ, sS, i64_w, i32_w]
         rfl
        refine pure_ (i := 3) (N := some 15) (v := ?_) (a' := ?_) #[bN,bY,bY,bY,bN,bN,bN,bN,bN,bN,bN,bN,bN,bN,bN,bN,bN] rfl rfl (any_of HT_.out (by kernel_rfl)) (fun _ _ _ h => h) (Or.inl ⟨by rfl, ?_⟩) ?_ ?_
        rotate_left
        ·intro w'
         go_simp
         with_reducible rfl
        rotate_left
        ·simp only [Act.put, sTA, sZ, sS, i64_w, i32_w]
         rfl
        refine take_ (i := 0) (N := some 12) (v := ?_) (a' := ?_) #[bY,bY,bY,bY,bN,bN,bN,bN,bN,bN,bN,bN,bN,bN,bN,bN,bN] rfl rfl (take_ofW HT_.out HW_.out (by kernel_rfl)) (fun _ _ _ h => h) (Or.inl ⟨by rfl, ?_⟩) hHeld ?_ ?_
        rotate_left
        ·rintro w' ⟨s0, s1, s2, s3, s4⟩
         go_simp
         with_reducible rfl
        rotate_left
        ·simp only [Act.put, sTA, sZ, sS, i64_w, i32_w]
         rfl
        refine take_ (i := 4) (N := some 16) (v := ?_) (a' := ?_) #[bY,bY,bY,bY,bY,bN,bN,bN,bN,bN,bN,bN,bN,bN,bN,bN,bN] rfl rfl (take_ofW HT_.out HW_.out (by kernel_rfl)) (fun _ _ _ h => h) (Or.inl ⟨by rfl, ?_⟩) hHeld ?_ ?_
        rotate_left
        ·rintro w' ⟨s0, s1, s2, s3, s4⟩
         go_simp
         with_reducible rfl
        rotate_left
        ·simp only [Act.put, sTA, sZ, sS, i64_w, i32_w]
         rfl
        refine one_ (i := 5) (N := some 17) #[bY,bY,bY,bY,bY,bY,bN,bN,bN,bN,bN,bN,bN,bN,bN,bN,bN] rfl rfl (one_of HT_.out (by kernel_rfl)) (by decide) (fun K hK => ?_)
        refine goes_ Tryd.func74 (by kernel_rfl) rfl #[.agg #[.int .i64 a0_0, .int .i64 a0_1, .int .i64 a0_2], .int .i64 (rd l1 x5_1)] (by rfl) rfl rfl zD ?_
        with_reducible refine (spec_l04Has.calls a0_0 a0_1 a0_2 (rd l1 x5_1) true _ A6.out).mono ?_
        rintro e w16 ⟨rfl, hb⟩
        refine ⟨_, rfl, ?_⟩
        have n0_ := zB BK323 hb
        have n1_ := aK (bSp (zH1 HB GE323) hb)
        clear BK323
        clear HB
        have BK323 := n0_
        have HB := n1_
        clear n0_ n1_
        (try clear hb)
        (try clear hb2)
        (try clear hk)
        (try clear hi)
        obtain ⟨i017, hi017, _, hsz17, _⟩ := info_parts info3
        obtain ⟨hcut17, hA17, hC17⟩ := print_take_of (P := Tryd.prog) (Value.int .i64) 0 42 3 .i64 Tryd.underlying42 hi017 hsz17 (some ad325) c1 l1 x5_1 (of_decide_eq_true (by first | (with_reducible assumption) | assumption)) (of_decide_eq_true (by first | (with_reducible assumption) | assumption)) HC1.out
        have HR327 := aK (Kd.C_of_reads (h1 := fun _ => rfl) (hA17 _ (Kd.reads_of_C HR1.out)))
        have HC327 := aK hC17
        clear hA17 hC17 hi017 hsz17
        refine hK.out _ _ ⟨zQ BK323 0, zQ BK323 1, zQ BK323 2, ((HB.out.cell (World.block_lt_of_cell? w _ hw325_0)).trans hw325_0), ((HB.out.cell (World.block_lt_of_cell? w _ hw328_0)).trans hw328_0)⟩ (fun hHeld => ?_)
        clear hK K
        refine norm_ (a' := ?_) ?_ ?_
        rotate_left
        ·show Act.put _ (some 17) _ = _
         simp only [Act.put, sTA, sZ, sS, i64_w, i32_w]
         rfl
        refine pure_ (i := 6) (N := some 18) (v := ?_) (a' := ?_) #[bY,bY,bY,bY,bY,bY,bY,bN,bN,bN,bN,bN,bN,bN,bN,bN,bN] rfl rfl (any_of HT_.out (by kernel_rfl)) (fun _ _ _ h => h) (Or.inl ⟨by rfl, ?_⟩) ?_ ?_
        rotate_left
        ·intro w'
         go_simp
         with_reducible rfl
        rotate_left
        ·simp only [Act.put, sTA, sZ, sS, i64_w, i32_w]
         rfl
        refine pure_ (i := 7) (N := some 19) (v := ?_) (a' := ?_) #[bY,bY,bY,bY,bY,bY,bY,bY,bN,bN,bN,bN,bN,bN,bN,bN,bN] rfl rfl (any_of HT_.out (by kernel_rfl)) (fun _ _ _ h => h) (Or.inl ⟨by rfl, ?_⟩) ?_ ?_
        rotate_left
        ·intro w'
         go_simp
         with_reducible rfl
        rotate_left
        ·simp only [Act.put, sTA, sZ, sS, i64_w, i32_w]
         rfl
        refine pure_ (i := 8) (N := some 20) (v := ?_) (a' := ?_) #[bY,bY,bY,bY,bY,bY,bY,bY,bY,bN,bN,bN,bN,bN,bN,bN,bN] rfl rfl (any_of HT_.out (by kernel_rfl)) (fun _ _ _ h => h) (Or.inl ⟨by rfl, ?_⟩) ?_ ?_
        rotate_left
        ·intro w'
         go_simp
         with_reducible rfl
        rotate_left
        ·simp only [Act.put, sTA, sZ, sS, i64_w, i32_w]
         rfl
        refine pure_ (i := 9) (N := some 21) (v := ?_) (a' := ?_) #[bY,bY,bY,bY,bY,bY,bY,bY,bY,bY,bN,bN,bN,bN,bN,bN,bN] rfl rfl (any_of HT_.out (by kernel_rfl)) (fun _ _ _ h => h) (Or.inl ⟨by rfl, ?_⟩) ?_ ?_
        rotate_left
        ·intro w'
         go_simp
         with_reducible rfl
        rotate_left
        ·simp only [Act.put, sTA, sZ, sS, i64_w, i32_w]
         rfl
        refine pure_ (i := 10) (N := some 22) (v := ?_) (a' := ?_) #[bY,bY,bY,bY,bY,bY,bY,bY,bY,bY,bY,bN,bN,bN,bN,bN,bN] rfl rfl (any_of HT_.out (by kernel_rfl)) (fun _ _ _ h => h) (Or.inl ⟨by rfl, ?_⟩) ?_ ?_
        rotate_left
        ·intro w'
         go_simp
         with_reducible rfl
        rotate_left
        ·simp only [Act.put, sTA, sZ, sS, i64_w, i32_w]
         rfl
        refine pure_ (i := 11) (N := some 23) (v := ?_) (a' := ?_) #[bY,bY,bY,bY,bY,bY,bY,bY,bY,bY,bY,bY,bN,bN,bN,bN,bN] rfl rfl (any_of HT_.out (by kernel_rfl)) (fun _ _ _ h => h) (Or.inl ⟨by rfl, ?_⟩) ?_ ?_
        rotate_left
        ·intro w'
         go_simp
         with_reducible rfl
        rotate_left
        ·simp only [Act.put, sTA, sZ, sS, i64_w, i32_w]
         rfl
        refine pure_ (i := 12) (N := some 24) (v := ?_) (a' := ?_) #[bY,bY,bY,bY,bY,bY,bY,bY,bY,bY,bY,bY,bY,bN,bN,bN,bN] rfl rfl (any_of HT_.out (by kernel_rfl)) (fun _ _ _ h => h) (Or.inl ⟨by rfl, ?_⟩) ?_ ?_
        rotate_left
        ·intro w'
         go_simp
         with_reducible rfl
        rotate_left
        ·simp only [Act.put, sTA, sZ, sS, i64_w, i32_w]
         rfl
        refine pure_ (i := 13) (N := some 25) (v := ?_) (a' := ?_) #[bY,bY,bY,bY,bY,bY,bY,bY,bY,bY,bY,bY,bY,bY,bN,bN,bN] rfl rfl (any_of HT_.out (by kernel_rfl)) (fun _ _ _ h => h) (Or.inl ⟨by rfl, ?_⟩) ?_ ?_
        rotate_left
        ·intro w'
         go_simp
         with_reducible rfl
        rotate_left
        ·simp only [Act.put, sTA, sZ, sS, i64_w, i32_w]
         rfl
        refine take_ (i := 14) (N := some 26) (v := ?_) (a' := ?_) #[bY,bY,bY,bY,bY,bY,bY,bY,bY,bY,bY,bY,bY,bY,bY,bN,bN] rfl rfl (take_ofW HT_.out HW_.out (by kernel_rfl)) (fun _ _ _ h => h) (Or.inl ⟨by rfl, ?_⟩) hHeld ?_ ?_
        rotate_left
        ·rintro w' ⟨s0, s1, s2, s3, s4⟩
         go_simp
         with_reducible rfl
        rotate_left
        ·simp only [Act.put, sTA, sZ, sS, i64_w, i32_w]
         rfl
        refine one_ (i := 15) (N := some 27) #[bY,bY,bY,bY,bY,bY,bY,bY,bY,bY,bY,bY,bY,bY,bY,bY,bN] rfl rfl (one_of HT_.out (by kernel_rfl)) (by decide) (fun K hK => ?_)
        refine goes_ Tryd.func75 (by kernel_rfl) rfl #[.slice (some ad325) (l1.take (x5_1 : Int).toNat).length c1, .int .i64 (rd l1 x5_1)] (by rfl) rfl rfl (by (try simp only [List.map_toArray, List.map_cons, List.map_nil]); first | done | (rw [show (l1.take (x5_1 : Int).toNat).length = x5_1.toNat from (by rw [List.length_take]; have h_ : (x5_1 : Int) ≤ (l1.length : Int) := of_decide_eq_true (by first | (with_reducible assumption) | assumption); omega)] <;> rfl) | rfl | (simp only [List.length_drop, List.length_take]; rfl)) ?_
        with_reducible refine (spec_l07In.calls k1 _ _ (l1.take (x5_1 : Int).toNat) (rd l1 x5_1) false _ ?side1 ?side2 A10.out).mono ?_
        (case side1 => exact zC (Kd.C_below HR327.out HB.out))
        (case side2 => exact HC327.out)
        rintro e w' ⟨rfl, ⟨nd, rfl⟩⟩
        refine ⟨_, rfl, ?_⟩
        refine hK.out _ _ ⟨zQ BK323 0, zQ BK323 1, zQ BK323 2, ((HB.out.cell (World.block_lt_of_cell? w _ hw325_0)).trans hw325_0), ((HB.out.cell (World.block_lt_of_cell? w _ hw328_0)).trans hw328_0)⟩ (fun hHeld => ?_)
        clear hK K
        refine norm_ (a' := ?_) ?_ ?_
        rotate_left
        ·show Act.put _ (some 27) _ = _
         simp only [Act.put, sTA, sZ, sS, i64_w, i32_w]
         rfl
        refine pure_ (i := 16) (N := some 28) (v := ?_) (a' := ?_) #[bY,bY,bY,bY,bY,bY,bY,bY,bY,bY,bY,bY,bY,bY,bY,bY,bY] rfl rfl (any_of HT_.out (by kernel_rfl)) (fun _ _ _ h => h) (Or.inl ⟨by rfl, ?_⟩) ?_ ?_
        rotate_left
        ·intro w'
         go_simp
         with_reducible rfl
        rotate_left
        ·simp only [Act.put, sTA, sZ, sS, i64_w, i32_w]
         rfl
        refine done_ (done_of HT_.out (by kernel_rfl)) ?_
        try go_wp2
        go_roundg k1
        case measure => have := HK1.out; omega
        case rel => exact ⟨(wrap64 (x5_1 + 1)), (by first | rfl | (simp; done) | (simp [*]; done)), H', ⟨by have := HK1.out; omega⟩, ⟨zK BK323⟩, ⟨zH1 HB GE323⟩⟩
      ·rw [if_neg c9] at H
       exact absurd H (by simp)
     ·replace c7 := Bool.eq_false_iff.mpr c7
      subst c7
      have H1 : (some false) = some r := by rw [if_neg (show ¬ (false = true) by decide)] at H; exact H
      clear H
      have H := H1
      clear H1
      obtain rfl := Option.some.inj H
      try go_wp2
      have n0_ := aK (kD BK323.out)
      have n1_ := aK (bD1 HB.out)
      clear BK323
      clear HB
      have BK323 := n0_
      have HB := n1_
      clear n0_ n1_
      have p325 : 0 ≤ (x5_1 : Int) := of_decide_eq_true (by first | (with_reducible assumption) | assumption)
      have q325 : x5_1 < (l1.length : Int) := of_decide_eq_true (by first | (with_reducible assumption) | assumption)
      obtain ⟨ad325, e325, hx325_0⟩ := Kd.at_int HR1.out x5_1 p325 q325
      have hw325_0 := hx325_0
      cases e325
      replace hx325_0 := (HB.out.cell (World.block_lt_of_cell? w _ hx325_0)).trans hx325_0
      replace p325 := eq_true p325
      replace q325 := eq_true q325
      refine start_ (n := 17) (S := fun w' => w'.cell? ⟨gb323, 0, none⟩ = some (.int .i64 a0_0) ∧ w'.cell? ⟨gb323, 1, none⟩ = some (.int .i64 a0_1) ∧ w'.cell? ⟨gb323, 2, none⟩ = some (.int .i64 a0_2) ∧ w'.cell? (ad325.add (x5_1).toNat) = some (.int .i64 (rd l1 x5_1))) (ds := []) #[bN,bN,bN,bN,bN,bN,bN,bN,bN,bN,bN,bN,bN,bN,bN,bN,bN] (by kernel_rfl) rfl rfl ⟨zQ BK323 0, zQ BK323 1, zQ BK323 2, ((HB.out.cell (World.block_lt_of_cell? w _ hw325_0)).trans hw325_0)⟩ (fun hHeld => ?_); refine with_tabW spec_CrowdOk.tab4 spec_CrowdOk.bits4 (fun HT_ HW_ => ?_)
      generalize wr.drew = w18 at BK323 HB hx325_0 hHeld ⊢
      refine pure_ (i := 1) (N := some 13) (v := ?_) (a' := ?_) #[bN,bY,bN,bN,bN,bN,bN,bN,bN,bN,bN,bN,bN,bN,bN,bN,bN] rfl rfl (any_of HT_.out (by kernel_rfl)) (fun _ _ _ h => h) (Or.inl ⟨by rfl, ?_⟩) ?_ ?_
      rotate_left
      ·intro w'
       go_simp
       with_reducible rfl
      rotate_left
      ·simp only [Act.put, sTA, sZ, sS, i64_w, i32_w]
       rfl
      refine pure_ (i := 2) (N := some 14) (v := ?_) (a' := ?_) #[bN,bY,bY,bN,bN,bN,bN,bN,bN,bN,bN,bN,bN,bN,bN,bN,bN] rfl rfl (any_of HT_.out (by kernel_rfl)) (fun _ _ _ h => h) (Or.inl ⟨by rfl, ?_⟩) ?_ ?_
      rotate_left
      ·intro w'
       go_simp
       with_reducible rfl
      rotate_left
      ·simp only [Act.put, sTA, sZ, sS, i64_w, i32_w]
       rfl
      refine pure_ (i := 3) (N := some 15) (v := ?_) (a' := ?_) #[bN,bY,bY,bY,bN,bN,bN,bN,bN,bN,bN,bN,bN,bN,bN,bN,bN] rfl rfl (any_of HT_.out (by kernel_rfl)) (fun _ _ _ h => h) (Or.inl ⟨by rfl, ?_⟩) ?_ ?_
      rotate_left
      ·intro w'
       go_simp
       with_reducible rfl
      rotate_left
      ·simp only [Act.put, sTA, sZ, sS, i64_w, i32_w]
       rfl
      refine take_ (i := 0) (N := some 12) (v := ?_) (a' := ?_) #[bY,bY,bY,bY,bN,bN,bN,bN,bN,bN,bN,bN,bN,bN,bN,bN,bN] rfl rfl (take_ofW HT_.out HW_.out (by kernel_rfl)) (fun _ _ _ h => h) (Or.inl ⟨by rfl, ?_⟩) hHeld ?_ ?_
      rotate_left
      ·rintro w' ⟨s0, s1, s2, s3⟩
       go_simp
       with_reducible rfl
      rotate_left
      ·simp only [Act.put, sTA, sZ, sS, i64_w, i32_w]
       rfl
      refine take_ (i := 4) (N := some 16) (v := ?_) (a' := ?_) #[bY,bY,bY,bY,bY,bN,bN,bN,bN,bN,bN,bN,bN,bN,bN,bN,bN] rfl rfl (take_ofW HT_.out HW_.out (by kernel_rfl)) (fun _ _ _ h => h) (Or.inl ⟨by rfl, ?_⟩) hHeld ?_ ?_
      rotate_left
      ·rintro w' ⟨s0, s1, s2, s3⟩
       go_simp
       with_reducible rfl
      rotate_left
      ·simp only [Act.put, sTA, sZ, sS, i64_w, i32_w]
       rfl
      refine one_ (i := 5) (N := some 17) #[bY,bY,bY,bY,bY,bY,bN,bN,bN,bN,bN,bN,bN,bN,bN,bN,bN] rfl rfl (one_of HT_.out (by kernel_rfl)) (by decide) (fun K hK => ?_)
      refine goes_ Tryd.func74 (by kernel_rfl) rfl #[.agg #[.int .i64 a0_0, .int .i64 a0_1, .int .i64 a0_2], .int .i64 (rd l1 x5_1)] (by rfl) rfl rfl zD ?_
      with_reducible refine (spec_l04Has.calls a0_0 a0_1 a0_2 (rd l1 x5_1) false _ A6.out).mono ?_
      rintro e w19 ⟨rfl, hb⟩
      refine ⟨_, rfl, ?_⟩
      have n0_ := zB BK323 hb
      have n1_ := aK (bSp (zH1 HB GE323) hb)
      clear BK323
      clear HB
      have BK323 := n0_
      have HB := n1_
      clear n0_ n1_
      (try clear hb)
      (try clear hb2)
      (try clear hk)
      (try clear hi)
      refine hK.out _ _ ⟨zQ BK323 0, zQ BK323 1, zQ BK323 2, ((HB.out.cell (World.block_lt_of_cell? w _ hw325_0)).trans hw325_0)⟩ (fun hHeld => ?_)
      clear hK K
      refine norm_ (a' := ?_) ?_ ?_
      rotate_left
      ·show Act.put _ (some 17) _ = _
       simp only [Act.put, sTA, sZ, sS, i64_w, i32_w]
       rfl
      refine pure_ (i := 6) (N := some 18) (v := ?_) (a' := ?_) #[bY,bY,bY,bY,bY,bY,bY,bN,bN,bN,bN,bN,bN,bN,bN,bN,bN] rfl rfl (any_of HT_.out (by kernel_rfl)) (fun _ _ _ h => h) (Or.inl ⟨by rfl, ?_⟩) ?_ ?_
      rotate_left
      ·intro w'
       go_simp
       with_reducible rfl
      rotate_left
      ·simp only [Act.put, sTA, sZ, sS, i64_w, i32_w]
       rfl
      refine pure_ (i := 7) (N := some 19) (v := ?_) (a' := ?_) #[bY,bY,bY,bY,bY,bY,bY,bY,bN,bN,bN,bN,bN,bN,bN,bN,bN] rfl rfl (any_of HT_.out (by kernel_rfl)) (fun _ _ _ h => h) (Or.inl ⟨by rfl, ?_⟩) ?_ ?_
      rotate_left
      ·intro w'
       go_simp
       with_reducible rfl
      rotate_left
      ·simp only [Act.put, sTA, sZ, sS, i64_w, i32_w]
       rfl
      refine pure_ (i := 8) (N := some 20) (v := undef) (a' := ?_) #[bY,bY,bY,bY,bY,bY,bY,bY,bY,bN,bN,bN,bN,bN,bN,bN,bN] rfl rfl (any_of HT_.out (by kernel_rfl)) (fun _ _ _ h => h) (Or.inr ⟨by rfl, rfl⟩) ?_ ?_
      rotate_left
      ·simp only [Act.put, sTA, sZ, sS, i64_w, i32_w]
       rfl
      refine pure_ (i := 9) (N := some 21) (v := undef) (a' := ?_) #[bY,bY,bY,bY,bY,bY,bY,bY,bY,bY,bN,bN,bN,bN,bN,bN,bN] rfl rfl (any_of HT_.out (by kernel_rfl)) (fun _ _ _ h => h) (Or.inr ⟨by rfl, rfl⟩) ?_ ?_
      rotate_left
      ·simp only [Act.put, sTA, sZ, sS, i64_w, i32_w]
       rfl
      refine pure_ (i := 10) (N := some 22) (v := undef) (a' := ?_) #[bY,bY,bY,bY,bY,bY,bY,bY,bY,bY,bY,bN,bN,bN,bN,bN,bN] rfl rfl (any_of HT_.out (by kernel_rfl)) (fun _ _ _ h => h) (Or.inr ⟨by rfl, rfl⟩) ?_ ?_
      rotate_left
      ·simp only [Act.put, sTA, sZ, sS, i64_w, i32_w]
       rfl
      refine pure_ (i := 11) (N := some 23) (v := undef) (a' := ?_) #[bY,bY,bY,bY,bY,bY,bY,bY,bY,bY,bY,bY,bN,bN,bN,bN,bN] rfl rfl (any_of HT_.out (by kernel_rfl)) (fun _ _ _ h => h) (Or.inr ⟨by rfl, rfl⟩) ?_ ?_
      rotate_left
      ·simp only [Act.put, sTA, sZ, sS, i64_w, i32_w]
       rfl
      refine pure_ (i := 12) (N := some 24) (v := undef) (a' := ?_) #[bY,bY,bY,bY,bY,bY,bY,bY,bY,bY,bY,bY,bY,bN,bN,bN,bN] rfl rfl (any_of HT_.out (by kernel_rfl)) (fun _ _ _ h => h) (Or.inr ⟨by rfl, rfl⟩) ?_ ?_
      rotate_left
      ·simp only [Act.put, sTA, sZ, sS, i64_w, i32_w]
       rfl
      refine pure_ (i := 13) (N := some 25) (v := undef) (a' := ?_) #[bY,bY,bY,bY,bY,bY,bY,bY,bY,bY,bY,bY,bY,bY,bN,bN,bN] rfl rfl (any_of HT_.out (by kernel_rfl)) (fun _ _ _ h => h) (Or.inr ⟨by rfl, rfl⟩) ?_ ?_
      rotate_left
      ·simp only [Act.put, sTA, sZ, sS, i64_w, i32_w]
       rfl
      refine pure_ (i := 14) (N := some 26) (v := undef) (a' := ?_) #[bY,bY,bY,bY,bY,bY,bY,bY,bY,bY,bY,bY,bY,bY,bY,bN,bN] rfl rfl (any_of HT_.out (by kernel_rfl)) (fun _ _ _ h => h) (Or.inr ⟨by rfl, rfl⟩) ?_ ?_
      rotate_left
      ·simp only [Act.put, sTA, sZ, sS, i64_w, i32_w]
       rfl
      refine pure_ (i := 15) (N := some 27) (v := undef) (a' := ?_) #[bY,bY,bY,bY,bY,bY,bY,bY,bY,bY,bY,bY,bY,bY,bY,bY,bN] rfl rfl (any_of HT_.out (by kernel_rfl)) (fun _ _ _ h => h) (Or.inr ⟨by rfl, rfl⟩) ?_ ?_
      rotate_left
      ·simp only [Act.put, sTA, sZ, sS, i64_w, i32_w]
       rfl
      refine pure_ (i := 16) (N := some 28) (v := ?_) (a' := ?_) #[bY,bY,bY,bY,bY,bY,bY,bY,bY,bY,bY,bY,bY,bY,bY,bY,bY] rfl rfl (any_of HT_.out (by kernel_rfl)) (fun _ _ _ h => h) (Or.inl ⟨by rfl, ?_⟩) ?_ ?_
      rotate_left
      ·intro w'
       go_simp
       with_reducible rfl
      rotate_left
      ·simp only [Act.put, sTA, sZ, sS, i64_w, i32_w]
       rfl
      refine done_ (done_of HT_.out (by kernel_rfl)) ?_
      try go_wp2
      go_ret
      exact ⟨by first | rfl | (simp [errW_none, errW_some] <;> rfl) | (simp [*, errW_none, errW_some] <;> rfl), by repeat (first | (with_reducible first | exact HB.out | apply bAl | apply bDN | apply bD1 | refine bSt ?_ GE323.out) | exact HB.out)⟩
    ·rw [if_neg c5] at H
     exact absurd H (by simp)
   ·rw [if_neg c4] at H
    have c4b0 : decide (x5_1 < (l1.length : Int)) = false := decide_eq_false c4
    clear c4
    replace H := Option.bind_eq_some_iff.mp H
    obtain ⟨t324, A200, H⟩ := H
    replace H : (if t324 = true then (some (decide ((l1.length : Int) ≤ 6))) else (some false)) = some r := H
    have A20 := aK A200
    clear A200
    by_cases c21 : t324 = true
    ·subst c21
     have H1 : (some (decide ((l1.length : Int) ≤ 6))) = some r := by rw [if_pos rfl] at H; exact H
     clear H
     have H := H1
     clear H1
     obtain rfl := Option.some.inj H
     obtain ⟨hcz22_0, hcz22_1, hcz22_2, hfz22_0, hfz22_1, hfz22_2⟩ := cl3 BK323.out
     go_wp2_with (first | ((with_reducible refine gate_callee (f := 59) rfl ?_); refine goesL_ (some 30) rfl rfl Tryd.func59 (by kernel_rfl) rfl #[.agg #[.int .i64 a0_0, .int .i64 a0_1, .int .i64 a0_2]] rfl zD ?_; (with_reducible refine (spec_MazeOk.calls a0_0 a0_1 a0_2 true _ A20.out).mono ?_); rintro e w23 ⟨rfl, hb⟩; refine ⟨_, rfl, ?_⟩; replace BK323 := zB BK323 hb; replace HB := aK (bSp (zH1 HB GE323) hb); (try clear hb); (try clear hb2); (try clear hk); (try clear hi)))
     go_ret
     exact ⟨by first | rfl | (simp [errW_none, errW_some] <;> rfl) | (simp [*, errW_none, errW_some] <;> rfl), by repeat (first | (with_reducible first | exact HB.out | apply bAl | apply bDN | apply bD1 | refine bSt ?_ GE323.out) | exact HB.out)⟩
    ·replace c21 := Bool.eq_false_iff.mpr c21
     subst c21
     have H1 : (some false) = some r := by rw [if_neg (show ¬ (false = true) by decide)] at H; exact H
     clear H
     have H := H1
     clear H1
     obtain rfl := Option.some.inj H
     obtain ⟨hcz24_0, hcz24_1, hcz24_2, hfz24_0, hfz24_1, hfz24_2⟩ := cl3 BK323.out
     go_wp2_with (first | ((with_reducible refine gate_callee (f := 59) rfl ?_); refine goesL_ (some 30) rfl rfl Tryd.func59 (by kernel_rfl) rfl #[.agg #[.int .i64 a0_0, .int .i64 a0_1, .int .i64 a0_2]] rfl zD ?_; (with_reducible refine (spec_MazeOk.calls a0_0 a0_1 a0_2 false _ A20.out).mono ?_); rintro e w25 ⟨rfl, hb⟩; refine ⟨_, rfl, ?_⟩; replace BK323 := zB BK323 hb; replace HB := aK (bSp (zH1 HB GE323) hb); (try clear hb); (try clear hb2); (try clear hk); (try clear hi)))
     go_ret
     exact ⟨by first | rfl | (simp [errW_none, errW_some] <;> rfl) | (simp [*, errW_none, errW_some] <;> rfl), by repeat (first | (with_reducible first | exact HB.out | apply bAl | apply bDN | apply bD1 | refine bSt ?_ GE323.out) | exact HB.out)⟩
set_option maxHeartbeats 8000000 in
set_option maxRecDepth 100000 in
theorem spec_l28Copy.calls (A0 : Option Addr) (c0 : Nat) (l0 : List Int) (r : List Int) (w : World) (hr0 : Kd.C (Kd.int .i64) w A0 l0.length l0) (hc0 : l0.length ≤ c0) (h : spec_l28Copy.f l0 = some r) :
  Calls Tryd.prog 47 #[.slice A0 l0.length c0] w fun e w' => ∃ v0_ : Value, e = .returned (v0_) ∧ Kd.R (Kd.int .i64) 3 w' w.heap.size (fun _ => True) v0_ r ∧ Below w.heap.size w w' := by
 have HR0 := aK hr0
 have HC0 := aK hc0
 clear hr0 hc0
 have HB := aK (Below.refl w.heap.size w)
 have H : ((some (([] : List Int) : List Int)).bind fun y486 => (if y486.length + l0.length < 17592186044416 then (some (y486 ++ l0)) else (none))) = some r := h
 clear h
 obtain ⟨y486, hy486⟩ : ∃ y_ : List Int, y_ = (([] : List Int)) := ⟨_, rfl⟩
 replace H : (if y486.length + l0.length < 17592186044416 then (some (y486 ++ l0)) else (none)) = some r := by first | (rw [hy486]; with_reducible exact H) | (have H2_ := (Option.bind_some _ _).symm.trans H; rw [hy486]; with_reducible exact H2_) | (have H2_ := (Option.bind_some _ _).symm.trans H; with_reducible exact H2_) | with_reducible exact H | (rw [hy486]; exact H) | exact H
 have Ny486 := aK hy486
 clear hy486
 by_cases c2 : y486.length + l0.length < 17592186044416
 ·rw [if_pos c2] at H
  have LMc2 := aK c2
  clear c2
  obtain ⟨y489, hy489⟩ : ∃ y_ : List Int, y_ = (y486 ++ l0) := ⟨_, rfl⟩
  replace H : (some y489) = some r := by first | (rw [hy489]; with_reducible exact H) | (have H2_ := (Option.bind_some _ _).symm.trans H; rw [hy489]; with_reducible exact H2_) | (have H2_ := (Option.bind_some _ _).symm.trans H; with_reducible exact H2_) | with_reducible exact H | (rw [hy489]; exact H) | exact H
  have Ny489 := aK hy489
  clear hy489
  obtain rfl := Option.some.inj H
  go_enter Tryd.func47, Tryd.ntmps47
  go_wp2_with (first | ((with_reducible refine gate_dst (N := 3) rfl ?_); refine Kd.R_lit (Kd.int .i64) _ 3 ?hg (N := 3) ?hd (xs := ([] : List Int)) (inner := []) (ok := fun _ => True) (okp := fun _ => True) ?hr ?hp (fun _ hk => hk) trivial (Below.refl _ _) (Nat.le_refl _) (by simp) ?_; (case hd => rfl); (case hg => rfl); (case hr => first | (go_simp; done) | (go_simp; rfl)); (case hp => exact (Reps.none _ _)); intro v487 w3 ho4 hb hg_ hnew_; clear hg_ hnew_; (first | rw [← Ny486.out] at ho4 | (simp only [Int.reduceToNat] at ho4; rw [← Ny486.out] at ho4)); have HO488 := aK (Kd.R_lower ho4 (bSz (zH0 HB))); replace HB := aK (bSp (zH0 HB) hb); clear hb ho4) | ((with_reducible refine gate_builtin (b := .append) (xs := #[.tmp 3, .tmp 4]) rfl ?_); at_builtin; refine Kd.R_append_rows (Kd.int .i64) (w0 := w) w.heap.size rfl (.tmp 3) (.tmp 4) 42 3 (.int .i64 0) 8 rfl Tryd.underlying42 info3 rfl (by decide) (by omega) v487 y486 l0 _ _ _ (fun _ => True) (fun _ => False) rfl rfl ?aO ?aR (fun _ _ h => h) (fun _ h => h.elim) ?aF ?aB ?aS ?aL ?_; (case aR => repeat (first | exact (Kd.C_below HR0.out HB.out) | (with_reducible refine Kd.C_alloc ?_ _) | (with_reducible refine Kd.C_drewN ?_ _) | (with_reducible refine Kd.C_drew ?_))); (case aB => exact (zH0 HB)); (case aF => exact (fun _ _ => trivial)); (case aO => exact (zA HO488)); (case aS => exact (bSz (zH0 HB))); (case aL => have := LMc2.out; omega); intro v490 w5 ho hb hg hat; rw [← Ny489.out] at ho; have n0_ := aK (hb); have n1_ := aK (ho); clear HB; clear HO488; have HB := n0_; have HO491 := n1_; clear n0_ n1_; clear ho hb hg hat))
  go_ret
  exact ⟨_, by first | rfl | (simp [errW_none, errW_some] <;> rfl) | (simp [*, errW_none, errW_some] <;> rfl), by (with_reducible repeat (first | apply Kd.R_alloc | apply Kd.R_drewN | apply Kd.R_drew)); exact HO491.out, by repeat (first | (with_reducible first | exact HB.out | apply bAl | apply bDN | apply bD1) | exact HB.out)⟩
 ·rw [if_neg c2] at H
  exact absurd H (by simp)
def spec_MoveOne.T4 : Bool × List (List Nat × List Nat) := (true, [([], []), ([], []), ([], []), ([1, 2], [1, 2]), ([3], [3]), ([], []), ([0, 4, 5], [0, 4, 5]), ([6, 6, 0, 1, 2, 3, 4, 5, 6], [6])])
def spec_MoveOne.B4 : List Nat := [0, 0, 0, 6, 14, 0, 63, 127]
theorem spec_MoveOne.tab4 : rtab .any (opsOf Tryd.f77 4) = spec_MoveOne.T4 := by kernel_rfl
theorem spec_MoveOne.bits4 : waitsOk spec_MoveOne.T4.2 spec_MoveOne.B4 = true := by kernel_rfl
set_option maxHeartbeats 8000000 in
set_option maxRecDepth 100000 in
theorem spec_MoveOne.calls (k : Nat) (a0_0 : Int) (a0_1 : Int) (a0_2 : Int) (A1 : Option Addr) (c1 : Nat) (l1 : List Int) (a2 : Int) (a3 : Int) (r1 : List Int) (r2 : Bool) (w : World) (hr1 : Kd.C (Kd.int .i64) w A1 l1.length l1) (hc1 : l1.length ≤ c1) (h : spec_MoveOne.f k a0_0 a0_1 a0_2 l1 a2 a3 = some (r1, r2)) :
  Calls Tryd.prog 77 #[.agg #[.int .i64 a0_0, .int .i64 a0_1, .int .i64 a0_2], .slice A1 l1.length c1, .int .i64 a2, .int .i64 a3] w fun e w' => ∃ v0_ : Value, e = .returned (.tuple #[v0_, .bool r2]) ∧ Kd.R (Kd.int .i64) 3 w' w.heap.size (fun _ => True) v0_ r1 ∧ Below w.heap.size w w' := by
 have hu41 := Tryd.underlying41
 have HR1 := aK hr1
 have HC1 := aK hc1
 clear hr1 hc1
 have HB := aK (Below.refl w.heap.size w)
 have H : ((spec_l28Copy.f l1).bind fun t649 => ((spec_CrowdOk.f k a0_0 a0_1 a0_2 l1).bind fun t652 => (if t652 = true then ((spec_l01In.f a2 0 (wrap64 ((l1.length : Int) - 1))).bind fun t653 => (spec_MoveOne.j0 k l1 a2 a3 t649 (!t653) a0_0 a0_1 a0_2)) else (spec_MoveOne.j0 k l1 a2 a3 t649 true a0_0 a0_1 a0_2)))) = some (r1, r2) := h
 clear h
 replace H := Option.bind_eq_some_iff.mp H
 obtain ⟨t649, A50, H⟩ := H
 replace H : ((spec_CrowdOk.f k a0_0 a0_1 a0_2 l1).bind fun t652 => (if t652 = true then ((spec_l01In.f a2 0 (wrap64 ((l1.length : Int) - 1))).bind fun t653 => (spec_MoveOne.j0 k l1 a2 a3 t649 (!t653) a0_0 a0_1 a0_2)) else (spec_MoveOne.j0 k l1 a2 a3 t649 true a0_0 a0_1 a0_2))) = some (r1, r2) := H
 have A5 := aK A50
 clear A50
 have HC6 := aK H
 clear H
 go_enter Tryd.func77, Tryd.ntmps77
 go_upto_region 2 with (first | ((with_reducible refine gate_dst (N := 4) rfl ?_); (try (refine gate_guard (by rfl) ?_; dsimp only)); refine box_event ?hg (N := 4) ?hd (cs := #[.int .i64 a0_0, .int .i64 a0_1, .int .i64 a0_2]) (t := 41) ?hr ?_; (case hd => rfl); (case hg => rfl); (case hr => first | (go_simp; done) | (go_simp; rfl)); intro gb648 hg w7 hbox hb; have BK648 := aK (hbox); have GW648 := aK ((by rw [hg]; exact (bSz (zH0 HB)) : w.heap.size ≤ gb648)); replace HB := aK (bSp (zH0 HB) hb); have GE648 := GW648; clear hb hbox hg) | ((with_reducible refine gate_callee (f := 47) rfl ?_); refine goesL_ (some 13) rfl rfl Tryd.func47 (by kernel_rfl) rfl #[.slice A1 l1.length c1] rfl zD ?_; (with_reducible refine (spec_l28Copy.calls _ _ l1 t649 _ ?side1 ?side2 A5.out).mono ?_); (case side1 => exact zC (Kd.C_below HR1.out HB.out)); (case side2 => exact HC1.out); rintro e w8 ⟨v650, rfl, ho0, hb⟩; refine ⟨_, rfl, ?_⟩; have HO651 := aK (Kd.R_lower ho0 (bSz (zH1 HB GE648))); replace BK648 := zB BK648 hb; replace HB := aK (bSp (zH1 HB GE648) hb); (try clear hb); (try clear hb2); (try clear hk); (try clear hi); (try clear ho0)))
 (try simp only [Act.put, sTA, sZ, sS])
 go_cut [25] (fun v25 wc => ∃ (kq : Nat) (x25_5 : Bool), v25 = .bool x25_5 ∧ Aside0 (spec_MoveOne.j0 kq l1 a2 a3 t649 x25_5 a0_0 a0_1 a0_2 = some (r1, r2)) ∧ Aside0 (kq ≤ k) ∧ Aside0 (Kd.R (Kd.int .i64) 3 wc w.heap.size (fun _ => True) v650 t649) ∧ Aside0 (wc.heap[gb648]? = some (.cells #[.int .i64 a0_0, .int .i64 a0_1, .int .i64 a0_2] 41 (0, 0))) ∧ Aside0 (Below w.heap.size w wc))
 case first =>
  have H := HC6.out
  clear HC6
  replace H := Option.bind_eq_some_iff.mp H
  obtain ⟨t652, A90, H⟩ := H
  replace H : (if t652 = true then ((spec_l01In.f a2 0 (wrap64 ((l1.length : Int) - 1))).bind fun t653 => (spec_MoveOne.j0 k l1 a2 a3 t649 (!t653) a0_0 a0_1 a0_2)) else (spec_MoveOne.j0 k l1 a2 a3 t649 true a0_0 a0_1 a0_2)) = some (r1, r2) := H
  have A9 := aK A90
  clear A90
  by_cases c10 : t652 = true
  ·subst c10
   have H1 : ((spec_l01In.f a2 0 (wrap64 ((l1.length : Int) - 1))).bind fun t653 => (spec_MoveOne.j0 k l1 a2 a3 t649 (!t653) a0_0 a0_1 a0_2)) = some (r1, r2) := by rw [if_pos rfl] at H; exact H
   clear H
   have H := H1
   clear H1
   replace H := Option.bind_eq_some_iff.mp H
   obtain ⟨t653, A110, H⟩ := H
   replace H : (spec_MoveOne.j0 k l1 a2 a3 t649 (!t653) a0_0 a0_1 a0_2) = some (r1, r2) := H
   have A11 := aK A110
   clear A110
   have H' := aK H
   clear H
   obtain ⟨hcz12_0, hcz12_1, hcz12_2, hfz12_0, hfz12_1, hfz12_2⟩ := cl3 BK648.out
   go_wp2_with (first | ((with_reducible refine gate_callee (f := 45) rfl ?_); refine goesL_ (some 16) rfl rfl Tryd.func45 (by kernel_rfl) rfl #[.agg #[.int .i64 a0_0, .int .i64 a0_1, .int .i64 a0_2], .slice A1 l1.length c1] rfl zD ?_; (with_reducible refine (spec_CrowdOk.calls k a0_0 a0_1 a0_2 _ _ l1 true _ ?side1 ?side2 A9.out).mono ?_); (case side1 => exact zC (Kd.C_below HR1.out HB.out)); (case side2 => exact HC1.out); rintro e w13 ⟨rfl, hb⟩; refine ⟨_, rfl, ?_⟩; replace HO651 := aK (Kd.R_below (zA HO651) hb); replace BK648 := zB BK648 hb; replace HB := aK (bSp (zH1 HB GE648) hb); (try clear hb); (try clear hb2); (try clear hk); (try clear hi)) | (go_at_call 35; (with_reducible refine (spec_l01In.calls a2 0 (wrap64 ((l1.length : Int) - 1)) t653 _ A11.out).mono ?_); rintro e w' ⟨rfl, ⟨nd, rfl⟩⟩))
   go_meet
   case rel => exact ⟨_, (!t653), (by first | rfl | (simp; done) | (simp [*]; done)), H', ⟨by first | omega | exact Nat.le_refl _⟩, ⟨zA HO651⟩, ⟨zK BK648⟩, ⟨zH1 HB GE648⟩⟩
  ·replace c10 := Bool.eq_false_iff.mpr c10
   subst c10
   have H1 : (spec_MoveOne.j0 k l1 a2 a3 t649 true a0_0 a0_1 a0_2) = some (r1, r2) := by rw [if_neg (show ¬ (false = true) by decide)] at H; exact H
   clear H
   have H := H1
   clear H1
   have H' := aK H
   clear H
   obtain ⟨hcz14_0, hcz14_1, hcz14_2, hfz14_0, hfz14_1, hfz14_2⟩ := cl3 BK648.out
   go_wp2_with (first | ((with_reducible refine gate_callee (f := 45) rfl ?_); refine goesL_ (some 16) rfl rfl Tryd.func45 (by kernel_rfl) rfl #[.agg #[.int .i64 a0_0, .int .i64 a0_1, .int .i64 a0_2], .slice A1 l1.length c1] rfl zD ?_; (with_reducible refine (spec_CrowdOk.calls k a0_0 a0_1 a0_2 _ _ l1 false _ ?side1 ?side2 A9.out).mono ?_); (case side1 => exact zC (Kd.C_below HR1.out HB.out)); (case side2 => exact HC1.out); rintro e w15 ⟨rfl, hb⟩; refine ⟨_, rfl, ?_⟩; replace HO651 := aK (Kd.R_below (zA HO651) hb); replace BK648 := zB BK648 hb; replace HB := aK (bSp (zH1 HB GE648) hb); (try clear hb); (try clear hb2); (try clear hk); (try clear hi)))
   go_meet
   case rel => exact ⟨_, (true), (by first | rfl | (simp; done) | (simp [*]; done)), H', ⟨by first | omega | exact Nat.le_refl _⟩, ⟨zA HO651⟩, ⟨zK BK648⟩, ⟨zH1 HB GE648⟩⟩
 case rest =>
  clear HC6
  try clear c1
  try clear p2
  try clear c4
  try clear p6
  try clear c7
  try clear c10
  try clear hcz12_0
  try clear hcz12_1
  try clear hcz12_2
  try clear hcz14_0
  try clear hcz14_1
  try clear hcz14_2
  try clear hfz12_0
  try clear hfz12_1
  try clear hfz12_2
  try clear hfz14_0
  try clear hfz14_1
  try clear hfz14_2
  obtain ⟨kq, x25_5, rfl, HA, HJ5, HO_10, BK648, HB⟩ := hcut
  cases kq with
  | zero => exact absurd HA.out (by simp [spec_MoveOne.j0])
  | succ kj5 =>
   have H := HA.out
   clear HA
   simp only [spec_MoveOne.j0] at H
   by_cases c16 : x25_5 = true
   ·subst c16
    have H1 : (some (t649, false)) = some (r1, r2) := by rw [if_pos rfl] at H; exact H
    clear H
    have H := H1
    clear H1
    simp only [Option.some.injEq, Prod.mk.injEq] at H
    obtain ⟨rfl, rfl⟩ := H
    go_wp2
    go_ret2
    exact ⟨_, by first | rfl | (simp [errW_none, errW_some] <;> rfl) | (simp [*, errW_none, errW_some] <;> rfl), by (with_reducible repeat (first | apply Kd.R_alloc | apply Kd.R_drewN | apply Kd.R_drew)); exact HO_10.out, by repeat (first | (with_reducible first | exact HB.out | apply bAl | apply bDN | apply bD1 | refine bSt ?_ GE648.out) | exact HB.out)⟩
   ·replace c16 := Bool.eq_false_iff.mpr c16
    subst c16
    have H1 : (if 0 ≤ a2 then (if a2 < (l1.length : Int) then ((spec_Step.f kj5 a0_0 a0_1 a0_2 (rd l1 a2) a3).bind fun t655 => (if t655 < 0 then (some (t649, false)) else ((spec_l07In.f kj5 l1 t655).bind fun t656 => (if t656 = true then (some (t649, false)) else (if a2 < (t649.length : Int) then (some ((t649.set (a2 : Int).toNat t655), true)) else (none)))))) else (none)) else (none)) = some (r1, r2) := by rw [if_neg (show ¬ (false = true) by decide)] at H; exact H
    clear H
    have H := H1
    clear H1
    by_cases c17 : 0 ≤ a2
    ·rw [if_pos c17] at H
     have c17b0 : decide (0 ≤ a2) = true := decide_eq_true c17
     clear c17
     by_cases c18 : a2 < (l1.length : Int)
     ·rw [if_pos c18] at H
      have c18b0 : decide (a2 < (l1.length : Int)) = true := decide_eq_true c18
      clear c18
      replace H := Option.bind_eq_some_iff.mp H
      obtain ⟨t655, A190, H⟩ := H
      replace H : (if t655 < 0 then (some (t649, false)) else ((spec_l07In.f kj5 l1 t655).bind fun t656 => (if t656 = true then (some (t649, false)) else (if a2 < (t649.length : Int) then (some ((t649.set (a2 : Int).toNat t655), true)) else (none))))) = some (r1, r2) := H
      have A19 := aK A190
      clear A190
      by_cases c20 : t655 < 0
      ·rw [if_pos c20] at H
       have c20b0 : decide (t655 < 0) = true := decide_eq_true c20
       clear c20
       simp only [Option.some.injEq, Prod.mk.injEq] at H
       obtain ⟨rfl, rfl⟩ := H
       try go_wp2
       have n0_ := aK (Kd.R_drew HO_10.out)
       have n1_ := aK (kD BK648.out)
       have n2_ := aK (bD1 HB.out)
       clear HO_10
       clear BK648
       clear HB
       have HO_10 := n0_
       have BK648 := n1_
       have HB := n2_
       clear n0_ n1_ n2_
       have p654 : 0 ≤ (a2 : Int) := of_decide_eq_true (by first | (with_reducible assumption) | assumption)
       have q654 : a2 < (l1.length : Int) := of_decide_eq_true (by first | (with_reducible assumption) | assumption)
       obtain ⟨ad654, e654, hx654_0⟩ := Kd.at_int HR1.out a2 p654 q654
       have hw654_0 := hx654_0
       cases e654
       replace hx654_0 := (HB.out.cell (World.block_lt_of_cell? w _ hx654_0)).trans hx654_0
       replace p654 := eq_true p654
       replace q654 := eq_true q654
       refine start_ (n := 8) (S := fun w' => w'.cell? ⟨gb648, 0, none⟩ = some (.int .i64 a0_0) ∧ w'.cell? ⟨gb648, 1, none⟩ = some (.int .i64 a0_1) ∧ w'.cell? ⟨gb648, 2, none⟩ = some (.int .i64 a0_2) ∧ w'.cell? (ad654.add (a2).toNat) = some (.int .i64 (rd l1 a2))) (ds := []) #[bN,bN,bN,bN,bN,bN,bN,bN] (by kernel_rfl) rfl rfl ⟨zQ BK648 0, zQ BK648 1, zQ BK648 2, ((HB.out.cell (World.block_lt_of_cell? w _ hw654_0)).trans hw654_0)⟩ (fun hHeld => ?_); refine with_tabW spec_MoveOne.tab4 spec_MoveOne.bits4 (fun HT_ HW_ => ?_)
       generalize wc.drew = w21 at HO_10 BK648 HB hx654_0 hHeld ⊢
       refine pure_ (i := 1) (N := some 28) (v := ?_) (a' := ?_) #[bN,bY,bN,bN,bN,bN,bN,bN] rfl rfl (any_of HT_.out (by kernel_rfl)) (fun _ _ _ h => h) (Or.inl ⟨by rfl, ?_⟩) ?_ ?_
       rotate_left
       ·intro w'
        go_simp
        with_reducible rfl
       rotate_left
       ·simp only [Act.put, sTA, sZ, sS, i64_w, i32_w]
        rfl
       refine pure_ (i := 2) (N := some 29) (v := ?_) (a' := ?_) #[bN,bY,bY,bN,bN,bN,bN,bN] rfl rfl (any_of HT_.out (by kernel_rfl)) (fun _ _ _ h => h) (Or.inl ⟨by rfl, ?_⟩) ?_ ?_
       rotate_left
       ·intro w'
        go_simp
        with_reducible rfl
       rotate_left
       ·simp only [Act.put, sTA, sZ, sS, i64_w, i32_w]
        rfl
       refine pure_ (i := 3) (N := some 30) (v := ?_) (a' := ?_) #[bN,bY,bY,bY,bN,bN,bN,bN] rfl rfl (any_of HT_.out (by kernel_rfl)) (fun _ _ _ h => h) (Or.inl ⟨by rfl, ?_⟩) ?_ ?_
       rotate_left
       ·intro w'
        go_simp
        with_reducible rfl
       rotate_left
       ·simp only [Act.put, sTA, sZ, sS, i64_w, i32_w]
        rfl
       refine pure_ (i := 5) (N := some 32) (v := ?_) (a' := ?_) #[bN,bY,bY,bY,bN,bY,bN,bN] rfl rfl (any_of HT_.out (by kernel_rfl)) (fun _ _ _ h => h) (Or.inl ⟨by rfl, ?_⟩) ?_ ?_
       rotate_left
       ·intro w'
        go_simp
        with_reducible rfl
       rotate_left
       ·simp only [Act.put, sTA, sZ, sS, i64_w, i32_w]
        rfl
       refine take_ (i := 0) (N := some 27) (v := ?_) (a' := ?_) #[bY,bY,bY,bY,bN,bY,bN,bN] rfl rfl (take_ofW HT_.out HW_.out (by kernel_rfl)) (fun _ _ _ h => h) (Or.inl ⟨by rfl, ?_⟩) hHeld ?_ ?_
       rotate_left
       ·rintro w' ⟨s0, s1, s2, s3⟩
        go_simp
        with_reducible rfl
       rotate_left
       ·simp only [Act.put, sTA, sZ, sS, i64_w, i32_w]
        rfl
       refine take_ (i := 4) (N := some 31) (v := ?_) (a' := ?_) #[bY,bY,bY,bY,bY,bY,bN,bN] rfl rfl (take_ofW HT_.out HW_.out (by kernel_rfl)) (fun _ _ _ h => h) (Or.inl ⟨by rfl, ?_⟩) hHeld ?_ ?_
       rotate_left
       ·rintro w' ⟨s0, s1, s2, s3⟩
        go_simp
        with_reducible rfl
       rotate_left
       ·simp only [Act.put, sTA, sZ, sS, i64_w, i32_w]
        rfl
       refine one_ (i := 6) (N := some 33) #[bY,bY,bY,bY,bY,bY,bY,bN] rfl rfl (one_of HT_.out (by kernel_rfl)) (by decide) (fun K hK => ?_)
       refine goes_ Tryd.func91 (by kernel_rfl) rfl #[.agg #[.int .i64 a0_0, .int .i64 a0_1, .int .i64 a0_2], .int .i64 (rd l1 a2), .int .i64 a3] (by rfl) rfl rfl zD ?_
       with_reducible refine (spec_Step.calls kj5 a0_0 a0_1 a0_2 (rd l1 a2) a3 t655 _ A19.out).mono ?_
       rintro e w22 ⟨rfl, hb⟩
       refine ⟨_, rfl, ?_⟩
       have n0_ := aK (Kd.R_below (zA HO_10) hb)
       have n1_ := zB BK648 hb
       have n2_ := aK (bSp (zH1 HB GE648) hb)
       clear HO_10
       clear BK648
       clear HB
       have HO_10 := n0_
       have BK648 := n1_
       have HB := n2_
       clear n0_ n1_ n2_
       (try clear hb)
       (try clear hb2)
       (try clear hk)
       (try clear hi)
       refine hK.out _ _ ⟨zQ BK648 0, zQ BK648 1, zQ BK648 2, ((HB.out.cell (World.block_lt_of_cell? w _ hw654_0)).trans hw654_0)⟩ (fun hHeld => ?_)
       clear hK K
       refine norm_ (a' := ?_) ?_ ?_
       rotate_left
       ·show Act.put _ (some 33) _ = _
        simp only [Act.put, sTA, sZ, sS, i64_w, i32_w]
        rfl
       refine pure_ (i := 7) (N := some 11) (v := ?_) (a' := ?_) #[bY,bY,bY,bY,bY,bY,bY,bY] rfl rfl (any_of HT_.out (by kernel_rfl)) (fun _ _ _ h => h) (Or.inl ⟨by rfl, ?_⟩) ?_ ?_
       rotate_left
       ·intro w'
        go_simp
        with_reducible rfl
       rotate_left
       ·simp only [Act.put, sTA, sZ, sS, i64_w, i32_w]
        rfl
       refine done_ (done_of HT_.out (by kernel_rfl)) ?_
       try go_wp2
       go_ret2
       exact ⟨_, by first | rfl | (simp [errW_none, errW_some] <;> rfl) | (simp [*, errW_none, errW_some] <;> rfl), by (with_reducible repeat (first | apply Kd.R_alloc | apply Kd.R_drewN | apply Kd.R_drew)); exact HO_10.out, by repeat (first | (with_reducible first | exact HB.out | apply bAl | apply bDN | apply bD1 | refine bSt ?_ GE648.out) | exact HB.out)⟩
      ·rw [if_neg c20] at H
       have c20b0 : decide (t655 < 0) = false := decide_eq_false c20
       clear c20
       replace H := Option.bind_eq_some_iff.mp H
       obtain ⟨t656, A230, H⟩ := H
       replace H : (if t656 = true then (some (t649, false)) else (if a2 < (t649.length : Int) then (some ((t649.set (a2 : Int).toNat t655), true)) else (none))) = some (r1, r2) := H
       have A23 := aK A230
       clear A230
       by_cases c24 : t656 = true
       ·subst c24
        have H1 : (some (t649, false)) = some (r1, r2) := by rw [if_pos rfl] at H; exact H
        clear H
        have H := H1
        clear H1
        simp only [Option.some.injEq, Prod.mk.injEq] at H
        obtain ⟨rfl, rfl⟩ := H
        try go_wp2
        have n0_ := aK (Kd.R_drew HO_10.out)
        have n1_ := aK (kD BK648.out)
        have n2_ := aK (bD1 HB.out)
        clear HO_10
        clear BK648
        clear HB
        have HO_10 := n0_
        have BK648 := n1_
        have HB := n2_
        clear n0_ n1_ n2_
        have p654 : 0 ≤ (a2 : Int) := of_decide_eq_true (by first | (with_reducible assumption) | assumption)
        have q654 : a2 < (l1.length : Int) := of_decide_eq_true (by first | (with_reducible assumption) | assumption)
        obtain ⟨ad654, e654, hx654_0⟩ := Kd.at_int HR1.out a2 p654 q654
        have hw654_0 := hx654_0
        cases e654
        replace hx654_0 := (HB.out.cell (World.block_lt_of_cell? w _ hx654_0)).trans hx654_0
        replace p654 := eq_true p654
        replace q654 := eq_true q654
        refine start_ (n := 8) (S := fun w' => w'.cell? ⟨gb648, 0, none⟩ = some (.int .i64 a0_0) ∧ w'.cell? ⟨gb648, 1, none⟩ = some (.int .i64 a0_1) ∧ w'.cell? ⟨gb648, 2, none⟩ = some (.int .i64 a0_2) ∧ w'.cell? (ad654.add (a2).toNat) = some (.int .i64 (rd l1 a2))) (ds := []) #[bN,bN,bN,bN,bN,bN,bN,bN] (by kernel_rfl) rfl rfl ⟨zQ BK648 0, zQ BK648 1, zQ BK648 2, ((HB.out.cell (World.block_lt_of_cell? w _ hw654_0)).trans hw654_0)⟩ (fun hHeld => ?_); refine with_tabW spec_MoveOne.tab4 spec_MoveOne.bits4 (fun HT_ HW_ => ?_)
        generalize wc.drew = w25 at HO_10 BK648 HB hx654_0 hHeld ⊢
        refine pure_ (i := 1) (N := some 28) (v := ?_) (a' := ?_) #[bN,bY,bN,bN,bN,bN,bN,bN] rfl rfl (any_of HT_.out (by kernel_rfl)) (fun _ _ _ h => h) (Or.inl ⟨by rfl, ?_⟩) ?_ ?_
        rotate_left
        ·intro w'
         go_simp
         with_reducible rfl
        rotate_left
        ·simp only [Act.put, sTA, sZ, sS, i64_w, i32_w]
         rfl
        refine pure_ (i := 2) (N := some 29) (v := ?_) (a' := ?_) #[bN,bY,bY,bN,bN,bN,bN,bN] rfl rfl (any_of HT_.out (by kernel_rfl)) (fun _ _ _ h => h) (Or.inl ⟨by rfl, ?_⟩) ?_ ?_
        rotate_left
        ·intro w'
         go_simp
         with_reducible rfl
        rotate_left
        ·simp only [Act.put, sTA, sZ, sS, i64_w, i32_w]
         rfl
        refine pure_ (i := 3) (N := some 30) (v := ?_) (a' := ?_) #[bN,bY,bY,bY,bN,bN,bN,bN] rfl rfl (any_of HT_.out (by kernel_rfl)) (fun _ _ _ h => h) (Or.inl ⟨by rfl, ?_⟩) ?_ ?_
        rotate_left
        ·intro w'
         go_simp
         with_reducible rfl
        rotate_left
        ·simp only [Act.put, sTA, sZ, sS, i64_w, i32_w]
         rfl
        refine pure_ (i := 5) (N := some 32) (v := ?_) (a' := ?_) #[bN,bY,bY,bY,bN,bY,bN,bN] rfl rfl (any_of HT_.out (by kernel_rfl)) (fun _ _ _ h => h) (Or.inl ⟨by rfl, ?_⟩) ?_ ?_
        rotate_left
        ·intro w'
         go_simp
         with_reducible rfl
        rotate_left
        ·simp only [Act.put, sTA, sZ, sS, i64_w, i32_w]
         rfl
        refine take_ (i := 0) (N := some 27) (v := ?_) (a' := ?_) #[bY,bY,bY,bY,bN,bY,bN,bN] rfl rfl (take_ofW HT_.out HW_.out (by kernel_rfl)) (fun _ _ _ h => h) (Or.inl ⟨by rfl, ?_⟩) hHeld ?_ ?_
        rotate_left
        ·rintro w' ⟨s0, s1, s2, s3⟩
         go_simp
         with_reducible rfl
        rotate_left
        ·simp only [Act.put, sTA, sZ, sS, i64_w, i32_w]
         rfl
        refine take_ (i := 4) (N := some 31) (v := ?_) (a' := ?_) #[bY,bY,bY,bY,bY,bY,bN,bN] rfl rfl (take_ofW HT_.out HW_.out (by kernel_rfl)) (fun _ _ _ h => h) (Or.inl ⟨by rfl, ?_⟩) hHeld ?_ ?_
        rotate_left
        ·rintro w' ⟨s0, s1, s2, s3⟩
         go_simp
         with_reducible rfl
        rotate_left
        ·simp only [Act.put, sTA, sZ, sS, i64_w, i32_w]
         rfl
        refine one_ (i := 6) (N := some 33) #[bY,bY,bY,bY,bY,bY,bY,bN] rfl rfl (one_of HT_.out (by kernel_rfl)) (by decide) (fun K hK => ?_)
        refine goes_ Tryd.func91 (by kernel_rfl) rfl #[.agg #[.int .i64 a0_0, .int .i64 a0_1, .int .i64 a0_2], .int .i64 (rd l1 a2), .int .i64 a3] (by rfl) rfl rfl zD ?_
        with_reducible refine (spec_Step.calls kj5 a0_0 a0_1 a0_2 (rd l1 a2) a3 t655 _ A19.out).mono ?_
        rintro e w26 ⟨rfl, hb⟩
        refine ⟨_, rfl, ?_⟩
        have n0_ := aK (Kd.R_below (zA HO_10) hb)
        have n1_ := zB BK648 hb
        have n2_ := aK (bSp (zH1 HB GE648) hb)
        clear HO_10
        clear BK648
        clear HB
        have HO_10 := n0_
        have BK648 := n1_
        have HB := n2_
        clear n0_ n1_ n2_
        (try clear hb)
        (try clear hb2)
        (try clear hk)
        (try clear hi)
        refine hK.out _ _ ⟨zQ BK648 0, zQ BK648 1, zQ BK648 2, ((HB.out.cell (World.block_lt_of_cell? w _ hw654_0)).trans hw654_0)⟩ (fun hHeld => ?_)
        clear hK K
        refine norm_ (a' := ?_) ?_ ?_
        rotate_left
        ·show Act.put _ (some 33) _ = _
         simp only [Act.put, sTA, sZ, sS, i64_w, i32_w]
         rfl
        refine pure_ (i := 7) (N := some 11) (v := ?_) (a' := ?_) #[bY,bY,bY,bY,bY,bY,bY,bY] rfl rfl (any_of HT_.out (by kernel_rfl)) (fun _ _ _ h => h) (Or.inl ⟨by rfl, ?_⟩) ?_ ?_
        rotate_left
        ·intro w'
         go_simp
         with_reducible rfl
        rotate_left
        ·simp only [Act.put, sTA, sZ, sS, i64_w, i32_w]
         rfl
        refine done_ (done_of HT_.out (by kernel_rfl)) ?_
        try go_wp2_with (first | (go_at_call 75; (with_reducible refine (spec_l07In.calls kj5 _ _ l1 t655 true _ ?side1 ?side2 A23.out).mono ?_); (case side1 => exact zC (Kd.C_below HR1.out HB.out)); (case side2 => exact HC1.out); rintro e w' ⟨rfl, ⟨nd, rfl⟩⟩))
        go_ret2
        exact ⟨_, by first | rfl | (simp [errW_none, errW_some] <;> rfl) | (simp [*, errW_none, errW_some] <;> rfl), by (with_reducible repeat (first | apply Kd.R_alloc | apply Kd.R_drewN | apply Kd.R_drew)); exact HO_10.out, by repeat (first | (with_reducible first | exact HB.out | apply bAl | apply bDN | apply bD1 | refine bSt ?_ GE648.out) | exact HB.out)⟩
       ·replace c24 := Bool.eq_false_iff.mpr c24
        subst c24
        have H1 : (if a2 < (t649.length : Int) then (some ((t649.set (a2 : Int).toNat t655), true)) else (none)) = some (r1, r2) := by rw [if_neg (show ¬ (false = true) by decide)] at H; exact H
        clear H
        have H := H1
        clear H1
        by_cases c27 : a2 < (t649.length : Int)
        ·rw [if_pos c27] at H
         have c27b0 : decide (a2 < (t649.length : Int)) = true := decide_eq_true c27
         clear c27
         obtain ⟨y657, hy657⟩ : ∃ y_ : List Int, y_ = (t649.set (a2 : Int).toNat t655) := ⟨_, rfl⟩
         replace H : (some (y657, true)) = some (r1, r2) := by first | (rw [hy657]; with_reducible exact H) | (have H2_ := (Option.bind_some _ _).symm.trans H; rw [hy657]; with_reducible exact H2_) | (have H2_ := (Option.bind_some _ _).symm.trans H; with_reducible exact H2_) | with_reducible exact H | (rw [hy657]; exact H) | exact H
         have Ny657 := aK hy657
         clear hy657
         simp only [Option.some.injEq, Prod.mk.injEq] at H
         obtain ⟨rfl, rfl⟩ := H
         try go_wp2
         have n0_ := aK (Kd.R_drew HO_10.out)
         have n1_ := aK (kD BK648.out)
         have n2_ := aK (bD1 HB.out)
         clear HO_10
         clear BK648
         clear HB
         have HO_10 := n0_
         have BK648 := n1_
         have HB := n2_
         clear n0_ n1_ n2_
         have p654 : 0 ≤ (a2 : Int) := of_decide_eq_true (by first | (with_reducible assumption) | assumption)
         have q654 : a2 < (l1.length : Int) := of_decide_eq_true (by first | (with_reducible assumption) | assumption)
         obtain ⟨ad654, e654, hx654_0⟩ := Kd.at_int HR1.out a2 p654 q654
         have hw654_0 := hx654_0
         cases e654
         replace hx654_0 := (HB.out.cell (World.block_lt_of_cell? w _ hx654_0)).trans hx654_0
         replace p654 := eq_true p654
         replace q654 := eq_true q654
         refine start_ (n := 8) (S := fun w' => w'.cell? ⟨gb648, 0, none⟩ = some (.int .i64 a0_0) ∧ w'.cell? ⟨gb648, 1, none⟩ = some (.int .i64 a0_1) ∧ w'.cell? ⟨gb648, 2, none⟩ = some (.int .i64 a0_2) ∧ w'.cell? (ad654.add (a2).toNat) = some (.int .i64 (rd l1 a2))) (ds := []) #[bN,bN,bN,bN,bN,bN,bN,bN] (by kernel_rfl) rfl rfl ⟨zQ BK648 0, zQ BK648 1, zQ BK648 2, ((HB.out.cell (World.block_lt_of_cell? w _ hw654_0)).trans hw654_0)⟩ (fun hHeld => ?_); refine with_tabW spec_MoveOne.tab4 spec_MoveOne.bits4 (fun HT_ HW_ => ?_)
         generalize wc.drew = w29 at HO_10 BK648 HB hx654_0 hHeld ⊢
         refine pure_ (i := 1) (N := some 28) (v := ?_) (a' := ?_) #[bN,bY,bN,bN,bN,bN,bN,bN] rfl rfl (any_of HT_.out (by kernel_rfl)) (fun _ _ _ h => h) (Or.inl ⟨by rfl, ?_⟩) ?_ ?_
         rotate_left
         ·intro w'
          go_simp
          with_reducible rfl
         rotate_left
         ·simp only [Act.put, sTA, sZ, sS, i64_w, i32_w]
          rfl
         refine pure_ (i := 2) (N := some 29) (v := ?_) (a' := ?_) #[bN,bY,bY,bN,bN,bN,bN,bN] rfl rfl (any_of HT_.out (by kernel_rfl)) (fun _ _ _ h => h) (Or.inl ⟨by rfl, ?_⟩) ?_ ?_
         rotate_left
         ·intro w'
          go_simp
          with_reducible rfl
         rotate_left
         ·simp only [Act.put, sTA, sZ, sS, i64_w, i32_w]
          rfl
         refine pure_ (i := 3) (N := some 30) (v := ?_) (a' := ?_) #[bN,bY,bY,bY,bN,bN,bN,bN] rfl rfl (any_of HT_.out (by kernel_rfl)) (fun _ _ _ h => h) (Or.inl ⟨by rfl, ?_⟩) ?_ ?_
         rotate_left
         ·intro w'
          go_simp
          with_reducible rfl
         rotate_left
         ·simp only [Act.put, sTA, sZ, sS, i64_w, i32_w]
          rfl
         refine pure_ (i := 5) (N := some 32) (v := ?_) (a' := ?_) #[bN,bY,bY,bY,bN,bY,bN,bN] rfl rfl (any_of HT_.out (by kernel_rfl)) (fun _ _ _ h => h) (Or.inl ⟨by rfl, ?_⟩) ?_ ?_
         rotate_left
         ·intro w'
          go_simp
          with_reducible rfl
         rotate_left
         ·simp only [Act.put, sTA, sZ, sS, i64_w, i32_w]
          rfl
         refine take_ (i := 0) (N := some 27) (v := ?_) (a' := ?_) #[bY,bY,bY,bY,bN,bY,bN,bN] rfl rfl (take_ofW HT_.out HW_.out (by kernel_rfl)) (fun _ _ _ h => h) (Or.inl ⟨by rfl, ?_⟩) hHeld ?_ ?_
         rotate_left
         ·rintro w' ⟨s0, s1, s2, s3⟩
          go_simp
          with_reducible rfl
         rotate_left
         ·simp only [Act.put, sTA, sZ, sS, i64_w, i32_w]
          rfl
         refine take_ (i := 4) (N := some 31) (v := ?_) (a' := ?_) #[bY,bY,bY,bY,bY,bY,bN,bN] rfl rfl (take_ofW HT_.out HW_.out (by kernel_rfl)) (fun _ _ _ h => h) (Or.inl ⟨by rfl, ?_⟩) hHeld ?_ ?_
         rotate_left
         ·rintro w' ⟨s0, s1, s2, s3⟩
          go_simp
          with_reducible rfl
         rotate_left
         ·simp only [Act.put, sTA, sZ, sS, i64_w, i32_w]
          rfl
         refine one_ (i := 6) (N := some 33) #[bY,bY,bY,bY,bY,bY,bY,bN] rfl rfl (one_of HT_.out (by kernel_rfl)) (by decide) (fun K hK => ?_)
         refine goes_ Tryd.func91 (by kernel_rfl) rfl #[.agg #[.int .i64 a0_0, .int .i64 a0_1, .int .i64 a0_2], .int .i64 (rd l1 a2), .int .i64 a3] (by rfl) rfl rfl zD ?_
         with_reducible refine (spec_Step.calls kj5 a0_0 a0_1 a0_2 (rd l1 a2) a3 t655 _ A19.out).mono ?_
         rintro e w30 ⟨rfl, hb⟩
         refine ⟨_, rfl, ?_⟩
         have n0_ := aK (Kd.R_below (zA HO_10) hb)
         have n1_ := zB BK648 hb
         have n2_ := aK (bSp (zH1 HB GE648) hb)
         clear HO_10
         clear BK648
         clear HB
         have HO_10 := n0_
         have BK648 := n1_
         have HB := n2_
         clear n0_ n1_ n2_
         (try clear hb)
         (try clear hb2)
         (try clear hk)
         (try clear hi)
         refine hK.out _ _ ⟨zQ BK648 0, zQ BK648 1, zQ BK648 2, ((HB.out.cell (World.block_lt_of_cell? w _ hw654_0)).trans hw654_0)⟩ (fun hHeld => ?_)
         clear hK K
         refine norm_ (a' := ?_) ?_ ?_
         rotate_left
         ·show Act.put _ (some 33) _ = _
          simp only [Act.put, sTA, sZ, sS, i64_w, i32_w]
          rfl
         refine pure_ (i := 7) (N := some 11) (v := ?_) (a' := ?_) #[bY,bY,bY,bY,bY,bY,bY,bY] rfl rfl (any_of HT_.out (by kernel_rfl)) (fun _ _ _ h => h) (Or.inl ⟨by rfl, ?_⟩) ?_ ?_
         rotate_left
         ·intro w'
          go_simp
          with_reducible rfl
         rotate_left
         ·simp only [Act.put, sTA, sZ, sS, i64_w, i32_w]
          rfl
         refine done_ (done_of HT_.out (by kernel_rfl)) ?_
         try go_wp2_with (first | (go_at_call 75; (with_reducible refine (spec_l07In.calls kj5 _ _ l1 t655 false _ ?side1 ?side2 A23.out).mono ?_); (case side1 => exact zC (Kd.C_below HR1.out HB.out)); (case side2 => exact HC1.out); rintro e w' ⟨rfl, ⟨nd, rfl⟩⟩; (try (rw [drewN_self w30]; generalize hq_ : World.drewN w30 _ = w30; have n0_ : Aside0 (Kd.R (Kd.int .i64) 3 w30 w.heap.size (fun _ => True) v650 t649) := ⟨by rw [← hq_]; exact (zA HO_10)⟩; have n1_ : Aside0 (w30.heap[gb648]? = some (.cells #[.int .i64 a0_0, .int .i64 a0_1, .int .i64 a0_2] 41 (0, 0))) := ⟨by rw [← hq_]; exact (zK BK648)⟩; have n2_ : Aside0 (Below w.heap.size w w30) := ⟨by rw [← hq_]; exact (zH1 HB GE648)⟩; clear HO_10 BK648 HB hq_; have HO_10 := n0_; have BK648 := n1_; have HB := n2_; clear n0_ n1_ n2_)); have p28 : 0 ≤ (a2 : Int) := of_decide_eq_true (by first | (with_reducible assumption) | assumption); have q28 : (a2 : Int) < ((t649.length : Int) : Int) := of_decide_eq_true (by first | (with_reducible assumption) | assumption); obtain ⟨go28, co28, eo28, gb28, gl28, cl28, HG28⟩ := Kd.R_form HO_10.out (by omega); (first | cases eo28 | (injection eo28 with ea_ en_ ec_; (first | subst ea_ | (injection ea_ with ea_; subst ea_)); subst ec_; clear en_)); have GB28 := aK gb28; have GG28 := aK HG28; clear gb28 gl28 HG28; obtain ⟨hx28_0, hf28_0⟩ := Kd.R_celln 0 HO_10.out (a2 : Int) p28 q28; replace p28 := eq_true p28; replace q28 := eq_true q28; obtain ⟨hy31_, hz31_⟩ := Kd.R_celln 0 HO_10.out (a2 : Int) (of_decide_eq_true (by first | (with_reducible assumption) | assumption)) (of_decide_eq_true (by first | (with_reducible assumption) | assumption)); have HP31 := Kd.R_putg HO_10.out (a2 : Int) t655) | ((with_reducible refine gate_store (t := 3) (p := 45) rfl ?_); refine store_event (t := 3) (p := 45) (v := ?vo_w32) (w1 := (w30.setCell ⟨go28, (a2 : Int).toNat, none⟩ (.int .i64 t655))) ?hg ?ho ?hn ?hr ?_; (case ho => rfl); (case hg => rfl); (case hn => rfl); (case hr => first | (go_simp; done) | (go_simp; rfl)); intro w32 hw; have hg : w30.grownBy w32 (some go28) := (by rw [hw]; exact HP31.2); have hp_ : Kd.R (Kd.int .i64) 3 w32 w.heap.size (fun _ => True) (.slice (some ⟨go28, 0, none⟩) t649.length co28) y657 := (by rw [hw, Ny657.out]; exact HP31.1); clear HP31; replace BK648 := aK (blk_grown (g := gb648) (o := .cells #[.int .i64 a0_0, .int .i64 a0_1, .int .i64 a0_2] 41 (0, 0)) (zK BK648) hg (Kd.R_ne HO_10.out BK648.out (by decide))); replace HO_10 := aK (hp_); replace HB := aK ((by rw [hw]; exact bSt (HB.out) GB28.out : Below w.heap.size w w32)); clear hg hw hp_))
         go_ret2
         exact ⟨_, by first | rfl | (simp [errW_none, errW_some] <;> rfl) | (simp [*, errW_none, errW_some] <;> rfl), by (with_reducible repeat (first | apply Kd.R_alloc | apply Kd.R_drewN | apply Kd.R_drew)); exact HO_10.out, by repeat (first | (with_reducible first | exact HB.out | apply bAl | apply bDN | apply bD1 | refine bSt ?_ GE648.out) | exact HB.out)⟩
        ·rw [if_neg c27] at H
         exact absurd H (by simp)
     ·rw [if_neg c18] at H
      exact absurd H (by simp)
    ·rw [if_neg c17] at H
     exact absurd H (by simp)
end Go.Proofs.YtdjdleldocfpaaaDoor.F
end

section
namespace Go.Proofs.YtdjdleldocfpaaaDoor.F
open Go.RowKit Go.Proofs.YtdjdleldocfpaaaDoorW.PrintWords Go.Proofs.YtdjdleldocfpaaaDoorW.PrintLast Go.Proofs.YtdjdleldocfpaaaDoorW.PrintMore
set_option linter.unusedVariables false
set_option linter.unusedSimpArgs false
attribute [local go_sem] max2_int min2_int max_two min_two
def spec_l31Search.T13 : Bool × List (List Nat × List Nat) := (true, [([], []), ([], []), ([], []), ([1, 2], [1, 2]), ([3], [3]), ([], []), ([], []), ([0, 4, 5, 6], [0, 4, 5, 6]), ([7], [7]), ([8], [8]), ([8], [8]), ([9, 7, 0, 1, 2, 3, 4, 5, 6, 7, 8, 9], [9]), ([10, 11, 0, 1, 2, 3, 4, 5, 6, 7, 8, 9, 10, 11], [10])])
def spec_l31Search.B13 : List Nat := [0, 0, 0, 6, 14, 0, 0, 127, 255, 511, 511, 1023, 4095]
theorem spec_l31Search.tab13 : rtab .any (opsOf Tryd.f48 13) = spec_l31Search.T13 := by kernel_rfl
theorem spec_l31Search.bits13 : waitsOk spec_l31Search.T13.2 spec_l31Search.B13 = true := by kernel_rfl
set_option maxHeartbeats 8000000 in
set_option maxRecDepth 100000 in
theorem spec_l31Search.calls (k : Nat) (a0_0 : Int) (a0_1 : Int) (a0_2 : Int) (A1 : Option Addr) (c1 : Nat) (l1 : List Int) (r : List (List Int)) (w : World) (hr1 : Kd.C (Kd.int .i64) w A1 l1.length l1) (hc1 : l1.length ≤ c1) (h : spec_l31Search.f k a0_0 a0_1 a0_2 l1 = some r) :
  Calls Tryd.prog 48 #[.agg #[.int .i64 a0_0, .int .i64 a0_1, .int .i64 a0_2], .slice A1 l1.length c1] w fun e w' => ∃ v0_ : Value, e = .returned (v0_) ∧ Kd.N (Kd.slice 3 (Kd.int .i64)) 42 w' w.heap.size (fun k_ => (w.heap.size ≤ k_)) v0_ r ∧ Below w.heap.size w w' := by
 have hu41 := Tryd.underlying41
 have HR1 := aK hr1
 have HC1 := aK hc1
 clear hr1 hc1
 have HB := aK (Below.refl w.heap.size w)
 have H : ((spec_l28Copy.f l1).bind fun t896 => (if 0 ≤ (wrap64 ((wrap64 (4 * (l1.length : Int))) + 1)) then (if 0 ≤ (shl .i64 1 (wrap64 ((wrap64 (4 * (l1.length : Int))) + 1))) then (if (shl .i64 1 (wrap64 ((wrap64 (4 * (l1.length : Int))) + 1)) : Int).toNat ≤ 281474976710656 then ((some (List.replicate (shl .i64 1 (wrap64 ((wrap64 (4 * (l1.length : Int))) + 1)) : Int).toNat false : List Bool)).bind fun y902 => ((spec_l31Key.f k l1).bind fun t905 => (if 0 ≤ t905 then (if t905 < (y902.length : Int) then (spec_l31Search.l0 k l1 (([t896] : List (List Int))) (y902.set (t905 : Int).toNat true) 0 a0_0 a0_1 a0_2) else (none)) else (none)))) else (none)) else (none)) else (none))) = some r := h
 clear h
 replace H := Option.bind_eq_some_iff.mp H
 obtain ⟨t896, A30, H⟩ := H
 replace H : (if 0 ≤ (wrap64 ((wrap64 (4 * (l1.length : Int))) + 1)) then (if 0 ≤ (shl .i64 1 (wrap64 ((wrap64 (4 * (l1.length : Int))) + 1))) then (if (shl .i64 1 (wrap64 ((wrap64 (4 * (l1.length : Int))) + 1)) : Int).toNat ≤ 281474976710656 then ((some (List.replicate (shl .i64 1 (wrap64 ((wrap64 (4 * (l1.length : Int))) + 1)) : Int).toNat false : List Bool)).bind fun y902 => ((spec_l31Key.f k l1).bind fun t905 => (if 0 ≤ t905 then (if t905 < (y902.length : Int) then (spec_l31Search.l0 k l1 (([t896] : List (List Int))) (y902.set (t905 : Int).toNat true) 0 a0_0 a0_1 a0_2) else (none)) else (none)))) else (none)) else (none)) else (none)) = some r := H
 have A3 := aK A30
 clear A30
 obtain ⟨y899, hy899⟩ : ∃ y_ : List (List Int), y_ = (([t896] : List (List Int))) := ⟨_, rfl⟩
 replace H : (if 0 ≤ (wrap64 ((wrap64 (4 * (l1.length : Int))) + 1)) then (if 0 ≤ (shl .i64 1 (wrap64 ((wrap64 (4 * (l1.length : Int))) + 1))) then (if (shl .i64 1 (wrap64 ((wrap64 (4 * (l1.length : Int))) + 1)) : Int).toNat ≤ 281474976710656 then ((some (List.replicate (shl .i64 1 (wrap64 ((wrap64 (4 * (l1.length : Int))) + 1)) : Int).toNat false : List Bool)).bind fun y902 => ((spec_l31Key.f k l1).bind fun t905 => (if 0 ≤ t905 then (if t905 < (y902.length : Int) then (spec_l31Search.l0 k l1 y899 (y902.set (t905 : Int).toNat true) 0 a0_0 a0_1 a0_2) else (none)) else (none)))) else (none)) else (none)) else (none)) = some r := by first | (rw [hy899]; with_reducible exact H) | (have H2_ := (Option.bind_some _ _).symm.trans H; rw [hy899]; with_reducible exact H2_) | (have H2_ := (Option.bind_some _ _).symm.trans H; with_reducible exact H2_) | with_reducible exact H | (rw [hy899]; exact H) | exact H
 have Ny899 := aK hy899
 clear hy899
 obtain ⟨ji4, hji4⟩ : ∃ j_ : Int, (wrap64 ((wrap64 (4 * (l1.length : Int))) + 1)) = j_ := ⟨_, rfl⟩
 replace H : (if 0 ≤ (ji4) then (if 0 ≤ (shl .i64 1 (ji4)) then (if (shl .i64 1 (ji4) : Int).toNat ≤ 281474976710656 then ((some (List.replicate (shl .i64 1 (ji4) : Int).toNat false : List Bool)).bind fun y902 => ((spec_l31Key.f k l1).bind fun t905 => (if 0 ≤ t905 then (if t905 < (y902.length : Int) then (spec_l31Search.l0 k l1 y899 (y902.set (t905 : Int).toNat true) 0 a0_0 a0_1 a0_2) else (none)) else (none)))) else (none)) else (none)) else (none)) = some r := by first | (rw [hji4] at H; exact H) | (simp only [hji4] at H ⊢; exact H)
 (try rw [hji4] at A3)
 have hji4w : (IntKind.i64.wrap ((wrap64 (4 * (l1.length : Int))) + 1)) = ji4 := (i64_w _).trans hji4
 by_cases c5 : 0 ≤ (ji4)
 ·rw [if_pos c5] at H
  have c5b0 := eq_true c5
  have c5b1 : decide (0 ≤ (ji4)) = true := decide_eq_true c5
  clear c5
  obtain ⟨ji6, hji6⟩ : ∃ j_ : Int, (shl .i64 1 (ji4)) = j_ := ⟨_, rfl⟩
  replace H : (if 0 ≤ (ji6) then (if (ji6 : Int).toNat ≤ 281474976710656 then ((some (List.replicate (ji6 : Int).toNat false : List Bool)).bind fun y902 => ((spec_l31Key.f k l1).bind fun t905 => (if 0 ≤ t905 then (if t905 < (y902.length : Int) then (spec_l31Search.l0 k l1 y899 (y902.set (t905 : Int).toNat true) 0 a0_0 a0_1 a0_2) else (none)) else (none)))) else (none)) else (none)) = some r := by first | (rw [hji6] at H; exact H) | (simp only [hji6] at H ⊢; exact H)
  (try rw [hji6] at A3)
  have hji6_ : (IntKind.i64.wrap (1 * 2 ^ min (ji4).toNat 64)) = ji6 := hji6
  have hji6z : (ji4) ≤ 64 → (IntKind.i64.wrap (1 * 2 ^ (ji4).toNat)) = ji6 := shl_small hji6
  have hji6u : (IntKind.i64.wrap (2 ^ min (ji4).toNat 64)) = ji6 := by have h_ := hji6_; rw [Int.one_mul] at h_; exact h_
  have hji6v : (ji4) ≤ 64 → (IntKind.i64.wrap (2 ^ (ji4).toNat)) = ji6 := fun hle_ => by have h_ := hji6z hle_; rw [Int.one_mul] at h_; exact h_
  have hji6y : (wrap64 (1 * 2 ^ min (ji4).toNat 64)) = ji6 := (i64_w _).symm.trans hji6_
  have hji6x : (ji4) ≤ 64 → (wrap64 (1 * 2 ^ (ji4).toNat)) = ji6 := fun h_ => (i64_w _).symm.trans (hji6z h_)
  by_cases c7 : 0 ≤ (ji6)
  ·rw [if_pos c7] at H
   have c7b0 := eq_true c7
   have c7b1 : decide (0 ≤ (ji6)) = true := decide_eq_true c7
   clear c7
   by_cases c8 : (ji6 : Int).toNat ≤ 281474976710656
   ·rw [if_pos c8] at H
    have c8b0 := eq_true c8
    have c8b1 : decide ((ji6 : Int).toNat ≤ 281474976710656) = true := decide_eq_true c8
    clear c8
    obtain ⟨y902, hy902⟩ : ∃ y_ : List Bool, y_ = (List.replicate (ji6 : Int).toNat false) := ⟨_, rfl⟩
    replace H : ((spec_l31Key.f k l1).bind fun t905 => (if 0 ≤ t905 then (if t905 < (y902.length : Int) then (spec_l31Search.l0 k l1 y899 (y902.set (t905 : Int).toNat true) 0 a0_0 a0_1 a0_2) else (none)) else (none))) = some r := by first | (rw [hy902]; with_reducible exact H) | (have H2_ := (Option.bind_some _ _).symm.trans H; rw [hy902]; with_reducible exact H2_) | (have H2_ := (Option.bind_some _ _).symm.trans H; with_reducible exact H2_) | with_reducible exact H | (rw [hy902]; exact H) | exact H
    have Ny902 := aK hy902
    clear hy902
    replace H := Option.bind_eq_some_iff.mp H
    obtain ⟨t905, A90, H⟩ := H
    replace H : (if 0 ≤ t905 then (if t905 < (y902.length : Int) then (spec_l31Search.l0 k l1 y899 (y902.set (t905 : Int).toNat true) 0 a0_0 a0_1 a0_2) else (none)) else (none)) = some r := H
    have A9 := aK A90
    clear A90
    by_cases c10 : 0 ≤ t905
    ·rw [if_pos c10] at H
     have c10b0 : decide (0 ≤ t905) = true := decide_eq_true c10
     clear c10
     by_cases c11 : t905 < (y902.length : Int)
     ·rw [if_pos c11] at H
      have c11b0 : decide (t905 < (y902.length : Int)) = true := decide_eq_true c11
      clear c11
      obtain ⟨y906, hy906⟩ : ∃ y_ : List Bool, y_ = (y902.set (t905 : Int).toNat true) := ⟨_, rfl⟩
      replace H : (spec_l31Search.l0 k l1 y899 y906 0 a0_0 a0_1 a0_2) = some r := by first | (rw [hy906]; with_reducible exact H) | (have H2_ := (Option.bind_some _ _).symm.trans H; rw [hy906]; with_reducible exact H2_) | (have H2_ := (Option.bind_some _ _).symm.trans H; with_reducible exact H2_) | with_reducible exact H | (rw [hy906]; exact H) | exact H
      have Ny906 := aK hy906
      clear hy906
      have H' := aK H
      clear H
      go_enter Tryd.func48, Tryd.ntmps48
      go_wp2_with (first | ((with_reducible refine gate_dst (N := 2) rfl ?_); refine box_event ?hg (N := 2) ?hd (cs := #[.int .i64 a0_0, .int .i64 a0_1, .int .i64 a0_2]) (t := 41) ?hr ?_; (case hd => rfl); (case hg => rfl); (case hr => first | (go_simp; done) | (go_simp; rfl)); intro gb895 hg w13 hbox hb; have BK895 := aK (hbox); have GW895 := aK ((by rw [hg]; exact (bSz (zH0 HB)) : w.heap.size ≤ gb895)); replace HB := aK (bSp (zH0 HB) hb); have GE895 := GW895; clear hb hbox hg) | ((with_reducible refine gate_callee (f := 47) rfl ?_); refine goesL_ (some 13) rfl rfl Tryd.func47 (by kernel_rfl) rfl #[.slice A1 l1.length c1] rfl zD ?_; (with_reducible refine (spec_l28Copy.calls _ _ l1 t896 _ ?side1 ?side2 A3.out).mono ?_); (case side1 => exact zC (Kd.C_below HR1.out HB.out)); (case side2 => exact HC1.out); rintro e w14 ⟨v897, rfl, ho0, hb⟩; refine ⟨_, rfl, ?_⟩; have HO898 := aK (Kd.R_lower (Kd.R_newM (M := fun k_ => (w.heap.size ≤ k_)) ho0 (bSz (zH1 HB GE895)) (fun k_ h_ => h_)) (bSz (zH1 HB GE895))); replace BK895 := zB BK895 hb; replace HB := aK (bSp (zH1 HB GE895) hb); (try clear hb); (try clear hb2); (try clear hk); (try clear hi); (try clear ho0); obtain ⟨Ao15, co15, eo15⟩ := Kd.R_slice HO898.out; subst eo15) | ((with_reducible refine gate_dst (N := 14) rfl ?_); refine Kd.N_lit (Kd.slice 3 (Kd.int .i64)) _ 42 ?hg (N' := 14) ?hd (xs := ([t896] : List (List Int))) (inner := [.slice Ao15 t896.length co15]) (ok := (fun k_ => (w.heap.size ≤ k_) ∧ k_ ≠ gb895)) (okp := (fun k_ => (w.heap.size ≤ k_) ∧ k_ ≠ gb895)) ?hr ?hp (fun _ hk => hk) ((show ∀ k_, w14.heap.size ≤ k_ → (fun k_ => (w.heap.size ≤ k_) ∧ k_ ≠ gb895) k_ from fun k_ hk => ⟨(Nat.le_trans (bSz (zH1 HB GE895)) hk), Kd.freshB (g := gb895) (o := .cells #[.int .i64 a0_0, .int .i64 a0_1, .int .i64 a0_2] 41 (0, 0)) (zK BK895) k_ hk⟩) _ (Nat.le_refl _)) (Below.refl _ _) (Nat.le_refl _) (by simp) ?_; (case hd => rfl); (case hg => rfl); (case hr => first | (go_simp; done) | (go_simp; rfl)); (case hp => exact (Reps.one (show Kd.FK (Kd.slice 3 (Kd.int .i64)) _ _ t896 [.slice Ao15 t896.length co15] from (Kd.FK_slice_mk (Kd.R_reads' (Kd.R_mono (ok' := (fun k_ => (w.heap.size ≤ k_) ∧ k_ ≠ gb895)) (Kd.R_types (HO898.out) BK895.out (by decide)) (fun k_ hk => by (repeat' apply And.intro) <;> first | exact hk | exact hk.1 | exact hk.2 | exact hk.1.1 | exact hk.1.2 | exact hk.2.1 | exact hk.2.2 | exact hk.1.1.1 | exact hk.1.1.2 | exact hk.1.2.1 | exact hk.1.2.2 | exact hk.2.1.1 | exact hk.2.1.2 | exact hk.2.2.1 | exact hk.2.2.2 | exact hk.1.1.1.1 | exact hk.1.1.1.2 | exact hk.1.1.2.1 | exact hk.1.1.2.2 | exact hk.1.2.1.1 | exact hk.1.2.1.2 | exact hk.1.2.2.1 | exact hk.1.2.2.2 | exact hk.2.1.1.1 | exact hk.2.1.1.2 | exact hk.2.1.2.1 | exact hk.2.1.2.2 | exact hk.2.2.1.1 | exact hk.2.2.1.2 | exact hk.2.2.2.1 | exact hk.2.2.2.2 | exact hk.1.1.1.1.1 | exact hk.1.1.1.1.2 | exact hk.1.1.1.2.1 | exact hk.1.1.1.2.2 | exact hk.1.1.2.1.1 | exact hk.1.1.2.1.2 | exact hk.1.1.2.2.1 | exact hk.1.1.2.2.2 | exact hk.1.2.1.1.1 | exact hk.1.2.1.1.2 | exact hk.1.2.1.2.1 | exact hk.1.2.1.2.2 | exact hk.1.2.2.1.1 | exact hk.1.2.2.1.2 | exact hk.1.2.2.2.1 | exact hk.1.2.2.2.2 | exact hk.2.1.1.1.1 | exact hk.2.1.1.1.2 | exact hk.2.1.1.2.1 | exact hk.2.1.1.2.2 | exact hk.2.1.2.1.1 | exact hk.2.1.2.1.2 | exact hk.2.1.2.2.1 | exact hk.2.1.2.2.2 | exact hk.2.2.1.1.1 | exact hk.2.2.1.1.2 | exact hk.2.2.1.2.1 | exact hk.2.2.1.2.2 | exact hk.2.2.2.1.1 | exact hk.2.2.2.1.2 | exact hk.2.2.2.2.1 | exact hk.2.2.2.2.2))).2.1 (Kd.R_F (Kd.R_mono (ok' := (fun k_ => (w.heap.size ≤ k_) ∧ k_ ≠ gb895)) (Kd.R_types (HO898.out) BK895.out (by decide)) (fun k_ hk => by (repeat' apply And.intro) <;> first | exact hk | exact hk.1 | exact hk.2 | exact hk.1.1 | exact hk.1.2 | exact hk.2.1 | exact hk.2.2 | exact hk.1.1.1 | exact hk.1.1.2 | exact hk.1.2.1 | exact hk.1.2.2 | exact hk.2.1.1 | exact hk.2.1.2 | exact hk.2.2.1 | exact hk.2.2.2 | exact hk.1.1.1.1 | exact hk.1.1.1.2 | exact hk.1.1.2.1 | exact hk.1.1.2.2 | exact hk.1.2.1.1 | exact hk.1.2.1.2 | exact hk.1.2.2.1 | exact hk.1.2.2.2 | exact hk.2.1.1.1 | exact hk.2.1.1.2 | exact hk.2.1.2.1 | exact hk.2.1.2.2 | exact hk.2.2.1.1 | exact hk.2.2.1.2 | exact hk.2.2.2.1 | exact hk.2.2.2.2 | exact hk.1.1.1.1.1 | exact hk.1.1.1.1.2 | exact hk.1.1.1.2.1 | exact hk.1.1.1.2.2 | exact hk.1.1.2.1.1 | exact hk.1.1.2.1.2 | exact hk.1.1.2.2.1 | exact hk.1.1.2.2.2 | exact hk.1.2.1.1.1 | exact hk.1.2.1.1.2 | exact hk.1.2.1.2.1 | exact hk.1.2.1.2.2 | exact hk.1.2.2.1.1 | exact hk.1.2.2.1.2 | exact hk.1.2.2.2.1 | exact hk.1.2.2.2.2 | exact hk.2.1.1.1.1 | exact hk.2.1.1.1.2 | exact hk.2.1.1.2.1 | exact hk.2.1.1.2.2 | exact hk.2.1.2.1.1 | exact hk.2.1.2.1.2 | exact hk.2.1.2.2.1 | exact hk.2.1.2.2.2 | exact hk.2.2.1.1.1 | exact hk.2.2.1.1.2 | exact hk.2.2.1.2.1 | exact hk.2.2.1.2.2 | exact hk.2.2.2.1.1 | exact hk.2.2.2.1.2 | exact hk.2.2.2.2.1 | exact hk.2.2.2.2.2))))) (Reps.none _ _))); intro v900 w16 ho17 hb hg_ hnew_; clear hg_ hnew_; (first | rw [← Ny899.out] at ho17 | (simp only [Int.reduceToNat] at ho17; rw [← Ny899.out] at ho17)); have n0_ := aK (Kd.N_lower ho17 (bSz (zH1 HB GE895))); have n1_ := zB BK895 hb; have n2_ := aK (bSp (zH1 HB GE895) hb); clear BK895; clear HB; clear HO898; have HO901 := n0_; have BK895 := n1_; have HB := n2_; clear n0_ n1_ n2_; clear hb ho17) | ((with_reducible refine gate_dst (N := 20) rfl ?_); refine Kd.R_make Kd.bool _ 4 rfl (N := 20) rfl 110 _ _ rfl ji6 rfl rfl Tryd.underlying110 (.bool false) 1 info4 rfl (by decide) (by omega) false (ok := fun _ => True) (okp := fun _ => True) rfl (fun _ hk => hk) trivial (of_decide_eq_true (by first | (with_reducible assumption) | assumption)) (Nat.le_trans (Nat.mul_le_mul_right _ (of_decide_eq_true (by first | (with_reducible assumption) | assumption) : ji6.toNat ≤ 281474976710656)) (by omega)) (Below.refl _ _) (Nat.le_refl _) ?_; intro v903 w18 ho19 hb hg_ hnew_; clear hg_ hnew_; (first | rw [← Ny902.out] at ho19 | (simp only [Int.reduceToNat] at ho19; rw [← Ny902.out] at ho19)); replace HO901 := aK (Kd.N_elder' (by (with_reducible repeat (first | apply Kd.N_alloc | apply Kd.N_drewN | apply Kd.N_drew)); exact HO901.out) (Kd.R_base ho19) hb); have HO904 := aK (Kd.R_lower (Kd.R_newM (M := fun k_ => (w.heap.size ≤ k_)) ho19 (bSz (zH1 HB GE895)) (fun k_ h_ => h_)) (bSz (zH1 HB GE895))); replace BK895 := zB BK895 hb; replace HB := aK (bSp (zH1 HB GE895) hb); clear hb ho19) | ((with_reducible refine gate_callee (f := 49) rfl ?_); refine goesL_ (some 23) rfl rfl Tryd.func49 (by kernel_rfl) rfl #[.slice A1 l1.length c1] rfl zD ?_; (with_reducible refine (spec_l31Key.calls k _ _ l1 t905 _ ?side1 ?side2 A9.out).mono ?_); (case side1 => exact zC (Kd.C_below HR1.out HB.out)); (case side2 => exact HC1.out); rintro e w' ⟨rfl, ⟨nd, rfl⟩⟩; refine ⟨_, rfl, ?_⟩; (try (rw [drewN_self w18]; generalize hq_ : World.drewN w18 _ = w18; have n0_ : Aside0 (Kd.N (Kd.slice 3 (Kd.int .i64)) 42 w18 w.heap.size (fun k_ => (w.heap.size ≤ k_) ∧ some k_ ≠ (v903 : Value).ownBlock ∧ k_ ≠ gb895) v900 y899) := ⟨by rw [← hq_]; exact (by (with_reducible repeat (first | apply Kd.N_alloc | apply Kd.N_drewN | apply Kd.N_drew)); exact Kd.N_mono HO901.out (fun k_ hk => by (repeat' apply And.intro) <;> first | exact hk | exact hk.1 | exact hk.2 | exact hk.1.1 | exact hk.1.2 | exact hk.2.1 | exact hk.2.2 | exact hk.1.1.1 | exact hk.1.1.2 | exact hk.1.2.1 | exact hk.1.2.2 | exact hk.2.1.1 | exact hk.2.1.2 | exact hk.2.2.1 | exact hk.2.2.2 | exact hk.1.1.1.1 | exact hk.1.1.1.2 | exact hk.1.1.2.1 | exact hk.1.1.2.2 | exact hk.1.2.1.1 | exact hk.1.2.1.2 | exact hk.1.2.2.1 | exact hk.1.2.2.2 | exact hk.2.1.1.1 | exact hk.2.1.1.2 | exact hk.2.1.2.1 | exact hk.2.1.2.2 | exact hk.2.2.1.1 | exact hk.2.2.1.2 | exact hk.2.2.2.1 | exact hk.2.2.2.2 | exact hk.1.1.1.1.1 | exact hk.1.1.1.1.2 | exact hk.1.1.1.2.1 | exact hk.1.1.1.2.2 | exact hk.1.1.2.1.1 | exact hk.1.1.2.1.2 | exact hk.1.1.2.2.1 | exact hk.1.1.2.2.2 | exact hk.1.2.1.1.1 | exact hk.1.2.1.1.2 | exact hk.1.2.1.2.1 | exact hk.1.2.1.2.2 | exact hk.1.2.2.1.1 | exact hk.1.2.2.1.2 | exact hk.1.2.2.2.1 | exact hk.1.2.2.2.2 | exact hk.2.1.1.1.1 | exact hk.2.1.1.1.2 | exact hk.2.1.1.2.1 | exact hk.2.1.1.2.2 | exact hk.2.1.2.1.1 | exact hk.2.1.2.1.2 | exact hk.2.1.2.2.1 | exact hk.2.1.2.2.2 | exact hk.2.2.1.1.1 | exact hk.2.2.1.1.2 | exact hk.2.2.1.2.1 | exact hk.2.2.1.2.2 | exact hk.2.2.2.1.1 | exact hk.2.2.2.1.2 | exact hk.2.2.2.2.1 | exact hk.2.2.2.2.2))⟩; have n1_ : Aside0 (Kd.R Kd.bool 4 w18 w.heap.size (fun k_ => (w.heap.size ≤ k_)) v903 y902) := ⟨by rw [← hq_]; exact (by (with_reducible repeat (first | apply Kd.R_alloc | apply Kd.R_drewN | apply Kd.R_drew)); exact Kd.R_mono HO904.out (fun k_ hk => by (repeat' apply And.intro) <;> first | exact hk | exact hk.1 | exact hk.2 | exact hk.1.1 | exact hk.1.2 | exact hk.2.1 | exact hk.2.2 | exact hk.1.1.1 | exact hk.1.1.2 | exact hk.1.2.1 | exact hk.1.2.2 | exact hk.2.1.1 | exact hk.2.1.2 | exact hk.2.2.1 | exact hk.2.2.2 | exact hk.1.1.1.1 | exact hk.1.1.1.2 | exact hk.1.1.2.1 | exact hk.1.1.2.2 | exact hk.1.2.1.1 | exact hk.1.2.1.2 | exact hk.1.2.2.1 | exact hk.1.2.2.2 | exact hk.2.1.1.1 | exact hk.2.1.1.2 | exact hk.2.1.2.1 | exact hk.2.1.2.2 | exact hk.2.2.1.1 | exact hk.2.2.1.2 | exact hk.2.2.2.1 | exact hk.2.2.2.2 | exact hk.1.1.1.1.1 | exact hk.1.1.1.1.2 | exact hk.1.1.1.2.1 | exact hk.1.1.1.2.2 | exact hk.1.1.2.1.1 | exact hk.1.1.2.1.2 | exact hk.1.1.2.2.1 | exact hk.1.1.2.2.2 | exact hk.1.2.1.1.1 | exact hk.1.2.1.1.2 | exact hk.1.2.1.2.1 | exact hk.1.2.1.2.2 | exact hk.1.2.2.1.1 | exact hk.1.2.2.1.2 | exact hk.1.2.2.2.1 | exact hk.1.2.2.2.2 | exact hk.2.1.1.1.1 | exact hk.2.1.1.1.2 | exact hk.2.1.1.2.1 | exact hk.2.1.1.2.2 | exact hk.2.1.2.1.1 | exact hk.2.1.2.1.2 | exact hk.2.1.2.2.1 | exact hk.2.1.2.2.2 | exact hk.2.2.1.1.1 | exact hk.2.2.1.1.2 | exact hk.2.2.1.2.1 | exact hk.2.2.1.2.2 | exact hk.2.2.2.1.1 | exact hk.2.2.2.1.2 | exact hk.2.2.2.2.1 | exact hk.2.2.2.2.2))⟩; have n2_ : Aside0 (w18.heap[gb895]? = some (.cells #[.int .i64 a0_0, .int .i64 a0_1, .int .i64 a0_2] 41 (0, 0))) := ⟨by rw [← hq_]; exact (zK BK895)⟩; have n3_ : Aside0 (Below w.heap.size w w18) := ⟨by rw [← hq_]; exact (zH1 HB GE895)⟩; clear HO901 HO904 BK895 HB hq_; have HO901 := n0_; have HO904 := n1_; have BK895 := n2_; have HB := n3_; clear n0_ n1_ n2_ n3_)); have p12 : 0 ≤ (t905 : Int) := of_decide_eq_true (by first | (with_reducible assumption) | assumption); have q12 : (t905 : Int) < ((y902.length : Int) : Int) := of_decide_eq_true (by first | (with_reducible assumption) | assumption); obtain ⟨go12, co12, eo12, gb12, gl12, cl12, HG12⟩ := Kd.R_form HO904.out (by omega); (first | cases eo12 | (injection eo12 with ea_ en_ ec_; (first | subst ea_ | (injection ea_ with ea_; subst ea_)); subst ec_; clear en_)); have GB12 := aK gb12; have GG12 := aK HG12; clear gb12 gl12 HG12; obtain ⟨hx12_0, hf12_0⟩ := Kd.R_celln false HO904.out (t905 : Int) p12 q12; replace p12 := eq_true p12; replace q12 := eq_true q12; have n_ := aK (Kd.R_mono (ok' := (fun k_ => (w.heap.size ≤ k_))) HO904.out (fun k_ hk => by (repeat' apply And.intro) <;> first | exact hk | exact hk.1 | exact hk.2 | exact hk.1.1 | exact hk.1.2 | exact hk.2.1 | exact hk.2.2 | exact hk.1.1.1 | exact hk.1.1.2 | exact hk.1.2.1 | exact hk.1.2.2 | exact hk.2.1.1 | exact hk.2.1.2 | exact hk.2.2.1 | exact hk.2.2.2 | exact hk.1.1.1.1 | exact hk.1.1.1.2 | exact hk.1.1.2.1 | exact hk.1.1.2.2 | exact hk.1.2.1.1 | exact hk.1.2.1.2 | exact hk.1.2.2.1 | exact hk.1.2.2.2 | exact hk.2.1.1.1 | exact hk.2.1.1.2 | exact hk.2.1.2.1 | exact hk.2.1.2.2 | exact hk.2.2.1.1 | exact hk.2.2.1.2 | exact hk.2.2.2.1 | exact hk.2.2.2.2 | exact hk.1.1.1.1.1 | exact hk.1.1.1.1.2 | exact hk.1.1.1.2.1 | exact hk.1.1.1.2.2 | exact hk.1.1.2.1.1 | exact hk.1.1.2.1.2 | exact hk.1.1.2.2.1 | exact hk.1.1.2.2.2 | exact hk.1.2.1.1.1 | exact hk.1.2.1.1.2 | exact hk.1.2.1.2.1 | exact hk.1.2.1.2.2 | exact hk.1.2.2.1.1 | exact hk.1.2.2.1.2 | exact hk.1.2.2.2.1 | exact hk.1.2.2.2.2 | exact hk.2.1.1.1.1 | exact hk.2.1.1.1.2 | exact hk.2.1.1.2.1 | exact hk.2.1.1.2.2 | exact hk.2.1.2.1.1 | exact hk.2.1.2.1.2 | exact hk.2.1.2.2.1 | exact hk.2.1.2.2.2 | exact hk.2.2.1.1.1 | exact hk.2.2.1.1.2 | exact hk.2.2.1.2.1 | exact hk.2.2.1.2.2 | exact hk.2.2.2.1.1 | exact hk.2.2.2.1.2 | exact hk.2.2.2.2.1 | exact hk.2.2.2.2.2)); clear HO904; have HO904 := n_; clear n_; obtain ⟨hy20_, hz20_⟩ := Kd.R_celln false HO904.out (t905 : Int) (of_decide_eq_true (by first | (with_reducible assumption) | assumption)) (of_decide_eq_true (by first | (with_reducible assumption) | assumption)); have HP20 := Kd.R_putg HO904.out (t905 : Int) true) | ((with_reducible refine gate_store (t := 4) (p := 24) rfl ?_); refine store_event (t := 4) (p := 24) (v := ?vo_w21) (w1 := (w18.setCell ⟨go12, (t905 : Int).toNat, none⟩ (.bool true))) ?hg ?ho ?hn ?hr ?_; (case ho => rfl); (case hg => rfl); (case hn => rfl); (case hr => first | (go_simp; done) | (go_simp; rfl)); intro w21 hw; have hg : w18.grownBy w21 (some go12) := (by rw [hw]; exact HP20.2); have hp_ : Kd.R Kd.bool 4 w21 w.heap.size (fun k_ => (w.heap.size ≤ k_)) (.slice (some ⟨go12, 0, none⟩) y902.length co12) y906 := (by rw [hw, Ny906.out]; exact HP20.1); clear HP20; replace BK895 := aK (blk_grown (g := gb895) (o := .cells #[.int .i64 a0_0, .int .i64 a0_1, .int .i64 a0_2] 41 (0, 0)) (zK BK895) hg (Kd.R_ne HO904.out BK895.out (by decide))); replace HO901 := aK (Kd.N_afterv (v := (.slice (some ⟨go12, 0, none⟩) y902.length co12)) (v1 := (.slice (some ⟨go12, 0, none⟩) y902.length co12)) (ok := (fun k_ => (w.heap.size ≤ k_) ∧ k_ ≠ gb895)) (by (with_reducible repeat (first | apply Kd.N_alloc | apply Kd.N_drewN | apply Kd.N_drew)); exact (Kd.N_mono HO901.out (fun k_ hk => by (repeat' apply And.intro) <;> first | exact hk | exact hk.1 | exact hk.2 | exact hk.1.1 | exact hk.1.2 | exact hk.2.1 | exact hk.2.2 | exact hk.1.1.1 | exact hk.1.1.2 | exact hk.1.2.1 | exact hk.1.2.2 | exact hk.2.1.1 | exact hk.2.1.2 | exact hk.2.2.1 | exact hk.2.2.2 | exact hk.1.1.1.1 | exact hk.1.1.1.2 | exact hk.1.1.2.1 | exact hk.1.1.2.2 | exact hk.1.2.1.1 | exact hk.1.2.1.2 | exact hk.1.2.2.1 | exact hk.1.2.2.2 | exact hk.2.1.1.1 | exact hk.2.1.1.2 | exact hk.2.1.2.1 | exact hk.2.1.2.2 | exact hk.2.2.1.1 | exact hk.2.2.1.2 | exact hk.2.2.2.1 | exact hk.2.2.2.2 | exact hk.1.1.1.1.1 | exact hk.1.1.1.1.2 | exact hk.1.1.1.2.1 | exact hk.1.1.1.2.2 | exact hk.1.1.2.1.1 | exact hk.1.1.2.1.2 | exact hk.1.1.2.2.1 | exact hk.1.1.2.2.2 | exact hk.1.2.1.1.1 | exact hk.1.2.1.1.2 | exact hk.1.2.1.2.1 | exact hk.1.2.1.2.2 | exact hk.1.2.2.1.1 | exact hk.1.2.2.1.2 | exact hk.1.2.2.2.1 | exact hk.1.2.2.2.2 | exact hk.2.1.1.1.1 | exact hk.2.1.1.1.2 | exact hk.2.1.1.2.1 | exact hk.2.1.1.2.2 | exact hk.2.1.2.1.1 | exact hk.2.1.2.1.2 | exact hk.2.1.2.2.1 | exact hk.2.1.2.2.2 | exact hk.2.2.1.1.1 | exact hk.2.2.1.1.2 | exact hk.2.2.1.2.1 | exact hk.2.2.1.2.2 | exact hk.2.2.2.1.1 | exact hk.2.2.2.1.2 | exact hk.2.2.2.2.1 | exact hk.2.2.2.2.2))) hg (.inl rfl)); replace HO904 := aK (hp_); replace HB := aK ((by rw [hw]; exact bSt (HB.out) GB12.out : Below w.heap.size w w21)); clear hg hw hp_))
      go_loopg [5, 7] k (fun kq v5 v7 w' => ∃ (x5_1 : List (List Int)) (x6_1 : List Bool) (x7_1 : Int), v7 = .int .i64 x7_1 ∧ Aside0 (spec_l31Search.l0 kq l1 x5_1 x6_1 x7_1 a0_0 a0_1 a0_2 = some r) ∧ Aside0 (kq ≤ k) ∧ Aside0 (Kd.N (Kd.slice 3 (Kd.int .i64)) 42 w' w.heap.size (fun k_ => (w.heap.size ≤ k_) ∧ some k_ ≠ ((.slice (some ⟨go12, 0, none⟩) y902.length co12) : Value).ownBlock ∧ k_ ≠ gb895) v5 x5_1) ∧ Aside0 (Kd.R Kd.bool 4 w' w.heap.size (fun k_ => (w.heap.size ≤ k_)) (.slice (some ⟨go12, 0, none⟩) y902.length co12) x6_1) ∧ Aside0 (w'.heap[gb895]? = some (.cells #[.int .i64 a0_0, .int .i64 a0_1, .int .i64 a0_2] 41 (0, 0))) ∧ Aside0 (Below w.heap.size w w'))
      case atStart => exact ⟨(y899), (y906), (0), (by first | rfl | (simp; done) | (simp [*]; done)), H', ⟨Nat.le_refl _⟩, ⟨by (with_reducible repeat (first | apply Kd.N_alloc | apply Kd.N_drewN | apply Kd.N_drew)); exact Kd.N_mono HO901.out (fun k_ hk => by (repeat' apply And.intro) <;> first | exact hk | exact hk.1 | exact hk.2 | exact hk.1.1 | exact hk.1.2 | exact hk.2.1 | exact hk.2.2 | exact hk.1.1.1 | exact hk.1.1.2 | exact hk.1.2.1 | exact hk.1.2.2 | exact hk.2.1.1 | exact hk.2.1.2 | exact hk.2.2.1 | exact hk.2.2.2 | exact hk.1.1.1.1 | exact hk.1.1.1.2 | exact hk.1.1.2.1 | exact hk.1.1.2.2 | exact hk.1.2.1.1 | exact hk.1.2.1.2 | exact hk.1.2.2.1 | exact hk.1.2.2.2 | exact hk.2.1.1.1 | exact hk.2.1.1.2 | exact hk.2.1.2.1 | exact hk.2.1.2.2 | exact hk.2.2.1.1 | exact hk.2.2.1.2 | exact hk.2.2.2.1 | exact hk.2.2.2.2 | exact hk.1.1.1.1.1 | exact hk.1.1.1.1.2 | exact hk.1.1.1.2.1 | exact hk.1.1.1.2.2 | exact hk.1.1.2.1.1 | exact hk.1.1.2.1.2 | exact hk.1.1.2.2.1 | exact hk.1.1.2.2.2 | exact hk.1.2.1.1.1 | exact hk.1.2.1.1.2 | exact hk.1.2.1.2.1 | exact hk.1.2.1.2.2 | exact hk.1.2.2.1.1 | exact hk.1.2.2.1.2 | exact hk.1.2.2.2.1 | exact hk.1.2.2.2.2 | exact hk.2.1.1.1.1 | exact hk.2.1.1.1.2 | exact hk.2.1.1.2.1 | exact hk.2.1.1.2.2 | exact hk.2.1.2.1.1 | exact hk.2.1.2.1.2 | exact hk.2.1.2.2.1 | exact hk.2.1.2.2.2 | exact hk.2.2.1.1.1 | exact hk.2.2.1.1.2 | exact hk.2.2.1.2.1 | exact hk.2.2.1.2.2 | exact hk.2.2.2.1.1 | exact hk.2.2.2.1.2 | exact hk.2.2.2.2.1 | exact hk.2.2.2.2.2)⟩, ⟨zA HO904⟩, ⟨zK BK895⟩, ⟨zH1 HB GE895⟩⟩
      case round =>
       clear H'
       try clear c1
       try clear p1
       try clear q1
       try clear hx1
       try clear p2
       try clear c4
       try clear c5
       try clear c5b0
       try clear c5b1
       try clear p6
       try clear c7
       try clear c7b0
       try clear c7b1
       try clear c8
       try clear c8b0
       try clear c8b1
       try clear c10
       try clear c10b0
       try clear c11
       try clear c11b0
       try clear p12
       try clear q12
       try clear hx12
       try clear hf12
       try clear hx12_0
       try clear p12
       try clear q12
       obtain ⟨x5_1, x6_1, x7_1, rfl, HA, HK1, HO_5, HO_6, BK895, HB⟩ := hrel
       have hl6_1 := (Kd.R_reads' HO_6.out).1
       rw [hl6_1] at HO_6
       (try simp only [hl6_1])
       (try simp only [hl6_1] at BK895)
       (try simp only [hl6_1] at HO_5)
       cases gk with
       | zero => exact absurd HA.out (by simp [spec_l31Search.l0])
       | succ k1 =>
        have H := HA.out
        clear HA
        simp only [spec_l31Search.l0] at H
        by_cases c22 : x7_1 < (x5_1.length : Int)
        ·rw [if_pos c22] at H
         have c22b0 : decide (x7_1 < (x5_1.length : Int)) = true := decide_eq_true c22
         clear c22
         have H' := aK H
         clear H
         obtain ⟨Ao23, co23, eo23⟩ := Kd.N_slice HO_5.out
         subst eo23
         go_wp2
         go_loopg [5, 8] k1 (fun kq v5 v8 w' => ∃ (x5_2 : List (List Int)) (x6_2 : List Bool) (x8_2 : Int), v8 = .int .i64 x8_2 ∧ Aside0 (spec_l31Search.l1 kq l1 x5_2 x6_2 x7_1 x8_2 a0_0 a0_1 a0_2 = some r) ∧ Aside0 (kq ≤ k1) ∧ Aside0 (Kd.N (Kd.slice 3 (Kd.int .i64)) 42 w' w.heap.size (fun k_ => (w.heap.size ≤ k_) ∧ some k_ ≠ ((.slice (some ⟨go12, 0, none⟩) x6_1.length co12) : Value).ownBlock ∧ k_ ≠ gb895) v5 x5_2) ∧ Aside0 (Kd.R Kd.bool 4 w' w.heap.size (fun k_ => (w.heap.size ≤ k_)) (.slice (some ⟨go12, 0, none⟩) x6_1.length co12) x6_2) ∧ Aside0 (w'.heap[gb895]? = some (.cells #[.int .i64 a0_0, .int .i64 a0_1, .int .i64 a0_2] 41 (0, 0))) ∧ Aside0 (Below w.heap.size w w'))
         case atStart => exact ⟨(x5_1), (x6_1), (0), (by first | rfl | (simp; done) | (simp [*]; done)), H', ⟨Nat.le_refl _⟩, ⟨by (try simp only [hl6_1]); (with_reducible repeat (first | apply Kd.N_alloc | apply Kd.N_drewN | apply Kd.N_drew)); exact HO_5.out⟩, ⟨by (try simp only [hl6_1]); (with_reducible repeat (first | apply Kd.R_alloc | apply Kd.R_drewN | apply Kd.R_drew)); exact HO_6.out⟩, ⟨by (try simp only [hl6_1]); (with_reducible repeat (first | refine kDN ?_ _ | refine kD ?_ | refine kA ?_ _)); exact BK895.out⟩, ⟨zH1 HB GE895⟩⟩
         case round =>
          clear H'
          try clear c1
          try clear p1
          try clear q1
          try clear hx1
          try clear c2
          try clear p2
          try clear c4
          try clear c5
          try clear c5b0
          try clear c5b1
          try clear p6
          try clear c7
          try clear c7b0
          try clear c7b1
          try clear c8
          try clear c8b0
          try clear c8b1
          try clear c10
          try clear c10b0
          try clear c11
          try clear c11b0
          try clear p12
          try clear q12
          try clear hx12
          try clear hf12
          try clear c22
          try clear c22b0
          try clear hx12_0
          try clear p1
          try clear p12
          try clear p2
          try clear p6
          try clear q1
          try clear q12
          obtain ⟨x5_2, x6_2, x8_2, rfl, HA, HK2, HO_5, HO_6, BK895, HB⟩ := hrel
          have hl6_2 := (Kd.R_reads' HO_6.out).1
          rw [hl6_2] at HO_6
          (try simp only [hl6_2])
          (try simp only [hl6_2] at BK895)
          (try simp only [hl6_2] at HO_5)
          cases gk with
          | zero => exact absurd HA.out (by simp [spec_l31Search.l1])
          | succ k2 =>
           have H := HA.out
           clear HA
           simp only [spec_l31Search.l1] at H
           by_cases c24 : x8_2 < (l1.length : Int)
           ·rw [if_pos c24] at H
            have c24b0 : decide (x8_2 < (l1.length : Int)) = true := decide_eq_true c24
            clear c24
            have H' := aK H
            clear H
            go_wp2
            go_loopg [5, 9] k2 (fun kq v5 v9 w' => ∃ (x5_3 : List (List Int)) (x6_3 : List Bool) (x9_3 : Int), v9 = .int .i64 x9_3 ∧ Aside0 (spec_l31Search.l2 kq l1 x5_3 x6_3 x7_1 x8_2 x9_3 a0_0 a0_1 a0_2 = some r) ∧ Aside0 (kq ≤ k2) ∧ Aside0 (Kd.N (Kd.slice 3 (Kd.int .i64)) 42 w' w.heap.size (fun k_ => (w.heap.size ≤ k_) ∧ some k_ ≠ ((.slice (some ⟨go12, 0, none⟩) x6_2.length co12) : Value).ownBlock ∧ k_ ≠ gb895) v5 x5_3) ∧ Aside0 (Kd.R Kd.bool 4 w' w.heap.size (fun k_ => (w.heap.size ≤ k_)) (.slice (some ⟨go12, 0, none⟩) x6_2.length co12) x6_3) ∧ Aside0 (w'.heap[gb895]? = some (.cells #[.int .i64 a0_0, .int .i64 a0_1, .int .i64 a0_2] 41 (0, 0))) ∧ Aside0 (Below w.heap.size w w'))
            case atStart => exact ⟨(x5_2), (x6_2), (0), (by first | rfl | (simp; done) | (simp [*]; done)), H', ⟨Nat.le_refl _⟩, ⟨by (try simp only [hl6_1]); (try simp only [hl6_2]); (with_reducible repeat (first | apply Kd.N_alloc | apply Kd.N_drewN | apply Kd.N_drew)); exact HO_5.out⟩, ⟨by (try simp only [hl6_1]); (try simp only [hl6_2]); (with_reducible repeat (first | apply Kd.R_alloc | apply Kd.R_drewN | apply Kd.R_drew)); exact HO_6.out⟩, ⟨by (try simp only [hl6_1]); (try simp only [hl6_2]); (with_reducible repeat (first | refine kDN ?_ _ | refine kD ?_ | refine kA ?_ _)); exact BK895.out⟩, ⟨zH1 HB GE895⟩⟩
            case round =>
             clear H'
             try clear c1
             try clear p1
             try clear q1
             try clear hx1
             try clear c2
             try clear p2
             try clear c4
             try clear c5
             try clear c5b0
             try clear c5b1
             try clear p6
             try clear c7
             try clear c7b0
             try clear c7b1
             try clear c8
             try clear c8b0
             try clear c8b1
             try clear c10
             try clear c10b0
             try clear c11
             try clear c11b0
             try clear p12
             try clear q12
             try clear hx12
             try clear hf12
             try clear c22
             try clear c22b0
             try clear c24
             try clear c24b0
             try clear hx12_0
             try clear p1
             try clear p12
             try clear p2
             try clear p6
             try clear q1
             try clear q12
             obtain ⟨x5_3, x6_3, x9_3, rfl, HA, HK3, HO_5, HO_6, BK895, HB⟩ := hrel
             have hl6_3 := (Kd.R_reads' HO_6.out).1
             rw [hl6_3] at HO_6
             (try simp only [hl6_3])
             (try simp only [hl6_3] at BK895)
             (try simp only [hl6_3] at HO_5)
             cases gk with
             | zero => exact absurd HA.out (by simp [spec_l31Search.l2])
             | succ k3 =>
              have H := HA.out
              clear HA
              simp only [spec_l31Search.l2] at H
              by_cases c25 : x9_3 ≤ 3
              ·rw [if_pos c25] at H
               have c25b0 : decide (x9_3 ≤ 3) = true := decide_eq_true c25
               clear c25
               by_cases c26 : 0 ≤ x7_1
               ·rw [if_pos c26] at H
                have c26b0 : decide (0 ≤ x7_1) = true := decide_eq_true c26
                clear c26
                by_cases c27 : x7_1 < (x5_3.length : Int)
                ·rw [if_pos c27] at H
                 have c27b0 : decide (x7_1 < (x5_3.length : Int)) = true := decide_eq_true c27
                 clear c27
                 replace H := Option.bind_eq_some_iff.mp H
                 obtain ⟨⟨t908, t911⟩, A280, H⟩ := H
                 replace H : (if t911 = true then ((spec_l31Key.f k3 t908).bind fun t912 => (if 0 ≤ t912 then (if t912 < (x6_3.length : Int) then (if rdOf false x6_3 t912 = true then (spec_l31Search.l2 k3 l1 x5_3 x6_3 x7_1 x8_2 (wrap64 (x9_3 + 1)) a0_0 a0_1 a0_2) else ((spec_l31Key.f k3 t908).bind fun t914 => (if 0 ≤ t914 then (if t914 < (x6_3.length : Int) then (if x5_3.length < 5864062014805 then (spec_l31Search.l2 k3 l1 (x5_3 ++ [t908]) (x6_3.set (t914 : Int).toNat true) x7_1 x8_2 (wrap64 (x9_3 + 1)) a0_0 a0_1 a0_2) else (none)) else (none)) else (none)))) else (none)) else (none))) else (spec_l31Search.l2 k3 l1 x5_3 x6_3 x7_1 x8_2 (wrap64 (x9_3 + 1)) a0_0 a0_1 a0_2)) = some r := H
                 have A28 := aK A280
                 clear A280
                 by_cases c29 : t911 = true
                 ·subst c29
                  have H1 : ((spec_l31Key.f k3 t908).bind fun t912 => (if 0 ≤ t912 then (if t912 < (x6_3.length : Int) then (if rdOf false x6_3 t912 = true then (spec_l31Search.l2 k3 l1 x5_3 x6_3 x7_1 x8_2 (wrap64 (x9_3 + 1)) a0_0 a0_1 a0_2) else ((spec_l31Key.f k3 t908).bind fun t914 => (if 0 ≤ t914 then (if t914 < (x6_3.length : Int) then (if x5_3.length < 5864062014805 then (spec_l31Search.l2 k3 l1 (x5_3 ++ [t908]) (x6_3.set (t914 : Int).toNat true) x7_1 x8_2 (wrap64 (x9_3 + 1)) a0_0 a0_1 a0_2) else (none)) else (none)) else (none)))) else (none)) else (none))) = some r := by rw [if_pos rfl] at H; exact H
                  clear H
                  have H := H1
                  clear H1
                  replace H := Option.bind_eq_some_iff.mp H
                  obtain ⟨t912, A300, H⟩ := H
                  replace H : (if 0 ≤ t912 then (if t912 < (x6_3.length : Int) then (if rdOf false x6_3 t912 = true then (spec_l31Search.l2 k3 l1 x5_3 x6_3 x7_1 x8_2 (wrap64 (x9_3 + 1)) a0_0 a0_1 a0_2) else ((spec_l31Key.f k3 t908).bind fun t914 => (if 0 ≤ t914 then (if t914 < (x6_3.length : Int) then (if x5_3.length < 5864062014805 then (spec_l31Search.l2 k3 l1 (x5_3 ++ [t908]) (x6_3.set (t914 : Int).toNat true) x7_1 x8_2 (wrap64 (x9_3 + 1)) a0_0 a0_1 a0_2) else (none)) else (none)) else (none)))) else (none)) else (none)) = some r := H
                  have A30 := aK A300
                  clear A300
                  by_cases c31 : 0 ≤ t912
                  ·rw [if_pos c31] at H
                   have c31b0 : decide (0 ≤ t912) = true := decide_eq_true c31
                   clear c31
                   by_cases c32 : t912 < (x6_3.length : Int)
                   ·rw [if_pos c32] at H
                    have c32b0 : decide (t912 < (x6_3.length : Int)) = true := decide_eq_true c32
                    clear c32
                    obtain ⟨bq33, hbq33⟩ : ∃ b_ : Bool, b_ = (rdOf false x6_3 t912) := ⟨_, rfl⟩
                    replace H : (if bq33 = true then (spec_l31Search.l2 k3 l1 x5_3 x6_3 x7_1 x8_2 (wrap64 (x9_3 + 1)) a0_0 a0_1 a0_2) else ((spec_l31Key.f k3 t908).bind fun t914 => (if 0 ≤ t914 then (if t914 < (x6_3.length : Int) then (if x5_3.length < 5864062014805 then (spec_l31Search.l2 k3 l1 (x5_3 ++ [t908]) (x6_3.set (t914 : Int).toNat true) x7_1 x8_2 (wrap64 (x9_3 + 1)) a0_0 a0_1 a0_2) else (none)) else (none)) else (none)))) = some r := by rw [← hbq33] at H; exact H
                    have Nbq33 := aK hbq33
                    clear hbq33
                    by_cases c34 : bq33 = true
                    ·subst c34
                     have H1 : (spec_l31Search.l2 k3 l1 x5_3 x6_3 x7_1 x8_2 (wrap64 (x9_3 + 1)) a0_0 a0_1 a0_2) = some r := by rw [if_pos rfl] at H; exact H
                     clear H
                     have H := H1
                     clear H1
                     have H' := aK H
                     clear H
                     try go_wp2
                     have n0_ := aK (Kd.N_drew HO_5.out)
                     have n1_ := aK (Kd.R_drew HO_6.out)
                     have n2_ := aK (kD BK895.out)
                     have n3_ := aK (bD1 HB.out)
                     clear HO_5
                     clear HO_6
                     clear BK895
                     clear HB
                     have HO_5 := n0_
                     have HO_6 := n1_
                     have BK895 := n2_
                     have HB := n3_
                     clear n0_ n1_ n2_ n3_
                     obtain ⟨Ao36, co36, eo36⟩ := Kd.N_slice HO_5.out
                     (first | subst eo36 | (injection eo36 with f1_ f2_ f3_; have f4_ := f1_.symm; have f5_ := f3_.symm; clear f1_ f2_ f3_; subst f4_; subst f5_))
                     have p907 : 0 ≤ (x7_1 : Int) := of_decide_eq_true (by first | (with_reducible assumption) | assumption)
                     have q907 : x7_1 < (x5_3.length : Int) := of_decide_eq_true (by first | (with_reducible assumption) | assumption)
                     obtain ⟨ad907, A907_0, c907_0, e907, hx907_0, hl907_0, hi907_0⟩ := at_L7 (Kd.N_reads' HO_5.out).2.2 x7_1 p907 q907
                     cases e907
                     obtain ⟨ce907, hce907, hMe907, hcc907⟩ := Kd.N_get HO_5.out [] x7_1 p907 (by first | exact q907 | exact of_decide_eq_true (by first | (with_reducible assumption) | assumption) | (have e_ := (Kd.N_reads' HO_5.out).1; omega))
                     obtain ⟨ua907_0, uc907_0, rfl, ul907_0, ge907_0⟩ := Kd.FK_slice_open hMe907
                     have hv907_0 := hcc907 0 _ rfl
                     rw [Nat.add_zero, show ((Kd.slice 3 (Kd.int .i64))).sz = 1 from rfl, Nat.mul_one] at hv907_0
                     replace hv907_0 := Option.some.inj (hv907_0.symm.trans hx907_0)
                     injection hv907_0 with hva_ hvn_ hvc_
                     rw [hva_] at ge907_0
                     rw [hvc_] at ul907_0
                     have HL907_0 := aK (show Kd.V (Kd.int .i64) 3 _ w.heap.size _ _ (rd_LInt x5_3 x7_1) from Kd.V_mk ul907_0 ge907_0)
                     clear hva_ hvn_ hvc_ ge907_0 ul907_0
                     clear hcc907 hce907
                     have HR907_0 := aK hi907_0
                     have HC907_0 := aK hl907_0
                     clear hi907_0 hl907_0
                     replace p907 := eq_true p907
                     replace q907 := eq_true q907
                     refine start_ (n := 13) (S := fun w' => w'.cell? ⟨gb895, 0, none⟩ = some (.int .i64 a0_0) ∧ w'.cell? ⟨gb895, 1, none⟩ = some (.int .i64 a0_1) ∧ w'.cell? ⟨gb895, 2, none⟩ = some (.int .i64 a0_2) ∧ w'.cell? (ad907.add (x7_1).toNat) = some (.slice A907_0 (rd_LInt x5_3 x7_1).length c907_0)) (ds := []) #[bN,bN,bN,bN,bN,bN,bN,bN,bN,bN,bN,bN,bN] (by kernel_rfl) rfl rfl ⟨zQ BK895 0, zQ BK895 1, zQ BK895 2, hx907_0⟩ (fun hHeld => ?_); refine with_tabW spec_l31Search.tab13 spec_l31Search.bits13 (fun HT_ HW_ => ?_)
                     generalize wr.drew = w35 at HO_5 HO_6 BK895 HB HL907_0 HR907_0 hx907_0 hHeld ⊢
                     refine pure_ (i := 1) (N := some 43) (v := ?_) (a' := ?_) #[bN,bY,bN,bN,bN,bN,bN,bN,bN,bN,bN,bN,bN] rfl rfl (any_of HT_.out (by kernel_rfl)) (fun _ _ _ h => h) (Or.inl ⟨by rfl, ?_⟩) ?_ ?_
                     rotate_left
                     ·intro w'
                      go_simp
                      with_reducible rfl
                     rotate_left
                     ·simp only [Act.put, sTA, sZ, sS, i64_w, i32_w]
                      rfl
                     refine pure_ (i := 2) (N := some 44) (v := ?_) (a' := ?_) #[bN,bY,bY,bN,bN,bN,bN,bN,bN,bN,bN,bN,bN] rfl rfl (any_of HT_.out (by kernel_rfl)) (fun _ _ _ h => h) (Or.inl ⟨by rfl, ?_⟩) ?_ ?_
                     rotate_left
                     ·intro w'
                      go_simp
                      with_reducible rfl
                     rotate_left
                     ·simp only [Act.put, sTA, sZ, sS, i64_w, i32_w]
                      rfl
                     refine pure_ (i := 3) (N := some 45) (v := ?_) (a' := ?_) #[bN,bY,bY,bY,bN,bN,bN,bN,bN,bN,bN,bN,bN] rfl rfl (any_of HT_.out (by kernel_rfl)) (fun _ _ _ h => h) (Or.inl ⟨by rfl, ?_⟩) ?_ ?_
                     rotate_left
                     ·intro w'
                      go_simp
                      with_reducible rfl
                     rotate_left
                     ·simp only [Act.put, sTA, sZ, sS, i64_w, i32_w]
                      rfl
                     refine pure_ (i := 5) (N := some 47) (v := ?_) (a' := ?_) #[bN,bY,bY,bY,bN,bY,bN,bN,bN,bN,bN,bN,bN] rfl rfl (any_of HT_.out (by kernel_rfl)) (fun _ _ _ h => h) (Or.inl ⟨by rfl, ?_⟩) ?_ ?_
                     rotate_left
                     ·intro w'
                      go_simp
                      with_reducible rfl
                     rotate_left
                     ·simp only [Act.put, sTA, sZ, sS, i64_w, i32_w]
                      rfl
                     refine pure_ (i := 6) (N := some 48) (v := ?_) (a' := ?_) #[bN,bY,bY,bY,bN,bY,bY,bN,bN,bN,bN,bN,bN] rfl rfl (any_of HT_.out (by kernel_rfl)) (fun _ _ _ h => h) (Or.inl ⟨by rfl, ?_⟩) ?_ ?_
                     rotate_left
                     ·intro w'
                      go_simp
                      with_reducible rfl
                     rotate_left
                     ·simp only [Act.put, sTA, sZ, sS, i64_w, i32_w]
                      rfl
                     refine take_ (i := 0) (N := some 42) (v := ?_) (a' := ?_) #[bY,bY,bY,bY,bN,bY,bY,bN,bN,bN,bN,bN,bN] rfl rfl (take_ofW HT_.out HW_.out (by kernel_rfl)) (fun _ _ _ h => h) (Or.inl ⟨by rfl, ?_⟩) hHeld ?_ ?_
                     rotate_left
                     ·rintro w' ⟨s0, s1, s2, s3⟩
                      go_simp
                      with_reducible rfl
                     rotate_left
                     ·simp only [Act.put, sTA, sZ, sS, i64_w, i32_w]
                      rfl
                     refine take_ (i := 4) (N := some 46) (v := ?_) (a' := ?_) #[bY,bY,bY,bY,bY,bY,bY,bN,bN,bN,bN,bN,bN] rfl rfl (take_ofW HT_.out HW_.out (by kernel_rfl)) (fun _ _ _ h => h) (Or.inl ⟨by rfl, ?_⟩) hHeld ?_ ?_
                     rotate_left
                     ·rintro w' ⟨s0, s1, s2, s3⟩
                      go_simp
                      with_reducible rfl
                     rotate_left
                     ·simp only [Act.put, sTA, sZ, sS, i64_w, i32_w]
                      rfl
                     refine one_ (i := 7) (N := some 49) #[bY,bY,bY,bY,bY,bY,bY,bY,bN,bN,bN,bN,bN] rfl rfl (one_of HT_.out (by kernel_rfl)) (by decide) (fun K hK => ?_)
                     refine goes_ Tryd.func77 (by kernel_rfl) rfl #[.agg #[.int .i64 a0_0, .int .i64 a0_1, .int .i64 a0_2], .slice A907_0 (rd_LInt x5_3 x7_1).length c907_0, .int .i64 x8_2, .int .i64 x9_3] (by rfl) rfl rfl zD ?_
                     with_reducible refine (spec_MoveOne.calls k3 a0_0 a0_1 a0_2 _ _ (rd_LInt x5_3 x7_1) x8_2 x9_3 t908 true _ ?side1 ?side2 A28.out).mono ?_
                     (case side1 => repeat (first | exact (by repeat (first | (with_reducible exact HR907_0.out) | (with_reducible refine Kd.C_alloc ?_ _) | (with_reducible refine Kd.C_drewN ?_ _) | (with_reducible refine Kd.C_drew ?_) | exact HR907_0.out)) | (with_reducible refine Kd.C_alloc ?_ _) | (with_reducible refine Kd.C_drewN ?_ _) | (with_reducible refine Kd.C_drew ?_)))
                     (case side2 => exact HC907_0.out)
                     rintro e w37 ⟨v909, rfl, ho0, hb⟩
                     have HS3_ := (hb.cell (World.block_lt_of_cell? _ _ (hHeld.2.2.2))).trans (hHeld.2.2.2)
                     refine ⟨_, rfl, ?_⟩
                     have n0_ := aK (Kd.N_elder' (by (with_reducible repeat (first | apply Kd.N_alloc | apply Kd.N_drewN | apply Kd.N_drew)); exact HO_5.out) (Kd.R_base ho0) hb)
                     have n1_ := aK (Kd.R_below (zA HO_6) hb)
                     have n2_ := aK (Kd.V_elder' (by (with_reducible repeat (first | apply Kd.V_alloc | apply Kd.V_drewN | apply Kd.V_drew)); exact HL907_0.out) (Kd.R_base ho0) hb)
                     have n3_ := aK (Kd.R_lower (Kd.R_newM (M := fun k_ => (w.heap.size ≤ k_)) ho0 (bSz (zH1 HB GE895)) (fun k_ h_ => h_)) (bSz (zH1 HB GE895)))
                     have n4_ := zB BK895 hb
                     have n5_ := aK (Kd.C_below (by repeat (first | (with_reducible exact HR907_0.out) | (with_reducible refine Kd.C_alloc ?_ _) | (with_reducible refine Kd.C_drewN ?_ _) | (with_reducible refine Kd.C_drew ?_) | exact HR907_0.out)) hb)
                     have n6_ := aK (bSp (zH1 HB GE895) hb)
                     clear HO_5
                     clear HO_6
                     clear HL907_0
                     clear BK895
                     clear HR907_0
                     clear HB
                     have HO_5 := n0_
                     have HO_6 := n1_
                     have HL907_0 := n2_
                     have HO910 := n3_
                     have BK895 := n4_
                     have HR907_0 := n5_
                     have HB := n6_
                     clear n0_ n1_ n2_ n3_ n4_ n5_ n6_
                     (try clear hb)
                     (try clear hb2)
                     (try clear hk)
                     (try clear hi)
                     (try clear ho0)
                     refine hK.out _ _ ⟨zQ BK895 0, zQ BK895 1, zQ BK895 2, HS3_⟩ (fun hHeld => ?_)
                     clear hK K
                     refine norm_ (a' := ?_) ?_ ?_
                     rotate_left
                     ·show Act.put _ (some 49) _ = _
                      simp only [Act.put, sTA, sZ, sS, i64_w, i32_w]
                      rfl
                     refine pure_ (i := 8) (N := some 41) (v := ?_) (a' := ?_) #[bY,bY,bY,bY,bY,bY,bY,bY,bY,bN,bN,bN,bN] rfl rfl (any_of HT_.out (by kernel_rfl)) (fun _ _ _ h => h) (Or.inl ⟨by rfl, ?_⟩) ?_ ?_
                     rotate_left
                     ·intro w'
                      go_simp
                      with_reducible rfl
                     rotate_left
                     ·simp only [Act.put, sTA, sZ, sS, i64_w, i32_w]
                      rfl
                     refine pure_ (i := 9) (N := some 50) (v := ?_) (a' := ?_) #[bY,bY,bY,bY,bY,bY,bY,bY,bY,bY,bN,bN,bN] rfl rfl (any_of HT_.out (by kernel_rfl)) (fun _ _ _ h => h) (Or.inl ⟨by rfl, ?_⟩) ?_ ?_
                     rotate_left
                     ·intro w'
                      go_simp
                      with_reducible rfl
                     rotate_left
                     ·simp only [Act.put, sTA, sZ, sS, i64_w, i32_w]
                      rfl
                     refine pure_ (i := 10) (N := some 51) (v := ?_) (a' := ?_) #[bY,bY,bY,bY,bY,bY,bY,bY,bY,bY,bY,bN,bN] rfl rfl (any_of HT_.out (by kernel_rfl)) (fun _ _ _ h => h) (Or.inl ⟨by rfl, ?_⟩) ?_ ?_
                     rotate_left
                     ·intro w'
                      go_simp
                      with_reducible rfl
                     rotate_left
                     ·simp only [Act.put, sTA, sZ, sS, i64_w, i32_w]
                      rfl
                     refine pure_ (i := 11) (N := some 10) (v := ?_) (a' := ?_) #[bY,bY,bY,bY,bY,bY,bY,bY,bY,bY,bY,bY,bN] rfl rfl (any_of HT_.out (by kernel_rfl)) (fun _ _ _ h => h) (Or.inl ⟨by rfl, ?_⟩) ?_ ?_
                     rotate_left
                     ·intro w'
                      go_simp
                      with_reducible rfl
                     rotate_left
                     ·simp only [Act.put, sTA, sZ, sS, i64_w, i32_w]
                      rfl
                     refine pure_ (i := 12) (N := some 11) (v := ?_) (a' := ?_) #[bY,bY,bY,bY,bY,bY,bY,bY,bY,bY,bY,bY,bY] rfl rfl (any_of HT_.out (by kernel_rfl)) (fun _ _ _ h => h) (Or.inl ⟨by rfl, ?_⟩) ?_ ?_
                     rotate_left
                     ·intro w'
                      go_simp
                      with_reducible rfl
                     rotate_left
                     ·simp only [Act.put, sTA, sZ, sS, i64_w, i32_w]
                      rfl
                     refine done_ (done_of HT_.out (by kernel_rfl)) ?_
                     obtain ⟨Ao38, co38, eo38⟩ := Kd.R_slice HO910.out
                     subst eo38
                     try go_wp2_with (first | (go_at_call 49; (with_reducible refine (spec_l31Key.calls k3 _ _ t908 t912 _ ?side1 ?side2 A30.out).mono ?_); (case side1 => exact zC (Kd.R_reads' HO910.out).2.2); (case side2 => exact (Kd.R_reads' HO910.out).2.1); rintro e w' ⟨rfl, ⟨nd, rfl⟩⟩; have p913 : 0 ≤ (t912 : Int) := of_decide_eq_true (by first | (with_reducible assumption) | assumption); have q913 : t912 < (x6_3.length : Int) := of_decide_eq_true (by first | (with_reducible assumption) | assumption); obtain ⟨ad913, e913, hx913_0⟩ := Kd.at_bool (Kd.R_reads' HO_6.out).2.2 t912 p913 q913; (try rw [← Nbq33.out] at hx913_0); obtain rfl : (⟨go12, 0, none⟩ : Addr) = ad913 := (by injection e913); (first | simp only [add_plain] at hx913_0 | simp only [add_at] at hx913_0 | simp only [Addr.add, Nat.zero_add] at hx913_0 | skip); replace p913 := eq_true p913; replace q913 := eq_true q913))
                     (try simp only [← hl6_3])
                     go_roundg k3
                     case measure => have := HK1.out; have := HK2.out; have := HK3.out; omega
                     case rel => exact ⟨(x5_3), (x6_3), (wrap64 (x9_3 + 1)), (by first | rfl | (simp; done) | (simp [*]; done)), H', ⟨by have := HK1.out; have := HK2.out; have := HK3.out; omega⟩, ⟨by (try simp only [hl6_1]); (try simp only [hl6_2]); (try simp only [hl6_3]); (with_reducible repeat (first | apply Kd.N_alloc | apply Kd.N_drewN | apply Kd.N_drew)); exact Kd.N_mono HO_5.out (fun k_ hk => by (repeat' apply And.intro) <;> first | exact hk | exact hk.1 | exact hk.2 | exact hk.1.1 | exact hk.1.2 | exact hk.2.1 | exact hk.2.2 | exact hk.1.1.1 | exact hk.1.1.2 | exact hk.1.2.1 | exact hk.1.2.2 | exact hk.2.1.1 | exact hk.2.1.2 | exact hk.2.2.1 | exact hk.2.2.2 | exact hk.1.1.1.1 | exact hk.1.1.1.2 | exact hk.1.1.2.1 | exact hk.1.1.2.2 | exact hk.1.2.1.1 | exact hk.1.2.1.2 | exact hk.1.2.2.1 | exact hk.1.2.2.2 | exact hk.2.1.1.1 | exact hk.2.1.1.2 | exact hk.2.1.2.1 | exact hk.2.1.2.2 | exact hk.2.2.1.1 | exact hk.2.2.1.2 | exact hk.2.2.2.1 | exact hk.2.2.2.2 | exact hk.1.1.1.1.1 | exact hk.1.1.1.1.2 | exact hk.1.1.1.2.1 | exact hk.1.1.1.2.2 | exact hk.1.1.2.1.1 | exact hk.1.1.2.1.2 | exact hk.1.1.2.2.1 | exact hk.1.1.2.2.2 | exact hk.1.2.1.1.1 | exact hk.1.2.1.1.2 | exact hk.1.2.1.2.1 | exact hk.1.2.1.2.2 | exact hk.1.2.2.1.1 | exact hk.1.2.2.1.2 | exact hk.1.2.2.2.1 | exact hk.1.2.2.2.2 | exact hk.2.1.1.1.1 | exact hk.2.1.1.1.2 | exact hk.2.1.1.2.1 | exact hk.2.1.1.2.2 | exact hk.2.1.2.1.1 | exact hk.2.1.2.1.2 | exact hk.2.1.2.2.1 | exact hk.2.1.2.2.2 | exact hk.2.2.1.1.1 | exact hk.2.2.1.1.2 | exact hk.2.2.1.2.1 | exact hk.2.2.1.2.2 | exact hk.2.2.2.1.1 | exact hk.2.2.2.1.2 | exact hk.2.2.2.2.1 | exact hk.2.2.2.2.2)⟩, ⟨by (try simp only [hl6_1]); (try simp only [hl6_2]); (try simp only [hl6_3]); (with_reducible repeat (first | apply Kd.R_alloc | apply Kd.R_drewN | apply Kd.R_drew)); exact HO_6.out⟩, ⟨by (try simp only [hl6_1]); (try simp only [hl6_2]); (try simp only [hl6_3]); (with_reducible repeat (first | refine kDN ?_ _ | refine kD ?_ | refine kA ?_ _)); exact BK895.out⟩, ⟨zH1 HB GE895⟩⟩
                    ·replace c34 := Bool.eq_false_iff.mpr c34
                     subst c34
                     have H1 : ((spec_l31Key.f k3 t908).bind fun t914 => (if 0 ≤ t914 then (if t914 < (x6_3.length : Int) then (if x5_3.length < 5864062014805 then (spec_l31Search.l2 k3 l1 (x5_3 ++ [t908]) (x6_3.set (t914 : Int).toNat true) x7_1 x8_2 (wrap64 (x9_3 + 1)) a0_0 a0_1 a0_2) else (none)) else (none)) else (none))) = some r := by rw [if_neg (show ¬ (false = true) by decide)] at H; exact H
                     clear H
                     have H := H1
                     clear H1
                     replace H := Option.bind_eq_some_iff.mp H
                     obtain ⟨t914, A390, H⟩ := H
                     replace H : (if 0 ≤ t914 then (if t914 < (x6_3.length : Int) then (if x5_3.length < 5864062014805 then (spec_l31Search.l2 k3 l1 (x5_3 ++ [t908]) (x6_3.set (t914 : Int).toNat true) x7_1 x8_2 (wrap64 (x9_3 + 1)) a0_0 a0_1 a0_2) else (none)) else (none)) else (none)) = some r := H
                     have A39 := aK A390
                     clear A390
                     by_cases c40 : 0 ≤ t914
                     ·rw [if_pos c40] at H
                      have c40b0 : decide (0 ≤ t914) = true := decide_eq_true c40
                      clear c40
                      by_cases c41 : t914 < (x6_3.length : Int)
                      ·rw [if_pos c41] at H
                       have c41b0 : decide (t914 < (x6_3.length : Int)) = true := decide_eq_true c41
                       clear c41
                       obtain ⟨y915, hy915⟩ : ∃ y_ : List Bool, y_ = (x6_3.set (t914 : Int).toNat true) := ⟨_, rfl⟩
                       replace H : (if x5_3.length < 5864062014805 then (spec_l31Search.l2 k3 l1 (x5_3 ++ [t908]) y915 x7_1 x8_2 (wrap64 (x9_3 + 1)) a0_0 a0_1 a0_2) else (none)) = some r := by first | (rw [hy915]; with_reducible exact H) | (have H2_ := (Option.bind_some _ _).symm.trans H; rw [hy915]; with_reducible exact H2_) | (have H2_ := (Option.bind_some _ _).symm.trans H; with_reducible exact H2_) | with_reducible exact H | (rw [hy915]; exact H) | exact H
                       have Ny915 := aK hy915
                       clear hy915
                       by_cases c43 : x5_3.length < 5864062014805
                       ·rw [if_pos c43] at H
                        have LMc43 := aK c43
                        clear c43
                        obtain ⟨y916, hy916⟩ : ∃ y_ : List (List Int), y_ = (x5_3 ++ [t908]) := ⟨_, rfl⟩
                        replace H : (spec_l31Search.l2 k3 l1 y916 y915 x7_1 x8_2 (wrap64 (x9_3 + 1)) a0_0 a0_1 a0_2) = some r := by first | (rw [hy916]; with_reducible exact H) | (have H2_ := (Option.bind_some _ _).symm.trans H; rw [hy916]; with_reducible exact H2_) | (have H2_ := (Option.bind_some _ _).symm.trans H; with_reducible exact H2_) | with_reducible exact H | (rw [hy916]; exact H) | exact H
                        have Ny916 := aK hy916
                        clear hy916
                        have H' := aK H
                        clear H
                        try go_wp2
                        have n0_ := aK (Kd.N_drew HO_5.out)
                        have n1_ := aK (Kd.R_drew HO_6.out)
                        have n2_ := aK (kD BK895.out)
                        have n3_ := aK (bD1 HB.out)
                        clear HO_5
                        clear HO_6
                        clear BK895
                        clear HB
                        have HO_5 := n0_
                        have HO_6 := n1_
                        have BK895 := n2_
                        have HB := n3_
                        clear n0_ n1_ n2_ n3_
                        obtain ⟨Ao45, co45, eo45⟩ := Kd.N_slice HO_5.out
                        (first | subst eo45 | (injection eo45 with f1_ f2_ f3_; have f4_ := f1_.symm; have f5_ := f3_.symm; clear f1_ f2_ f3_; subst f4_; subst f5_))
                        have p907 : 0 ≤ (x7_1 : Int) := of_decide_eq_true (by first | (with_reducible assumption) | assumption)
                        have q907 : x7_1 < (x5_3.length : Int) := of_decide_eq_true (by first | (with_reducible assumption) | assumption)
                        obtain ⟨ad907, A907_0, c907_0, e907, hx907_0, hl907_0, hi907_0⟩ := at_L7 (Kd.N_reads' HO_5.out).2.2 x7_1 p907 q907
                        cases e907
                        obtain ⟨ce907, hce907, hMe907, hcc907⟩ := Kd.N_get HO_5.out [] x7_1 p907 (by first | exact q907 | exact of_decide_eq_true (by first | (with_reducible assumption) | assumption) | (have e_ := (Kd.N_reads' HO_5.out).1; omega))
                        obtain ⟨ua907_0, uc907_0, rfl, ul907_0, ge907_0⟩ := Kd.FK_slice_open hMe907
                        have hv907_0 := hcc907 0 _ rfl
                        rw [Nat.add_zero, show ((Kd.slice 3 (Kd.int .i64))).sz = 1 from rfl, Nat.mul_one] at hv907_0
                        replace hv907_0 := Option.some.inj (hv907_0.symm.trans hx907_0)
                        injection hv907_0 with hva_ hvn_ hvc_
                        rw [hva_] at ge907_0
                        rw [hvc_] at ul907_0
                        have HL907_0 := aK (show Kd.V (Kd.int .i64) 3 _ w.heap.size _ _ (rd_LInt x5_3 x7_1) from Kd.V_mk ul907_0 ge907_0)
                        clear hva_ hvn_ hvc_ ge907_0 ul907_0
                        clear hcc907 hce907
                        have HR907_0 := aK hi907_0
                        have HC907_0 := aK hl907_0
                        clear hi907_0 hl907_0
                        replace p907 := eq_true p907
                        replace q907 := eq_true q907
                        refine start_ (n := 13) (S := fun w' => w'.cell? ⟨gb895, 0, none⟩ = some (.int .i64 a0_0) ∧ w'.cell? ⟨gb895, 1, none⟩ = some (.int .i64 a0_1) ∧ w'.cell? ⟨gb895, 2, none⟩ = some (.int .i64 a0_2) ∧ w'.cell? (ad907.add (x7_1).toNat) = some (.slice A907_0 (rd_LInt x5_3 x7_1).length c907_0)) (ds := []) #[bN,bN,bN,bN,bN,bN,bN,bN,bN,bN,bN,bN,bN] (by kernel_rfl) rfl rfl ⟨zQ BK895 0, zQ BK895 1, zQ BK895 2, hx907_0⟩ (fun hHeld => ?_); refine with_tabW spec_l31Search.tab13 spec_l31Search.bits13 (fun HT_ HW_ => ?_)
                        generalize wr.drew = w44 at HO_5 HO_6 BK895 HB HL907_0 HR907_0 hx907_0 hHeld ⊢
                        refine pure_ (i := 1) (N := some 43) (v := ?_) (a' := ?_) #[bN,bY,bN,bN,bN,bN,bN,bN,bN,bN,bN,bN,bN] rfl rfl (any_of HT_.out (by kernel_rfl)) (fun _ _ _ h => h) (Or.inl ⟨by rfl, ?_⟩) ?_ ?_
                        rotate_left
                        ·intro w'
                         go_simp
                         with_reducible rfl
                        rotate_left
                        ·simp only [Act.put, sTA, sZ, sS, i64_w, i32_w]
                         rfl
                        refine pure_ (i := 2) (N := some 44) (v := ?_) (a' := ?_) #[bN,bY,bY,bN,bN,bN,bN,bN,bN,bN,bN,bN,bN] rfl rfl (any_of HT_.out (by kernel_rfl)) (fun _ _ _ h => h) (Or.inl ⟨by rfl, ?_⟩) ?_ ?_
                        rotate_left
                        ·intro w'
                         go_simp
                         with_reducible rfl
                        rotate_left
                        ·simp only [Act.put, sTA, sZ, sS, i64_w, i32_w]
                         rfl
                        refine pure_ (i := 3) (N := some 45) (v := ?_) (a' := ?_) #[bN,bY,bY,bY,bN,bN,bN,bN,bN,bN,bN,bN,bN] rfl rfl (any_of HT_.out (by kernel_rfl)) (fun _ _ _ h => h) (Or.inl ⟨by rfl, ?_⟩) ?_ ?_
                        rotate_left
                        ·intro w'
                         go_simp
                         with_reducible rfl
                        rotate_left
                        ·simp only [Act.put, sTA, sZ, sS, i64_w, i32_w]
                         rfl
                        refine pure_ (i := 5) (N := some 47) (v := ?_) (a' := ?_) #[bN,bY,bY,bY,bN,bY,bN,bN,bN,bN,bN,bN,bN] rfl rfl (any_of HT_.out (by kernel_rfl)) (fun _ _ _ h => h) (Or.inl ⟨by rfl, ?_⟩) ?_ ?_
                        rotate_left
                        ·intro w'
                         go_simp
                         with_reducible rfl
                        rotate_left
                        ·simp only [Act.put, sTA, sZ, sS, i64_w, i32_w]
                         rfl
                        refine pure_ (i := 6) (N := some 48) (v := ?_) (a' := ?_) #[bN,bY,bY,bY,bN,bY,bY,bN,bN,bN,bN,bN,bN] rfl rfl (any_of HT_.out (by kernel_rfl)) (fun _ _ _ h => h) (Or.inl ⟨by rfl, ?_⟩) ?_ ?_
                        rotate_left
                        ·intro w'
                         go_simp
                         with_reducible rfl
                        rotate_left
                        ·simp only [Act.put, sTA, sZ, sS, i64_w, i32_w]
                         rfl
                        refine take_ (i := 0) (N := some 42) (v := ?_) (a' := ?_) #[bY,bY,bY,bY,bN,bY,bY,bN,bN,bN,bN,bN,bN] rfl rfl (take_ofW HT_.out HW_.out (by kernel_rfl)) (fun _ _ _ h => h) (Or.inl ⟨by rfl, ?_⟩) hHeld ?_ ?_
                        rotate_left
                        ·rintro w' ⟨s0, s1, s2, s3⟩
                         go_simp
                         with_reducible rfl
                        rotate_left
                        ·simp only [Act.put, sTA, sZ, sS, i64_w, i32_w]
                         rfl
                        refine take_ (i := 4) (N := some 46) (v := ?_) (a' := ?_) #[bY,bY,bY,bY,bY,bY,bY,bN,bN,bN,bN,bN,bN] rfl rfl (take_ofW HT_.out HW_.out (by kernel_rfl)) (fun _ _ _ h => h) (Or.inl ⟨by rfl, ?_⟩) hHeld ?_ ?_
                        rotate_left
                        ·rintro w' ⟨s0, s1, s2, s3⟩
                         go_simp
                         with_reducible rfl
                        rotate_left
                        ·simp only [Act.put, sTA, sZ, sS, i64_w, i32_w]
                         rfl
                        refine one_ (i := 7) (N := some 49) #[bY,bY,bY,bY,bY,bY,bY,bY,bN,bN,bN,bN,bN] rfl rfl (one_of HT_.out (by kernel_rfl)) (by decide) (fun K hK => ?_)
                        refine goes_ Tryd.func77 (by kernel_rfl) rfl #[.agg #[.int .i64 a0_0, .int .i64 a0_1, .int .i64 a0_2], .slice A907_0 (rd_LInt x5_3 x7_1).length c907_0, .int .i64 x8_2, .int .i64 x9_3] (by rfl) rfl rfl zD ?_
                        with_reducible refine (spec_MoveOne.calls k3 a0_0 a0_1 a0_2 _ _ (rd_LInt x5_3 x7_1) x8_2 x9_3 t908 true _ ?side1 ?side2 A28.out).mono ?_
                        (case side1 => repeat (first | exact (by repeat (first | (with_reducible exact HR907_0.out) | (with_reducible refine Kd.C_alloc ?_ _) | (with_reducible refine Kd.C_drewN ?_ _) | (with_reducible refine Kd.C_drew ?_) | exact HR907_0.out)) | (with_reducible refine Kd.C_alloc ?_ _) | (with_reducible refine Kd.C_drewN ?_ _) | (with_reducible refine Kd.C_drew ?_)))
                        (case side2 => exact HC907_0.out)
                        rintro e w46 ⟨v909, rfl, ho0, hb⟩
                        have HS3_ := (hb.cell (World.block_lt_of_cell? _ _ (hHeld.2.2.2))).trans (hHeld.2.2.2)
                        refine ⟨_, rfl, ?_⟩
                        have n0_ := aK (Kd.N_elder' (by (with_reducible repeat (first | apply Kd.N_alloc | apply Kd.N_drewN | apply Kd.N_drew)); exact HO_5.out) (Kd.R_base ho0) hb)
                        have n1_ := aK (Kd.R_below (zA HO_6) hb)
                        have n2_ := aK (Kd.V_elder' (by (with_reducible repeat (first | apply Kd.V_alloc | apply Kd.V_drewN | apply Kd.V_drew)); exact HL907_0.out) (Kd.R_base ho0) hb)
                        have n3_ := aK (Kd.R_lower (Kd.R_newM (M := fun k_ => (w.heap.size ≤ k_)) ho0 (bSz (zH1 HB GE895)) (fun k_ h_ => h_)) (bSz (zH1 HB GE895)))
                        have n4_ := zB BK895 hb
                        have n5_ := aK (Kd.C_below (by repeat (first | (with_reducible exact HR907_0.out) | (with_reducible refine Kd.C_alloc ?_ _) | (with_reducible refine Kd.C_drewN ?_ _) | (with_reducible refine Kd.C_drew ?_) | exact HR907_0.out)) hb)
                        have n6_ := aK (bSp (zH1 HB GE895) hb)
                        clear HO_5
                        clear HO_6
                        clear HL907_0
                        clear BK895
                        clear HR907_0
                        clear HB
                        have HO_5 := n0_
                        have HO_6 := n1_
                        have HL907_0 := n2_
                        have HO910 := n3_
                        have BK895 := n4_
                        have HR907_0 := n5_
                        have HB := n6_
                        clear n0_ n1_ n2_ n3_ n4_ n5_ n6_
                        (try clear hb)
                        (try clear hb2)
                        (try clear hk)
                        (try clear hi)
                        (try clear ho0)
                        refine hK.out _ _ ⟨zQ BK895 0, zQ BK895 1, zQ BK895 2, HS3_⟩ (fun hHeld => ?_)
                        clear hK K
                        refine norm_ (a' := ?_) ?_ ?_
                        rotate_left
                        ·show Act.put _ (some 49) _ = _
                         simp only [Act.put, sTA, sZ, sS, i64_w, i32_w]
                         rfl
                        refine pure_ (i := 8) (N := some 41) (v := ?_) (a' := ?_) #[bY,bY,bY,bY,bY,bY,bY,bY,bY,bN,bN,bN,bN] rfl rfl (any_of HT_.out (by kernel_rfl)) (fun _ _ _ h => h) (Or.inl ⟨by rfl, ?_⟩) ?_ ?_
                        rotate_left
                        ·intro w'
                         go_simp
                         with_reducible rfl
                        rotate_left
                        ·simp only [Act.put, sTA, sZ, sS, i64_w, i32_w]
                         rfl
                        refine pure_ (i := 9) (N := some 50) (v := ?_) (a' := ?_) #[bY,bY,bY,bY,bY,bY,bY,bY,bY,bY,bN,bN,bN] rfl rfl (any_of HT_.out (by kernel_rfl)) (fun _ _ _ h => h) (Or.inl ⟨by rfl, ?_⟩) ?_ ?_
                        rotate_left
                        ·intro w'
                         go_simp
                         with_reducible rfl
                        rotate_left
                        ·simp only [Act.put, sTA, sZ, sS, i64_w, i32_w]
                         rfl
                        refine pure_ (i := 10) (N := some 51) (v := ?_) (a' := ?_) #[bY,bY,bY,bY,bY,bY,bY,bY,bY,bY,bY,bN,bN] rfl rfl (any_of HT_.out (by kernel_rfl)) (fun _ _ _ h => h) (Or.inl ⟨by rfl, ?_⟩) ?_ ?_
                        rotate_left
                        ·intro w'
                         go_simp
                         with_reducible rfl
                        rotate_left
                        ·simp only [Act.put, sTA, sZ, sS, i64_w, i32_w]
                         rfl
                        refine pure_ (i := 11) (N := some 10) (v := ?_) (a' := ?_) #[bY,bY,bY,bY,bY,bY,bY,bY,bY,bY,bY,bY,bN] rfl rfl (any_of HT_.out (by kernel_rfl)) (fun _ _ _ h => h) (Or.inl ⟨by rfl, ?_⟩) ?_ ?_
                        rotate_left
                        ·intro w'
                         go_simp
                         with_reducible rfl
                        rotate_left
                        ·simp only [Act.put, sTA, sZ, sS, i64_w, i32_w]
                         rfl
                        refine pure_ (i := 12) (N := some 11) (v := ?_) (a' := ?_) #[bY,bY,bY,bY,bY,bY,bY,bY,bY,bY,bY,bY,bY] rfl rfl (any_of HT_.out (by kernel_rfl)) (fun _ _ _ h => h) (Or.inl ⟨by rfl, ?_⟩) ?_ ?_
                        rotate_left
                        ·intro w'
                         go_simp
                         with_reducible rfl
                        rotate_left
                        ·simp only [Act.put, sTA, sZ, sS, i64_w, i32_w]
                         rfl
                        refine done_ (done_of HT_.out (by kernel_rfl)) ?_
                        obtain ⟨Ao47, co47, eo47⟩ := Kd.R_slice HO910.out
                        subst eo47
                        try go_wp2_with (first | (go_at_call 49; (with_reducible refine (spec_l31Key.calls k3 _ _ t908 t912 _ ?side1 ?side2 A30.out).mono ?_); (case side1 => exact zC (Kd.R_reads' HO910.out).2.2); (case side2 => exact (Kd.R_reads' HO910.out).2.1); rintro e w' ⟨rfl, ⟨nd, rfl⟩⟩; (try (rw [drewN_self w46]; generalize hq_ : World.drewN w46 _ = w46; have n0_ : Aside0 (Kd.V (Kd.int .i64) 3 w46 w.heap.size (fun k_ => (w.heap.size ≤ k_) ∧ some k_ ≠ (.slice Ao47 t908.length co47 : Value).ownBlock ∧ some k_ ≠ (.slice (some ad907) x5_3.length co45 : Value).ownBlock ∧ some k_ ≠ (.slice (some ⟨go12, 0, none⟩) x6_3.length co12 : Value).ownBlock ∧ k_ ≠ gb895) (.slice A907_0 (rd_LInt x5_3 x7_1).length c907_0) (rd_LInt x5_3 x7_1)) := ⟨by rw [← hq_]; exact (by (with_reducible repeat (first | apply Kd.V_alloc | apply Kd.V_drewN | apply Kd.V_drew)); exact Kd.V_mono HL907_0.out (fun k_ hk => by (repeat' apply And.intro) <;> first | exact hk | exact hk.1 | exact hk.2 | exact hk.1.1 | exact hk.1.2 | exact hk.2.1 | exact hk.2.2 | exact hk.1.1.1 | exact hk.1.1.2 | exact hk.1.2.1 | exact hk.1.2.2 | exact hk.2.1.1 | exact hk.2.1.2 | exact hk.2.2.1 | exact hk.2.2.2 | exact hk.1.1.1.1 | exact hk.1.1.1.2 | exact hk.1.1.2.1 | exact hk.1.1.2.2 | exact hk.1.2.1.1 | exact hk.1.2.1.2 | exact hk.1.2.2.1 | exact hk.1.2.2.2 | exact hk.2.1.1.1 | exact hk.2.1.1.2 | exact hk.2.1.2.1 | exact hk.2.1.2.2 | exact hk.2.2.1.1 | exact hk.2.2.1.2 | exact hk.2.2.2.1 | exact hk.2.2.2.2 | exact hk.1.1.1.1.1 | exact hk.1.1.1.1.2 | exact hk.1.1.1.2.1 | exact hk.1.1.1.2.2 | exact hk.1.1.2.1.1 | exact hk.1.1.2.1.2 | exact hk.1.1.2.2.1 | exact hk.1.1.2.2.2 | exact hk.1.2.1.1.1 | exact hk.1.2.1.1.2 | exact hk.1.2.1.2.1 | exact hk.1.2.1.2.2 | exact hk.1.2.2.1.1 | exact hk.1.2.2.1.2 | exact hk.1.2.2.2.1 | exact hk.1.2.2.2.2 | exact hk.2.1.1.1.1 | exact hk.2.1.1.1.2 | exact hk.2.1.1.2.1 | exact hk.2.1.1.2.2 | exact hk.2.1.2.1.1 | exact hk.2.1.2.1.2 | exact hk.2.1.2.2.1 | exact hk.2.1.2.2.2 | exact hk.2.2.1.1.1 | exact hk.2.2.1.1.2 | exact hk.2.2.1.2.1 | exact hk.2.2.1.2.2 | exact hk.2.2.2.1.1 | exact hk.2.2.2.1.2 | exact hk.2.2.2.2.1 | exact hk.2.2.2.2.2))⟩; have n1_ : Aside0 (Kd.R (Kd.int .i64) 3 w46 w.heap.size (fun k_ => (w.heap.size ≤ k_)) (.slice Ao47 t908.length co47) t908) := ⟨by rw [← hq_]; exact (by (with_reducible repeat (first | apply Kd.R_alloc | apply Kd.R_drewN | apply Kd.R_drew)); exact Kd.R_mono HO910.out (fun k_ hk => by (repeat' apply And.intro) <;> first | exact hk | exact hk.1 | exact hk.2 | exact hk.1.1 | exact hk.1.2 | exact hk.2.1 | exact hk.2.2 | exact hk.1.1.1 | exact hk.1.1.2 | exact hk.1.2.1 | exact hk.1.2.2 | exact hk.2.1.1 | exact hk.2.1.2 | exact hk.2.2.1 | exact hk.2.2.2 | exact hk.1.1.1.1 | exact hk.1.1.1.2 | exact hk.1.1.2.1 | exact hk.1.1.2.2 | exact hk.1.2.1.1 | exact hk.1.2.1.2 | exact hk.1.2.2.1 | exact hk.1.2.2.2 | exact hk.2.1.1.1 | exact hk.2.1.1.2 | exact hk.2.1.2.1 | exact hk.2.1.2.2 | exact hk.2.2.1.1 | exact hk.2.2.1.2 | exact hk.2.2.2.1 | exact hk.2.2.2.2 | exact hk.1.1.1.1.1 | exact hk.1.1.1.1.2 | exact hk.1.1.1.2.1 | exact hk.1.1.1.2.2 | exact hk.1.1.2.1.1 | exact hk.1.1.2.1.2 | exact hk.1.1.2.2.1 | exact hk.1.1.2.2.2 | exact hk.1.2.1.1.1 | exact hk.1.2.1.1.2 | exact hk.1.2.1.2.1 | exact hk.1.2.1.2.2 | exact hk.1.2.2.1.1 | exact hk.1.2.2.1.2 | exact hk.1.2.2.2.1 | exact hk.1.2.2.2.2 | exact hk.2.1.1.1.1 | exact hk.2.1.1.1.2 | exact hk.2.1.1.2.1 | exact hk.2.1.1.2.2 | exact hk.2.1.2.1.1 | exact hk.2.1.2.1.2 | exact hk.2.1.2.2.1 | exact hk.2.1.2.2.2 | exact hk.2.2.1.1.1 | exact hk.2.2.1.1.2 | exact hk.2.2.1.2.1 | exact hk.2.2.1.2.2 | exact hk.2.2.2.1.1 | exact hk.2.2.2.1.2 | exact hk.2.2.2.2.1 | exact hk.2.2.2.2.2))⟩; have n2_ : Aside0 (Kd.N (Kd.slice 3 (Kd.int .i64)) 42 w46 w.heap.size (fun k_ => (w.heap.size ≤ k_) ∧ some k_ ≠ (.slice Ao47 t908.length co47 : Value).ownBlock ∧ some k_ ≠ (.slice (some ⟨go12, 0, none⟩) x6_3.length co12 : Value).ownBlock ∧ k_ ≠ gb895) (.slice (some ad907) x5_3.length co45) x5_3) := ⟨by rw [← hq_]; exact (by (with_reducible repeat (first | apply Kd.N_alloc | apply Kd.N_drewN | apply Kd.N_drew)); exact Kd.N_mono HO_5.out (fun k_ hk => by (repeat' apply And.intro) <;> first | exact hk | exact hk.1 | exact hk.2 | exact hk.1.1 | exact hk.1.2 | exact hk.2.1 | exact hk.2.2 | exact hk.1.1.1 | exact hk.1.1.2 | exact hk.1.2.1 | exact hk.1.2.2 | exact hk.2.1.1 | exact hk.2.1.2 | exact hk.2.2.1 | exact hk.2.2.2 | exact hk.1.1.1.1 | exact hk.1.1.1.2 | exact hk.1.1.2.1 | exact hk.1.1.2.2 | exact hk.1.2.1.1 | exact hk.1.2.1.2 | exact hk.1.2.2.1 | exact hk.1.2.2.2 | exact hk.2.1.1.1 | exact hk.2.1.1.2 | exact hk.2.1.2.1 | exact hk.2.1.2.2 | exact hk.2.2.1.1 | exact hk.2.2.1.2 | exact hk.2.2.2.1 | exact hk.2.2.2.2 | exact hk.1.1.1.1.1 | exact hk.1.1.1.1.2 | exact hk.1.1.1.2.1 | exact hk.1.1.1.2.2 | exact hk.1.1.2.1.1 | exact hk.1.1.2.1.2 | exact hk.1.1.2.2.1 | exact hk.1.1.2.2.2 | exact hk.1.2.1.1.1 | exact hk.1.2.1.1.2 | exact hk.1.2.1.2.1 | exact hk.1.2.1.2.2 | exact hk.1.2.2.1.1 | exact hk.1.2.2.1.2 | exact hk.1.2.2.2.1 | exact hk.1.2.2.2.2 | exact hk.2.1.1.1.1 | exact hk.2.1.1.1.2 | exact hk.2.1.1.2.1 | exact hk.2.1.1.2.2 | exact hk.2.1.2.1.1 | exact hk.2.1.2.1.2 | exact hk.2.1.2.2.1 | exact hk.2.1.2.2.2 | exact hk.2.2.1.1.1 | exact hk.2.2.1.1.2 | exact hk.2.2.1.2.1 | exact hk.2.2.1.2.2 | exact hk.2.2.2.1.1 | exact hk.2.2.2.1.2 | exact hk.2.2.2.2.1 | exact hk.2.2.2.2.2))⟩; have n3_ : Aside0 (Kd.R Kd.bool 4 w46 w.heap.size (fun k_ => (w.heap.size ≤ k_)) (.slice (some ⟨go12, 0, none⟩) x6_3.length co12) x6_3) := ⟨by rw [← hq_]; exact (zA HO_6)⟩; have n4_ : Aside0 (w46.heap[gb895]? = some (.cells #[.int .i64 a0_0, .int .i64 a0_1, .int .i64 a0_2] 41 (0, 0))) := ⟨by rw [← hq_]; exact (zK BK895)⟩; have n5_ : Aside0 (Below w.heap.size w w46) := ⟨by rw [← hq_]; exact (zH1 HB GE895)⟩; have n6_ : Aside0 (Kd.C (Kd.int .i64) w46 A907_0 (rd_LInt x5_3 x7_1).length (rd_LInt x5_3 x7_1)) := ⟨by rw [← hq_]; exact (by repeat (first | (with_reducible exact HR907_0.out) | (with_reducible refine Kd.C_alloc ?_ _) | (with_reducible refine Kd.C_drewN ?_ _) | (with_reducible refine Kd.C_drew ?_) | exact HR907_0.out))⟩; clear HL907_0 HO910 HO_5 HO_6 BK895 HB HR907_0 hq_; have HL907_0 := n0_; have HO910 := n1_; have HO_5 := n2_; have HO_6 := n3_; have BK895 := n4_; have HB := n5_; have HR907_0 := n6_; clear n0_ n1_ n2_ n3_ n4_ n5_ n6_)); have p913 : 0 ≤ (t912 : Int) := of_decide_eq_true (by first | (with_reducible assumption) | assumption); have q913 : t912 < (x6_3.length : Int) := of_decide_eq_true (by first | (with_reducible assumption) | assumption); obtain ⟨ad913, e913, hx913_0⟩ := Kd.at_bool (Kd.R_reads' HO_6.out).2.2 t912 p913 q913; (try rw [← Nbq33.out] at hx913_0); obtain rfl : (⟨go12, 0, none⟩ : Addr) = ad913 := (by injection e913); (first | simp only [add_plain] at hx913_0 | simp only [add_at] at hx913_0 | simp only [Addr.add, Nat.zero_add] at hx913_0 | skip); replace p913 := eq_true p913; replace q913 := eq_true q913) | ((with_reducible refine gate_callee (f := 49) rfl ?_); refine goesL_ (some 63) rfl rfl Tryd.func49 (by kernel_rfl) rfl #[.slice Ao47 t908.length co47] rfl zD ?_; (with_reducible refine (spec_l31Key.calls k3 _ _ t908 t914 _ ?side1 ?side2 A39.out).mono ?_); (case side1 => exact zC (Kd.R_reads' HO910.out).2.2); (case side2 => exact (Kd.R_reads' HO910.out).2.1); rintro e w' ⟨rfl, ⟨nd, rfl⟩⟩; refine ⟨_, rfl, ?_⟩; (try (rw [drewN_self w46]; generalize hq_ : World.drewN w46 _ = w46; have n0_ : Aside0 (Kd.V (Kd.int .i64) 3 w46 w.heap.size (fun k_ => (w.heap.size ≤ k_) ∧ some k_ ≠ (.slice Ao47 t908.length co47 : Value).ownBlock ∧ some k_ ≠ (.slice (some ad907) x5_3.length co45 : Value).ownBlock ∧ some k_ ≠ (.slice (some ⟨go12, 0, none⟩) x6_3.length co12 : Value).ownBlock ∧ k_ ≠ gb895) (.slice A907_0 (rd_LInt x5_3 x7_1).length c907_0) (rd_LInt x5_3 x7_1)) := ⟨by rw [← hq_]; exact (by (with_reducible repeat (first | apply Kd.V_alloc | apply Kd.V_drewN | apply Kd.V_drew)); exact Kd.V_mono HL907_0.out (fun k_ hk => by (repeat' apply And.intro) <;> first | exact hk | exact hk.1 | exact hk.2 | exact hk.1.1 | exact hk.1.2 | exact hk.2.1 | exact hk.2.2 | exact hk.1.1.1 | exact hk.1.1.2 | exact hk.1.2.1 | exact hk.1.2.2 | exact hk.2.1.1 | exact hk.2.1.2 | exact hk.2.2.1 | exact hk.2.2.2 | exact hk.1.1.1.1 | exact hk.1.1.1.2 | exact hk.1.1.2.1 | exact hk.1.1.2.2 | exact hk.1.2.1.1 | exact hk.1.2.1.2 | exact hk.1.2.2.1 | exact hk.1.2.2.2 | exact hk.2.1.1.1 | exact hk.2.1.1.2 | exact hk.2.1.2.1 | exact hk.2.1.2.2 | exact hk.2.2.1.1 | exact hk.2.2.1.2 | exact hk.2.2.2.1 | exact hk.2.2.2.2 | exact hk.1.1.1.1.1 | exact hk.1.1.1.1.2 | exact hk.1.1.1.2.1 | exact hk.1.1.1.2.2 | exact hk.1.1.2.1.1 | exact hk.1.1.2.1.2 | exact hk.1.1.2.2.1 | exact hk.1.1.2.2.2 | exact hk.1.2.1.1.1 | exact hk.1.2.1.1.2 | exact hk.1.2.1.2.1 | exact hk.1.2.1.2.2 | exact hk.1.2.2.1.1 | exact hk.1.2.2.1.2 | exact hk.1.2.2.2.1 | exact hk.1.2.2.2.2 | exact hk.2.1.1.1.1 | exact hk.2.1.1.1.2 | exact hk.2.1.1.2.1 | exact hk.2.1.1.2.2 | exact hk.2.1.2.1.1 | exact hk.2.1.2.1.2 | exact hk.2.1.2.2.1 | exact hk.2.1.2.2.2 | exact hk.2.2.1.1.1 | exact hk.2.2.1.1.2 | exact hk.2.2.1.2.1 | exact hk.2.2.1.2.2 | exact hk.2.2.2.1.1 | exact hk.2.2.2.1.2 | exact hk.2.2.2.2.1 | exact hk.2.2.2.2.2))⟩; have n1_ : Aside0 (Kd.R (Kd.int .i64) 3 w46 w.heap.size (fun k_ => (w.heap.size ≤ k_)) (.slice Ao47 t908.length co47) t908) := ⟨by rw [← hq_]; exact (by (with_reducible repeat (first | apply Kd.R_alloc | apply Kd.R_drewN | apply Kd.R_drew)); exact Kd.R_mono HO910.out (fun k_ hk => by (repeat' apply And.intro) <;> first | exact hk | exact hk.1 | exact hk.2 | exact hk.1.1 | exact hk.1.2 | exact hk.2.1 | exact hk.2.2 | exact hk.1.1.1 | exact hk.1.1.2 | exact hk.1.2.1 | exact hk.1.2.2 | exact hk.2.1.1 | exact hk.2.1.2 | exact hk.2.2.1 | exact hk.2.2.2 | exact hk.1.1.1.1 | exact hk.1.1.1.2 | exact hk.1.1.2.1 | exact hk.1.1.2.2 | exact hk.1.2.1.1 | exact hk.1.2.1.2 | exact hk.1.2.2.1 | exact hk.1.2.2.2 | exact hk.2.1.1.1 | exact hk.2.1.1.2 | exact hk.2.1.2.1 | exact hk.2.1.2.2 | exact hk.2.2.1.1 | exact hk.2.2.1.2 | exact hk.2.2.2.1 | exact hk.2.2.2.2 | exact hk.1.1.1.1.1 | exact hk.1.1.1.1.2 | exact hk.1.1.1.2.1 | exact hk.1.1.1.2.2 | exact hk.1.1.2.1.1 | exact hk.1.1.2.1.2 | exact hk.1.1.2.2.1 | exact hk.1.1.2.2.2 | exact hk.1.2.1.1.1 | exact hk.1.2.1.1.2 | exact hk.1.2.1.2.1 | exact hk.1.2.1.2.2 | exact hk.1.2.2.1.1 | exact hk.1.2.2.1.2 | exact hk.1.2.2.2.1 | exact hk.1.2.2.2.2 | exact hk.2.1.1.1.1 | exact hk.2.1.1.1.2 | exact hk.2.1.1.2.1 | exact hk.2.1.1.2.2 | exact hk.2.1.2.1.1 | exact hk.2.1.2.1.2 | exact hk.2.1.2.2.1 | exact hk.2.1.2.2.2 | exact hk.2.2.1.1.1 | exact hk.2.2.1.1.2 | exact hk.2.2.1.2.1 | exact hk.2.2.1.2.2 | exact hk.2.2.2.1.1 | exact hk.2.2.2.1.2 | exact hk.2.2.2.2.1 | exact hk.2.2.2.2.2))⟩; have n2_ : Aside0 (Kd.N (Kd.slice 3 (Kd.int .i64)) 42 w46 w.heap.size (fun k_ => (w.heap.size ≤ k_) ∧ some k_ ≠ (.slice Ao47 t908.length co47 : Value).ownBlock ∧ some k_ ≠ (.slice (some ⟨go12, 0, none⟩) x6_3.length co12 : Value).ownBlock ∧ k_ ≠ gb895) (.slice (some ad907) x5_3.length co45) x5_3) := ⟨by rw [← hq_]; exact (by (with_reducible repeat (first | apply Kd.N_alloc | apply Kd.N_drewN | apply Kd.N_drew)); exact Kd.N_mono HO_5.out (fun k_ hk => by (repeat' apply And.intro) <;> first | exact hk | exact hk.1 | exact hk.2 | exact hk.1.1 | exact hk.1.2 | exact hk.2.1 | exact hk.2.2 | exact hk.1.1.1 | exact hk.1.1.2 | exact hk.1.2.1 | exact hk.1.2.2 | exact hk.2.1.1 | exact hk.2.1.2 | exact hk.2.2.1 | exact hk.2.2.2 | exact hk.1.1.1.1 | exact hk.1.1.1.2 | exact hk.1.1.2.1 | exact hk.1.1.2.2 | exact hk.1.2.1.1 | exact hk.1.2.1.2 | exact hk.1.2.2.1 | exact hk.1.2.2.2 | exact hk.2.1.1.1 | exact hk.2.1.1.2 | exact hk.2.1.2.1 | exact hk.2.1.2.2 | exact hk.2.2.1.1 | exact hk.2.2.1.2 | exact hk.2.2.2.1 | exact hk.2.2.2.2 | exact hk.1.1.1.1.1 | exact hk.1.1.1.1.2 | exact hk.1.1.1.2.1 | exact hk.1.1.1.2.2 | exact hk.1.1.2.1.1 | exact hk.1.1.2.1.2 | exact hk.1.1.2.2.1 | exact hk.1.1.2.2.2 | exact hk.1.2.1.1.1 | exact hk.1.2.1.1.2 | exact hk.1.2.1.2.1 | exact hk.1.2.1.2.2 | exact hk.1.2.2.1.1 | exact hk.1.2.2.1.2 | exact hk.1.2.2.2.1 | exact hk.1.2.2.2.2 | exact hk.2.1.1.1.1 | exact hk.2.1.1.1.2 | exact hk.2.1.1.2.1 | exact hk.2.1.1.2.2 | exact hk.2.1.2.1.1 | exact hk.2.1.2.1.2 | exact hk.2.1.2.2.1 | exact hk.2.1.2.2.2 | exact hk.2.2.1.1.1 | exact hk.2.2.1.1.2 | exact hk.2.2.1.2.1 | exact hk.2.2.1.2.2 | exact hk.2.2.2.1.1 | exact hk.2.2.2.1.2 | exact hk.2.2.2.2.1 | exact hk.2.2.2.2.2))⟩; have n3_ : Aside0 (Kd.R Kd.bool 4 w46 w.heap.size (fun k_ => (w.heap.size ≤ k_)) (.slice (some ⟨go12, 0, none⟩) x6_3.length co12) x6_3) := ⟨by rw [← hq_]; exact (zA HO_6)⟩; have n4_ : Aside0 (w46.heap[gb895]? = some (.cells #[.int .i64 a0_0, .int .i64 a0_1, .int .i64 a0_2] 41 (0, 0))) := ⟨by rw [← hq_]; exact (zK BK895)⟩; have n5_ : Aside0 (Below w.heap.size w w46) := ⟨by rw [← hq_]; exact (zH1 HB GE895)⟩; have n6_ : Aside0 (Kd.C (Kd.int .i64) w46 A907_0 (rd_LInt x5_3 x7_1).length (rd_LInt x5_3 x7_1)) := ⟨by rw [← hq_]; exact (by repeat (first | (with_reducible exact HR907_0.out) | (with_reducible refine Kd.C_alloc ?_ _) | (with_reducible refine Kd.C_drewN ?_ _) | (with_reducible refine Kd.C_drew ?_) | exact HR907_0.out))⟩; clear HL907_0 HO910 HO_5 HO_6 BK895 HB HR907_0 hq_; have HL907_0 := n0_; have HO910 := n1_; have HO_5 := n2_; have HO_6 := n3_; have BK895 := n4_; have HB := n5_; have HR907_0 := n6_; clear n0_ n1_ n2_ n3_ n4_ n5_ n6_)); have p42 : 0 ≤ (t914 : Int) := of_decide_eq_true (by first | (with_reducible assumption) | assumption); have q42 : (t914 : Int) < ((x6_3.length : Int) : Int) := of_decide_eq_true (by first | (with_reducible assumption) | assumption); obtain ⟨hx42_0, hf42_0⟩ := Kd.R_celln false HO_6.out (t914 : Int) p42 q42; replace p42 := eq_true p42; replace q42 := eq_true q42; obtain ⟨hy48_, hz48_⟩ := Kd.R_celln false HO_6.out (t914 : Int) (of_decide_eq_true (by first | (with_reducible assumption) | assumption)) (of_decide_eq_true (by first | (with_reducible assumption) | assumption)); have HP48 := Kd.R_putg HO_6.out (t914 : Int) true) | ((with_reducible refine gate_store (t := 4) (p := 64) rfl ?_); refine store_event (t := 4) (p := 64) (v := ?vo_w49) (w1 := (w46.setCell ⟨go12, (t914 : Int).toNat, none⟩ (.bool true))) ?hg ?ho ?hn ?hr ?_; (case ho => rfl); (case hg => rfl); (case hn => rfl); (case hr => first | (go_simp; done) | (go_simp; rfl)); intro w49 hw; have hg : w46.grownBy w49 (some go12) := (by rw [hw]; exact HP48.2); have hp_ : Kd.R Kd.bool 4 w49 w.heap.size (fun k_ => (w.heap.size ≤ k_)) (.slice (some ⟨go12, 0, none⟩) x6_3.length co12) y915 := (by rw [hw, Ny915.out]; exact HP48.1); clear HP48; replace HO_5 := aK (Kd.N_afterv (v := (.slice (some ⟨go12, 0, none⟩) x6_3.length co12)) (v1 := (.slice (some ⟨go12, 0, none⟩) x6_3.length co12)) (ok := (fun k_ => (w.heap.size ≤ k_) ∧ some k_ ≠ (.slice Ao47 t908.length co47 : Value).ownBlock ∧ k_ ≠ gb895)) (by (with_reducible repeat (first | apply Kd.N_alloc | apply Kd.N_drewN | apply Kd.N_drew)); exact Kd.N_mono HO_5.out (fun k_ hk => by (repeat' apply And.intro) <;> first | exact hk | exact hk.1 | exact hk.2 | exact hk.1.1 | exact hk.1.2 | exact hk.2.1 | exact hk.2.2 | exact hk.1.1.1 | exact hk.1.1.2 | exact hk.1.2.1 | exact hk.1.2.2 | exact hk.2.1.1 | exact hk.2.1.2 | exact hk.2.2.1 | exact hk.2.2.2 | exact hk.1.1.1.1 | exact hk.1.1.1.2 | exact hk.1.1.2.1 | exact hk.1.1.2.2 | exact hk.1.2.1.1 | exact hk.1.2.1.2 | exact hk.1.2.2.1 | exact hk.1.2.2.2 | exact hk.2.1.1.1 | exact hk.2.1.1.2 | exact hk.2.1.2.1 | exact hk.2.1.2.2 | exact hk.2.2.1.1 | exact hk.2.2.1.2 | exact hk.2.2.2.1 | exact hk.2.2.2.2 | exact hk.1.1.1.1.1 | exact hk.1.1.1.1.2 | exact hk.1.1.1.2.1 | exact hk.1.1.1.2.2 | exact hk.1.1.2.1.1 | exact hk.1.1.2.1.2 | exact hk.1.1.2.2.1 | exact hk.1.1.2.2.2 | exact hk.1.2.1.1.1 | exact hk.1.2.1.1.2 | exact hk.1.2.1.2.1 | exact hk.1.2.1.2.2 | exact hk.1.2.2.1.1 | exact hk.1.2.2.1.2 | exact hk.1.2.2.2.1 | exact hk.1.2.2.2.2 | exact hk.2.1.1.1.1 | exact hk.2.1.1.1.2 | exact hk.2.1.1.2.1 | exact hk.2.1.1.2.2 | exact hk.2.1.2.1.1 | exact hk.2.1.2.1.2 | exact hk.2.1.2.2.1 | exact hk.2.1.2.2.2 | exact hk.2.2.1.1.1 | exact hk.2.2.1.1.2 | exact hk.2.2.1.2.1 | exact hk.2.2.1.2.2 | exact hk.2.2.2.1.1 | exact hk.2.2.2.1.2 | exact hk.2.2.2.2.1 | exact hk.2.2.2.2.2)) hg (.inl rfl)); replace BK895 := aK (blk_grown (g := gb895) (o := .cells #[.int .i64 a0_0, .int .i64 a0_1, .int .i64 a0_2] 41 (0, 0)) (zK BK895) hg (Kd.R_ne HO_6.out BK895.out (by decide))); replace HL907_0 := aK (Kd.V_afterv (v := (.slice (some ⟨go12, 0, none⟩) x6_3.length co12)) (v1 := (.slice (some ⟨go12, 0, none⟩) x6_3.length co12)) (ok := (fun k_ => (w.heap.size ≤ k_) ∧ some k_ ≠ (.slice (some ad907) x5_3.length co45 : Value).ownBlock ∧ some k_ ≠ (.slice Ao47 t908.length co47 : Value).ownBlock ∧ k_ ≠ gb895)) (by (with_reducible repeat (first | apply Kd.V_alloc | apply Kd.V_drewN | apply Kd.V_drew)); exact Kd.V_mono HL907_0.out (fun k_ hk => by (repeat' apply And.intro) <;> first | exact hk | exact hk.1 | exact hk.2 | exact hk.1.1 | exact hk.1.2 | exact hk.2.1 | exact hk.2.2 | exact hk.1.1.1 | exact hk.1.1.2 | exact hk.1.2.1 | exact hk.1.2.2 | exact hk.2.1.1 | exact hk.2.1.2 | exact hk.2.2.1 | exact hk.2.2.2 | exact hk.1.1.1.1 | exact hk.1.1.1.2 | exact hk.1.1.2.1 | exact hk.1.1.2.2 | exact hk.1.2.1.1 | exact hk.1.2.1.2 | exact hk.1.2.2.1 | exact hk.1.2.2.2 | exact hk.2.1.1.1 | exact hk.2.1.1.2 | exact hk.2.1.2.1 | exact hk.2.1.2.2 | exact hk.2.2.1.1 | exact hk.2.2.1.2 | exact hk.2.2.2.1 | exact hk.2.2.2.2 | exact hk.1.1.1.1.1 | exact hk.1.1.1.1.2 | exact hk.1.1.1.2.1 | exact hk.1.1.1.2.2 | exact hk.1.1.2.1.1 | exact hk.1.1.2.1.2 | exact hk.1.1.2.2.1 | exact hk.1.1.2.2.2 | exact hk.1.2.1.1.1 | exact hk.1.2.1.1.2 | exact hk.1.2.1.2.1 | exact hk.1.2.1.2.2 | exact hk.1.2.2.1.1 | exact hk.1.2.2.1.2 | exact hk.1.2.2.2.1 | exact hk.1.2.2.2.2 | exact hk.2.1.1.1.1 | exact hk.2.1.1.1.2 | exact hk.2.1.1.2.1 | exact hk.2.1.1.2.2 | exact hk.2.1.2.1.1 | exact hk.2.1.2.1.2 | exact hk.2.1.2.2.1 | exact hk.2.1.2.2.2 | exact hk.2.2.1.1.1 | exact hk.2.2.1.1.2 | exact hk.2.2.1.2.1 | exact hk.2.2.1.2.2 | exact hk.2.2.2.1.1 | exact hk.2.2.2.1.2 | exact hk.2.2.2.2.1 | exact hk.2.2.2.2.2)) hg (.inl rfl)); replace HO910 := aK (Kd.R_over' (v := (.slice (some ⟨go12, 0, none⟩) x6_3.length co12)) (zA HO910) (Kd.R_typed HO_6.out) (by decide) hg); replace HO_6 := aK (hp_); replace HB := aK ((by rw [hw]; exact bSt (HB.out) GB12.out : Below w.heap.size w w49)); clear hg hw hp_) | ((with_reducible refine gate_builtin (b := .append) (xs := #[.tmp 65, .tmp 67]) rfl ?_); at_builtin; refine Kd.N_append (Kd.slice 3 (Kd.int .i64)) (w0 := w) w.heap.size rfl (.tmp 65) (.tmp 67) 86 42 (.slice none 0 0) 24 rfl Tryd.underlying86 info42 rfl (by decide) (by omega) (.slice (some ad907) x5_3.length co45) x5_3 t908 [.slice Ao47 t908.length co47] (fun k_ => (w.heap.size ≤ k_) ∧ some k_ ≠ (.slice (some ⟨go12, 0, none⟩) x6_3.length co12 : Value).ownBlock ∧ k_ ≠ gb895) (fun k_ => ((fun k_ => (w.heap.size ≤ k_) ∧ some k_ ≠ (.slice (some ⟨go12, 0, none⟩) x6_3.length co12 : Value).ownBlock ∧ k_ ≠ gb895)) k_ ∧ some k_ ≠ (.slice (some ad907) x5_3.length co45 : Value).ownBlock) rfl rfl ?aP (fun _ hk => hk) ?aF ?aO ?aB ?aS ?aL ?_; (case aP => exact (Kd.FK_slice_mk (Kd.R_reads' (Kd.R_mono (ok' := (fun k_ => ((fun k_ => (w.heap.size ≤ k_) ∧ some k_ ≠ (.slice (some ⟨go12, 0, none⟩) x6_3.length co12 : Value).ownBlock ∧ k_ ≠ gb895)) k_ ∧ some k_ ≠ (.slice (some ad907) x5_3.length co45 : Value).ownBlock)) (Kd.R_types (Kd.R_apart' (Kd.R_apart' (HO910.out) (Kd.R_typed HO_6.out) (by decide)) (Kd.N_typed HO_5.out) (by decide)) BK895.out (by decide)) (fun k_ hk => by (repeat' apply And.intro) <;> first | exact hk | exact hk.1 | exact hk.2 | exact hk.1.1 | exact hk.1.2 | exact hk.2.1 | exact hk.2.2 | exact hk.1.1.1 | exact hk.1.1.2 | exact hk.1.2.1 | exact hk.1.2.2 | exact hk.2.1.1 | exact hk.2.1.2 | exact hk.2.2.1 | exact hk.2.2.2 | exact hk.1.1.1.1 | exact hk.1.1.1.2 | exact hk.1.1.2.1 | exact hk.1.1.2.2 | exact hk.1.2.1.1 | exact hk.1.2.1.2 | exact hk.1.2.2.1 | exact hk.1.2.2.2 | exact hk.2.1.1.1 | exact hk.2.1.1.2 | exact hk.2.1.2.1 | exact hk.2.1.2.2 | exact hk.2.2.1.1 | exact hk.2.2.1.2 | exact hk.2.2.2.1 | exact hk.2.2.2.2 | exact hk.1.1.1.1.1 | exact hk.1.1.1.1.2 | exact hk.1.1.1.2.1 | exact hk.1.1.1.2.2 | exact hk.1.1.2.1.1 | exact hk.1.1.2.1.2 | exact hk.1.1.2.2.1 | exact hk.1.1.2.2.2 | exact hk.1.2.1.1.1 | exact hk.1.2.1.1.2 | exact hk.1.2.1.2.1 | exact hk.1.2.1.2.2 | exact hk.1.2.2.1.1 | exact hk.1.2.2.1.2 | exact hk.1.2.2.2.1 | exact hk.1.2.2.2.2 | exact hk.2.1.1.1.1 | exact hk.2.1.1.1.2 | exact hk.2.1.1.2.1 | exact hk.2.1.1.2.2 | exact hk.2.1.2.1.1 | exact hk.2.1.2.1.2 | exact hk.2.1.2.2.1 | exact hk.2.1.2.2.2 | exact hk.2.2.1.1.1 | exact hk.2.2.1.1.2 | exact hk.2.2.1.2.1 | exact hk.2.2.1.2.2 | exact hk.2.2.2.1.1 | exact hk.2.2.2.1.2 | exact hk.2.2.2.2.1 | exact hk.2.2.2.2.2))).2.1 (Kd.R_F (Kd.R_mono (ok' := (fun k_ => ((fun k_ => (w.heap.size ≤ k_) ∧ some k_ ≠ (.slice (some ⟨go12, 0, none⟩) x6_3.length co12 : Value).ownBlock ∧ k_ ≠ gb895)) k_ ∧ some k_ ≠ (.slice (some ad907) x5_3.length co45 : Value).ownBlock)) (Kd.R_types (Kd.R_apart' (Kd.R_apart' (HO910.out) (Kd.R_typed HO_6.out) (by decide)) (Kd.N_typed HO_5.out) (by decide)) BK895.out (by decide)) (fun k_ hk => by (repeat' apply And.intro) <;> first | exact hk | exact hk.1 | exact hk.2 | exact hk.1.1 | exact hk.1.2 | exact hk.2.1 | exact hk.2.2 | exact hk.1.1.1 | exact hk.1.1.2 | exact hk.1.2.1 | exact hk.1.2.2 | exact hk.2.1.1 | exact hk.2.1.2 | exact hk.2.2.1 | exact hk.2.2.2 | exact hk.1.1.1.1 | exact hk.1.1.1.2 | exact hk.1.1.2.1 | exact hk.1.1.2.2 | exact hk.1.2.1.1 | exact hk.1.2.1.2 | exact hk.1.2.2.1 | exact hk.1.2.2.2 | exact hk.2.1.1.1 | exact hk.2.1.1.2 | exact hk.2.1.2.1 | exact hk.2.1.2.2 | exact hk.2.2.1.1 | exact hk.2.2.1.2 | exact hk.2.2.2.1 | exact hk.2.2.2.2 | exact hk.1.1.1.1.1 | exact hk.1.1.1.1.2 | exact hk.1.1.1.2.1 | exact hk.1.1.1.2.2 | exact hk.1.1.2.1.1 | exact hk.1.1.2.1.2 | exact hk.1.1.2.2.1 | exact hk.1.1.2.2.2 | exact hk.1.2.1.1.1 | exact hk.1.2.1.1.2 | exact hk.1.2.1.2.1 | exact hk.1.2.1.2.2 | exact hk.1.2.2.1.1 | exact hk.1.2.2.1.2 | exact hk.1.2.2.2.1 | exact hk.1.2.2.2.2 | exact hk.2.1.1.1.1 | exact hk.2.1.1.1.2 | exact hk.2.1.1.2.1 | exact hk.2.1.1.2.2 | exact hk.2.1.2.1.1 | exact hk.2.1.2.1.2 | exact hk.2.1.2.2.1 | exact hk.2.1.2.2.2 | exact hk.2.2.1.1.1 | exact hk.2.2.1.1.2 | exact hk.2.2.1.2.1 | exact hk.2.2.1.2.2 | exact hk.2.2.2.1.1 | exact hk.2.2.2.1.2 | exact hk.2.2.2.2.1 | exact hk.2.2.2.2.2))))); (case aB => exact (zH1 HB GE895)); (case aF => exact (fun k_ hk => ⟨(Nat.le_trans (bSz (zH1 HB GE895)) hk), Kd.fresh' (Kd.R_lt (zA HO_6)) k_ hk, Kd.freshB (g := gb895) (o := .cells #[.int .i64 a0_0, .int .i64 a0_1, .int .i64 a0_2] 41 (0, 0)) (zK BK895) k_ hk⟩)); (case aO => exact (by (with_reducible repeat (first | apply Kd.N_alloc | apply Kd.N_drewN | apply Kd.N_drew)); exact Kd.N_mono HO_5.out (fun k_ hk => by (repeat' apply And.intro) <;> first | exact hk | exact hk.1 | exact hk.2 | exact hk.1.1 | exact hk.1.2 | exact hk.2.1 | exact hk.2.2 | exact hk.1.1.1 | exact hk.1.1.2 | exact hk.1.2.1 | exact hk.1.2.2 | exact hk.2.1.1 | exact hk.2.1.2 | exact hk.2.2.1 | exact hk.2.2.2 | exact hk.1.1.1.1 | exact hk.1.1.1.2 | exact hk.1.1.2.1 | exact hk.1.1.2.2 | exact hk.1.2.1.1 | exact hk.1.2.1.2 | exact hk.1.2.2.1 | exact hk.1.2.2.2 | exact hk.2.1.1.1 | exact hk.2.1.1.2 | exact hk.2.1.2.1 | exact hk.2.1.2.2 | exact hk.2.2.1.1 | exact hk.2.2.1.2 | exact hk.2.2.2.1 | exact hk.2.2.2.2 | exact hk.1.1.1.1.1 | exact hk.1.1.1.1.2 | exact hk.1.1.1.2.1 | exact hk.1.1.1.2.2 | exact hk.1.1.2.1.1 | exact hk.1.1.2.1.2 | exact hk.1.1.2.2.1 | exact hk.1.1.2.2.2 | exact hk.1.2.1.1.1 | exact hk.1.2.1.1.2 | exact hk.1.2.1.2.1 | exact hk.1.2.1.2.2 | exact hk.1.2.2.1.1 | exact hk.1.2.2.1.2 | exact hk.1.2.2.2.1 | exact hk.1.2.2.2.2 | exact hk.2.1.1.1.1 | exact hk.2.1.1.1.2 | exact hk.2.1.1.2.1 | exact hk.2.1.1.2.2 | exact hk.2.1.2.1.1 | exact hk.2.1.2.1.2 | exact hk.2.1.2.2.1 | exact hk.2.1.2.2.2 | exact hk.2.2.1.1.1 | exact hk.2.2.1.1.2 | exact hk.2.2.1.2.1 | exact hk.2.2.1.2.2 | exact hk.2.2.2.1.1 | exact hk.2.2.2.1.2 | exact hk.2.2.2.2.1 | exact hk.2.2.2.2.2))); (case aS => exact (bSz (zH1 HB GE895))); (case aL => have := LMc43.out; omega); intro v917 w50 ho hb hg hat; rw [← Ny916.out] at ho; have n0_ := aK (Kd.R_over' (zA HO_6) (Kd.N_typed (by (with_reducible repeat (first | apply Kd.N_alloc | apply Kd.N_drewN | apply Kd.N_drew)); exact HO_5.out)) (by decide) hg); have n1_ := aK (blk_grown (g := gb895) (o := .cells #[.int .i64 a0_0, .int .i64 a0_1, .int .i64 a0_2] 41 (0, 0)) (zK BK895) hg (Kd.N_ne HO_5.out BK895.out (by decide))); have n2_ := aK (Kd.V_afterv (ok := (fun k_ => (w.heap.size ≤ k_) ∧ some k_ ≠ (.slice (some ⟨go12, 0, none⟩) x6_3.length co12 : Value).ownBlock ∧ some k_ ≠ (.slice Ao47 t908.length co47 : Value).ownBlock ∧ k_ ≠ gb895)) (by (with_reducible repeat (first | apply Kd.V_alloc | apply Kd.V_drewN | apply Kd.V_drew)); exact Kd.V_mono HL907_0.out (fun k_ hk => by (repeat' apply And.intro) <;> first | exact hk | exact hk.1 | exact hk.2 | exact hk.1.1 | exact hk.1.2 | exact hk.2.1 | exact hk.2.2 | exact hk.1.1.1 | exact hk.1.1.2 | exact hk.1.2.1 | exact hk.1.2.2 | exact hk.2.1.1 | exact hk.2.1.2 | exact hk.2.2.1 | exact hk.2.2.2 | exact hk.1.1.1.1 | exact hk.1.1.1.2 | exact hk.1.1.2.1 | exact hk.1.1.2.2 | exact hk.1.2.1.1 | exact hk.1.2.1.2 | exact hk.1.2.2.1 | exact hk.1.2.2.2 | exact hk.2.1.1.1 | exact hk.2.1.1.2 | exact hk.2.1.2.1 | exact hk.2.1.2.2 | exact hk.2.2.1.1 | exact hk.2.2.1.2 | exact hk.2.2.2.1 | exact hk.2.2.2.2 | exact hk.1.1.1.1.1 | exact hk.1.1.1.1.2 | exact hk.1.1.1.2.1 | exact hk.1.1.1.2.2 | exact hk.1.1.2.1.1 | exact hk.1.1.2.1.2 | exact hk.1.1.2.2.1 | exact hk.1.1.2.2.2 | exact hk.1.2.1.1.1 | exact hk.1.2.1.1.2 | exact hk.1.2.1.2.1 | exact hk.1.2.1.2.2 | exact hk.1.2.2.1.1 | exact hk.1.2.2.1.2 | exact hk.1.2.2.2.1 | exact hk.1.2.2.2.2 | exact hk.2.1.1.1.1 | exact hk.2.1.1.1.2 | exact hk.2.1.1.2.1 | exact hk.2.1.1.2.2 | exact hk.2.1.2.1.1 | exact hk.2.1.2.1.2 | exact hk.2.1.2.2.1 | exact hk.2.1.2.2.2 | exact hk.2.2.1.1.1 | exact hk.2.2.1.1.2 | exact hk.2.2.1.2.1 | exact hk.2.2.1.2.2 | exact hk.2.2.2.1.1 | exact hk.2.2.2.1.2 | exact hk.2.2.2.2.1 | exact hk.2.2.2.2.2)) hg hat); have n3_ := aK (hb); have n4_ := aK (ho); clear HO_6; clear BK895; clear HL907_0; clear HB; clear HO_5; clear HO910; have HO_6 := n0_; have BK895 := n1_; have HL907_0 := n2_; have HB := n3_; have HO918 := n4_; clear n0_ n1_ n2_ n3_ n4_; clear ho hb hg hat))
                        (try simp only [← hl6_3])
                        go_roundg k3
                        case measure => have := HK1.out; have := HK2.out; have := HK3.out; omega
                        case rel => exact ⟨(y916), (y915), (wrap64 (x9_3 + 1)), (by first | rfl | (simp; done) | (simp [*]; done)), H', ⟨by have := HK1.out; have := HK2.out; have := HK3.out; omega⟩, ⟨by (try simp only [hl6_1]); (try simp only [hl6_2]); (try simp only [hl6_3]); (with_reducible repeat (first | apply Kd.N_alloc | apply Kd.N_drewN | apply Kd.N_drew)); exact HO918.out⟩, ⟨by (try simp only [hl6_1]); (try simp only [hl6_2]); (try simp only [hl6_3]); (with_reducible repeat (first | apply Kd.R_alloc | apply Kd.R_drewN | apply Kd.R_drew)); exact HO_6.out⟩, ⟨by (try simp only [hl6_1]); (try simp only [hl6_2]); (try simp only [hl6_3]); (with_reducible repeat (first | refine kDN ?_ _ | refine kD ?_ | refine kA ?_ _)); exact BK895.out⟩, ⟨zH1 HB GE895⟩⟩
                       ·rw [if_neg c43] at H
                        exact absurd H (by simp)
                      ·rw [if_neg c41] at H
                       exact absurd H (by simp)
                     ·rw [if_neg c40] at H
                      exact absurd H (by simp)
                   ·rw [if_neg c32] at H
                    exact absurd H (by simp)
                  ·rw [if_neg c31] at H
                   exact absurd H (by simp)
                 ·replace c29 := Bool.eq_false_iff.mpr c29
                  subst c29
                  have H1 : (spec_l31Search.l2 k3 l1 x5_3 x6_3 x7_1 x8_2 (wrap64 (x9_3 + 1)) a0_0 a0_1 a0_2) = some r := by rw [if_neg (show ¬ (false = true) by decide)] at H; exact H
                  clear H
                  have H := H1
                  clear H1
                  have H' := aK H
                  clear H
                  try go_wp2
                  have n0_ := aK (Kd.N_drew HO_5.out)
                  have n1_ := aK (Kd.R_drew HO_6.out)
                  have n2_ := aK (kD BK895.out)
                  have n3_ := aK (bD1 HB.out)
                  clear HO_5
                  clear HO_6
                  clear BK895
                  clear HB
                  have HO_5 := n0_
                  have HO_6 := n1_
                  have BK895 := n2_
                  have HB := n3_
                  clear n0_ n1_ n2_ n3_
                  obtain ⟨Ao52, co52, eo52⟩ := Kd.N_slice HO_5.out
                  (first | subst eo52 | (injection eo52 with f1_ f2_ f3_; have f4_ := f1_.symm; have f5_ := f3_.symm; clear f1_ f2_ f3_; subst f4_; subst f5_))
                  have p907 : 0 ≤ (x7_1 : Int) := of_decide_eq_true (by first | (with_reducible assumption) | assumption)
                  have q907 : x7_1 < (x5_3.length : Int) := of_decide_eq_true (by first | (with_reducible assumption) | assumption)
                  obtain ⟨ad907, A907_0, c907_0, e907, hx907_0, hl907_0, hi907_0⟩ := at_L7 (Kd.N_reads' HO_5.out).2.2 x7_1 p907 q907
                  cases e907
                  obtain ⟨ce907, hce907, hMe907, hcc907⟩ := Kd.N_get HO_5.out [] x7_1 p907 (by first | exact q907 | exact of_decide_eq_true (by first | (with_reducible assumption) | assumption) | (have e_ := (Kd.N_reads' HO_5.out).1; omega))
                  obtain ⟨ua907_0, uc907_0, rfl, ul907_0, ge907_0⟩ := Kd.FK_slice_open hMe907
                  have hv907_0 := hcc907 0 _ rfl
                  rw [Nat.add_zero, show ((Kd.slice 3 (Kd.int .i64))).sz = 1 from rfl, Nat.mul_one] at hv907_0
                  replace hv907_0 := Option.some.inj (hv907_0.symm.trans hx907_0)
                  injection hv907_0 with hva_ hvn_ hvc_
                  rw [hva_] at ge907_0
                  rw [hvc_] at ul907_0
                  have HL907_0 := aK (show Kd.V (Kd.int .i64) 3 _ w.heap.size _ _ (rd_LInt x5_3 x7_1) from Kd.V_mk ul907_0 ge907_0)
                  clear hva_ hvn_ hvc_ ge907_0 ul907_0
                  clear hcc907 hce907
                  have HR907_0 := aK hi907_0
                  have HC907_0 := aK hl907_0
                  clear hi907_0 hl907_0
                  replace p907 := eq_true p907
                  replace q907 := eq_true q907
                  refine start_ (n := 13) (S := fun w' => w'.cell? ⟨gb895, 0, none⟩ = some (.int .i64 a0_0) ∧ w'.cell? ⟨gb895, 1, none⟩ = some (.int .i64 a0_1) ∧ w'.cell? ⟨gb895, 2, none⟩ = some (.int .i64 a0_2) ∧ w'.cell? (ad907.add (x7_1).toNat) = some (.slice A907_0 (rd_LInt x5_3 x7_1).length c907_0)) (ds := []) #[bN,bN,bN,bN,bN,bN,bN,bN,bN,bN,bN,bN,bN] (by kernel_rfl) rfl rfl ⟨zQ BK895 0, zQ BK895 1, zQ BK895 2, hx907_0⟩ (fun hHeld => ?_); refine with_tabW spec_l31Search.tab13 spec_l31Search.bits13 (fun HT_ HW_ => ?_)
                  generalize wr.drew = w51 at HO_5 HO_6 BK895 HB HL907_0 HR907_0 hx907_0 hHeld ⊢
                  refine pure_ (i := 1) (N := some 43) (v := ?_) (a' := ?_) #[bN,bY,bN,bN,bN,bN,bN,bN,bN,bN,bN,bN,bN] rfl rfl (any_of HT_.out (by kernel_rfl)) (fun _ _ _ h => h) (Or.inl ⟨by rfl, ?_⟩) ?_ ?_
                  rotate_left
                  ·intro w'
                   go_simp
                   with_reducible rfl
                  rotate_left
                  ·simp only [Act.put, sTA, sZ, sS, i64_w, i32_w]
                   rfl
                  refine pure_ (i := 2) (N := some 44) (v := ?_) (a' := ?_) #[bN,bY,bY,bN,bN,bN,bN,bN,bN,bN,bN,bN,bN] rfl rfl (any_of HT_.out (by kernel_rfl)) (fun _ _ _ h => h) (Or.inl ⟨by rfl, ?_⟩) ?_ ?_
                  rotate_left
                  ·intro w'
                   go_simp
                   with_reducible rfl
                  rotate_left
                  ·simp only [Act.put, sTA, sZ, sS, i64_w, i32_w]
                   rfl
                  refine pure_ (i := 3) (N := some 45) (v := ?_) (a' := ?_) #[bN,bY,bY,bY,bN,bN,bN,bN,bN,bN,bN,bN,bN] rfl rfl (any_of HT_.out (by kernel_rfl)) (fun _ _ _ h => h) (Or.inl ⟨by rfl, ?_⟩) ?_ ?_
                  rotate_left
                  ·intro w'
                   go_simp
                   with_reducible rfl
                  rotate_left
                  ·simp only [Act.put, sTA, sZ, sS, i64_w, i32_w]
                   rfl
                  refine pure_ (i := 5) (N := some 47) (v := ?_) (a' := ?_) #[bN,bY,bY,bY,bN,bY,bN,bN,bN,bN,bN,bN,bN] rfl rfl (any_of HT_.out (by kernel_rfl)) (fun _ _ _ h => h) (Or.inl ⟨by rfl, ?_⟩) ?_ ?_
                  rotate_left
                  ·intro w'
                   go_simp
                   with_reducible rfl
                  rotate_left
                  ·simp only [Act.put, sTA, sZ, sS, i64_w, i32_w]
                   rfl
                  refine pure_ (i := 6) (N := some 48) (v := ?_) (a' := ?_) #[bN,bY,bY,bY,bN,bY,bY,bN,bN,bN,bN,bN,bN] rfl rfl (any_of HT_.out (by kernel_rfl)) (fun _ _ _ h => h) (Or.inl ⟨by rfl, ?_⟩) ?_ ?_
                  rotate_left
                  ·intro w'
                   go_simp
                   with_reducible rfl
                  rotate_left
                  ·simp only [Act.put, sTA, sZ, sS, i64_w, i32_w]
                   rfl
                  refine take_ (i := 0) (N := some 42) (v := ?_) (a' := ?_) #[bY,bY,bY,bY,bN,bY,bY,bN,bN,bN,bN,bN,bN] rfl rfl (take_ofW HT_.out HW_.out (by kernel_rfl)) (fun _ _ _ h => h) (Or.inl ⟨by rfl, ?_⟩) hHeld ?_ ?_
                  rotate_left
                  ·rintro w' ⟨s0, s1, s2, s3⟩
                   go_simp
                   with_reducible rfl
                  rotate_left
                  ·simp only [Act.put, sTA, sZ, sS, i64_w, i32_w]
                   rfl
                  refine take_ (i := 4) (N := some 46) (v := ?_) (a' := ?_) #[bY,bY,bY,bY,bY,bY,bY,bN,bN,bN,bN,bN,bN] rfl rfl (take_ofW HT_.out HW_.out (by kernel_rfl)) (fun _ _ _ h => h) (Or.inl ⟨by rfl, ?_⟩) hHeld ?_ ?_
                  rotate_left
                  ·rintro w' ⟨s0, s1, s2, s3⟩
                   go_simp
                   with_reducible rfl
                  rotate_left
                  ·simp only [Act.put, sTA, sZ, sS, i64_w, i32_w]
                   rfl
                  refine one_ (i := 7) (N := some 49) #[bY,bY,bY,bY,bY,bY,bY,bY,bN,bN,bN,bN,bN] rfl rfl (one_of HT_.out (by kernel_rfl)) (by decide) (fun K hK => ?_)
                  refine goes_ Tryd.func77 (by kernel_rfl) rfl #[.agg #[.int .i64 a0_0, .int .i64 a0_1, .int .i64 a0_2], .slice A907_0 (rd_LInt x5_3 x7_1).length c907_0, .int .i64 x8_2, .int .i64 x9_3] (by rfl) rfl rfl zD ?_
                  with_reducible refine (spec_MoveOne.calls k3 a0_0 a0_1 a0_2 _ _ (rd_LInt x5_3 x7_1) x8_2 x9_3 t908 false _ ?side1 ?side2 A28.out).mono ?_
                  (case side1 => repeat (first | exact (by repeat (first | (with_reducible exact HR907_0.out) | (with_reducible refine Kd.C_alloc ?_ _) | (with_reducible refine Kd.C_drewN ?_ _) | (with_reducible refine Kd.C_drew ?_) | exact HR907_0.out)) | (with_reducible refine Kd.C_alloc ?_ _) | (with_reducible refine Kd.C_drewN ?_ _) | (with_reducible refine Kd.C_drew ?_)))
                  (case side2 => exact HC907_0.out)
                  rintro e w53 ⟨v909, rfl, ho0, hb⟩
                  have HS3_ := (hb.cell (World.block_lt_of_cell? _ _ (hHeld.2.2.2))).trans (hHeld.2.2.2)
                  refine ⟨_, rfl, ?_⟩
                  have n0_ := aK (Kd.N_elder' (by (with_reducible repeat (first | apply Kd.N_alloc | apply Kd.N_drewN | apply Kd.N_drew)); exact HO_5.out) (Kd.R_base ho0) hb)
                  have n1_ := aK (Kd.R_below (zA HO_6) hb)
                  have n2_ := aK (Kd.V_elder' (by (with_reducible repeat (first | apply Kd.V_alloc | apply Kd.V_drewN | apply Kd.V_drew)); exact HL907_0.out) (Kd.R_base ho0) hb)
                  have n3_ := aK (Kd.R_lower (Kd.R_newM (M := fun k_ => (w.heap.size ≤ k_)) ho0 (bSz (zH1 HB GE895)) (fun k_ h_ => h_)) (bSz (zH1 HB GE895)))
                  have n4_ := zB BK895 hb
                  have n5_ := aK (Kd.C_below (by repeat (first | (with_reducible exact HR907_0.out) | (with_reducible refine Kd.C_alloc ?_ _) | (with_reducible refine Kd.C_drewN ?_ _) | (with_reducible refine Kd.C_drew ?_) | exact HR907_0.out)) hb)
                  have n6_ := aK (bSp (zH1 HB GE895) hb)
                  clear HO_5
                  clear HO_6
                  clear HL907_0
                  clear BK895
                  clear HR907_0
                  clear HB
                  have HO_5 := n0_
                  have HO_6 := n1_
                  have HL907_0 := n2_
                  have HO910 := n3_
                  have BK895 := n4_
                  have HR907_0 := n5_
                  have HB := n6_
                  clear n0_ n1_ n2_ n3_ n4_ n5_ n6_
                  (try clear hb)
                  (try clear hb2)
                  (try clear hk)
                  (try clear hi)
                  (try clear ho0)
                  refine hK.out _ _ ⟨zQ BK895 0, zQ BK895 1, zQ BK895 2, HS3_⟩ (fun hHeld => ?_)
                  clear hK K
                  refine norm_ (a' := ?_) ?_ ?_
                  rotate_left
                  ·show Act.put _ (some 49) _ = _
                   simp only [Act.put, sTA, sZ, sS, i64_w, i32_w]
                   rfl
                  refine pure_ (i := 8) (N := some 41) (v := ?_) (a' := ?_) #[bY,bY,bY,bY,bY,bY,bY,bY,bY,bN,bN,bN,bN] rfl rfl (any_of HT_.out (by kernel_rfl)) (fun _ _ _ h => h) (Or.inl ⟨by rfl, ?_⟩) ?_ ?_
                  rotate_left
                  ·intro w'
                   go_simp
                   with_reducible rfl
                  rotate_left
                  ·simp only [Act.put, sTA, sZ, sS, i64_w, i32_w]
                   rfl
                  refine pure_ (i := 9) (N := some 50) (v := ?_) (a' := ?_) #[bY,bY,bY,bY,bY,bY,bY,bY,bY,bY,bN,bN,bN] rfl rfl (any_of HT_.out (by kernel_rfl)) (fun _ _ _ h => h) (Or.inl ⟨by rfl, ?_⟩) ?_ ?_
                  rotate_left
                  ·intro w'
                   go_simp
                   with_reducible rfl
                  rotate_left
                  ·simp only [Act.put, sTA, sZ, sS, i64_w, i32_w]
                   rfl
                  refine pure_ (i := 10) (N := some 51) (v := ?_) (a' := ?_) #[bY,bY,bY,bY,bY,bY,bY,bY,bY,bY,bY,bN,bN] rfl rfl (any_of HT_.out (by kernel_rfl)) (fun _ _ _ h => h) (Or.inl ⟨by rfl, ?_⟩) ?_ ?_
                  rotate_left
                  ·intro w'
                   go_simp
                   with_reducible rfl
                  rotate_left
                  ·simp only [Act.put, sTA, sZ, sS, i64_w, i32_w]
                   rfl
                  refine pure_ (i := 11) (N := some 10) (v := ?_) (a' := ?_) #[bY,bY,bY,bY,bY,bY,bY,bY,bY,bY,bY,bY,bN] rfl rfl (any_of HT_.out (by kernel_rfl)) (fun _ _ _ h => h) (Or.inl ⟨by rfl, ?_⟩) ?_ ?_
                  rotate_left
                  ·intro w'
                   go_simp
                   with_reducible rfl
                  rotate_left
                  ·simp only [Act.put, sTA, sZ, sS, i64_w, i32_w]
                   rfl
                  refine pure_ (i := 12) (N := some 11) (v := ?_) (a' := ?_) #[bY,bY,bY,bY,bY,bY,bY,bY,bY,bY,bY,bY,bY] rfl rfl (any_of HT_.out (by kernel_rfl)) (fun _ _ _ h => h) (Or.inl ⟨by rfl, ?_⟩) ?_ ?_
                  rotate_left
                  ·intro w'
                   go_simp
                   with_reducible rfl
                  rotate_left
                  ·simp only [Act.put, sTA, sZ, sS, i64_w, i32_w]
                   rfl
                  refine done_ (done_of HT_.out (by kernel_rfl)) ?_
                  try go_wp2
                  (try simp only [← hl6_3])
                  go_roundg k3
                  case measure => have := HK1.out; have := HK2.out; have := HK3.out; omega
                  case rel => exact ⟨(x5_3), (x6_3), (wrap64 (x9_3 + 1)), (by first | rfl | (simp; done) | (simp [*]; done)), H', ⟨by have := HK1.out; have := HK2.out; have := HK3.out; omega⟩, ⟨by (try simp only [hl6_1]); (try simp only [hl6_2]); (try simp only [hl6_3]); (with_reducible repeat (first | apply Kd.N_alloc | apply Kd.N_drewN | apply Kd.N_drew)); exact Kd.N_mono HO_5.out (fun k_ hk => by (repeat' apply And.intro) <;> first | exact hk | exact hk.1 | exact hk.2 | exact hk.1.1 | exact hk.1.2 | exact hk.2.1 | exact hk.2.2 | exact hk.1.1.1 | exact hk.1.1.2 | exact hk.1.2.1 | exact hk.1.2.2 | exact hk.2.1.1 | exact hk.2.1.2 | exact hk.2.2.1 | exact hk.2.2.2 | exact hk.1.1.1.1 | exact hk.1.1.1.2 | exact hk.1.1.2.1 | exact hk.1.1.2.2 | exact hk.1.2.1.1 | exact hk.1.2.1.2 | exact hk.1.2.2.1 | exact hk.1.2.2.2 | exact hk.2.1.1.1 | exact hk.2.1.1.2 | exact hk.2.1.2.1 | exact hk.2.1.2.2 | exact hk.2.2.1.1 | exact hk.2.2.1.2 | exact hk.2.2.2.1 | exact hk.2.2.2.2 | exact hk.1.1.1.1.1 | exact hk.1.1.1.1.2 | exact hk.1.1.1.2.1 | exact hk.1.1.1.2.2 | exact hk.1.1.2.1.1 | exact hk.1.1.2.1.2 | exact hk.1.1.2.2.1 | exact hk.1.1.2.2.2 | exact hk.1.2.1.1.1 | exact hk.1.2.1.1.2 | exact hk.1.2.1.2.1 | exact hk.1.2.1.2.2 | exact hk.1.2.2.1.1 | exact hk.1.2.2.1.2 | exact hk.1.2.2.2.1 | exact hk.1.2.2.2.2 | exact hk.2.1.1.1.1 | exact hk.2.1.1.1.2 | exact hk.2.1.1.2.1 | exact hk.2.1.1.2.2 | exact hk.2.1.2.1.1 | exact hk.2.1.2.1.2 | exact hk.2.1.2.2.1 | exact hk.2.1.2.2.2 | exact hk.2.2.1.1.1 | exact hk.2.2.1.1.2 | exact hk.2.2.1.2.1 | exact hk.2.2.1.2.2 | exact hk.2.2.2.1.1 | exact hk.2.2.2.1.2 | exact hk.2.2.2.2.1 | exact hk.2.2.2.2.2)⟩, ⟨by (try simp only [hl6_1]); (try simp only [hl6_2]); (try simp only [hl6_3]); (with_reducible repeat (first | apply Kd.R_alloc | apply Kd.R_drewN | apply Kd.R_drew)); exact HO_6.out⟩, ⟨by (try simp only [hl6_1]); (try simp only [hl6_2]); (try simp only [hl6_3]); (with_reducible repeat (first | refine kDN ?_ _ | refine kD ?_ | refine kA ?_ _)); exact BK895.out⟩, ⟨zH1 HB GE895⟩⟩
                ·rw [if_neg c27] at H
                 exact absurd H (by simp)
               ·rw [if_neg c26] at H
                exact absurd H (by simp)
              ·rw [if_neg c25] at H
               have c25b0 : decide (x9_3 ≤ 3) = false := decide_eq_false c25
               clear c25
               have H' := aK H
               clear H
               go_wp2
               (try simp only [← hl6_2, ← hl6_3])
               go_roundg k3
               case measure => have := HK1.out; have := HK2.out; have := HK3.out; omega
               case rel => exact ⟨(x5_3), (x6_3), (wrap64 (x8_2 + 1)), (by first | rfl | (simp; done) | (simp [*]; done)), H', ⟨by have := HK1.out; have := HK2.out; have := HK3.out; omega⟩, ⟨by (try simp only [hl6_1]); (try simp only [hl6_2]); (try simp only [hl6_3]); (with_reducible repeat (first | apply Kd.N_alloc | apply Kd.N_drewN | apply Kd.N_drew)); exact HO_5.out⟩, ⟨by (try simp only [hl6_1]); (try simp only [hl6_2]); (try simp only [hl6_3]); (with_reducible repeat (first | apply Kd.R_alloc | apply Kd.R_drewN | apply Kd.R_drew)); exact HO_6.out⟩, ⟨by (try simp only [hl6_1]); (try simp only [hl6_2]); (try simp only [hl6_3]); (with_reducible repeat (first | refine kDN ?_ _ | refine kD ?_ | refine kA ?_ _)); exact BK895.out⟩, ⟨zH1 HB GE895⟩⟩
           ·rw [if_neg c24] at H
            have c24b0 : decide (x8_2 < (l1.length : Int)) = false := decide_eq_false c24
            clear c24
            have H' := aK H
            clear H
            go_wp2
            (try simp only [← hl6_1, ← hl6_2])
            go_roundg k2
            case measure => have := HK1.out; have := HK2.out; omega
            case rel => exact ⟨(x5_2), (x6_2), (wrap64 (x7_1 + 1)), (by first | rfl | (simp; done) | (simp [*]; done)), H', ⟨by have := HK1.out; have := HK2.out; omega⟩, ⟨by (try simp only [hl6_1]); (try simp only [hl6_2]); (with_reducible repeat (first | apply Kd.N_alloc | apply Kd.N_drewN | apply Kd.N_drew)); exact HO_5.out⟩, ⟨by (try simp only [hl6_1]); (try simp only [hl6_2]); (with_reducible repeat (first | apply Kd.R_alloc | apply Kd.R_drewN | apply Kd.R_drew)); exact HO_6.out⟩, ⟨by (try simp only [hl6_1]); (try simp only [hl6_2]); (with_reducible repeat (first | refine kDN ?_ _ | refine kD ?_ | refine kA ?_ _)); exact BK895.out⟩, ⟨zH1 HB GE895⟩⟩
        ·rw [if_neg c22] at H
         have c22b0 : decide (x7_1 < (x5_1.length : Int)) = false := decide_eq_false c22
         clear c22
         obtain rfl := Option.some.inj H
         obtain ⟨Ao54, co54, eo54⟩ := Kd.N_slice HO_5.out
         subst eo54
         go_wp2
         go_ret
         exact ⟨_, by first | rfl | (simp [errW_none, errW_some] <;> rfl) | (simp only [← hji4, ← hji6]; first | rfl | (simp [errW_none, errW_some] <;> rfl)) | (simp [*, errW_none, errW_some] <;> rfl), by (with_reducible repeat (first | apply Kd.N_alloc | apply Kd.N_drewN | apply Kd.N_drew)); exact Kd.N_mono HO_5.out (fun k_ hk => by (repeat' apply And.intro) <;> first | exact hk | exact hk.1 | exact hk.2 | exact hk.1.1 | exact hk.1.2 | exact hk.2.1 | exact hk.2.2 | exact hk.1.1.1 | exact hk.1.1.2 | exact hk.1.2.1 | exact hk.1.2.2 | exact hk.2.1.1 | exact hk.2.1.2 | exact hk.2.2.1 | exact hk.2.2.2 | exact hk.1.1.1.1 | exact hk.1.1.1.2 | exact hk.1.1.2.1 | exact hk.1.1.2.2 | exact hk.1.2.1.1 | exact hk.1.2.1.2 | exact hk.1.2.2.1 | exact hk.1.2.2.2 | exact hk.2.1.1.1 | exact hk.2.1.1.2 | exact hk.2.1.2.1 | exact hk.2.1.2.2 | exact hk.2.2.1.1 | exact hk.2.2.1.2 | exact hk.2.2.2.1 | exact hk.2.2.2.2 | exact hk.1.1.1.1.1 | exact hk.1.1.1.1.2 | exact hk.1.1.1.2.1 | exact hk.1.1.1.2.2 | exact hk.1.1.2.1.1 | exact hk.1.1.2.1.2 | exact hk.1.1.2.2.1 | exact hk.1.1.2.2.2 | exact hk.1.2.1.1.1 | exact hk.1.2.1.1.2 | exact hk.1.2.1.2.1 | exact hk.1.2.1.2.2 | exact hk.1.2.2.1.1 | exact hk.1.2.2.1.2 | exact hk.1.2.2.2.1 | exact hk.1.2.2.2.2 | exact hk.2.1.1.1.1 | exact hk.2.1.1.1.2 | exact hk.2.1.1.2.1 | exact hk.2.1.1.2.2 | exact hk.2.1.2.1.1 | exact hk.2.1.2.1.2 | exact hk.2.1.2.2.1 | exact hk.2.1.2.2.2 | exact hk.2.2.1.1.1 | exact hk.2.2.1.1.2 | exact hk.2.2.1.2.1 | exact hk.2.2.1.2.2 | exact hk.2.2.2.1.1 | exact hk.2.2.2.1.2 | exact hk.2.2.2.2.1 | exact hk.2.2.2.2.2), by repeat (first | (with_reducible first | exact HB.out | apply bAl | apply bDN | apply bD1 | refine bSt ?_ GE895.out) | exact HB.out)⟩
     ·rw [if_neg c11] at H
      exact absurd H (by simp)
    ·rw [if_neg c10] at H
     exact absurd H (by simp)
   ·rw [if_neg c8] at H
    exact absurd H (by simp)
  ·rw [if_neg c7] at H
   exact absurd H (by simp)
 ·rw [if_neg c5] at H
  exact absurd H (by simp)
end Go.Proofs.YtdjdleldocfpaaaDoor.F
end
