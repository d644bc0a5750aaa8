/- Packed by a program of the session (wip/tools/pack.py): what the claim's theorem reaches, of the texts that wip/ and the kit's printer lay. -/
import Derived.Test.YtimejdhglmajdaaPkFnExactIsTrueRecord8
import Derived.Laws.StructEq
section
namespace Go.Proofs.Ytimejdhglmajdaa.F
open Go.RowKit Go.Proofs.YtimejdhglmajdaaW.PrintWords Go.Proofs.YtimejdhglmajdaaW.PrintLast Go.Proofs.YtimejdhglmajdaaW.PrintMore
set_option linter.unusedVariables false
set_option linter.unusedSimpArgs false
attribute [local go_sem] min2_int min_two
def impl_FirstFalse.T6 : Bool × List (List Nat × List Nat) := (true, [([], []), ([], []), ([], []), ([2], [2]), ([1, 3], [1, 3]), ([4], [4]), ([], []), ([], []), ([6, 7], [6, 7]), ([8], [8]), ([0, 5, 9], [0, 5, 9]), ([10], [10])])
def impl_FirstFalse.B6 : List Nat := [0, 0, 0, 4, 14, 30, 0, 0, 192, 448, 1023, 2047]
theorem impl_FirstFalse.tab6 : rtab .any (opsOf Try.f53 6) = impl_FirstFalse.T6 := by kernel_rfl
theorem impl_FirstFalse.bits6 : waitsOk impl_FirstFalse.T6.2 impl_FirstFalse.B6 = true := by kernel_rfl
set_option maxHeartbeats 8000000 in
set_option maxRecDepth 100000 in
theorem impl_FirstFalse.calls (k : Nat) (a0_0 : Int) (a0_1 : Int) (a0_2 : Int) (a0_3 : Int) (A0_4 : Option Addr) (c0_4 : Nat) (l0_4 : List (SGate)) (A1 : Option Addr) (c1 : Nat) (l1 : List (SEntry)) (r : Int) (w : World) (hr0_4 : Kd.C k137 w A0_4 l0_4.length l0_4) (hc0_4 : l0_4.length ≤ c0_4) (hr1 : Kd.C k60 w A1 l1.length l1) (hc1 : l1.length ≤ c1) (h : impl_FirstFalse.f k a0_0 a0_1 a0_2 a0_3 l0_4 l1 = some r) :
  Calls Try.prog 53 #[.agg #[.int .i64 a0_0, .int .i64 a0_1, .int .i64 a0_2, .int .i64 a0_3, .slice A0_4 l0_4.length c0_4], .slice A1 l1.length c1] w fun e w' => e = .returned (.int .i64 r) ∧ Below w.heap.size w w' := by
 have hu58 := Try.underlying58
 have hu60 := Try.underlying60
 have HR0_4 := aK hr0_4
 have HC0_4 := aK hc0_4
 clear hr0_4 hc0_4
 have HR1 := aK hr1
 have HC1 := aK hc1
 clear hr1 hc1
 have HB := aK (Below.refl w.heap.size w)
 have H : ((impl_RecordOk.f k a0_0 a0_1 a0_2 a0_3 l0_4 l1).bind fun t1085 => (if t1085 = true then (impl_FirstFalse.l0 k l1 1 a0_0 a0_1 a0_2 a0_3 l0_4) else (some (-1)))) = some r := h
 clear h
 replace H := Option.bind_eq_some_iff.mp H
 obtain ⟨t1085, A30, H⟩ := H
 replace H : (if t1085 = true then (impl_FirstFalse.l0 k l1 1 a0_0 a0_1 a0_2 a0_3 l0_4) else (some (-1))) = some r := H
 have A3 := aK A30
 clear A30
 by_cases c4 : t1085 = true
 ·subst c4
  have H1 : (impl_FirstFalse.l0 k l1 1 a0_0 a0_1 a0_2 a0_3 l0_4) = some r := by rw [if_pos rfl] at H; exact H
  clear H
  have H := H1
  clear H1
  have H' := aK H
  clear H
  go_enter Try.func53, Try.ntmps53
  go_wp2_with (first | ((with_reducible refine gate_dst (N := 2) rfl ?_); refine box_event ?hg (N := 2) ?hd (cs := #[.int .i64 a0_0, .int .i64 a0_1, .int .i64 a0_2, .int .i64 a0_3, .slice A0_4 l0_4.length c0_4]) (t := 58) ?hr ?_; (case hd => rfl); (case hg => rfl); (case hr => first | (go_simp; done) | (go_simp; rfl)); intro gb1084 hg w5 hbox hb; have n0_ := aK (bSp (by repeat (first | (with_reducible first | exact HB.out | apply bAl | apply bDN | apply bD1) | exact HB.out)) hb); have n1_ := aK (hbox); have n2_ := aK ((by rw [hg]; exact (bSz (by repeat (first | (with_reducible first | exact HB.out | apply bAl | apply bDN | apply bD1) | exact HB.out))) : w.heap.size ≤ gb1084)); have n3_ := n2_; clear HB; have HB := n0_; have BK1084 := n1_; have GW1084 := n2_; have GE1084 := n3_; clear n0_ n1_ n2_ n3_; clear hb hbox hg; obtain ⟨hcz6_0, hcz6_1, hcz6_2, hcz6_3, hcz6_4, hfz6_0, hfz6_1, hfz6_2, hfz6_3, hfz6_4⟩ := cl5 BK1084.out) | ((with_reducible refine gate_callee (f := 104) rfl ?_); refine goesL_ (some 8) rfl rfl Try.func104 (by kernel_rfl) rfl #[.agg #[.int .i64 a0_0, .int .i64 a0_1, .int .i64 a0_2, .int .i64 a0_3, .slice A0_4 l0_4.length c0_4], .slice A1 l1.length c1] rfl (by (try simp only [List.map_toArray, List.map_cons, List.map_nil]); first | done | rfl | (simp only [List.length_drop, List.length_take]; rfl)) ?_; (with_reducible refine (impl_RecordOk.calls k a0_0 a0_1 a0_2 a0_3 _ _ l0_4 _ _ l1 true _ ?side1 ?side2 ?side3 ?side4 A3.out).mono ?_); (case side1 => repeat (first | exact (Kd.C_below HR0_4.out HB.out) | (with_reducible refine Kd.C_alloc ?_ _) | (with_reducible refine Kd.C_drewN ?_ _) | (with_reducible refine Kd.C_drew ?_))); (case side2 => exact HC0_4.out); (case side3 => repeat (first | exact (Kd.C_below HR1.out HB.out) | (with_reducible refine Kd.C_alloc ?_ _) | (with_reducible refine Kd.C_drewN ?_ _) | (with_reducible refine Kd.C_drew ?_))); (case side4 => exact HC1.out); rintro e w7 ⟨rfl, hb⟩; refine ⟨_, rfl, ?_⟩; have n0_ := bkb BK1084 hb (by intro z_; (with_reducible repeat (first | refine kDN ?_ _ | refine kD ?_ | refine kA ?_ _)); exact z_); have n1_ := aK (bSp (by repeat (first | (with_reducible first | exact HB.out | apply bAl | apply bDN | apply bD1 | refine bSt ?_ GE1084.out) | exact HB.out)) hb); clear BK1084; clear HB; have BK1084 := n0_; have HB := n1_; clear n0_ n1_; (try clear hb); (try clear hb2); (try clear hk); (try clear hi)))
  go_loopg [5] k (fun kq v5 w' => ∃ (x5_1 : Int), v5 = .int .i64 x5_1 ∧ Aside0 (impl_FirstFalse.l0 kq l1 x5_1 a0_0 a0_1 a0_2 a0_3 l0_4 = some r) ∧ Aside0 (kq ≤ k) ∧ Aside0 (w'.heap[gb1084]? = some (.cells #[.int .i64 a0_0, .int .i64 a0_1, .int .i64 a0_2, .int .i64 a0_3, (.slice A0_4 l0_4.length c0_4)] 58 (0, 0))) ∧ Aside0 (Below w.heap.size w w'))
  case atStart => exact ⟨(1), (by first | rfl | (simp; done) | (simp [*]; done)), H', ⟨Nat.le_refl _⟩, ⟨by (with_reducible repeat (first | refine kDN ?_ _ | refine kD ?_ | refine kA ?_ _)); exact BK1084.out⟩, ⟨by repeat (first | (with_reducible first | exact HB.out | apply bAl | apply bDN | apply bD1 | refine bSt ?_ GE1084.out) | exact HB.out)⟩⟩
  case round =>
   clear H'
   try clear c1
   try clear p2
   try clear c4
   try clear c5
   try clear hcz6_0
   try clear hcz6_1
   try clear hcz6_2
   try clear hcz6_3
   try clear hcz6_4
   try clear hfz6_0
   try clear hfz6_1
   try clear hfz6_2
   try clear hfz6_3
   try clear hfz6_4
   obtain ⟨x5_1, rfl, HA, HK1, BK1084, HB⟩ := hrel
   cases gk with
   | zero => exact absurd HA.out (by simp [impl_FirstFalse.l0])
   | succ k1 =>
    have H := HA.out
    clear HA
    simp only [impl_FirstFalse.l0] at H
    by_cases c8 : x5_1 < (l1.length : Int)
    ·rw [if_pos c8] at H
     have c8b0 : decide (x5_1 < (l1.length : Int)) = true := decide_eq_true c8
     clear c8
     obtain ⟨ji9, hji9⟩ : ∃ j_ : Int, (wrap64 (x5_1 - 1)) = j_ := ⟨_, rfl⟩
     replace H : (if 0 ≤ (ji9) then (if (ji9) < (l1.length : Int) then (if 0 ≤ x5_1 then ((impl_CanFollow.f a0_0 a0_1 a0_2 a0_3 l0_4 ((rd_Entry l1 (ji9)).f0) ((rd_Entry l1 (ji9)).f1) ((rd_Entry l1 x5_1).f0) ((rd_Entry l1 x5_1).f1)).bind fun t1088 => (if t1088 = true then (impl_FirstFalse.l0 k1 l1 (wrap64 (x5_1 + 1)) a0_0 a0_1 a0_2 a0_3 l0_4) else (some x5_1))) else (none)) else (none)) else (none)) = some r := by first | (rw [hji9] at H; exact H) | (simp only [hji9] at H ⊢; exact H)
     have hji9w : (IntKind.i64.wrap (x5_1 - 1)) = ji9 := (i64_w _).trans hji9
     by_cases c10 : 0 ≤ (ji9)
     ·rw [if_pos c10] at H
      have c10b0 : decide (0 ≤ (ji9)) = true := decide_eq_true c10
      clear c10
      by_cases c11 : (ji9) < (l1.length : Int)
      ·rw [if_pos c11] at H
       have c11b0 : decide ((ji9) < (l1.length : Int)) = true := decide_eq_true c11
       clear c11
       by_cases c12 : 0 ≤ x5_1
       ·rw [if_pos c12] at H
        have c12b0 : decide (0 ≤ x5_1) = true := decide_eq_true c12
        clear c12
        replace H := Option.bind_eq_some_iff.mp H
        obtain ⟨t1088, A130, H⟩ := H
        replace H : (if t1088 = true then (impl_FirstFalse.l0 k1 l1 (wrap64 (x5_1 + 1)) a0_0 a0_1 a0_2 a0_3 l0_4) else (some x5_1)) = some r := H
        have A13 := aK A130
        clear A130
        by_cases c14 : t1088 = true
        ·subst c14
         have H1 : (impl_FirstFalse.l0 k1 l1 (wrap64 (x5_1 + 1)) a0_0 a0_1 a0_2 a0_3 l0_4) = some r := by rw [if_pos rfl] at H; exact H
         clear H
         have H := H1
         clear H1
         have H' := aK H
         clear H
         try go_wp2
         have n0_ := aK (kD BK1084.out)
         have n1_ := aK (bD1 HB.out)
         clear BK1084
         clear HB
         have BK1084 := n0_
         have HB := n1_
         clear n0_ n1_
         have p1086 : 0 ≤ ((ji9) : Int) := of_decide_eq_true (by first | (with_reducible assumption) | assumption)
         have q1086 : (ji9) < (l1.length : Int) := of_decide_eq_true (by first | (with_reducible assumption) | assumption)
         obtain ⟨ad1086, e1086, hx1086_0, hx1086_1⟩ := at_T60 HR1.out (ji9) p1086 q1086
         have hw1086_1 := hx1086_1
         have hw1086_0 := hx1086_0
         cases e1086
         replace hx1086_0 := (HB.out.cell (World.block_lt_of_cell? w _ hx1086_0)).trans hx1086_0
         replace hx1086_1 := (HB.out.cell (World.block_lt_of_cell? w _ hx1086_1)).trans hx1086_1
         replace p1086 := eq_true p1086
         replace q1086 := eq_true q1086
         have p1087 : 0 ≤ (x5_1 : Int) := of_decide_eq_true (by first | (with_reducible assumption) | assumption)
         have q1087 : x5_1 < (l1.length : Int) := of_decide_eq_true (by first | (with_reducible assumption) | assumption)
         obtain ⟨ad1087, e1087, hx1087_0, hx1087_1⟩ := at_T60 HR1.out x5_1 p1087 q1087
         have hw1087_1 := hx1087_1
         have hw1087_0 := hx1087_0
         obtain rfl : ad1086 = ad1087 := (by injection e1087)
         replace hx1087_0 := (HB.out.cell (World.block_lt_of_cell? w _ hx1087_0)).trans hx1087_0
         replace hx1087_1 := (HB.out.cell (World.block_lt_of_cell? w _ hx1087_1)).trans hx1087_1
         replace p1087 := eq_true p1087
         replace q1087 := eq_true q1087
         refine start_ (n := 12) (S := fun w' => w'.cell? ⟨gb1084, 0, none⟩ = some (.int .i64 a0_0) ∧ w'.cell? ⟨gb1084, 1, none⟩ = some (.int .i64 a0_1) ∧ w'.cell? ⟨gb1084, 2, none⟩ = some (.int .i64 a0_2) ∧ w'.cell? ⟨gb1084, 3, none⟩ = some (.int .i64 a0_3) ∧ w'.cell? ⟨gb1084, 4, none⟩ = some (.slice A0_4 l0_4.length c0_4) ∧ w'.cell? (ad1086.add (((ji9)).toNat * 2)) = some (.int .i64 ((rd_Entry l1 (ji9)).f0)) ∧ w'.cell? ⟨(ad1086.add (((ji9)).toNat * 2)).block, (ad1086.add (((ji9)).toNat * 2)).off + 1, none⟩ = some (.int .i64 ((rd_Entry l1 (ji9)).f1)) ∧ w'.cell? (ad1086.add ((x5_1).toNat * 2)) = some (.int .i64 ((rd_Entry l1 x5_1).f0)) ∧ w'.cell? ⟨(ad1086.add ((x5_1).toNat * 2)).block, (ad1086.add ((x5_1).toNat * 2)).off + 1, none⟩ = some (.int .i64 ((rd_Entry l1 x5_1).f1))) (ds := []) #[bN,bN,bN,bN,bN,bN,bN,bN,bN,bN,bN,bN] (by kernel_rfl) rfl rfl ⟨(kC BK1084.out 0).trans rfl, (kC BK1084.out 1).trans rfl, (kC BK1084.out 2).trans rfl, (kC BK1084.out 3).trans rfl, (kC BK1084.out 4).trans rfl, ((HB.out.cell (World.block_lt_of_cell? w _ hw1086_0)).trans hw1086_0), ((HB.out.cell (World.block_lt_of_cell? w _ hw1086_1)).trans hw1086_1), ((HB.out.cell (World.block_lt_of_cell? w _ hw1087_0)).trans hw1087_0), ((HB.out.cell (World.block_lt_of_cell? w _ hw1087_1)).trans hw1087_1)⟩ (fun hHeld => ?_); refine with_tabW impl_FirstFalse.tab6 impl_FirstFalse.bits6 (fun HT_ HW_ => ?_)
         generalize wr.drew = w15 at BK1084 HB hx1086_0 hx1086_1 hx1087_0 hx1087_1 hHeld ⊢
         refine pure_ (i := 1) (N := some 17) (v := ?_) (a' := ?_) #[bN,bY,bN,bN,bN,bN,bN,bN,bN,bN,bN,bN] rfl rfl (any_of HT_.out (by kernel_rfl)) (fun _ _ _ h => h) (Or.inl ⟨by rfl, ?_⟩) ?_ ?_
         rotate_left
         ·intro w'
          go_simp
          with_reducible rfl
         rotate_left
         ·simp only [Act.put, sTA, sZ, sS, i64_w, i32_w]
          rfl
         refine pure_ (i := 2) (N := some 18) (v := ?_) (a' := ?_) #[bN,bY,bY,bN,bN,bN,bN,bN,bN,bN,bN,bN] rfl rfl (any_of HT_.out (by kernel_rfl)) (fun _ _ _ h => h) (Or.inl ⟨by rfl, ?_⟩) ?_ ?_
         rotate_left
         ·intro w'
          go_simp
          with_reducible rfl
         rotate_left
         ·simp only [Act.put, sTA, sZ, sS, i64_w, i32_w]
          rfl
         refine pure_ (i := 3) (N := some 19) (v := ?_) (a' := ?_) #[bN,bY,bY,bY,bN,bN,bN,bN,bN,bN,bN,bN] rfl rfl (any_of HT_.out (by kernel_rfl)) (fun _ _ _ h => h) (Or.inl ⟨by rfl, ?_⟩) ?_ ?_
         rotate_left
         ·intro w'
          go_simp
          with_reducible rfl
         rotate_left
         ·simp only [Act.put, sTA, sZ, sS, i64_w, i32_w]
          rfl
         refine pure_ (i := 4) (N := some 20) (v := ?_) (a' := ?_) #[bN,bY,bY,bY,bY,bN,bN,bN,bN,bN,bN,bN] rfl rfl (any_of HT_.out (by kernel_rfl)) (fun _ _ _ h => h) (Or.inl ⟨by rfl, ?_⟩) ?_ ?_
         rotate_left
         ·intro w'
          go_simp
          with_reducible rfl
         rotate_left
         ·simp only [Act.put, sTA, sZ, sS, i64_w, i32_w]
          rfl
         refine pure_ (i := 6) (N := some 22) (v := ?_) (a' := ?_) #[bN,bY,bY,bY,bY,bN,bY,bN,bN,bN,bN,bN] rfl rfl (any_of HT_.out (by kernel_rfl)) (fun _ _ _ h => h) (Or.inl ⟨by rfl, ?_⟩) ?_ ?_
         rotate_left
         ·intro w'
          go_simp
          with_reducible rfl
         rotate_left
         ·simp only [Act.put, sTA, sZ, sS, i64_w, i32_w]
          rfl
         refine pure_ (i := 7) (N := some 23) (v := ?_) (a' := ?_) #[bN,bY,bY,bY,bY,bN,bY,bY,bN,bN,bN,bN] rfl rfl (any_of HT_.out (by kernel_rfl)) (fun _ _ _ h => h) (Or.inl ⟨by rfl, ?_⟩) ?_ ?_
         rotate_left
         ·intro w'
          go_simp
          with_reducible rfl
         rotate_left
         ·simp only [Act.put, sTA, sZ, sS, i64_w, i32_w]
          rfl
         refine pure_ (i := 8) (N := some 24) (v := ?_) (a' := ?_) #[bN,bY,bY,bY,bY,bN,bY,bY,bY,bN,bN,bN] rfl rfl (any_of HT_.out (by kernel_rfl)) (fun _ _ _ h => h) (Or.inl ⟨by rfl, ?_⟩) ?_ ?_
         rotate_left
         ·intro w'
          go_simp
          with_reducible rfl
         rotate_left
         ·simp only [Act.put, sTA, sZ, sS, i64_w, i32_w]
          rfl
         refine take_ (i := 0) (N := some 16) (v := ?_) (a' := ?_) #[bY,bY,bY,bY,bY,bN,bY,bY,bY,bN,bN,bN] rfl rfl (take_ofW HT_.out HW_.out (by kernel_rfl)) (fun _ _ _ h => h) (Or.inl ⟨by rfl, ?_⟩) hHeld ?_ ?_
         rotate_left
         ·rintro w' ⟨s0, s1, s2, s3, s4, s5, s6, s7, s8⟩
          go_simp
          with_reducible rfl
         rotate_left
         ·simp only [Act.put, sTA, sZ, sS, i64_w, i32_w]
          rfl
         refine take_ (i := 5) (N := some 21) (v := ?_) (a' := ?_) #[bY,bY,bY,bY,bY,bY,bY,bY,bY,bN,bN,bN] rfl rfl (take_ofW HT_.out HW_.out (by kernel_rfl)) (fun _ _ _ h => h) (Or.inl ⟨by rfl, ?_⟩) hHeld ?_ ?_
         rotate_left
         ·rintro w' ⟨s0, s1, s2, s3, s4, s5, s6, s7, s8⟩
          go_simp
          with_reducible rfl
         rotate_left
         ·simp only [Act.put, sTA, sZ, sS, i64_w, i32_w]
          rfl
         refine take_ (i := 9) (N := some 25) (v := ?_) (a' := ?_) #[bY,bY,bY,bY,bY,bY,bY,bY,bY,bY,bN,bN] rfl rfl (take_ofW HT_.out HW_.out (by kernel_rfl)) (fun _ _ _ h => h) (Or.inl ⟨by rfl, ?_⟩) hHeld ?_ ?_
         rotate_left
         ·rintro w' ⟨s0, s1, s2, s3, s4, s5, s6, s7, s8⟩
          go_simp
          with_reducible rfl
         rotate_left
         ·simp only [Act.put, sTA, sZ, sS, i64_w, i32_w]
          rfl
         refine one_ (i := 10) (N := some 26) #[bY,bY,bY,bY,bY,bY,bY,bY,bY,bY,bY,bN] rfl rfl (one_of HT_.out (by kernel_rfl)) (by decide) (fun K hK => ?_)
         refine goes_ Try.func38 (by kernel_rfl) rfl #[.agg #[.int .i64 a0_0, .int .i64 a0_1, .int .i64 a0_2, .int .i64 a0_3, .slice A0_4 l0_4.length c0_4], .agg #[.int .i64 ((rd_Entry l1 (ji9)).f0), .int .i64 ((rd_Entry l1 (ji9)).f1)], .agg #[.int .i64 ((rd_Entry l1 x5_1).f0), .int .i64 ((rd_Entry l1 x5_1).f1)]] (by rfl) rfl rfl (by (try simp only [List.map_toArray, List.map_cons, List.map_nil]); first | done | (simp only [hji9]; rfl) | rfl | (simp only [List.length_drop, List.length_take]; rfl)) ?_
         with_reducible refine (impl_CanFollow.calls a0_0 a0_1 a0_2 a0_3 _ _ l0_4 ((rd_Entry l1 (ji9)).f0) ((rd_Entry l1 (ji9)).f1) ((rd_Entry l1 x5_1).f0) ((rd_Entry l1 x5_1).f1) true _ ?side1 ?side2 A13.out).mono ?_
         (case side1 => repeat (first | exact (Kd.C_below HR0_4.out HB.out) | (with_reducible refine Kd.C_alloc ?_ _) | (with_reducible refine Kd.C_drewN ?_ _) | (with_reducible refine Kd.C_drew ?_)))
         (case side2 => exact HC0_4.out)
         rintro e w16 ⟨rfl, hb⟩
         refine ⟨_, rfl, ?_⟩
         have n0_ := bkb BK1084 hb (by intro z_; (with_reducible repeat (first | refine kDN ?_ _ | refine kD ?_ | refine kA ?_ _)); exact z_)
         have n1_ := aK (bSp (by repeat (first | (with_reducible first | exact HB.out | apply bAl | apply bDN | apply bD1 | refine bSt ?_ GE1084.out) | exact HB.out)) hb)
         clear BK1084
         clear HB
         have BK1084 := n0_
         have HB := n1_
         clear n0_ n1_
         (try clear hb)
         (try clear hb2)
         (try clear hk)
         (try clear hi)
         refine hK.out _ _ ⟨(kC BK1084.out 0).trans rfl, (kC BK1084.out 1).trans rfl, (kC BK1084.out 2).trans rfl, (kC BK1084.out 3).trans rfl, (kC BK1084.out 4).trans rfl, ((HB.out.cell (World.block_lt_of_cell? w _ hw1086_0)).trans hw1086_0), ((HB.out.cell (World.block_lt_of_cell? w _ hw1086_1)).trans hw1086_1), ((HB.out.cell (World.block_lt_of_cell? w _ hw1087_0)).trans hw1087_0), ((HB.out.cell (World.block_lt_of_cell? w _ hw1087_1)).trans hw1087_1)⟩ (fun hHeld => ?_)
         clear hK K
         refine norm_ (a' := ?_) ?_ ?_
         rotate_left
         ·show Act.put _ (some 26) _ = _
          simp only [Act.put, sTA, sZ, sS, i64_w, i32_w]
          rfl
         refine pure_ (i := 11) (N := some 27) (v := ?_) (a' := ?_) #[bY,bY,bY,bY,bY,bY,bY,bY,bY,bY,bY,bY] rfl rfl (any_of HT_.out (by kernel_rfl)) (fun _ _ _ h => h) (Or.inl ⟨by rfl, ?_⟩) ?_ ?_
         rotate_left
         ·intro w'
          go_simp
          with_reducible rfl
         rotate_left
         ·simp only [Act.put, sTA, sZ, sS, i64_w, i32_w]
          rfl
         refine done_ (done_of HT_.out (by kernel_rfl)) ?_
         try go_wp2
         go_roundg k1
         case measure => have := HK1.out; omega
         case rel => exact ⟨(wrap64 (x5_1 + 1)), (by first | rfl | (simp; done) | (simp [*]; done)), H', ⟨by have := HK1.out; omega⟩, ⟨by (with_reducible repeat (first | refine kDN ?_ _ | refine kD ?_ | refine kA ?_ _)); exact BK1084.out⟩, ⟨by repeat (first | (with_reducible first | exact HB.out | apply bAl | apply bDN | apply bD1 | refine bSt ?_ GE1084.out) | exact HB.out)⟩⟩
        ·replace c14 := Bool.eq_false_iff.mpr c14
         subst c14
         have H1 : (some x5_1) = some r := by rw [if_neg (show ¬ (false = true) by decide)] at H; exact H
         clear H
         have H := H1
         clear H1
         obtain rfl := Option.some.inj H
         try go_wp2
         have n0_ := aK (kD BK1084.out)
         have n1_ := aK (bD1 HB.out)
         clear BK1084
         clear HB
         have BK1084 := n0_
         have HB := n1_
         clear n0_ n1_
         have p1086 : 0 ≤ ((ji9) : Int) := of_decide_eq_true (by first | (with_reducible assumption) | assumption)
         have q1086 : (ji9) < (l1.length : Int) := of_decide_eq_true (by first | (with_reducible assumption) | assumption)
         obtain ⟨ad1086, e1086, hx1086_0, hx1086_1⟩ := at_T60 HR1.out (ji9) p1086 q1086
         have hw1086_1 := hx1086_1
         have hw1086_0 := hx1086_0
         cases e1086
         replace hx1086_0 := (HB.out.cell (World.block_lt_of_cell? w _ hx1086_0)).trans hx1086_0
         replace hx1086_1 := (HB.out.cell (World.block_lt_of_cell? w _ hx1086_1)).trans hx1086_1
         replace p1086 := eq_true p1086
         replace q1086 := eq_true q1086
         have p1087 : 0 ≤ (x5_1 : Int) := of_decide_eq_true (by first | (with_reducible assumption) | assumption)
         have q1087 : x5_1 < (l1.length : Int) := of_decide_eq_true (by first | (with_reducible assumption) | assumption)
         obtain ⟨ad1087, e1087, hx1087_0, hx1087_1⟩ := at_T60 HR1.out x5_1 p1087 q1087
         have hw1087_1 := hx1087_1
         have hw1087_0 := hx1087_0
         obtain rfl : ad1086 = ad1087 := (by injection e1087)
         replace hx1087_0 := (HB.out.cell (World.block_lt_of_cell? w _ hx1087_0)).trans hx1087_0
         replace hx1087_1 := (HB.out.cell (World.block_lt_of_cell? w _ hx1087_1)).trans hx1087_1
         replace p1087 := eq_true p1087
         replace q1087 := eq_true q1087
         refine start_ (n := 12) (S := fun w' => w'.cell? ⟨gb1084, 0, none⟩ = some (.int .i64 a0_0) ∧ w'.cell? ⟨gb1084, 1, none⟩ = some (.int .i64 a0_1) ∧ w'.cell? ⟨gb1084, 2, none⟩ = some (.int .i64 a0_2) ∧ w'.cell? ⟨gb1084, 3, none⟩ = some (.int .i64 a0_3) ∧ w'.cell? ⟨gb1084, 4, none⟩ = some (.slice A0_4 l0_4.length c0_4) ∧ w'.cell? (ad1086.add (((ji9)).toNat * 2)) = some (.int .i64 ((rd_Entry l1 (ji9)).f0)) ∧ w'.cell? ⟨(ad1086.add (((ji9)).toNat * 2)).block, (ad1086.add (((ji9)).toNat * 2)).off + 1, none⟩ = some (.int .i64 ((rd_Entry l1 (ji9)).f1)) ∧ w'.cell? (ad1086.add ((x5_1).toNat * 2)) = some (.int .i64 ((rd_Entry l1 x5_1).f0)) ∧ w'.cell? ⟨(ad1086.add ((x5_1).toNat * 2)).block, (ad1086.add ((x5_1).toNat * 2)).off + 1, none⟩ = some (.int .i64 ((rd_Entry l1 x5_1).f1))) (ds := []) #[bN,bN,bN,bN,bN,bN,bN,bN,bN,bN,bN,bN] (by kernel_rfl) rfl rfl ⟨(kC BK1084.out 0).trans rfl, (kC BK1084.out 1).trans rfl, (kC BK1084.out 2).trans rfl, (kC BK1084.out 3).trans rfl, (kC BK1084.out 4).trans rfl, ((HB.out.cell (World.block_lt_of_cell? w _ hw1086_0)).trans hw1086_0), ((HB.out.cell (World.block_lt_of_cell? w _ hw1086_1)).trans hw1086_1), ((HB.out.cell (World.block_lt_of_cell? w _ hw1087_0)).trans hw1087_0), ((HB.out.cell (World.block_lt_of_cell? w _ hw1087_1)).trans hw1087_1)⟩ (fun hHeld => ?_); refine with_tabW impl_FirstFalse.tab6 impl_FirstFalse.bits6 (fun HT_ HW_ => ?_)
         generalize wr.drew = w17 at BK1084 HB hx1086_0 hx1086_1 hx1087_0 hx1087_1 hHeld ⊢
         refine pure_ (i := 1) (N := some 17) (v := ?_) (a' := ?_) #[bN,bY,bN,bN,bN,bN,bN,bN,bN,bN,bN,bN] rfl rfl (any_of HT_.out (by kernel_rfl)) (fun _ _ _ h => h) (Or.inl ⟨by rfl, ?_⟩) ?_ ?_
         rotate_left
         ·intro w'
          go_simp
          with_reducible rfl
         rotate_left
         ·simp only [Act.put, sTA, sZ, sS, i64_w, i32_w]
          rfl
         refine pure_ (i := 2) (N := some 18) (v := ?_) (a' := ?_) #[bN,bY,bY,bN,bN,bN,bN,bN,bN,bN,bN,bN] rfl rfl (any_of HT_.out (by kernel_rfl)) (fun _ _ _ h => h) (Or.inl ⟨by rfl, ?_⟩) ?_ ?_
         rotate_left
         ·intro w'
          go_simp
          with_reducible rfl
         rotate_left
         ·simp only [Act.put, sTA, sZ, sS, i64_w, i32_w]
          rfl
         refine pure_ (i := 3) (N := some 19) (v := ?_) (a' := ?_) #[bN,bY,bY,bY,bN,bN,bN,bN,bN,bN,bN,bN] rfl rfl (any_of HT_.out (by kernel_rfl)) (fun _ _ _ h => h) (Or.inl ⟨by rfl, ?_⟩) ?_ ?_
         rotate_left
         ·intro w'
          go_simp
          with_reducible rfl
         rotate_left
         ·simp only [Act.put, sTA, sZ, sS, i64_w, i32_w]
          rfl
         refine pure_ (i := 4) (N := some 20) (v := ?_) (a' := ?_) #[bN,bY,bY,bY,bY,bN,bN,bN,bN,bN,bN,bN] rfl rfl (any_of HT_.out (by kernel_rfl)) (fun _ _ _ h => h) (Or.inl ⟨by rfl, ?_⟩) ?_ ?_
         rotate_left
         ·intro w'
          go_simp
          with_reducible rfl
         rotate_left
         ·simp only [Act.put, sTA, sZ, sS, i64_w, i32_w]
          rfl
         refine pure_ (i := 6) (N := some 22) (v := ?_) (a' := ?_) #[bN,bY,bY,bY,bY,bN,bY,bN,bN,bN,bN,bN] rfl rfl (any_of HT_.out (by kernel_rfl)) (fun _ _ _ h => h) (Or.inl ⟨by rfl, ?_⟩) ?_ ?_
         rotate_left
         ·intro w'
          go_simp
          with_reducible rfl
         rotate_left
         ·simp only [Act.put, sTA, sZ, sS, i64_w, i32_w]
          rfl
         refine pure_ (i := 7) (N := some 23) (v := ?_) (a' := ?_) #[bN,bY,bY,bY,bY,bN,bY,bY,bN,bN,bN,bN] rfl rfl (any_of HT_.out (by kernel_rfl)) (fun _ _ _ h => h) (Or.inl ⟨by rfl, ?_⟩) ?_ ?_
         rotate_left
         ·intro w'
          go_simp
          with_reducible rfl
         rotate_left
         ·simp only [Act.put, sTA, sZ, sS, i64_w, i32_w]
          rfl
         refine pure_ (i := 8) (N := some 24) (v := ?_) (a' := ?_) #[bN,bY,bY,bY,bY,bN,bY,bY,bY,bN,bN,bN] rfl rfl (any_of HT_.out (by kernel_rfl)) (fun _ _ _ h => h) (Or.inl ⟨by rfl, ?_⟩) ?_ ?_
         rotate_left
         ·intro w'
          go_simp
          with_reducible rfl
         rotate_left
         ·simp only [Act.put, sTA, sZ, sS, i64_w, i32_w]
          rfl
         refine take_ (i := 0) (N := some 16) (v := ?_) (a' := ?_) #[bY,bY,bY,bY,bY,bN,bY,bY,bY,bN,bN,bN] rfl rfl (take_ofW HT_.out HW_.out (by kernel_rfl)) (fun _ _ _ h => h) (Or.inl ⟨by rfl, ?_⟩) hHeld ?_ ?_
         rotate_left
         ·rintro w' ⟨s0, s1, s2, s3, s4, s5, s6, s7, s8⟩
          go_simp
          with_reducible rfl
         rotate_left
         ·simp only [Act.put, sTA, sZ, sS, i64_w, i32_w]
          rfl
         refine take_ (i := 5) (N := some 21) (v := ?_) (a' := ?_) #[bY,bY,bY,bY,bY,bY,bY,bY,bY,bN,bN,bN] rfl rfl (take_ofW HT_.out HW_.out (by kernel_rfl)) (fun _ _ _ h => h) (Or.inl ⟨by rfl, ?_⟩) hHeld ?_ ?_
         rotate_left
         ·rintro w' ⟨s0, s1, s2, s3, s4, s5, s6, s7, s8⟩
          go_simp
          with_reducible rfl
         rotate_left
         ·simp only [Act.put, sTA, sZ, sS, i64_w, i32_w]
          rfl
         refine take_ (i := 9) (N := some 25) (v := ?_) (a' := ?_) #[bY,bY,bY,bY,bY,bY,bY,bY,bY,bY,bN,bN] rfl rfl (take_ofW HT_.out HW_.out (by kernel_rfl)) (fun _ _ _ h => h) (Or.inl ⟨by rfl, ?_⟩) hHeld ?_ ?_
         rotate_left
         ·rintro w' ⟨s0, s1, s2, s3, s4, s5, s6, s7, s8⟩
          go_simp
          with_reducible rfl
         rotate_left
         ·simp only [Act.put, sTA, sZ, sS, i64_w, i32_w]
          rfl
         refine one_ (i := 10) (N := some 26) #[bY,bY,bY,bY,bY,bY,bY,bY,bY,bY,bY,bN] rfl rfl (one_of HT_.out (by kernel_rfl)) (by decide) (fun K hK => ?_)
         refine goes_ Try.func38 (by kernel_rfl) rfl #[.agg #[.int .i64 a0_0, .int .i64 a0_1, .int .i64 a0_2, .int .i64 a0_3, .slice A0_4 l0_4.length c0_4], .agg #[.int .i64 ((rd_Entry l1 (ji9)).f0), .int .i64 ((rd_Entry l1 (ji9)).f1)], .agg #[.int .i64 ((rd_Entry l1 x5_1).f0), .int .i64 ((rd_Entry l1 x5_1).f1)]] (by rfl) rfl rfl (by (try simp only [List.map_toArray, List.map_cons, List.map_nil]); first | done | (simp only [hji9]; rfl) | rfl | (simp only [List.length_drop, List.length_take]; rfl)) ?_
         with_reducible refine (impl_CanFollow.calls a0_0 a0_1 a0_2 a0_3 _ _ l0_4 ((rd_Entry l1 (ji9)).f0) ((rd_Entry l1 (ji9)).f1) ((rd_Entry l1 x5_1).f0) ((rd_Entry l1 x5_1).f1) false _ ?side1 ?side2 A13.out).mono ?_
         (case side1 => repeat (first | exact (Kd.C_below HR0_4.out HB.out) | (with_reducible refine Kd.C_alloc ?_ _) | (with_reducible refine Kd.C_drewN ?_ _) | (with_reducible refine Kd.C_drew ?_)))
         (case side2 => exact HC0_4.out)
         rintro e w18 ⟨rfl, hb⟩
         refine ⟨_, rfl, ?_⟩
         have n0_ := bkb BK1084 hb (by intro z_; (with_reducible repeat (first | refine kDN ?_ _ | refine kD ?_ | refine kA ?_ _)); exact z_)
         have n1_ := aK (bSp (by repeat (first | (with_reducible first | exact HB.out | apply bAl | apply bDN | apply bD1 | refine bSt ?_ GE1084.out) | exact HB.out)) hb)
         clear BK1084
         clear HB
         have BK1084 := n0_
         have HB := n1_
         clear n0_ n1_
         (try clear hb)
         (try clear hb2)
         (try clear hk)
         (try clear hi)
         refine hK.out _ _ ⟨(kC BK1084.out 0).trans rfl, (kC BK1084.out 1).trans rfl, (kC BK1084.out 2).trans rfl, (kC BK1084.out 3).trans rfl, (kC BK1084.out 4).trans rfl, ((HB.out.cell (World.block_lt_of_cell? w _ hw1086_0)).trans hw1086_0), ((HB.out.cell (World.block_lt_of_cell? w _ hw1086_1)).trans hw1086_1), ((HB.out.cell (World.block_lt_of_cell? w _ hw1087_0)).trans hw1087_0), ((HB.out.cell (World.block_lt_of_cell? w _ hw1087_1)).trans hw1087_1)⟩ (fun hHeld => ?_)
         clear hK K
         refine norm_ (a' := ?_) ?_ ?_
         rotate_left
         ·show Act.put _ (some 26) _ = _
          simp only [Act.put, sTA, sZ, sS, i64_w, i32_w]
          rfl
         refine pure_ (i := 11) (N := some 27) (v := ?_) (a' := ?_) #[bY,bY,bY,bY,bY,bY,bY,bY,bY,bY,bY,bY] rfl rfl (any_of HT_.out (by kernel_rfl)) (fun _ _ _ h => h) (Or.inl ⟨by rfl, ?_⟩) ?_ ?_
         rotate_left
         ·intro w'
          go_simp
          with_reducible rfl
         rotate_left
         ·simp only [Act.put, sTA, sZ, sS, i64_w, i32_w]
          rfl
         refine done_ (done_of HT_.out (by kernel_rfl)) ?_
         try go_wp2
         go_ret
         exact ⟨by first | rfl | (simp [errW_none, errW_some] <;> rfl) | (simp only [← hji9]; first | rfl | (simp [errW_none, errW_some] <;> rfl)) | (simp [*, errW_none, errW_some] <;> rfl), by repeat (first | (with_reducible first | exact HB.out | apply bAl | apply bDN | apply bD1 | refine bSt ?_ GE1084.out) | exact HB.out)⟩
       ·rw [if_neg c12] at H
        exact absurd H (by simp)
      ·rw [if_neg c11] at H
       exact absurd H (by simp)
     ·rw [if_neg c10] at H
      exact absurd H (by simp)
    ·rw [if_neg c8] at H
     have c8b0 : decide (x5_1 < (l1.length : Int)) = false := decide_eq_false c8
     clear c8
     obtain rfl := Option.some.inj H
     go_wp2
     go_ret
     exact ⟨by first | rfl | (simp [errW_none, errW_some] <;> rfl) | (simp [*, errW_none, errW_some] <;> rfl), by repeat (first | (with_reducible first | exact HB.out | apply bAl | apply bDN | apply bD1 | refine bSt ?_ GE1084.out) | exact HB.out)⟩
 ·replace c4 := Bool.eq_false_iff.mpr c4
  subst c4
  have H1 : (some (-1)) = some r := by rw [if_neg (show ¬ (false = true) by decide)] at H; exact H
  clear H
  have H := H1
  clear H1
  obtain rfl := Option.some.inj H
  go_enter Try.func53, Try.ntmps53
  go_wp2_with (first | ((with_reducible refine gate_dst (N := 2) rfl ?_); refine box_event ?hg (N := 2) ?hd (cs := #[.int .i64 a0_0, .int .i64 a0_1, .int .i64 a0_2, .int .i64 a0_3, .slice A0_4 l0_4.length c0_4]) (t := 58) ?hr ?_; (case hd => rfl); (case hg => rfl); (case hr => first | (go_simp; done) | (go_simp; rfl)); intro gb1084 hg w19 hbox hb; have n0_ := aK (bSp (by repeat (first | (with_reducible first | exact HB.out | apply bAl | apply bDN | apply bD1) | exact HB.out)) hb); have n1_ := aK (hbox); have n2_ := aK ((by rw [hg]; exact (bSz (by repeat (first | (with_reducible first | exact HB.out | apply bAl | apply bDN | apply bD1) | exact HB.out))) : w.heap.size ≤ gb1084)); have n3_ := n2_; clear HB; have HB := n0_; have BK1084 := n1_; have GW1084 := n2_; have GE1084 := n3_; clear n0_ n1_ n2_ n3_; clear hb hbox hg; obtain ⟨hcz20_0, hcz20_1, hcz20_2, hcz20_3, hcz20_4, hfz20_0, hfz20_1, hfz20_2, hfz20_3, hfz20_4⟩ := cl5 BK1084.out) | ((with_reducible refine gate_callee (f := 104) rfl ?_); refine goesL_ (some 8) rfl rfl Try.func104 (by kernel_rfl) rfl #[.agg #[.int .i64 a0_0, .int .i64 a0_1, .int .i64 a0_2, .int .i64 a0_3, .slice A0_4 l0_4.length c0_4], .slice A1 l1.length c1] rfl (by (try simp only [List.map_toArray, List.map_cons, List.map_nil]); first | done | rfl | (simp only [List.length_drop, List.length_take]; rfl)) ?_; (with_reducible refine (impl_RecordOk.calls k a0_0 a0_1 a0_2 a0_3 _ _ l0_4 _ _ l1 false _ ?side1 ?side2 ?side3 ?side4 A3.out).mono ?_); (case side1 => repeat (first | exact (Kd.C_below HR0_4.out HB.out) | (with_reducible refine Kd.C_alloc ?_ _) | (with_reducible refine Kd.C_drewN ?_ _) | (with_reducible refine Kd.C_drew ?_))); (case side2 => exact HC0_4.out); (case side3 => repeat (first | exact (Kd.C_below HR1.out HB.out) | (with_reducible refine Kd.C_alloc ?_ _) | (with_reducible refine Kd.C_drewN ?_ _) | (with_reducible refine Kd.C_drew ?_))); (case side4 => exact HC1.out); rintro e w21 ⟨rfl, hb⟩; refine ⟨_, rfl, ?_⟩; have n0_ := bkb BK1084 hb (by intro z_; (with_reducible repeat (first | refine kDN ?_ _ | refine kD ?_ | refine kA ?_ _)); exact z_); have n1_ := aK (bSp (by repeat (first | (with_reducible first | exact HB.out | apply bAl | apply bDN | apply bD1 | refine bSt ?_ GE1084.out) | exact HB.out)) hb); clear BK1084; clear HB; have BK1084 := n0_; have HB := n1_; clear n0_ n1_; (try clear hb); (try clear hb2); (try clear hk); (try clear hi)))
  go_ret
  exact ⟨by first | rfl | (simp [errW_none, errW_some] <;> rfl) | (simp [*, errW_none, errW_some] <;> rfl), by repeat (first | (with_reducible first | exact HB.out | apply bAl | apply bDN | apply bD1 | refine bSt ?_ GE1084.out) | exact HB.out)⟩
set_option maxHeartbeats 8000000 in
set_option maxRecDepth 100000 in
theorem laws_eqEntry.calls (a0_0 : Int) (a0_1 : Int) (a1_0 : Int) (a1_1 : Int) (r : Bool) (w : World) (h : laws_eqEntry.f a0_0 a0_1 a1_0 a1_1 = some r) :
  Calls Try.prog 105 #[.agg #[.int .i64 a0_0, .int .i64 a0_1], .agg #[.int .i64 a1_0, .int .i64 a1_1]] w fun e w' => e = .returned (.bool r) ∧ Below w.heap.size w w' := by
 have hu60 := Try.underlying60
 have HB := aK (Below.refl w.heap.size w)
 have H : (if a0_0 = a1_0 then (if a0_1 = a1_1 then (some true) else (some false)) else (some false)) = some r := h
 clear h
 by_cases c3 : a0_0 = a1_0
 ·rw [if_pos c3] at H
  have c3b0 : (a0_0 == a1_0) = true := beq_iff_eq.mpr c3
  have c3b1 : (a0_0 != a1_0) = false := bne_eq_false_iff_eq.mpr c3
  clear c3
  by_cases c4 : a0_1 = a1_1
  ·rw [if_pos c4] at H
   have c4b0 : (a0_1 == a1_1) = true := beq_iff_eq.mpr c4
   have c4b1 : (a0_1 != a1_1) = false := bne_eq_false_iff_eq.mpr c4
   clear c4
   obtain rfl := Option.some.inj H
   go_enter Try.func105, Try.ntmps105
   go_wp2_with (first | ((with_reducible refine gate_dst (N := 2) rfl ?_); refine box_event ?hg (N := 2) ?hd (cs := #[.int .i64 a0_0, .int .i64 a0_1]) (t := 60) ?hr ?_; (case hd => rfl); (case hg => rfl); (case hr => first | (go_simp; done) | (go_simp; rfl)); intro gb1089 hg w5 hbox hb; have n0_ := aK (bSp (by repeat (first | (with_reducible first | exact HB.out | apply bAl | apply bDN | apply bD1) | exact HB.out)) hb); have n1_ := aK (hbox); have n2_ := aK ((by rw [hg]; exact (bSz (by repeat (first | (with_reducible first | exact HB.out | apply bAl | apply bDN | apply bD1) | exact HB.out))) : w.heap.size ≤ gb1089)); have n3_ := n2_; clear HB; have HB := n0_; have BK1089 := n1_; have GW1089 := n2_; have GE1089 := n3_; clear n0_ n1_ n2_ n3_; clear hb hbox hg) | ((with_reducible refine gate_dst (N := 3) rfl ?_); refine box_event ?hg (N := 3) ?hd (cs := #[.int .i64 a1_0, .int .i64 a1_1]) (t := 60) ?hr ?_; (case hd => rfl); (case hg => rfl); (case hr => first | (go_simp; done) | (go_simp; rfl)); intro gb1090 hg w6 hbox hb; have n0_ := bkb BK1089 hb (by intro z_; (with_reducible repeat (first | refine kDN ?_ _ | refine kD ?_ | refine kA ?_ _)); exact z_); have n1_ := aK (bSp (by repeat (first | (with_reducible first | exact HB.out | apply bAl | apply bDN | apply bD1 | refine bSt ?_ GE1089.out) | exact HB.out)) hb); have n2_ := aK (hbox); have n3_ := aK ((by rw [hg]; exact (bSz (by repeat (first | (with_reducible first | exact HB.out | apply bAl | apply bDN | apply bD1 | refine bSt ?_ GE1089.out) | exact HB.out))) : w.heap.size ≤ gb1090)); have n4_ := n3_; have n5_ := nbl BK1089 hg (by intro z_; (with_reducible repeat (first | refine kDN ?_ _ | refine kD ?_ | refine kA ?_ _)); exact z_); have n6_ := nbs n5_; clear BK1089; clear HB; have BK1089 := n0_; have HB := n1_; have BK1090 := n2_; have GW1090 := n3_; have GE1090 := n4_; have NB1089_1090 := n5_; have NB1090_1089 := n6_; clear n0_ n1_ n2_ n3_ n4_ n5_ n6_; clear hb hbox hg; have hnb7 := NB1089_1090.out; have hnc7 := NB1090_1089.out; obtain ⟨hcz8_0, hcz8_1, hfz8_0, hfz8_1⟩ := cl2 BK1089.out; obtain ⟨hcz9_0, hcz9_1, hfz9_0, hfz9_1⟩ := cl2 BK1090.out))
   go_ret
   exact ⟨by first | rfl | (simp [errW_none, errW_some] <;> rfl) | (simp [*, errW_none, errW_some] <;> rfl), by repeat (first | (with_reducible first | exact HB.out | apply bAl | apply bDN | apply bD1 | refine bSt ?_ GE1089.out | refine bSt ?_ GE1090.out) | exact HB.out)⟩
  ·rw [if_neg c4] at H
   have c4b0 : (a0_1 == a1_1) = false := beq_eq_false_iff_ne.mpr c4
   have c4b1 : (a0_1 != a1_1) = true := bne_iff_ne.mpr c4
   obtain rfl := Option.some.inj H
   go_enter Try.func105, Try.ntmps105
   go_wp2_with (first | ((with_reducible refine gate_dst (N := 2) rfl ?_); refine box_event ?hg (N := 2) ?hd (cs := #[.int .i64 a0_0, .int .i64 a0_1]) (t := 60) ?hr ?_; (case hd => rfl); (case hg => rfl); (case hr => first | (go_simp; done) | (go_simp; rfl)); intro gb1089 hg w10 hbox hb; have n0_ := aK (bSp (by repeat (first | (with_reducible first | exact HB.out | apply bAl | apply bDN | apply bD1) | exact HB.out)) hb); have n1_ := aK (hbox); have n2_ := aK ((by rw [hg]; exact (bSz (by repeat (first | (with_reducible first | exact HB.out | apply bAl | apply bDN | apply bD1) | exact HB.out))) : w.heap.size ≤ gb1089)); have n3_ := n2_; clear HB; have HB := n0_; have BK1089 := n1_; have GW1089 := n2_; have GE1089 := n3_; clear n0_ n1_ n2_ n3_; clear hb hbox hg) | ((with_reducible refine gate_dst (N := 3) rfl ?_); refine box_event ?hg (N := 3) ?hd (cs := #[.int .i64 a1_0, .int .i64 a1_1]) (t := 60) ?hr ?_; (case hd => rfl); (case hg => rfl); (case hr => first | (go_simp; done) | (go_simp; rfl)); intro gb1090 hg w11 hbox hb; have n0_ := bkb BK1089 hb (by intro z_; (with_reducible repeat (first | refine kDN ?_ _ | refine kD ?_ | refine kA ?_ _)); exact z_); have n1_ := aK (bSp (by repeat (first | (with_reducible first | exact HB.out | apply bAl | apply bDN | apply bD1 | refine bSt ?_ GE1089.out) | exact HB.out)) hb); have n2_ := aK (hbox); have n3_ := aK ((by rw [hg]; exact (bSz (by repeat (first | (with_reducible first | exact HB.out | apply bAl | apply bDN | apply bD1 | refine bSt ?_ GE1089.out) | exact HB.out))) : w.heap.size ≤ gb1090)); have n4_ := n3_; have n5_ := nbl BK1089 hg (by intro z_; (with_reducible repeat (first | refine kDN ?_ _ | refine kD ?_ | refine kA ?_ _)); exact z_); have n6_ := nbs n5_; clear BK1089; clear HB; have BK1089 := n0_; have HB := n1_; have BK1090 := n2_; have GW1090 := n3_; have GE1090 := n4_; have NB1089_1090 := n5_; have NB1090_1089 := n6_; clear n0_ n1_ n2_ n3_ n4_ n5_ n6_; clear hb hbox hg; have hnb12 := NB1089_1090.out; have hnc12 := NB1090_1089.out; obtain ⟨hcz13_0, hcz13_1, hfz13_0, hfz13_1⟩ := cl2 BK1089.out; obtain ⟨hcz14_0, hcz14_1, hfz14_0, hfz14_1⟩ := cl2 BK1090.out))
   go_ret
   exact ⟨by first | rfl | (simp [errW_none, errW_some] <;> rfl) | (simp [*, errW_none, errW_some] <;> rfl), by repeat (first | (with_reducible first | exact HB.out | apply bAl | apply bDN | apply bD1 | refine bSt ?_ GE1089.out | refine bSt ?_ GE1090.out) | exact HB.out)⟩
 ·rw [if_neg c3] at H
  have c3b0 : (a0_0 == a1_0) = false := beq_eq_false_iff_ne.mpr c3
  have c3b1 : (a0_0 != a1_0) = true := bne_iff_ne.mpr c3
  obtain rfl := Option.some.inj H
  go_enter Try.func105, Try.ntmps105
  go_wp2_with (first | ((with_reducible refine gate_dst (N := 2) rfl ?_); refine box_event ?hg (N := 2) ?hd (cs := #[.int .i64 a0_0, .int .i64 a0_1]) (t := 60) ?hr ?_; (case hd => rfl); (case hg => rfl); (case hr => first | (go_simp; done) | (go_simp; rfl)); intro gb1089 hg w15 hbox hb; have n0_ := aK (bSp (by repeat (first | (with_reducible first | exact HB.out | apply bAl | apply bDN | apply bD1) | exact HB.out)) hb); have n1_ := aK (hbox); have n2_ := aK ((by rw [hg]; exact (bSz (by repeat (first | (with_reducible first | exact HB.out | apply bAl | apply bDN | apply bD1) | exact HB.out))) : w.heap.size ≤ gb1089)); have n3_ := n2_; clear HB; have HB := n0_; have BK1089 := n1_; have GW1089 := n2_; have GE1089 := n3_; clear n0_ n1_ n2_ n3_; clear hb hbox hg) | ((with_reducible refine gate_dst (N := 3) rfl ?_); refine box_event ?hg (N := 3) ?hd (cs := #[.int .i64 a1_0, .int .i64 a1_1]) (t := 60) ?hr ?_; (case hd => rfl); (case hg => rfl); (case hr => first | (go_simp; done) | (go_simp; rfl)); intro gb1090 hg w16 hbox hb; have n0_ := bkb BK1089 hb (by intro z_; (with_reducible repeat (first | refine kDN ?_ _ | refine kD ?_ | refine kA ?_ _)); exact z_); have n1_ := aK (bSp (by repeat (first | (with_reducible first | exact HB.out | apply bAl | apply bDN | apply bD1 | refine bSt ?_ GE1089.out) | exact HB.out)) hb); have n2_ := aK (hbox); have n3_ := aK ((by rw [hg]; exact (bSz (by repeat (first | (with_reducible first | exact HB.out | apply bAl | apply bDN | apply bD1 | refine bSt ?_ GE1089.out) | exact HB.out))) : w.heap.size ≤ gb1090)); have n4_ := n3_; have n5_ := nbl BK1089 hg (by intro z_; (with_reducible repeat (first | refine kDN ?_ _ | refine kD ?_ | refine kA ?_ _)); exact z_); have n6_ := nbs n5_; clear BK1089; clear HB; have BK1089 := n0_; have HB := n1_; have BK1090 := n2_; have GW1090 := n3_; have GE1090 := n4_; have NB1089_1090 := n5_; have NB1090_1089 := n6_; clear n0_ n1_ n2_ n3_ n4_ n5_ n6_; clear hb hbox hg; have hnb17 := NB1089_1090.out; have hnc17 := NB1090_1089.out; obtain ⟨hcz18_0, hcz18_1, hfz18_0, hfz18_1⟩ := cl2 BK1089.out; obtain ⟨hcz19_0, hcz19_1, hfz19_0, hfz19_1⟩ := cl2 BK1090.out))
  go_ret
  exact ⟨by first | rfl | (simp [errW_none, errW_some] <;> rfl) | (simp [*, errW_none, errW_some] <;> rfl), by repeat (first | (with_reducible first | exact HB.out | apply bAl | apply bDN | apply bD1 | refine bSt ?_ GE1089.out | refine bSt ?_ GE1090.out) | exact HB.out)⟩
def laws_eqEntryS.T6 : Bool × List (List Nat × List Nat) := (true, [([], []), ([], []), ([0, 1], [0, 1]), ([2], [2]), ([], []), ([], []), ([4, 5], [4, 5]), ([6], [6]), ([3, 7], [3, 7]), ([8], [8])])
def laws_eqEntryS.B6 : List Nat := [0, 0, 3, 7, 0, 0, 48, 112, 255, 511]
theorem laws_eqEntryS.tab6 : rtab .any (opsOf Try.f54 6) = laws_eqEntryS.T6 := by kernel_rfl
theorem laws_eqEntryS.bits6 : waitsOk laws_eqEntryS.T6.2 laws_eqEntryS.B6 = true := by kernel_rfl
set_option maxHeartbeats 8000000 in
set_option maxRecDepth 100000 in
theorem laws_eqEntryS.calls (k : Nat) (A0 : Option Addr) (c0 : Nat) (l0 : List (SEntry)) (A1 : Option Addr) (c1 : Nat) (l1 : List (SEntry)) (r : Bool) (w : World) (hr0 : Kd.C k60 w A0 l0.length l0) (hc0 : l0.length ≤ c0) (hr1 : Kd.C k60 w A1 l1.length l1) (hc1 : l1.length ≤ c1) (h : laws_eqEntryS.f k l0 l1 = some r) :
  Calls Try.prog 54 #[.slice A0 l0.length c0, .slice A1 l1.length c1] w fun e w' => e = .returned (.bool r) ∧ Below w.heap.size w w' := by
 have hu60 := Try.underlying60
 have HR0 := aK hr0
 have HC0 := aK hc0
 clear hr0 hc0
 have HR1 := aK hr1
 have HC1 := aK hc1
 clear hr1 hc1
 have HB := aK (Below.refl w.heap.size w)
 have H : (if (l0.length : Int) = (l1.length : Int) then (laws_eqEntryS.l0 k l0 l1 0) else (some false)) = some r := h
 clear h
 by_cases c3 : (l0.length : Int) = (l1.length : Int)
 ·rw [if_pos c3] at H
  have c3b0 : ((l0.length : Int) == (l1.length : Int)) = true := beq_iff_eq.mpr c3
  have c3b1 : ((l0.length : Int) != (l1.length : Int)) = false := bne_eq_false_iff_eq.mpr c3
  have c3b2 : (l0.length == l1.length) = true := by first | simpa using c3 | (simp at c3 ⊢; omega)
  clear c3
  have H' := aK H
  clear H
  go_enter Try.func54, Try.ntmps54
  go_wp2
  go_loopg [5] k (fun kq v5 w' => ∃ (x5_1 : Int), v5 = .int .i64 x5_1 ∧ Aside0 (laws_eqEntryS.l0 kq l0 l1 x5_1 = some r) ∧ Aside0 (kq ≤ k) ∧ Aside0 (Below w.heap.size w w'))
  case atStart => exact ⟨(0), (by first | rfl | (simp; done) | (simp [*]; done)), H', ⟨Nat.le_refl _⟩, ⟨by repeat (first | (with_reducible first | exact HB.out | apply bAl | apply bDN | apply bD1) | exact HB.out)⟩⟩
  case round =>
   clear H'
   try clear c1
   try clear p2
   try clear c3
   try clear c3b0
   try clear c3b1
   try clear c3b2
   obtain ⟨x5_1, rfl, HA, HK1, HB⟩ := hrel
   cases gk with
   | zero => exact absurd HA.out (by simp [laws_eqEntryS.l0])
   | succ k1 =>
    have H := HA.out
    clear HA
    simp only [laws_eqEntryS.l0] at H
    by_cases c4 : x5_1 < (l0.length : Int)
    ·rw [if_pos c4] at H
     have c4b0 : decide (x5_1 < (l0.length : Int)) = true := decide_eq_true c4
     clear c4
     by_cases c5 : 0 ≤ x5_1
     ·rw [if_pos c5] at H
      have c5b0 : decide (0 ≤ x5_1) = true := decide_eq_true c5
      clear c5
      by_cases c6 : x5_1 < (l1.length : Int)
      ·rw [if_pos c6] at H
       have c6b0 : decide (x5_1 < (l1.length : Int)) = true := decide_eq_true c6
       clear c6
       replace H := Option.bind_eq_some_iff.mp H
       obtain ⟨t1093, A70, H⟩ := H
       replace H : (if t1093 = true then (laws_eqEntryS.l0 k1 l0 l1 (wrap64 (x5_1 + 1))) else (some false)) = some r := H
       have A7 := aK A70
       clear A70
       by_cases c8 : t1093 = true
       ·subst c8
        have H1 : (laws_eqEntryS.l0 k1 l0 l1 (wrap64 (x5_1 + 1))) = some r := by rw [if_pos rfl] at H; exact H
        clear H
        have H := H1
        clear H1
        have H' := aK H
        clear H
        try go_wp2
        have n0_ := aK (bD1 HB.out)
        clear HB
        have HB := n0_
        clear n0_
        have p1091 : 0 ≤ (x5_1 : Int) := of_decide_eq_true (by first | (with_reducible assumption) | assumption)
        have q1091 : x5_1 < (l0.length : Int) := of_decide_eq_true (by first | (with_reducible assumption) | assumption)
        obtain ⟨ad1091, e1091, hx1091_0, hx1091_1⟩ := at_T60 HR0.out x5_1 p1091 q1091
        have hw1091_1 := hx1091_1
        have hw1091_0 := hx1091_0
        cases e1091
        replace hx1091_0 := (HB.out.cell (World.block_lt_of_cell? w _ hx1091_0)).trans hx1091_0
        replace hx1091_1 := (HB.out.cell (World.block_lt_of_cell? w _ hx1091_1)).trans hx1091_1
        replace p1091 := eq_true p1091
        replace q1091 := eq_true q1091
        have p1092 : 0 ≤ (x5_1 : Int) := of_decide_eq_true (by first | (with_reducible assumption) | assumption)
        have q1092 : x5_1 < (l1.length : Int) := of_decide_eq_true (by first | (with_reducible assumption) | assumption)
        obtain ⟨ad1092, e1092, hx1092_0, hx1092_1⟩ := at_T60 HR1.out x5_1 p1092 q1092
        have hw1092_1 := hx1092_1
        have hw1092_0 := hx1092_0
        cases e1092
        replace hx1092_0 := (HB.out.cell (World.block_lt_of_cell? w _ hx1092_0)).trans hx1092_0
        replace hx1092_1 := (HB.out.cell (World.block_lt_of_cell? w _ hx1092_1)).trans hx1092_1
        replace p1092 := eq_true p1092
        replace q1092 := eq_true q1092
        refine start_ (n := 10) (S := fun w' => w'.cell? (ad1091.add ((x5_1).toNat * 2)) = some (.int .i64 ((rd_Entry l0 x5_1).f0)) ∧ w'.cell? ⟨(ad1091.add ((x5_1).toNat * 2)).block, (ad1091.add ((x5_1).toNat * 2)).off + 1, none⟩ = some (.int .i64 ((rd_Entry l0 x5_1).f1)) ∧ w'.cell? (ad1092.add ((x5_1).toNat * 2)) = some (.int .i64 ((rd_Entry l1 x5_1).f0)) ∧ w'.cell? ⟨(ad1092.add ((x5_1).toNat * 2)).block, (ad1092.add ((x5_1).toNat * 2)).off + 1, none⟩ = some (.int .i64 ((rd_Entry l1 x5_1).f1))) (ds := []) #[bN,bN,bN,bN,bN,bN,bN,bN,bN,bN] (by kernel_rfl) rfl rfl ⟨((HB.out.cell (World.block_lt_of_cell? w _ hw1091_0)).trans hw1091_0), ((HB.out.cell (World.block_lt_of_cell? w _ hw1091_1)).trans hw1091_1), ((HB.out.cell (World.block_lt_of_cell? w _ hw1092_0)).trans hw1092_0), ((HB.out.cell (World.block_lt_of_cell? w _ hw1092_1)).trans hw1092_1)⟩ (fun hHeld => ?_); refine with_tabW laws_eqEntryS.tab6 laws_eqEntryS.bits6 (fun HT_ HW_ => ?_)
        generalize wr.drew = w9 at HB hx1091_0 hx1091_1 hx1092_0 hx1092_1 hHeld ⊢
        refine pure_ (i := 0) (N := some 17) (v := ?_) (a' := ?_) #[bY,bN,bN,bN,bN,bN,bN,bN,bN,bN] rfl rfl (any_of HT_.out (by kernel_rfl)) (fun _ _ _ h => h) (Or.inl ⟨by rfl, ?_⟩) ?_ ?_
        rotate_left
        ·intro w'
         go_simp
         with_reducible rfl
        rotate_left
        ·simp only [Act.put, sTA, sZ, sS, i64_w, i32_w]
         rfl
        refine pure_ (i := 1) (N := some 18) (v := ?_) (a' := ?_) #[bY,bY,bN,bN,bN,bN,bN,bN,bN,bN] rfl rfl (any_of HT_.out (by kernel_rfl)) (fun _ _ _ h => h) (Or.inl ⟨by rfl, ?_⟩) ?_ ?_
        rotate_left
        ·intro w'
         go_simp
         with_reducible rfl
        rotate_left
        ·simp only [Act.put, sTA, sZ, sS, i64_w, i32_w]
         rfl
        refine pure_ (i := 2) (N := some 19) (v := ?_) (a' := ?_) #[bY,bY,bY,bN,bN,bN,bN,bN,bN,bN] rfl rfl (any_of HT_.out (by kernel_rfl)) (fun _ _ _ h => h) (Or.inl ⟨by rfl, ?_⟩) ?_ ?_
        rotate_left
        ·intro w'
         go_simp
         with_reducible rfl
        rotate_left
        ·simp only [Act.put, sTA, sZ, sS, i64_w, i32_w]
         rfl
        refine pure_ (i := 4) (N := some 21) (v := ?_) (a' := ?_) #[bY,bY,bY,bN,bY,bN,bN,bN,bN,bN] rfl rfl (any_of HT_.out (by kernel_rfl)) (fun _ _ _ h => h) (Or.inl ⟨by rfl, ?_⟩) ?_ ?_
        rotate_left
        ·intro w'
         go_simp
         with_reducible rfl
        rotate_left
        ·simp only [Act.put, sTA, sZ, sS, i64_w, i32_w]
         rfl
        refine pure_ (i := 5) (N := some 22) (v := ?_) (a' := ?_) #[bY,bY,bY,bN,bY,bY,bN,bN,bN,bN] rfl rfl (any_of HT_.out (by kernel_rfl)) (fun _ _ _ h => h) (Or.inl ⟨by rfl, ?_⟩) ?_ ?_
        rotate_left
        ·intro w'
         go_simp
         with_reducible rfl
        rotate_left
        ·simp only [Act.put, sTA, sZ, sS, i64_w, i32_w]
         rfl
        refine pure_ (i := 6) (N := some 23) (v := ?_) (a' := ?_) #[bY,bY,bY,bN,bY,bY,bY,bN,bN,bN] rfl rfl (any_of HT_.out (by kernel_rfl)) (fun _ _ _ h => h) (Or.inl ⟨by rfl, ?_⟩) ?_ ?_
        rotate_left
        ·intro w'
         go_simp
         with_reducible rfl
        rotate_left
        ·simp only [Act.put, sTA, sZ, sS, i64_w, i32_w]
         rfl
        refine take_ (i := 3) (N := some 20) (v := ?_) (a' := ?_) #[bY,bY,bY,bY,bY,bY,bY,bN,bN,bN] rfl rfl (take_ofW HT_.out HW_.out (by kernel_rfl)) (fun _ _ _ h => h) (Or.inl ⟨by rfl, ?_⟩) hHeld ?_ ?_
        rotate_left
        ·rintro w' ⟨s0, s1, s2, s3⟩
         go_simp
         with_reducible rfl
        rotate_left
        ·simp only [Act.put, sTA, sZ, sS, i64_w, i32_w]
         rfl
        refine take_ (i := 7) (N := some 24) (v := ?_) (a' := ?_) #[bY,bY,bY,bY,bY,bY,bY,bY,bN,bN] rfl rfl (take_ofW HT_.out HW_.out (by kernel_rfl)) (fun _ _ _ h => h) (Or.inl ⟨by rfl, ?_⟩) hHeld ?_ ?_
        rotate_left
        ·rintro w' ⟨s0, s1, s2, s3⟩
         go_simp
         with_reducible rfl
        rotate_left
        ·simp only [Act.put, sTA, sZ, sS, i64_w, i32_w]
         rfl
        refine one_ (i := 8) (N := some 25) #[bY,bY,bY,bY,bY,bY,bY,bY,bY,bN] rfl rfl (one_of HT_.out (by kernel_rfl)) (by decide) (fun K hK => ?_)
        refine goes_ Try.func105 (by kernel_rfl) rfl #[.agg #[.int .i64 ((rd_Entry l0 x5_1).f0), .int .i64 ((rd_Entry l0 x5_1).f1)], .agg #[.int .i64 ((rd_Entry l1 x5_1).f0), .int .i64 ((rd_Entry l1 x5_1).f1)]] (by rfl) rfl rfl (by (try simp only [List.map_toArray, List.map_cons, List.map_nil]); first | done | rfl | (simp only [List.length_drop, List.length_take]; rfl)) ?_
        with_reducible refine (laws_eqEntry.calls ((rd_Entry l0 x5_1).f0) ((rd_Entry l0 x5_1).f1) ((rd_Entry l1 x5_1).f0) ((rd_Entry l1 x5_1).f1) true _ A7.out).mono ?_
        rintro e w10 ⟨rfl, hb⟩
        refine ⟨_, rfl, ?_⟩
        have n0_ := aK (bSp (by repeat (first | (with_reducible first | exact HB.out | apply bAl | apply bDN | apply bD1) | exact HB.out)) hb)
        clear HB
        have HB := n0_
        clear n0_
        (try clear hb)
        (try clear hb2)
        (try clear hk)
        (try clear hi)
        refine hK.out _ _ ⟨((HB.out.cell (World.block_lt_of_cell? w _ hw1091_0)).trans hw1091_0), ((HB.out.cell (World.block_lt_of_cell? w _ hw1091_1)).trans hw1091_1), ((HB.out.cell (World.block_lt_of_cell? w _ hw1092_0)).trans hw1092_0), ((HB.out.cell (World.block_lt_of_cell? w _ hw1092_1)).trans hw1092_1)⟩ (fun hHeld => ?_)
        clear hK K
        refine norm_ (a' := ?_) ?_ ?_
        rotate_left
        ·show Act.put _ (some 25) _ = _
         simp only [Act.put, sTA, sZ, sS, i64_w, i32_w]
         rfl
        refine pure_ (i := 9) (N := some 26) (v := ?_) (a' := ?_) #[bY,bY,bY,bY,bY,bY,bY,bY,bY,bY] rfl rfl (any_of HT_.out (by kernel_rfl)) (fun _ _ _ h => h) (Or.inl ⟨by rfl, ?_⟩) ?_ ?_
        rotate_left
        ·intro w'
         go_simp
         with_reducible rfl
        rotate_left
        ·simp only [Act.put, sTA, sZ, sS, i64_w, i32_w]
         rfl
        refine done_ (done_of HT_.out (by kernel_rfl)) ?_
        try go_wp2
        go_roundg k1
        case measure => have := HK1.out; omega
        case rel => exact ⟨(wrap64 (x5_1 + 1)), (by first | rfl | (simp; done) | (simp [*]; done)), H', ⟨by have := HK1.out; omega⟩, ⟨by repeat (first | (with_reducible first | exact HB.out | apply bAl | apply bDN | apply bD1) | exact HB.out)⟩⟩
       ·replace c8 := Bool.eq_false_iff.mpr c8
        subst c8
        have H1 : (some false) = some r := by rw [if_neg (show ¬ (false = true) by decide)] at H; exact H
        clear H
        have H := H1
        clear H1
        obtain rfl := Option.some.inj H
        try go_wp2
        have n0_ := aK (bD1 HB.out)
        clear HB
        have HB := n0_
        clear n0_
        have p1091 : 0 ≤ (x5_1 : Int) := of_decide_eq_true (by first | (with_reducible assumption) | assumption)
        have q1091 : x5_1 < (l0.length : Int) := of_decide_eq_true (by first | (with_reducible assumption) | assumption)
        obtain ⟨ad1091, e1091, hx1091_0, hx1091_1⟩ := at_T60 HR0.out x5_1 p1091 q1091
        have hw1091_1 := hx1091_1
        have hw1091_0 := hx1091_0
        cases e1091
        replace hx1091_0 := (HB.out.cell (World.block_lt_of_cell? w _ hx1091_0)).trans hx1091_0
        replace hx1091_1 := (HB.out.cell (World.block_lt_of_cell? w _ hx1091_1)).trans hx1091_1
        replace p1091 := eq_true p1091
        replace q1091 := eq_true q1091
        have p1092 : 0 ≤ (x5_1 : Int) := of_decide_eq_true (by first | (with_reducible assumption) | assumption)
        have q1092 : x5_1 < (l1.length : Int) := of_decide_eq_true (by first | (with_reducible assumption) | assumption)
        obtain ⟨ad1092, e1092, hx1092_0, hx1092_1⟩ := at_T60 HR1.out x5_1 p1092 q1092
        have hw1092_1 := hx1092_1
        have hw1092_0 := hx1092_0
        cases e1092
        replace hx1092_0 := (HB.out.cell (World.block_lt_of_cell? w _ hx1092_0)).trans hx1092_0
        replace hx1092_1 := (HB.out.cell (World.block_lt_of_cell? w _ hx1092_1)).trans hx1092_1
        replace p1092 := eq_true p1092
        replace q1092 := eq_true q1092
        refine start_ (n := 10) (S := fun w' => w'.cell? (ad1091.add ((x5_1).toNat * 2)) = some (.int .i64 ((rd_Entry l0 x5_1).f0)) ∧ w'.cell? ⟨(ad1091.add ((x5_1).toNat * 2)).block, (ad1091.add ((x5_1).toNat * 2)).off + 1, none⟩ = some (.int .i64 ((rd_Entry l0 x5_1).f1)) ∧ w'.cell? (ad1092.add ((x5_1).toNat * 2)) = some (.int .i64 ((rd_Entry l1 x5_1).f0)) ∧ w'.cell? ⟨(ad1092.add ((x5_1).toNat * 2)).block, (ad1092.add ((x5_1).toNat * 2)).off + 1, none⟩ = some (.int .i64 ((rd_Entry l1 x5_1).f1))) (ds := []) #[bN,bN,bN,bN,bN,bN,bN,bN,bN,bN] (by kernel_rfl) rfl rfl ⟨((HB.out.cell (World.block_lt_of_cell? w _ hw1091_0)).trans hw1091_0), ((HB.out.cell (World.block_lt_of_cell? w _ hw1091_1)).trans hw1091_1), ((HB.out.cell (World.block_lt_of_cell? w _ hw1092_0)).trans hw1092_0), ((HB.out.cell (World.block_lt_of_cell? w _ hw1092_1)).trans hw1092_1)⟩ (fun hHeld => ?_); refine with_tabW laws_eqEntryS.tab6 laws_eqEntryS.bits6 (fun HT_ HW_ => ?_)
        generalize wr.drew = w11 at HB hx1091_0 hx1091_1 hx1092_0 hx1092_1 hHeld ⊢
        refine pure_ (i := 0) (N := some 17) (v := ?_) (a' := ?_) #[bY,bN,bN,bN,bN,bN,bN,bN,bN,bN] rfl rfl (any_of HT_.out (by kernel_rfl)) (fun _ _ _ h => h) (Or.inl ⟨by rfl, ?_⟩) ?_ ?_
        rotate_left
        ·intro w'
         go_simp
         with_reducible rfl
        rotate_left
        ·simp only [Act.put, sTA, sZ, sS, i64_w, i32_w]
         rfl
        refine pure_ (i := 1) (N := some 18) (v := ?_) (a' := ?_) #[bY,bY,bN,bN,bN,bN,bN,bN,bN,bN] rfl rfl (any_of HT_.out (by kernel_rfl)) (fun _ _ _ h => h) (Or.inl ⟨by rfl, ?_⟩) ?_ ?_
        rotate_left
        ·intro w'
         go_simp
         with_reducible rfl
        rotate_left
        ·simp only [Act.put, sTA, sZ, sS, i64_w, i32_w]
         rfl
        refine pure_ (i := 2) (N := some 19) (v := ?_) (a' := ?_) #[bY,bY,bY,bN,bN,bN,bN,bN,bN,bN] rfl rfl (any_of HT_.out (by kernel_rfl)) (fun _ _ _ h => h) (Or.inl ⟨by rfl, ?_⟩) ?_ ?_
        rotate_left
        ·intro w'
         go_simp
         with_reducible rfl
        rotate_left
        ·simp only [Act.put, sTA, sZ, sS, i64_w, i32_w]
         rfl
        refine pure_ (i := 4) (N := some 21) (v := ?_) (a' := ?_) #[bY,bY,bY,bN,bY,bN,bN,bN,bN,bN] rfl rfl (any_of HT_.out (by kernel_rfl)) (fun _ _ _ h => h) (Or.inl ⟨by rfl, ?_⟩) ?_ ?_
        rotate_left
        ·intro w'
         go_simp
         with_reducible rfl
        rotate_left
        ·simp only [Act.put, sTA, sZ, sS, i64_w, i32_w]
         rfl
        refine pure_ (i := 5) (N := some 22) (v := ?_) (a' := ?_) #[bY,bY,bY,bN,bY,bY,bN,bN,bN,bN] rfl rfl (any_of HT_.out (by kernel_rfl)) (fun _ _ _ h => h) (Or.inl ⟨by rfl, ?_⟩) ?_ ?_
        rotate_left
        ·intro w'
         go_simp
         with_reducible rfl
        rotate_left
        ·simp only [Act.put, sTA, sZ, sS, i64_w, i32_w]
         rfl
        refine pure_ (i := 6) (N := some 23) (v := ?_) (a' := ?_) #[bY,bY,bY,bN,bY,bY,bY,bN,bN,bN] rfl rfl (any_of HT_.out (by kernel_rfl)) (fun _ _ _ h => h) (Or.inl ⟨by rfl, ?_⟩) ?_ ?_
        rotate_left
        ·intro w'
         go_simp
         with_reducible rfl
        rotate_left
        ·simp only [Act.put, sTA, sZ, sS, i64_w, i32_w]
         rfl
        refine take_ (i := 3) (N := some 20) (v := ?_) (a' := ?_) #[bY,bY,bY,bY,bY,bY,bY,bN,bN,bN] rfl rfl (take_ofW HT_.out HW_.out (by kernel_rfl)) (fun _ _ _ h => h) (Or.inl ⟨by rfl, ?_⟩) hHeld ?_ ?_
        rotate_left
        ·rintro w' ⟨s0, s1, s2, s3⟩
         go_simp
         with_reducible rfl
        rotate_left
        ·simp only [Act.put, sTA, sZ, sS, i64_w, i32_w]
         rfl
        refine take_ (i := 7) (N := some 24) (v := ?_) (a' := ?_) #[bY,bY,bY,bY,bY,bY,bY,bY,bN,bN] rfl rfl (take_ofW HT_.out HW_.out (by kernel_rfl)) (fun _ _ _ h => h) (Or.inl ⟨by rfl, ?_⟩) hHeld ?_ ?_
        rotate_left
        ·rintro w' ⟨s0, s1, s2, s3⟩
         go_simp
         with_reducible rfl
        rotate_left
        ·simp only [Act.put, sTA, sZ, sS, i64_w, i32_w]
         rfl
        refine one_ (i := 8) (N := some 25) #[bY,bY,bY,bY,bY,bY,bY,bY,bY,bN] rfl rfl (one_of HT_.out (by kernel_rfl)) (by decide) (fun K hK => ?_)
        refine goes_ Try.func105 (by kernel_rfl) rfl #[.agg #[.int .i64 ((rd_Entry l0 x5_1).f0), .int .i64 ((rd_Entry l0 x5_1).f1)], .agg #[.int .i64 ((rd_Entry l1 x5_1).f0), .int .i64 ((rd_Entry l1 x5_1).f1)]] (by rfl) rfl rfl (by (try simp only [List.map_toArray, List.map_cons, List.map_nil]); first | done | rfl | (simp only [List.length_drop, List.length_take]; rfl)) ?_
        with_reducible refine (laws_eqEntry.calls ((rd_Entry l0 x5_1).f0) ((rd_Entry l0 x5_1).f1) ((rd_Entry l1 x5_1).f0) ((rd_Entry l1 x5_1).f1) false _ A7.out).mono ?_
        rintro e w12 ⟨rfl, hb⟩
        refine ⟨_, rfl, ?_⟩
        have n0_ := aK (bSp (by repeat (first | (with_reducible first | exact HB.out | apply bAl | apply bDN | apply bD1) | exact HB.out)) hb)
        clear HB
        have HB := n0_
        clear n0_
        (try clear hb)
        (try clear hb2)
        (try clear hk)
        (try clear hi)
        refine hK.out _ _ ⟨((HB.out.cell (World.block_lt_of_cell? w _ hw1091_0)).trans hw1091_0), ((HB.out.cell (World.block_lt_of_cell? w _ hw1091_1)).trans hw1091_1), ((HB.out.cell (World.block_lt_of_cell? w _ hw1092_0)).trans hw1092_0), ((HB.out.cell (World.block_lt_of_cell? w _ hw1092_1)).trans hw1092_1)⟩ (fun hHeld => ?_)
        clear hK K
        refine norm_ (a' := ?_) ?_ ?_
        rotate_left
        ·show Act.put _ (some 25) _ = _
         simp only [Act.put, sTA, sZ, sS, i64_w, i32_w]
         rfl
        refine pure_ (i := 9) (N := some 26) (v := ?_) (a' := ?_) #[bY,bY,bY,bY,bY,bY,bY,bY,bY,bY] rfl rfl (any_of HT_.out (by kernel_rfl)) (fun _ _ _ h => h) (Or.inl ⟨by rfl, ?_⟩) ?_ ?_
        rotate_left
        ·intro w'
         go_simp
         with_reducible rfl
        rotate_left
        ·simp only [Act.put, sTA, sZ, sS, i64_w, i32_w]
         rfl
        refine done_ (done_of HT_.out (by kernel_rfl)) ?_
        try go_wp2
        go_ret
        exact ⟨by first | rfl | (simp [errW_none, errW_some] <;> rfl) | (simp [*, errW_none, errW_some] <;> rfl), by repeat (first | (with_reducible first | exact HB.out | apply bAl | apply bDN | apply bD1) | exact HB.out)⟩
      ·rw [if_neg c6] at H
       exact absurd H (by simp)
     ·rw [if_neg c5] at H
      exact absurd H (by simp)
    ·rw [if_neg c4] at H
     have c4b0 : decide (x5_1 < (l0.length : Int)) = false := decide_eq_false c4
     clear c4
     obtain rfl := Option.some.inj H
     go_wp2
     go_ret
     exact ⟨by first | rfl | (simp [errW_none, errW_some] <;> rfl) | (simp [*, errW_none, errW_some] <;> rfl), by repeat (first | (with_reducible first | exact HB.out | apply bAl | apply bDN | apply bD1) | exact HB.out)⟩
 ·rw [if_neg c3] at H
  have c3b0 : ((l0.length : Int) == (l1.length : Int)) = false := beq_eq_false_iff_ne.mpr c3
  have c3b1 : ((l0.length : Int) != (l1.length : Int)) = true := bne_iff_ne.mpr c3
  have c3b2 : (l0.length == l1.length) = false := by first | simpa using c3 | (simp at c3 ⊢; omega)
  obtain rfl := Option.some.inj H
  go_enter Try.func54, Try.ntmps54
  go_wp2
  go_ret
  exact ⟨by first | rfl | (simp [errW_none, errW_some] <;> rfl) | (simp [*, errW_none, errW_some] <;> rfl), by repeat (first | (with_reducible first | exact HB.out | apply bAl | apply bDN | apply bD1) | exact HB.out)⟩
set_option maxHeartbeats 8000000 in
set_option maxRecDepth 100000 in
theorem spec_IsTrueRecord.calls (k : Nat) (a0_0 : Int) (a0_1 : Int) (a0_2 : Int) (a0_3 : Int) (A0_4 : Option Addr) (c0_4 : Nat) (l0_4 : List (SGate)) (A1 : Option Addr) (c1 : Nat) (l1 : List (SEntry)) (r : Bool) (w : World) (hr0_4 : Kd.C k137 w A0_4 l0_4.length l0_4) (hc0_4 : l0_4.length ≤ c0_4) (hr1 : Kd.C k60 w A1 l1.length l1) (hc1 : l1.length ≤ c1) (h : spec_IsTrueRecord.f k a0_0 a0_1 a0_2 a0_3 l0_4 l1 = some r) :
  Calls Try.prog 55 #[.agg #[.int .i64 a0_0, .int .i64 a0_1, .int .i64 a0_2, .int .i64 a0_3, .slice A0_4 l0_4.length c0_4], .slice A1 l1.length c1] w fun e w' => e = .returned (.bool r) ∧ Below w.heap.size w w' := by
 have hu58 := Try.underlying58
 have HR0_4 := aK hr0_4
 have HC0_4 := aK hc0_4
 clear hr0_4 hc0_4
 have HR1 := aK hr1
 have HC1 := aK hc1
 clear hr1 hc1
 have HB := aK (Below.refl w.heap.size w)
 have H : ((spec_RecordOk.f k a0_0 a0_1 a0_2 a0_3 l0_4 l1).bind fun t1133 => (if t1133 = true then ((spec_FirstFalse.f k a0_0 a0_1 a0_2 a0_3 l0_4 l1).bind fun t1134 => (some (decide (t1134 < 0)))) else (some false))) = some r := h
 clear h
 replace H := Option.bind_eq_some_iff.mp H
 obtain ⟨t1133, A30, H⟩ := H
 replace H : (if t1133 = true then ((spec_FirstFalse.f k a0_0 a0_1 a0_2 a0_3 l0_4 l1).bind fun t1134 => (some (decide (t1134 < 0)))) else (some false)) = some r := H
 have A3 := aK A30
 clear A30
 by_cases c4 : t1133 = true
 ·subst c4
  have H1 : ((spec_FirstFalse.f k a0_0 a0_1 a0_2 a0_3 l0_4 l1).bind fun t1134 => (some (decide (t1134 < 0)))) = some r := by rw [if_pos rfl] at H; exact H
  clear H
  have H := H1
  clear H1
  replace H := Option.bind_eq_some_iff.mp H
  obtain ⟨t1134, A50, H⟩ := H
  replace H : (some (decide (t1134 < 0))) = some r := H
  have A5 := aK A50
  clear A50
  obtain rfl := Option.some.inj H
  go_enter Try.func55, Try.ntmps55
  go_wp2_with (first | ((with_reducible refine gate_dst (N := 2) rfl ?_); refine box_event ?hg (N := 2) ?hd (cs := #[.int .i64 a0_0, .int .i64 a0_1, .int .i64 a0_2, .int .i64 a0_3, .slice A0_4 l0_4.length c0_4]) (t := 58) ?hr ?_; (case hd => rfl); (case hg => rfl); (case hr => first | (go_simp; done) | (go_simp; rfl)); intro gb1132 hg w6 hbox hb; have n0_ := aK (bSp (by repeat (first | (with_reducible first | exact HB.out | apply bAl | apply bDN | apply bD1) | exact HB.out)) hb); have n1_ := aK (hbox); have n2_ := aK ((by rw [hg]; exact (bSz (by repeat (first | (with_reducible first | exact HB.out | apply bAl | apply bDN | apply bD1) | exact HB.out))) : w.heap.size ≤ gb1132)); have n3_ := n2_; clear HB; have HB := n0_; have BK1132 := n1_; have GW1132 := n2_; have GE1132 := n3_; clear n0_ n1_ n2_ n3_; clear hb hbox hg; obtain ⟨hcz7_0, hcz7_1, hcz7_2, hcz7_3, hcz7_4, hfz7_0, hfz7_1, hfz7_2, hfz7_3, hfz7_4⟩ := cl5 BK1132.out) | ((with_reducible refine gate_callee (f := 103) rfl ?_); refine goesL_ (some 7) rfl rfl Try.func103 (by kernel_rfl) rfl #[.agg #[.int .i64 a0_0, .int .i64 a0_1, .int .i64 a0_2, .int .i64 a0_3, .slice A0_4 l0_4.length c0_4], .slice A1 l1.length c1] rfl (by (try simp only [List.map_toArray, List.map_cons, List.map_nil]); first | done | rfl | (simp only [List.length_drop, List.length_take]; rfl)) ?_; (with_reducible refine (spec_RecordOk.calls k a0_0 a0_1 a0_2 a0_3 _ _ l0_4 _ _ l1 true _ ?side1 ?side2 ?side3 ?side4 A3.out).mono ?_); (case side1 => repeat (first | exact (Kd.C_below HR0_4.out HB.out) | (with_reducible refine Kd.C_alloc ?_ _) | (with_reducible refine Kd.C_drewN ?_ _) | (with_reducible refine Kd.C_drew ?_))); (case side2 => exact HC0_4.out); (case side3 => repeat (first | exact (Kd.C_below HR1.out HB.out) | (with_reducible refine Kd.C_alloc ?_ _) | (with_reducible refine Kd.C_drewN ?_ _) | (with_reducible refine Kd.C_drew ?_))); (case side4 => exact HC1.out); rintro e w8 ⟨rfl, hb⟩; refine ⟨_, rfl, ?_⟩; have n0_ := bkb BK1132 hb (by intro z_; (with_reducible repeat (first | refine kDN ?_ _ | refine kD ?_ | refine kA ?_ _)); exact z_); have n1_ := aK (bSp (by repeat (first | (with_reducible first | exact HB.out | apply bAl | apply bDN | apply bD1 | refine bSt ?_ GE1132.out) | exact HB.out)) hb); clear BK1132; clear HB; have BK1132 := n0_; have HB := n1_; clear n0_ n1_; (try clear hb); (try clear hb2); (try clear hk); (try clear hi); obtain ⟨hcz9_0, hcz9_1, hcz9_2, hcz9_3, hcz9_4, hfz9_0, hfz9_1, hfz9_2, hfz9_3, hfz9_4⟩ := cl5 BK1132.out) | (go_at_call 51; (with_reducible refine (spec_FirstFalse.calls k a0_0 a0_1 a0_2 a0_3 _ _ l0_4 _ _ l1 t1134 _ ?side1 ?side2 ?side3 ?side4 A5.out).mono ?_); (case side1 => repeat (first | exact (Kd.C_below HR0_4.out HB.out) | (with_reducible refine Kd.C_alloc ?_ _) | (with_reducible refine Kd.C_drewN ?_ _) | (with_reducible refine Kd.C_drew ?_))); (case side2 => exact HC0_4.out); (case side3 => repeat (first | exact (Kd.C_below HR1.out HB.out) | (with_reducible refine Kd.C_alloc ?_ _) | (with_reducible refine Kd.C_drewN ?_ _) | (with_reducible refine Kd.C_drew ?_))); (case side4 => exact HC1.out); rintro e w10 ⟨rfl, hb⟩; have n0_ := bkb BK1132 hb (by intro z_; (with_reducible repeat (first | refine kDN ?_ _ | refine kD ?_ | refine kA ?_ _)); exact z_); have n1_ := aK (bSp (by repeat (first | (with_reducible first | exact HB.out | apply bAl | apply bDN | apply bD1 | refine bSt ?_ GE1132.out) | exact HB.out)) hb); clear BK1132; clear HB; have BK1132 := n0_; have HB := n1_; clear n0_ n1_; (try clear hb); (try clear hb2); (try clear hk); (try clear hi)))
  go_ret
  exact ⟨by first | rfl | (simp [errW_none, errW_some] <;> rfl) | (simp [*, errW_none, errW_some] <;> rfl), by repeat (first | (with_reducible first | exact HB.out | apply bAl | apply bDN | apply bD1 | refine bSt ?_ GE1132.out) | exact HB.out)⟩
 ·replace c4 := Bool.eq_false_iff.mpr c4
  subst c4
  have H1 : (some false) = some r := by rw [if_neg (show ¬ (false = true) by decide)] at H; exact H
  clear H
  have H := H1
  clear H1
  obtain rfl := Option.some.inj H
  go_enter Try.func55, Try.ntmps55
  go_wp2_with (first | ((with_reducible refine gate_dst (N := 2) rfl ?_); refine box_event ?hg (N := 2) ?hd (cs := #[.int .i64 a0_0, .int .i64 a0_1, .int .i64 a0_2, .int .i64 a0_3, .slice A0_4 l0_4.length c0_4]) (t := 58) ?hr ?_; (case hd => rfl); (case hg => rfl); (case hr => first | (go_simp; done) | (go_simp; rfl)); intro gb1132 hg w11 hbox hb; have n0_ := aK (bSp (by repeat (first | (with_reducible first | exact HB.out | apply bAl | apply bDN | apply bD1) | exact HB.out)) hb); have n1_ := aK (hbox); have n2_ := aK ((by rw [hg]; exact (bSz (by repeat (first | (with_reducible first | exact HB.out | apply bAl | apply bDN | apply bD1) | exact HB.out))) : w.heap.size ≤ gb1132)); have n3_ := n2_; clear HB; have HB := n0_; have BK1132 := n1_; have GW1132 := n2_; have GE1132 := n3_; clear n0_ n1_ n2_ n3_; clear hb hbox hg; obtain ⟨hcz12_0, hcz12_1, hcz12_2, hcz12_3, hcz12_4, hfz12_0, hfz12_1, hfz12_2, hfz12_3, hfz12_4⟩ := cl5 BK1132.out) | ((with_reducible refine gate_callee (f := 103) rfl ?_); refine goesL_ (some 7) rfl rfl Try.func103 (by kernel_rfl) rfl #[.agg #[.int .i64 a0_0, .int .i64 a0_1, .int .i64 a0_2, .int .i64 a0_3, .slice A0_4 l0_4.length c0_4], .slice A1 l1.length c1] rfl (by (try simp only [List.map_toArray, List.map_cons, List.map_nil]); first | done | rfl | (simp only [List.length_drop, List.length_take]; rfl)) ?_; (with_reducible refine (spec_RecordOk.calls k a0_0 a0_1 a0_2 a0_3 _ _ l0_4 _ _ l1 false _ ?side1 ?side2 ?side3 ?side4 A3.out).mono ?_); (case side1 => repeat (first | exact (Kd.C_below HR0_4.out HB.out) | (with_reducible refine Kd.C_alloc ?_ _) | (with_reducible refine Kd.C_drewN ?_ _) | (with_reducible refine Kd.C_drew ?_))); (case side2 => exact HC0_4.out); (case side3 => repeat (first | exact (Kd.C_below HR1.out HB.out) | (with_reducible refine Kd.C_alloc ?_ _) | (with_reducible refine Kd.C_drewN ?_ _) | (with_reducible refine Kd.C_drew ?_))); (case side4 => exact HC1.out); rintro e w13 ⟨rfl, hb⟩; refine ⟨_, rfl, ?_⟩; have n0_ := bkb BK1132 hb (by intro z_; (with_reducible repeat (first | refine kDN ?_ _ | refine kD ?_ | refine kA ?_ _)); exact z_); have n1_ := aK (bSp (by repeat (first | (with_reducible first | exact HB.out | apply bAl | apply bDN | apply bD1 | refine bSt ?_ GE1132.out) | exact HB.out)) hb); clear BK1132; clear HB; have BK1132 := n0_; have HB := n1_; clear n0_ n1_; (try clear hb); (try clear hb2); (try clear hk); (try clear hi)))
  go_ret
  exact ⟨by first | rfl | (simp [errW_none, errW_some] <;> rfl) | (simp [*, errW_none, errW_some] <;> rfl), by repeat (first | (with_reducible first | exact HB.out | apply bAl | apply bDN | apply bD1 | refine bSt ?_ GE1132.out) | exact HB.out)⟩
set_option maxHeartbeats 8000000 in
set_option maxRecDepth 100000 in
theorem impl_IsTrueRecord.calls (k : Nat) (a0_0 : Int) (a0_1 : Int) (a0_2 : Int) (a0_3 : Int) (A0_4 : Option Addr) (c0_4 : Nat) (l0_4 : List (SGate)) (A1 : Option Addr) (c1 : Nat) (l1 : List (SEntry)) (r : Bool) (w : World) (hr0_4 : Kd.C k137 w A0_4 l0_4.length l0_4) (hc0_4 : l0_4.length ≤ c0_4) (hr1 : Kd.C k60 w A1 l1.length l1) (hc1 : l1.length ≤ c1) (h : impl_IsTrueRecord.f k a0_0 a0_1 a0_2 a0_3 l0_4 l1 = some r) :
  Calls Try.prog 56 #[.agg #[.int .i64 a0_0, .int .i64 a0_1, .int .i64 a0_2, .int .i64 a0_3, .slice A0_4 l0_4.length c0_4], .slice A1 l1.length c1] w fun e w' => e = .returned (.bool r) ∧ Below w.heap.size w w' := by
 have hu58 := Try.underlying58
 have HR0_4 := aK hr0_4
 have HC0_4 := aK hc0_4
 clear hr0_4 hc0_4
 have HR1 := aK hr1
 have HC1 := aK hc1
 clear hr1 hc1
 have HB := aK (Below.refl w.heap.size w)
 have H : ((impl_RecordOk.f k a0_0 a0_1 a0_2 a0_3 l0_4 l1).bind fun t1136 => (if t1136 = true then ((impl_FirstFalse.f k a0_0 a0_1 a0_2 a0_3 l0_4 l1).bind fun t1137 => (some (t1137 == (-1)))) else (some false))) = some r := h
 clear h
 replace H := Option.bind_eq_some_iff.mp H
 obtain ⟨t1136, A30, H⟩ := H
 replace H : (if t1136 = true then ((impl_FirstFalse.f k a0_0 a0_1 a0_2 a0_3 l0_4 l1).bind fun t1137 => (some (t1137 == (-1)))) else (some false)) = some r := H
 have A3 := aK A30
 clear A30
 by_cases c4 : t1136 = true
 ·subst c4
  have H1 : ((impl_FirstFalse.f k a0_0 a0_1 a0_2 a0_3 l0_4 l1).bind fun t1137 => (some (t1137 == (-1)))) = some r := by rw [if_pos rfl] at H; exact H
  clear H
  have H := H1
  clear H1
  replace H := Option.bind_eq_some_iff.mp H
  obtain ⟨t1137, A50, H⟩ := H
  replace H : (some (t1137 == (-1))) = some r := H
  have A5 := aK A50
  clear A50
  obtain rfl := Option.some.inj H
  go_enter Try.func56, Try.ntmps56
  go_wp2_with (first | ((with_reducible refine gate_dst (N := 2) rfl ?_); refine box_event ?hg (N := 2) ?hd (cs := #[.int .i64 a0_0, .int .i64 a0_1, .int .i64 a0_2, .int .i64 a0_3, .slice A0_4 l0_4.length c0_4]) (t := 58) ?hr ?_; (case hd => rfl); (case hg => rfl); (case hr => first | (go_simp; done) | (go_simp; rfl)); intro gb1135 hg w6 hbox hb; have n0_ := aK (bSp (by repeat (first | (with_reducible first | exact HB.out | apply bAl | apply bDN | apply bD1) | exact HB.out)) hb); have n1_ := aK (hbox); have n2_ := aK ((by rw [hg]; exact (bSz (by repeat (first | (with_reducible first | exact HB.out | apply bAl | apply bDN | apply bD1) | exact HB.out))) : w.heap.size ≤ gb1135)); have n3_ := n2_; clear HB; have HB := n0_; have BK1135 := n1_; have GW1135 := n2_; have GE1135 := n3_; clear n0_ n1_ n2_ n3_; clear hb hbox hg; obtain ⟨hcz7_0, hcz7_1, hcz7_2, hcz7_3, hcz7_4, hfz7_0, hfz7_1, hfz7_2, hfz7_3, hfz7_4⟩ := cl5 BK1135.out) | ((with_reducible refine gate_callee (f := 104) rfl ?_); refine goesL_ (some 7) rfl rfl Try.func104 (by kernel_rfl) rfl #[.agg #[.int .i64 a0_0, .int .i64 a0_1, .int .i64 a0_2, .int .i64 a0_3, .slice A0_4 l0_4.length c0_4], .slice A1 l1.length c1] rfl (by (try simp only [List.map_toArray, List.map_cons, List.map_nil]); first | done | rfl | (simp only [List.length_drop, List.length_take]; rfl)) ?_; (with_reducible refine (impl_RecordOk.calls k a0_0 a0_1 a0_2 a0_3 _ _ l0_4 _ _ l1 true _ ?side1 ?side2 ?side3 ?side4 A3.out).mono ?_); (case side1 => repeat (first | exact (Kd.C_below HR0_4.out HB.out) | (with_reducible refine Kd.C_alloc ?_ _) | (with_reducible refine Kd.C_drewN ?_ _) | (with_reducible refine Kd.C_drew ?_))); (case side2 => exact HC0_4.out); (case side3 => repeat (first | exact (Kd.C_below HR1.out HB.out) | (with_reducible refine Kd.C_alloc ?_ _) | (with_reducible refine Kd.C_drewN ?_ _) | (with_reducible refine Kd.C_drew ?_))); (case side4 => exact HC1.out); rintro e w8 ⟨rfl, hb⟩; refine ⟨_, rfl, ?_⟩; have n0_ := bkb BK1135 hb (by intro z_; (with_reducible repeat (first | refine kDN ?_ _ | refine kD ?_ | refine kA ?_ _)); exact z_); have n1_ := aK (bSp (by repeat (first | (with_reducible first | exact HB.out | apply bAl | apply bDN | apply bD1 | refine bSt ?_ GE1135.out) | exact HB.out)) hb); clear BK1135; clear HB; have BK1135 := n0_; have HB := n1_; clear n0_ n1_; (try clear hb); (try clear hb2); (try clear hk); (try clear hi); obtain ⟨hcz9_0, hcz9_1, hcz9_2, hcz9_3, hcz9_4, hfz9_0, hfz9_1, hfz9_2, hfz9_3, hfz9_4⟩ := cl5 BK1135.out) | (go_at_call 53; (with_reducible refine (impl_FirstFalse.calls k a0_0 a0_1 a0_2 a0_3 _ _ l0_4 _ _ l1 t1137 _ ?side1 ?side2 ?side3 ?side4 A5.out).mono ?_); (case side1 => repeat (first | exact (Kd.C_below HR0_4.out HB.out) | (with_reducible refine Kd.C_alloc ?_ _) | (with_reducible refine Kd.C_drewN ?_ _) | (with_reducible refine Kd.C_drew ?_))); (case side2 => exact HC0_4.out); (case side3 => repeat (first | exact (Kd.C_below HR1.out HB.out) | (with_reducible refine Kd.C_alloc ?_ _) | (with_reducible refine Kd.C_drewN ?_ _) | (with_reducible refine Kd.C_drew ?_))); (case side4 => exact HC1.out); rintro e w10 ⟨rfl, hb⟩; have n0_ := bkb BK1135 hb (by intro z_; (with_reducible repeat (first | refine kDN ?_ _ | refine kD ?_ | refine kA ?_ _)); exact z_); have n1_ := aK (bSp (by repeat (first | (with_reducible first | exact HB.out | apply bAl | apply bDN | apply bD1 | refine bSt ?_ GE1135.out) | exact HB.out)) hb); clear BK1135; clear HB; have BK1135 := n0_; have HB := n1_; clear n0_ n1_; (try clear hb); (try clear hb2); (try clear hk); (try clear hi)))
  go_ret
  exact ⟨by first | rfl | (simp [errW_none, errW_some] <;> rfl) | (simp [*, errW_none, errW_some] <;> rfl), by repeat (first | (with_reducible first | exact HB.out | apply bAl | apply bDN | apply bD1 | refine bSt ?_ GE1135.out) | exact HB.out)⟩
 ·replace c4 := Bool.eq_false_iff.mpr c4
  subst c4
  have H1 : (some false) = some r := by rw [if_neg (show ¬ (false = true) by decide)] at H; exact H
  clear H
  have H := H1
  clear H1
  obtain rfl := Option.some.inj H
  go_enter Try.func56, Try.ntmps56
  go_wp2_with (first | ((with_reducible refine gate_dst (N := 2) rfl ?_); refine box_event ?hg (N := 2) ?hd (cs := #[.int .i64 a0_0, .int .i64 a0_1, .int .i64 a0_2, .int .i64 a0_3, .slice A0_4 l0_4.length c0_4]) (t := 58) ?hr ?_; (case hd => rfl); (case hg => rfl); (case hr => first | (go_simp; done) | (go_simp; rfl)); intro gb1135 hg w11 hbox hb; have n0_ := aK (bSp (by repeat (first | (with_reducible first | exact HB.out | apply bAl | apply bDN | apply bD1) | exact HB.out)) hb); have n1_ := aK (hbox); have n2_ := aK ((by rw [hg]; exact (bSz (by repeat (first | (with_reducible first | exact HB.out | apply bAl | apply bDN | apply bD1) | exact HB.out))) : w.heap.size ≤ gb1135)); have n3_ := n2_; clear HB; have HB := n0_; have BK1135 := n1_; have GW1135 := n2_; have GE1135 := n3_; clear n0_ n1_ n2_ n3_; clear hb hbox hg; obtain ⟨hcz12_0, hcz12_1, hcz12_2, hcz12_3, hcz12_4, hfz12_0, hfz12_1, hfz12_2, hfz12_3, hfz12_4⟩ := cl5 BK1135.out) | ((with_reducible refine gate_callee (f := 104) rfl ?_); refine goesL_ (some 7) rfl rfl Try.func104 (by kernel_rfl) rfl #[.agg #[.int .i64 a0_0, .int .i64 a0_1, .int .i64 a0_2, .int .i64 a0_3, .slice A0_4 l0_4.length c0_4], .slice A1 l1.length c1] rfl (by (try simp only [List.map_toArray, List.map_cons, List.map_nil]); first | done | rfl | (simp only [List.length_drop, List.length_take]; rfl)) ?_; (with_reducible refine (impl_RecordOk.calls k a0_0 a0_1 a0_2 a0_3 _ _ l0_4 _ _ l1 false _ ?side1 ?side2 ?side3 ?side4 A3.out).mono ?_); (case side1 => repeat (first | exact (Kd.C_below HR0_4.out HB.out) | (with_reducible refine Kd.C_alloc ?_ _) | (with_reducible refine Kd.C_drewN ?_ _) | (with_reducible refine Kd.C_drew ?_))); (case side2 => exact HC0_4.out); (case side3 => repeat (first | exact (Kd.C_below HR1.out HB.out) | (with_reducible refine Kd.C_alloc ?_ _) | (with_reducible refine Kd.C_drewN ?_ _) | (with_reducible refine Kd.C_drew ?_))); (case side4 => exact HC1.out); rintro e w13 ⟨rfl, hb⟩; refine ⟨_, rfl, ?_⟩; have n0_ := bkb BK1135 hb (by intro z_; (with_reducible repeat (first | refine kDN ?_ _ | refine kD ?_ | refine kA ?_ _)); exact z_); have n1_ := aK (bSp (by repeat (first | (with_reducible first | exact HB.out | apply bAl | apply bDN | apply bD1 | refine bSt ?_ GE1135.out) | exact HB.out)) hb); clear BK1135; clear HB; have BK1135 := n0_; have HB := n1_; clear n0_ n1_; (try clear hb); (try clear hb2); (try clear hk); (try clear hi)))
  go_ret
  exact ⟨by first | rfl | (simp [errW_none, errW_some] <;> rfl) | (simp [*, errW_none, errW_some] <;> rfl), by repeat (first | (with_reducible first | exact HB.out | apply bAl | apply bDN | apply bD1 | refine bSt ?_ GE1135.out) | exact HB.out)⟩
end Go.Proofs.Ytimejdhglmajdaa.F
end

section
namespace Go.Proofs.Ytimejdhglmajdaa.F
open Go.RowKit Go.Proofs.YtimejdhglmajdaaW.PrintWords Go.Proofs.YtimejdhglmajdaaW.PrintLast Go.Proofs.YtimejdhglmajdaaW.PrintMore
set_option linter.unusedVariables false
set_option linter.unusedSimpArgs false
def laws_FnExactIsTrueRecord.f (k : Nat) (a0_0 : Int) (a0_1 : Int) (a0_2 : Int) (a0_3 : Int) (l0_4 : List (SlaGate)) (l1 : List (SlaEntry)) : Option (Bool) := (laws_szTimed.f a0_0 a0_1 a0_2 a0_3 l0_4 1048576).bind fun t1139 => (if t1139 < 0 then (some true) else ((laws_szEntryS.f l1 t1139).bind fun t1140 => (if t1140 < 0 then (some true) else ((laws_toTimed.f k a0_0 a0_1 a0_2 a0_3 l0_4).bind fun bt1141 => ((laws_toEntryS.f k l1).bind fun t1148 => ((spec_IsTrueRecord.f k bt1141.1 bt1141.2.1 bt1141.2.2.1 bt1141.2.2.2.1 bt1141.2.2.2.2 t1148).bind fun t1151 => ((laws_toTimed.f k a0_0 a0_1 a0_2 a0_3 l0_4).bind fun bt1152 => ((laws_toEntryS.f k l1).bind fun t1160 => ((impl_IsTrueRecord.f k bt1152.1 bt1152.2.1 bt1152.2.2.1 bt1152.2.2.2.1 bt1152.2.2.2.2 t1160).bind fun t1163 => (if (t1163 != t1151) = true then (some false) else ((laws_toTimed.f k a0_0 a0_1 a0_2 a0_3 l0_4).bind fun bt1164 => ((laws_eqTimed.f k bt1152.1 bt1152.2.1 bt1152.2.2.1 bt1152.2.2.2.1 bt1152.2.2.2.2 bt1164.1 bt1164.2.1 bt1164.2.2.1 bt1164.2.2.2.1 bt1164.2.2.2.2).bind fun t1171 => (if t1171 = true then ((laws_toEntryS.f k l1).bind fun t1172 => ((laws_eqEntryS.f k t1160 t1172).bind fun t1175 => (if t1175 = true then (some true) else (some false)))) else (some false))))))))))))))
end Go.Proofs.Ytimejdhglmajdaa.F
end

section
namespace Go.Proofs.Ytimejdhglmajdaa.F
open Go.RowKit Go.Proofs.YtimejdhglmajdaaW.PrintWords Go.Proofs.YtimejdhglmajdaaW.PrintLast Go.Proofs.YtimejdhglmajdaaW.PrintMore
set_option linter.unusedVariables false
set_option linter.unusedSimpArgs false
attribute [local go_sem] min2_int min_two
set_option maxHeartbeats 8000000 in
set_option maxRecDepth 100000 in
theorem laws_FnExactIsTrueRecord.calls (k : Nat) (a0_0 : Int) (a0_1 : Int) (a0_2 : Int) (a0_3 : Int) (A0_4 : Option Addr) (c0_4 : Nat) (l0_4 : List (SlaGate)) (A1 : Option Addr) (c1 : Nat) (l1 : List (SlaEntry)) (w : World) (hr0_4 : Kd.C k139 w A0_4 l0_4.length l0_4) (hc0_4 : l0_4.length ≤ c0_4) (hr1 : Kd.C k53 w A1 l1.length l1) (hc1 : l1.length ≤ c1) (h : laws_FnExactIsTrueRecord.f k a0_0 a0_1 a0_2 a0_3 l0_4 l1 = some true) :
  Calls Try.prog 13 #[.agg #[.int .i64 a0_0, .int .i64 a0_1, .int .i64 a0_2, .int .i64 a0_3, .slice A0_4 l0_4.length c0_4], .slice A1 l1.length c1] w fun e w' => e = .returned (.bool true) ∧ Below w.heap.size w w' := by
 have hu51 := Try.underlying51
 have hu58 := Try.underlying58
 have HR0_4 := aK hr0_4
 have HC0_4 := aK hc0_4
 clear hr0_4 hc0_4
 have HR1 := aK hr1
 have HC1 := aK hc1
 clear hr1 hc1
 have HB := aK (Below.refl w.heap.size w)
 have H : ((laws_szTimed.f a0_0 a0_1 a0_2 a0_3 l0_4 1048576).bind fun t1139 => (if t1139 < 0 then (some true) else ((laws_szEntryS.f l1 t1139).bind fun t1140 => (if t1140 < 0 then (some true) else ((laws_toTimed.f k a0_0 a0_1 a0_2 a0_3 l0_4).bind fun bt1141 => ((laws_toEntryS.f k l1).bind fun t1148 => ((spec_IsTrueRecord.f k bt1141.1 bt1141.2.1 bt1141.2.2.1 bt1141.2.2.2.1 bt1141.2.2.2.2 t1148).bind fun t1151 => ((laws_toTimed.f k a0_0 a0_1 a0_2 a0_3 l0_4).bind fun bt1152 => ((laws_toEntryS.f k l1).bind fun t1160 => ((impl_IsTrueRecord.f k bt1152.1 bt1152.2.1 bt1152.2.2.1 bt1152.2.2.2.1 bt1152.2.2.2.2 t1160).bind fun t1163 => (if (t1163 != t1151) = true then (some false) else ((laws_toTimed.f k a0_0 a0_1 a0_2 a0_3 l0_4).bind fun bt1164 => ((laws_eqTimed.f k bt1152.1 bt1152.2.1 bt1152.2.2.1 bt1152.2.2.2.1 bt1152.2.2.2.2 bt1164.1 bt1164.2.1 bt1164.2.2.1 bt1164.2.2.2.1 bt1164.2.2.2.2).bind fun t1171 => (if t1171 = true then ((laws_toEntryS.f k l1).bind fun t1172 => ((laws_eqEntryS.f k t1160 t1172).bind fun t1175 => (if t1175 = true then (some true) else (some false)))) else (some false))))))))))))))) = some true := h
 clear h
 replace H := Option.bind_eq_some_iff.mp H
 obtain ⟨t1139, A30, H⟩ := H
 replace H : (if t1139 < 0 then (some true) else ((laws_szEntryS.f l1 t1139).bind fun t1140 => (if t1140 < 0 then (some true) else ((laws_toTimed.f k a0_0 a0_1 a0_2 a0_3 l0_4).bind fun bt1141 => ((laws_toEntryS.f k l1).bind fun t1148 => ((spec_IsTrueRecord.f k bt1141.1 bt1141.2.1 bt1141.2.2.1 bt1141.2.2.2.1 bt1141.2.2.2.2 t1148).bind fun t1151 => ((laws_toTimed.f k a0_0 a0_1 a0_2 a0_3 l0_4).bind fun bt1152 => ((laws_toEntryS.f k l1).bind fun t1160 => ((impl_IsTrueRecord.f k bt1152.1 bt1152.2.1 bt1152.2.2.1 bt1152.2.2.2.1 bt1152.2.2.2.2 t1160).bind fun t1163 => (if (t1163 != t1151) = true then (some false) else ((laws_toTimed.f k a0_0 a0_1 a0_2 a0_3 l0_4).bind fun bt1164 => ((laws_eqTimed.f k bt1152.1 bt1152.2.1 bt1152.2.2.1 bt1152.2.2.2.1 bt1152.2.2.2.2 bt1164.1 bt1164.2.1 bt1164.2.2.1 bt1164.2.2.2.1 bt1164.2.2.2.2).bind fun t1171 => (if t1171 = true then ((laws_toEntryS.f k l1).bind fun t1172 => ((laws_eqEntryS.f k t1160 t1172).bind fun t1175 => (if t1175 = true then (some true) else (some false)))) else (some false)))))))))))))) = some true := H
 have A3 := aK A30
 clear A30
 by_cases c4 : t1139 < 0
 ·rw [if_pos c4] at H
  have c4b0 : decide (t1139 < 0) = true := decide_eq_true c4
  clear c4
  go_enter Try.func13, Try.ntmps13
  go_wp2_with (first | ((with_reducible refine gate_dst (N := 2) rfl ?_); refine box_event ?hg (N := 2) ?hd (cs := #[.int .i64 a0_0, .int .i64 a0_1, .int .i64 a0_2, .int .i64 a0_3, .slice A0_4 l0_4.length c0_4]) (t := 51) ?hr ?_; (case hd => rfl); (case hg => rfl); (case hr => first | (go_simp; done) | (go_simp; rfl)); intro gb1138 hg w5 hbox hb; have n0_ := aK (bSp (by repeat (first | (with_reducible first | exact HB.out | apply bAl | apply bDN | apply bD1) | exact HB.out)) hb); have n1_ := aK (hbox); have n2_ := aK ((by rw [hg]; exact (bSz (by repeat (first | (with_reducible first | exact HB.out | apply bAl | apply bDN | apply bD1) | exact HB.out))) : w.heap.size ≤ gb1138)); have n3_ := n2_; clear HB; have HB := n0_; have BK1138 := n1_; have GW1138 := n2_; have GE1138 := n3_; clear n0_ n1_ n2_ n3_; clear hb hbox hg; obtain ⟨hcz6_0, hcz6_1, hcz6_2, hcz6_3, hcz6_4, hfz6_0, hfz6_1, hfz6_2, hfz6_3, hfz6_4⟩ := cl5 BK1138.out) | ((with_reducible refine gate_callee (f := 34) rfl ?_); refine goesL_ (some 12) rfl rfl Try.func34 (by kernel_rfl) rfl #[.agg #[.int .i64 a0_0, .int .i64 a0_1, .int .i64 a0_2, .int .i64 a0_3, .slice A0_4 l0_4.length c0_4], .int .i64 1048576] rfl (by (try simp only [List.map_toArray, List.map_cons, List.map_nil]); first | done | rfl | (simp only [List.length_drop, List.length_take]; rfl)) ?_; (with_reducible refine (laws_szTimed.calls a0_0 a0_1 a0_2 a0_3 _ _ l0_4 1048576 t1139 _ ?side1 ?side2 A3.out).mono ?_); (case side1 => repeat (first | exact (Kd.C_below HR0_4.out HB.out) | (with_reducible refine Kd.C_alloc ?_ _) | (with_reducible refine Kd.C_drewN ?_ _) | (with_reducible refine Kd.C_drew ?_))); (case side2 => exact HC0_4.out); rintro e w7 ⟨rfl, hb⟩; refine ⟨_, rfl, ?_⟩; have n0_ := bkb BK1138 hb (by intro z_; (with_reducible repeat (first | refine kDN ?_ _ | refine kD ?_ | refine kA ?_ _)); exact z_); have n1_ := aK (bSp (by repeat (first | (with_reducible first | exact HB.out | apply bAl | apply bDN | apply bD1 | refine bSt ?_ GE1138.out) | exact HB.out)) hb); clear BK1138; clear HB; have BK1138 := n0_; have HB := n1_; clear n0_ n1_; (try clear hb); (try clear hb2); (try clear hk); (try clear hi)))
  go_ret
  exact ⟨by first | rfl | (simp [errW_none, errW_some] <;> rfl) | (simp [*, errW_none, errW_some] <;> rfl), by repeat (first | (with_reducible first | exact HB.out | apply bAl | apply bDN | apply bD1 | refine bSt ?_ GE1138.out) | exact HB.out)⟩
 ·rw [if_neg c4] at H
  have c4b0 : decide (t1139 < 0) = false := decide_eq_false c4
  clear c4
  replace H := Option.bind_eq_some_iff.mp H
  obtain ⟨t1140, A80, H⟩ := H
  replace H : (if t1140 < 0 then (some true) else ((laws_toTimed.f k a0_0 a0_1 a0_2 a0_3 l0_4).bind fun bt1141 => ((laws_toEntryS.f k l1).bind fun t1148 => ((spec_IsTrueRecord.f k bt1141.1 bt1141.2.1 bt1141.2.2.1 bt1141.2.2.2.1 bt1141.2.2.2.2 t1148).bind fun t1151 => ((laws_toTimed.f k a0_0 a0_1 a0_2 a0_3 l0_4).bind fun bt1152 => ((laws_toEntryS.f k l1).bind fun t1160 => ((impl_IsTrueRecord.f k bt1152.1 bt1152.2.1 bt1152.2.2.1 bt1152.2.2.2.1 bt1152.2.2.2.2 t1160).bind fun t1163 => (if (t1163 != t1151) = true then (some false) else ((laws_toTimed.f k a0_0 a0_1 a0_2 a0_3 l0_4).bind fun bt1164 => ((laws_eqTimed.f k bt1152.1 bt1152.2.1 bt1152.2.2.1 bt1152.2.2.2.1 bt1152.2.2.2.2 bt1164.1 bt1164.2.1 bt1164.2.2.1 bt1164.2.2.2.1 bt1164.2.2.2.2).bind fun t1171 => (if t1171 = true then ((laws_toEntryS.f k l1).bind fun t1172 => ((laws_eqEntryS.f k t1160 t1172).bind fun t1175 => (if t1175 = true then (some true) else (some false)))) else (some false)))))))))))) = some true := H
  have A8 := aK A80
  clear A80
  by_cases c9 : t1140 < 0
  ·rw [if_pos c9] at H
   have c9b0 : decide (t1140 < 0) = true := decide_eq_true c9
   clear c9
   go_enter Try.func13, Try.ntmps13
   go_wp2_with (first | ((with_reducible refine gate_dst (N := 2) rfl ?_); refine box_event ?hg (N := 2) ?hd (cs := #[.int .i64 a0_0, .int .i64 a0_1, .int .i64 a0_2, .int .i64 a0_3, .slice A0_4 l0_4.length c0_4]) (t := 51) ?hr ?_; (case hd => rfl); (case hg => rfl); (case hr => first | (go_simp; done) | (go_simp; rfl)); intro gb1138 hg w10 hbox hb; have n0_ := aK (bSp (by repeat (first | (with_reducible first | exact HB.out | apply bAl | apply bDN | apply bD1) | exact HB.out)) hb); have n1_ := aK (hbox); have n2_ := aK ((by rw [hg]; exact (bSz (by repeat (first | (with_reducible first | exact HB.out | apply bAl | apply bDN | apply bD1) | exact HB.out))) : w.heap.size ≤ gb1138)); have n3_ := n2_; clear HB; have HB := n0_; have BK1138 := n1_; have GW1138 := n2_; have GE1138 := n3_; clear n0_ n1_ n2_ n3_; clear hb hbox hg; obtain ⟨hcz11_0, hcz11_1, hcz11_2, hcz11_3, hcz11_4, hfz11_0, hfz11_1, hfz11_2, hfz11_3, hfz11_4⟩ := cl5 BK1138.out) | ((with_reducible refine gate_callee (f := 34) rfl ?_); refine goesL_ (some 12) rfl rfl Try.func34 (by kernel_rfl) rfl #[.agg #[.int .i64 a0_0, .int .i64 a0_1, .int .i64 a0_2, .int .i64 a0_3, .slice A0_4 l0_4.length c0_4], .int .i64 1048576] rfl (by (try simp only [List.map_toArray, List.map_cons, List.map_nil]); first | done | rfl | (simp only [List.length_drop, List.length_take]; rfl)) ?_; (with_reducible refine (laws_szTimed.calls a0_0 a0_1 a0_2 a0_3 _ _ l0_4 1048576 t1139 _ ?side1 ?side2 A3.out).mono ?_); (case side1 => repeat (first | exact (Kd.C_below HR0_4.out HB.out) | (with_reducible refine Kd.C_alloc ?_ _) | (with_reducible refine Kd.C_drewN ?_ _) | (with_reducible refine Kd.C_drew ?_))); (case side2 => exact HC0_4.out); rintro e w12 ⟨rfl, hb⟩; refine ⟨_, rfl, ?_⟩; have n0_ := bkb BK1138 hb (by intro z_; (with_reducible repeat (first | refine kDN ?_ _ | refine kD ?_ | refine kA ?_ _)); exact z_); have n1_ := aK (bSp (by repeat (first | (with_reducible first | exact HB.out | apply bAl | apply bDN | apply bD1 | refine bSt ?_ GE1138.out) | exact HB.out)) hb); clear BK1138; clear HB; have BK1138 := n0_; have HB := n1_; clear n0_ n1_; (try clear hb); (try clear hb2); (try clear hk); (try clear hi)) | ((with_reducible refine gate_callee (f := 50) rfl ?_); refine goesL_ (some 17) rfl rfl Try.func50 (by kernel_rfl) rfl #[.slice A1 l1.length c1, .int .i64 t1139] rfl (by (try simp only [List.map_toArray, List.map_cons, List.map_nil]); first | done | rfl | (simp only [List.length_drop, List.length_take]; rfl)) ?_; (with_reducible refine (laws_szEntryS.calls _ _ l1 t1139 t1140 _ ?side1 ?side2 A8.out).mono ?_); (case side1 => repeat (first | exact (Kd.C_below HR1.out HB.out) | (with_reducible refine Kd.C_alloc ?_ _) | (with_reducible refine Kd.C_drewN ?_ _) | (with_reducible refine Kd.C_drew ?_))); (case side2 => exact HC1.out); rintro e w' ⟨rfl, ⟨nd, rfl⟩⟩; refine ⟨_, rfl, ?_⟩))
   go_ret
   exact ⟨by first | rfl | (simp [errW_none, errW_some] <;> rfl) | (simp [*, errW_none, errW_some] <;> rfl), by repeat (first | (with_reducible first | exact HB.out | apply bAl | apply bDN | apply bD1 | refine bSt ?_ GE1138.out) | exact HB.out)⟩
  ·rw [if_neg c9] at H
   have c9b0 : decide (t1140 < 0) = false := decide_eq_false c9
   clear c9
   replace H := Option.bind_eq_some_iff.mp H
   obtain ⟨⟨t1141, t1142, t1143, t1144, t1145⟩, A130, H⟩ := H
   replace H : ((laws_toEntryS.f k l1).bind fun t1148 => ((spec_IsTrueRecord.f k t1141 t1142 t1143 t1144 t1145 t1148).bind fun t1151 => ((laws_toTimed.f k a0_0 a0_1 a0_2 a0_3 l0_4).bind fun bt1152 => ((laws_toEntryS.f k l1).bind fun t1160 => ((impl_IsTrueRecord.f k bt1152.1 bt1152.2.1 bt1152.2.2.1 bt1152.2.2.2.1 bt1152.2.2.2.2 t1160).bind fun t1163 => (if (t1163 != t1151) = true then (some false) else ((laws_toTimed.f k a0_0 a0_1 a0_2 a0_3 l0_4).bind fun bt1164 => ((laws_eqTimed.f k bt1152.1 bt1152.2.1 bt1152.2.2.1 bt1152.2.2.2.1 bt1152.2.2.2.2 bt1164.1 bt1164.2.1 bt1164.2.2.1 bt1164.2.2.2.1 bt1164.2.2.2.2).bind fun t1171 => (if t1171 = true then ((laws_toEntryS.f k l1).bind fun t1172 => ((laws_eqEntryS.f k t1160 t1172).bind fun t1175 => (if t1175 = true then (some true) else (some false)))) else (some false)))))))))) = some true := H
   have A13 := aK A130
   clear A130
   replace H := Option.bind_eq_some_iff.mp H
   obtain ⟨t1148, A140, H⟩ := H
   replace H : ((spec_IsTrueRecord.f k t1141 t1142 t1143 t1144 t1145 t1148).bind fun t1151 => ((laws_toTimed.f k a0_0 a0_1 a0_2 a0_3 l0_4).bind fun bt1152 => ((laws_toEntryS.f k l1).bind fun t1160 => ((impl_IsTrueRecord.f k bt1152.1 bt1152.2.1 bt1152.2.2.1 bt1152.2.2.2.1 bt1152.2.2.2.2 t1160).bind fun t1163 => (if (t1163 != t1151) = true then (some false) else ((laws_toTimed.f k a0_0 a0_1 a0_2 a0_3 l0_4).bind fun bt1164 => ((laws_eqTimed.f k bt1152.1 bt1152.2.1 bt1152.2.2.1 bt1152.2.2.2.1 bt1152.2.2.2.2 bt1164.1 bt1164.2.1 bt1164.2.2.1 bt1164.2.2.2.1 bt1164.2.2.2.2).bind fun t1171 => (if t1171 = true then ((laws_toEntryS.f k l1).bind fun t1172 => ((laws_eqEntryS.f k t1160 t1172).bind fun t1175 => (if t1175 = true then (some true) else (some false)))) else (some false))))))))) = some true := H
   have A14 := aK A140
   clear A140
   replace H := Option.bind_eq_some_iff.mp H
   obtain ⟨t1151, A150, H⟩ := H
   replace H : ((laws_toTimed.f k a0_0 a0_1 a0_2 a0_3 l0_4).bind fun bt1152 => ((laws_toEntryS.f k l1).bind fun t1160 => ((impl_IsTrueRecord.f k bt1152.1 bt1152.2.1 bt1152.2.2.1 bt1152.2.2.2.1 bt1152.2.2.2.2 t1160).bind fun t1163 => (if (t1163 != t1151) = true then (some false) else ((laws_toTimed.f k a0_0 a0_1 a0_2 a0_3 l0_4).bind fun bt1164 => ((laws_eqTimed.f k bt1152.1 bt1152.2.1 bt1152.2.2.1 bt1152.2.2.2.1 bt1152.2.2.2.2 bt1164.1 bt1164.2.1 bt1164.2.2.1 bt1164.2.2.2.1 bt1164.2.2.2.2).bind fun t1171 => (if t1171 = true then ((laws_toEntryS.f k l1).bind fun t1172 => ((laws_eqEntryS.f k t1160 t1172).bind fun t1175 => (if t1175 = true then (some true) else (some false)))) else (some false)))))))) = some true := H
   have A15 := aK A150
   clear A150
   replace H := Option.bind_eq_some_iff.mp H
   obtain ⟨⟨t1152, t1153, t1154, t1155, t1156⟩, A160, H⟩ := H
   replace H : ((laws_toEntryS.f k l1).bind fun t1160 => ((impl_IsTrueRecord.f k t1152 t1153 t1154 t1155 t1156 t1160).bind fun t1163 => (if (t1163 != t1151) = true then (some false) else ((laws_toTimed.f k a0_0 a0_1 a0_2 a0_3 l0_4).bind fun bt1164 => ((laws_eqTimed.f k t1152 t1153 t1154 t1155 t1156 bt1164.1 bt1164.2.1 bt1164.2.2.1 bt1164.2.2.2.1 bt1164.2.2.2.2).bind fun t1171 => (if t1171 = true then ((laws_toEntryS.f k l1).bind fun t1172 => ((laws_eqEntryS.f k t1160 t1172).bind fun t1175 => (if t1175 = true then (some true) else (some false)))) else (some false))))))) = some true := H
   have A16 := aK A160
   clear A160
   replace H := Option.bind_eq_some_iff.mp H
   obtain ⟨t1160, A170, H⟩ := H
   replace H : ((impl_IsTrueRecord.f k t1152 t1153 t1154 t1155 t1156 t1160).bind fun t1163 => (if (t1163 != t1151) = true then (some false) else ((laws_toTimed.f k a0_0 a0_1 a0_2 a0_3 l0_4).bind fun bt1164 => ((laws_eqTimed.f k t1152 t1153 t1154 t1155 t1156 bt1164.1 bt1164.2.1 bt1164.2.2.1 bt1164.2.2.2.1 bt1164.2.2.2.2).bind fun t1171 => (if t1171 = true then ((laws_toEntryS.f k l1).bind fun t1172 => ((laws_eqEntryS.f k t1160 t1172).bind fun t1175 => (if t1175 = true then (some true) else (some false)))) else (some false)))))) = some true := H
   have A17 := aK A170
   clear A170
   replace H := Option.bind_eq_some_iff.mp H
   obtain ⟨t1163, A180, H⟩ := H
   replace H : (if (t1163 != t1151) = true then (some false) else ((laws_toTimed.f k a0_0 a0_1 a0_2 a0_3 l0_4).bind fun bt1164 => ((laws_eqTimed.f k t1152 t1153 t1154 t1155 t1156 bt1164.1 bt1164.2.1 bt1164.2.2.1 bt1164.2.2.2.1 bt1164.2.2.2.2).bind fun t1171 => (if t1171 = true then ((laws_toEntryS.f k l1).bind fun t1172 => ((laws_eqEntryS.f k t1160 t1172).bind fun t1175 => (if t1175 = true then (some true) else (some false)))) else (some false))))) = some true := H
   have A18 := aK A180
   clear A180
   by_cases c19 : (t1163 != t1151) = true
   ·rw [if_pos c19] at H
    have c19b0 : (t1163 != t1151) = true := c19
    (try (have c19b1 : decide (t1163 = t1151) = false := by simpa using c19))
    (try (have c19b2 : (t1163 == t1151) = false := by simpa using c19))
    (try (have c19b3 : ¬ (t1163 = t1151) := by simpa using c19))
    clear c19
    exact absurd (Option.some.inj H) Bool.false_ne_true
   ·rw [if_neg c19] at H
    have c19b0 : (t1163 != t1151) = false := by simpa using c19
    (try (have c19b1 : decide (t1163 = t1151) = true := by simpa using c19))
    (try (have c19b2 : (t1163 == t1151) = true := by simpa using c19))
    clear c19
    replace H := Option.bind_eq_some_iff.mp H
    obtain ⟨⟨t1164, t1165, t1166, t1167, t1168⟩, A200, H⟩ := H
    replace H : ((laws_eqTimed.f k t1152 t1153 t1154 t1155 t1156 t1164 t1165 t1166 t1167 t1168).bind fun t1171 => (if t1171 = true then ((laws_toEntryS.f k l1).bind fun t1172 => ((laws_eqEntryS.f k t1160 t1172).bind fun t1175 => (if t1175 = true then (some true) else (some false)))) else (some false))) = some true := H
    have A20 := aK A200
    clear A200
    replace H := Option.bind_eq_some_iff.mp H
    obtain ⟨t1171, A210, H⟩ := H
    replace H : (if t1171 = true then ((laws_toEntryS.f k l1).bind fun t1172 => ((laws_eqEntryS.f k t1160 t1172).bind fun t1175 => (if t1175 = true then (some true) else (some false)))) else (some false)) = some true := H
    have A21 := aK A210
    clear A210
    by_cases c22 : t1171 = true
    ·subst c22
     have H1 : ((laws_toEntryS.f k l1).bind fun t1172 => ((laws_eqEntryS.f k t1160 t1172).bind fun t1175 => (if t1175 = true then (some true) else (some false)))) = some true := by first | (rw [if_pos rfl] at H; exact H) | rfl
     clear H
     have H := H1
     clear H1
     replace H := Option.bind_eq_some_iff.mp H
     obtain ⟨t1172, A230, H⟩ := H
     replace H : ((laws_eqEntryS.f k t1160 t1172).bind fun t1175 => (if t1175 = true then (some true) else (some false))) = some true := H
     have A23 := aK A230
     clear A230
     replace H := Option.bind_eq_some_iff.mp H
     obtain ⟨t1175, A240, H⟩ := H
     replace H : (if t1175 = true then (some true) else (some false)) = some true := H
     have A24 := aK A240
     clear A240
     by_cases c25 : t1175 = true
     ·subst c25
      have H1 : (some true) = some true := by first | (rw [if_pos rfl] at H; exact H) | rfl
      clear H
      have H := H1
      clear H1
      go_enter Try.func13, Try.ntmps13
      try go_wp2_with (first | ((with_reducible refine gate_dst (N := 2) rfl ?_); refine box_event ?hg (N := 2) ?hd (cs := #[.int .i64 a0_0, .int .i64 a0_1, .int .i64 a0_2, .int .i64 a0_3, .slice A0_4 l0_4.length c0_4]) (t := 51) ?hr ?_; (case hd => rfl); (case hg => rfl); (case hr => first | (go_simp; done) | (go_simp; rfl)); intro gb1138 hg w26 hbox hb; have n0_ := aK (bSp (by repeat (first | (with_reducible first | exact HB.out | apply bAl | apply bDN | apply bD1) | exact HB.out)) hb); have n1_ := aK (hbox); have n2_ := aK ((by rw [hg]; exact (bSz (by repeat (first | (with_reducible first | exact HB.out | apply bAl | apply bDN | apply bD1) | exact HB.out))) : w.heap.size ≤ gb1138)); have n3_ := n2_; clear HB; have HB := n0_; have BK1138 := n1_; have GW1138 := n2_; have GE1138 := n3_; clear n0_ n1_ n2_ n3_; clear hb hbox hg; obtain ⟨hcz27_0, hcz27_1, hcz27_2, hcz27_3, hcz27_4, hfz27_0, hfz27_1, hfz27_2, hfz27_3, hfz27_4⟩ := cl5 BK1138.out) | ((with_reducible refine gate_callee (f := 34) rfl ?_); refine goesL_ (some 12) rfl rfl Try.func34 (by kernel_rfl) rfl #[.agg #[.int .i64 a0_0, .int .i64 a0_1, .int .i64 a0_2, .int .i64 a0_3, .slice A0_4 l0_4.length c0_4], .int .i64 1048576] rfl (by (try simp only [List.map_toArray, List.map_cons, List.map_nil]); first | done | rfl | (simp only [List.length_drop, List.length_take]; rfl)) ?_; (with_reducible refine (laws_szTimed.calls a0_0 a0_1 a0_2 a0_3 _ _ l0_4 1048576 t1139 _ ?side1 ?side2 A3.out).mono ?_); (case side1 => repeat (first | exact (Kd.C_below HR0_4.out HB.out) | (with_reducible refine Kd.C_alloc ?_ _) | (with_reducible refine Kd.C_drewN ?_ _) | (with_reducible refine Kd.C_drew ?_))); (case side2 => exact HC0_4.out); rintro e w28 ⟨rfl, hb⟩; refine ⟨_, rfl, ?_⟩; have n0_ := bkb BK1138 hb (by intro z_; (with_reducible repeat (first | refine kDN ?_ _ | refine kD ?_ | refine kA ?_ _)); exact z_); have n1_ := aK (bSp (by repeat (first | (with_reducible first | exact HB.out | apply bAl | apply bDN | apply bD1 | refine bSt ?_ GE1138.out) | exact HB.out)) hb); clear BK1138; clear HB; have BK1138 := n0_; have HB := n1_; clear n0_ n1_; (try clear hb); (try clear hb2); (try clear hk); (try clear hi)) | ((with_reducible refine gate_callee (f := 50) rfl ?_); refine goesL_ (some 17) rfl rfl Try.func50 (by kernel_rfl) rfl #[.slice A1 l1.length c1, .int .i64 t1139] rfl (by (try simp only [List.map_toArray, List.map_cons, List.map_nil]); first | done | rfl | (simp only [List.length_drop, List.length_take]; rfl)) ?_; (with_reducible refine (laws_szEntryS.calls _ _ l1 t1139 t1140 _ ?side1 ?side2 A8.out).mono ?_); (case side1 => repeat (first | exact (Kd.C_below HR1.out HB.out) | (with_reducible refine Kd.C_alloc ?_ _) | (with_reducible refine Kd.C_drewN ?_ _) | (with_reducible refine Kd.C_drew ?_))); (case side2 => exact HC1.out); rintro e w' ⟨rfl, ⟨nd, rfl⟩⟩; refine ⟨_, rfl, ?_⟩; (try (rw [drewN_self w28]; generalize hq_ : World.drewN w28 _ = w28; have n0_ : Aside0 (w28.heap[gb1138]? = some (.cells #[.int .i64 a0_0, .int .i64 a0_1, .int .i64 a0_2, .int .i64 a0_3, .slice A0_4 l0_4.length c0_4] 51 (0, 0))) := ⟨by rw [← hq_]; exact (by (with_reducible repeat (first | refine kDN ?_ _ | refine kD ?_ | refine kA ?_ _)); exact BK1138.out)⟩; have n1_ : Aside0 (Below w.heap.size w w28) := ⟨by rw [← hq_]; exact (by repeat (first | (with_reducible first | exact HB.out | apply bAl | apply bDN | apply bD1 | refine bSt ?_ GE1138.out) | exact HB.out))⟩; clear BK1138 HB hq_; have BK1138 := n0_; have HB := n1_; clear n0_ n1_)); obtain ⟨hcz29_0, hcz29_1, hcz29_2, hcz29_3, hcz29_4, hfz29_0, hfz29_1, hfz29_2, hfz29_3, hfz29_4⟩ := cl5 BK1138.out) | ((with_reducible refine gate_callee (f := 36) rfl ?_); refine goesL_ (some 21) rfl rfl Try.func36 (by kernel_rfl) rfl #[.agg #[.int .i64 a0_0, .int .i64 a0_1, .int .i64 a0_2, .int .i64 a0_3, .slice A0_4 l0_4.length c0_4]] rfl (by (try simp only [List.map_toArray, List.map_cons, List.map_nil]); first | done | rfl | (simp only [List.length_drop, List.length_take]; rfl)) ?_; (with_reducible refine (laws_toTimed.calls k a0_0 a0_1 a0_2 a0_3 _ _ l0_4 t1141 t1142 t1143 t1144 t1145 _ ?side1 ?side2 A13.out).mono ?_); (case side1 => repeat (first | exact (Kd.C_below HR0_4.out HB.out) | (with_reducible refine Kd.C_alloc ?_ _) | (with_reducible refine Kd.C_drewN ?_ _) | (with_reducible refine Kd.C_drew ?_))); (case side2 => exact HC0_4.out); rintro e w30 ⟨v1146, rfl, ho0, hb⟩; refine ⟨_, rfl, ?_⟩; have n0_ := aK (Kd.R_lower ho0 (bSz (by repeat (first | (with_reducible first | exact HB.out | apply bAl | apply bDN | apply bD1 | refine bSt ?_ GE1138.out) | exact HB.out)))); have n1_ := bkb BK1138 hb (by intro z_; (with_reducible repeat (first | refine kDN ?_ _ | refine kD ?_ | refine kA ?_ _)); exact z_); have n2_ := aK (bSp (by repeat (first | (with_reducible first | exact HB.out | apply bAl | apply bDN | apply bD1 | refine bSt ?_ GE1138.out) | exact HB.out)) hb); clear BK1138; clear HB; have HO1147 := n0_; have BK1138 := n1_; have HB := n2_; clear n0_ n1_ n2_; (try clear hb); (try clear hb2); (try clear hk); (try clear hi); (try clear ho0)) | ((with_reducible refine gate_callee (f := 52) rfl ?_); refine goesL_ (some 23) rfl rfl Try.func52 (by kernel_rfl) rfl #[.slice A1 l1.length c1] rfl (by (try simp only [List.map_toArray, List.map_cons, List.map_nil]); first | done | rfl | (simp only [List.length_drop, List.length_take]; rfl)) ?_; (with_reducible refine (laws_toEntryS.calls k _ _ l1 t1148 _ ?side1 ?side2 A14.out).mono ?_); (case side1 => repeat (first | exact (Kd.C_below HR1.out HB.out) | (with_reducible refine Kd.C_alloc ?_ _) | (with_reducible refine Kd.C_drewN ?_ _) | (with_reducible refine Kd.C_drew ?_))); (case side2 => exact HC1.out); rintro e w31 ⟨v1149, rfl, ho0, hb⟩; refine ⟨_, rfl, ?_⟩; have n0_ := aK (Kd.R_below (by (with_reducible repeat (first | apply Kd.R_alloc | apply Kd.R_drewN | apply Kd.R_drew)); exact HO1147.out) hb); have n1_ := aK (Kd.R_lower ho0 (bSz (by repeat (first | (with_reducible first | exact HB.out | apply bAl | apply bDN | apply bD1 | refine bSt ?_ GE1138.out) | exact HB.out)))); have n2_ := bkb BK1138 hb (by intro z_; (with_reducible repeat (first | refine kDN ?_ _ | refine kD ?_ | refine kA ?_ _)); exact z_); have n3_ := aK (bSp (by repeat (first | (with_reducible first | exact HB.out | apply bAl | apply bDN | apply bD1 | refine bSt ?_ GE1138.out) | exact HB.out)) hb); clear HO1147; clear BK1138; clear HB; have HO1147 := n0_; have HO1150 := n1_; have BK1138 := n2_; have HB := n3_; clear n0_ n1_ n2_ n3_; (try clear hb); (try clear hb2); (try clear hk); (try clear hi); (try clear ho0); obtain ⟨Ao32, co32, eo32⟩ := Kd.R_slice HO1147.out; subst eo32; obtain ⟨Ao33, co33, eo33⟩ := Kd.R_slice HO1150.out; subst eo33) | ((with_reducible refine gate_callee (f := 55) rfl ?_); refine goesL_ (some 24) rfl rfl Try.func55 (by kernel_rfl) rfl #[.agg #[.int .i64 t1141, .int .i64 t1142, .int .i64 t1143, .int .i64 t1144, .slice Ao32 t1145.length co32], .slice Ao33 t1148.length co33] rfl (by (try simp only [List.map_toArray, List.map_cons, List.map_nil]); first | done | rfl | (simp only [List.length_drop, List.length_take]; rfl)) ?_; (with_reducible refine (spec_IsTrueRecord.calls k t1141 t1142 t1143 t1144 _ _ t1145 _ _ t1148 t1151 _ ?side1 ?side2 ?side3 ?side4 A15.out).mono ?_); (case side1 => repeat (first | exact (Kd.R_reads' HO1147.out).2.2 | (with_reducible refine Kd.C_alloc ?_ _) | (with_reducible refine Kd.C_drewN ?_ _) | (with_reducible refine Kd.C_drew ?_))); (case side2 => exact (Kd.R_reads' HO1147.out).2.1); (case side3 => repeat (first | exact (Kd.R_reads' HO1150.out).2.2 | (with_reducible refine Kd.C_alloc ?_ _) | (with_reducible refine Kd.C_drewN ?_ _) | (with_reducible refine Kd.C_drew ?_))); (case side4 => exact (Kd.R_reads' HO1150.out).2.1); rintro e w34 ⟨rfl, hb⟩; refine ⟨_, rfl, ?_⟩; have n0_ := aK (Kd.R_below (by (with_reducible repeat (first | apply Kd.R_alloc | apply Kd.R_drewN | apply Kd.R_drew)); exact HO1147.out) hb); have n1_ := aK (Kd.R_below (by (with_reducible repeat (first | apply Kd.R_alloc | apply Kd.R_drewN | apply Kd.R_drew)); exact HO1150.out) hb); have n2_ := bkb BK1138 hb (by intro z_; (with_reducible repeat (first | refine kDN ?_ _ | refine kD ?_ | refine kA ?_ _)); exact z_); have n3_ := aK (bSp (by repeat (first | (with_reducible first | exact HB.out | apply bAl | apply bDN | apply bD1 | refine bSt ?_ GE1138.out) | exact HB.out)) hb); clear HO1147; clear HO1150; clear BK1138; clear HB; have HO1147 := n0_; have HO1150 := n1_; have BK1138 := n2_; have HB := n3_; clear n0_ n1_ n2_ n3_; (try clear hb); (try clear hb2); (try clear hk); (try clear hi); obtain ⟨hcz35_0, hcz35_1, hcz35_2, hcz35_3, hcz35_4, hfz35_0, hfz35_1, hfz35_2, hfz35_3, hfz35_4⟩ := cl5 BK1138.out) | ((with_reducible refine gate_callee (f := 36) rfl ?_); refine goesL_ (some 26) rfl rfl Try.func36 (by kernel_rfl) rfl #[.agg #[.int .i64 a0_0, .int .i64 a0_1, .int .i64 a0_2, .int .i64 a0_3, .slice A0_4 l0_4.length c0_4]] rfl (by (try simp only [List.map_toArray, List.map_cons, List.map_nil]); first | done | rfl | (simp only [List.length_drop, List.length_take]; rfl)) ?_; (with_reducible refine (laws_toTimed.calls k a0_0 a0_1 a0_2 a0_3 _ _ l0_4 t1152 t1153 t1154 t1155 t1156 _ ?side1 ?side2 A16.out).mono ?_); (case side1 => repeat (first | exact (Kd.C_below HR0_4.out HB.out) | (with_reducible refine Kd.C_alloc ?_ _) | (with_reducible refine Kd.C_drewN ?_ _) | (with_reducible refine Kd.C_drew ?_))); (case side2 => exact HC0_4.out); rintro e w36 ⟨v1157, rfl, ho0, hb⟩; refine ⟨_, rfl, ?_⟩; have n0_ := aK (Kd.R_elder' (by (with_reducible repeat (first | apply Kd.R_alloc | apply Kd.R_drewN | apply Kd.R_drew)); exact HO1147.out) (Kd.R_base ho0) hb); have n1_ := aK (Kd.R_below (by (with_reducible repeat (first | apply Kd.R_alloc | apply Kd.R_drewN | apply Kd.R_drew)); exact HO1150.out) hb); have n2_ := aK (Kd.R_lower (Kd.R_new' ho0 (Kd.R_lt (by (with_reducible repeat (first | apply Kd.R_alloc | apply Kd.R_drewN | apply Kd.R_drew)); exact HO1147.out))) (bSz (by repeat (first | (with_reducible first | exact HB.out | apply bAl | apply bDN | apply bD1 | refine bSt ?_ GE1138.out) | exact HB.out)))); have n3_ := bkb BK1138 hb (by intro z_; (with_reducible repeat (first | refine kDN ?_ _ | refine kD ?_ | refine kA ?_ _)); exact z_); have n4_ := aK (bSp (by repeat (first | (with_reducible first | exact HB.out | apply bAl | apply bDN | apply bD1 | refine bSt ?_ GE1138.out) | exact HB.out)) hb); clear HO1147; clear HO1150; clear BK1138; clear HB; have HO1147 := n0_; have HO1150 := n1_; have HO1158 := n2_; have BK1138 := n3_; have HB := n4_; clear n0_ n1_ n2_ n3_ n4_; (try clear hb); (try clear hb2); (try clear hk); (try clear hi); (try clear ho0)) | ((with_reducible refine gate_dst (N := 7) rfl ?_); refine box_event ?hg (N := 7) ?hd (cs := #[.int .i64 0, .int .i64 0, .int .i64 0, .int .i64 0, .slice none 0 0]) (t := 58) ?hr ?_; (case hd => rfl); (case hg => rfl); (case hr => first | (go_simp; done) | (go_simp; rfl)); intro gb1159 hg w37 hbox hb; have n0_ := aK (Kd.R_below (by (with_reducible repeat (first | apply Kd.R_alloc | apply Kd.R_drewN | apply Kd.R_drew)); exact HO1147.out) hb); have n1_ := aK (Kd.R_below (by (with_reducible repeat (first | apply Kd.R_alloc | apply Kd.R_drewN | apply Kd.R_drew)); exact HO1150.out) hb); have n2_ := aK (Kd.R_below (by (with_reducible repeat (first | apply Kd.R_alloc | apply Kd.R_drewN | apply Kd.R_drew)); exact HO1158.out) hb); have n3_ := bkb BK1138 hb (by intro z_; (with_reducible repeat (first | refine kDN ?_ _ | refine kD ?_ | refine kA ?_ _)); exact z_); have n4_ := aK (bSp (by repeat (first | (with_reducible first | exact HB.out | apply bAl | apply bDN | apply bD1 | refine bSt ?_ GE1138.out) | exact HB.out)) hb); have n5_ := aK (hbox); have n6_ := aK ((by rw [hg]; exact (bSz (by repeat (first | (with_reducible first | exact HB.out | apply bAl | apply bDN | apply bD1 | refine bSt ?_ GE1138.out) | exact HB.out))) : w.heap.size ≤ gb1159)); have n7_ := n6_; have n8_ := nbl BK1138 hg (by intro z_; (with_reducible repeat (first | refine kDN ?_ _ | refine kD ?_ | refine kA ?_ _)); exact z_); have n9_ := nbs n8_; clear HO1147; clear HO1150; clear HO1158; clear BK1138; clear HB; have HO1147 := n0_; have HO1150 := n1_; have HO1158 := n2_; have BK1138 := n3_; have HB := n4_; have BK1159 := n5_; have GW1159 := n6_; have GE1159 := n7_; have NB1138_1159 := n8_; have NB1159_1138 := n9_; clear n0_ n1_ n2_ n3_ n4_ n5_ n6_ n7_ n8_ n9_; clear hb hbox hg; have hnb38 := NB1159_1138.out; have hnc38 := NB1138_1159.out; obtain ⟨hcz39_0, hcz39_1, hcz39_2, hcz39_3, hcz39_4, hfz39_0, hfz39_1, hfz39_2, hfz39_3, hfz39_4⟩ := cl5 BK1159.out; obtain ⟨Ao40, co40, eo40⟩ := Kd.R_slice HO1158.out; subst eo40) | ((with_reducible refine gate_callee (f := 52) rfl ?_); refine goesL_ (some 28) rfl rfl Try.func52 (by kernel_rfl) rfl #[.slice A1 l1.length c1] rfl (by (try simp only [List.map_toArray, List.map_cons, List.map_nil]); first | done | rfl | (simp only [List.length_drop, List.length_take]; rfl)) ?_; (with_reducible refine (laws_toEntryS.calls k _ _ l1 t1160 _ ?side1 ?side2 A17.out).mono ?_); (case side1 => exact Kd.C_below HR1.out (by repeat (first | (with_reducible first | exact HB.out | apply bAl | apply bDN | apply bD1 | refine bSt ?_ GE1138.out | refine bSt ?_ GE1159.out) | exact HB.out))); (case side2 => exact HC1.out); rintro e w41 ⟨v1161, rfl, ho0, hb⟩; refine ⟨_, rfl, ?_⟩; have n0_ := aK (Kd.R_below (by (with_reducible repeat (first | apply Kd.R_alloc | apply Kd.R_drewN | apply Kd.R_drew)); exact (Kd.R_mono (Kd.R_far (p := ⟨gb1159, 4, none⟩) (Kd.R_far (p := ⟨gb1159, 3, none⟩) (Kd.R_far (p := ⟨gb1159, 2, none⟩) (Kd.R_far (p := ⟨gb1159, 1, none⟩) (Kd.R_far (p := ⟨gb1159, 0, none⟩) (Kd.R_types HO1147.out BK1159.out (by decide)) (fun _ hk => hk.2) (.int .i64 t1152)) (fun _ hk => hk.2) (.int .i64 t1153)) (fun _ hk => hk.2) (.int .i64 t1154)) (fun _ hk => hk.2) (.int .i64 t1155)) (fun _ hk => hk.2) (.slice Ao40 t1156.length co40)) (fun _ h_ => h_.1))) hb); have n1_ := aK (Kd.R_elder' (by (with_reducible repeat (first | apply Kd.R_alloc | apply Kd.R_drewN | apply Kd.R_drew)); exact (Kd.R_mono (Kd.R_far (p := ⟨gb1159, 4, none⟩) (Kd.R_far (p := ⟨gb1159, 3, none⟩) (Kd.R_far (p := ⟨gb1159, 2, none⟩) (Kd.R_far (p := ⟨gb1159, 1, none⟩) (Kd.R_far (p := ⟨gb1159, 0, none⟩) (Kd.R_types HO1150.out BK1159.out (by decide)) (fun _ hk => hk.2) (.int .i64 t1152)) (fun _ hk => hk.2) (.int .i64 t1153)) (fun _ hk => hk.2) (.int .i64 t1154)) (fun _ hk => hk.2) (.int .i64 t1155)) (fun _ hk => hk.2) (.slice Ao40 t1156.length co40)) (fun _ h_ => h_.1))) (Kd.R_base ho0) hb); have n2_ := aK (Kd.R_below (by (with_reducible repeat (first | apply Kd.R_alloc | apply Kd.R_drewN | apply Kd.R_drew)); exact (Kd.R_mono (Kd.R_far (p := ⟨gb1159, 4, none⟩) (Kd.R_far (p := ⟨gb1159, 3, none⟩) (Kd.R_far (p := ⟨gb1159, 2, none⟩) (Kd.R_far (p := ⟨gb1159, 1, none⟩) (Kd.R_far (p := ⟨gb1159, 0, none⟩) (Kd.R_types HO1158.out BK1159.out (by decide)) (fun _ hk => hk.2) (.int .i64 t1152)) (fun _ hk => hk.2) (.int .i64 t1153)) (fun _ hk => hk.2) (.int .i64 t1154)) (fun _ hk => hk.2) (.int .i64 t1155)) (fun _ hk => hk.2) (.slice Ao40 t1156.length co40)) (fun _ h_ => h_.1))) hb); have n3_ := aK (Kd.R_lower (Kd.R_new' ho0 (Kd.R_lt (by (with_reducible repeat (first | apply Kd.R_alloc | apply Kd.R_drewN | apply Kd.R_drew)); exact (Kd.R_mono (Kd.R_far (p := ⟨gb1159, 4, none⟩) (Kd.R_far (p := ⟨gb1159, 3, none⟩) (Kd.R_far (p := ⟨gb1159, 2, none⟩) (Kd.R_far (p := ⟨gb1159, 1, none⟩) (Kd.R_far (p := ⟨gb1159, 0, none⟩) (Kd.R_types HO1150.out BK1159.out (by decide)) (fun _ hk => hk.2) (.int .i64 t1152)) (fun _ hk => hk.2) (.int .i64 t1153)) (fun _ hk => hk.2) (.int .i64 t1154)) (fun _ hk => hk.2) (.int .i64 t1155)) (fun _ hk => hk.2) (.slice Ao40 t1156.length co40)) (fun _ h_ => h_.1))))) (bSz (by repeat (first | (with_reducible first | exact HB.out | apply bAl | apply bDN | apply bD1 | refine bSt ?_ GE1138.out | refine bSt ?_ GE1159.out) | exact HB.out)))); have n4_ := bkb BK1138 hb (by intro z_; (with_reducible repeat (first | refine kDN ?_ _ | refine kD ?_ | refine kA ?_ _)); refine blk_far ?_ NB1138_1159.out _; (with_reducible repeat (first | refine kDN ?_ _ | refine kD ?_ | refine kA ?_ _)); refine blk_far ?_ NB1138_1159.out _; (with_reducible repeat (first | refine kDN ?_ _ | refine kD ?_ | refine kA ?_ _)); refine blk_far ?_ NB1138_1159.out _; (with_reducible repeat (first | refine kDN ?_ _ | refine kD ?_ | refine kA ?_ _)); refine blk_far ?_ NB1138_1159.out _; (with_reducible repeat (first | refine kDN ?_ _ | refine kD ?_ | refine kA ?_ _)); refine blk_far ?_ NB1138_1159.out _; (with_reducible repeat (first | refine kDN ?_ _ | refine kD ?_ | refine kA ?_ _)); exact z_); have n5_ := aK (blk_below (g := gb1159) (o := .cells #[.int .i64 t1152, .int .i64 t1153, .int .i64 t1154, .int .i64 t1155, .slice Ao40 t1156.length co40] 58 (0, 0)) (by (with_reducible repeat (first | refine kDN ?_ _ | refine kD ?_ | refine kA ?_ _)); refine blk_put (cs := #[.int .i64 t1152, .int .i64 t1153, .int .i64 t1154, .int .i64 t1155, .slice none 0 0]) ?_ 4 _ rfl; (with_reducible repeat (first | refine kDN ?_ _ | refine kD ?_ | refine kA ?_ _)); refine blk_put (cs := #[.int .i64 t1152, .int .i64 t1153, .int .i64 t1154, .int .i64 0, .slice none 0 0]) ?_ 3 _ rfl; (with_reducible repeat (first | refine kDN ?_ _ | refine kD ?_ | refine kA ?_ _)); refine blk_put (cs := #[.int .i64 t1152, .int .i64 t1153, .int .i64 0, .int .i64 0, .slice none 0 0]) ?_ 2 _ rfl; (with_reducible repeat (first | refine kDN ?_ _ | refine kD ?_ | refine kA ?_ _)); refine blk_put (cs := #[.int .i64 t1152, .int .i64 0, .int .i64 0, .int .i64 0, .slice none 0 0]) ?_ 1 _ rfl; (with_reducible repeat (first | refine kDN ?_ _ | refine kD ?_ | refine kA ?_ _)); refine blk_put (cs := #[.int .i64 0, .int .i64 0, .int .i64 0, .int .i64 0, .slice none 0 0]) ?_ 0 _ rfl; (with_reducible repeat (first | refine kDN ?_ _ | refine kD ?_ | refine kA ?_ _)); exact BK1159.out) hb); have n6_ := aK (bSp (by repeat (first | (with_reducible first | exact HB.out | apply bAl | apply bDN | apply bD1 | refine bSt ?_ GE1138.out | refine bSt ?_ GE1159.out) | exact HB.out)) hb); clear HO1147; clear HO1150; clear HO1158; clear BK1138; clear BK1159; clear HB; have HO1147 := n0_; have HO1150 := n1_; have HO1158 := n2_; have HO1162 := n3_; have BK1138 := n4_; have BK1159 := n5_; have HB := n6_; clear n0_ n1_ n2_ n3_ n4_ n5_ n6_; (try clear hb); (try clear hb2); (try clear hk); (try clear hi); (try clear ho0); obtain ⟨hcz42_0, hcz42_1, hcz42_2, hcz42_3, hcz42_4, hfz42_0, hfz42_1, hfz42_2, hfz42_3, hfz42_4⟩ := cl5 BK1159.out; obtain ⟨Ao43, co43, eo43⟩ := Kd.R_slice HO1162.out; subst eo43) | ((with_reducible refine gate_callee (f := 56) rfl ?_); refine goesL_ (some 31) rfl rfl Try.func56 (by kernel_rfl) rfl #[.agg #[.int .i64 t1152, .int .i64 t1153, .int .i64 t1154, .int .i64 t1155, .slice Ao40 t1156.length co40], .slice Ao43 t1160.length co43] rfl (by (try simp only [List.map_toArray, List.map_cons, List.map_nil]); first | done | rfl | (simp only [List.length_drop, List.length_take]; rfl)) ?_; (with_reducible refine (impl_IsTrueRecord.calls k t1152 t1153 t1154 t1155 _ _ t1156 _ _ t1160 t1163 _ ?side1 ?side2 ?side3 ?side4 A18.out).mono ?_); (case side1 => repeat (first | exact (Kd.R_reads' HO1158.out).2.2 | (with_reducible refine Kd.C_alloc ?_ _) | (with_reducible refine Kd.C_drewN ?_ _) | (with_reducible refine Kd.C_drew ?_))); (case side2 => exact (Kd.R_reads' HO1158.out).2.1); (case side3 => repeat (first | exact (Kd.R_reads' HO1162.out).2.2 | (with_reducible refine Kd.C_alloc ?_ _) | (with_reducible refine Kd.C_drewN ?_ _) | (with_reducible refine Kd.C_drew ?_))); (case side4 => exact (Kd.R_reads' HO1162.out).2.1); rintro e w44 ⟨rfl, hb⟩; refine ⟨_, rfl, ?_⟩; have n0_ := aK (Kd.R_below (by (with_reducible repeat (first | apply Kd.R_alloc | apply Kd.R_drewN | apply Kd.R_drew)); exact HO1147.out) hb); have n1_ := aK (Kd.R_below (by (with_reducible repeat (first | apply Kd.R_alloc | apply Kd.R_drewN | apply Kd.R_drew)); exact HO1150.out) hb); have n2_ := aK (Kd.R_below (by (with_reducible repeat (first | apply Kd.R_alloc | apply Kd.R_drewN | apply Kd.R_drew)); exact HO1158.out) hb); have n3_ := aK (Kd.R_below (by (with_reducible repeat (first | apply Kd.R_alloc | apply Kd.R_drewN | apply Kd.R_drew)); exact HO1162.out) hb); have n4_ := bkb BK1138 hb (by intro z_; (with_reducible repeat (first | refine kDN ?_ _ | refine kD ?_ | refine kA ?_ _)); exact z_); have n5_ := bkb BK1159 hb (by intro z_; (with_reducible repeat (first | refine kDN ?_ _ | refine kD ?_ | refine kA ?_ _)); exact z_); have n6_ := aK (bSp (by repeat (first | (with_reducible first | exact HB.out | apply bAl | apply bDN | apply bD1 | refine bSt ?_ GE1138.out | refine bSt ?_ GE1159.out) | exact HB.out)) hb); clear HO1147; clear HO1150; clear HO1158; clear HO1162; clear BK1138; clear BK1159; clear HB; have HO1147 := n0_; have HO1150 := n1_; have HO1158 := n2_; have HO1162 := n3_; have BK1138 := n4_; have BK1159 := n5_; have HB := n6_; clear n0_ n1_ n2_ n3_ n4_ n5_ n6_; (try clear hb); (try clear hb2); (try clear hk); (try clear hi)))
      have n0_ := aK (Kd.R_drew HO1147.out)
      have n1_ := aK (Kd.R_drew HO1150.out)
      have n2_ := aK (Kd.R_drew HO1158.out)
      have n3_ := aK (Kd.R_drew HO1162.out)
      have n4_ := aK (kD BK1138.out)
      have n5_ := aK (kD BK1159.out)
      have n6_ := aK (bD1 HB.out)
      clear HO1147
      clear HO1150
      clear HO1158
      clear HO1162
      clear BK1138
      clear BK1159
      clear HB
      have HO1147 := n0_
      have HO1150 := n1_
      have HO1158 := n2_
      have HO1162 := n3_
      have BK1138 := n4_
      have BK1159 := n5_
      have HB := n6_
      clear n0_ n1_ n2_ n3_ n4_ n5_ n6_
      refine start_ (n := 5) (S := fun w' => w'.cell? ⟨gb1159, 0, none⟩ = some (.int .i64 t1152) ∧ w'.cell? ⟨gb1159, 1, none⟩ = some (.int .i64 t1153) ∧ w'.cell? ⟨gb1159, 2, none⟩ = some (.int .i64 t1154) ∧ w'.cell? ⟨gb1159, 3, none⟩ = some (.int .i64 t1155) ∧ w'.cell? ⟨gb1159, 4, none⟩ = some (.slice Ao40 t1156.length co40) ∧ w'.cell? ⟨gb1138, 0, none⟩ = some (.int .i64 a0_0) ∧ w'.cell? ⟨gb1138, 1, none⟩ = some (.int .i64 a0_1) ∧ w'.cell? ⟨gb1138, 2, none⟩ = some (.int .i64 a0_2) ∧ w'.cell? ⟨gb1138, 3, none⟩ = some (.int .i64 a0_3) ∧ w'.cell? ⟨gb1138, 4, none⟩ = some (.slice A0_4 l0_4.length c0_4)) (ds := []) #[bN,bN,bN,bN,bN] (by kernel_rfl) rfl rfl ⟨(kC BK1159.out 0).trans rfl, (kC BK1159.out 1).trans rfl, (kC BK1159.out 2).trans rfl, (kC BK1159.out 3).trans rfl, (kC BK1159.out 4).trans rfl, (kC BK1138.out 0).trans rfl, (kC BK1138.out 1).trans rfl, (kC BK1138.out 2).trans rfl, (kC BK1138.out 3).trans rfl, (kC BK1138.out 4).trans rfl⟩ (fun hHeld => ?_)
      generalize w44.drew = w45 at HO1147 HO1150 HO1158 HO1162 BK1138 BK1159 HB hHeld ⊢
      refine take_ (i := 0) (N := some 35) (v := ?_) (a' := ?_) #[bY,bN,bN,bN,bN] rfl rfl (by kernel_rfl) (fun _ _ _ h => h) (Or.inl ⟨by rfl, ?_⟩) hHeld ?_ ?_
      rotate_left
      ·rintro w' ⟨s0, s1, s2, s3, s4, s5, s6, s7, s8, s9⟩
       go_simp
       with_reducible rfl
      rotate_left
      ·simp only [Act.put, sTA, sZ, sS, i64_w, i32_w]
       rfl
      refine take_ (i := 1) (N := some 36) (v := ?_) (a' := ?_) #[bY,bY,bN,bN,bN] rfl rfl (by kernel_rfl) (fun _ _ _ h => h) (Or.inl ⟨by rfl, ?_⟩) hHeld ?_ ?_
      rotate_left
      ·rintro w' ⟨s0, s1, s2, s3, s4, s5, s6, s7, s8, s9⟩
       go_simp
       with_reducible rfl
      rotate_left
      ·simp only [Act.put, sTA, sZ, sS, i64_w, i32_w]
       rfl
      refine one_ (i := 2) (N := some 37) #[bY,bY,bY,bN,bN] rfl rfl (by kernel_rfl) (by decide) (fun K hK => ?_)
      refine goes_ Try.func36 (by kernel_rfl) rfl #[.agg #[.int .i64 a0_0, .int .i64 a0_1, .int .i64 a0_2, .int .i64 a0_3, .slice A0_4 l0_4.length c0_4]] (by rfl) rfl rfl (by (try simp only [List.map_toArray, List.map_cons, List.map_nil]); first | done | rfl | (simp only [List.length_drop, List.length_take]; rfl)) ?_
      with_reducible refine (laws_toTimed.calls k a0_0 a0_1 a0_2 a0_3 _ _ l0_4 t1164 t1165 t1166 t1167 t1168 _ ?side1 ?side2 A20.out).mono ?_
      (case side1 => repeat (first | exact (Kd.C_below HR0_4.out HB.out) | (with_reducible refine Kd.C_alloc ?_ _) | (with_reducible refine Kd.C_drewN ?_ _) | (with_reducible refine Kd.C_drew ?_)))
      (case side2 => exact HC0_4.out)
      rintro e w46 ⟨v1169, rfl, ho0, hb⟩
      refine ⟨_, rfl, ?_⟩
      have n0_ := aK (Kd.R_elder' (by (with_reducible repeat (first | apply Kd.R_alloc | apply Kd.R_drewN | apply Kd.R_drew)); exact HO1147.out) (Kd.R_base ho0) hb)
      have n1_ := aK (Kd.R_below (by (with_reducible repeat (first | apply Kd.R_alloc | apply Kd.R_drewN | apply Kd.R_drew)); exact HO1150.out) hb)
      have n2_ := aK (Kd.R_elder' (by (with_reducible repeat (first | apply Kd.R_alloc | apply Kd.R_drewN | apply Kd.R_drew)); exact HO1158.out) (Kd.R_base ho0) hb)
      have n3_ := aK (Kd.R_below (by (with_reducible repeat (first | apply Kd.R_alloc | apply Kd.R_drewN | apply Kd.R_drew)); exact HO1162.out) hb)
      have n4_ := aK (Kd.R_lower (Kd.R_new' (Kd.R_new' ho0 (Kd.R_lt (by (with_reducible repeat (first | apply Kd.R_alloc | apply Kd.R_drewN | apply Kd.R_drew)); exact HO1147.out))) (Kd.R_lt (by (with_reducible repeat (first | apply Kd.R_alloc | apply Kd.R_drewN | apply Kd.R_drew)); exact HO1158.out))) (bSz (by repeat (first | (with_reducible first | exact HB.out | apply bAl | apply bDN | apply bD1 | refine bSt ?_ GE1138.out | refine bSt ?_ GE1159.out) | exact HB.out))))
      have n5_ := bkb BK1138 hb (by intro z_; (with_reducible repeat (first | refine kDN ?_ _ | refine kD ?_ | refine kA ?_ _)); exact z_)
      have n6_ := bkb BK1159 hb (by intro z_; (with_reducible repeat (first | refine kDN ?_ _ | refine kD ?_ | refine kA ?_ _)); exact z_)
      have n7_ := aK (bSp (by repeat (first | (with_reducible first | exact HB.out | apply bAl | apply bDN | apply bD1 | refine bSt ?_ GE1138.out | refine bSt ?_ GE1159.out) | exact HB.out)) hb)
      clear HO1147
      clear HO1150
      clear HO1158
      clear HO1162
      clear BK1138
      clear BK1159
      clear HB
      have HO1147 := n0_
      have HO1150 := n1_
      have HO1158 := n2_
      have HO1162 := n3_
      have HO1170 := n4_
      have BK1138 := n5_
      have BK1159 := n6_
      have HB := n7_
      clear n0_ n1_ n2_ n3_ n4_ n5_ n6_ n7_
      (try clear hb)
      (try clear hb2)
      (try clear hk)
      (try clear hi)
      (try clear ho0)
      obtain ⟨Ao47, co47, eo47⟩ := Kd.R_slice HO1170.out
      (first | subst eo47 | (injection eo47 with f1_ f2_ f3_; have f4_ := f1_.symm; have f5_ := f3_.symm; clear f1_ f2_ f3_; subst f4_; subst f5_))
      refine hK.out _ _ ⟨(kC BK1159.out 0).trans rfl, (kC BK1159.out 1).trans rfl, (kC BK1159.out 2).trans rfl, (kC BK1159.out 3).trans rfl, (kC BK1159.out 4).trans rfl, (kC BK1138.out 0).trans rfl, (kC BK1138.out 1).trans rfl, (kC BK1138.out 2).trans rfl, (kC BK1138.out 3).trans rfl, (kC BK1138.out 4).trans rfl⟩ (fun hHeld => ?_)
      clear hK K
      refine norm_ (a' := ?_) ?_ ?_
      rotate_left
      ·show Act.put _ (some 37) _ = _
       simp only [Act.put, sTA, sZ, sS, i64_w, i32_w]
       rfl
      refine one_ (i := 3) (N := some 38) #[bY,bY,bY,bY,bN] rfl rfl (by kernel_rfl) (by decide) (fun K hK => ?_)
      refine goes_ Try.func39 (by kernel_rfl) rfl #[.agg #[.int .i64 t1152, .int .i64 t1153, .int .i64 t1154, .int .i64 t1155, .slice Ao40 t1156.length co40], .agg #[.int .i64 t1164, .int .i64 t1165, .int .i64 t1166, .int .i64 t1167, .slice Ao47 t1168.length co47]] (by rfl) rfl rfl (by (try simp only [List.map_toArray, List.map_cons, List.map_nil]); first | done | rfl | (simp only [List.length_drop, List.length_take]; rfl)) ?_
      with_reducible refine (laws_eqTimed.calls k t1152 t1153 t1154 t1155 _ _ t1156 t1164 t1165 t1166 t1167 _ _ t1168 true _ ?side1 ?side2 ?side3 ?side4 A21.out).mono ?_
      (case side1 => repeat (first | exact (Kd.R_reads' HO1158.out).2.2 | (with_reducible refine Kd.C_alloc ?_ _) | (with_reducible refine Kd.C_drewN ?_ _) | (with_reducible refine Kd.C_drew ?_)))
      (case side2 => exact (Kd.R_reads' HO1158.out).2.1)
      (case side3 => repeat (first | exact (Kd.R_reads' HO1170.out).2.2 | (with_reducible refine Kd.C_alloc ?_ _) | (with_reducible refine Kd.C_drewN ?_ _) | (with_reducible refine Kd.C_drew ?_)))
      (case side4 => exact (Kd.R_reads' HO1170.out).2.1)
      rintro e w48 ⟨rfl, hb⟩
      refine ⟨_, rfl, ?_⟩
      have n0_ := aK (Kd.R_below (by (with_reducible repeat (first | apply Kd.R_alloc | apply Kd.R_drewN | apply Kd.R_drew)); exact HO1147.out) hb)
      have n1_ := aK (Kd.R_below (by (with_reducible repeat (first | apply Kd.R_alloc | apply Kd.R_drewN | apply Kd.R_drew)); exact HO1150.out) hb)
      have n2_ := aK (Kd.R_below (by (with_reducible repeat (first | apply Kd.R_alloc | apply Kd.R_drewN | apply Kd.R_drew)); exact HO1158.out) hb)
      have n3_ := aK (Kd.R_below (by (with_reducible repeat (first | apply Kd.R_alloc | apply Kd.R_drewN | apply Kd.R_drew)); exact HO1162.out) hb)
      have n4_ := aK (Kd.R_below (by (with_reducible repeat (first | apply Kd.R_alloc | apply Kd.R_drewN | apply Kd.R_drew)); exact HO1170.out) hb)
      have n5_ := bkb BK1138 hb (by intro z_; (with_reducible repeat (first | refine kDN ?_ _ | refine kD ?_ | refine kA ?_ _)); exact z_)
      have n6_ := bkb BK1159 hb (by intro z_; (with_reducible repeat (first | refine kDN ?_ _ | refine kD ?_ | refine kA ?_ _)); exact z_)
      have n7_ := aK (bSp (by repeat (first | (with_reducible first | exact HB.out | apply bAl | apply bDN | apply bD1 | refine bSt ?_ GE1138.out | refine bSt ?_ GE1159.out) | exact HB.out)) hb)
      clear HO1147
      clear HO1150
      clear HO1158
      clear HO1162
      clear HO1170
      clear BK1138
      clear BK1159
      clear HB
      have HO1147 := n0_
      have HO1150 := n1_
      have HO1158 := n2_
      have HO1162 := n3_
      have HO1170 := n4_
      have BK1138 := n5_
      have BK1159 := n6_
      have HB := n7_
      clear n0_ n1_ n2_ n3_ n4_ n5_ n6_ n7_
      (try clear hb)
      (try clear hb2)
      (try clear hk)
      (try clear hi)
      refine hK.out _ _ ⟨(kC BK1159.out 0).trans rfl, (kC BK1159.out 1).trans rfl, (kC BK1159.out 2).trans rfl, (kC BK1159.out 3).trans rfl, (kC BK1159.out 4).trans rfl, (kC BK1138.out 0).trans rfl, (kC BK1138.out 1).trans rfl, (kC BK1138.out 2).trans rfl, (kC BK1138.out 3).trans rfl, (kC BK1138.out 4).trans rfl⟩ (fun hHeld => ?_)
      clear hK K
      refine norm_ (a' := ?_) ?_ ?_
      rotate_left
      ·show Act.put _ (some 38) _ = _
       simp only [Act.put, sTA, sZ, sS, i64_w, i32_w]
       rfl
      refine pure_ (i := 4) (N := some 39) (v := ?_) (a' := ?_) #[bY,bY,bY,bY,bY] rfl rfl (by kernel_rfl) (fun _ _ _ h => h) (Or.inl ⟨by rfl, ?_⟩) ?_ ?_
      rotate_left
      ·intro w'
       go_simp
       with_reducible rfl
      rotate_left
      ·simp only [Act.put, sTA, sZ, sS, i64_w, i32_w]
       rfl
      refine done_ (by kernel_rfl) ?_
      try go_wp2_with (first | ((with_reducible refine gate_callee (f := 52) rfl ?_); refine goesL_ (some 42) rfl rfl Try.func52 (by kernel_rfl) rfl #[.slice A1 l1.length c1] rfl (by (try simp only [List.map_toArray, List.map_cons, List.map_nil]); first | done | rfl | (simp only [List.length_drop, List.length_take]; rfl)) ?_; (with_reducible refine (laws_toEntryS.calls k _ _ l1 t1172 _ ?side1 ?side2 A23.out).mono ?_); (case side1 => repeat (first | exact (Kd.C_below HR1.out HB.out) | (with_reducible refine Kd.C_alloc ?_ _) | (with_reducible refine Kd.C_drewN ?_ _) | (with_reducible refine Kd.C_drew ?_))); (case side2 => exact HC1.out); rintro e w49 ⟨v1173, rfl, ho0, hb⟩; refine ⟨_, rfl, ?_⟩; have n0_ := aK (Kd.R_below (by (with_reducible repeat (first | apply Kd.R_alloc | apply Kd.R_drewN | apply Kd.R_drew)); exact HO1147.out) hb); have n1_ := aK (Kd.R_elder' (by (with_reducible repeat (first | apply Kd.R_alloc | apply Kd.R_drewN | apply Kd.R_drew)); exact HO1150.out) (Kd.R_base ho0) hb); have n2_ := aK (Kd.R_below (by (with_reducible repeat (first | apply Kd.R_alloc | apply Kd.R_drewN | apply Kd.R_drew)); exact HO1158.out) hb); have n3_ := aK (Kd.R_elder' (by (with_reducible repeat (first | apply Kd.R_alloc | apply Kd.R_drewN | apply Kd.R_drew)); exact HO1162.out) (Kd.R_base ho0) hb); have n4_ := aK (Kd.R_below (by (with_reducible repeat (first | apply Kd.R_alloc | apply Kd.R_drewN | apply Kd.R_drew)); exact HO1170.out) hb); have n5_ := aK (Kd.R_lower (Kd.R_new' (Kd.R_new' ho0 (Kd.R_lt (by (with_reducible repeat (first | apply Kd.R_alloc | apply Kd.R_drewN | apply Kd.R_drew)); exact HO1150.out))) (Kd.R_lt (by (with_reducible repeat (first | apply Kd.R_alloc | apply Kd.R_drewN | apply Kd.R_drew)); exact HO1162.out))) (bSz (by repeat (first | (with_reducible first | exact HB.out | apply bAl | apply bDN | apply bD1 | refine bSt ?_ GE1138.out | refine bSt ?_ GE1159.out) | exact HB.out)))); have n6_ := bkb BK1138 hb (by intro z_; (with_reducible repeat (first | refine kDN ?_ _ | refine kD ?_ | refine kA ?_ _)); exact z_); have n7_ := bkb BK1159 hb (by intro z_; (with_reducible repeat (first | refine kDN ?_ _ | refine kD ?_ | refine kA ?_ _)); exact z_); have n8_ := aK (bSp (by repeat (first | (with_reducible first | exact HB.out | apply bAl | apply bDN | apply bD1 | refine bSt ?_ GE1138.out | refine bSt ?_ GE1159.out) | exact HB.out)) hb); clear HO1147; clear HO1150; clear HO1158; clear HO1162; clear HO1170; clear BK1138; clear BK1159; clear HB; have HO1147 := n0_; have HO1150 := n1_; have HO1158 := n2_; have HO1162 := n3_; have HO1170 := n4_; have HO1174 := n5_; have BK1138 := n6_; have BK1159 := n7_; have HB := n8_; clear n0_ n1_ n2_ n3_ n4_ n5_ n6_ n7_ n8_; (try clear hb); (try clear hb2); (try clear hk); (try clear hi); (try clear ho0); obtain ⟨Ao50, co50, eo50⟩ := Kd.R_slice HO1174.out; subst eo50) | ((with_reducible refine gate_callee (f := 54) rfl ?_); refine goesL_ (some 43) rfl rfl Try.func54 (by kernel_rfl) rfl #[.slice Ao43 t1160.length co43, .slice Ao50 t1172.length co50] rfl (by (try simp only [List.map_toArray, List.map_cons, List.map_nil]); first | done | rfl | (simp only [List.length_drop, List.length_take]; rfl)) ?_; (with_reducible refine (laws_eqEntryS.calls k _ _ t1160 _ _ t1172 true _ ?side1 ?side2 ?side3 ?side4 A24.out).mono ?_); (case side1 => repeat (first | exact (Kd.R_reads' HO1162.out).2.2 | (with_reducible refine Kd.C_alloc ?_ _) | (with_reducible refine Kd.C_drewN ?_ _) | (with_reducible refine Kd.C_drew ?_))); (case side2 => exact (Kd.R_reads' HO1162.out).2.1); (case side3 => repeat (first | exact (Kd.R_reads' HO1174.out).2.2 | (with_reducible refine Kd.C_alloc ?_ _) | (with_reducible refine Kd.C_drewN ?_ _) | (with_reducible refine Kd.C_drew ?_))); (case side4 => exact (Kd.R_reads' HO1174.out).2.1); rintro e w51 ⟨rfl, hb⟩; refine ⟨_, rfl, ?_⟩; have n0_ := aK (Kd.R_below (by (with_reducible repeat (first | apply Kd.R_alloc | apply Kd.R_drewN | apply Kd.R_drew)); exact HO1147.out) hb); have n1_ := aK (Kd.R_below (by (with_reducible repeat (first | apply Kd.R_alloc | apply Kd.R_drewN | apply Kd.R_drew)); exact HO1150.out) hb); have n2_ := aK (Kd.R_below (by (with_reducible repeat (first | apply Kd.R_alloc | apply Kd.R_drewN | apply Kd.R_drew)); exact HO1158.out) hb); have n3_ := aK (Kd.R_below (by (with_reducible repeat (first | apply Kd.R_alloc | apply Kd.R_drewN | apply Kd.R_drew)); exact HO1162.out) hb); have n4_ := aK (Kd.R_below (by (with_reducible repeat (first | apply Kd.R_alloc | apply Kd.R_drewN | apply Kd.R_drew)); exact HO1170.out) hb); have n5_ := aK (Kd.R_below (by (with_reducible repeat (first | apply Kd.R_alloc | apply Kd.R_drewN | apply Kd.R_drew)); exact HO1174.out) hb); have n6_ := bkb BK1138 hb (by intro z_; (with_reducible repeat (first | refine kDN ?_ _ | refine kD ?_ | refine kA ?_ _)); exact z_); have n7_ := bkb BK1159 hb (by intro z_; (with_reducible repeat (first | refine kDN ?_ _ | refine kD ?_ | refine kA ?_ _)); exact z_); have n8_ := aK (bSp (by repeat (first | (with_reducible first | exact HB.out | apply bAl | apply bDN | apply bD1 | refine bSt ?_ GE1138.out | refine bSt ?_ GE1159.out) | exact HB.out)) hb); clear HO1147; clear HO1150; clear HO1158; clear HO1162; clear HO1170; clear HO1174; clear BK1138; clear BK1159; clear HB; have HO1147 := n0_; have HO1150 := n1_; have HO1158 := n2_; have HO1162 := n3_; have HO1170 := n4_; have HO1174 := n5_; have BK1138 := n6_; have BK1159 := n7_; have HB := n8_; clear n0_ n1_ n2_ n3_ n4_ n5_ n6_ n7_ n8_; (try clear hb); (try clear hb2); (try clear hk); (try clear hi)))
      go_ret
      exact ⟨by first | rfl | (simp [errW_none, errW_some] <;> rfl) | (simp [*, errW_none, errW_some] <;> rfl), by repeat (first | (with_reducible first | exact HB.out | apply bAl | apply bDN | apply bD1 | refine bSt ?_ GE1138.out | refine bSt ?_ GE1159.out) | exact HB.out)⟩
     ·replace c25 := Bool.eq_false_iff.mpr c25
      subst c25
      have H1 : (some false) = some true := by rw [if_neg (show ¬ (false = true) by decide)] at H; exact H
      clear H
      have H := H1
      clear H1
      exact absurd (Option.some.inj H) Bool.false_ne_true
    ·replace c22 := Bool.eq_false_iff.mpr c22
     subst c22
     have H1 : (some false) = some true := by rw [if_neg (show ¬ (false = true) by decide)] at H; exact H
     clear H
     have H := H1
     clear H1
     exact absurd (Option.some.inj H) Bool.false_ne_true
end Go.Proofs.Ytimejdhglmajdaa.F
end

section
namespace Go.Proofs.Ytimejdhglmajdaa.F
open Go.RowKit Go.Proofs.YtimejdhglmajdaaW.PrintWords Go.Proofs.YtimejdhglmajdaaW.PrintLast Go.Proofs.YtimejdhglmajdaaW.PrintMore
set_option linter.unusedVariables false
set_option linter.unusedSimpArgs false
theorem w64 {x : Int} (h1 : -9223372036854775808 ≤ x) (h2 : x ≤ 9223372036854775807) : wrap64 x = x := by unfold wrap64; omega
theorem wrapi_nat {n : Nat} (h : n < 9223372036854775808) : IntKind.i64.wrap (n : Int) = (n : Int) := by rw [IntKind.wrap_i64]; omega
theorem bits_and_i {a b : Nat} (ha : a < 2 ^ 63) (hb : b < 2 ^ 63) : Go.bits .and .i64 (a : Int) (b : Int) = ((a &&& b : Nat) : Int) :=
  (bits_nat .i64 63 (by decide) (fun n h0 h1 => by rw [IntKind.wrap_i64]; omega) a b ha hb).1
theorem bits_or_i {a b : Nat} (ha : a < 2 ^ 63) (hb : b < 2 ^ 63) : Go.bits .or .i64 (a : Int) (b : Int) = ((a ||| b : Nat) : Int) :=
  (bits_nat .i64 63 (by decide) (fun n h0 h1 => by rw [IntKind.wrap_i64]; omega) a b ha hb).2
theorem bits_xor_i {a b : Nat} (ha : a < 2 ^ 63) (hb : b < 2 ^ 63) : Go.bits .xor .i64 (a : Int) (b : Int) = ((a ^^^ b : Nat) : Int) := by
  have ha' : a % 2 ^ 64 = a := Nat.mod_eq_of_lt (by omega)
  have hb' : b % 2 ^ 64 = b := Nat.mod_eq_of_lt (by omega)
  have hx := Nat.xor_lt_two_pow ha hb
  show IntKind.i64.wrap (((BitVec.ofInt 64 (a : Int) ^^^ BitVec.ofInt 64 (b : Int)).toNat : Nat) : Int) = _
  rw [BitVec.ofInt_natCast, BitVec.ofInt_natCast, BitVec.toNat_xor, BitVec.toNat_ofNat, BitVec.toNat_ofNat, ha', hb']
  exact wrapi_nat (by omega)
theorem bits_andNot_i {a b : Nat} (ha : a < 2 ^ 63) (hb : b < 2 ^ 63) : Go.bits .andNot .i64 (a : Int) (b : Int) = ((a ^^^ (a &&& b) : Nat) : Int) := by
  have ha' : a % 2 ^ 64 = a := Nat.mod_eq_of_lt (by omega)
  have hb' : b % 2 ^ 64 = b := Nat.mod_eq_of_lt (by omega)
  have hx : a ^^^ (a &&& b) < 2 ^ 63 := Nat.xor_lt_two_pow ha (Nat.lt_of_le_of_lt Nat.and_le_left ha)
  have key : (BitVec.ofNat 64 a &&& ~~~BitVec.ofNat 64 b).toNat = a ^^^ (a &&& b) := by
    apply Nat.eq_of_testBit_eq
    intro i
    have e1 : (BitVec.ofNat 64 a &&& ~~~BitVec.ofNat 64 b).toNat.testBit i = (BitVec.ofNat 64 a &&& ~~~BitVec.ofNat 64 b).getLsbD i := rfl
    rw [e1]
    simp only [BitVec.getLsbD_and, BitVec.getLsbD_not, BitVec.getLsbD_ofNat, Nat.testBit_xor, Nat.testBit_and]
    by_cases hi : i < 64
    · simp [hi]
      cases a.testBit i <;> cases b.testBit i <;> rfl
    · have : a.testBit i = false := Nat.testBit_lt_two_pow (Nat.lt_of_lt_of_le ha (Nat.pow_le_pow_right (by decide) (by omega)))
      simp [hi, this]
  show IntKind.i64.wrap (((BitVec.ofInt 64 (a : Int) &&& ~~~BitVec.ofInt 64 (b : Int)).toNat : Nat) : Int) = _
  rw [BitVec.ofInt_natCast, BitVec.ofInt_natCast, key]
  exact wrapi_nat (by omega)
theorem shl_one {g : Nat} (h : g < 63) : shl .i64 1 (g : Int) = ((2 ^ g : Nat) : Int) := by
  unfold shl
  have : min ((g : Int).toNat) IntKind.i64.bits = g := by simp [IntKind.bits]; omega
  rw [this, Int.one_mul]
  have hp : (2 : Nat) ^ g ≤ 2 ^ 62 := Nat.pow_le_pow_right (by decide) (by omega)
  have : ((2 : Int) ^ g) = ((2 ^ g : Nat) : Int) := by simp
  rw [this]
  exact wrapi_nat (by omega)
theorem shr_nat {a g : Nat} (ha : a < 2 ^ 63) : shr .i64 (a : Int) (g : Int) = ((a >>> g : Nat) : Int) := by
  unfold shr
  rw [Nat.shiftRight_eq_div_pow]
  by_cases hg : g ≤ 64
  · have : min ((g : Int).toNat) IntKind.i64.bits = g := by simp [IntKind.bits]; omega
    rw [this]
    have : ((2 : Int) ^ g) = ((2 ^ g : Nat) : Int) := by simp
    rw [this]
    omega
  · have : min ((g : Int).toNat) IntKind.i64.bits = 64 := by simp [IntKind.bits]; omega
    rw [this]
    have hp : (2 : Nat) ^ 64 ≤ 2 ^ g := Nat.pow_le_pow_right (by decide) (by omega)
    rw [Nat.div_eq_of_lt (by omega)]
    have : (a : Int) / 2 ^ 64 = 0 := by omega
    simpa using this
def opn (o g : Int) : Bool := o.toNat.testBit g.toNat
theorem bit_test {o g : Int} (ho : 0 ≤ o) (ho2 : o < 9223372036854775808) (hg : 0 ≤ g) : (Go.bits .and .i64 (shr .i64 o g) 1 == 1) = opn o g := by
  obtain ⟨a, rfl⟩ := Int.eq_ofNat_of_zero_le ho
  obtain ⟨n, rfl⟩ := Int.eq_ofNat_of_zero_le hg
  have ha : a < 2 ^ 63 := by omega
  rw [shr_nat ha]
  have h2 : a >>> n < 2 ^ 63 := Nat.lt_of_le_of_lt (by rw [Nat.shiftRight_eq_div_pow]; exact Nat.div_le_self _ _) ha
  unfold opn
  simp only [Int.toNat_natCast]
  rw [show ((1 : Int)) = ((1 : Nat) : Int) from rfl, bits_and_i h2 (by decide), Nat.testBit, Nat.and_one_is_mod, Nat.one_and_eq_mod_two]
  rcases Nat.mod_two_eq_zero_or_one (a >>> n) with h | h <;> simp [h]
theorem fold_loop {σ ρ : Type} {F : Nat → σ → Int → Option ρ} {n c : Nat} {step : σ → Nat → σ} {fin : σ → ρ} {I : σ → Nat → Prop}
    (hF : ∀ k s (i : Nat), c ≤ k → i < n → I s i → F (k + 1) s (i : Int) = F k (step s i) ((i : Int) + 1)) (hI : ∀ s i, i < n → I s i → I (step s i) (i + 1))
    (hE : ∀ k s, c ≤ k → I s n → F (k + 1) s (n : Int) = some (fin s)) :
    ∀ (d i : Nat) (k : Nat) (s : σ), i + d = n → d + c + 1 ≤ k → I s i → F k s (i : Int) = some (fin ((List.range' i d).foldl step s))
  | 0, i, k, s, hi, hk, h => by
    obtain ⟨m, rfl⟩ : ∃ m, k = m + 1 := ⟨k - 1, by omega⟩
    obtain rfl : i = n := by omega
    simpa using hE m s (by omega) h
  | d + 1, i, k, s, hi, hk, h => by
    obtain ⟨m, rfl⟩ : ∃ m, k = m + 1 := ⟨k - 1, by omega⟩
    rw [hF m s i (by omega) (by omega) h, List.range'_succ, List.foldl_cons]
    have := fold_loop (c := c) (step := step) (fin := fin) hF hI hE d (i + 1) m (step s i) (by omega) (by omega) (hI s i (by omega) h)
    rwa [Int.natCast_add] at this
theorem set_loop {α β : Type} (z : α) {F : Nat → List β → Int → Option (List β)} {l : List α} {g : α → β} {c : Nat}
    (hF : ∀ k acc (i : Nat), c ≤ k → i < l.length → acc.length = l.length → F (k + 1) acc (i : Int) = F k (acc.set i (g (l.getD i z))) ((i : Int) + 1)) (hE : ∀ k acc, c ≤ k → F (k + 1) acc (l.length : Int) = some acc) {k : Nat} (acc : List β) (ha : acc.length = l.length) (hk : l.length + c + 1 ≤ k) :
    F k acc 0 = some (l.map g) := by
  have key : ∀ (d i : Nat) (k : Nat) (acc : List β), i + d = l.length → d + c + 1 ≤ k → acc.length = l.length → F k acc (i : Int) = some (acc.take i ++ (l.drop i).map g) := by
    intro d
    induction d with
    | zero =>
      intro i k acc hi hk ha
      obtain ⟨m, rfl⟩ : ∃ m, k = m + 1 := ⟨k - 1, by omega⟩
      obtain rfl : i = l.length := by omega
      rw [hE m acc (by omega), List.take_of_length_le (by omega), List.drop_of_length_le (by omega)]
      simp
    | succ d ih =>
      intro i k acc hi hk ha
      obtain ⟨m, rfl⟩ : ∃ m, k = m + 1 := ⟨k - 1, by omega⟩
      have hil : i < l.length := by omega
      rw [hF m acc i (by omega) hil ha]
      have := ih (i + 1) m (acc.set i (g (l.getD i z))) (by omega) (by omega) (by simpa using ha)
      rw [Int.natCast_add] at this
      refine this.trans ?_
      congr 1
      rw [List.take_add_one, List.getElem?_set]
      simp [ha, hil, List.getD_eq_getElem?_getD, List.getElem?_eq_getElem hil]
      have e1 : List.drop i (List.map g l) = g l[i] :: List.drop (i + 1) (List.map g l) := by
        rw [List.drop_eq_getElem_cons (l := List.map g l) (i := i) (by simpa using hil)]
        simp
      rw [e1, List.take_set_of_le (Nat.le_refl _)]
  have := key l.length 0 k acc (by omega) (by omega) ha
  simpa using this
theorem all_loop {α : Type} (z : α) {F : Nat → Int → Option Bool} {l : List α} {p : α → Bool} {c : Nat} {b : Bool}
    (hF : ∀ k (i : Nat), c ≤ k → i < l.length → F (k + 1) (i : Int) = if p (l.getD i z) = true then F k ((i : Int) + 1) else some false) (hE : ∀ k, c ≤ k → F (k + 1) (l.length : Int) = some b) {k : Nat} (hk : l.length + c + 1 ≤ k) :
    F k 0 = some (l.all p && b) := by
  have key : ∀ (d i : Nat) (k : Nat), i + d = l.length → d + c + 1 ≤ k → F k (i : Int) = some ((l.drop i).all p && b) := by
    intro d
    induction d with
    | zero =>
      intro i k hi hk
      obtain ⟨m, rfl⟩ : ∃ m, k = m + 1 := ⟨k - 1, by omega⟩
      obtain rfl : i = l.length := by omega
      rw [hE m (by omega), List.drop_of_length_le (by omega)]
      simp
    | succ d ih =>
      intro i k hi hk
      obtain ⟨m, rfl⟩ : ∃ m, k = m + 1 := ⟨k - 1, by omega⟩
      have hil : i < l.length := by omega
      rw [hF m i (by omega) hil, List.drop_eq_getElem_cons hil, List.all_cons]
      have e : l.getD i z = l[i] := by rw [List.getD_eq_getElem?_getD, List.getElem?_eq_getElem hil]; rfl
      rw [e]
      have := ih (i + 1) m (by omega) (by omega)
      rw [Int.natCast_add] at this
      by_cases h : p l[i] = true
      · rw [if_pos h, h]
        simpa using this
      · rw [if_neg h]
        simp at h
        simp [h]
  have := key l.length 0 k (by omega) (by omega)
  simpa using this
theorem w64_succ {i n : Nat} (h : i < n) (hn : n ≤ 9223372036854775807) : wrap64 ((i : Int) + 1) = (i : Int) + 1 := w64 (by omega) (by omega)
end Go.Proofs.Ytimejdhglmajdaa.F
end

section
namespace Go.Proofs.Ytimejdhglmajdaa.F
open Go.RowKit Go.Proofs.YtimejdhglmajdaaW.PrintWords Go.Proofs.YtimejdhglmajdaaW.PrintLast Go.Proofs.YtimejdhglmajdaaW.PrintMore
set_option linter.unusedVariables false
set_option linter.unusedSimpArgs false
def gok (w h : Int) : Bool := decide (1 ≤ w ∧ w ≤ 4 ∧ 1 ≤ h ∧ h ≤ 4)
theorem gok_iff {w h : Int} : gok w h = true ↔ 1 ≤ w ∧ w ≤ 4 ∧ 1 ≤ h ∧ h ≤ 4 := by simp [gok]
theorem gok_wide {w h : Int} (H : gok w h = true) : w = 1 ∨ w = 2 ∨ w = 3 ∨ w = 4 := by rw [gok_iff] at H; omega
theorem gok_high {w h : Int} (H : gok w h = true) : h = 1 ∨ h = 2 ∨ h = 3 ∨ h = 4 := by rw [gok_iff] at H; omega
def cells (w h : Int) : Int := if gok w h then w * h else 0
def gaps (w h : Int) : Int := if gok w h then (w - 1) * h + w * (h - 1) else 0
theorem cells_bd (w h : Int) : 0 ≤ cells w h ∧ cells w h ≤ 16 := by
  unfold cells
  by_cases H : gok w h = true
  · rw [if_pos H]
    rcases gok_wide H with rfl | rfl | rfl | rfl <;> rcases gok_high H with rfl | rfl | rfl | rfl <;> omega
  · rw [if_neg H]; omega
theorem gaps_bd (w h : Int) : 0 ≤ gaps w h ∧ gaps w h ≤ 24 := by
  unfold gaps
  by_cases H : gok w h = true
  · rw [if_pos H]
    rcases gok_wide H with rfl | rfl | rfl | rfl <;> rcases gok_high H with rfl | rfl | rfl | rfl <;> omega
  · rw [if_neg H]; omega
theorem impl_GridOk_eq (w h : Int) : impl_GridOk.f w h = some (gok w h) := by
  unfold impl_GridOk.f gok
  by_cases h1 : w ≥ 1 <;> by_cases h2 : w ≤ 4 <;> by_cases h3 : h ≥ 1 <;> simp [*] <;> omega
theorem spec_l01In_eq (x a b : Int) : spec_l01In.f x a b = some (decide (a ≤ x ∧ x ≤ b)) := by
  unfold spec_l01In.f
  by_cases h1 : x ≥ a
  · simp [h1]
  · rw [if_neg h1]; simp; omega
theorem spec_GridOk_eq (w h : Int) : spec_GridOk.f w h = some (gok w h) := by
  unfold spec_GridOk.f
  simp only [spec_l01In_eq, Option.bind_some]
  unfold gok
  by_cases h1 : 1 ≤ w ∧ w ≤ 4
  · simp [h1]
  · rw [if_neg (by simpa using h1)]; simp; omega
theorem gok_mul {w h : Int} (H : gok w h = true) : 1 ≤ w * h ∧ w * h ≤ 16 ∧ 0 ≤ (w - 1) * h ∧ (w - 1) * h ≤ 12 ∧ 0 ≤ w * (h - 1) ∧ w * (h - 1) ≤ 12 := by
  rcases gok_wide H with rfl | rfl | rfl | rfl <;> rcases gok_high H with rfl | rfl | rfl | rfl <;> omega
theorem impl_CountCells_eq (w h : Int) : impl_CountCells.f w h = some (cells w h) := by
  unfold impl_CountCells.f cells
  rw [impl_GridOk_eq, Option.bind_some]
  by_cases H : gok w h = true
  · have := gok_mul H
    rw [if_pos H, if_pos H, w64 (by omega) (by omega)]
  · rw [if_neg H, if_neg H]
theorem spec_CountCells_eq (w h : Int) : spec_CountCells.f w h = some (cells w h) := by
  unfold spec_CountCells.f cells
  rw [spec_GridOk_eq, Option.bind_some]
  by_cases H : gok w h = true
  · have := gok_mul H
    rw [if_pos H, if_pos H, w64 (by omega) (by omega)]
  · rw [if_neg H, if_neg H]
theorem impl_CountGaps_eq (w h : Int) : impl_CountGaps.f w h = some (gaps w h) := by
  unfold impl_CountGaps.f gaps
  rw [impl_GridOk_eq, Option.bind_some]
  by_cases H : gok w h = true
  · have := gok_mul H
    have b := gok_iff.1 H
    rw [if_pos H, if_pos H, w64 (x := w - 1) (by omega) (by omega), w64 (x := h - 1) (by omega) (by omega), w64 (x := (w - 1) * h) (by omega) (by omega), w64 (x := w * (h - 1)) (by omega) (by omega), w64 (by omega) (by omega)]
  · rw [if_neg H, if_neg H]
theorem spec_CountGaps_eq (w h : Int) : spec_CountGaps.f w h = some (gaps w h) := by
  unfold spec_CountGaps.f spec_l02East.f gaps
  rw [spec_GridOk_eq, Option.bind_some]
  by_cases H : gok w h = true
  · have := gok_mul H
    have b := gok_iff.1 H
    rw [if_pos H, if_pos H, Option.bind_some, w64 (x := w - 1) (by omega) (by omega), w64 (x := h - 1) (by omega) (by omega), Int.mul_comm h (w - 1), w64 (x := (w - 1) * h) (by omega) (by omega), w64 (x := w * (h - 1)) (by omega) (by omega), w64 (by omega) (by omega)]
  · rw [if_neg H, if_neg H]
def icell (w h c : Int) : Bool := decide (0 ≤ c ∧ c < cells w h)
def igap (w h g : Int) : Bool := decide (0 ≤ g ∧ g < gaps w h)
theorem icell_iff {w h c : Int} : icell w h c = true ↔ 0 ≤ c ∧ c < cells w h := by simp [icell]
theorem igap_iff {w h c : Int} : igap w h c = true ↔ 0 ≤ c ∧ c < gaps w h := by simp [igap]
theorem impl_isCell_eq (w h c : Int) : impl_isCell.f w h c = some (icell w h c) := by
  unfold impl_isCell.f icell
  rw [impl_CountCells_eq]
  by_cases h1 : c ≥ 0
  · rw [if_pos h1]; simp [h1]
  · rw [if_neg h1]; simp; omega
theorem impl_isGap_eq (w h c : Int) : impl_isGap.f w h c = some (igap w h c) := by
  unfold impl_isGap.f igap
  rw [impl_CountGaps_eq]
  by_cases h1 : c ≥ 0
  · rw [if_pos h1]; simp [h1]
  · rw [if_neg h1]; simp; omega
theorem in_cells (w h c : Int) : decide (0 ≤ c ∧ c ≤ wrap64 (cells w h - 1)) = icell w h c := by
  have := cells_bd w h
  rw [w64 (by omega) (by omega)]
  unfold icell
  rw [Bool.eq_iff_iff]; simp; omega
theorem in_gaps (w h c : Int) : decide (0 ≤ c ∧ c ≤ wrap64 (gaps w h - 1)) = igap w h c := by
  have := gaps_bd w h
  rw [w64 (by omega) (by omega)]
  unfold igap
  rw [Bool.eq_iff_iff]; simp; omega
theorem icell_gok {w h c : Int} (H : icell w h c = true) : gok w h = true := by
  rw [icell_iff] at H
  unfold cells at H
  by_cases G : gok w h = true
  · exact G
  · rw [if_neg G] at H; omega
theorem icell_mul {w h c : Int} (H : icell w h c = true) : 0 ≤ c ∧ c < w * h := by
  have G := icell_gok H
  rw [icell_iff] at H
  unfold cells at H
  rwa [if_pos G] at H
def nb (w h c d : Int) : Int :=
  if icell w h c then
    (if d = 0 then (if c / w > 0 then c - w else -1) else if d = 1 then (if c % w < w - 1 then c + 1 else -1) else if d = 2 then (if c / w < h - 1 then c + w else -1) else if d = 3 then (if c % w > 0 then c - 1 else -1) else -1)
  else -1
theorem div_facts {w h c : Int} (G : gok w h = true) (H : 0 ≤ c ∧ c < w * h) : Int.tdiv c w = c / w ∧ Int.tmod c w = c % w ∧ wrap64 (c / w) = c / w ∧ 0 ≤ c / w ∧ c / w < h ∧ 0 ≤ c % w ∧ c % w < w ∧ w * (c / w) + c % w = c := by
  have b := gok_iff.1 G
  have e1 : Int.tdiv c w = c / w := Int.tdiv_eq_ediv_of_nonneg H.1
  have e2 : Int.tmod c w = c % w := Int.tmod_eq_emod_of_nonneg H.1
  have e3 : 0 ≤ c / w := Int.ediv_nonneg H.1 (by omega)
  have e4 : c / w < h := by
    apply Int.ediv_lt_of_lt_mul (by omega)
    rw [Int.mul_comm]; exact H.2
  exact ⟨e1, e2, w64 (by omega) (by omega), e3, e4, Int.emod_nonneg _ (by omega), Int.emod_lt_of_pos _ (by omega), Int.mul_ediv_add_emod c w⟩
theorem impl_Neighbor_eq {k : Nat} (hk : 3 ≤ k) (w h c d : Int) : impl_Neighbor.f k w h c d = some (nb w h c d) := by
  obtain ⟨m, rfl⟩ : ∃ m, k = m + 3 := ⟨k - 3, by omega⟩
  unfold impl_Neighbor.f nb
  rw [impl_isCell_eq, Option.bind_some]
  by_cases H : icell w h c = true
  · have G := icell_gok H
    have b := gok_iff.1 G
    have hc := icell_mul H
    have hm := gok_mul G
    obtain ⟨e1, e2, e3, y0, y1, x0, x1, hq⟩ := div_facts G hc
    rw [if_pos H, if_pos H, if_neg (by omega), e1, e2, e3]
    simp only [impl_Neighbor.j0, impl_Neighbor.j1, impl_Neighbor.j2]
    rw [w64 (x := w - 1) (by omega) (by omega), w64 (x := h - 1) (by omega) (by omega)]
    by_cases d0 : d = 0
    · subst d0
      by_cases t : c / w > 0 <;> simp [t, w64 (x := c - w) (by omega) (by omega)]
    by_cases d1 : d = 1
    · subst d1
      by_cases t : c % w < w - 1 <;> simp [t, w64 (x := c + 1) (by omega) (by omega)]
    by_cases d2 : d = 2
    · subst d2
      by_cases t : c / w < h - 1 <;> simp [t, w64 (x := c + w) (by omega) (by omega)]
    by_cases d3 : d = 3
    · subst d3
      by_cases t : c % w > 0 <;> simp [t, w64 (x := c - 1) (by omega) (by omega)]
    simp [d0, d1, d2, d3]
  · rw [if_neg H, if_neg H]
theorem spec_j0_eq {w h : Int} (G : gok w h = true) (m : Nat) {x y : Int} : spec_Neighbor.j0 (m + 1) x y w h = some (if 0 ≤ x ∧ x ≤ w - 1 ∧ 0 ≤ y ∧ y ≤ h - 1 then y * w + x else -1) := by
  have b := gok_iff.1 G
  simp only [spec_Neighbor.j0, spec_l01In_eq, Option.bind_some, decide_eq_true_eq]
  rw [w64 (x := w - 1) (by omega) (by omega), w64 (x := h - 1) (by omega) (by omega)]
  by_cases h1 : 0 ≤ x ∧ x ≤ w - 1
  · rw [if_pos h1]
    by_cases h2 : 0 ≤ y ∧ y ≤ h - 1
    · have l1 : y * w ≤ 3 * 4 := Int.mul_le_mul (by omega) (by omega) (by omega) (by omega)
      have l0 : 0 ≤ y * w := Int.mul_nonneg (by omega) (by omega)
      rw [if_pos h2, if_pos ⟨h1.1, h1.2, h2.1, h2.2⟩, w64 (x := y * w) (by omega) (by omega), w64 (by omega) (by omega)]
    · rw [if_neg h2, if_neg (fun h => h2 ⟨h.2.2.1, h.2.2.2⟩)]
  · rw [if_neg h1, if_neg (fun h => h1 ⟨h.1, h.2.1⟩)]
theorem spec_Neighbor_eq {k : Nat} (hk : 1 ≤ k) (w h c d : Int) : spec_Neighbor.f k w h c d = some (nb w h c d) := by
  obtain ⟨m, rfl⟩ : ∃ m, k = m + 1 := ⟨k - 1, by omega⟩
  unfold spec_Neighbor.f nb
  rw [spec_CountCells_eq, Option.bind_some, spec_l01In_eq, Option.bind_some, in_cells]
  by_cases H : icell w h c = true
  · have G := icell_gok H
    have b := gok_iff.1 G
    have hc := icell_mul H
    have hm := gok_mul G
    obtain ⟨e1, e2, e3, y0, y1, x0, x1, hq⟩ := div_facts G hc
    rw [if_pos H, if_pos H, if_neg (by omega), e1, e2, e3, w64 (x := c / w - 1) (by omega) (by omega), w64 (x := c / w + 1) (by omega) (by omega), w64 (x := c % w - 1) (by omega) (by omega), w64 (x := c % w + 1) (by omega) (by omega)]
    simp only [spec_j0_eq G]
    have p1 : (c / w - 1) * w = w * (c / w) - w := by rw [Int.sub_mul, Int.one_mul, Int.mul_comm]
    have p2 : (c / w + 1) * w = w * (c / w) + w := by rw [Int.add_mul, Int.one_mul, Int.mul_comm]
    have p3 : (c / w) * w = w * (c / w) := Int.mul_comm _ _
    rw [p1, p2, p3]
    by_cases d0 : d = 0
    · rw [if_pos d0, if_pos d0]
      by_cases t : c / w > 0
      · rw [if_pos (by omega), if_pos t]; congr 1; omega
      · rw [if_neg (by omega), if_neg t]
    rw [if_neg d0, if_neg d0]
    by_cases d1 : d = 1
    · rw [if_pos d1, if_pos d1]
      by_cases t : c % w < w - 1
      · rw [if_pos (by omega), if_pos t]; congr 1; omega
      · rw [if_neg (by omega), if_neg t]
    rw [if_neg d1, if_neg d1]
    by_cases d2 : d = 2
    · rw [if_pos d2, if_pos d2]
      by_cases t : c / w < h - 1
      · rw [if_pos (by omega), if_pos t]; congr 1; omega
      · rw [if_neg (by omega), if_neg t]
    rw [if_neg d2, if_neg d2]
    by_cases d3 : d = 3
    · rw [if_pos d3, if_pos d3]
      by_cases t : c % w > 0
      · rw [if_pos (by omega), if_pos t]; congr 1; omega
      · rw [if_neg (by omega), if_neg t]
    rw [if_neg d3, if_neg d3]
  · rw [if_neg H, if_neg H]
end Go.Proofs.Ytimejdhglmajdaa.F
end

section
namespace Go.Proofs.Ytimejdhglmajdaa.F
open Go.RowKit Go.Proofs.YtimejdhglmajdaaW.PrintWords Go.Proofs.YtimejdhglmajdaaW.PrintLast Go.Proofs.YtimejdhglmajdaaW.PrintMore
set_option linter.unusedVariables false
set_option linter.unusedSimpArgs false
theorem mn_min (a b : Int) : mn a b = min a b := by unfold mn; omega
theorem nb_facts {w h c d : Int} (H : 0 ≤ nb w h c d) : icell w h c = true ∧ icell w h (nb w h c d) = true ∧ 0 ≤ d ∧ d ≤ 3 := by
  unfold nb at H ⊢
  by_cases hc : icell w h c = true
  · have G := icell_gok hc
    have b := gok_iff.1 G
    have hm := icell_mul hc
    obtain ⟨_, _, _, y0, y1, x0, x1, hq⟩ := div_facts G hm
    rw [if_pos hc] at H ⊢
    have m1 : w * (c / w) ≤ w * (h - 1) := Int.mul_le_mul_of_nonneg_left (by omega) (by omega)
    have m2 : w * (h - 1) = w * h - w := by rw [Int.mul_sub, Int.mul_one]
    have ce : cells w h = w * h := by unfold cells; rw [if_pos G]
    refine ⟨hc, ?_, ?_⟩
    · rw [icell_iff, ce]
      by_cases d0 : d = 0
      · subst d0
        by_cases t : c / w > 0
        · have m3 : w * 1 ≤ w * (c / w) := Int.mul_le_mul_of_nonneg_left (by omega) (by omega)
          simp [t]; omega
        · simp [t] at H
      by_cases d1 : d = 1
      · subst d1
        by_cases t : c % w < w - 1
        · simp [t]; omega
        · simp [t] at H
      by_cases d2 : d = 2
      · subst d2
        by_cases t : c / w < h - 1
        · have m4 : w * (c / w + 1) ≤ w * (h - 1) := Int.mul_le_mul_of_nonneg_left (by omega) (by omega)
          rw [Int.mul_add, Int.mul_one] at m4
          simp [t]; omega
        · simp [t] at H
      by_cases d3 : d = 3
      · subst d3
        by_cases t : c % w > 0
        · simp [t]; omega
        · simp [t] at H
      simp [d0, d1, d2, d3] at H
    · by_cases d0 : d = 0
      · omega
      by_cases d1 : d = 1
      · omega
      by_cases d2 : d = 2
      · omega
      by_cases d3 : d = 3
      · omega
      simp [d0, d1, d2, d3] at H
  · rw [if_neg hc] at H; omega
def gp (w h c d : Int) : Int :=
  if nb w h c d < 0 then -1 else if d = 1 ∨ d = 3 then min c (nb w h c d) / w * (w - 1) + min c (nb w h c d) % w else (w - 1) * h + min c (nb w h c d)
theorem gp_neg {w h c d : Int} (H : nb w h c d < 0) : gp w h c d = -1 := by unfold gp; rw [if_pos H]
theorem min_facts {w h c d : Int} (H : 0 ≤ nb w h c d) : 0 ≤ min c (nb w h c d) ∧ min c (nb w h c d) < w * h ∧ gok w h = true := by
  obtain ⟨h1, h2, _, _⟩ := nb_facts H
  have a := icell_mul h1
  have b := icell_mul h2
  exact ⟨by omega, by omega, icell_gok h1⟩
theorem impl_GapAt_eq {k : Nat} (hk : 3 ≤ k) (w h c d : Int) : impl_GapAt.f k w h c d = some (gp w h c d) := by
  unfold impl_GapAt.f gp
  rw [impl_Neighbor_eq hk, Option.bind_some]
  by_cases H : nb w h c d < 0
  · rw [if_pos H, if_pos H]
  · have H' : 0 ≤ nb w h c d := by omega
    obtain ⟨m0, m1, G⟩ := min_facts H'
    have b := gok_iff.1 G
    have hm := gok_mul G
    rw [if_neg H, if_neg H, mn_min]
    obtain ⟨e1, e2, e3, y0, y1, x0, x1, hq⟩ := div_facts G ⟨m0, m1⟩
    have l1 : min c (nb w h c d) / w * (w - 1) ≤ 3 * 3 := Int.mul_le_mul (by omega) (by omega) (by omega) (by omega)
    have l0 : 0 ≤ min c (nb w h c d) / w * (w - 1) := Int.mul_nonneg y0 (by omega)
    have t1 : wrap64 (wrap64 (wrap64 (Int.tdiv (min c (nb w h c d)) w) * wrap64 (w - 1)) + Int.tmod (min c (nb w h c d)) w) = min c (nb w h c d) / w * (w - 1) + min c (nb w h c d) % w := by
      rw [e1, e2, e3, w64 (x := w - 1) (by omega) (by omega), w64 (x := _ * _) (by omega) (by omega), w64 (by omega) (by omega)]
    have t2 : wrap64 (wrap64 (wrap64 (w - 1) * h) + min c (nb w h c d)) = (w - 1) * h + min c (nb w h c d) := by
      rw [w64 (x := w - 1) (by omega) (by omega), w64 (x := (w - 1) * h) (by omega) (by omega), w64 (by omega) (by omega)]
    rw [t1, t2]
    by_cases d1 : d = 1
    · simp [d1]; omega
    · by_cases d3 : d = 3
      · simp [d3]; omega
      · simp [d1, d3]
theorem spec_GapAt_eq {k : Nat} (hk : 1 ≤ k) (w h c d : Int) : spec_GapAt.f k w h c d = some (gp w h c d) := by
  unfold spec_GapAt.f gp
  rw [spec_Neighbor_eq hk, Option.bind_some]
  by_cases H : nb w h c d < 0
  · rw [if_pos H, if_pos H]
  · have H' : 0 ≤ nb w h c d := by omega
    obtain ⟨m0, m1, G⟩ := min_facts H'
    have b := gok_iff.1 G
    have hm := gok_mul G
    rw [if_neg H, if_neg H, mn_min]
    obtain ⟨e1, e2, e3, y0, y1, x0, x1, hq⟩ := div_facts G ⟨m0, m1⟩
    have l1 : min c (nb w h c d) / w * (w - 1) ≤ 3 * 3 := Int.mul_le_mul (by omega) (by omega) (by omega) (by omega)
    have l0 : 0 ≤ min c (nb w h c d) / w * (w - 1) := Int.mul_nonneg y0 (by omega)
    have t1 : wrap64 (wrap64 (wrap64 (Int.tdiv (min c (nb w h c d)) w) * wrap64 (w - 1)) + Int.tmod (min c (nb w h c d)) w) = min c (nb w h c d) / w * (w - 1) + min c (nb w h c d) % w := by
      rw [e1, e2, e3, w64 (x := w - 1) (by omega) (by omega), w64 (x := _ * _) (by omega) (by omega), w64 (by omega) (by omega)]
    have t2 : wrap64 (wrap64 (h * wrap64 (w - 1)) + min c (nb w h c d)) = (w - 1) * h + min c (nb w h c d) := by
      rw [w64 (x := w - 1) (by omega) (by omega), Int.mul_comm h, w64 (x := (w - 1) * h) (by omega) (by omega), w64 (by omega) (by omega)]
    simp only [spec_l02East.f, Option.bind_some]
    rw [t1, t2]
    by_cases d1 : d = 1
    · simp [d1]; omega
    · by_cases d3 : d = 3
      · simp [d3]; omega
      · simp [d1, d3]
def mok (w h o : Int) : Bool := gok w h && decide (0 ≤ o ∧ o < 2 ^ (gaps w h).toNat)
theorem mok_iff {w h o : Int} : mok w h o = true ↔ gok w h = true ∧ 0 ≤ o ∧ o < 2 ^ (gaps w h).toNat := by simp [mok]
theorem gpow (w h : Int) : (2 : Int) ^ (gaps w h).toNat ≤ 16777216 ∧ (1 : Int) ≤ 2 ^ (gaps w h).toNat := by
  have b := gaps_bd w h
  have p : (2 : Nat) ^ (gaps w h).toNat ≤ 2 ^ 24 := Nat.pow_le_pow_right (by decide) (by omega)
  have q : 0 < (2 : Nat) ^ (gaps w h).toNat := Nat.two_pow_pos _
  have e : ((2 : Int) ^ (gaps w h).toNat) = ((2 ^ (gaps w h).toNat : Nat) : Int) := by simp
  omega
theorem mok_small {w h o : Int} (H : mok w h o = true) : 0 ≤ o ∧ o < 16777216 := by
  have := mok_iff.1 H
  have := gpow w h
  omega
theorem shl_gaps (w h : Int) : shl .i64 1 (gaps w h) = 2 ^ (gaps w h).toNat := by
  have b := gaps_bd w h
  have := shl_one (g := (gaps w h).toNat) (by omega)
  rw [show (((gaps w h).toNat : Nat) : Int) = gaps w h from Int.toNat_of_nonneg b.1] at this
  rw [this]
  simp
theorem impl_MazeOk_eq (w h o : Int) : impl_MazeOk.f w h o = some (mok w h o) := by
  unfold impl_MazeOk.f mok
  have b := gaps_bd w h
  rw [impl_GridOk_eq, impl_CountGaps_eq]
  simp only [Option.bind_some, shl_gaps]
  by_cases G : gok w h = true
  · simp only [G, if_true, Bool.true_and]
    by_cases h0 : o ≥ 0
    · rw [if_pos h0, if_pos b.1]
      simp; omega
    · rw [if_neg h0]; simp; omega
  · simp [G]
theorem spec_MazeOk_eq (w h o : Int) : spec_MazeOk.f w h o = some (mok w h o) := by
  unfold spec_MazeOk.f mok
  have b := gaps_bd w h
  have p := gpow w h
  rw [spec_GridOk_eq, spec_CountGaps_eq]
  simp only [Option.bind_some, shl_gaps, w64 (x := (2 : Int) ^ (gaps w h).toNat - 1) (by omega) (by omega)]
  by_cases G : gok w h = true
  · simp only [Option.bind_some, G, if_true, Bool.true_and, spec_l01In_eq, if_pos b.1]
    congr 2
    exact propext ⟨fun h => ⟨h.1, by omega⟩, fun h => ⟨h.1, by omega⟩⟩
  · simp [G]
theorem impl_isOpen_eq {w h o : Int} (h0 : 0 ≤ o) (h1 : o < 9223372036854775808) (g : Int) : impl_isOpen.f w h o g = some (decide (0 ≤ g) && opn o g) := by
  unfold impl_isOpen.f
  by_cases hg : g ≥ 0
  · rw [if_pos hg, if_pos (by omega), bit_test h0 h1 (by omega)]
    simp; omega
  · rw [if_neg hg]
    simp; omega
theorem spec_l03Bit_eq {o : Int} (h0 : 0 ≤ o) (h1 : o < 9223372036854775808) {g : Int} (hg : 0 ≤ g) : spec_l03Bit.f o g = some (opn o g) := by
  unfold spec_l03Bit.f
  rw [if_pos hg, bit_test h0 h1 hg]
def psg (w h o g : Int) : Bool := mok w h o && igap w h g && opn o g
theorem spec_IsPassage_eq (w h o g : Int) : spec_IsPassage.f w h o g = some (psg w h o g) := by
  unfold spec_IsPassage.f psg
  rw [spec_MazeOk_eq, spec_CountGaps_eq]
  by_cases M : mok w h o = true
  · have s := mok_small M
    simp only [Option.bind_some, M, if_true, Bool.true_and, spec_l01In_eq, in_gaps]
    by_cases g1 : igap w h g = true
    · rw [if_pos g1, spec_l03Bit_eq s.1 (by omega) (igap_iff.1 g1).1]
      simp [g1]
    · rw [if_neg g1]; simp [g1]
  · simp [M]
theorem gp_range {w h c d : Int} (H : 0 ≤ nb w h c d) : igap w h (gp w h c d) = true := by
  obtain ⟨h1, h2, d0, d3⟩ := nb_facts H
  have G := icell_gok h1
  have a := icell_mul h1
  rw [igap_iff]
  unfold gp gaps
  rw [if_neg (by omega), if_pos G]
  have hd : d = 0 ∨ d = 1 ∨ d = 2 ∨ d = 3 := by omega
  revert H
  unfold nb
  rw [if_pos h1]
  rcases gok_wide G with rfl | rfl | rfl | rfl <;> rcases gok_high G with rfl | rfl | rfl | rfl <;> rcases hd with rfl | rfl | rfl | rfl <;> simp <;> split <;> omega
def st (w h o c d : Int) : Int := if psg w h o (gp w h c d) then nb w h c d else -1
theorem st_nb {w h o c d : Int} (H : 0 ≤ st w h o c d) : st w h o c d = nb w h c d ∧ psg w h o (gp w h c d) = true := by
  unfold st at H ⊢
  by_cases p : psg w h o (gp w h c d) = true
  · rw [if_pos p]; exact ⟨rfl, p⟩
  · rw [if_neg p] at H; omega
theorem impl_Step_eq {k : Nat} (hk : 3 ≤ k) (w h o c d : Int) : impl_Step.f k w h o c d = some (st w h o c d) := by
  unfold impl_Step.f st psg
  rw [impl_MazeOk_eq]
  by_cases M : mok w h o = true
  · have s := mok_small M
    simp only [Option.bind_some, M, if_true, Bool.true_and, impl_GapAt_eq hk, impl_isOpen_eq s.1 (show o < 9223372036854775808 by omega), impl_Neighbor_eq hk]
    by_cases H : 0 ≤ nb w h c d
    · have r := gp_range H
      have := (igap_iff.1 r).1
      simp [r, this]
      split <;> rfl
    · rw [gp_neg (by omega)]
      simp [igap]
  · simp [M]
theorem spec_Step_eq {k : Nat} (hk : 1 ≤ k) (w h o c d : Int) : spec_Step.f k w h o c d = some (st w h o c d) := by
  unfold spec_Step.f st
  rw [spec_MazeOk_eq]
  by_cases M : mok w h o = true
  · simp only [Option.bind_some, M, if_true, spec_GapAt_eq hk, spec_IsPassage_eq, spec_Neighbor_eq hk]
    split <;> rfl
  · simp [M, psg]
theorem st_facts {w h o c d : Int} (H : 0 ≤ st w h o c d) : mok w h o = true ∧ icell w h c = true ∧ icell w h (st w h o c d) = true ∧ 0 ≤ d ∧ d ≤ 3 := by
  obtain ⟨e, p⟩ := st_nb H
  rw [e] at H ⊢
  obtain ⟨h1, h2, h3, h4⟩ := nb_facts H
  unfold psg at p
  simp at p
  exact ⟨p.1.1, h1, h2, h3, h4⟩
end Go.Proofs.Ytimejdhglmajdaa.F
end

section
namespace Go.Proofs.Ytimejdhglmajdaa.F
open Go.RowKit Go.Proofs.YtimejdhglmajdaaW.PrintWords Go.Proofs.YtimejdhglmajdaaW.PrintLast Go.Proofs.YtimejdhglmajdaaW.PrintMore
set_option linter.unusedVariables false
set_option linter.unusedSimpArgs false
def toGate (x : SlaGate) : SGate := ⟨x.f0, x.f1⟩
theorem laws_toGateS_eq {k : Nat} {l : List SlaGate} (hl : l.length ≤ 1048576) (hk : l.length + 1 ≤ k) : laws_toGateS.f k l = some (l.map toGate) := by
  unfold laws_toGateS.f
  rw [if_pos (by omega), if_pos (by omega)]
  refine set_loop (c := 0) zlaGate (F := fun k acc i => laws_toGateS.l0 k l acc i) ?_ ?_ _ (by simp) (by omega)
  · intro k acc i _ hi ha
    simp only [laws_toGateS.l0, laws_toGate.f, Option.bind_some]
    rw [if_pos (by omega), if_pos (by omega), if_pos (by omega), w64_succ hi (by omega)]
    rfl
  · intro k acc _
    simp only [laws_toGateS.l0]
    rw [if_neg (by omega)]
theorem laws_eqGateS_refl {k : Nat} {l : List SGate} (hl : l.length ≤ 9223372036854775806) (hk : l.length + 1 ≤ k) : laws_eqGateS.f k l l = some true := by
  unfold laws_eqGateS.f
  rw [if_pos rfl]
  have := all_loop (c := 0) zGate (F := fun k i => laws_eqGateS.l0 k l l i) (p := fun _ => true) (b := true)
    (fun k i _ hi => by
      simp only [laws_eqGateS.l0, laws_eqGate.f]
      rw [if_pos (by omega), if_pos (by omega), if_pos (by omega), w64_succ hi (by omega)]
      simp)
    (fun k _ => by simp only [laws_eqGateS.l0]; rw [if_neg (by omega)]) hk
  rw [this]
  congr 1
  simp only [Bool.and_true, List.all_eq_true, implies_true]
theorem sz_Gate {l : List SlaGate} {a : Int} (h0 : 0 ≤ a) (h1 : a ≤ 1048576) (hl : l.length ≤ 9223372036854775807) : laws_szGateS.f l a = some (if l.length ≤ a then a - (l.length : Int) else -1) := by
  unfold laws_szGateS.f
  rw [w64 (by omega) (by omega)]
  by_cases h : l.length ≤ a
  · rw [if_neg (by omega), if_pos h]
  · rw [if_pos (by omega), if_neg h]
def toEntry (x : SlaEntry) : SEntry := ⟨x.f0, x.f1⟩
theorem laws_toEntryS_eq {k : Nat} {l : List SlaEntry} (hl : l.length ≤ 1048576) (hk : l.length + 1 ≤ k) : laws_toEntryS.f k l = some (l.map toEntry) := by
  unfold laws_toEntryS.f
  rw [if_pos (by omega), if_pos (by omega)]
  refine set_loop (c := 0) zlaEntry (F := fun k acc i => laws_toEntryS.l0 k l acc i) ?_ ?_ _ (by simp) (by omega)
  · intro k acc i _ hi ha
    simp only [laws_toEntryS.l0, laws_toEntry.f, Option.bind_some]
    rw [if_pos (by omega), if_pos (by omega), if_pos (by omega), w64_succ hi (by omega)]
    rfl
  · intro k acc _
    simp only [laws_toEntryS.l0]
    rw [if_neg (by omega)]
theorem laws_eqEntryS_refl {k : Nat} {l : List SEntry} (hl : l.length ≤ 9223372036854775806) (hk : l.length + 1 ≤ k) : laws_eqEntryS.f k l l = some true := by
  unfold laws_eqEntryS.f
  rw [if_pos rfl]
  have := all_loop (c := 0) zEntry (F := fun k i => laws_eqEntryS.l0 k l l i) (p := fun _ => true) (b := true)
    (fun k i _ hi => by
      simp only [laws_eqEntryS.l0, laws_eqEntry.f]
      rw [if_pos (by omega), if_pos (by omega), if_pos (by omega), w64_succ hi (by omega)]
      simp)
    (fun k _ => by simp only [laws_eqEntryS.l0]; rw [if_neg (by omega)]) hk
  rw [this]
  congr 1
  simp only [Bool.and_true, List.all_eq_true, implies_true]
theorem sz_Entry {l : List SlaEntry} {a : Int} (h0 : 0 ≤ a) (h1 : a ≤ 1048576) (hl : l.length ≤ 9223372036854775807) : laws_szEntryS.f l a = some (if l.length ≤ a then a - (l.length : Int) else -1) := by
  unfold laws_szEntryS.f
  rw [w64 (by omega) (by omega)]
  by_cases h : l.length ≤ a
  · rw [if_neg (by omega), if_pos h]
  · rw [if_pos (by omega), if_neg h]
theorem impl_IsPassage_eq (w h o g : Int) : impl_IsPassage.f w h o g = some (psg w h o g) := by
  unfold impl_IsPassage.f psg
  rw [impl_MazeOk_eq, Option.bind_some]
  cases hm : mok w h o with
  | false => simp
  | true =>
    have hb := mok_small hm
    rw [if_pos rfl, impl_isGap_eq, Option.bind_some]
    cases hg : igap w h g with
    | false => simp
    | true =>
      have g0 := (igap_iff.1 hg).1
      rw [if_pos rfl, impl_isOpen_eq hb.1 (by omega), decide_eq_true g0]
      simp
theorem shl_small {p : Int} (h1 : 1 ≤ p) (h6 : p ≤ 6) : 2 ≤ shl .i64 1 p ∧ shl .i64 1 p ≤ 64 := by
  have : p = 1 ∨ p = 2 ∨ p = 3 ∨ p = 4 ∨ p = 5 ∨ p = 6 := by omega
  rcases this with rfl | rfl | rfl | rfl | rfl | rfl <;> decide +kernel
def tgp (w h o p : Int) (gs : List SGate) (i : Nat) : Bool :=
  psg w h o (rd_Gate gs i).f0 && (decide (i = 0) || decide ((rd_Gate gs ((i : Int) - 1)).f0 < (rd_Gate gs i).f0)) && decide (0 ≤ (rd_Gate gs i).f1 ∧ (rd_Gate gs i).f1 < shl .i64 1 p)
def tmok (w h o p : Int) (gs : List SGate) : Bool := mok w h o && decide (1 ≤ p ∧ p ≤ 6) && decide (gs.length ≤ 8) && (List.range gs.length).all (tgp w h o p gs)
theorem spec_l04Has_eq' (w h o c : Int) : spec_l04Has.f w h o c = some (mok w h o && icell w h c) := by
  unfold spec_l04Has.f
  rw [spec_MazeOk_eq, Option.bind_some, spec_CountCells_eq]
  cases mok w h o with
  | false => simp
  | true => simp only [Option.bind_some, if_true, spec_l01In_eq, Bool.true_and]; rw [in_cells]
theorem range_getD {n i : Nat} (hi : i < n) : (List.range n).getD i 0 = i := by
  rw [List.getD_eq_getElem?_getD, List.getElem?_range hi]; rfl
theorem range'_cut {i n : Nat} (h : i < n) : List.range' i (n - i) = i :: List.range' (i + 1) (n - (i + 1)) := by
  rw [show n - i = (n - (i + 1)) + 1 by omega, List.range'_succ]
theorem impl_timed_l0 {w h o p : Int} {gs : List SGate} (hp : 0 ≤ p) : ∀ (n i : Nat), gs.length < n + i → i ≤ gs.length → impl_TimedOk.l0 w h o p gs n i = some ((List.range' i (gs.length - i)).all (tgp w h o p gs))
  | 0, i, h1, h2 => by omega
  | n + 1, i, h1, h2 => by
    unfold impl_TimedOk.l0
    by_cases hi : i < gs.length
    · rw [if_pos hi, impl_IsPassage_eq, Option.bind_some, range'_cut hi, List.all_cons]
      have ih := impl_timed_l0 (w := w) (h := h) (o := o) (gs := gs) hp n (i + 1) (by omega) (by omega)
      unfold tgp
      by_cases c0 : psg w h o (rd_Gate gs i).f0 = true
      · rw [if_pos c0, c0, Bool.true_and]
        by_cases c1 : 0 < i ∧ (rd_Gate gs ((i : Int) - 1)).f0 ≥ (rd_Gate gs i).f0
        · rw [if_pos c1]
          have e1 : decide (i = 0) = false := decide_eq_false (by omega)
          have e2 : decide ((rd_Gate gs ((i : Int) - 1)).f0 < (rd_Gate gs i).f0) = false := decide_eq_false (by omega)
          rw [e1, e2]; rfl
        · rw [if_neg c1]
          have e1 : (decide (i = 0) || decide ((rd_Gate gs ((i : Int) - 1)).f0 < (rd_Gate gs i).f0)) = true := by
            by_cases z : i = 0
            · simp [z]
            · rw [decide_eq_true (show (rd_Gate gs ((i : Int) - 1)).f0 < (rd_Gate gs i).f0 by omega), Bool.or_true]
          rw [e1, Bool.true_and]
          by_cases c2 : (rd_Gate gs i).f1 < 0
          · rw [if_pos c2, decide_eq_false (by omega)]; rfl
          · rw [if_neg c2, if_pos hp]
            by_cases c3 : (rd_Gate gs i).f1 ≥ shl .i64 1 p
            · rw [if_pos c3, decide_eq_false (by omega)]; rfl
            · rw [if_neg c3, decide_eq_true (by omega), Bool.true_and, ih]
              rfl
      · rw [if_neg c0]; simp [c0]
    · rw [if_neg hi, show gs.length - i = 0 by omega]
      rfl
theorem impl_TimedOk_eq {k : Nat} (hk : 20 ≤ k) (w h o p : Int) (gs : List SGate) : impl_TimedOk.f k w h o p gs = some (tmok w h o p gs) := by
  unfold impl_TimedOk.f tmok
  rw [impl_MazeOk_eq, Option.bind_some]
  by_cases M : mok w h o = true
  · rw [if_pos M, M, Bool.true_and]
    by_cases c1 : p < 1
    · rw [if_pos c1, decide_eq_false (by omega)]; simp
    · rw [if_neg c1]
      by_cases c2 : p > 6
      · rw [if_pos c2, decide_eq_false (by omega)]; simp
      · rw [if_neg c2, decide_eq_true (show 1 ≤ p ∧ p ≤ 6 by omega), Bool.true_and]
        by_cases c3 : (gs.length : Int) > 8
        · rw [if_pos c3, decide_eq_false (by omega)]; simp
        · rw [if_neg c3, decide_eq_true (show gs.length ≤ 8 by omega), Bool.true_and, impl_timed_l0 (by omega) 9 0 (by omega) (by omega), List.range_eq_range']
          rfl
  · rw [if_neg M]; simp [M]
theorem spec_timed_l0 {w h o p : Int} {gs : List SGate} (hp : 1 ≤ p) (hp6 : p ≤ 6) : ∀ (n i : Nat), gs.length < n + i → i ≤ gs.length → spec_TimedOk.l0 w h o p gs n i = some ((List.range' i (gs.length - i)).all (tgp w h o p gs))
  | 0, i, h1, h2 => by omega
  | n + 1, i, h1, h2 => by
    unfold spec_TimedOk.l0
    have sh := shl_small hp hp6
    by_cases hi : i < gs.length
    · rw [if_pos hi, spec_IsPassage_eq, Option.bind_some, range'_cut hi, List.all_cons]
      have ih := spec_timed_l0 (w := w) (h := h) (o := o) (gs := gs) hp hp6 n (i + 1) (by omega) (by omega)
      unfold tgp
      by_cases c0 : psg w h o (rd_Gate gs i).f0 = true
      · rw [if_pos c0, c0, Bool.true_and]
        by_cases c1 : 0 < i ∧ (rd_Gate gs i).f0 ≤ (rd_Gate gs ((i : Int) - 1)).f0
        · rw [if_pos c1]
          have e1 : decide (i = 0) = false := decide_eq_false (by omega)
          have e2 : decide ((rd_Gate gs ((i : Int) - 1)).f0 < (rd_Gate gs i).f0) = false := decide_eq_false (by omega)
          rw [e1, e2]; rfl
        · rw [if_neg c1]
          have e1 : (decide (i = 0) || decide ((rd_Gate gs ((i : Int) - 1)).f0 < (rd_Gate gs i).f0)) = true := by
            by_cases z : i = 0
            · simp [z]
            · rw [decide_eq_true (show (rd_Gate gs ((i : Int) - 1)).f0 < (rd_Gate gs i).f0 by omega), Bool.or_true]
          rw [e1, Bool.true_and, if_pos (by omega), spec_l01In_eq, Option.bind_some, w64 (x := shl .i64 1 p - 1) (by omega) (by omega)]
          by_cases c2 : 0 ≤ (rd_Gate gs i).f1 ∧ (rd_Gate gs i).f1 ≤ shl .i64 1 p - 1
          · rw [decide_eq_true c2, decide_eq_true (show 0 ≤ (rd_Gate gs i).f1 ∧ (rd_Gate gs i).f1 < shl .i64 1 p by omega), if_pos rfl, Bool.true_and, ih]
            rfl
          · rw [decide_eq_false c2, decide_eq_false (show ¬ (0 ≤ (rd_Gate gs i).f1 ∧ (rd_Gate gs i).f1 < shl .i64 1 p) by omega), if_neg (by decide)]; rfl
      · rw [if_neg c0]; simp [c0]
    · rw [if_neg hi, show gs.length - i = 0 by omega]
      rfl
theorem spec_TimedOk_eq {k : Nat} (hk : 20 ≤ k) (w h o p : Int) (gs : List SGate) : spec_TimedOk.f k w h o p gs = some (tmok w h o p gs) := by
  unfold spec_TimedOk.f tmok
  rw [spec_MazeOk_eq, Option.bind_some]
  by_cases M : mok w h o = true
  · rw [if_pos M, M, Bool.true_and, spec_l01In_eq, Option.bind_some]
    by_cases c2 : 1 ≤ p ∧ p ≤ 6
    · rw [decide_eq_true c2, if_pos rfl, Bool.true_and]
      by_cases c3 : (gs.length : Int) > 8
      · rw [if_pos c3, decide_eq_false (by omega)]; simp
      · rw [if_neg c3, if_pos (by omega), decide_eq_true (show gs.length ≤ 8 by omega), Bool.true_and, spec_timed_l0 c2.1 c2.2 9 0 (by omega) (by omega), List.range_eq_range']
        rfl
    · rw [decide_eq_false c2, if_neg (by decide)]; simp
  · rw [if_neg M]; simp [M]
def recp (w h : Int) (l : List SEntry) (i : Nat) : Bool :=
  decide (0 ≤ (rd_Entry l i).f0 ∧ (rd_Entry l i).f0 ≤ 500) && icell w h (rd_Entry l i).f1 && (decide (i = 0) || decide ((rd_Entry l ((i : Int) - 1)).f0 < (rd_Entry l i).f0))
def rcok (w h o p : Int) (gs : List SGate) (l : List SEntry) : Bool := (List.range l.length).all (recp w h l) && (tmok w h o p gs && decide (l.length ≤ 40))
theorem impl_RecordOk_eq {k : Nat} {l : List SEntry} (hl : l.length ≤ 1048576) (hk : l.length + 40 ≤ k) (w h o p : Int) (gs : List SGate) : impl_RecordOk.f k w h o p gs l = some (rcok w h o p gs l) := by
  unfold impl_RecordOk.f rcok
  exact all_loop (c := 20) (0 : Nat) (F := fun k i => impl_RecordOk.l0 k l l (l.length : Int) i w h o p gs) (l := List.range l.length) (p := recp w h l)
    (fun k i _ hi => by
      rw [List.length_range] at hi
      rw [range_getD hi]
      simp only [impl_RecordOk.l0]
      rw [if_pos (by omega), if_pos (by omega), if_pos (by omega), impl_isCell_eq, Option.bind_some, w64_succ hi (by omega)]
      unfold recp
      by_cases ha : (rd_Entry l i).f0 < 0
      · rw [if_pos ha, decide_eq_false (by omega)]; simp
      · rw [if_neg ha]
        by_cases hb : (rd_Entry l i).f0 > 500
        · rw [if_pos hb, decide_eq_false (by omega)]; simp
        · rw [if_neg hb, decide_eq_true (show 0 ≤ (rd_Entry l i).f0 ∧ (rd_Entry l i).f0 ≤ 500 by omega), Bool.true_and]
          cases icell w h (rd_Entry l i).f1 with
          | false => simp
          | true =>
            rw [if_pos rfl, Bool.true_and]
            by_cases h0 : (i : Int) > 0
            · rw [if_pos h0, w64 (x := (i : Int) - 1) (by omega) (by omega), if_pos (by omega), if_pos (by omega), decide_eq_false (by omega : ¬ i = 0), Bool.false_or]
              by_cases hc : (rd_Entry l ((i : Int) - 1)).f0 ≥ (rd_Entry l i).f0
              · rw [if_pos hc, if_neg (by simp; omega)]
              · rw [if_neg hc, if_pos (by simp; omega)]
            · rw [if_neg h0, decide_eq_true (by omega : i = 0), Bool.true_or, if_pos rfl])
    (fun k hk => by
      rw [List.length_range]
      simp only [impl_RecordOk.l0]
      rw [if_neg (by omega), impl_TimedOk_eq hk, Option.bind_some]
      cases tmok w h o p gs with
      | false => simp
      | true =>
        rw [if_pos rfl, Bool.true_and]
        congr 1
        by_cases q : l.length ≤ 40
        · rw [decide_eq_true q, decide_eq_true (by omega)]
        · rw [decide_eq_false q, decide_eq_false (by omega)]) (by rw [List.length_range]; omega)
theorem spec_RecordOk_eq {k : Nat} {l : List SEntry} (hl : l.length ≤ 1048576) (hk : l.length + 40 ≤ k) (w h o p : Int) (gs : List SGate) : spec_RecordOk.f k w h o p gs l = some (rcok w h o p gs l) := by
  unfold spec_RecordOk.f
  have := all_loop (c := 20) (k := k) (0 : Nat) (F := fun k i => spec_RecordOk.l0 k l i w h o p gs) (l := List.range l.length) (p := fun i => mok w h o && recp w h l i) (b := tmok w h o p gs && decide (l.length ≤ 40))
    (fun k i _ hi => by
      rw [List.length_range] at hi
      rw [range_getD hi]
      simp only [spec_RecordOk.l0, spec_l01In_eq, Option.bind_some, spec_l04Has_eq']
      rw [if_pos (by omega), if_pos (by omega), w64_succ hi (by omega)]
      unfold recp
      cases decide (0 ≤ (rd_Entry l i).f0 ∧ (rd_Entry l i).f0 ≤ 500) with
      | false => simp
      | true =>
        rw [if_pos rfl, Bool.true_and]
        cases mok w h o with
        | false => simp
        | true =>
          cases icell w h (rd_Entry l i).f1 with
          | false => simp
          | true =>
            simp only [Bool.and_self, Bool.true_and]
            rw [if_pos trivial]
            by_cases h0 : (i : Int) > 0
            · rw [if_pos h0, w64 (x := (i : Int) - 1) (by omega) (by omega), if_pos (by omega), if_pos (by omega), decide_eq_false (by omega : ¬ i = 0), Bool.false_or]
              by_cases hc : (rd_Entry l i).f0 ≤ (rd_Entry l ((i : Int) - 1)).f0
              · rw [if_pos hc, if_neg (by simp; omega)]
              · rw [if_neg hc, if_pos (by simp; omega)]
            · rw [if_neg h0, decide_eq_true (by omega : i = 0), Bool.true_or, if_pos rfl])
    (fun k hk => by
      rw [List.length_range]
      simp only [spec_RecordOk.l0]
      rw [if_neg (by omega), spec_TimedOk_eq hk, Option.bind_some]
      cases tmok w h o p gs with
      | false => simp
      | true =>
        rw [if_pos rfl, Bool.true_and]
        congr 1
        by_cases q : l.length ≤ 40
        · rw [decide_eq_true q, decide_eq_true (by omega)]
        · rw [decide_eq_false q, decide_eq_false (by omega)]) (by rw [List.length_range]; omega)
  refine this.trans ?_
  congr 1
  unfold rcok
  cases hm : mok w h o with
  | true => simp
  | false =>
    have : tmok w h o p gs = false := by unfold tmok; rw [hm]; rfl
    rw [this]; simp
end Go.Proofs.Ytimejdhglmajdaa.F
end

section
namespace Go.Proofs.Ytimejdhglmajdaa.F
open Go.RowKit Go.Proofs.YtimejdhglmajdaaW.PrintWords Go.Proofs.YtimejdhglmajdaaW.PrintLast Go.Proofs.YtimejdhglmajdaaW.PrintMore
set_option linter.unusedVariables false
set_option linter.unusedSimpArgs false
def flip (o g : Int) : Int := ((o.toNat ^^^ 2 ^ g.toNat : Nat) : Int)
def setb (o g : Int) (b : Bool) : Int := if b then ((o.toNat ||| 2 ^ g.toNat : Nat) : Int) else ((o.toNat ^^^ (o.toNat &&& 2 ^ g.toNat) : Nat) : Int)
theorem testBit_two_pow' (g i : Nat) : (2 ^ g).testBit i = decide (g = i) := by rw [Nat.testBit_two_pow]
theorem opn_flip {o g i : Int} (hg : 0 ≤ g) (hi : 0 ≤ i) : opn (flip o g) i = if i = g then !opn o i else opn o i := by
  unfold opn flip
  rw [Int.toNat_natCast, Nat.testBit_xor, testBit_two_pow']
  by_cases h : i = g
  · subst h; simp
  · rw [if_neg h]
    have : ¬ g.toNat = i.toNat := by omega
    simp [this]
theorem opn_setb {o g i : Int} (b : Bool) (hg : 0 ≤ g) (hi : 0 ≤ i) : opn (setb o g b) i = if i = g then b else opn o i := by
  unfold opn setb
  cases b with
  | true =>
    rw [if_pos rfl, Int.toNat_natCast, Nat.testBit_or, testBit_two_pow']
    by_cases h : i = g
    · subst h; simp
    · rw [if_neg h]
      have : ¬ g.toNat = i.toNat := by omega
      simp [this]
  | false =>
    rw [if_neg Bool.false_ne_true, Int.toNat_natCast, Nat.testBit_xor, Nat.testBit_and, testBit_two_pow']
    by_cases h : i = g
    · subst h; simp
    · rw [if_neg h]
      have : ¬ g.toNat = i.toNat := by omega
      simp [this]
theorem setb_lt {o g : Int} {n : Nat} (b : Bool) (ho : 0 ≤ o) (h1 : o < 2 ^ n) (hg : 0 ≤ g) (h2 : g < n) : 0 ≤ setb o g b ∧ setb o g b < 2 ^ n := by
  unfold setb
  have e : ((2 : Int) ^ n) = ((2 ^ n : Nat) : Int) := by simp
  rw [e] at h1 ⊢
  have ha : o.toNat < 2 ^ n := by omega
  have hp : 2 ^ g.toNat < 2 ^ n := Nat.pow_lt_pow_right (by decide) (by omega)
  have := Nat.or_lt_two_pow ha hp
  have := Nat.xor_lt_two_pow (n := n) (x := o.toNat) (y := o.toNat &&& 2 ^ g.toNat) ha (Nat.lt_of_le_of_lt Nat.and_le_left ha)
  split <;> omega
theorem eq_of_opn {a b : Int} (ha : 0 ≤ a) (hb : 0 ≤ b) (h : ∀ i : Int, 0 ≤ i → opn a i = opn b i) : a = b := by
  have : a.toNat = b.toNat := Nat.eq_of_testBit_eq fun i => by
    have := h (i : Int) (by omega)
    simpa [opn] using this
  omega
theorem setb_flip {o g : Int} (ho : 0 ≤ o) (hg : 0 ≤ g) : setb o g (!opn o g) = flip o g := by
  refine eq_of_opn (by unfold setb; split <;> omega) (by unfold flip; omega) fun i hi => ?_
  rw [opn_setb _ hg hi, opn_flip hg hi]
  by_cases h : i = g
  · subst h; simp
  · simp [h]
theorem impl_with_eq {o g : Int} (w h : Int) (b : Bool) (ho : 0 ≤ o) (h1 : o < 2 ^ 62) (hg : 0 ≤ g) (h2 : g < 62) : impl_with.f w h o g b = some (w, h, setb o g b) := by
  unfold impl_with.f
  obtain ⟨a, rfl⟩ := Int.eq_ofNat_of_zero_le ho
  obtain ⟨n, rfl⟩ := Int.eq_ofNat_of_zero_le hg
  have ha : a < 2 ^ 62 := by omega
  have hp : (2 : Nat) ^ n < 2 ^ 62 := Nat.pow_lt_pow_right (by decide) (by omega)
  have ha' : a < 2 ^ 63 := by omega
  have hp' : (2 : Nat) ^ n < 2 ^ 63 := by omega
  rw [if_pos (by omega)]

  rw [shl_one (by omega), bits_andNot_i ha' hp', bits_or_i (Nat.xor_lt_two_pow ha' (Nat.lt_of_le_of_lt Nat.and_le_left ha')) hp']
  unfold setb
  simp only [Int.toNat_natCast]
  cases b with
  | true =>
    rw [if_pos rfl, if_pos rfl]
    congr 3
    have : (a ^^^ a &&& 2 ^ n) ||| 2 ^ n = a ||| 2 ^ n := by
      apply Nat.eq_of_testBit_eq
      intro i
      simp only [Nat.testBit_or, Nat.testBit_xor, Nat.testBit_and]
      cases a.testBit i <;> cases (2 ^ n).testBit i <;> rfl
    rw [this]
  | false =>
    rw [if_neg Bool.false_ne_true, if_neg Bool.false_ne_true]
theorem xor_shl_eq {o g : Int} (ho : 0 ≤ o) (h1 : o < 2 ^ 62) (hg : 0 ≤ g) (h2 : g < 62) : Go.bits .xor .i64 o (shl .i64 1 g) = flip o g := by
  obtain ⟨a, rfl⟩ := Int.eq_ofNat_of_zero_le ho
  obtain ⟨n, rfl⟩ := Int.eq_ofNat_of_zero_le hg
  have hp : (2 : Nat) ^ n < 2 ^ 62 := Nat.pow_lt_pow_right (by decide) (by omega)

  rw [shl_one (by omega), bits_xor_i (by omega) (by omega)]
  rfl
theorem mok_setb {w h o g : Int} (b : Bool) (M : mok w h o = true) (hg : igap w h g = true) : mok w h (setb o g b) = true := by
  rw [mok_iff] at M ⊢
  have a := igap_iff.1 hg
  have := setb_lt (n := (gaps w h).toNat) b M.2.1 M.2.2 a.1 (by omega)
  exact ⟨M.1, this.1, this.2⟩
end Go.Proofs.Ytimejdhglmajdaa.F
end

section
namespace Go.Proofs.Ytimejdhglmajdaa.F
open Go.RowKit Go.Proofs.YtimejdhglmajdaaW.PrintWords Go.Proofs.YtimejdhglmajdaaW.PrintLast Go.Proofs.YtimejdhglmajdaaW.PrintMore
set_option linter.unusedVariables false
set_option linter.unusedSimpArgs false
theorem impl_isIn_eq (w h o : Int) (l : List Int) : impl_isIn.f w h o l = some (mok w h o && l.all (icell w h)) := by
  unfold impl_isIn.f
  rw [impl_MazeOk_eq, Option.bind_some, allO_of (p := icell w h) (fun x _ => impl_isCell_eq w h x)]
  cases mok w h o <;> simp
theorem spec_l04Has_eq (w h o c : Int) : spec_l04Has.f w h o c = some (mok w h o && icell w h c) := by
  unfold spec_l04Has.f
  rw [spec_MazeOk_eq, spec_CountCells_eq]
  simp only [Option.bind_some, spec_l01In_eq, in_cells]
  cases mok w h o <;> simp
end Go.Proofs.Ytimejdhglmajdaa.F
end

section
namespace Go.Proofs.Ytimejdhglmajdaa.F
open Go.RowKit Go.Proofs.YtimejdhglmajdaaW.PrintWords Go.Proofs.YtimejdhglmajdaaW.PrintLast Go.Proofs.YtimejdhglmajdaaW.PrintMore
set_option linter.unusedVariables false
set_option linter.unusedSimpArgs false
def stN (w h : Int) : Nat := (cells w h).toNat
def ways (w h o c : Int) : List Int := ([0, 1, 2, 3] : List Int).filter fun d => decide (0 ≤ st w h o c d)
theorem ways_length (w h o c : Int) : (ways w h o c).length ≤ 4 := List.length_filter_le _ _
theorem impl_WaysFrom_eq {k : Nat} (hk : 8 ≤ k) (w h o c : Int) : impl_WaysFrom.f k w h o c = some (ways w h o c) := by
  unfold impl_WaysFrom.f
  have := fold_loop (n := 4) (c := 3) (F := fun k (acc : List Int) i => impl_WaysFrom.l0 k c acc i w h o) (step := fun acc i => if 0 ≤ st w h o c (i : Int) then acc ++ [(i : Int)] else acc) (fin := fun acc : List Int => acc) (I := fun acc i => acc.length ≤ i)
    (fun k acc i hk hi ha => by
      simp only [impl_WaysFrom.l0]
      rw [if_pos (by omega), impl_Step_eq (by omega), Option.bind_some, w64 (x := (i : Int) + 1) (by omega) (by omega)]
      by_cases hd : 0 ≤ st w h o c (i : Int)
      · rw [if_pos hd, if_pos hd, if_pos (by omega)]
      · rw [if_neg hd, if_neg hd])
    (fun acc i _ ha => by
      show (if _ then _ else _ : List Int).length ≤ i + 1
      split
      · simp only [List.length_append, List.length_singleton]; omega
      · omega)
    (fun k acc _ _ => by
      simp only [impl_WaysFrom.l0]
      rw [if_neg (by decide)]) 4 0 k [] (by decide) (by omega) (Nat.le_refl _)
  refine this.trans ?_
  congr 1
  unfold ways
  simp only [List.range'_succ, List.range'_zero, List.foldl_cons, List.foldl_nil, List.filter_cons, List.filter_nil, Nat.zero_add, Int.natCast_add, decide_eq_true_eq]
  show (if 0 ≤ st w h o c (3 : Int) then _ else _) = _
  by_cases h0 : 0 ≤ st w h o c 0 <;> by_cases h1 : 0 ≤ st w h o c 1 <;> by_cases h2 : 0 ≤ st w h o c 2 <;> by_cases h3 : 0 ≤ st w h o c 3 <;> simp [h0, h1, h2, h3]
theorem ways_mem {w h o c d : Int} (H : d ∈ ways w h o c) : 0 ≤ st w h o c d := by
  unfold ways at H
  exact of_decide_eq_true (List.mem_filter.1 H).2
end Go.Proofs.Ytimejdhglmajdaa.F
end

section
namespace Go.Proofs.Ytimejdhglmajdaa.F
open Go.RowKit Go.Proofs.YtimejdhglmajdaaW.PrintWords Go.Proofs.YtimejdhglmajdaaW.PrintLast Go.Proofs.YtimejdhglmajdaaW.PrintMore
set_option linter.unusedVariables false
set_option linter.unusedSimpArgs false
theorem gaps_small {w h g : Int} (hg : igap w h g = true) : 0 ≤ g ∧ g < 24 := by
  have := igap_iff.1 hg
  have := gaps_bd w h
  omega
end Go.Proofs.Ytimejdhglmajdaa.F
end
