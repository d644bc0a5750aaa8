/- Packed by a program of the session (wip/tools/pack.py): what the claim's theorem reaches, of the texts that wip/ and the kit's printer lay. -/
import Derived.Test.YtpeehicekddjhaaPkFnExactTreeSpan6
import Derived.Shelf.Sort.Plain
import Derived.Shelf.Slices.CompactI
import Derived.Shelf.Slices.In.SortNone
import Derived.Sort.OwnSortedInts
import Derived.Test.YtpeehicekddjhaaProg
import Derived.Laws.StructEq
section
namespace Go.Proofs
def Try.lays189_ren : Go.Shelf.Ren := ⟨fun | 189 => 165 | 125 => 162 | 257 => 192 | 128 => 189 | 129 => 190 | 294 => 205 | 295 => 206 | 296 => 207 | 297 => 208 | 298 => 209 | 299 => 210 | 216 => 211 | 300 => 212 | 301 => 213 | 328 => 216 | 329 => 199 | 330 => 200 | 331 => 217 | 332 => 218 | 215 => 219 | 343 => 220 | n => n, fun | 28 => 39 | 3 => 3 | 46 => 165 | 0 => 0 | 51 => 184 | 53 => 186 | 4 => 4 | 183 => 177 | 182 => 176 | 131 => 181 | 5 => 5 | 9 => 9 | 218 => 193 | 222 => 197 | 228 => 204 | 229 => 170 | n => n, fun  | n => n⟩
theorem Try.lays189 : Lays.n189 Try.prog Try.lays189_ren := { mixed := by kernel_rfl, f125 := Try.func162.trans (congrArg some (by kernel_rfl)), f128 := Try.func189.trans (congrArg some (by kernel_rfl)), f129 := Try.func190.trans (congrArg some (by kernel_rfl)), f189 := Try.func165.trans (congrArg some (by kernel_rfl)), f215 := Try.func219.trans (congrArg some (by kernel_rfl)), f216 := Try.func211.trans (congrArg some (by kernel_rfl)), f257 := Try.func192.trans (congrArg some (by kernel_rfl)), f294 := Try.func205.trans (congrArg some (by kernel_rfl)), f295 := Try.func206.trans (congrArg some (by kernel_rfl)), f296 := Try.func207.trans (congrArg some (by kernel_rfl)), f297 := Try.func208.trans (congrArg some (by kernel_rfl)), f298 := Try.func209.trans (congrArg some (by kernel_rfl)), f299 := Try.func210.trans (congrArg some (by kernel_rfl)), f300 := Try.func212.trans (congrArg some (by kernel_rfl)), f301 := Try.func213.trans (congrArg some (by kernel_rfl)), f328 := Try.func216.trans (congrArg some (by kernel_rfl)), f329 := Try.func199.trans (congrArg some (by kernel_rfl)), f330 := Try.func200.trans (congrArg some (by kernel_rfl)), f331 := Try.func217.trans (congrArg some (by kernel_rfl)), f332 := Try.func218.trans (congrArg some (by kernel_rfl)), f343 := Try.func220.trans (congrArg some (by kernel_rfl)), t0 := Try.underlying0, a0 := Try.isAgg0, z0 := Try.sizeOf0, v0 := Try.zeroValue0, t3 := Try.underlying3, a3 := Try.isAgg3, z3 := Try.sizeOf3, v3 := Try.zeroValue3, t4 := Try.underlying4, a4 := Try.isAgg4, z4 := Try.sizeOf4, v4 := Try.zeroValue4, t5 := Try.underlying5, a5 := Try.isAgg5, z5 := Try.sizeOf5, v5 := Try.zeroValue5, t9 := Try.underlying9, a9 := Try.isAgg9, z9 := Try.sizeOf9, v9 := Try.zeroValue9, t28 := Try.underlying39, a28 := Try.isAgg39, z28 := Try.sizeOf39, v28 := Try.zeroValue39, t46 := Try.underlying165, a46 := Try.isAgg165, z46 := Try.sizeOf165, v46 := Try.zeroValue165, t51 := Try.underlying184, a51 := Try.isAgg184, z51 := Try.sizeOf184, v51 := Try.zeroValue184, t53 := Try.underlying186, a53 := Try.isAgg186, z53 := Try.sizeOf186, v53 := Try.zeroValue186, t131 := Try.underlying181, a131 := Try.isAgg181, z131 := Try.sizeOf181, v131 := Try.zeroValue181, t182 := Try.underlying176, a182 := Try.isAgg176, z182 := Try.sizeOf176, v182 := Try.zeroValue176, t183 := Try.underlying177, a183 := Try.isAgg177, z183 := Try.sizeOf177, v183 := Try.zeroValue177, t218 := Try.underlying193, a218 := Try.isAgg193, z218 := Try.sizeOf193, v218 := Try.zeroValue193, t222 := Try.underlying197, a222 := Try.isAgg197, z222 := Try.sizeOf197, v222 := Try.zeroValue197, t228 := Try.underlying204, a228 := Try.isAgg204, z228 := Try.sizeOf204, v228 := Try.zeroValue204, t229 := Try.underlying170, a229 := Try.isAgg170, z229 := Try.sizeOf170, v229 := Try.zeroValue170 }
def Try.lays2020_ren : Go.Shelf.Ren := ⟨fun | 20 => 166 | n => n, fun | 22 => 39 | 3 => 3 | 4 => 4 | 0 => 0 | n => n, fun  | n => n⟩
theorem Try.lays2020 : Lays2.n20 Try.prog Try.lays2020_ren := { mixed := by kernel_rfl, f20 := Try.func166.trans (congrArg some (by kernel_rfl)), t0 := Try.underlying0, a0 := Try.isAgg0, z0 := Try.sizeOf0, v0 := Try.zeroValue0, t3 := Try.underlying3, a3 := Try.isAgg3, z3 := Try.sizeOf3, v3 := Try.zeroValue3, t4 := Try.underlying4, a4 := Try.isAgg4, z4 := Try.sizeOf4, v4 := Try.zeroValue4, t22 := Try.underlying39, a22 := Try.isAgg39, z22 := Try.sizeOf39, v22 := Try.zeroValue39, i3 := by kernel_rfl }
end Go.Proofs
end

section
namespace Go.Proofs.Ytpeehicekddjhaa.F
open Go.RowKit Go.Proofs.YtpeehicekddjhaaW.PrintWords Go.Proofs.YtpeehicekddjhaaW.PrintLast Go.Proofs.YtpeehicekddjhaaW.PrintMore
set_option linter.unusedVariables false
set_option linter.unusedSimpArgs false
attribute [local go_sem] max2_int min2_int max_two min_two
theorem grownBy_two {w w1 w2 : World} {g : Option Nat} (h : w.grownBy w1 g) (k : w1.grownBy w2 g) : w.grownBy w2 g :=
  ⟨k.os.trans h.os, k.tape.trans h.tape, k.output.trans h.output, Nat.le_trans h.size k.size, fun i hi hn => (k.block i (Nat.lt_of_lt_of_le hi h.size) hn).trans (h.block i hi hn)⟩
theorem flat_eI (l : List Int) : (l.map eI).flatten = l.map (Value.int .i64) := by
  induction l with
  | nil => rfl
  | cons x l ih => rw [List.map_cons, List.flatten_cons, ih]; rfl
theorem compact_le (zs : List Int) : (Go.Lib.compact zs).length ≤ zs.length := by
  unfold Go.Lib.compact Go.Lib.compactUpTo
  rw [List.length_map]
  exact Nat.le_trans (List.length_filter_le _ _) (by simp)
set_option maxHeartbeats 4000000 in
open Go.Sort in
theorem impl_ordered.turn {l0 r : List Int} (h : impl_ordered.f l0 = some r) : CtrT Try.prog 109 3 1 (l0.map eI) [] (r.map eI) := by
 unfold impl_ordered.f at h
 obtain ⟨hl, hr⟩ := ifN h
 injection hr with hr
 refine ⟨enters_of Try.func109 rfl rfl, fun x hx => ?_, fun w B y hB ho => ?_⟩
 ·obtain ⟨z, _, rfl⟩ := List.mem_map.1 hx
  exact ⟨rfl, fun u hu => by simp [eI] at hu; subst hu; rfl⟩
 simp only [vluL]
 rw [List.length_map, flat_eI] at ho
 rw [List.length_map, flat_eI]
 generalize hm : l0.mergeSort (fun x y => decide (x ≤ y)) = ms at hr
 have hml : ms.length = l0.length := by rw [← hm]; exact List.length_mergeSort l0
 rcases ho.2 with ⟨rfl, h0⟩ | ⟨g, cap, cur, rfl, h1, h2, h3, h4, h5, h6⟩
 ·obtain rfl : l0 = [] := List.eq_nil_of_length_eq_zero h0
  obtain rfl : ms = [] := List.eq_nil_of_length_eq_zero hml
  obtain rfl : r = [] := by rw [← hr]; rfl
  clear h hm ho hl
  go_enter Try.func109, Try.ntmps109
  go_wp2_with (first | (go_at_call 165; refine (Any.slices_Sort_int_none Try.lays189 none 0 _).mono ?_; rintro e w' ⟨rfl, rfl⟩) | (go_at_call 166; refine (Any.slices_Compact_int_empty Try.lays2020 none 0 _).mono ?_; rintro e w' ⟨rfl, rfl⟩))
  go_ret
  exact ⟨_, rfl, World.ownsRow_nil _ _ _ _, World.grownBy.refl _ _, fun k hk => by cases hk⟩
 ·rw [Nat.mul_one] at h6
  have hg : g < w.heap.size := (Array.getElem?_eq_some_iff.1 h2).1
  have hS := Any.slices_Sort_int Try.lays189 g 0 cap l0 w (holds_of_blockI h2 h6) hg hl
  rw [hm] at hS
  have hsz : ms.length ≤ cur.size := by rw [hml, h5, Nat.mul_one]; exact h3
  have hC : ∀ n os, Calls Try.prog 166 #[.slice (some ⟨g, 0, none⟩) l0.length cap] (grow (putRow (Value.int .i64) (Sort.ahead w n) g 0 ms.toArray) os) fun e w' => e = .returned (.slice (some ⟨g, 0, none⟩) r.length cap) ∧ w'.ownsRow B 3 1 (.slice (some ⟨g, 0, none⟩) r.length cap) r.length (r.map (Value.int .i64)) ∧ w.grownBy w' (some g) := by
   intro n os
   have hb := heap_sortedI (w := w) (g := g) (n := n) (os := os) ms.toArray h2
   have hk := Any.slices_Compact_int Try.lays2020 g 0 cap ms _ (holds_of_blockI hb (take_putCellsI cur ms hsz)) (by rw [hml]; omega) (by rw [hml]; exact h3)
   rw [hr, hml] at hk
   refine hk.mono ?_
   rintro e w' ⟨rfl, q, rfl⟩
   have hrl : r.length ≤ l0.length := by rw [← hr, ← hml]; exact compact_le ms
   have hg0 : ∀ (w : World) d, w.grownBy (putRow (Value.int .i64) (Sort.ahead w q) g 0 d) (some g) := fun w d => by
    have := grownBy_sortedI (w := w) (g := g) (n := q) (os := #[]) d
    rwa [grow_empty] at this
   refine ⟨rfl, ⟨by simp, .inr ⟨g, cap, _, rfl, h1, by have := heap_sortedI (n := q) (os := #[]) (r ++ List.replicate (l0.length - r.length) 0).toArray hb; rwa [grow_empty] at this, Nat.le_trans hrl h3, h4, by simp [putCells, h5], ?_⟩⟩, grownBy_two (grownBy_sortedI _) (hg0 _ _)⟩
   have ht := take_putCellsI (putCells (Value.int .i64) 0 ms.toArray cur) (r ++ List.replicate (l0.length - r.length) 0) (by simp [putCells]; omega)
   rw [Nat.mul_one]
   have h7 := congrArg (List.take r.length) ht
   rw [List.take_take, Nat.min_eq_left (by simp), List.map_append, List.take_append_of_le_length (by simp), List.take_of_length_le (l := List.map (Value.int .i64) r) (by simp)] at h7
   exact h7
  clear h hr h6 h5 ho
  go_enter Try.func109, Try.ntmps109
  go_wp2_with (first | (go_at_call 165; refine hS.mono ?_; rintro e w' ⟨rfl, n, os, rfl⟩) | (go_at_call 166; refine (hC n os).mono ?_; rintro e w' ⟨rfl, HO, HG⟩))
  go_ret
  exact ⟨_, rfl, HO, HG, fun k hk => .inl hk⟩
end Go.Proofs.Ytpeehicekddjhaa.F
end

section
namespace Go.Proofs.Ytpeehicekddjhaa.F
open Go.RowKit Go.Proofs.YtpeehicekddjhaaW.PrintWords Go.Proofs.YtpeehicekddjhaaW.PrintLast Go.Proofs.YtpeehicekddjhaaW.PrintMore
set_option linter.unusedVariables false
set_option linter.unusedSimpArgs false
attribute [local go_sem] max2_int min2_int max_two min_two
set_option maxHeartbeats 8000000 in
set_option maxRecDepth 100000 in
theorem impl_CountPassages.calls (a0_0 : Int) (a0_1 : Int) (a0_2 : Int) (r : Int) (w : World) (h : impl_CountPassages.f a0_0 a0_1 a0_2 = some r) :
  Calls Try.prog 164 #[.agg #[.int .i64 a0_0, .int .i64 a0_1, .int .i64 a0_2]] w fun e w' => e = .returned (.int .i64 r) ∧ Below w.heap.size w w' := by
 have hu27 := Try.underlying27
 have HB := aK (Below.refl w.heap.size w)
 have H : ((impl_MazeOk.f a0_0 a0_1 a0_2).bind fun t975 => (if t975 = true then ((math_bits_OnesCount.f (IntKind.u64.wrap (a0_2))).bind fun t976 => (some t976)) else (some 0))) = some r := h
 clear h
 replace H := Option.bind_eq_some_iff.mp H
 obtain ⟨t975, A20, H⟩ := H
 replace H : (if t975 = true then ((math_bits_OnesCount.f (IntKind.u64.wrap (a0_2))).bind fun t976 => (some t976)) else (some 0)) = some r := H
 have A2 := aK A20
 clear A20
 by_cases c3 : t975 = true
 ·subst c3
  have H1 : ((math_bits_OnesCount.f (IntKind.u64.wrap (a0_2))).bind fun t976 => (some t976)) = some r := by rw [if_pos rfl] at H; exact H
  clear H
  have H := H1
  clear H1
  replace H := Option.bind_eq_some_iff.mp H
  obtain ⟨t976, A40, H⟩ := H
  replace H : (some t976) = some r := H
  have A4 := aK A40
  clear A40
  obtain rfl := Option.some.inj H
  go_enter Try.func164, Try.ntmps164
  go_wp2_with (first | ((with_reducible refine gate_dst (N := 1) rfl ?_); refine box_event ?hg (N := 1) ?hd (cs := #[.int .i64 a0_0, .int .i64 a0_1, .int .i64 a0_2]) (t := 27) ?hr ?_; (case hd => rfl); (case hg => rfl); (case hr => first | (go_simp; done) | (go_simp; rfl)); intro gb974 hg w5 hbox hb; have n0_ := aK (bSp (by repeat (first | (with_reducible first | exact HB.out | apply bAl | apply bDN | apply bD1) | exact HB.out)) hb); have n1_ := aK (hbox); have n2_ := aK ((by rw [hg]; exact (bSz (by repeat (first | (with_reducible first | exact HB.out | apply bAl | apply bDN | apply bD1) | exact HB.out))) : w.heap.size ≤ gb974)); have n3_ := n2_; clear HB; have HB := n0_; have BK974 := n1_; have GW974 := n2_; have GE974 := n3_; clear n0_ n1_ n2_ n3_; clear hb hbox hg; obtain ⟨hcz6_0, hcz6_1, hcz6_2, hfz6_0, hfz6_1, hfz6_2⟩ := cl3 BK974.out) | ((with_reducible refine gate_callee (f := 84) rfl ?_); refine goesL_ (some 4) rfl rfl Try.func84 (by kernel_rfl) rfl #[.agg #[.int .i64 a0_0, .int .i64 a0_1, .int .i64 a0_2]] rfl (by (try simp only [List.map_toArray, List.map_cons, List.map_nil]); first | done | rfl | (simp only [List.length_drop, List.length_take]; rfl)) ?_; (with_reducible refine (impl_MazeOk.calls a0_0 a0_1 a0_2 true _ A2.out).mono ?_); rintro e w7 ⟨rfl, hb⟩; refine ⟨_, rfl, ?_⟩; have n0_ := bkb BK974 hb (by intro z_; (with_reducible repeat (first | refine blk_drewN ?_ _ | refine kD ?_ | refine kA ?_ _)); exact z_); have n1_ := aK (bSp (by repeat (first | (with_reducible first | exact HB.out | apply bAl | apply bDN | apply bD1 | refine bSt ?_ GE974.out) | exact HB.out)) hb); clear BK974; clear HB; have BK974 := n0_; have HB := n1_; clear n0_ n1_; (try clear hb); (try clear hb2); (try clear hk); (try clear hi); obtain ⟨hcz8_0, hcz8_1, hcz8_2, hfz8_0, hfz8_1, hfz8_2⟩ := cl3 BK974.out) | ((with_reducible refine gate_callee (f := 191) rfl ?_); refine goesL_ (some 9) rfl rfl Try.func191 (by kernel_rfl) rfl #[.int .u64 (IntKind.u64.wrap (a0_2))] rfl (by (try simp only [List.map_toArray, List.map_cons, List.map_nil]); first | done | rfl | (simp only [List.length_drop, List.length_take]; rfl)) ?_; (with_reducible refine (math_bits_OnesCount.calls (IntKind.u64.wrap (a0_2)) t976 _ A4.out).mono ?_); rintro e w' ⟨rfl, ⟨nd, rfl⟩⟩; refine ⟨_, rfl, ?_⟩))
  go_ret
  exact ⟨by first | rfl | (simp [errW_none, errW_some] <;> rfl) | (simp [*, errW_none, errW_some] <;> rfl), by repeat (first | (with_reducible first | exact HB.out | apply bAl | apply bDN | apply bD1 | refine bSt ?_ GE974.out) | exact HB.out)⟩
 ·replace c3 := Bool.eq_false_iff.mpr c3
  subst c3
  have H1 : (some 0) = some r := by rw [if_neg (show ¬ (false = true) by decide)] at H; exact H
  clear H
  have H := H1
  clear H1
  obtain rfl := Option.some.inj H
  go_enter Try.func164, Try.ntmps164
  go_wp2_with (first | ((with_reducible refine gate_dst (N := 1) rfl ?_); refine box_event ?hg (N := 1) ?hd (cs := #[.int .i64 a0_0, .int .i64 a0_1, .int .i64 a0_2]) (t := 27) ?hr ?_; (case hd => rfl); (case hg => rfl); (case hr => first | (go_simp; done) | (go_simp; rfl)); intro gb974 hg w9 hbox hb; have n0_ := aK (bSp (by repeat (first | (with_reducible first | exact HB.out | apply bAl | apply bDN | apply bD1) | exact HB.out)) hb); have n1_ := aK (hbox); have n2_ := aK ((by rw [hg]; exact (bSz (by repeat (first | (with_reducible first | exact HB.out | apply bAl | apply bDN | apply bD1) | exact HB.out))) : w.heap.size ≤ gb974)); have n3_ := n2_; clear HB; have HB := n0_; have BK974 := n1_; have GW974 := n2_; have GE974 := n3_; clear n0_ n1_ n2_ n3_; clear hb hbox hg; obtain ⟨hcz10_0, hcz10_1, hcz10_2, hfz10_0, hfz10_1, hfz10_2⟩ := cl3 BK974.out) | ((with_reducible refine gate_callee (f := 84) rfl ?_); refine goesL_ (some 4) rfl rfl Try.func84 (by kernel_rfl) rfl #[.agg #[.int .i64 a0_0, .int .i64 a0_1, .int .i64 a0_2]] rfl (by (try simp only [List.map_toArray, List.map_cons, List.map_nil]); first | done | rfl | (simp only [List.length_drop, List.length_take]; rfl)) ?_; (with_reducible refine (impl_MazeOk.calls a0_0 a0_1 a0_2 false _ A2.out).mono ?_); rintro e w11 ⟨rfl, hb⟩; refine ⟨_, rfl, ?_⟩; have n0_ := bkb BK974 hb (by intro z_; (with_reducible repeat (first | refine blk_drewN ?_ _ | refine kD ?_ | refine kA ?_ _)); exact z_); have n1_ := aK (bSp (by repeat (first | (with_reducible first | exact HB.out | apply bAl | apply bDN | apply bD1 | refine bSt ?_ GE974.out) | exact HB.out)) hb); clear BK974; clear HB; have BK974 := n0_; have HB := n1_; clear n0_ n1_; (try clear hb); (try clear hb2); (try clear hk); (try clear hi)))
  go_ret
  exact ⟨by first | rfl | (simp [errW_none, errW_some] <;> rfl) | (simp [*, errW_none, errW_some] <;> rfl), by repeat (first | (with_reducible first | exact HB.out | apply bAl | apply bDN | apply bD1 | refine bSt ?_ GE974.out) | exact HB.out)⟩
theorem impl_CountPassages.ctr {a0_0 : Int} {a0_1 : Int} {a0_2 : Int} {r : Int} (h : impl_CountPassages.f a0_0 a0_1 a0_2 = some r) : Ctr Try.prog 164 [.ag [.v (.int .i64 a0_0), .v (.int .i64 a0_1), .v (.int .i64 a0_2)]] (.v (.int .i64 r)) := by
  refine ⟨enters_of Try.func164 rfl rfl, fun w ys hys => ?_⟩
  simp only [RepL, Rep] at hys
  obtain ⟨_, _, rfl, ⟨_, rfl, _, _, rfl, rfl, _, _, rfl, rfl, _, _, rfl, rfl, rfl⟩, rfl⟩ := hys
  refine (impl_CountPassages.calls _ _ _ _ w h).mono ?_
  rintro _ _ ⟨rfl, hb⟩
  exact ⟨_, [], rfl, by simp [RepR, RepRL], List.nodup_nil, hb⟩
set_option maxRecDepth 20000 in set_option maxHeartbeats 4000000 in open Nat renaming reduceAdd → p1, reduceSub → p2, reduceMul → p3, reduceDiv → p4, reduceBNe → p5, reduceBEq → p6, reduceEqDiff → p7, reduceLeDiff → p8, reduceLT → p9 in open Int renaming reduceLE → p10, reduceLT → p11, reduceEq → p12 in
theorem impl_IsPerfect.ctr {k : Nat} {a0_0 : Int} {a0_1 : Int} {a0_2 : Int} {r : Bool} (h : impl_IsPerfect.f k a0_0 a0_1 a0_2 = some r) : Ctr Try.prog 107 [.ag [.v (.int .i64 a0_0), .v (.int .i64 a0_1), .v (.int .i64 a0_2)]] (.v (.bool r)) := by
  refine Ctr_of tyOk hm Try.func107 rfl rfl (by kernel_rfl) (n := 13) (rv := [.tmp 2]) rfl rfl ?_
  simp only [W, List.replicate]
  unfold impl_IsPerfect.f at h
  replace h := bnd h; obtain ⟨t1, A, h⟩ := h
  try simp only [W, p1, p2, p3, p4, p5, p6, p7, p8, p9, p10, p11]
  refine callR (impl_IsConnected.ctr A) ?_
  replace h := ifT h; rcases h with ⟨rfl, h⟩ | ⟨rfl, h⟩
  · replace h := bnd h; obtain ⟨t3, A, h⟩ := h
    try simp only [W, p1, p2, p3, p4, p5, p6, p7, p8, p9, p10, p11]
    refine callR (impl_CountPassages.ctr A) ?_
    replace h := bnd h; obtain ⟨t4, A, h⟩ := h
    try simp only [W, p1, p2, p3, p4, p5, p6, p7, p8, p9, p10, p11]
    refine callR (impl_CountCells.ctr A) ?_
    cases h
    try simp only [W, p1, p2, p3, p4, p5, p6, p7, p8, p9, p10, p11]
  · cases h
    try simp only [W, p1, p2, p3, p4, p5, p6, p7, p8, p9, p10, p11]
set_option maxRecDepth 20000 in set_option maxHeartbeats 4000000 in open Nat renaming reduceAdd → p1, reduceSub → p2, reduceMul → p3, reduceDiv → p4, reduceBNe → p5, reduceBEq → p6, reduceEqDiff → p7, reduceLeDiff → p8, reduceLT → p9 in open Int renaming reduceLE → p10, reduceLT → p11, reduceEq → p12 in
theorem impl_gapsOn.ctr {k : Nat} {a0_0 : Int} {a0_1 : Int} {a0_2 : Int} {a1 : Int} {a2 : Int} {r : List Int} (h : impl_gapsOn.f k a0_0 a0_1 a0_2 a1 a2 = some r) : Ctr Try.prog 108 [.ag [.v (.int .i64 a0_0), .v (.int .i64 a0_1), .v (.int .i64 a0_2)], .v (.int .i64 a1), .v (.int .i64 a2)] (.ow 3 1 (r.map eI)) := by
  refine Ctr_of tyOk hm Try.func108 rfl rfl (by kernel_rfl) (n := 36) (rv := [.tmp 6]) rfl rfl ?_
  simp only [W, List.replicate]
  unfold impl_gapsOn.f at h
  replace h := bnd h; obtain ⟨⟨t1_1, t1_2⟩, A, h⟩ := h
  dsimp only at h
  try simp only [W, p1, p2, p3, p4, p5, p6, p7, p8, p9, p10, p11]
  refine callR (impl_WayBetween.ctr A) ?_
  try simp only [W, p1, p2, p3, p4, p5, p6, p7, p8, p9, p10, p11]
  refine loopN (fun x : Int × List Int × List Int × Int × Int × Int × Int × Int => [.u, .v (.int .i64 x.1), .u, .bp 48 0, .u, .u, .u, .u, .u, .lo 144, .u, .u, .u, .u, .u, .u, .u, .u, .u, .lo 256, .v (.int .i64 x.2.2.2.1), .v (.int .i64 x.2.2.2.2.1), .u, .u, .u, .u, .u, .u, .u, .u, .u, .u, .u, .u, .u, .u, .u, .u, .u]) (fun x => [(48, .box 27 [.v (.int .i64 x.2.2.2.2.2.1), .v (.int .i64 x.2.2.2.2.2.2.1), .v (.int .i64 x.2.2.2.2.2.2.2)]), (144, .row 3 1 (List.map eI x.2.1)), (256, .row 3 1 (List.map eI x.2.2.1))]) (fun n x => impl_gapsOn.l0 n x.1 x.2.1 x.2.2.1 x.2.2.2.1 x.2.2.2.2.1 x.2.2.2.2.2.1 x.2.2.2.2.2.2.1 x.2.2.2.2.2.2.2 = some r) (a1, ([] : List Int), t1_1, (t1_1.length : Int), 0, a0_0, a0_1, a0_2) [] h (by simp only [W, p1, p2, p3, p4, p5, p6, p7, p8, p9, p10, p11] <;> trivial) (by simp only [W, p1, p2, p3, p4, p5, p6, p7, p8, p9, p10, p11] <;> trivial) rfl (fun _ h => by cases h) ?_
  intro n1 ⟨x2, x3, x4, x5, x6, x7, x8, x9⟩ _ h
  simp only [impl_gapsOn.l0] at h
  replace h := ifS h; rcases h with ⟨c10, h⟩ | ⟨c10, h⟩
  · replace h := ifN h; obtain ⟨c11, h⟩ := h
    replace h := ifN h; obtain ⟨c12, h⟩ := h
    replace h := bnd h; obtain ⟨t13, A, h⟩ := h
    try simp only [W, c10, c11, c12, p1, p2, p3, p4, p5, p6, p7, p8, p9, p10, p11]
    refine callR (impl_GapAt.ctr A) ?_
    replace h := ifN h; obtain ⟨c14, h⟩ := h
    replace h := bnd h; obtain ⟨t15, A, h⟩ := h
    try simp only [W, c10, c11, c12, c14, p1, p2, p3, p4, p5, p6, p7, p8, p9, p10, p11]
    refine callR (impl_Step.ctr A) ?_
    try simp only [W, c10, c11, c12, c14, p1, p2, p3, p4, p5, p6, p7, p8, p9, p10, p11]
    exact nextN (t15, (x3 ++ [t13]), x4, x5, (wrap64 (x6 + 1)), x7, x8, x9) [(144, 512)] n1 (by omega) h (by simp only [W, p1, p2, p3, p4, p5, p6, p7, p8, p9, p10, p11] <;> trivial) (by simp only [W, p1, p2, p3, p4, p5, p6, p7, p8, p9, p10, p11] <;> trivial) rfl
  · cases h
    try simp only [W, c10, p1, p2, p3, p4, p5, p6, p7, p8, p9, p10, p11]
set_option maxRecDepth 20000 in set_option maxHeartbeats 4000000 in open Nat renaming reduceAdd → p1, reduceSub → p2, reduceMul → p3, reduceDiv → p4, reduceBNe → p5, reduceBEq → p6, reduceEqDiff → p7, reduceLeDiff → p8, reduceLT → p9 in open Int renaming reduceLE → p10, reduceLT → p11, reduceEq → p12 in
theorem impl_TreeSpan.ctr {k : Nat} {a0_0 : Int} {a0_1 : Int} {a0_2 : Int} {l1 : List Int} {r : Int} (h : impl_TreeSpan.f k a0_0 a0_1 a0_2 l1 = some r) : Ctr Try.prog 43 [.ag [.v (.int .i64 a0_0), .v (.int .i64 a0_1), .v (.int .i64 a0_2)], .pr 1 (l1.map eI)] (.v (.int .i64 r)) := by
  refine Ctr_of tyOk hm Try.func43 rfl rfl (by kernel_rfl) (n := 44) (rv := [.tmp 4]) rfl rfl ?_
  simp only [W, List.replicate]
  unfold impl_TreeSpan.f at h
  replace h := bnd h; obtain ⟨t1, A, h⟩ := h
  try simp only [W, p1, p2, p3, p4, p5, p6, p7, p8, p9, p10, p11, p12]
  refine callR (impl_IsPerfect.ctr A) ?_
  replace h := ifT h; rcases h with ⟨rfl, h⟩ | ⟨rfl, h⟩
  · replace h := bnd h; obtain ⟨t3, A, h⟩ := h
    try simp only [W, p1, p2, p3, p4, p5, p6, p7, p8, p9, p10, p11, p12]
    refine callR (impl_isIn.ctr A) ?_
    replace h := ifT h; rcases h with ⟨rfl, h⟩ | ⟨rfl, h⟩
    · try simp only [W, p1, p2, p3, p4, p5, p6, p7, p8, p9, p10, p11, p12]
      refine loopN (fun x : List Int × List Int × List Int × Int × Int × Int × Int × Int => [.u, .pr 1 (List.map eI x.1), .bp 32 0, .u, .u, .lo 80, .u, .u, .u, .u, .u, .u, .u, .u, .u, .u, .u, .u, .u, .pr 1 (List.map eI x.2.2.1), .v (.int .i64 x.2.2.2.1), .v (.int .i64 x.2.2.2.2.1), .u, .u, .u, .u, .u, .u, .u, .u, .u, .u, .u, .u, .u, .u, .u, .u, .u, .u, .u, .u, .u, .u, .u, .u]) (fun x => [(32, .box 27 [.v (.int .i64 x.2.2.2.2.2.1), .v (.int .i64 x.2.2.2.2.2.2.1), .v (.int .i64 x.2.2.2.2.2.2.2)]), (80, .row 3 1 (List.map eI x.2.1))]) (fun n x => impl_TreeSpan.l0 n x.1 x.2.1 x.2.2.1 x.2.2.2.1 x.2.2.2.2.1 x.2.2.2.2.2.1 x.2.2.2.2.2.2.1 x.2.2.2.2.2.2.2 = some r) (l1, ([] : List Int), l1, (l1.length : Int), 0, a0_0, a0_1, a0_2) [] h (by simp only [W, p1, p2, p3, p4, p5, p6, p7, p8, p9, p10, p11, p12] <;> trivial) (by simp only [W, p1, p2, p3, p4, p5, p6, p7, p8, p9, p10, p11, p12] <;> trivial) rfl (fun _ h => by cases h) ?_
      intro n1 ⟨x5, x6, x7, x8, x9, x10, x11, x12⟩ _ h
      simp only [impl_TreeSpan.l0] at h
      replace h := ifS h; rcases h with ⟨c13, h⟩ | ⟨c13, h⟩
      · replace h := ifN h; obtain ⟨c14, h⟩ := h
        replace h := ifN h; obtain ⟨c15, h⟩ := h
        replace h := ifN h; obtain ⟨c16, h⟩ := h
        try simp only [W, c13, c14, c15, c16, p1, p2, p3, p4, p5, p6, p7, p8, p9, p10, p11, p12]
        refine loopN (fun x : List Int × List Int × Int × List Int × Int × Int × List Int × Int × Int × Int × Int × Int => [.u, .pr 1 (List.map eI x.1), .bp 32 0, .u, .u, .lo 80, .u, .v (.int .i64 x.2.2.1), .u, .u, .u, .u, .u, .u, .u, .u, .u, .u, .u, .pr 1 (List.map eI x.2.2.2.1), .v (.int .i64 x.2.2.2.2.1), .v (.int .i64 x.2.2.2.2.2.1), .u, .u, .u, .u, .u, .u, .pr 1 (List.map eI x.2.2.2.2.2.2.1), .v (.int .i64 x.2.2.2.2.2.2.2.1), .v (.int .i64 x.2.2.2.2.2.2.2.2.1), .u, .u, .u, .u, .u, .u, .u, .u, .u, .u, .u, .u, .u, .u, .u]) (fun x => [(32, .box 27 [.v (.int .i64 x.2.2.2.2.2.2.2.2.2.1), .v (.int .i64 x.2.2.2.2.2.2.2.2.2.2.1), .v (.int .i64 x.2.2.2.2.2.2.2.2.2.2.2)]), (80, .row 3 1 (List.map eI x.2.1))]) (fun n x => impl_TreeSpan.l1 n x.1 x.2.1 x.2.2.1 x.2.2.2.1 x.2.2.2.2.1 x.2.2.2.2.2.1 x.2.2.2.2.2.2.1 x.2.2.2.2.2.2.2.1 x.2.2.2.2.2.2.2.2.1 x.2.2.2.2.2.2.2.2.2.1 x.2.2.2.2.2.2.2.2.2.2.1 x.2.2.2.2.2.2.2.2.2.2.2 = some r) (x5, x6, (rd x7 x9), x7, x8, x9, (x5.take (x9 : Int).toNat), ((x5.take (x9 : Int).toNat).length : Int), 0, x10, x11, x12) [] h (by simp only [W, p1, p2, p3, p4, p5, p6, p7, p8, p9, p10, p11, p12] <;> trivial) (by simp only [W, p1, p2, p3, p4, p5, p6, p7, p8, p9, p10, p11, p12] <;> trivial) rfl (fun _ h => by cases h) ?_
        intro n2 ⟨x17, x18, x19, x20, x21, x22, x23, x24, x25, x26, x27, x28⟩ _ h
        simp only [impl_TreeSpan.l1] at h
        replace h := ifS h; rcases h with ⟨c29, h⟩ | ⟨c29, h⟩
        · replace h := ifN h; obtain ⟨c30, h⟩ := h
          replace h := ifN h; obtain ⟨c31, h⟩ := h
          replace h := bnd h; obtain ⟨t32, A, h⟩ := h
          try simp only [W, c29, c30, c31, p1, p2, p3, p4, p5, p6, p7, p8, p9, p10, p11, p12]
          refine callR (impl_gapsOn.ctr A) ?_
          replace h := ifN h; obtain ⟨c33, h⟩ := h
          try simp only [W, c29, c30, c31, c33, p1, p2, p3, p4, p5, p6, p7, p8, p9, p10, p11, p12]
          exact nextN (x17, (x18 ++ t32), x19, x20, x21, x22, x23, x24, (wrap64 (x25 + 1)), x26, x27, x28) [(80, 624)] n2 (by omega) h (by simp only [W, p1, p2, p3, p4, p5, p6, p7, p8, p9, p10, p11, p12] <;> trivial) (by simp only [W, p1, p2, p3, p4, p5, p6, p7, p8, p9, p10, p11, p12] <;> trivial) rfl
        · replace h := bnd h; obtain ⟨t34, A, h⟩ := h
          try simp only [W, c29, p1, p2, p3, p4, p5, p6, p7, p8, p9, p10, p11, p12]
          refine callT (by simp only [W, p1, p2, p3, p4, p5, p6, p7, p8, p9, p10, p11, p12]) rfl (impl_ordered.turn A) ⟨_, rfl, ?_⟩
          try simp only [W, c29, p1, p2, p3, p4, p5, p6, p7, p8, p9, p10, p11, p12]
          exact nextN (x17, t34, x20, x21, (wrap64 (x22 + 1)), x26, x27, x28) [(80, 672)] n2 (by omega) h (by simp only [W, p1, p2, p3, p4, p5, p6, p7, p8, p9, p10, p11, p12] <;> trivial) (by simp only [W, p1, p2, p3, p4, p5, p6, p7, p8, p9, p10, p11, p12] <;> trivial) rfl
      · cases h
        try simp only [W, c13, p1, p2, p3, p4, p5, p6, p7, p8, p9, p10, p11, p12]
    · cases h
      try simp only [W, p1, p2, p3, p4, p5, p6, p7, p8, p9, p10, p11, p12]
  · cases h
    try simp only [W, p1, p2, p3, p4, p5, p6, p7, p8, p9, p10, p11, p12]
end Go.Proofs.Ytpeehicekddjhaa.F
end

section
namespace Go.Proofs.Ytpeehicekddjhaa.F
open Go.RowKit Go.Proofs.YtpeehicekddjhaaW.PrintWords Go.Proofs.YtpeehicekddjhaaW.PrintLast Go.Proofs.YtpeehicekddjhaaW.PrintMore
set_option linter.unusedVariables false
set_option linter.unusedSimpArgs false
def laws_FnExactTreeSpan.f (k : Nat) (a0_0 : Int) (a0_1 : Int) (a0_2 : Int) (l1 : List Int) : Option (Bool) := if (l1.length : Int) > 1048576 then (some true) else ((laws_toMaze.f a0_0 a0_1 a0_2).bind fun bt1125 => ((laws_toIntS.f k l1).bind fun t1128 => ((spec_TreeSpan.f k bt1125.1 bt1125.2.1 bt1125.2.2 t1128).bind fun t1131 => ((laws_toIntS.f k l1).bind fun t1132 => ((laws_toMaze.f a0_0 a0_1 a0_2).bind fun bt1135 => ((impl_TreeSpan.f k bt1135.1 bt1135.2.1 bt1135.2.2 t1132).bind fun t1138 => (if t1138 = t1131 then ((laws_toIntS.f k l1).bind fun t1139 => ((laws_eqIntS.f k t1132 t1139).bind fun t1142 => (if t1142 = true then (some true) else (some false)))) else (some false))))))))
end Go.Proofs.Ytpeehicekddjhaa.F
end

section
namespace Go.Proofs.Ytpeehicekddjhaa.F
open Go.RowKit Go.Proofs.YtpeehicekddjhaaW.PrintWords Go.Proofs.YtpeehicekddjhaaW.PrintLast Go.Proofs.YtpeehicekddjhaaW.PrintMore
set_option linter.unusedVariables false
set_option linter.unusedSimpArgs false
attribute [local go_sem] max2_int min2_int max_two min_two
set_option maxRecDepth 20000 in set_option maxHeartbeats 4000000 in open Nat renaming reduceAdd → p1, reduceSub → p2, reduceMul → p3, reduceDiv → p4, reduceBNe → p5, reduceBEq → p6, reduceEqDiff → p7, reduceLeDiff → p8, reduceLT → p9 in open Int renaming reduceLE → p10, reduceLT → p11, reduceEq → p12 in
theorem laws_FnExactTreeSpan.ctr {k : Nat} {a0_0 : Int} {a0_1 : Int} {a0_2 : Int} {l1 : List Int} {r : Bool} (h : laws_FnExactTreeSpan.f k a0_0 a0_1 a0_2 l1 = some r) : Ctr Try.prog 7 [.ag [.v (.int .i64 a0_0), .v (.int .i64 a0_1), .v (.int .i64 a0_2)], .pr 1 (l1.map eI)] (.v (.bool r)) := by
  refine Ctr_of tyOk hm Try.func7 rfl rfl (by kernel_rfl) (n := 28) (rv := [.tmp 4]) rfl rfl ?_
  simp only [W, List.replicate]
  unfold laws_FnExactTreeSpan.f at h
  replace h := ifS h; rcases h with ⟨c1, h⟩ | ⟨c1, h⟩
  · cases h
    try simp only [W, c1, p1, p2, p3, p4, p5, p6, p7, p8, p9, p10, p11, p12]
  · replace h := bnd h; obtain ⟨⟨t2_1, t2_2, t2_3⟩, A, h⟩ := h
    dsimp only at h
    try simp only [W, c1, p1, p2, p3, p4, p5, p6, p7, p8, p9, p10, p11, p12]
    refine callR (laws_toMaze.ctr A) ?_
    replace h := bnd h; obtain ⟨t3, A, h⟩ := h
    try simp only [W, c1, p1, p2, p3, p4, p5, p6, p7, p8, p9, p10, p11, p12]
    refine callR (laws_toIntS.ctr A) ?_
    replace h := bnd h; obtain ⟨t4, A, h⟩ := h
    try simp only [W, c1, p1, p2, p3, p4, p5, p6, p7, p8, p9, p10, p11, p12]
    refine callR (spec_TreeSpan.ctr A) ?_
    replace h := bnd h; obtain ⟨t5, A, h⟩ := h
    try simp only [W, c1, p1, p2, p3, p4, p5, p6, p7, p8, p9, p10, p11, p12]
    refine callR (laws_toIntS.ctr A) ?_
    replace h := bnd h; obtain ⟨⟨t6_1, t6_2, t6_3⟩, A, h⟩ := h
    dsimp only at h
    try simp only [W, c1, p1, p2, p3, p4, p5, p6, p7, p8, p9, p10, p11, p12]
    refine callR (laws_toMaze.ctr A) ?_
    replace h := bnd h; obtain ⟨t7, A, h⟩ := h
    try simp only [W, c1, p1, p2, p3, p4, p5, p6, p7, p8, p9, p10, p11, p12]
    refine callR (impl_TreeSpan.ctr A) ?_
    replace h := ifS h; rcases h with ⟨c8, h⟩ | ⟨c8, h⟩
    · replace h := bnd h; obtain ⟨t9, A, h⟩ := h
      try simp only [W, c1, eq_true c8, p1, p2, p3, p4, p5, p6, p7, p8, p9, p10, p11, p12]
      refine callR (laws_toIntS.ctr A) ?_
      replace h := bnd h; obtain ⟨t10, A, h⟩ := h
      try simp only [W, c1, eq_true c8, p1, p2, p3, p4, p5, p6, p7, p8, p9, p10, p11, p12]
      refine callR (laws_eqIntS.ctr A) ?_
      replace h := ifT h; rcases h with ⟨rfl, h⟩ | ⟨rfl, h⟩
      · cases h
        try simp only [W, c1, eq_true c8, p1, p2, p3, p4, p5, p6, p7, p8, p9, p10, p11, p12]
      · cases h
        try simp only [W, c1, eq_true c8, p1, p2, p3, p4, p5, p6, p7, p8, p9, p10, p11, p12]
    · cases h
      try simp only [W, c1, c8, p1, p2, p3, p4, p5, p6, p7, p8, p9, p10, p11, p12]
theorem laws_FnExactTreeSpan.calls (k : Nat) (a0_0 : Int) (a0_1 : Int) (a0_2 : Int) (A1 : Option Addr) (c1 : Nat) (l1 : List Int) (w : World) (hr1 : Kd.C (Kd.int .i64) w A1 l1.length l1) (hc1 : l1.length ≤ c1) (h : laws_FnExactTreeSpan.f k a0_0 a0_1 a0_2 l1 = some true) :
    Calls Try.prog 7 #[.agg #[.int .i64 a0_0, .int .i64 a0_1, .int .i64 a0_2], .slice A1 l1.length c1] w fun e w' => e = .returned (.bool true) ∧ Below w.heap.size w w' := by
  refine ((laws_FnExactTreeSpan.ctr h).2 w [.agg #[.int .i64 a0_0, .int .i64 a0_1, .int .i64 a0_2], .slice A1 l1.length c1] (by simp only [RepL, Rep]; exact ⟨_, _, rfl, ⟨_, rfl, _, _, rfl, rfl, _, _, rfl, rfl, _, _, rfl, rfl, rfl⟩, _, _, rfl, at_of_C E_eI hr1 hc1, rfl⟩)).mono ?_
  rintro _ _ ⟨y, L, rfl, hR, _, hb⟩
  exact ⟨congrArg Ending.returned (RepR_pln rfl hR).1, hb⟩
end Go.Proofs.Ytpeehicekddjhaa.F
end

section
namespace Go.Proofs.Ytpeehicekddjhaa.F
open Go.RowKit Go.Proofs.YtpeehicekddjhaaW.PrintWords Go.Proofs.YtpeehicekddjhaaW.PrintLast Go.Proofs.YtpeehicekddjhaaW.PrintMore
set_option linter.unusedVariables false
set_option linter.unusedSimpArgs false
theorem rd_set {D : List Int} {i x v : Int} (hi : 0 ≤ i) (hx : 0 ≤ x) (hl : i < D.length) : rd (D.set i.toNat v) x = if x = i then v else rd D x := by
  unfold rd
  rw [List.getD_eq_getElem?_getD, List.getElem?_set]
  by_cases h : x = i
  · subst h
    rw [if_pos rfl, if_pos (by omega), if_pos rfl]; rfl
  · rw [if_neg (by omega), if_neg h, List.getD_eq_getElem?_getD]
theorem rd_lt {D : List Int} {x : Int} (hx : 0 ≤ x) (hl : x < D.length) : ∃ h : x.toNat < D.length, rd D x = D[x.toNat] := by
  have h : x.toNat < D.length := by omega
  exact ⟨h, by unfold rd; rw [List.getD_eq_getElem?_getD, List.getElem?_eq_getElem h]; rfl⟩
theorem rd_memI {D : List Int} {x : Int} (hx : 0 ≤ x) (hl : x < D.length) : rd D x ∈ D := by
  obtain ⟨h, e⟩ := rd_lt hx hl
  rw [e]; exact List.getElem_mem h
theorem mem_rd {D : List Int} {v : Int} (h : v ∈ D) : ∃ j : Nat, j < D.length ∧ rd D (j : Int) = v := by
  obtain ⟨j, hj, rfl⟩ := List.getElem_of_mem h
  exact ⟨j, hj, by rw [rd_nat, List.getD_eq_getElem?_getD, List.getElem?_eq_getElem hj]; rfl⟩
theorem rd_app_left {D E : List Int} {j : Nat} (h : j < D.length) : rd (D ++ E) (j : Int) = rd D (j : Int) := by
  simp only [rd_nat, List.getD_eq_getElem?_getD]
  rw [List.getElem?_append_left h]
theorem rd_app_last {D : List Int} {v : Int} : rd (D ++ [v]) (D.length : Int) = v := by
  simp only [rd_nat, List.getD_eq_getElem?_getD]
  rw [List.getElem?_append_right (Nat.le_refl _)]
  simp
def bfsD (nx : Int → Int → Int) (c : Int) : List Int → List Int × List Int → List Int × List Int
  | [], s => s
  | d :: ds, s => if 0 ≤ nx c d ∧ rd s.1 (nx c d) < 0 then bfsD nx c ds (s.1.set (nx c d).toNat (rd s.1 c + 1), s.2 ++ [nx c d]) else bfsD nx c ds s
def bfs (nx : Int → Int → Int) : Nat → Nat → List Int × List Int → List Int
  | 0, _, s => s.1
  | f + 1, i, s => if i < s.2.length then bfs nx f (i + 1) (bfsD nx (rd s.2 i) [0, 1, 2, 3] s) else s.1
def dists (nx : Int → Int → Int) (N : Nat) (a : Int) : List Int := bfs nx (N + 1) 0 ((List.replicate N (-1)).set a.toNat 0, [a])
inductive Walk (nx : Int → Int → Int) (a : Int) : Nat → Int → Prop
  | nil : Walk nx a 0 a
  | snoc {n : Nat} {b d : Int} : Walk nx a n b → 0 ≤ nx b d → Walk nx a (n + 1) (nx b d)
structure Steps (nx : Int → Int → Int) (N : Nat) : Prop where
  rng : ∀ c d, 0 ≤ nx c d → 0 ≤ c ∧ c < N ∧ nx c d < N ∧ 0 ≤ d ∧ d ≤ 3
structure Bfs (nx : Int → Int → Int) (N : Nat) (a : Int) (D Q : List Int) : Prop where
  len : D.length = N
  cnt : D.countP (· < 0) + Q.length = N
  inq : ∀ x ∈ Q, 0 ≤ x ∧ x < N ∧ 0 ≤ rd D x ∧ Walk nx a (rd D x).toNat x
  out : ∀ x : Int, 0 ≤ x → x < N → x ∉ Q → rd D x = -1
  src : rd D a = 0 ∧ a ∈ Q
  mono : ∀ j k : Nat, j ≤ k → k < Q.length → rd D (rd Q j) ≤ rd D (rd Q k)
structure BfsAt (nx : Int → Int → Int) (N : Nat) (a : Int) (i : Nat) (D Q : List Int) : Prop extends Bfs nx N a D Q where
  near : i < Q.length → ∀ x ∈ Q, rd D x ≤ rd D (rd Q i) + 1
  done : ∀ j, j < i → j < Q.length → ∀ d, 0 ≤ nx (rd Q j) d → nx (rd Q j) d ∈ Q ∧ rd D (nx (rd Q j) d) ≤ rd D (rd Q j) + 1
theorem countP_lt_set {D : List Int} {i v : Int} (hi : 0 ≤ i) (hl : i < D.length) (hneg : rd D i < 0) (hv : 0 ≤ v) : (D.set i.toNat v).countP (· < 0) + 1 = D.countP (· < 0) := by
  obtain ⟨h, e⟩ := rd_lt hi hl
  rw [e] at hneg
  have hpos : 0 < D.countP (· < 0) := List.countP_pos_iff.2 ⟨D[i.toNat], List.getElem_mem h, by simpa using hneg⟩
  rw [List.countP_set h]
  simp [hneg, show ¬ v < 0 by omega]
  omega
theorem bfs_push {nx : Int → Int → Int} {N : Nat} {a : Int} {i : Nat} {D Q : List Int} (S : Steps nx N) (B : BfsAt nx N a i D Q) (hi : i < Q.length) {d : Int} (h0 : 0 ≤ nx (rd Q i) d) (hneg : rd D (nx (rd Q i) d) < 0) :
    BfsAt nx N a i (D.set (nx (rd Q i) d).toNat (rd D (rd Q i) + 1)) (Q ++ [nx (rd Q i) d]) := by
  have hci : rd Q i ∈ Q := rd_memI (by omega) (by omega)
  generalize hc : rd Q i = c at *
  generalize hn : nx c d = n at *
  have hr := S.rng c d (by omega)
  rw [hn] at hr
  obtain ⟨c0, c1, cd, cw⟩ := B.inq c hci
  have hnl : n < D.length := by rw [B.len]; omega
  have hnQ : n ∉ Q := fun h => by have := (B.inq n h).2.2.1; omega
  have same : ∀ x ∈ Q, rd (D.set n.toNat (rd D c + 1)) x = rd D x := fun x hx => by
    have := (B.inq x hx).1
    rw [rd_set h0 this hnl, if_neg (by rintro rfl; exact hnQ hx)]
  have newv : rd (D.set n.toNat (rd D c + 1)) n = rd D c + 1 := by rw [rd_set h0 h0 hnl, if_pos rfl]
  have rq : ∀ j : Nat, j < Q.length → rd (Q ++ [n]) (j : Int) = rd Q (j : Int) := fun j hj => rd_app_left hj
  have wn : Walk nx a (rd D c + 1).toNat n := by
    have := Walk.snoc (d := d) cw (by omega)
    rw [hn] at this
    rwa [show (rd D c).toNat + 1 = (rd D c + 1).toNat by omega] at this
  refine ⟨⟨by rw [List.length_set, B.len], ?_, ?_, ?_, ?_, ?_⟩, ?_, ?_⟩
  · have := countP_lt_set (v := rd D c + 1) h0 hnl hneg (by omega)
    have := B.cnt
    rw [List.length_append, List.length_singleton]
    omega
  · intro x hx
    rcases List.mem_append.1 hx with hx | hx
    · rw [same x hx]; exact B.inq x hx
    · rw [List.mem_singleton.1 hx, newv]
      exact ⟨h0, hr.2.2.1, by omega, wn⟩
  · intro x x0 x1 hx
    rw [List.mem_append, not_or] at hx
    rw [rd_set h0 x0 hnl, if_neg (by rintro rfl; exact hx.2 (by simp))]
    exact B.out x x0 x1 hx.1
  · exact ⟨by rw [same a B.src.2]; exact B.src.1, List.mem_append_left _ B.src.2⟩
  · intro j k hjk hk
    rw [List.length_append, List.length_singleton] at hk
    by_cases hk' : k < Q.length
    · rw [rq j (by omega), rq k hk', same _ (rd_memI (by omega) (by omega)), same _ (rd_memI (by omega) (by omega))]
      exact B.mono j k hjk hk'
    · have ek : k = Q.length := by omega
      subst ek
      rw [rd_app_last, newv]
      by_cases hj' : j < Q.length
      · rw [rq j hj', same _ (rd_memI (by omega) (by omega))]
        have := B.near hi _ (rd_memI (D := Q) (x := (j : Int)) (by omega) (by omega))
        rw [hc] at this
        exact this
      · have ej : j = Q.length := by omega
        subst ej
        rw [rd_app_last, newv]
        exact Int.le_refl _
  · intro _ x hx
    rw [rq i hi, hc]
    rcases List.mem_append.1 hx with hx | hx
    · rw [same x hx, same c hci]
      have := B.near hi x hx
      rwa [hc] at this
    · rw [List.mem_singleton.1 hx, newv, same c hci]
      exact Int.le_refl _
  · intro j hj hjl e he
    rw [rq j (by omega)] at he ⊢
    obtain ⟨m1, m2⟩ := B.done j hj (by omega) e he
    exact ⟨List.mem_append_left _ m1, by rw [same _ m1, same _ (rd_memI (by omega) (by omega))]; exact m2⟩
theorem bfs_dirs {nx : Int → Int → Int} {N : Nat} {a : Int} {i : Nat} (S : Steps nx N) : ∀ (ds : List Int) (D Q : List Int), BfsAt nx N a i D Q → i < Q.length → ∀ D' Q', bfsD nx (rd Q i) ds (D, Q) = (D', Q') →
    BfsAt nx N a i D' Q' ∧ i < Q'.length ∧ rd Q' i = rd Q i ∧ (∀ x ∈ Q, x ∈ Q') ∧ (∀ d ∈ ds, 0 ≤ nx (rd Q i) d → nx (rd Q i) d ∈ Q' ∧ rd D' (nx (rd Q i) d) ≤ rd D' (rd Q i) + 1)
  | [], D, Q, B, hi, D', Q', e => by
    simp only [bfsD, Prod.mk.injEq] at e
    obtain ⟨rfl, rfl⟩ := e
    exact ⟨B, hi, rfl, fun _ h => h, fun d hd => by simp at hd⟩
  | d :: ds, D, Q, B, hi, D', Q', e => by
    simp only [bfsD] at e
    by_cases h : 0 ≤ nx (rd Q i) d ∧ rd D (nx (rd Q i) d) < 0
    · rw [if_pos h] at e
      have B' := bfs_push S B hi h.1 h.2
      have hq : rd (Q ++ [nx (rd Q i) d]) (i : Int) = rd Q i := rd_app_left hi
      have hi' : i < (Q ++ [nx (rd Q i) d]).length := by rw [List.length_append]; omega
      rw [← hq] at e
      obtain ⟨r1, r2, r3, r4, r5⟩ := bfs_dirs S ds _ _ B' hi' D' Q' (by rw [hq] at e ⊢; exact e)
      rw [hq] at r3 r5
      refine ⟨r1, r2, r3, fun x hx => r4 x (List.mem_append_left _ hx), fun e' he h0 => ?_⟩
      rcases List.mem_cons.1 he with rfl | he
      · have hm := r4 (nx (rd Q i) e') (by simp)
        have := r1.near r2 _ hm
        rw [r3] at this
        exact ⟨hm, this⟩
      · exact r5 e' he h0
    · rw [if_neg h] at e
      obtain ⟨r1, r2, r3, r4, r5⟩ := bfs_dirs S ds D Q B hi D' Q' e
      refine ⟨r1, r2, r3, r4, fun e' he h0 => ?_⟩
      rcases List.mem_cons.1 he with rfl | he
      · have hr := S.rng _ _ h0
        have hge : ¬ rd D (nx (rd Q i) e') < 0 := fun hh => h ⟨h0, hh⟩
        have hm : nx (rd Q i) e' ∈ Q := by
          by_cases hx : nx (rd Q i) e' ∈ Q
          · exact hx
          · have := B.out _ h0 hr.2.2.1 hx
            omega
        have := r1.near r2 _ (r4 _ hm)
        rw [r3] at this
        exact ⟨r4 _ hm, this⟩
      · exact r5 e' he h0
theorem bfs_run {nx : Int → Int → Int} {N : Nat} {a : Int} (S : Steps nx N) : ∀ (f i : Nat) (D Q : List Int), BfsAt nx N a i D Q → N < f + i → ∃ Q', BfsAt nx N a Q'.length (bfs nx f i (D, Q)) Q' ∨ (∃ j, Q'.length ≤ j ∧ BfsAt nx N a j (bfs nx f i (D, Q)) Q')
  | 0, i, D, Q, B, hf => ⟨Q, .inr ⟨i, by have := B.cnt; omega, B⟩⟩
  | f + 1, i, D, Q, B, hf => by
    simp only [bfs]
    by_cases hi : i < Q.length
    · rw [if_pos hi]
      generalize hs : bfsD nx (rd Q i) [0, 1, 2, 3] (D, Q) = s
      obtain ⟨D', Q'⟩ := s
      obtain ⟨r1, r2, r3, r4, r5⟩ := bfs_dirs S _ D Q B hi D' Q' hs
      refine bfs_run S f (i + 1) D' Q' ⟨r1.toBfs, fun h x hx => ?_, fun j hj hjl d hd => ?_⟩ (by omega)
      · have h1 := r1.near r2 x hx
        have h2 := r1.mono i (i + 1) (by omega) h
        omega
      · by_cases hj' : j = i
        · subst hj'
          rw [r3] at hd ⊢
          have hr := S.rng _ _ hd
          exact r5 d (by have : d = 0 ∨ d = 1 ∨ d = 2 ∨ d = 3 := by omega
                         rcases this with rfl | rfl | rfl | rfl <;> simp) hd
        · exact r1.done j (by omega) hjl d hd
    · rw [if_neg hi]
      exact ⟨Q, .inr ⟨i, by omega, B⟩⟩
theorem dists_spec {nx : Int → Int → Int} {N : Nat} {a : Int} (S : Steps nx N) (h0 : 0 ≤ a) (h1 : a < N) : (dists nx N a).length = N ∧ rd (dists nx N a) a = 0 ∧
    ∀ x : Int, 0 ≤ x → x < N → (rd (dists nx N a) x = -1 ∧ ∀ n, ¬ Walk nx a n x) ∨ (0 ≤ rd (dists nx N a) x ∧ Walk nx a (rd (dists nx N a) x).toNat x ∧ ∀ n, Walk nx a n x → rd (dists nx N a) x ≤ n) := by
  have hrep : ∀ x : Int, 0 ≤ x → x < N → rd (List.replicate N (-1)) x = -1 := fun x x0 x1 => by
    obtain ⟨h, e⟩ := rd_lt (D := List.replicate N (-1 : Int)) x0 (by simpa using x1)
    rw [e, List.getElem_replicate]
  have hset : ∀ x : Int, 0 ≤ x → x < N → rd ((List.replicate N (-1)).set a.toNat 0) x = if x = a then 0 else -1 := fun x x0 x1 => by
    rw [rd_set h0 x0 (by simpa using h1)]
    split
    · rfl
    · exact hrep x x0 x1
  have B0 : BfsAt nx N a 0 ((List.replicate N (-1)).set a.toNat 0) [a] := by
    refine ⟨⟨by simp, ?_, ?_, ?_, ?_, ?_⟩, ?_, ?_⟩
    · have := countP_lt_set (D := List.replicate N (-1 : Int)) (i := a) (v := 0) h0 (by simpa using h1) (by rw [hrep a h0 h1]; decide) (by decide)
      rw [List.countP_replicate] at this
      simpa using this
    · intro x hx
      rw [List.mem_singleton.1 hx, hset a h0 h1, if_pos rfl]
      exact ⟨h0, h1, by decide, Walk.nil⟩
    · intro x x0 x1 hx
      rw [hset x x0 x1, if_neg (by simpa using hx)]
    · exact ⟨by rw [hset a h0 h1, if_pos rfl], by simp⟩
    · intro j k hjk hk
      have : j = 0 := by simp at hk; omega
      have : k = 0 := by simp at hk; omega
      subst_vars
      exact Int.le_refl _
    · intro _ x hx
      rw [List.mem_singleton.1 hx]
      simp [rd]
      omega
    · intro j hj; omega
  have fin : ∃ j Q', Q'.length ≤ j ∧ BfsAt nx N a j (dists nx N a) Q' := by
    obtain ⟨Q', h | ⟨j, hj, h⟩⟩ := bfs_run S (N + 1) 0 _ _ B0 (by omega)
    · exact ⟨_, Q', Nat.le_refl _, h⟩
    · exact ⟨j, Q', hj, h⟩
  obtain ⟨j, Q', hj, B⟩ := fin
  have close : ∀ n x, Walk nx a n x → x ∈ Q' ∧ rd (dists nx N a) x ≤ n := by
    intro n x h
    induction h with
    | nil => exact ⟨B.src.2, by rw [B.src.1]; simp⟩
    | @snoc n b d hw hd ih =>
      obtain ⟨m1, m2⟩ := ih
      obtain ⟨i, hi, rfl⟩ := mem_rd m1
      obtain ⟨q1, q2⟩ := B.done i (by omega) hi d hd
      exact ⟨q1, by omega⟩
  refine ⟨B.len, B.src.1, fun x x0 x1 => ?_⟩
  by_cases hx : x ∈ Q'
  · right
    obtain ⟨_, _, q1, q2⟩ := B.inq x hx
    exact ⟨q1, q2, fun n hn => (close n x hn).2⟩
  · left
    exact ⟨B.out x x0 x1 hx, fun n hn => hx (close n x hn).1⟩
structure Sym (nx : Int → Int → Int) : Prop where
  back : ∀ c d, 0 ≤ nx c d → ∃ e, nx (nx c d) e = c
theorem Walk.cons {nx : Int → Int → Int} {a d : Int} (h0 : 0 ≤ nx a d) {n : Nat} {b : Int} (h : Walk nx (nx a d) n b) : Walk nx a (n + 1) b := by
  induction h with
  | nil => exact Walk.snoc Walk.nil h0
  | snoc _ hd ih => exact Walk.snoc ih hd
theorem Walk.trans {nx : Int → Int → Int} {a b : Int} {n : Nat} (h : Walk nx a n b) {m : Nat} {c : Int} (k : Walk nx b m c) : Walk nx a (n + m) c := by
  induction k with
  | nil => exact h
  | snoc _ hd ih => exact Walk.snoc ih hd
theorem Walk.rev {nx : Int → Int → Int} {N : Nat} (S : Steps nx N) (Y : Sym nx) {a : Int} {n : Nat} {b : Int} (h : Walk nx a n b) : Walk nx b n a := by
  induction h with
  | nil => exact Walk.nil
  | @snoc n b d hw hd ih =>
    obtain ⟨e, he⟩ := Y.back b d hd
    have := S.rng b d hd
    have h2 : Walk nx (nx (nx b d) e) n a := by rw [he]; exact ih
    exact Walk.cons (by rw [he]; omega) h2
end Go.Proofs.Ytpeehicekddjhaa.F
end

section
namespace Go.Proofs.Ytpeehicekddjhaa.F
open Go.RowKit Go.Proofs.YtpeehicekddjhaaW.PrintWords Go.Proofs.YtpeehicekddjhaaW.PrintLast Go.Proofs.YtpeehicekddjhaaW.PrintMore
set_option linter.unusedVariables false
set_option linter.unusedSimpArgs false
theorem w64 {x : Int} (h1 : -9223372036854775808 ≤ x) (h2 : x ≤ 9223372036854775807) : wrap64 x = x := by unfold wrap64; omega
theorem wrapi_nat {n : Nat} (h : n < 9223372036854775808) : IntKind.i64.wrap (n : Int) = (n : Int) := by rw [IntKind.wrap_i64]; omega
theorem wrapu_nat {n : Nat} (h : n < 18446744073709551616) : IntKind.u64.wrap (n : Int) = (n : Int) := by simp [IntKind.wrap, IntKind.bits, IntKind.signed]; omega
theorem bits_and_i {a b : Nat} (ha : a < 2 ^ 63) (hb : b < 2 ^ 63) : Go.bits .and .i64 (a : Int) (b : Int) = ((a &&& b : Nat) : Int) :=
  (bits_nat .i64 63 (by decide) (fun n h0 h1 => by rw [IntKind.wrap_i64]; omega) a b ha hb).1
theorem bits_xor_i {a b : Nat} (ha : a < 2 ^ 63) (hb : b < 2 ^ 63) : Go.bits .xor .i64 (a : Int) (b : Int) = ((a ^^^ b : Nat) : Int) := by
  have ha' : a % 2 ^ 64 = a := Nat.mod_eq_of_lt (by omega)
  have hb' : b % 2 ^ 64 = b := Nat.mod_eq_of_lt (by omega)
  have hx := Nat.xor_lt_two_pow ha hb
  show IntKind.i64.wrap (((BitVec.ofInt 64 (a : Int) ^^^ BitVec.ofInt 64 (b : Int)).toNat : Nat) : Int) = _
  rw [BitVec.ofInt_natCast, BitVec.ofInt_natCast, BitVec.toNat_xor, BitVec.toNat_ofNat, BitVec.toNat_ofNat, ha', hb']
  exact wrapi_nat (by omega)
theorem shl_one {g : Nat} (h : g < 63) : shl .i64 1 (g : Int) = ((2 ^ g : Nat) : Int) := by
  unfold shl
  have : min ((g : Int).toNat) IntKind.i64.bits = g := by simp [IntKind.bits]; omega
  rw [this, Int.one_mul]
  have hp : (2 : Nat) ^ g ≤ 2 ^ 62 := Nat.pow_le_pow_right (by decide) (by omega)
  have : ((2 : Int) ^ g) = ((2 ^ g : Nat) : Int) := by simp
  rw [this]
  exact wrapi_nat (by omega)
theorem shr_nat {a g : Nat} (ha : a < 2 ^ 63) : shr .i64 (a : Int) (g : Int) = ((a >>> g : Nat) : Int) := by
  unfold shr
  rw [Nat.shiftRight_eq_div_pow]
  by_cases hg : g ≤ 64
  · have : min ((g : Int).toNat) IntKind.i64.bits = g := by simp [IntKind.bits]; omega
    rw [this]
    have : ((2 : Int) ^ g) = ((2 ^ g : Nat) : Int) := by simp
    rw [this]
    omega
  · have : min ((g : Int).toNat) IntKind.i64.bits = 64 := by simp [IntKind.bits]; omega
    rw [this]
    have hp : (2 : Nat) ^ 64 ≤ 2 ^ g := Nat.pow_le_pow_right (by decide) (by omega)
    rw [Nat.div_eq_of_lt (by omega)]
    have : (a : Int) / 2 ^ 64 = 0 := by omega
    simpa using this
def opn (o g : Int) : Bool := o.toNat.testBit g.toNat
theorem bit_test {o g : Int} (ho : 0 ≤ o) (ho2 : o < 9223372036854775808) (hg : 0 ≤ g) : (Go.bits .and .i64 (shr .i64 o g) 1 == 1) = opn o g := by
  obtain ⟨a, rfl⟩ := Int.eq_ofNat_of_zero_le ho
  obtain ⟨n, rfl⟩ := Int.eq_ofNat_of_zero_le hg
  have ha : a < 2 ^ 63 := by omega
  rw [shr_nat ha]
  have h2 : a >>> n < 2 ^ 63 := Nat.lt_of_le_of_lt (by rw [Nat.shiftRight_eq_div_pow]; exact Nat.div_le_self _ _) ha
  unfold opn
  simp only [Int.toNat_natCast]
  rw [show ((1 : Int)) = ((1 : Nat) : Int) from rfl, bits_and_i h2 (by decide), Nat.testBit, Nat.and_one_is_mod, Nat.one_and_eq_mod_two]
  rcases Nat.mod_two_eq_zero_or_one (a >>> n) with h | h <;> simp [h]
theorem fold_loop {σ ρ : Type} {F : Nat → σ → Int → Option ρ} {n c : Nat} {step : σ → Nat → σ} {fin : σ → ρ} {I : σ → Nat → Prop}
    (hF : ∀ k s (i : Nat), c ≤ k → i < n → I s i → F (k + 1) s (i : Int) = F k (step s i) ((i : Int) + 1)) (hI : ∀ s i, i < n → I s i → I (step s i) (i + 1))
    (hE : ∀ k s, c ≤ k → I s n → F (k + 1) s (n : Int) = some (fin s)) :
    ∀ (d i : Nat) (k : Nat) (s : σ), i + d = n → d + c + 1 ≤ k → I s i → F k s (i : Int) = some (fin ((List.range' i d).foldl step s))
  | 0, i, k, s, hi, hk, h => by
    obtain ⟨m, rfl⟩ : ∃ m, k = m + 1 := ⟨k - 1, by omega⟩
    obtain rfl : i = n := by omega
    simpa using hE m s (by omega) h
  | d + 1, i, k, s, hi, hk, h => by
    obtain ⟨m, rfl⟩ : ∃ m, k = m + 1 := ⟨k - 1, by omega⟩
    rw [hF m s i (by omega) (by omega) h, List.range'_succ, List.foldl_cons]
    have := fold_loop (c := c) (step := step) (fin := fin) hF hI hE d (i + 1) m (step s i) (by omega) (by omega) (hI s i (by omega) h)
    rwa [Int.natCast_add] at this
theorem inv_loop {σ ρ : Type} {F : Nat → σ → Int → Option ρ} {n c : Nat} {fin : σ → ρ} {I : σ → Nat → Prop}
    (hF : ∀ k s (i : Nat), c ≤ k → i < n → I s i → ∃ s', I s' (i + 1) ∧ F (k + 1) s (i : Int) = F k s' ((i : Int) + 1))
    (hE : ∀ k s, c ≤ k → I s n → F (k + 1) s (n : Int) = some (fin s)) :
    ∀ (d i : Nat) (k : Nat) (s : σ), i + d = n → d + c + 1 ≤ k → I s i → ∃ s', I s' n ∧ F k s (i : Int) = some (fin s')
  | 0, i, k, s, hi, hk, h => by
    obtain ⟨m, rfl⟩ : ∃ m, k = m + 1 := ⟨k - 1, by omega⟩
    obtain rfl : i = n := by omega
    exact ⟨s, h, hE m s (by omega) h⟩
  | d + 1, i, k, s, hi, hk, h => by
    obtain ⟨m, rfl⟩ : ∃ m, k = m + 1 := ⟨k - 1, by omega⟩
    obtain ⟨s', h', e⟩ := hF m s i (by omega) (by omega) h
    obtain ⟨s2, h2, e2⟩ := inv_loop (c := c) (fin := fin) hF hE d (i + 1) m s' (by omega) (by omega) h'
    rw [Int.natCast_add] at e2
    exact ⟨s2, h2, e.trans e2⟩
theorem set_loop {α β : Type} (z : α) {F : Nat → List β → Int → Option (List β)} {l : List α} {g : α → β} {c : Nat}
    (hF : ∀ k acc (i : Nat), c ≤ k → i < l.length → acc.length = l.length → F (k + 1) acc (i : Int) = F k (acc.set i (g (l.getD i z))) ((i : Int) + 1)) (hE : ∀ k acc, c ≤ k → F (k + 1) acc (l.length : Int) = some acc) {k : Nat} (acc : List β) (ha : acc.length = l.length) (hk : l.length + c + 1 ≤ k) :
    F k acc 0 = some (l.map g) := by
  have key : ∀ (d i : Nat) (k : Nat) (acc : List β), i + d = l.length → d + c + 1 ≤ k → acc.length = l.length → F k acc (i : Int) = some (acc.take i ++ (l.drop i).map g) := by
    intro d
    induction d with
    | zero =>
      intro i k acc hi hk ha
      obtain ⟨m, rfl⟩ : ∃ m, k = m + 1 := ⟨k - 1, by omega⟩
      obtain rfl : i = l.length := by omega
      rw [hE m acc (by omega), List.take_of_length_le (by omega), List.drop_of_length_le (by omega)]
      simp
    | succ d ih =>
      intro i k acc hi hk ha
      obtain ⟨m, rfl⟩ : ∃ m, k = m + 1 := ⟨k - 1, by omega⟩
      have hil : i < l.length := by omega
      rw [hF m acc i (by omega) hil ha]
      have := ih (i + 1) m (acc.set i (g (l.getD i z))) (by omega) (by omega) (by simpa using ha)
      rw [Int.natCast_add] at this
      refine this.trans ?_
      congr 1
      rw [List.take_add_one, List.getElem?_set]
      simp [ha, hil, List.getD_eq_getElem?_getD, List.getElem?_eq_getElem hil]
      have e1 : List.drop i (List.map g l) = g l[i] :: List.drop (i + 1) (List.map g l) := by
        rw [List.drop_eq_getElem_cons (l := List.map g l) (i := i) (by simpa using hil)]
        simp
      rw [e1, List.take_set_of_le (Nat.le_refl _)]
  have := key l.length 0 k acc (by omega) (by omega) ha
  simpa using this
theorem all_loop {α : Type} (z : α) {F : Nat → Int → Option Bool} {l : List α} {p : α → Bool} {c : Nat} {b : Bool}
    (hF : ∀ k (i : Nat), c ≤ k → i < l.length → F (k + 1) (i : Int) = if p (l.getD i z) = true then F k ((i : Int) + 1) else some false) (hE : ∀ k, c ≤ k → F (k + 1) (l.length : Int) = some b) {k : Nat} (hk : l.length + c + 1 ≤ k) :
    F k 0 = some (l.all p && b) := by
  have key : ∀ (d i : Nat) (k : Nat), i + d = l.length → d + c + 1 ≤ k → F k (i : Int) = some ((l.drop i).all p && b) := by
    intro d
    induction d with
    | zero =>
      intro i k hi hk
      obtain ⟨m, rfl⟩ : ∃ m, k = m + 1 := ⟨k - 1, by omega⟩
      obtain rfl : i = l.length := by omega
      rw [hE m (by omega), List.drop_of_length_le (by omega)]
      simp
    | succ d ih =>
      intro i k hi hk
      obtain ⟨m, rfl⟩ : ∃ m, k = m + 1 := ⟨k - 1, by omega⟩
      have hil : i < l.length := by omega
      rw [hF m i (by omega) hil, List.drop_eq_getElem_cons hil, List.all_cons]
      have e : l.getD i z = l[i] := by rw [List.getD_eq_getElem?_getD, List.getElem?_eq_getElem hil]; rfl
      rw [e]
      have := ih (i + 1) m (by omega) (by omega)
      rw [Int.natCast_add] at this
      by_cases h : p l[i] = true
      · rw [if_pos h, h]
        simpa using this
      · rw [if_neg h]
        simp at h
        simp [h]
  have := key l.length 0 k (by omega) (by omega)
  simpa using this
theorem w64_succ {i n : Nat} (h : i < n) (hn : n ≤ 9223372036854775807) : wrap64 ((i : Int) + 1) = (i : Int) + 1 := w64 (by omega) (by omega)
end Go.Proofs.Ytpeehicekddjhaa.F
end

section
namespace Go.Proofs.Ytpeehicekddjhaa.F
open Go.RowKit Go.Proofs.YtpeehicekddjhaaW.PrintWords Go.Proofs.YtpeehicekddjhaaW.PrintLast Go.Proofs.YtpeehicekddjhaaW.PrintMore
set_option linter.unusedVariables false
set_option linter.unusedSimpArgs false
def gok (w h : Int) : Bool := decide (1 ≤ w ∧ w ≤ 4 ∧ 1 ≤ h ∧ h ≤ 4)
theorem gok_iff {w h : Int} : gok w h = true ↔ 1 ≤ w ∧ w ≤ 4 ∧ 1 ≤ h ∧ h ≤ 4 := by simp [gok]
theorem gok_wide {w h : Int} (H : gok w h = true) : w = 1 ∨ w = 2 ∨ w = 3 ∨ w = 4 := by rw [gok_iff] at H; omega
theorem gok_high {w h : Int} (H : gok w h = true) : h = 1 ∨ h = 2 ∨ h = 3 ∨ h = 4 := by rw [gok_iff] at H; omega
def cells (w h : Int) : Int := if gok w h then w * h else 0
def gaps (w h : Int) : Int := if gok w h then (w - 1) * h + w * (h - 1) else 0
theorem cells_bd (w h : Int) : 0 ≤ cells w h ∧ cells w h ≤ 16 := by
  unfold cells
  by_cases H : gok w h = true
  · rw [if_pos H]
    rcases gok_wide H with rfl | rfl | rfl | rfl <;> rcases gok_high H with rfl | rfl | rfl | rfl <;> omega
  · rw [if_neg H]; omega
theorem gaps_bd (w h : Int) : 0 ≤ gaps w h ∧ gaps w h ≤ 24 := by
  unfold gaps
  by_cases H : gok w h = true
  · rw [if_pos H]
    rcases gok_wide H with rfl | rfl | rfl | rfl <;> rcases gok_high H with rfl | rfl | rfl | rfl <;> omega
  · rw [if_neg H]; omega
theorem impl_GridOk_eq (w h : Int) : impl_GridOk.f w h = some (gok w h) := by
  unfold impl_GridOk.f gok
  by_cases h1 : w ≥ 1 <;> by_cases h2 : w ≤ 4 <;> by_cases h3 : h ≥ 1 <;> simp [*] <;> omega
theorem spec_l01In_eq (x a b : Int) : spec_l01In.f x a b = some (decide (a ≤ x ∧ x ≤ b)) := by
  unfold spec_l01In.f
  by_cases h1 : x ≥ a
  · simp [h1]
  · rw [if_neg h1]; simp; omega
theorem spec_GridOk_eq (w h : Int) : spec_GridOk.f w h = some (gok w h) := by
  unfold spec_GridOk.f
  simp only [spec_l01In_eq, Option.bind_some]
  unfold gok
  by_cases h1 : 1 ≤ w ∧ w ≤ 4
  · simp [h1]
  · rw [if_neg (by simpa using h1)]; simp; omega
theorem gok_mul {w h : Int} (H : gok w h = true) : 1 ≤ w * h ∧ w * h ≤ 16 ∧ 0 ≤ (w - 1) * h ∧ (w - 1) * h ≤ 12 ∧ 0 ≤ w * (h - 1) ∧ w * (h - 1) ≤ 12 := by
  rcases gok_wide H with rfl | rfl | rfl | rfl <;> rcases gok_high H with rfl | rfl | rfl | rfl <;> omega
theorem impl_CountCells_eq (w h : Int) : impl_CountCells.f w h = some (cells w h) := by
  unfold impl_CountCells.f cells
  rw [impl_GridOk_eq, Option.bind_some]
  by_cases H : gok w h = true
  · have := gok_mul H
    rw [if_pos H, if_pos H, w64 (by omega) (by omega)]
  · rw [if_neg H, if_neg H]
theorem spec_CountCells_eq (w h : Int) : spec_CountCells.f w h = some (cells w h) := by
  unfold spec_CountCells.f cells
  rw [spec_GridOk_eq, Option.bind_some]
  by_cases H : gok w h = true
  · have := gok_mul H
    rw [if_pos H, if_pos H, w64 (by omega) (by omega)]
  · rw [if_neg H, if_neg H]
theorem impl_CountGaps_eq (w h : Int) : impl_CountGaps.f w h = some (gaps w h) := by
  unfold impl_CountGaps.f gaps
  rw [impl_GridOk_eq, Option.bind_some]
  by_cases H : gok w h = true
  · have := gok_mul H
    have b := gok_iff.1 H
    rw [if_pos H, if_pos H, w64 (x := w - 1) (by omega) (by omega), w64 (x := h - 1) (by omega) (by omega), w64 (x := (w - 1) * h) (by omega) (by omega), w64 (x := w * (h - 1)) (by omega) (by omega), w64 (by omega) (by omega)]
  · rw [if_neg H, if_neg H]
theorem spec_CountGaps_eq (w h : Int) : spec_CountGaps.f w h = some (gaps w h) := by
  unfold spec_CountGaps.f spec_l02East.f gaps
  rw [spec_GridOk_eq, Option.bind_some]
  by_cases H : gok w h = true
  · have := gok_mul H
    have b := gok_iff.1 H
    rw [if_pos H, if_pos H, Option.bind_some, w64 (x := w - 1) (by omega) (by omega), w64 (x := h - 1) (by omega) (by omega), Int.mul_comm h (w - 1), w64 (x := (w - 1) * h) (by omega) (by omega), w64 (x := w * (h - 1)) (by omega) (by omega), w64 (by omega) (by omega)]
  · rw [if_neg H, if_neg H]
def icell (w h c : Int) : Bool := decide (0 ≤ c ∧ c < cells w h)
def igap (w h g : Int) : Bool := decide (0 ≤ g ∧ g < gaps w h)
theorem icell_iff {w h c : Int} : icell w h c = true ↔ 0 ≤ c ∧ c < cells w h := by simp [icell]
theorem igap_iff {w h c : Int} : igap w h c = true ↔ 0 ≤ c ∧ c < gaps w h := by simp [igap]
theorem impl_isCell_eq (w h c : Int) : impl_isCell.f w h c = some (icell w h c) := by
  unfold impl_isCell.f icell
  rw [impl_CountCells_eq]
  by_cases h1 : c ≥ 0
  · rw [if_pos h1]; simp [h1]
  · rw [if_neg h1]; simp; omega
theorem in_cells (w h c : Int) : decide (0 ≤ c ∧ c ≤ wrap64 (cells w h - 1)) = icell w h c := by
  have := cells_bd w h
  rw [w64 (by omega) (by omega)]
  unfold icell
  rw [Bool.eq_iff_iff]; simp; omega
theorem in_gaps (w h c : Int) : decide (0 ≤ c ∧ c ≤ wrap64 (gaps w h - 1)) = igap w h c := by
  have := gaps_bd w h
  rw [w64 (by omega) (by omega)]
  unfold igap
  rw [Bool.eq_iff_iff]; simp; omega
theorem icell_gok {w h c : Int} (H : icell w h c = true) : gok w h = true := by
  rw [icell_iff] at H
  unfold cells at H
  by_cases G : gok w h = true
  · exact G
  · rw [if_neg G] at H; omega
theorem icell_mul {w h c : Int} (H : icell w h c = true) : 0 ≤ c ∧ c < w * h := by
  have G := icell_gok H
  rw [icell_iff] at H
  unfold cells at H
  rwa [if_pos G] at H
def nb (w h c d : Int) : Int :=
  if icell w h c then
    (if d = 0 then (if c / w > 0 then c - w else -1) else if d = 1 then (if c % w < w - 1 then c + 1 else -1) else if d = 2 then (if c / w < h - 1 then c + w else -1) else if d = 3 then (if c % w > 0 then c - 1 else -1) else -1)
  else -1
theorem div_facts {w h c : Int} (G : gok w h = true) (H : 0 ≤ c ∧ c < w * h) : Int.tdiv c w = c / w ∧ Int.tmod c w = c % w ∧ wrap64 (c / w) = c / w ∧ 0 ≤ c / w ∧ c / w < h ∧ 0 ≤ c % w ∧ c % w < w ∧ w * (c / w) + c % w = c := by
  have b := gok_iff.1 G
  have e1 : Int.tdiv c w = c / w := Int.tdiv_eq_ediv_of_nonneg H.1
  have e2 : Int.tmod c w = c % w := Int.tmod_eq_emod_of_nonneg H.1
  have e3 : 0 ≤ c / w := Int.ediv_nonneg H.1 (by omega)
  have e4 : c / w < h := by
    apply Int.ediv_lt_of_lt_mul (by omega)
    rw [Int.mul_comm]; exact H.2
  exact ⟨e1, e2, w64 (by omega) (by omega), e3, e4, Int.emod_nonneg _ (by omega), Int.emod_lt_of_pos _ (by omega), Int.mul_ediv_add_emod c w⟩
theorem impl_Neighbor_eq {k : Nat} (hk : 3 ≤ k) (w h c d : Int) : impl_Neighbor.f k w h c d = some (nb w h c d) := by
  obtain ⟨m, rfl⟩ : ∃ m, k = m + 3 := ⟨k - 3, by omega⟩
  unfold impl_Neighbor.f nb
  rw [impl_isCell_eq, Option.bind_some]
  by_cases H : icell w h c = true
  · have G := icell_gok H
    have b := gok_iff.1 G
    have hc := icell_mul H
    have hm := gok_mul G
    obtain ⟨e1, e2, e3, y0, y1, x0, x1, hq⟩ := div_facts G hc
    rw [if_pos H, if_pos H, if_neg (by omega), e1, e2, e3]
    simp only [impl_Neighbor.j0, impl_Neighbor.j1, impl_Neighbor.j2]
    rw [w64 (x := w - 1) (by omega) (by omega), w64 (x := h - 1) (by omega) (by omega)]
    by_cases d0 : d = 0
    · subst d0
      by_cases t : c / w > 0 <;> simp [t, w64 (x := c - w) (by omega) (by omega)]
    by_cases d1 : d = 1
    · subst d1
      by_cases t : c % w < w - 1 <;> simp [t, w64 (x := c + 1) (by omega) (by omega)]
    by_cases d2 : d = 2
    · subst d2
      by_cases t : c / w < h - 1 <;> simp [t, w64 (x := c + w) (by omega) (by omega)]
    by_cases d3 : d = 3
    · subst d3
      by_cases t : c % w > 0 <;> simp [t, w64 (x := c - 1) (by omega) (by omega)]
    simp [d0, d1, d2, d3]
  · rw [if_neg H, if_neg H]
theorem spec_j0_eq {w h : Int} (G : gok w h = true) (m : Nat) {x y : Int} : spec_Neighbor.j0 (m + 1) x y w h = some (if 0 ≤ x ∧ x ≤ w - 1 ∧ 0 ≤ y ∧ y ≤ h - 1 then y * w + x else -1) := by
  have b := gok_iff.1 G
  simp only [spec_Neighbor.j0, spec_l01In_eq, Option.bind_some, decide_eq_true_eq]
  rw [w64 (x := w - 1) (by omega) (by omega), w64 (x := h - 1) (by omega) (by omega)]
  by_cases h1 : 0 ≤ x ∧ x ≤ w - 1
  · rw [if_pos h1]
    by_cases h2 : 0 ≤ y ∧ y ≤ h - 1
    · have l1 : y * w ≤ 3 * 4 := Int.mul_le_mul (by omega) (by omega) (by omega) (by omega)
      have l0 : 0 ≤ y * w := Int.mul_nonneg (by omega) (by omega)
      rw [if_pos h2, if_pos ⟨h1.1, h1.2, h2.1, h2.2⟩, w64 (x := y * w) (by omega) (by omega), w64 (by omega) (by omega)]
    · rw [if_neg h2, if_neg (fun h => h2 ⟨h.2.2.1, h.2.2.2⟩)]
  · rw [if_neg h1, if_neg (fun h => h1 ⟨h.1, h.2.1⟩)]
theorem spec_Neighbor_eq {k : Nat} (hk : 1 ≤ k) (w h c d : Int) : spec_Neighbor.f k w h c d = some (nb w h c d) := by
  obtain ⟨m, rfl⟩ : ∃ m, k = m + 1 := ⟨k - 1, by omega⟩
  unfold spec_Neighbor.f nb
  rw [spec_CountCells_eq, Option.bind_some, spec_l01In_eq, Option.bind_some, in_cells]
  by_cases H : icell w h c = true
  · have G := icell_gok H
    have b := gok_iff.1 G
    have hc := icell_mul H
    have hm := gok_mul G
    obtain ⟨e1, e2, e3, y0, y1, x0, x1, hq⟩ := div_facts G hc
    rw [if_pos H, if_pos H, if_neg (by omega), e1, e2, e3, w64 (x := c / w - 1) (by omega) (by omega), w64 (x := c / w + 1) (by omega) (by omega), w64 (x := c % w - 1) (by omega) (by omega), w64 (x := c % w + 1) (by omega) (by omega)]
    simp only [spec_j0_eq G]
    have p1 : (c / w - 1) * w = w * (c / w) - w := by rw [Int.sub_mul, Int.one_mul, Int.mul_comm]
    have p2 : (c / w + 1) * w = w * (c / w) + w := by rw [Int.add_mul, Int.one_mul, Int.mul_comm]
    have p3 : (c / w) * w = w * (c / w) := Int.mul_comm _ _
    rw [p1, p2, p3]
    by_cases d0 : d = 0
    · rw [if_pos d0, if_pos d0]
      by_cases t : c / w > 0
      · rw [if_pos (by omega), if_pos t]; congr 1; omega
      · rw [if_neg (by omega), if_neg t]
    rw [if_neg d0, if_neg d0]
    by_cases d1 : d = 1
    · rw [if_pos d1, if_pos d1]
      by_cases t : c % w < w - 1
      · rw [if_pos (by omega), if_pos t]; congr 1; omega
      · rw [if_neg (by omega), if_neg t]
    rw [if_neg d1, if_neg d1]
    by_cases d2 : d = 2
    · rw [if_pos d2, if_pos d2]
      by_cases t : c / w < h - 1
      · rw [if_pos (by omega), if_pos t]; congr 1; omega
      · rw [if_neg (by omega), if_neg t]
    rw [if_neg d2, if_neg d2]
    by_cases d3 : d = 3
    · rw [if_pos d3, if_pos d3]
      by_cases t : c % w > 0
      · rw [if_pos (by omega), if_pos t]; congr 1; omega
      · rw [if_neg (by omega), if_neg t]
    rw [if_neg d3, if_neg d3]
  · rw [if_neg H, if_neg H]
end Go.Proofs.Ytpeehicekddjhaa.F
end

section
namespace Go.Proofs.Ytpeehicekddjhaa.F
open Go.RowKit Go.Proofs.YtpeehicekddjhaaW.PrintWords Go.Proofs.YtpeehicekddjhaaW.PrintLast Go.Proofs.YtpeehicekddjhaaW.PrintMore
set_option linter.unusedVariables false
set_option linter.unusedSimpArgs false
theorem mn_min (a b : Int) : mn a b = min a b := by unfold mn; omega
theorem nb_facts {w h c d : Int} (H : 0 ≤ nb w h c d) : icell w h c = true ∧ icell w h (nb w h c d) = true ∧ 0 ≤ d ∧ d ≤ 3 := by
  unfold nb at H ⊢
  by_cases hc : icell w h c = true
  · have G := icell_gok hc
    have b := gok_iff.1 G
    have hm := icell_mul hc
    obtain ⟨_, _, _, y0, y1, x0, x1, hq⟩ := div_facts G hm
    rw [if_pos hc] at H ⊢
    have m1 : w * (c / w) ≤ w * (h - 1) := Int.mul_le_mul_of_nonneg_left (by omega) (by omega)
    have m2 : w * (h - 1) = w * h - w := by rw [Int.mul_sub, Int.mul_one]
    have ce : cells w h = w * h := by unfold cells; rw [if_pos G]
    refine ⟨hc, ?_, ?_⟩
    · rw [icell_iff, ce]
      by_cases d0 : d = 0
      · subst d0
        by_cases t : c / w > 0
        · have m3 : w * 1 ≤ w * (c / w) := Int.mul_le_mul_of_nonneg_left (by omega) (by omega)
          simp [t]; omega
        · simp [t] at H
      by_cases d1 : d = 1
      · subst d1
        by_cases t : c % w < w - 1
        · simp [t]; omega
        · simp [t] at H
      by_cases d2 : d = 2
      · subst d2
        by_cases t : c / w < h - 1
        · have m4 : w * (c / w + 1) ≤ w * (h - 1) := Int.mul_le_mul_of_nonneg_left (by omega) (by omega)
          rw [Int.mul_add, Int.mul_one] at m4
          simp [t]; omega
        · simp [t] at H
      by_cases d3 : d = 3
      · subst d3
        by_cases t : c % w > 0
        · simp [t]; omega
        · simp [t] at H
      simp [d0, d1, d2, d3] at H
    · by_cases d0 : d = 0
      · omega
      by_cases d1 : d = 1
      · omega
      by_cases d2 : d = 2
      · omega
      by_cases d3 : d = 3
      · omega
      simp [d0, d1, d2, d3] at H
  · rw [if_neg hc] at H; omega
def gp (w h c d : Int) : Int :=
  if nb w h c d < 0 then -1 else if d = 1 ∨ d = 3 then min c (nb w h c d) / w * (w - 1) + min c (nb w h c d) % w else (w - 1) * h + min c (nb w h c d)
theorem gp_neg {w h c d : Int} (H : nb w h c d < 0) : gp w h c d = -1 := by unfold gp; rw [if_pos H]
theorem min_facts {w h c d : Int} (H : 0 ≤ nb w h c d) : 0 ≤ min c (nb w h c d) ∧ min c (nb w h c d) < w * h ∧ gok w h = true := by
  obtain ⟨h1, h2, _, _⟩ := nb_facts H
  have a := icell_mul h1
  have b := icell_mul h2
  exact ⟨by omega, by omega, icell_gok h1⟩
theorem impl_GapAt_eq {k : Nat} (hk : 3 ≤ k) (w h c d : Int) : impl_GapAt.f k w h c d = some (gp w h c d) := by
  unfold impl_GapAt.f gp
  rw [impl_Neighbor_eq hk, Option.bind_some]
  by_cases H : nb w h c d < 0
  · rw [if_pos H, if_pos H]
  · have H' : 0 ≤ nb w h c d := by omega
    obtain ⟨m0, m1, G⟩ := min_facts H'
    have b := gok_iff.1 G
    have hm := gok_mul G
    rw [if_neg H, if_neg H, mn_min]
    obtain ⟨e1, e2, e3, y0, y1, x0, x1, hq⟩ := div_facts G ⟨m0, m1⟩
    have l1 : min c (nb w h c d) / w * (w - 1) ≤ 3 * 3 := Int.mul_le_mul (by omega) (by omega) (by omega) (by omega)
    have l0 : 0 ≤ min c (nb w h c d) / w * (w - 1) := Int.mul_nonneg y0 (by omega)
    have t1 : wrap64 (wrap64 (wrap64 (Int.tdiv (min c (nb w h c d)) w) * wrap64 (w - 1)) + Int.tmod (min c (nb w h c d)) w) = min c (nb w h c d) / w * (w - 1) + min c (nb w h c d) % w := by
      rw [e1, e2, e3, w64 (x := w - 1) (by omega) (by omega), w64 (x := _ * _) (by omega) (by omega), w64 (by omega) (by omega)]
    have t2 : wrap64 (wrap64 (wrap64 (w - 1) * h) + min c (nb w h c d)) = (w - 1) * h + min c (nb w h c d) := by
      rw [w64 (x := w - 1) (by omega) (by omega), w64 (x := (w - 1) * h) (by omega) (by omega), w64 (by omega) (by omega)]
    rw [t1, t2]
    by_cases d1 : d = 1
    · simp [d1]; omega
    · by_cases d3 : d = 3
      · simp [d3]; omega
      · simp [d1, d3]
theorem spec_GapAt_eq {k : Nat} (hk : 1 ≤ k) (w h c d : Int) : spec_GapAt.f k w h c d = some (gp w h c d) := by
  unfold spec_GapAt.f gp
  rw [spec_Neighbor_eq hk, Option.bind_some]
  by_cases H : nb w h c d < 0
  · rw [if_pos H, if_pos H]
  · have H' : 0 ≤ nb w h c d := by omega
    obtain ⟨m0, m1, G⟩ := min_facts H'
    have b := gok_iff.1 G
    have hm := gok_mul G
    rw [if_neg H, if_neg H, mn_min]
    obtain ⟨e1, e2, e3, y0, y1, x0, x1, hq⟩ := div_facts G ⟨m0, m1⟩
    have l1 : min c (nb w h c d) / w * (w - 1) ≤ 3 * 3 := Int.mul_le_mul (by omega) (by omega) (by omega) (by omega)
    have l0 : 0 ≤ min c (nb w h c d) / w * (w - 1) := Int.mul_nonneg y0 (by omega)
    have t1 : wrap64 (wrap64 (wrap64 (Int.tdiv (min c (nb w h c d)) w) * wrap64 (w - 1)) + Int.tmod (min c (nb w h c d)) w) = min c (nb w h c d) / w * (w - 1) + min c (nb w h c d) % w := by
      rw [e1, e2, e3, w64 (x := w - 1) (by omega) (by omega), w64 (x := _ * _) (by omega) (by omega), w64 (by omega) (by omega)]
    have t2 : wrap64 (wrap64 (h * wrap64 (w - 1)) + min c (nb w h c d)) = (w - 1) * h + min c (nb w h c d) := by
      rw [w64 (x := w - 1) (by omega) (by omega), Int.mul_comm h, w64 (x := (w - 1) * h) (by omega) (by omega), w64 (by omega) (by omega)]
    simp only [spec_l02East.f, Option.bind_some]
    rw [t1, t2]
    by_cases d1 : d = 1
    · simp [d1]; omega
    · by_cases d3 : d = 3
      · simp [d3]; omega
      · simp [d1, d3]
def mok (w h o : Int) : Bool := gok w h && decide (0 ≤ o ∧ o < 2 ^ (gaps w h).toNat)
theorem mok_iff {w h o : Int} : mok w h o = true ↔ gok w h = true ∧ 0 ≤ o ∧ o < 2 ^ (gaps w h).toNat := by simp [mok]
theorem gpow (w h : Int) : (2 : Int) ^ (gaps w h).toNat ≤ 16777216 ∧ (1 : Int) ≤ 2 ^ (gaps w h).toNat := by
  have b := gaps_bd w h
  have p : (2 : Nat) ^ (gaps w h).toNat ≤ 2 ^ 24 := Nat.pow_le_pow_right (by decide) (by omega)
  have q : 0 < (2 : Nat) ^ (gaps w h).toNat := Nat.two_pow_pos _
  have e : ((2 : Int) ^ (gaps w h).toNat) = ((2 ^ (gaps w h).toNat : Nat) : Int) := by simp
  omega
theorem mok_small {w h o : Int} (H : mok w h o = true) : 0 ≤ o ∧ o < 16777216 := by
  have := mok_iff.1 H
  have := gpow w h
  omega
theorem shl_gaps (w h : Int) : shl .i64 1 (gaps w h) = 2 ^ (gaps w h).toNat := by
  have b := gaps_bd w h
  have := shl_one (g := (gaps w h).toNat) (by omega)
  rw [show (((gaps w h).toNat : Nat) : Int) = gaps w h from Int.toNat_of_nonneg b.1] at this
  rw [this]
  simp
theorem impl_MazeOk_eq (w h o : Int) : impl_MazeOk.f w h o = some (mok w h o) := by
  unfold impl_MazeOk.f mok
  have b := gaps_bd w h
  rw [impl_GridOk_eq, impl_CountGaps_eq]
  simp only [Option.bind_some, shl_gaps]
  by_cases G : gok w h = true
  · simp only [G, if_true, Bool.true_and]
    by_cases h0 : o ≥ 0
    · rw [if_pos h0, if_pos b.1]
      simp; omega
    · rw [if_neg h0]; simp; omega
  · simp [G]
theorem spec_MazeOk_eq (w h o : Int) : spec_MazeOk.f w h o = some (mok w h o) := by
  unfold spec_MazeOk.f mok
  have b := gaps_bd w h
  have p := gpow w h
  rw [spec_GridOk_eq, spec_CountGaps_eq]
  simp only [Option.bind_some, shl_gaps, w64 (x := (2 : Int) ^ (gaps w h).toNat - 1) (by omega) (by omega)]
  by_cases G : gok w h = true
  · simp only [Option.bind_some, G, if_true, Bool.true_and, spec_l01In_eq, if_pos b.1]
    congr 2
    exact propext ⟨fun h => ⟨h.1, by omega⟩, fun h => ⟨h.1, by omega⟩⟩
  · simp [G]
theorem impl_isOpen_eq {w h o : Int} (h0 : 0 ≤ o) (h1 : o < 9223372036854775808) (g : Int) : impl_isOpen.f w h o g = some (decide (0 ≤ g) && opn o g) := by
  unfold impl_isOpen.f
  by_cases hg : g ≥ 0
  · rw [if_pos hg, if_pos (by omega), bit_test h0 h1 (by omega)]
    simp; omega
  · rw [if_neg hg]
    simp; omega
theorem spec_l03Bit_eq {o : Int} (h0 : 0 ≤ o) (h1 : o < 9223372036854775808) {g : Int} (hg : 0 ≤ g) : spec_l03Bit.f o g = some (opn o g) := by
  unfold spec_l03Bit.f
  rw [if_pos hg, bit_test h0 h1 hg]
def psg (w h o g : Int) : Bool := mok w h o && igap w h g && opn o g
theorem spec_IsPassage_eq (w h o g : Int) : spec_IsPassage.f w h o g = some (psg w h o g) := by
  unfold spec_IsPassage.f psg
  rw [spec_MazeOk_eq, spec_CountGaps_eq]
  by_cases M : mok w h o = true
  · have s := mok_small M
    simp only [Option.bind_some, M, if_true, Bool.true_and, spec_l01In_eq, in_gaps]
    by_cases g1 : igap w h g = true
    · rw [if_pos g1, spec_l03Bit_eq s.1 (by omega) (igap_iff.1 g1).1]
      simp [g1]
    · rw [if_neg g1]; simp [g1]
  · simp [M]
theorem gp_range {w h c d : Int} (H : 0 ≤ nb w h c d) : igap w h (gp w h c d) = true := by
  obtain ⟨h1, h2, d0, d3⟩ := nb_facts H
  have G := icell_gok h1
  have a := icell_mul h1
  rw [igap_iff]
  unfold gp gaps
  rw [if_neg (by omega), if_pos G]
  have hd : d = 0 ∨ d = 1 ∨ d = 2 ∨ d = 3 := by omega
  revert H
  unfold nb
  rw [if_pos h1]
  rcases gok_wide G with rfl | rfl | rfl | rfl <;> rcases gok_high G with rfl | rfl | rfl | rfl <;> rcases hd with rfl | rfl | rfl | rfl <;> simp <;> split <;> omega
def st (w h o c d : Int) : Int := if psg w h o (gp w h c d) then nb w h c d else -1
theorem st_nb {w h o c d : Int} (H : 0 ≤ st w h o c d) : st w h o c d = nb w h c d ∧ psg w h o (gp w h c d) = true := by
  unfold st at H ⊢
  by_cases p : psg w h o (gp w h c d) = true
  · rw [if_pos p]; exact ⟨rfl, p⟩
  · rw [if_neg p] at H; omega
theorem impl_Step_eq {k : Nat} (hk : 3 ≤ k) (w h o c d : Int) : impl_Step.f k w h o c d = some (st w h o c d) := by
  unfold impl_Step.f st psg
  rw [impl_MazeOk_eq]
  by_cases M : mok w h o = true
  · have s := mok_small M
    simp only [Option.bind_some, M, if_true, Bool.true_and, impl_GapAt_eq hk, impl_isOpen_eq s.1 (show o < 9223372036854775808 by omega), impl_Neighbor_eq hk]
    by_cases H : 0 ≤ nb w h c d
    · have r := gp_range H
      have := (igap_iff.1 r).1
      simp [r, this]
      split <;> rfl
    · rw [gp_neg (by omega)]
      simp [igap]
  · simp [M]
theorem spec_Step_eq {k : Nat} (hk : 1 ≤ k) (w h o c d : Int) : spec_Step.f k w h o c d = some (st w h o c d) := by
  unfold spec_Step.f st
  rw [spec_MazeOk_eq]
  by_cases M : mok w h o = true
  · simp only [Option.bind_some, M, if_true, spec_GapAt_eq hk, spec_IsPassage_eq, spec_Neighbor_eq hk]
    split <;> rfl
  · simp [M, psg]
theorem st_facts {w h o c d : Int} (H : 0 ≤ st w h o c d) : mok w h o = true ∧ icell w h c = true ∧ icell w h (st w h o c d) = true ∧ 0 ≤ d ∧ d ≤ 3 := by
  obtain ⟨e, p⟩ := st_nb H
  rw [e] at H ⊢
  obtain ⟨h1, h2, h3, h4⟩ := nb_facts H
  unfold psg at p
  simp at p
  exact ⟨p.1.1, h1, h2, h3, h4⟩
end Go.Proofs.Ytpeehicekddjhaa.F
end

section
namespace Go.Proofs.Ytpeehicekddjhaa.F
open Go.RowKit Go.Proofs.YtpeehicekddjhaaW.PrintWords Go.Proofs.YtpeehicekddjhaaW.PrintLast Go.Proofs.YtpeehicekddjhaaW.PrintMore
set_option linter.unusedVariables false
set_option linter.unusedSimpArgs false
def flip (o g : Int) : Int := ((o.toNat ^^^ 2 ^ g.toNat : Nat) : Int)
def setb (o g : Int) (b : Bool) : Int := if b then ((o.toNat ||| 2 ^ g.toNat : Nat) : Int) else ((o.toNat ^^^ (o.toNat &&& 2 ^ g.toNat) : Nat) : Int)
theorem testBit_two_pow' (g i : Nat) : (2 ^ g).testBit i = decide (g = i) := by rw [Nat.testBit_two_pow]
theorem opn_flip {o g i : Int} (hg : 0 ≤ g) (hi : 0 ≤ i) : opn (flip o g) i = if i = g then !opn o i else opn o i := by
  unfold opn flip
  rw [Int.toNat_natCast, Nat.testBit_xor, testBit_two_pow']
  by_cases h : i = g
  · subst h; simp
  · rw [if_neg h]
    have : ¬ g.toNat = i.toNat := by omega
    simp [this]
theorem opn_setb {o g i : Int} (b : Bool) (hg : 0 ≤ g) (hi : 0 ≤ i) : opn (setb o g b) i = if i = g then b else opn o i := by
  unfold opn setb
  cases b with
  | true =>
    rw [if_pos rfl, Int.toNat_natCast, Nat.testBit_or, testBit_two_pow']
    by_cases h : i = g
    · subst h; simp
    · rw [if_neg h]
      have : ¬ g.toNat = i.toNat := by omega
      simp [this]
  | false =>
    rw [if_neg Bool.false_ne_true, Int.toNat_natCast, Nat.testBit_xor, Nat.testBit_and, testBit_two_pow']
    by_cases h : i = g
    · subst h; simp
    · rw [if_neg h]
      have : ¬ g.toNat = i.toNat := by omega
      simp [this]
theorem flip_lt {o g : Int} {n : Nat} (ho : 0 ≤ o) (h1 : o < 2 ^ n) (hg : 0 ≤ g) (h2 : g < n) : 0 ≤ flip o g ∧ flip o g < 2 ^ n := by
  unfold flip
  have e : ((2 : Int) ^ n) = ((2 ^ n : Nat) : Int) := by simp
  rw [e] at h1 ⊢
  have := Nat.xor_lt_two_pow (n := n) (x := o.toNat) (y := 2 ^ g.toNat) (by omega) (Nat.pow_lt_pow_right (by decide) (by omega))
  omega
theorem setb_lt {o g : Int} {n : Nat} (b : Bool) (ho : 0 ≤ o) (h1 : o < 2 ^ n) (hg : 0 ≤ g) (h2 : g < n) : 0 ≤ setb o g b ∧ setb o g b < 2 ^ n := by
  unfold setb
  have e : ((2 : Int) ^ n) = ((2 ^ n : Nat) : Int) := by simp
  rw [e] at h1 ⊢
  have ha : o.toNat < 2 ^ n := by omega
  have hp : 2 ^ g.toNat < 2 ^ n := Nat.pow_lt_pow_right (by decide) (by omega)
  have := Nat.or_lt_two_pow ha hp
  have := Nat.xor_lt_two_pow (n := n) (x := o.toNat) (y := o.toNat &&& 2 ^ g.toNat) ha (Nat.lt_of_le_of_lt Nat.and_le_left ha)
  split <;> omega
theorem eq_of_opn {a b : Int} (ha : 0 ≤ a) (hb : 0 ≤ b) (h : ∀ i : Int, 0 ≤ i → opn a i = opn b i) : a = b := by
  have : a.toNat = b.toNat := Nat.eq_of_testBit_eq fun i => by
    have := h (i : Int) (by omega)
    simpa [opn] using this
  omega
theorem setb_flip {o g : Int} (ho : 0 ≤ o) (hg : 0 ≤ g) : setb o g (!opn o g) = flip o g := by
  refine eq_of_opn (by unfold setb; split <;> omega) (by unfold flip; omega) fun i hi => ?_
  rw [opn_setb _ hg hi, opn_flip hg hi]
  by_cases h : i = g
  · subst h; simp
  · simp [h]
theorem xor_shl_eq {o g : Int} (ho : 0 ≤ o) (h1 : o < 2 ^ 62) (hg : 0 ≤ g) (h2 : g < 62) : Go.bits .xor .i64 o (shl .i64 1 g) = flip o g := by
  obtain ⟨a, rfl⟩ := Int.eq_ofNat_of_zero_le ho
  obtain ⟨n, rfl⟩ := Int.eq_ofNat_of_zero_le hg
  have hp : (2 : Nat) ^ n < 2 ^ 62 := Nat.pow_lt_pow_right (by decide) (by omega)

  rw [shl_one (by omega), bits_xor_i (by omega) (by omega)]
  rfl
theorem mok_flip {w h o g : Int} (M : mok w h o = true) (hg : igap w h g = true) : mok w h (flip o g) = true := by
  rw [mok_iff] at M ⊢
  have a := igap_iff.1 hg
  have := flip_lt (n := (gaps w h).toNat) M.2.1 M.2.2 a.1 (by omega)
  exact ⟨M.1, this.1, this.2⟩
theorem mok_setb {w h o g : Int} (b : Bool) (M : mok w h o = true) (hg : igap w h g = true) : mok w h (setb o g b) = true := by
  rw [mok_iff] at M ⊢
  have a := igap_iff.1 hg
  have := setb_lt (n := (gaps w h).toNat) b M.2.1 M.2.2 a.1 (by omega)
  exact ⟨M.1, this.1, this.2⟩
end Go.Proofs.Ytpeehicekddjhaa.F
end

section
namespace Go.Proofs.Ytpeehicekddjhaa.F
open Go.RowKit Go.Proofs.YtpeehicekddjhaaW.PrintWords Go.Proofs.YtpeehicekddjhaaW.PrintLast Go.Proofs.YtpeehicekddjhaaW.PrintMore
set_option linter.unusedVariables false
set_option linter.unusedSimpArgs false
theorem impl_isIn_eq (w h o : Int) (l : List Int) : impl_isIn.f w h o l = some (mok w h o && l.all (icell w h)) := by
  unfold impl_isIn.f
  rw [impl_MazeOk_eq, Option.bind_some, allO_of (p := icell w h) (fun x _ => impl_isCell_eq w h x)]
  cases mok w h o <;> simp
theorem spec_l04Has_eq (w h o c : Int) : spec_l04Has.f w h o c = some (mok w h o && icell w h c) := by
  unfold spec_l04Has.f
  rw [spec_MazeOk_eq, spec_CountCells_eq]
  simp only [Option.bind_some, spec_l01In_eq, in_cells]
  cases mok w h o <;> simp
end Go.Proofs.Ytpeehicekddjhaa.F
end

section
namespace Go.Proofs.Ytpeehicekddjhaa.F
open Go.RowKit Go.Proofs.YtpeehicekddjhaaW.PrintWords Go.Proofs.YtpeehicekddjhaaW.PrintLast Go.Proofs.YtpeehicekddjhaaW.PrintMore
set_option linter.unusedVariables false
set_option linter.unusedSimpArgs false
theorem bfs_next {nx : Int → Int → Int} {N : Nat} {a : Int} (S : Steps nx N) {i : Nat} {D Q D' Q' : List Int} (B : BfsAt nx N a i D Q) (hi : i < Q.length) (e : bfsD nx (rd Q i) [0, 1, 2, 3] (D, Q) = (D', Q')) : BfsAt nx N a (i + 1) D' Q' := by
  obtain ⟨r1, r2, r3, r4, r5⟩ := bfs_dirs S _ D Q B hi D' Q' e
  refine ⟨r1.toBfs, fun h x hx => ?_, fun j hj hjl d hd => ?_⟩
  · have h1 := r1.near r2 x hx
    have h2 := r1.mono i (i + 1) (by omega) h
    omega
  · by_cases hj' : j = i
    · subst hj'
      rw [r3] at hd ⊢
      have hr := S.rng _ _ hd
      exact r5 d (by have : d = 0 ∨ d = 1 ∨ d = 2 ∨ d = 3 := by omega
                     rcases this with rfl | rfl | rfl | rfl <;> simp) hd
    · exact r1.done j (by omega) hjl d hd
theorem bfs_init {nx : Int → Int → Int} {N : Nat} {a : Int} (h0 : 0 ≤ a) (h1 : a < N) : BfsAt nx N a 0 ((List.replicate N (-1)).set a.toNat 0) [a] := by
  have hrep : ∀ x : Int, 0 ≤ x → x < N → rd (List.replicate N (-1)) x = -1 := fun x x0 x1 => by
    obtain ⟨h, e⟩ := rd_lt (D := List.replicate N (-1 : Int)) x0 (by simpa using x1)
    rw [e, List.getElem_replicate]
  have hset : ∀ x : Int, 0 ≤ x → x < N → rd ((List.replicate N (-1)).set a.toNat 0) x = if x = a then 0 else -1 := fun x x0 x1 => by
    rw [rd_set h0 x0 (by simpa using h1)]
    split
    · rfl
    · exact hrep x x0 x1
  refine ⟨⟨by simp, ?_, ?_, ?_, ?_, ?_⟩, ?_, ?_⟩
  · have := countP_lt_set (D := List.replicate N (-1 : Int)) (i := a) (v := 0) h0 (by simpa using h1) (by rw [hrep a h0 h1]; decide) (by decide)
    rw [List.countP_replicate] at this
    simpa using this
  · intro x hx
    rw [List.mem_singleton.1 hx, hset a h0 h1, if_pos rfl]
    exact ⟨h0, h1, by decide, Walk.nil⟩
  · intro x x0 x1 hx
    rw [hset x x0 x1, if_neg (by simpa using hx)]
  · exact ⟨by rw [hset a h0 h1, if_pos rfl], by simp⟩
  · intro j k hjk hk
    have : j = 0 := by simp at hk; omega
    have : k = 0 := by simp at hk; omega
    subst_vars
    exact Int.le_refl _
  · intro _ x hx
    rw [List.mem_singleton.1 hx]
    simp [rd]
    omega
  · intro j hj; omega
def bfs1 (nx : Int → Int → Int) (c d : Int) (s : List Int × List Int) : List Int × List Int :=
  if 0 ≤ nx c d ∧ rd s.1 (nx c d) < 0 then (s.1.set (nx c d).toNat (rd s.1 c + 1), s.2 ++ [nx c d]) else s
theorem bfsD_cons (nx : Int → Int → Int) (c d : Int) (ds : List Int) (s : List Int × List Int) : bfsD nx c (d :: ds) s = bfsD nx c ds (bfs1 nx c d s) := by
  unfold bfs1; rw [bfsD]; split <;> rfl
theorem bfsD_filter (nx : Int → Int → Int) (c : Int) : ∀ (ds : List Int) (s : List Int × List Int), bfsD nx c (ds.filter fun d => decide (0 ≤ nx c d)) s = bfsD nx c ds s
  | [], s => rfl
  | d :: ds, s => by
    by_cases h : 0 ≤ nx c d
    · rw [List.filter_cons_of_pos (by simpa using h), bfsD_cons, bfsD_cons, bfsD_filter nx c ds]
    · rw [List.filter_cons_of_neg (by simpa using h), bfsD_cons, bfsD_filter nx c ds]
      unfold bfs1
      rw [if_neg (fun q => h q.1)]
def Small (s : List Int × List Int) : Prop := ∀ x : Int, rd s.1 x < s.2.length
structure Mid (nx : Int → Int → Int) (N : Nat) (a : Int) (i : Nat) (c : Int) (s : List Int × List Int) : Prop where
  at_ : BfsAt nx N a i s.1 s.2
  small : Small s
  lt : i < s.2.length
  cur : rd s.2 i = c
theorem mid1 {nx : Int → Int → Int} {N : Nat} {a : Int} (S : Steps nx N) {i : Nat} {c : Int} {s : List Int × List Int} (M : Mid nx N a i c s) (d : Int) : Mid nx N a i c (bfs1 nx c d s) := by
  have hc := M.cur
  unfold bfs1
  by_cases h : 0 ≤ nx c d ∧ rd s.1 (nx c d) < 0
  · rw [if_pos h]
    have B := M.at_
    have r := S.rng c d h.1
    subst hc
    refine ⟨bfs_push S B M.lt h.1 h.2, fun x => ?_, by simp only [List.length_append]; have := M.lt; omega, by simp only; exact rd_app_left M.lt⟩
    have hs := M.small
    simp only [List.length_append, List.length_singleton]
    by_cases hx : 0 ≤ x
    · rw [rd_set (by omega) hx (by rw [B.len]; omega)]
      have h1 := hs x
      have h2 := hs (rd s.2 i)
      split <;> omega
    · have h1 := hs x
      have : rd (s.1.set (nx (rd s.2 i) d).toNat (rd s.1 (rd s.2 i) + 1)) x = rd (s.1.set (nx (rd s.2 i) d).toNat (rd s.1 (rd s.2 i) + 1)) 0 := by unfold rd; rw [show x.toNat = 0 by omega]; rfl
      rw [this, rd_set (by omega) (by omega) (by rw [B.len]; omega)]
      have h2 := hs (rd s.2 i)
      have h3 := hs 0
      split <;> omega
  · rw [if_neg h]; exact M
theorem bfs_room {nx : Int → Int → Int} {N : Nat} {a : Int} {i : Nat} {c : Int} {s : List Int × List Int} (M : Mid nx N a i c s) : s.1.length = N ∧ s.2.length ≤ N ∧ 0 ≤ c ∧ c < N := by
  have h1 := M.at_.len
  have h2 := M.at_.cnt
  have hm : c ∈ s.2 := by rw [← M.cur]; exact rd_memI (by omega) (by have := M.lt; omega)
  obtain ⟨h3, h4, _⟩ := M.at_.inq c hm
  exact ⟨h1, by omega, h3, h4⟩
def stN (w h : Int) : Nat := (cells w h).toNat
theorem steps_st (w h o : Int) : Steps (st w h o) (stN w h) := ⟨fun c d H => by
  obtain ⟨_, h2, h3, h4, h5⟩ := st_facts H
  have a := icell_iff.1 h2
  have b := icell_iff.1 h3
  unfold stN
  exact ⟨a.1, by omega, by omega, h4, h5⟩⟩
theorem nb_all : ∀ w ∈ ([1, 2, 3, 4] : List Int), ∀ h ∈ ([1, 2, 3, 4] : List Int), ∀ c ∈ ([0, 1, 2, 3, 4, 5, 6, 7, 8, 9, 10, 11, 12, 13, 14, 15] : List Int), ∀ d ∈ ([0, 1, 2, 3] : List Int), 0 ≤ nb w h c d → nb w h (nb w h c d) ((d + 2) % 4) = c ∧ gp w h (nb w h c d) ((d + 2) % 4) = gp w h c d := by
  decide +kernel
theorem nb_back {w h c d : Int} (H : 0 ≤ nb w h c d) : ∃ e, nb w h (nb w h c d) e = c ∧ gp w h (nb w h c d) e = gp w h c d := by
  obtain ⟨h1, _, h3, h4⟩ := nb_facts H
  have g := gok_iff.1 (icell_gok h1)
  have hc := icell_iff.1 h1
  have hb := cells_bd w h
  exact ⟨(d + 2) % 4, nb_all w (by simp; omega) h (by simp; omega) c (by simp; omega) d (by simp; omega) H⟩
theorem sym_st (w h o : Int) : Sym (st w h o) := ⟨fun c d H => by
  obtain ⟨e, p⟩ := st_nb H
  rw [e] at H ⊢
  obtain ⟨q, q1, q2⟩ := nb_back H
  refine ⟨q, ?_⟩
  unfold st
  rw [q2, if_pos p, q1]⟩
def ways (w h o c : Int) : List Int := ([0, 1, 2, 3] : List Int).filter fun d => decide (0 ≤ st w h o c d)
theorem ways_length (w h o c : Int) : (ways w h o c).length ≤ 4 := List.length_filter_le _ _
theorem impl_WaysFrom_eq {k : Nat} (hk : 8 ≤ k) (w h o c : Int) : impl_WaysFrom.f k w h o c = some (ways w h o c) := by
  unfold impl_WaysFrom.f
  have := fold_loop (n := 4) (c := 3) (F := fun k (acc : List Int) i => impl_WaysFrom.l0 k c acc i w h o) (step := fun acc i => if 0 ≤ st w h o c (i : Int) then acc ++ [(i : Int)] else acc) (fin := fun acc : List Int => acc) (I := fun acc i => acc.length ≤ i)
    (fun k acc i hk hi ha => by
      simp only [impl_WaysFrom.l0]
      rw [if_pos (by omega), impl_Step_eq (by omega), Option.bind_some, w64 (x := (i : Int) + 1) (by omega) (by omega)]
      by_cases hd : 0 ≤ st w h o c (i : Int)
      · rw [if_pos hd, if_pos hd, if_pos (by omega)]
      · rw [if_neg hd, if_neg hd])
    (fun acc i _ ha => by
      show (if _ then _ else _ : List Int).length ≤ i + 1
      split
      · simp only [List.length_append, List.length_singleton]; omega
      · omega)
    (fun k acc _ _ => by
      simp only [impl_WaysFrom.l0]
      rw [if_neg (by decide)]) 4 0 k [] (by decide) (by omega) (Nat.le_refl _)
  refine this.trans ?_
  congr 1
  unfold ways
  simp only [List.range'_succ, List.range'_zero, List.foldl_cons, List.foldl_nil, List.filter_cons, List.filter_nil, Nat.zero_add, Int.natCast_add, decide_eq_true_eq]
  show (if 0 ≤ st w h o c (3 : Int) then _ else _) = _
  by_cases h0 : 0 ≤ st w h o c 0 <;> by_cases h1 : 0 ≤ st w h o c 1 <;> by_cases h2 : 0 ≤ st w h o c 2 <;> by_cases h3 : 0 ≤ st w h o c 3 <;> simp [h0, h1, h2, h3]
theorem ways_mem {w h o c d : Int} (H : d ∈ ways w h o c) : 0 ≤ st w h o c d := by
  unfold ways at H
  exact of_decide_eq_true (List.mem_filter.1 H).2
theorem impl_dist1 {w h o a c d : Int} {i : Nat} {s : List Int × List Int} (M : Mid (st w h o) (stN w h) a i c s) (hd : 0 ≤ st w h o c d) {k : Nat} (hk : 3 ≤ k) {W : List Int} {j : Nat} (hj : j < W.length) (hW : W.length ≤ 4) (hr : rd W (j : Int) = d) :
    impl_distances.l1 (k + 1) s.1 s.2 (i : Int) W (W.length : Int) (j : Int) w h o = impl_distances.l1 k (bfs1 (st w h o) c d s).1 (bfs1 (st w h o) c d s).2 (i : Int) W (W.length : Int) ((j : Int) + 1) w h o := by
  obtain ⟨r1, r2, r3, r4⟩ := bfs_room M
  have hN : stN w h ≤ 16 := by have := cells_bd w h; unfold stN; omega
  have rr := (steps_st w h o).rng c d hd
  have hsm := M.small c
  have hlt := M.lt
  have hc := M.cur
  simp only [impl_distances.l1]
  rw [if_pos (by omega), if_pos (by omega), if_pos (by omega), if_pos (by omega), if_pos (by omega), hc, hr, impl_Step_eq hk, Option.bind_some, if_pos hd, if_pos (by omega), w64 (x := (j : Int) + 1) (by omega) (by omega)]
  unfold bfs1
  by_cases hn : rd s.1 (st w h o c d) < 0
  · rw [if_pos hn, if_pos r3, if_pos (by omega), if_pos (by omega), if_pos ⟨hd, hn⟩]
    have hge : 0 ≤ rd s.1 c := by
      have hm : c ∈ s.2 := by rw [← hc]; exact rd_memI (by omega) (by omega)
      exact (M.at_.inq c hm).2.2.1
    rw [w64 (x := rd s.1 c + 1) (by omega) (by omega)]
  · rw [if_neg hn, if_neg (fun q => hn q.2)]
theorem impl_dirs {w h o a c : Int} {i : Nat} {W : List Int} (hW : W.length ≤ 4) (hd : ∀ d ∈ W, 0 ≤ st w h o c d) : ∀ (m j k : Nat) (s : List Int × List Int), j + m = W.length → 3 ≤ k → Mid (st w h o) (stN w h) a i c s →
    impl_distances.l1 (k + m + 1) s.1 s.2 (i : Int) W (W.length : Int) (j : Int) w h o = impl_distances.l0 k (bfsD (st w h o) c (W.drop j) s).1 (bfsD (st w h o) c (W.drop j) s).2 ((i : Int) + 1) w h o ∧ Mid (st w h o) (stN w h) a i c (bfsD (st w h o) c (W.drop j) s)
  | 0, j, k, s, hj, hk, M => by
    rw [List.drop_of_length_le (by omega)]
    have hl := bfs_room M
    have hN : stN w h ≤ 16 := by have := cells_bd w h; unfold stN; omega
    have hlt := M.lt
    refine ⟨?_, M⟩
    simp only [bfsD, Nat.add_zero, impl_distances.l1]
    rw [if_neg (by omega), w64 (x := (i : Int) + 1) (by omega) (by omega)]
  | m + 1, j, k, s, hj, hk, M => by
    have hjl : j < W.length := by omega
    have hmem : rd W (j : Int) ∈ W := rd_memI (by omega) (by omega)
    have hdr : W.drop j = rd W (j : Int) :: W.drop (j + 1) := by
      rw [List.drop_eq_getElem_cons hjl]
      congr 1
      rw [rd_nat, List.getD_eq_getElem?_getD, List.getElem?_eq_getElem hjl]
      rfl
    have M' := mid1 (steps_st w h o) M (rd W (j : Int))
    rw [show k + (m + 1) + 1 = (k + m + 1) + 1 by omega, impl_dist1 M (hd _ hmem) (by omega) hjl hW rfl, hdr, bfsD_cons]
    have := impl_dirs hW hd m (j + 1) k _ (by omega) hk M'
    rwa [Int.natCast_add] at this
theorem impl_bfs {w h o a : Int} : ∀ (f i k : Nat) (D Q : List Int), BfsAt (st w h o) (stN w h) a i D Q → Small (D, Q) → stN w h < f + i → 6 * f + 20 ≤ k → impl_distances.l0 k D Q (i : Int) w h o = some (bfs (st w h o) f i (D, Q))
  | 0, i, k, D, Q, B, V, hf, hk => by
    obtain ⟨m, rfl⟩ : ∃ m, k = m + 1 := ⟨k - 1, by omega⟩
    have := B.cnt
    simp only [impl_distances.l0, bfs]
    rw [if_neg (by omega)]
  | f + 1, i, k, D, Q, B, V, hf, hk => by
    obtain ⟨m, rfl⟩ : ∃ m, k = m + 1 := ⟨k - 1, by omega⟩
    simp only [bfs]
    by_cases hi : i < Q.length
    · rw [if_pos hi]
      have hw := ways_length w h o (rd Q (i : Int))
      simp only [impl_distances.l0]
      rw [if_pos (by omega), if_pos (by omega), impl_WaysFrom_eq (by omega), Option.bind_some]
      obtain ⟨k', hk'⟩ : ∃ k', m = k' + (ways w h o (rd Q (i : Int))).length + 1 := ⟨m - (ways w h o (rd Q (i : Int))).length - 1, by omega⟩
      have M : Mid (st w h o) (stN w h) a i (rd Q (i : Int)) (D, Q) := ⟨B, V, hi, rfl⟩
      obtain ⟨e, M'⟩ := impl_dirs (a := a) (i := i) hw (fun d hd => ways_mem hd) (ways w h o (rd Q (i : Int))).length 0 k' (D, Q) (by omega) (by omega) M
      rw [← hk', List.drop_zero] at e
      rw [List.drop_zero] at M'
      have eb : bfsD (st w h o) (rd Q (i : Int)) (ways w h o (rd Q (i : Int))) (D, Q) = bfsD (st w h o) (rd Q (i : Int)) [0, 1, 2, 3] (D, Q) := bfsD_filter _ _ _ _
      rw [eb] at e M'
      refine e.trans ?_
      have := impl_bfs f (i + 1) k' _ _ (bfs_next (steps_st w h o) B hi rfl) M'.small (by omega) (by omega)
      rwa [Int.natCast_add] at this
    · rw [if_neg hi]
      simp only [impl_distances.l0]
      rw [if_neg (by omega)]
theorem small_init {N : Nat} {a : Int} (h0 : 0 ≤ a) (h1 : a < N) : Small ((List.replicate N (-1)).set a.toNat 0, [a]) := by
  intro x
  simp only [List.length_singleton]
  have hrep : ∀ x : Int, rd (List.replicate N (-1)) x ≤ 0 := fun x => by
    unfold rd
    rw [List.getD_eq_getElem?_getD, List.getElem?_replicate]
    split <;> simp
  unfold rd
  rw [List.getD_eq_getElem?_getD, List.getElem?_set]
  split
  · split <;> simp
  · have := hrep x
    unfold rd at this
    rw [List.getD_eq_getElem?_getD] at this
    omega
theorem impl_distances_eq {w h o a : Int} {k : Nat} (hk : 200 ≤ k) (ha : icell w h a = true) : impl_distances.f k w h o a = some (dists (st w h o) (stN w h) a) := by
  have hc := icell_iff.1 ha
  have hb := cells_bd w h
  have hN : ((stN w h : Nat) : Int) = cells w h := by unfold stN; omega
  unfold impl_distances.f
  rw [impl_CountCells_eq, Option.bind_some, slices_Repeat_int.f, if_pos ⟨rfl, by omega, by omega⟩, Option.bind_some]
  show (if 0 ≤ a then (if a < ((List.replicate (stN w h) (-1 : Int)).length : Int) then _ else _) else _) = _
  rw [if_pos hc.1, if_pos (by rw [List.length_replicate]; omega)]
  exact impl_bfs (stN w h + 1) 0 k _ _ (bfs_init hc.1 (by omega)) (small_init hc.1 (by omega)) (by omega) (by omega)
theorem spec_dist1 {w h o a c : Int} {i : Nat} {s : List Int × List Int} (M : Mid (st w h o) (stN w h) a i c s) {k : Nat} (hk : 1 ≤ k) {j : Nat} (hj : j < 4) :
    spec_l04Distances.l2 (k + 1) s.1 s.2 (i : Int) (j : Int) w h o = spec_l04Distances.l2 k (bfs1 (st w h o) c (j : Int) s).1 (bfs1 (st w h o) c (j : Int) s).2 (i : Int) ((j : Int) + 1) w h o := by
  obtain ⟨r1, r2, r3, r4⟩ := bfs_room M
  have hN : stN w h ≤ 16 := by have := cells_bd w h; unfold stN; omega
  have hsm := M.small c
  have hlt := M.lt
  have hc := M.cur
  simp only [spec_l04Distances.l2]
  rw [if_pos (by omega), if_pos (by omega), if_pos (by omega), hc, spec_Step_eq hk, Option.bind_some, w64 (x := (j : Int) + 1) (by omega) (by omega)]
  unfold bfs1
  by_cases hd : 0 ≤ st w h o c (j : Int)
  · have rr := (steps_st w h o).rng c _ hd
    rw [if_pos hd, if_pos hd, if_pos (by omega)]
    by_cases hn : rd s.1 (st w h o c (j : Int)) < 0
    · rw [if_pos hn, if_pos r3, if_pos (by omega), if_pos (by omega), if_pos ⟨hd, hn⟩]
      have hge : 0 ≤ rd s.1 c := by
        have hm : c ∈ s.2 := by rw [← hc]; exact rd_memI (by omega) (by omega)
        exact (M.at_.inq c hm).2.2.1
      rw [w64 (x := rd s.1 c + 1) (by omega) (by omega)]
    · rw [if_neg hn, if_neg (fun q => hn q.2)]
  · rw [if_neg hd, if_neg (fun q => hd q.1)]
theorem spec_dirs {w h o a c : Int} {i : Nat} {s : List Int × List Int} (M : Mid (st w h o) (stN w h) a i c s) {k : Nat} (hk : 1 ≤ k) :
    spec_l04Distances.l2 (k + 5) s.1 s.2 (i : Int) 0 w h o = spec_l04Distances.l1 k (bfsD (st w h o) c [0, 1, 2, 3] s).1 (bfsD (st w h o) c [0, 1, 2, 3] s).2 ((i : Int) + 1) w h o ∧ Mid (st w h o) (stN w h) a i c (bfsD (st w h o) c [0, 1, 2, 3] s) := by
  have M1 := mid1 (steps_st w h o) M 0
  have M2 := mid1 (steps_st w h o) M1 1
  have M3 := mid1 (steps_st w h o) M2 2
  have M4 := mid1 (steps_st w h o) M3 3
  have e0 := spec_dist1 M (k := k + 4) (by omega) (j := 0) (by decide)
  have e1 := spec_dist1 M1 (k := k + 3) (by omega) (j := 1) (by decide)
  have e2 := spec_dist1 M2 (k := k + 2) (by omega) (j := 2) (by decide)
  have e3 := spec_dist1 M3 (k := k + 1) (by omega) (j := 3) (by decide)
  rw [bfsD_cons, bfsD_cons, bfsD_cons, bfsD_cons]
  show _ = spec_l04Distances.l1 k _ _ _ _ _ _ ∧ _
  refine ⟨(e0.trans (e1.trans (e2.trans e3))).trans ?_, M4⟩
  have hl := bfs_room M4
  have hN : stN w h ≤ 16 := by have := cells_bd w h; unfold stN; omega
  have hlt := M4.lt
  simp only [spec_l04Distances.l2, bfsD]
  rw [if_neg (by decide), w64 (x := (i : Int) + 1) (by omega) (by omega)]
  rfl
theorem spec_bfs {w h o a : Int} : ∀ (f i k : Nat) (D Q : List Int), BfsAt (st w h o) (stN w h) a i D Q → Small (D, Q) → stN w h < f + i → 6 * f + 20 ≤ k → spec_l04Distances.l1 k D Q (i : Int) w h o = some (bfs (st w h o) f i (D, Q))
  | 0, i, k, D, Q, B, V, hf, hk => by
    obtain ⟨m, rfl⟩ : ∃ m, k = m + 1 := ⟨k - 1, by omega⟩
    have := B.cnt
    simp only [spec_l04Distances.l1, bfs]
    rw [if_neg (by omega)]
  | f + 1, i, k, D, Q, B, V, hf, hk => by
    obtain ⟨m, rfl⟩ : ∃ m, k = m + 5 + 1 := ⟨k - 6, by omega⟩
    simp only [bfs]
    by_cases hi : i < Q.length
    · rw [if_pos hi]
      simp only [spec_l04Distances.l1]
      rw [if_pos (by omega)]
      have M : Mid (st w h o) (stN w h) a i (rd Q (i : Int)) (D, Q) := ⟨B, V, hi, rfl⟩
      obtain ⟨e, M'⟩ := spec_dirs M (k := m) (by omega)
      refine e.trans ?_
      have := spec_bfs f (i + 1) m _ _ (bfs_next (steps_st w h o) B hi rfl) M'.small (by omega) (by omega)
      rwa [Int.natCast_add] at this
    · rw [if_neg hi]
      simp only [spec_l04Distances.l1]
      rw [if_neg (by omega)]
theorem spec_l04Distances_eq {w h o a : Int} {k : Nat} (hk : 200 ≤ k) (ha : icell w h a = true) : spec_l04Distances.f k w h o a = some (dists (st w h o) (stN w h) a) := by
  have hc := icell_iff.1 ha
  have hb := cells_bd w h
  have hN : ((stN w h : Nat) : Int) = cells w h := by unfold stN; omega
  have hN16 : stN w h ≤ 16 := by omega
  unfold spec_l04Distances.f
  rw [spec_CountCells_eq, Option.bind_some, if_pos hb.1, if_pos (by omega)]
  show spec_l04Distances.l0 k a (List.replicate (stN w h) 0) 0 w h o = _
  obtain ⟨s, _, e⟩ := inv_loop (n := stN w h) (c := 130) (F := fun k (s : List Int) i => spec_l04Distances.l0 k a s i w h o) (fin := fun _ => dists (st w h o) (stN w h) a)
    (I := fun s i => s = List.replicate i (-1) ++ List.replicate (stN w h - i) 0)
    (fun k s i _ hi hs => by
      refine ⟨List.replicate (i + 1) (-1) ++ List.replicate (stN w h - (i + 1)) 0, rfl, ?_⟩
      have hl : s.length = stN w h := by rw [hs]; simp; omega
      simp only [spec_l04Distances.l0]
      rw [if_pos (by omega), if_pos (by omega), w64_succ hi (by omega), Int.toNat_natCast]
      congr 1
      rw [hs, show stN w h - i = (stN w h - (i + 1)) + 1 by omega, List.replicate_succ, List.replicate_succ']
      rw [List.set_append_right _ _ (by simp)]
      simp)
    (fun k s hk hs => by
      have hs' : s = List.replicate (stN w h) (-1) := by rw [hs, Nat.sub_self]; simp
      simp only [spec_l04Distances.l0]
      rw [hs', List.length_replicate, if_neg (by omega), if_pos hc.1, if_pos (by omega)]
      exact spec_bfs (stN w h + 1) 0 k _ _ (bfs_init hc.1 (by omega)) (small_init hc.1 (by omega)) (by omega) (by omega)) (stN w h) 0 k (List.replicate (stN w h) 0) (by omega) (by omega) (by simp)
  exact e
def dst (w h o a b : Int) : Int := rd (dists (st w h o) (stN w h) a) b
theorem dst_sym {w h o a b : Int} (ha : icell w h a = true) (hb : icell w h b = true) : dst w h o a b = dst w h o b a := by
  have ca := icell_iff.1 ha
  have cb := icell_iff.1 hb
  have hN : ((stN w h : Nat) : Int) = cells w h := by have := cells_bd w h; unfold stN; omega
  obtain ⟨_, _, p⟩ := dists_spec (steps_st w h o) (a := a) ca.1 (by omega)
  obtain ⟨_, _, q⟩ := dists_spec (steps_st w h o) (a := b) cb.1 (by omega)
  have rev : ∀ {x y : Int} {n : Nat}, Walk (st w h o) x n y → Walk (st w h o) y n x := fun H => Walk.rev (steps_st w h o) (sym_st w h o) H
  unfold dst
  rcases p b cb.1 (by omega) with ⟨e, n1⟩ | ⟨g1, w1, m1⟩ <;> rcases q a ca.1 (by omega) with ⟨e', n2⟩ | ⟨g2, w2, m2⟩
  · rw [e, e']
  · exact absurd (rev w2) (n1 _)
  · exact absurd (rev w1) (n2 _)
  · have := m1 _ (rev w2)
    have := m2 _ (rev w1)
    omega
theorem dists_length {w h o a : Int} (ha : icell w h a = true) : ((dists (st w h o) (stN w h) a).length : Int) = cells w h := by
  have ca := icell_iff.1 ha
  have hN : ((stN w h : Nat) : Int) = cells w h := by have := cells_bd w h; unfold stN; omega
  rw [(dists_spec (steps_st w h o) (a := a) ca.1 (by omega)).1, hN]
theorem impl_DistanceOf_eq {w h o : Int} {k : Nat} (hk : 200 ≤ k) (a b : Int) : impl_DistanceOf.f k w h o a b = some (if mok w h o = true ∧ icell w h a = true ∧ icell w h b = true then dst w h o a b else -1) := by
  unfold impl_DistanceOf.f
  rw [impl_isIn_eq]
  simp only [Option.bind_some, List.all_cons, List.all_nil, Bool.and_true]
  by_cases H : mok w h o = true ∧ icell w h a = true ∧ icell w h b = true
  · rw [if_pos H, if_pos (by simp [H.1, H.2.1, H.2.2]), impl_distances_eq hk H.2.1, Option.bind_some]
    have cb := icell_iff.1 H.2.2
    rw [if_pos cb.1, if_pos (by rw [dists_length H.2.1]; exact cb.2)]
    rfl
  · rw [if_neg H, if_neg (by simpa using fun h1 h2 h3 => H ⟨h1, h2, h3⟩)]
end Go.Proofs.Ytpeehicekddjhaa.F
end

section
namespace Go.Proofs.Ytpeehicekddjhaa.F
open Go.RowKit Go.Proofs.YtpeehicekddjhaaW.PrintWords Go.Proofs.YtpeehicekddjhaaW.PrintLast Go.Proofs.YtpeehicekddjhaaW.PrintMore
set_option linter.unusedVariables false
set_option linter.unusedSimpArgs false
theorem laws_toIntS_eq {k : Nat} {l : List Int} (hl : l.length ≤ 1048576) (hk : l.length + 1 ≤ k) : laws_toIntS.f k l = some l := by
  unfold laws_toIntS.f
  rw [if_pos (by omega), if_pos (by omega)]
  have := set_loop (c := 0) (0 : Int) (F := fun k acc i => laws_toIntS.l0 k l acc i) (l := l) (g := id) (k := k)
    (fun k acc i _ hi ha => by
      simp only [laws_toIntS.l0]
      rw [if_pos (by omega), if_pos (by omega), if_pos (by omega), w64_succ hi (by omega)]
      rfl)
    (fun k acc _ => by
      simp only [laws_toIntS.l0]
      rw [if_neg (by omega)]) (List.replicate (l.length : Int).toNat 0) (by simp) (by omega)
  simpa using this
theorem laws_eqIntS_refl {k : Nat} {l : List Int} (hl : l.length ≤ 9223372036854775806) (hk : l.length + 1 ≤ k) : laws_eqIntS.f k l l = some true := by
  unfold laws_eqIntS.f
  rw [if_pos rfl]
  have := all_loop (c := 0) (0 : Int) (F := fun k i => laws_eqIntS.l0 k l l i) (p := fun _ => true) (b := true)
    (fun k i _ hi => by
      simp only [laws_eqIntS.l0]
      rw [if_pos (by omega), if_pos (by omega), if_pos (by omega), w64_succ hi (by omega)]
      all_goals simp)
    (fun k _ => by simp only [laws_eqIntS.l0]; rw [if_neg (by omega)]) hk
  rw [this]
  congr 1
  simp only [Bool.and_true, List.all_eq_true, implies_true]
end Go.Proofs.Ytpeehicekddjhaa.F
end

section
namespace Go.Proofs.Ytpeehicekddjhaa.F
open Go.RowKit Go.Proofs.YtpeehicekddjhaaW.PrintWords Go.Proofs.YtpeehicekddjhaaW.PrintLast Go.Proofs.YtpeehicekddjhaaW.PrintMore
set_option linter.unusedVariables false
set_option linter.unusedSimpArgs false
theorem gaps_small {w h g : Int} (hg : igap w h g = true) : 0 ≤ g ∧ g < 24 := by
  have := igap_iff.1 hg
  have := gaps_bd w h
  omega
end Go.Proofs.Ytpeehicekddjhaa.F
end

section
namespace Go.Proofs.Ytpeehicekddjhaa.F
open Go.RowKit Go.Proofs.YtpeehicekddjhaaW.PrintWords Go.Proofs.YtpeehicekddjhaaW.PrintLast Go.Proofs.YtpeehicekddjhaaW.PrintMore
set_option linter.unusedVariables false
set_option linter.unusedSimpArgs false
def ints (n : Nat) : List Int := (List.range n).map fun (j : Nat) => (j : Int)
theorem ints_succ (n : Nat) : ints (n + 1) = ints n ++ [(n : Int)] := by
  unfold ints
  rw [List.range_succ, List.map_append]
  rfl
theorem ints_length (n : Nat) : (ints n).length = n := by simp [ints]
theorem mem_ints {n : Nat} {x : Int} : x ∈ ints n ↔ 0 ≤ x ∧ x < n := by
  unfold ints
  rw [List.mem_map]
  constructor
  · rintro ⟨j, hj, rfl⟩
    rw [List.mem_range] at hj
    omega
  · intro h
    exact ⟨x.toNat, by rw [List.mem_range]; omega, by omega⟩
theorem impl_upTo_eq {n k : Nat} (hn : n ≤ 1000) (hk : n + 1 ≤ k) : impl_upTo.f k (n : Int) = some (ints n) := by
  unfold impl_upTo.f
  obtain ⟨s, hs, e⟩ := inv_loop (F := fun k (s : List Int) i => impl_upTo.l0 k (n : Int) s i) (n := n) (c := 0) (fin := fun s => s) (I := fun s i => s = ints i)
    (fun k s i _ hi hs => ⟨ints (i + 1), rfl, by
      subst hs
      simp only [impl_upTo.l0]
      rw [if_pos (by omega), if_pos (by rw [ints_length]; omega), ints_succ, w64 (by omega) (by omega)]⟩)
    (fun k s _ hs => by
      simp only [impl_upTo.l0]
      rw [if_neg (by omega)]) n 0 k [] (by omega) (by omega) rfl
  subst hs
  exact e
def reach (w h o a : Int) : List Int := (ints (stN w h)).filter fun c => !decide (dst w h o a c < 0)
theorem stN_int (w h : Int) : ((stN w h : Nat) : Int) = cells w h := by have := cells_bd w h; unfold stN; omega
theorem stN_le (w h : Int) : stN w h ≤ 16 := by have := cells_bd w h; unfold stN; omega
theorem dst_self {w h o a : Int} (ha : icell w h a = true) : dst w h o a a = 0 := by
  have ca := icell_iff.1 ha
  exact (dists_spec (steps_st w h o) (a := a) ca.1 (by rw [stN_int]; exact ca.2)).2.1
theorem reach_self {w h o a : Int} (ha : icell w h a = true) : a ∈ reach w h o a := by
  have ca := icell_iff.1 ha
  unfold reach
  rw [List.mem_filter, mem_ints, dst_self ha, stN_int]
  exact ⟨ca, rfl⟩
theorem reach_pos {w h o a : Int} (ha : icell w h a = true) : 0 < (reach w h o a).length := List.length_pos_of_mem (reach_self ha)
theorem impl_Reached_eq (w h o a : Int) : impl_Reached.f w h o a = some (if (mok w h o && icell w h a) = true then reach w h o a else []) := by
  unfold impl_Reached.f
  rw [impl_isIn_eq, Option.bind_some]
  by_cases H : (mok w h o && icell w h a) = true
  · rw [if_pos (by simpa using H), if_pos H]
    obtain ⟨M, C⟩ := Bool.and_eq_true_iff.1 H
    have ca := icell_iff.1 C
    have hl := dists_length (o := o) C
    have hN := stN_int w h
    have hL := stN_le w h
    have hlen : (dists (st w h o) (stN w h) a).length = stN w h := by omega
    rw [impl_distances_eq (by decide) C, Option.bind_some, if_pos (by omega), hlen, impl_upTo_eq (by omega) (by omega), Option.bind_some, if_pos]
    · rfl
    · refine ⟨List.all_eq_true.2 fun x hx => ?_, by rw [ints_length]; omega⟩
      have := mem_ints.1 hx
      simpa using this
  · rw [if_neg (by simpa using H), if_neg H]
theorem spec_Reached_eq {k : Nat} (hk : 200 ≤ k) (w h o a : Int) : spec_Reached.f k w h o a = some (if (mok w h o && icell w h a) = true then reach w h o a else []) := by
  unfold spec_Reached.f
  rw [Option.bind_some, spec_l04Has_eq, Option.bind_some]
  by_cases H : (mok w h o && icell w h a) = true
  · rw [if_pos H, if_pos H]
    obtain ⟨M, C⟩ := Bool.and_eq_true_iff.1 H
    have hl := dists_length (o := o) C
    have hN := stN_int w h
    have hL := stN_le w h
    have hlen : (dists (st w h o) (stN w h) a).length = stN w h := by omega
    rw [spec_l04Distances_eq hk C, Option.bind_some]
    obtain ⟨s, hs, e⟩ := inv_loop (F := fun k (s : List Int) i => spec_Reached.l0 k s (dists (st w h o) (stN w h) a) i) (n := stN w h) (c := 0) (fin := fun s => s) (I := fun s i => s = (ints i).filter fun c => !decide (dst w h o a c < 0))
      (fun k s i _ hi hs => ⟨(ints (i + 1)).filter fun c => !decide (dst w h o a c < 0), rfl, by
        subst hs
        have hle : ((ints i).filter fun c => !decide (dst w h o a c < 0)).length ≤ 16 := Nat.le_trans (List.length_filter_le _ _) (by rw [ints_length]; omega)
        simp only [spec_Reached.l0]
        rw [if_pos (by omega), if_pos (by omega), ints_succ, List.filter_append, w64 (by omega) (by omega)]
        by_cases hd : dst w h o a (i : Int) < 0
        · rw [if_neg (by show ¬ dst w h o a (i : Int) ≥ 0; omega), List.filter_cons_of_neg (by simpa using hd), List.filter_nil, List.append_nil]
        · rw [if_pos (by show dst w h o a (i : Int) ≥ 0; omega), if_pos (by omega), List.filter_cons_of_pos (by simpa using hd), List.filter_nil]⟩)
      (fun k s _ hs => by
        simp only [spec_Reached.l0]
        rw [if_neg (by omega)]) (stN w h) 0 k [] (by omega) (by omega) rfl
    subst hs
    exact e
  · rw [if_neg H, if_neg H]
theorem impl_Reached_in {w h o a : Int} (M : mok w h o = true) (C : icell w h a = true) : impl_Reached.f w h o a = some (reach w h o a) := by
  rw [impl_Reached_eq, if_pos (by simp [M, C])]
theorem spec_Reached_in {k : Nat} (hk : 200 ≤ k) {w h o a : Int} (M : mok w h o = true) (C : icell w h a = true) : spec_Reached.f k w h o a = some (reach w h o a) := by
  rw [spec_Reached_eq hk, if_pos (by simp [M, C])]
def pstep (w h o : Int) (n : Int) (i : Nat) : Int := if rd (reach w h o (i : Int)) 0 = (i : Int) then n + 1 else n
def parts (w h o : Int) : Int := if mok w h o = true then (List.range' 0 (stN w h)).foldl (pstep w h o) 0 else 0
theorem impl_CountParts_eq {k : Nat} (hk : 20 ≤ k) (w h o : Int) : impl_CountParts.f k w h o = some (parts w h o) := by
  unfold impl_CountParts.f parts
  have hN := stN_int w h
  have hL := stN_le w h
  by_cases M : mok w h o = true
  · rw [if_pos M]
    exact fold_loop (F := fun k n i => impl_CountParts.l0 k n i w h o) (n := stN w h) (c := 0) (step := pstep w h o) (fin := fun n => n) (I := fun n i => 0 ≤ n ∧ n ≤ i)
      (fun k n i _ hi hn => by
        have C : icell w h (i : Int) = true := icell_iff.2 ⟨by omega, by omega⟩
        simp only [impl_CountParts.l0]
        rw [impl_isIn_eq, Option.bind_some, if_pos (by simp [M, C]), impl_Reached_in M C, Option.bind_some, if_pos (by have := reach_pos (o := o) C; omega), w64 (x := (i : Int) + 1) (by omega) (by omega), w64 (x := n + 1) (by omega) (by omega)]
        unfold pstep
        split <;> rfl)
      (fun n i hi hn => by
        unfold pstep
        split <;> omega)
      (fun k n _ _ => by
        have C : ¬ icell w h (stN w h : Int) = true := fun c => by have := icell_iff.1 c; omega
        simp only [impl_CountParts.l0]
        rw [impl_isIn_eq, Option.bind_some, if_neg (by simp [C])]) (stN w h) 0 k 0 (by omega) (by omega) ⟨Int.le_refl _, Int.le_refl _⟩
  · rw [if_neg M]
    obtain ⟨m, rfl⟩ : ∃ m, k = m + 1 := ⟨k - 1, by omega⟩
    simp only [impl_CountParts.l0]
    rw [impl_isIn_eq, Option.bind_some, if_neg (by simp [M])]
theorem spec_part1 {w h o : Int} (M : mok w h o = true) {m i : Nat} {n : Int} (hm : 200 ≤ m) (C : icell w h (i : Int) = true) (hn : 0 ≤ n ∧ n ≤ i) (hi : i < 16) : spec_CountParts.l0 (m + 2) n (i : Int) w h o = spec_CountParts.l0 m (pstep w h o n i) ((i : Int) + 1) w h o := by
  have cc := icell_iff.1 C
  rw [show m + 2 = (m + 1) + 1 from rfl]
  simp only [spec_CountParts.l0]
  rw [spec_CountCells_eq, Option.bind_some, if_pos (by omega), spec_MazeOk_eq, Option.bind_some]
  simp only [spec_CountParts.j1]
  rw [if_pos M, spec_Reached_in (by omega) M C, Option.bind_some, if_pos (by have := reach_pos (o := o) C; omega), w64 (x := (i : Int) + 1) (by omega) (by omega), w64 (x := n + 1) (by omega) (by omega)]
  unfold pstep
  split <;> rfl
theorem spec_CountParts_eq {k : Nat} (hk : 300 ≤ k) (w h o : Int) : spec_CountParts.f k w h o = some (parts w h o) := by
  have hN := stN_int w h
  have hL := stN_le w h
  refine at_rounds (g := fun k => spec_CountParts.f k w h o) (fun k => spec_CountParts.mono w h o k) (k := 2 * (stN w h + 1) + 250) (by omega) ?_
  show spec_CountParts.l0 _ 0 0 w h o = _
  unfold parts
  by_cases M : mok w h o = true
  · rw [if_pos M]
    exact fold_loop (F := fun k n i => spec_CountParts.l0 (2 * k + 250) n i w h o) (n := stN w h) (c := 0) (step := pstep w h o) (fin := fun n => n) (I := fun n i => 0 ≤ n ∧ n ≤ i)
      (fun k n i _ hi hn => by
        exact spec_part1 M (by omega) (icell_iff.2 ⟨by omega, by omega⟩) hn (by omega))
      (fun n i hi hn => by
        unfold pstep
        split <;> omega)
      (fun k n _ _ => by
        show spec_CountParts.l0 ((2 * k + 251) + 1) n _ w h o = _
        simp only [spec_CountParts.l0]
        rw [spec_CountCells_eq, Option.bind_some, if_neg (by omega)]
        show spec_CountParts.j1 ((2 * k + 250) + 1) n _ _ w h o = _
        simp only [spec_CountParts.j1]
        rw [if_neg (by decide)]) (stN w h) 0 (stN w h + 1) 0 (by omega) (by omega) ⟨Int.le_refl _, Int.le_refl _⟩
  · rw [if_neg M]
    show spec_CountParts.l0 ((2 * stN w h + 251) + 1) 0 0 w h o = _
    simp only [spec_CountParts.l0]
    rw [spec_CountCells_eq, Option.bind_some]
    split
    · rw [spec_MazeOk_eq, Option.bind_some]
      show spec_CountParts.j1 ((2 * stN w h + 250) + 1) 0 0 _ w h o = _
      simp only [spec_CountParts.j1]
      rw [if_neg M]
    · show spec_CountParts.j1 ((2 * stN w h + 250) + 1) 0 0 _ w h o = _
      simp only [spec_CountParts.j1]
      rw [if_neg (by decide)]
def conn (w h o : Int) : Bool := parts w h o == 1
theorem conn_mok {w h o : Int} (H : conn w h o = true) : mok w h o = true := by
  unfold conn parts at H
  by_cases M : mok w h o = true
  · exact M
  · rw [if_neg M] at H; cases H
theorem impl_IsConnected_eq {k : Nat} (hk : 20 ≤ k) (w h o : Int) : impl_IsConnected.f k w h o = some (conn w h o) := by
  unfold impl_IsConnected.f
  rw [impl_CountParts_eq hk, Option.bind_some]
  rfl
theorem spec_IsConnected_eq {k : Nat} (hk : 300 ≤ k) (w h o : Int) : spec_IsConnected.f k w h o = some (conn w h o) := by
  unfold spec_IsConnected.f
  rw [spec_CountParts_eq hk, Option.bind_some]
  rfl
end Go.Proofs.Ytpeehicekddjhaa.F
end

section
namespace Go.Proofs.Ytpeehicekddjhaa.F
open Go.RowKit Go.Proofs.YtpeehicekddjhaaW.PrintWords Go.Proofs.YtpeehicekddjhaaW.PrintLast Go.Proofs.YtpeehicekddjhaaW.PrintMore
set_option linter.unusedVariables false
set_option linter.unusedSimpArgs false
def lnk (w h o a b : Int) : Prop := ∃ n, Walk (st w h o) a n b
theorem lnk_refl (w h o a : Int) : lnk w h o a a := ⟨0, Walk.nil⟩
theorem lnk_symm {w h o a b : Int} (H : lnk w h o a b) : lnk w h o b a := by
  obtain ⟨n, H⟩ := H
  exact ⟨n, Walk.rev (steps_st w h o) (sym_st w h o) H⟩
theorem lnk_trans {w h o a b c : Int} (H : lnk w h o a b) (K : lnk w h o b c) : lnk w h o a c := by
  obtain ⟨n, H⟩ := H
  obtain ⟨m, K⟩ := K
  exact ⟨n + m, H.trans K⟩
theorem lnk_step {w h o a d : Int} (H : 0 ≤ st w h o a d) : lnk w h o a (st w h o a d) := ⟨1, Walk.snoc Walk.nil H⟩
theorem dst_lnk {w h o a b : Int} (ha : icell w h a = true) (hb : icell w h b = true) : 0 ≤ dst w h o a b ↔ lnk w h o a b := by
  have ca := icell_iff.1 ha
  have cb := icell_iff.1 hb
  have hN := stN_int w h
  obtain ⟨_, _, p⟩ := dists_spec (steps_st w h o) (a := a) ca.1 (by omega)
  unfold dst lnk
  rcases p b cb.1 (by omega) with ⟨e, n1⟩ | ⟨g1, w1, m1⟩
  · rw [e]
    exact ⟨fun z => absurd z (by decide), fun ⟨n, z⟩ => absurd z (n1 n)⟩
  · exact ⟨fun _ => ⟨_, w1⟩, fun _ => g1⟩
def first (w h o i : Int) : Int := rd (reach w h o i) 0
theorem ints_sorted (n : Nat) : (ints n).Pairwise (· < ·) := by
  unfold ints
  exact List.pairwise_map.2 (List.pairwise_lt_range.imp fun h => by omega)
theorem mem_reach {w h o i x : Int} (hi : icell w h i = true) : x ∈ reach w h o i ↔ icell w h x = true ∧ lnk w h o i x := by
  unfold reach
  rw [List.mem_filter, mem_ints, stN_int]
  constructor
  · intro ⟨h1, h2⟩
    have hx : icell w h x = true := icell_iff.2 h1
    refine ⟨hx, (dst_lnk hi hx).1 ?_⟩
    simpa using h2
  · intro ⟨h1, h2⟩
    refine ⟨icell_iff.1 h1, ?_⟩
    have := (dst_lnk hi h1).2 h2
    simpa using this
theorem first_spec {w h o i : Int} (hi : icell w h i = true) : icell w h (first w h o i) = true ∧ lnk w h o i (first w h o i) ∧ ∀ x, icell w h x = true → lnk w h o i x → first w h o i ≤ x := by
  have hp := reach_pos (o := o) hi
  have hm : first w h o i ∈ reach w h o i := rd_memI (Int.le_refl _) (by omega)
  obtain ⟨h1, h2⟩ := (mem_reach hi).1 hm
  refine ⟨h1, h2, fun x hx hl => ?_⟩
  have hxm := (mem_reach hi).2 ⟨hx, hl⟩
  have hs : (reach w h o i).Pairwise (· < ·) := (ints_sorted _).sublist List.filter_sublist
  unfold first
  cases e : reach w h o i with
  | nil => rw [e] at hp; exact absurd hp (by simp)
  | cons y ys =>
    rw [e] at hs hxm
    have : rd (y :: ys) 0 = y := rfl
    rw [this]
    rcases List.mem_cons.1 hxm with rfl | hz
    · exact Int.le_refl _
    · exact Int.le_of_lt ((List.pairwise_cons.1 hs).1 x hz)
theorem foldl_pstep (w h o : Int) : ∀ (l : List Nat) (n : Int), l.foldl (pstep w h o) n = n + (l.countP fun (i : Nat) => first w h o (i : Int) == (i : Int) : Nat)
  | [], n => by simp
  | i :: l, n => by
    rw [List.foldl_cons, foldl_pstep w h o l, List.countP_cons]
    unfold pstep
    by_cases c : rd (reach w h o (i : Int)) 0 = (i : Int)
    · rw [if_pos c, if_pos (by simpa [first] using c)]
      omega
    · rw [if_neg c, if_neg (by simpa [first] using c)]
      omega
theorem cells_pos {w h : Int} (G : gok w h = true) : 1 ≤ cells w h := by
  unfold cells
  rw [if_pos G]
  exact (gok_mul G).1
theorem icell_zero {w h : Int} (G : gok w h = true) : icell w h 0 = true := icell_iff.2 ⟨Int.le_refl _, by have := cells_pos G; omega⟩
theorem conn_iff {w h o : Int} : conn w h o = true ↔ mok w h o = true ∧ ∀ x, icell w h x = true → lnk w h o 0 x := by
  constructor
  · intro H
    have M := conn_mok H
    have G := (mok_iff.1 M).1
    have h0 := icell_zero G
    have hN := stN_int w h
    have hc := cells_pos G
    refine ⟨M, ?_⟩
    unfold conn parts at H
    rw [if_pos M, foldl_pstep] at H
    obtain ⟨m, hm⟩ : ∃ m, stN w h = m + 1 := ⟨stN w h - 1, by omega⟩
    rw [hm, List.range'_succ, List.countP_cons] at H
    have f0 : first w h o 0 = 0 := by
      obtain ⟨a, _, b⟩ := first_spec (o := o) h0
      have := b 0 h0 (lnk_refl _ _ _ _)
      have := icell_iff.1 a
      omega
    rw [if_pos (by simpa using f0)] at H
    have hz : (List.range' (0 + 1) m).countP (fun (i : Nat) => first w h o (i : Int) == (i : Int)) = 0 := by
      simp only [beq_iff_eq] at H
      omega
    rw [List.countP_eq_zero] at hz
    have key : ∀ (n : Nat) (x : Int), x.toNat ≤ n → icell w h x = true → lnk w h o 0 x := by
      intro n
      induction n with
      | zero =>
        intro x hx hc
        have := icell_iff.1 hc
        obtain rfl : x = 0 := by omega
        exact lnk_refl _ _ _ _
      | succ n ih =>
        intro x hx hc
        have cx := icell_iff.1 hc
        by_cases x0 : x = 0
        · rw [x0]; exact lnk_refl _ _ _ _
        obtain ⟨a, b, c⟩ := first_spec (o := o) hc
        have h1 := c x hc (lnk_refl _ _ _ _)
        have h2 := hz x.toNat (by rw [List.mem_range'_1]; omega)
        rw [show ((x.toNat : Nat) : Int) = x by omega] at h2
        have h3 : first w h o x ≠ x := by simpa using h2
        have ca := icell_iff.1 a
        exact lnk_trans (ih _ (by omega) a) (lnk_symm b)
    exact fun x hx => key _ x (Nat.le_refl _) hx
  · intro ⟨M, H⟩
    have G := (mok_iff.1 M).1
    have h0 := icell_zero G
    have hN := stN_int w h
    have hc := cells_pos G
    unfold conn parts
    rw [if_pos M, foldl_pstep]
    obtain ⟨m, hm⟩ : ∃ m, stN w h = m + 1 := ⟨stN w h - 1, by omega⟩
    have f0 : ∀ x, icell w h x = true → first w h o x = 0 := fun x hx => by
      obtain ⟨a, _, b⟩ := first_spec (o := o) hx
      have := b 0 h0 (lnk_symm (H x hx))
      have := icell_iff.1 a
      omega
    rw [hm, List.range'_succ, List.countP_cons, if_pos (by simpa using f0 0 h0)]
    have hz : (List.range' (0 + 1) m).countP (fun (i : Nat) => first w h o (i : Int) == (i : Int)) = 0 := by
      rw [List.countP_eq_zero]
      intro i hi
      rw [List.mem_range'_1] at hi
      rw [f0 i (icell_iff.2 (by omega))]
      simp
      omega
    rw [hz]
    rfl
theorem conn_lnk {w h o x y : Int} (H : conn w h o = true) (hx : icell w h x = true) (hy : icell w h y = true) : lnk w h o x y := by
  obtain ⟨_, h1⟩ := conn_iff.1 H
  exact lnk_trans (lnk_symm (h1 x hx)) (h1 y hy)
end Go.Proofs.Ytpeehicekddjhaa.F
end

section
namespace Go.Proofs.Ytpeehicekddjhaa.F
open Go.RowKit Go.Proofs.YtpeehicekddjhaaW.PrintWords Go.Proofs.YtpeehicekddjhaaW.PrintLast Go.Proofs.YtpeehicekddjhaaW.PrintMore
set_option linter.unusedVariables false
set_option linter.unusedSimpArgs false
def pcn (n m : Nat) : Nat := (List.range m).countP fun i => n.testBit i
theorem pcn_split (q b m : Nat) (hb : b < 256) : pcn (256 * q + b) (8 + m) = pcn b 8 + pcn q m := by
  unfold pcn
  rw [List.range_add, List.countP_append, List.countP_map]
  congr 1
  · apply List.countP_congr
    intro i hi
    have := List.mem_range.1 hi
    rw [show (256 : Nat) = 2 ^ 8 from rfl, Nat.testBit_two_pow_mul_add q (by simpa using hb), if_pos this]
  · apply List.countP_congr
    intro i hi
    show (256 * q + b).testBit (8 + i) = true ↔ _
    rw [show (256 : Nat) = 2 ^ 8 from rfl, Nat.testBit_two_pow_mul_add q (by simpa using hb), if_neg (by omega), Nat.add_sub_cancel_left]
theorem and_byte (a d m : Nat) (hd : d < 256) : (256 * a + d) &&& m = 256 * (a &&& (m / 256)) + (d &&& (m % 256)) := by
  have hd' : d &&& (m % 256) < 2 ^ 8 := Nat.and_lt_two_pow _ (Nat.mod_lt _ (by decide))
  apply Nat.eq_of_testBit_eq
  intro i
  have em : m = 2 ^ 8 * (m / 256) + m % 256 := by omega
  conv => lhs; rw [em]
  rw [Nat.testBit_and, show (256 : Nat) = 2 ^ 8 from rfl, Nat.testBit_two_pow_mul_add _ (by simpa using hd), Nat.testBit_two_pow_mul_add _ (Nat.mod_lt _ (by decide)), Nat.testBit_two_pow_mul_add _ hd']
  split
  · rw [Nat.testBit_and]
  · rw [Nat.testBit_and]
def h1 (b : Nat) : Nat := (b / 2 &&& 85) + (b &&& 85)
def h2 (c : Nat) : Nat := (c / 4 &&& 51) + (c &&& 51)
theorem decA : ∀ b : Fin 256, ∀ e : Fin 2, ((b.val / 2 + 128 * e.val) &&& 85) = (b.val / 2 &&& 85) := by decide +kernel
theorem decA2 : ∀ b : Fin 256, (b.val / 2 &&& 93824992236885) = (b.val / 2 &&& 85) ∧ (b.val &&& 93824992236885) = (b.val &&& 85) := by decide +kernel
theorem decB : ∀ b : Fin 256, ∀ e : Fin 4, ((b.val / 4 + 64 * e.val) &&& 51) = (b.val / 4 &&& 51) := by decide +kernel
theorem decB2 : ∀ b : Fin 256, (b.val / 4 &&& 56294995342131) = (b.val / 4 &&& 51) ∧ (b.val &&& 56294995342131) = (b.val &&& 51) := by decide +kernel
theorem decC : ∀ b : Fin 256, h1 b.val ≤ 170 ∧ h2 (h1 b.val) ≤ 68 ∧ h2 (h1 b.val) % 16 ≤ 4 ∧ pcn b.val 8 ≤ 8 := by decide +kernel
theorem decD : ∀ b : Fin 256, ∀ e : Fin 5, ((h2 (h1 b.val) / 16 + 16 * e.val + h2 (h1 b.val)) &&& 15) = pcn b.val 8 := by decide +kernel
theorem decD2 : ∀ b : Fin 256, ((h2 (h1 b.val) / 16 + h2 (h1 b.val)) &&& 16557351571215) = pcn b.val 8 := by decide +kernel
theorem step1 {b0 b1 b2 : Nat} (l0 : b0 < 256) (l1 : b1 < 256) (l2 : b2 < 256) : ((256 * (256 * b2 + b1) + b0) / 2 &&& 6148914691236517205) + ((256 * (256 * b2 + b1) + b0) &&& 6148914691236517205) = 256 * (256 * h1 b2 + h1 b1) + h1 b0 := by
  have e0 : (256 * (256 * b2 + b1) + b0) / 2 = 256 * (256 * (b2 / 2) + (b1 / 2 + 128 * (b2 % 2))) + (b0 / 2 + 128 * (b1 % 2)) := by omega
  rw [e0, and_byte _ _ _ (by omega), and_byte _ _ _ (by omega), and_byte _ _ _ l0, and_byte _ _ _ l1]
  have a0 := decA ⟨b0, l0⟩ ⟨b1 % 2, by omega⟩
  have a1 := decA ⟨b1, l1⟩ ⟨b2 % 2, by omega⟩
  have a2 := decA2 ⟨b2, l2⟩
  simp only [] at a0 a1 a2
  simp only [show 6148914691236517205 / 256 = 24019198012642645 from rfl, show 6148914691236517205 % 256 = 85 from rfl, show 24019198012642645 / 256 = 93824992236885 from rfl, show 24019198012642645 % 256 = 85 from rfl, a0, a1, a2.1, a2.2]
  unfold h1
  omega
theorem step2 {b0 b1 b2 : Nat} (l0 : b0 < 256) (l1 : b1 < 256) (l2 : b2 < 256) : ((256 * (256 * b2 + b1) + b0) / 4 &&& 3689348814741910323) + ((256 * (256 * b2 + b1) + b0) &&& 3689348814741910323) = 256 * (256 * h2 b2 + h2 b1) + h2 b0 := by
  have e0 : (256 * (256 * b2 + b1) + b0) / 4 = 256 * (256 * (b2 / 4) + (b1 / 4 + 64 * (b2 % 4))) + (b0 / 4 + 64 * (b1 % 4)) := by omega
  rw [e0, and_byte _ _ _ (by omega), and_byte _ _ _ (by omega), and_byte _ _ _ l0, and_byte _ _ _ l1]
  have a0 := decB ⟨b0, l0⟩ ⟨b1 % 4, by omega⟩
  have a1 := decB ⟨b1, l1⟩ ⟨b2 % 4, by omega⟩
  have a2 := decB2 ⟨b2, l2⟩
  simp only [] at a0 a1 a2
  simp only [show 3689348814741910323 / 256 = 14411518807585587 from rfl, show 3689348814741910323 % 256 = 51 from rfl, show 14411518807585587 / 256 = 56294995342131 from rfl, show 14411518807585587 % 256 = 51 from rfl, a0, a1, a2.1, a2.2]
  unfold h2
  omega
theorem step3 {b0 b1 b2 : Nat} (l0 : b0 < 256) (l1 : b1 < 256) (l2 : b2 < 256) {x : Nat} (hx : x = 256 * (256 * h2 (h1 b2) + h2 (h1 b1)) + h2 (h1 b0)) : (x / 16 + x) &&& 1085102592571150095 = 256 * (256 * pcn b2 8 + pcn b1 8) + pcn b0 8 := by
  have c0 := decC ⟨b0, l0⟩
  have c1 := decC ⟨b1, l1⟩
  have c2 := decC ⟨b2, l2⟩
  have d0 := decD ⟨b0, l0⟩ ⟨h2 (h1 b1) % 16, by have := c1; simp only [] at this; omega⟩
  have d1 := decD ⟨b1, l1⟩ ⟨h2 (h1 b2) % 16, by have := c2; simp only [] at this; omega⟩
  have d2 := decD2 ⟨b2, l2⟩
  simp only [] at c0 c1 c2 d0 d1 d2
  subst hx
  generalize h2 (h1 b0) = e0 at *
  generalize h2 (h1 b1) = e1 at *
  generalize h2 (h1 b2) = e2 at *
  have e : (256 * (256 * e2 + e1) + e0) / 16 + (256 * (256 * e2 + e1) + e0) = 256 * (256 * (e2 / 16 + e2) + (e1 / 16 + 16 * (e2 % 16) + e1)) + (e0 / 16 + 16 * (e1 % 16) + e0) := by omega
  rw [e, and_byte _ _ _ (by omega), and_byte _ _ _ (by omega)]
  simp only [show 1085102592571150095 / 256 = 4238682002231055 from rfl, show 1085102592571150095 % 256 = 15 from rfl, show 4238682002231055 / 256 = 16557351571215 from rfl, show 4238682002231055 % 256 = 15 from rfl, d0, d1, d2]
theorem sum3 {p0 p1 p2 x3 x4 x5 : Nat} (q0 : p0 ≤ 8) (q1 : p1 ≤ 8) (q2 : p2 ≤ 8) (e3 : x3 = 256 * (256 * p2 + p1) + p0) (e4 : x4 = x3 + x3 / 256) (e5 : x5 = x4 + x4 / 65536) : x5 % 128 = p0 + (p1 + p2) := by
  have d3 : x3 / 256 = 256 * p2 + p1 := by omega
  have e4' : x4 = 65536 * p2 + 256 * (p1 + p2) + (p0 + p1) := by omega
  have d4 : x4 / 65536 = p2 := by omega
  have e5' : x5 = 128 * (512 * p2 + 2 * (p1 + p2)) + (p0 + p1 + p2) := by omega
  clear e3 e4 e5 d3 e4' d4
  omega
theorem bits_and_u {a b : Nat} (ha : a < 2 ^ 64) (hb : b < 2 ^ 64) : Go.bits .and .u64 (a : Int) (b : Int) = ((a &&& b : Nat) : Int) :=
  (bits_nat .u64 64 (by decide) (fun n h0 h1 => by obtain ⟨m, rfl⟩ := Int.eq_ofNat_of_zero_le h0; exact wrapu_nat (by omega)) a b ha hb).1
theorem and_lit_u {a : Nat} (m : Nat) (ha : a < 2 ^ 64) (hm : m < 2 ^ 64) {z : Int} (hz : z = (m : Int)) : Go.bits .and .u64 (a : Int) z = ((a &&& m : Nat) : Int) := by rw [hz]; exact bits_and_u ha hm
theorem onesCount64 {n : Nat} (hn : n < 16777216) : math_bits_OnesCount64.f (n : Int) = some ((pcn n 24 : Nat) : Int) := by
  obtain ⟨b0, b1, b2, l0, l1, l2, rfl⟩ : ∃ b0 b1 b2, b0 < 256 ∧ b1 < 256 ∧ b2 < 256 ∧ n = 256 * (256 * b2 + b1) + b0 := ⟨n % 256, n / 256 % 256, n / 65536, by omega, by omega, by omega, by omega⟩
  obtain ⟨x, hx⟩ : ∃ x, x = 256 * (256 * b2 + b1) + b0 := ⟨_, rfl⟩
  have s1 := step1 l0 l1 l2
  have c0 := decC ⟨b0, l0⟩
  have c1 := decC ⟨b1, l1⟩
  have c2 := decC ⟨b2, l2⟩
  simp only [] at c0 c1 c2
  rw [← hx] at s1 hn ⊢
  obtain ⟨x1, hx1⟩ : ∃ x1, x1 = 256 * (256 * h1 b2 + h1 b1) + h1 b0 := ⟨_, rfl⟩
  have s2 := step2 (b0 := h1 b0) (b1 := h1 b1) (b2 := h1 b2) (by omega) (by omega) (by omega)
  rw [← hx1] at s1 s2
  obtain ⟨x2, hx2⟩ : ∃ x2, x2 = 256 * (256 * h2 (h1 b2) + h2 (h1 b1)) + h2 (h1 b0) := ⟨_, rfl⟩
  have s3 := step3 l0 l1 l2 hx2
  rw [← hx2] at s2
  obtain ⟨x3, hx3⟩ : ∃ x3, x3 = 256 * (256 * pcn b2 8 + pcn b1 8) + pcn b0 8 := ⟨_, rfl⟩
  rw [← hx3] at s3
  have t1 : IntKind.u64.wrap (Go.bits .and .u64 ((x : Int) / 2) 6148914691236517205 + Go.bits .and .u64 (x : Int) 6148914691236517205) = (x1 : Int) := by
    rw [show (x : Int) / 2 = ((x / 2 : Nat) : Int) by omega, and_lit_u (a := x / 2) (z := 6148914691236517205) 6148914691236517205 (by omega) (by decide) rfl, and_lit_u (a := x) (z := 6148914691236517205) 6148914691236517205 (by omega) (by decide) rfl, ← Int.natCast_add, s1]
    exact wrapu_nat (by omega)
  have t2 : IntKind.u64.wrap (Go.bits .and .u64 ((x1 : Int) / 4) 3689348814741910323 + Go.bits .and .u64 (x1 : Int) 3689348814741910323) = (x2 : Int) := by
    rw [show (x1 : Int) / 4 = ((x1 / 4 : Nat) : Int) by omega, and_lit_u (a := x1 / 4) (z := 3689348814741910323) 3689348814741910323 (by omega) (by decide) rfl, and_lit_u (a := x1) (z := 3689348814741910323) 3689348814741910323 (by omega) (by decide) rfl, ← Int.natCast_add, s2]
    exact wrapu_nat (by omega)
  have t3 : Go.bits .and .u64 (IntKind.u64.wrap ((x2 : Int) / 16 + (x2 : Int))) 1085102592571150095 = (x3 : Int) := by
    rw [show (x2 : Int) / 16 + (x2 : Int) = ((x2 / 16 + x2 : Nat) : Int) by omega, wrapu_nat (by omega), and_lit_u (a := x2 / 16 + x2) (z := 1085102592571150095) 1085102592571150095 (by omega) (by decide) rfl, s3]
  have t4 : IntKind.u64.wrap ((x3 : Int) + (x3 : Int) / 256) = ((x3 + x3 / 256 : Nat) : Int) := by
    rw [show (x3 : Int) + (x3 : Int) / 256 = ((x3 + x3 / 256 : Nat) : Int) by omega]
    exact wrapu_nat (by omega)
  obtain ⟨x4, hx4⟩ : ∃ x4, x4 = x3 + x3 / 256 := ⟨_, rfl⟩
  rw [← hx4] at t4
  have t5 : IntKind.u64.wrap ((x4 : Int) + (x4 : Int) / 65536) = ((x4 + x4 / 65536 : Nat) : Int) := by
    rw [show (x4 : Int) + (x4 : Int) / 65536 = ((x4 + x4 / 65536 : Nat) : Int) by omega]
    exact wrapu_nat (by omega)
  obtain ⟨x5, hx5⟩ : ∃ x5, x5 = x4 + x4 / 65536 := ⟨_, rfl⟩
  rw [← hx5] at t5
  have t6 : IntKind.u64.wrap ((x5 : Int) + (x5 : Int) / 4294967296) = (x5 : Int) := by
    rw [show (x5 : Int) + (x5 : Int) / 4294967296 = (x5 : Int) by omega]
    exact wrapu_nat (by omega)
  unfold math_bits_OnesCount64.f
  rw [t1, t2, t3, t4, t5, t6]
  rw [w64 (by omega) (by omega)]
  congr 1
  have := bits_and_i (a := x5) (b := 127) (by omega) (by decide)
  refine this.trans ?_
  congr 1
  have p : pcn x 24 = pcn b0 8 + (pcn b1 8 + pcn b2 8) := by
    rw [hx, show 24 = 8 + (8 + 8) from rfl, pcn_split _ _ _ l0, pcn_split _ _ _ l1]
  rw [p, show (127 : Nat) = 2 ^ 7 - 1 from rfl, Nat.and_two_pow_sub_one_eq_mod]
  exact sum3 c0.2.2.2 c1.2.2.2 c2.2.2.2 hx3 hx4 hx5
end Go.Proofs.Ytpeehicekddjhaa.F
end

section
namespace Go.Proofs.Ytpeehicekddjhaa.F
open Go.RowKit Go.Proofs.YtpeehicekddjhaaW.PrintWords Go.Proofs.YtpeehicekddjhaaW.PrintLast Go.Proofs.YtpeehicekddjhaaW.PrintMore
set_option linter.unusedVariables false
set_option linter.unusedSimpArgs false
def cp (w h o : Int) : Int := if mok w h o then ((pcn o.toNat 24 : Nat) : Int) else 0
theorem impl_CountPassages_eq (w h o : Int) : impl_CountPassages.f w h o = some (cp w h o) := by
  unfold impl_CountPassages.f cp math_bits_OnesCount.f
  rw [impl_MazeOk_eq, Option.bind_some]
  by_cases M : mok w h o = true
  · rw [if_pos M, if_pos M]
    have s := mok_small M
    obtain ⟨n, rfl⟩ := Int.eq_ofNat_of_zero_le s.1
    rw [wrapu_nat (by omega), onesCount64 (by omega)]
    rfl
  · rw [if_neg M, if_neg M]
theorem pcn_more {n g d : Nat} (h : n < 2 ^ g) : pcn n (g + d) = pcn n g := by
  unfold pcn
  rw [List.range_add, List.countP_append, List.countP_map]
  have : (List.range d).countP ((fun i => n.testBit i) ∘ (g + ·)) = 0 := by
    rw [List.countP_eq_zero]
    intro i _
    show ¬ n.testBit (g + i) = true
    rw [Nat.testBit_lt_two_pow (Nat.lt_of_lt_of_le h (Nat.pow_le_pow_right (by decide) (by omega)))]
    simp
  omega
theorem pcn_succ (n m : Nat) : pcn n (m + 1) = pcn n m + if n.testBit m then 1 else 0 := by
  unfold pcn
  rw [List.range_succ, List.countP_append, List.countP_singleton]
theorem pcn_le (n m : Nat) : pcn n m ≤ m := by
  unfold pcn
  refine Nat.le_trans List.countP_le_length ?_
  simp
theorem spec_CountPassages_eq {k : Nat} (hk : 60 ≤ k) (w h o : Int) : spec_CountPassages.f k w h o = some (cp w h o) := by
  have b := gaps_bd w h
  refine at_rounds (g := fun k => spec_CountPassages.f k w h o) (fun k => spec_CountPassages.mono w h o k) (k := 2 * (gaps w h).toNat + 2) (by omega) ?_
  show spec_CountPassages.f _ w h o = _
  unfold spec_CountPassages.f cp
  by_cases M : mok w h o = true
  · rw [if_pos M]
    have m := mok_iff.1 M
    have s := mok_small M
    have key : ∀ (d i : Nat), i + d = (gaps w h).toNat → spec_CountPassages.l0 (2 * d + 2) ((pcn o.toNat i : Nat) : Int) (i : Int) w h o = some ((pcn o.toNat (gaps w h).toNat : Nat) : Int) := by
      intro d
      induction d with
      | zero =>
        intro i hi
        simp only [spec_CountPassages.l0, spec_CountPassages.j1, spec_CountGaps_eq, Option.bind_some]
        rw [if_neg (by omega), ← hi]
        simp
      | succ d ih =>
        intro i hi
        rw [show 2 * (d + 1) + 2 = (2 * d + 2) + 1 + 1 by omega]
        obtain ⟨q, hq⟩ : ∃ q, q = 2 * d + 2 := ⟨_, rfl⟩
        rw [← hq] at ih ⊢
        have pl := pcn_le o.toNat i
        simp only [spec_CountPassages.l0, spec_CountPassages.j1, spec_CountGaps_eq, spec_MazeOk_eq, Option.bind_some, M]
        rw [if_pos (by omega)]
        simp only [if_true]
        rw [spec_l03Bit_eq s.1 (by omega) (by omega), Option.bind_some, w64 (x := (i : Int) + 1) (by omega) (by omega), w64 (x := ((pcn o.toNat i : Nat) : Int) + 1) (by omega) (by omega)]
        have := ih (i + 1) (by omega)
        rw [pcn_succ, Int.natCast_add] at this
        by_cases hb : opn o i = true
        · rw [if_pos hb]
          unfold opn at hb
          rw [Int.toNat_natCast] at hb
          rw [if_pos hb] at this
          exact this
        · rw [if_neg hb]
          unfold opn at hb
          rw [Int.toNat_natCast] at hb
          rw [if_neg hb] at this
          exact this
    have := key (gaps w h).toNat 0 (by omega)
    have e : ((2 : Int) ^ (gaps w h).toNat) = ((2 ^ (gaps w h).toNat : Nat) : Int) := by simp
    rw [e] at m
    have more := pcn_more (n := o.toNat) (g := (gaps w h).toNat) (d := 24 - (gaps w h).toNat) (by omega)
    rw [show (gaps w h).toNat + (24 - (gaps w h).toNat) = 24 by omega] at more
    rw [more]
    exact this
  · rw [if_neg M]
    rw [show 2 * (gaps w h).toNat + 2 = 2 * (gaps w h).toNat + 1 + 1 by omega]
    obtain ⟨q, hq⟩ : ∃ q, q = 2 * (gaps w h).toNat := ⟨_, rfl⟩
    rw [← hq]
    simp only [spec_CountPassages.l0, spec_CountPassages.j1, spec_CountGaps_eq, spec_MazeOk_eq, Option.bind_some]
    by_cases g0 : 0 < gaps w h
    · rw [if_pos g0, if_neg M]
    · rw [if_neg g0]
      simp
end Go.Proofs.Ytpeehicekddjhaa.F
end

section
namespace Go.Proofs.Ytpeehicekddjhaa.F
open Go.RowKit Go.Proofs.YtpeehicekddjhaaW.PrintWords Go.Proofs.YtpeehicekddjhaaW.PrintLast Go.Proofs.YtpeehicekddjhaaW.PrintMore
set_option linter.unusedVariables false
set_option linter.unusedSimpArgs false
def ends (w h g : Int) : Int × Int := (spec_EndsOf.f w h g).getD (0, 0)
def four : List Int := [1, 2, 3, 4]
def gaps24 : List Int := [0, 1, 2, 3, 4, 5, 6, 7, 8, 9, 10, 11, 12, 13, 14, 15, 16, 17, 18, 19, 20, 21, 22, 23]
theorem mem_four {w h : Int} (G : gok w h = true) : w ∈ four ∧ h ∈ four := by
  have := gok_iff.1 G
  constructor <;> simp [four] <;> omega
theorem mem_gaps24 {w h g : Int} (H : igap w h g = true) : g ∈ gaps24 := by
  have := gaps_small H
  simp [gaps24]; omega
theorem countP_one {α : Type} [DecidableEq α] {p q : α → Bool} {x : α} (hp : p x = false) (hq : q x = true) (he : ∀ y, y ≠ x → p y = q y) : ∀ {l : List α}, l.Nodup → x ∈ l → l.countP q = l.countP p + 1
  | [], _, h => absurd h (by simp)
  | y :: l, hn, h => by
    rw [List.nodup_cons] at hn
    rw [List.countP_cons, List.countP_cons]
    by_cases e : y = x
    · subst e
      have : l.countP q = l.countP p := by
        rw [List.countP_eq_length_filter, List.countP_eq_length_filter]
        congr 1
        refine List.filter_congr fun z hz => (he z ?_).symm
        rintro rfl
        exact hn.1 hz
      rw [hp, hq, this]
      simp
    · have hx : x ∈ l := by
        rcases List.mem_cons.1 h with h | h
        · exact absurd h.symm e
        · exact h
      rw [countP_one hp hq he hn.2 hx, he y e]
      omega
theorem pcn_setb {o g : Int} (h0 : 0 ≤ g) (h1 : g < 24) (ho : opn o g = false) : pcn (setb o g true).toNat 24 = pcn o.toNat 24 + 1 := by
  unfold pcn
  refine countP_one (x := g.toNat) ?_ ?_ (fun y hy => ?_) List.nodup_range (by rw [List.mem_range]; omega)
  · exact ho
  · have := opn_setb (o := o) true h0 h0
    rw [if_pos rfl] at this
    exact this
  · have := opn_setb (o := o) (i := (y : Int)) true h0 (by omega)
    rw [if_neg (by omega)] at this
    unfold opn at this
    simp only [Int.toNat_natCast] at this
    exact this.symm
end Go.Proofs.Ytpeehicekddjhaa.F
end

section
namespace Go.Proofs.Ytpeehicekddjhaa.F
open Go.RowKit Go.Proofs.YtpeehicekddjhaaW.PrintWords Go.Proofs.YtpeehicekddjhaaW.PrintLast Go.Proofs.YtpeehicekddjhaaW.PrintMore
set_option linter.unusedVariables false
set_option linter.unusedSimpArgs false
theorem cp_up {w h o g : Int} (M : mok w h o = true) (hg : igap w h g = true) (ho : opn o g = false) : cp w h (flip o g) = cp w h o + 1 := by
  have gs := gaps_small hg
  have ms := mok_small M
  unfold cp
  rw [if_pos M, if_pos (mok_flip M hg)]
  have := pcn_setb (o := o) gs.1 (by omega) ho
  have e : setb o g true = flip o g := by rw [← setb_flip ms.1 gs.1, ho]; rfl
  rw [e] at this
  omega
theorem cp_down {w h o g : Int} (M : mok w h o = true) (hg : igap w h g = true) (ho : opn o g = true) : cp w h (flip o g) + 1 = cp w h o := by
  have gs := gaps_small hg
  have M' := mok_flip M hg
  have h1 : opn (flip o g) g = false := by rw [opn_flip gs.1 gs.1, if_pos rfl, ho]; rfl
  have := cp_up M' hg h1
  have e : flip (flip o g) g = o := eq_of_opn (mok_small (mok_flip M' hg)).1 (mok_small M).1 fun i hi => by
    rw [opn_flip gs.1 hi, opn_flip gs.1 hi]
    split
    · simp
    · rfl
  rw [e] at this
  omega
end Go.Proofs.Ytpeehicekddjhaa.F
end

section
namespace Go.Proofs.Ytpeehicekddjhaa.F
open Go.RowKit Go.Proofs.YtpeehicekddjhaaW.PrintWords Go.Proofs.YtpeehicekddjhaaW.PrintLast Go.Proofs.YtpeehicekddjhaaW.PrintMore
set_option linter.unusedVariables false
set_option linter.unusedSimpArgs false
theorem bfs_small {nx : Int → Int → Int} {N : Nat} {a : Int} (S : Steps nx N) : ∀ (f i : Nat) (D Q : List Int), BfsAt nx N a i D Q → Small (D, Q) → ∀ x, rd (bfs nx f i (D, Q)) x < N
  | 0, i, D, Q, B, V, x => by
    have := B.cnt
    have := V x
    simp only [bfs] at *
    omega
  | f + 1, i, D, Q, B, V, x => by
    simp only [bfs]
    by_cases hi : i < Q.length
    · rw [if_pos hi]
      have M : Mid nx N a i (rd Q i) (D, Q) := ⟨B, V, hi, rfl⟩
      have M4 := mid1 S (mid1 S (mid1 S (mid1 S M 0) 1) 2) 3
      have e : bfsD nx (rd Q i) [0, 1, 2, 3] (D, Q) = bfs1 nx (rd Q i) 3 (bfs1 nx (rd Q i) 2 (bfs1 nx (rd Q i) 1 (bfs1 nx (rd Q i) 0 (D, Q)))) := by rw [bfsD_cons, bfsD_cons, bfsD_cons, bfsD_cons]; rfl
      have V4 := M4.small
      rw [← e] at V4
      generalize hs : bfsD nx (rd Q i) [0, 1, 2, 3] (D, Q) = s at V4
      obtain ⟨D', Q'⟩ := s
      exact bfs_small S f (i + 1) D' Q' (bfs_next S B hi hs) V4 x
    · rw [if_neg hi]
      have := B.cnt
      have := V x
      simp only at *
      omega
theorem dst_lt {w h o a b : Int} (ha : icell w h a = true) : dst w h o a b < 16 := by
  have ca := icell_iff.1 ha
  have hc := cells_bd w h
  have hN : ((stN w h : Nat) : Int) = cells w h := by unfold stN; omega
  have := bfs_small (steps_st w h o) (stN w h + 1) 0 _ _ (bfs_init ca.1 (by omega)) (small_init ca.1 (by omega)) b
  have e : dst w h o a b = rd (bfs (st w h o) (stN w h + 1) 0 ((List.replicate (stN w h) (-1)).set a.toNat 0, [a])) b := rfl
  omega
theorem dst_near {w h o g c d : Int} (hg : icell w h g = true) (hd : 0 ≤ st w h o c d) (H : 0 ≤ dst w h o g c) : 0 ≤ dst w h o g (st w h o c d) ∧ dst w h o g c ≤ dst w h o g (st w h o c d) + 1 := by
  have cg := icell_iff.1 hg
  obtain ⟨_, f2, f3, _, _⟩ := st_facts hd
  have cc := icell_iff.1 f2
  have cs := icell_iff.1 f3
  have hN : ((stN w h : Nat) : Int) = cells w h := by have := cells_bd w h; unfold stN; omega
  obtain ⟨_, _, p⟩ := dists_spec (steps_st w h o) (a := g) cg.1 (by omega)
  unfold dst at H ⊢
  rcases p c cc.1 (by omega) with ⟨e, _⟩ | ⟨g1, w1, m1⟩
  · omega
  · rcases p (st w h o c d) cs.1 (by omega) with ⟨e, n2⟩ | ⟨g2, w2, m2⟩
    · exact absurd (Walk.snoc w1 hd) (n2 _)
    · obtain ⟨q, hq⟩ := (sym_st w h o).back c d hd
      have := Walk.snoc (d := q) w2 (by rw [hq]; exact cc.1)
      rw [hq] at this
      have := m1 _ this
      exact ⟨g2, by omega⟩
theorem dst_zero {w h o g c : Int} (hg : icell w h g = true) (hc : icell w h c = true) : dst w h o g c = 0 ↔ c = g := by
  have cg := icell_iff.1 hg
  have cc := icell_iff.1 hc
  have hN : ((stN w h : Nat) : Int) = cells w h := by have := cells_bd w h; unfold stN; omega
  obtain ⟨_, p0, p⟩ := dists_spec (steps_st w h o) (a := g) cg.1 (by omega)
  constructor
  · intro H
    unfold dst at H
    rcases p c cc.1 (by omega) with ⟨e, _⟩ | ⟨g1, w1, m1⟩
    · omega
    · rw [H] at w1
      cases w1
      rfl
  · rintro rfl; exact p0
theorem dst_down {w h o g c : Int} {n : Nat} (hg : icell w h g = true) (hc : icell w h c = true) (H : dst w h o g c = (n : Int) + 1) : ∃ d, 0 ≤ d ∧ d ≤ 3 ∧ 0 ≤ st w h o c d ∧ dst w h o g (st w h o c d) < dst w h o g c := by
  have cg := icell_iff.1 hg
  have cc := icell_iff.1 hc
  have hN : ((stN w h : Nat) : Int) = cells w h := by have := cells_bd w h; unfold stN; omega
  obtain ⟨_, _, p⟩ := dists_spec (steps_st w h o) (a := g) cg.1 (by omega)
  have H0 := H
  unfold dst at H
  rcases p c cc.1 (by omega) with ⟨e, _⟩ | ⟨g1, w1, m1⟩
  · omega
  · rw [H, show ((n : Int) + 1).toNat = n + 1 by omega] at w1
    cases w1 with
    | @snoc _ b e hw he =>
      obtain ⟨q, hq⟩ := (sym_st w h o).back b e he
      obtain ⟨_, f2, _, _, _⟩ := st_facts he
      have cb := icell_iff.1 f2
      have hs : 0 ≤ st w h o (st w h o b e) q := by rw [hq]; exact cb.1
      obtain ⟨_, _, _, d0, d3⟩ := st_facts hs
      refine ⟨q, d0, d3, hs, ?_⟩
      rw [hq, H0]
      rcases p b cb.1 (by omega) with ⟨e2, n2⟩ | ⟨g2, w2, m2⟩
      · exact absurd hw (n2 _)
      · have := m2 _ hw
        unfold dst
        omega
def near (w h o g c d : Int) : Bool := decide (0 ≤ st w h o c d) && decide (dst w h o g (st w h o c d) < dst w h o g c)
def fdir (w h o g c : Int) : Int := (([0, 1, 2, 3] : List Int).find? (near w h o g c)).getD 0
def wayM (w h o g : Int) : Nat → Int → List Int
  | 0, _ => []
  | n + 1, c => fdir w h o g c :: wayM w h o g n (st w h o c (fdir w h o g c))
theorem fdir_some {w h o g c : Int} {n : Nat} (hg : icell w h g = true) (hc : icell w h c = true) (H : dst w h o g c = (n : Int) + 1) :
    ([0, 1, 2, 3] : List Int).find? (near w h o g c) = some (fdir w h o g c) ∧ 0 ≤ st w h o c (fdir w h o g c) ∧ dst w h o g (st w h o c (fdir w h o g c)) = n := by
  obtain ⟨d, d0, d3, hd, hlt⟩ := dst_down hg hc H
  have hn : near w h o g c d = true := by unfold near; rw [decide_eq_true hd, decide_eq_true hlt]; rfl
  cases hf : ([0, 1, 2, 3] : List Int).find? (near w h o g c) with
  | none =>
    have := List.find?_eq_none.1 hf d (by have : d = 0 ∨ d = 1 ∨ d = 2 ∨ d = 3 := by omega
                                          rcases this with rfl | rfl | rfl | rfl <;> simp)
    exact absurd hn this
  | some e =>
    have he : fdir w h o g c = e := by unfold fdir; rw [hf]; rfl
    have hp := List.find?_some hf
    rw [he]
    unfold near at hp
    rw [Bool.and_eq_true, decide_eq_true_eq, decide_eq_true_eq] at hp
    obtain ⟨q1, q2⟩ := dst_near hg hp.1 (by omega)
    exact ⟨rfl, hp.1, by omega⟩
theorem wayM_length (w h o g : Int) : ∀ n c, (wayM w h o g n c).length = n
  | 0, c => rfl
  | n + 1, c => by simp [wayM, wayM_length w h o g n]
theorem drop_rd {l : List Int} {i : Nat} (hi : i < l.length) : l.drop i = rd l (i : Int) :: l.drop (i + 1) := by
  rw [List.drop_eq_getElem_cons hi]
  congr 1
  rw [rd_nat, List.getD_eq_getElem?_getD, List.getElem?_eq_getElem hi]
  rfl
theorem impl_way1 {w h o g c : Int} (hg : icell w h g = true) (hc : icell w h c = true) {W : List Int} (hW : W.length ≤ 4) (hd : ∀ d ∈ W, 0 ≤ st w h o c d) {acc : List Int} (ha : acc.length ≤ 1000) {k : Nat} (hk : 3 ≤ k) {d0 : Int} {r : List Int × Bool}
    (hr : impl_WayBetween.l0 k g (dists (st w h o) (stN w h) g) (acc ++ [d0]) (st w h o c d0) w h o = some r) : ∀ (m j : Nat), j + m = W.length → (W.drop j).find? (near w h o g c) = some d0 →
    impl_WayBetween.l1 (k + m) g (dists (st w h o) (stN w h) g) acc c W (W.length : Int) (j : Int) w h o = some r
  | 0, j, hj, hf => by rw [List.drop_of_length_le (by omega)] at hf; exact absurd hf (by simp)
  | m + 1, j, hj, hf => by
    have hjl : j < W.length := by omega
    have hmem : rd W (j : Int) ∈ W := rd_memI (by omega) (by omega)
    have h0 := hd _ hmem
    obtain ⟨_, _, f3, _, _⟩ := st_facts h0
    have cs := icell_iff.1 f3
    have cc := icell_iff.1 hc
    rw [drop_rd hjl] at hf
    rw [show k + (m + 1) = (k + m) + 1 by omega]
    simp only [impl_WayBetween.l1]
    rw [if_pos (by omega), if_pos (by omega), if_pos (by omega), impl_Step_eq (by omega), Option.bind_some, if_pos h0, if_pos (by rw [dists_length hg]; exact cs.2), if_pos cc.1, if_pos (by rw [dists_length hg]; exact cc.2)]
    show (if dst w h o g (st w h o c (rd W (j : Int))) < dst w h o g c then _ else _) = _
    by_cases hlt : dst w h o g (st w h o c (rd W (j : Int))) < dst w h o g c
    · have hn : near w h o g c (rd W (j : Int)) = true := by unfold near; rw [decide_eq_true h0, decide_eq_true hlt]; rfl
      rw [List.find?_cons_of_pos hn] at hf
      obtain rfl := Option.some.inj hf
      rw [if_pos hlt, if_pos (by omega)]
      exact at_rounds (g := fun k => impl_WayBetween.l0 k g (dists (st w h o) (stN w h) g) (acc ++ [rd W (j : Int)]) (st w h o c (rd W (j : Int))) w h o) (fun k => (impl_WayBetween.mono_l k).1 _ _ _ _ _ _ _) (k := k) (by omega) hr
    · have hn : ¬ near w h o g c (rd W (j : Int)) = true := by unfold near; rw [decide_eq_false hlt]; simp
      rw [List.find?_cons_of_neg hn] at hf
      rw [if_neg hlt, w64 (x := (j : Int) + 1) (by omega) (by omega)]
      have := impl_way1 hg hc hW hd ha hk hr m (j + 1) (by omega) hf
      rwa [Int.natCast_add] at this
theorem impl_way {w h o g : Int} (hg : icell w h g = true) : ∀ (n k : Nat) (acc : List Int) (c : Int), icell w h c = true → dst w h o g c = n → acc.length + n ≤ 1000 → 6 * n + 20 ≤ k → impl_WayBetween.l0 k g (dists (st w h o) (stN w h) g) acc c w h o = some (acc ++ wayM w h o g n c, true)
  | 0, k, acc, c, hc, hn, ha, hk => by
    obtain ⟨m, rfl⟩ : ∃ m, k = m + 1 := ⟨k - 1, by omega⟩
    simp only [impl_WayBetween.l0, wayM, List.append_nil]
    rw [if_pos ((dst_zero hg hc).1 hn)]
  | n + 1, k, acc, c, hc, hn, ha, hk => by
    obtain ⟨m, rfl⟩ : ∃ m, k = m + 1 := ⟨k - 1, by omega⟩
    have hne : ¬ c = g := fun e => by have := (dst_zero (o := o) hg hc).2 e; omega
    obtain ⟨e1, e2, e3⟩ := fdir_some (o := o) (n := n) hg hc (by omega)
    obtain ⟨_, _, f3, _, _⟩ := st_facts e2
    have ih := impl_way hg n (m - 4) (acc ++ [fdir w h o g c]) (st w h o c (fdir w h o g c)) f3 e3 (by simp only [List.length_append, List.length_singleton]; omega) (by omega)
    simp only [impl_WayBetween.l0]
    rw [if_neg hne, impl_WaysFrom_eq (by omega), Option.bind_some]
    have hw := ways_length w h o c
    have hf : ((ways w h o c).drop 0).find? (near w h o g c) = some (fdir w h o g c) := by
      rw [List.drop_zero, ← e1]
      unfold ways
      rw [List.find?_filter]
      congr 1
      funext d
      unfold near
      cases decide (0 ≤ st w h o c d) <;> simp
    have := impl_way1 hg hc hw (fun d hd => ways_mem hd) (by omega : acc.length ≤ 1000) (by omega : 3 ≤ m - 4) ih (ways w h o c).length 0 (by omega) hf
    have r := at_rounds (g := fun k => impl_WayBetween.l1 k g (dists (st w h o) (stN w h) g) acc c (ways w h o c) ((ways w h o c).length : Int) (0 : Int) w h o) (fun k => (impl_WayBetween.mono_l k).2 _ _ _ _ _ _ _ _ _ _) (k := m - 4 + (ways w h o c).length) (k' := m) (by omega) this
    rw [show wayM w h o g (n + 1) c = fdir w h o g c :: wayM w h o g n (st w h o c (fdir w h o g c)) from rfl]
    rw [List.append_assoc] at r
    exact r
def wayOf (w h o a b : Int) : List Int × Bool := if mok w h o = true ∧ icell w h a = true ∧ icell w h b = true ∧ 0 ≤ dst w h o b a then (wayM w h o b (dst w h o b a).toNat a, true) else ([], false)
theorem impl_WayBetween_eq {w h o : Int} {k : Nat} (hk : 300 ≤ k) (a b : Int) : impl_WayBetween.f k w h o a b = some (wayOf w h o a b) := by
  unfold impl_WayBetween.f wayOf
  rw [impl_DistanceOf_eq (by omega), Option.bind_some]
  by_cases H : mok w h o = true ∧ icell w h a = true ∧ icell w h b = true
  · obtain ⟨h1, h2, h3⟩ := H
    rw [if_pos (show mok w h o = true ∧ icell w h a = true ∧ icell w h b = true from ⟨h1, h2, h3⟩), dst_sym h2 h3]
    by_cases h4 : 0 ≤ dst w h o b a
    · rw [if_neg (by omega), if_pos ⟨h1, h2, h3, h4⟩, impl_distances_eq (by omega) h3, Option.bind_some]
      have hlt := dst_lt (o := o) (b := a) h3
      have := impl_way (o := o) h3 (dst w h o b a).toNat k [] a h2 (by omega) (by simp; omega) (by omega)
      simpa using this
    · rw [if_pos (by omega), if_neg (fun q => h4 q.2.2.2)]
  · rw [if_neg H, if_pos (by decide), if_neg (fun q => H ⟨q.1, q.2.1, q.2.2.1⟩)]
end Go.Proofs.Ytpeehicekddjhaa.F
end

section
namespace Go.Proofs.Ytpeehicekddjhaa.F
open Go.RowKit Go.Proofs.YtpeehicekddjhaaW.PrintWords Go.Proofs.YtpeehicekddjhaaW.PrintLast Go.Proofs.YtpeehicekddjhaaW.PrintMore
set_option linter.unusedVariables false
set_option linter.unusedSimpArgs false
theorem setb_false {o g : Int} (ho : 0 ≤ o) (hg : 0 ≤ g) (H : opn o g = false) : setb o g false = o := by
  refine eq_of_opn (by unfold setb; rw [if_neg (by decide)]; omega) ho fun i hi => ?_
  rw [opn_setb _ hg hi]
  by_cases e : i = g
  · rw [if_pos e, e, H]
  · rw [if_neg e]
theorem spec_SetGap_false {w h o g : Int} (M : mok w h o = true) (hg : igap w h g = true) {k : Nat} (hk : 1 ≤ k) : ∃ b, spec_SetGap.f k w h o g false = some (w, h, setb o g false, b) := by
  obtain ⟨m, rfl⟩ : ∃ m, k = m + 1 := ⟨k - 1, by omega⟩
  have s := mok_small M
  have gb := gaps_small hg
  unfold spec_SetGap.f
  rw [spec_MazeOk_eq, Option.bind_some, if_pos M, spec_CountGaps_eq, Option.bind_some, spec_l01In_eq, Option.bind_some]
  have e : decide (0 ≤ g ∧ g ≤ wrap64 (gaps w h - 1)) = true := by
    have a := igap_iff.1 hg
    have b := gaps_bd w h
    rw [w64 (by omega) (by omega)]
    simp; omega
  rw [e]
  simp only [spec_SetGap.j0, Bool.not_true, Bool.false_eq_true, if_false]
  rw [spec_l03Bit_eq s.1 (by omega) gb.1, Option.bind_some]
  cases ob : opn o g with
  | true =>
    rw [if_pos (by decide), if_pos gb.1, xor_shl_eq s.1 (by omega) gb.1 (by omega)]
    refine ⟨true, ?_⟩
    rw [← setb_flip s.1 gb.1, ob]
    rfl
  | false =>
    rw [if_neg (by decide), setb_false s.1 gb.1 ob]
    exact ⟨true, rfl⟩
end Go.Proofs.Ytpeehicekddjhaa.F
end

section
namespace Go.Proofs.Ytpeehicekddjhaa.F
open Go.RowKit Go.Proofs.YtpeehicekddjhaaW.PrintWords Go.Proofs.YtpeehicekddjhaaW.PrintLast Go.Proofs.YtpeehicekddjhaaW.PrintMore
set_option linter.unusedVariables false
set_option linter.unusedSimpArgs false
theorem nodup_le' : ∀ {l L : List Int}, l.Nodup → (∀ x ∈ l, x ∈ L) → l.length ≤ L.length
  | [], _, _, _ => Nat.zero_le _
  | x :: l, L, hn, hs => by
    obtain ⟨h1, h2⟩ := List.nodup_cons.1 hn
    have hx : x ∈ L := hs x (by simp)
    have := nodup_le' (l := l) (L := L.erase x) h2 (fun y hy => (List.mem_erase_of_ne (fun e => h1 (by rw [← e]; exact hy))).2 (hs y (by simp [hy])))
    rw [List.length_erase_of_mem hx] at this
    have := List.length_pos_of_mem hx
    simp only [List.length_cons]
    omega
theorem icell_16 {w h c : Int} (H : icell w h c = true) : 0 ≤ c ∧ c < 16 := by
  have a := icell_iff.1 H
  have b := cells_bd w h
  omega
end Go.Proofs.Ytpeehicekddjhaa.F
end

section
namespace Go.Proofs.Ytpeehicekddjhaa.F
open Go.RowKit Go.Proofs.YtpeehicekddjhaaW.PrintWords Go.Proofs.YtpeehicekddjhaaW.PrintLast Go.Proofs.YtpeehicekddjhaaW.PrintMore
set_option linter.unusedVariables false
set_option linter.unusedSimpArgs false
theorem en_all : ∀ w ∈ four, ∀ h ∈ four, ∀ c ∈ cells16, ∀ d ∈ ([0, 1, 2, 3] : List Int), 0 ≤ nb w h c d → ends w h (gp w h c d) = (min c (nb w h c d), max c (nb w h c d)) := by
  decide +kernel
theorem en {w h c d : Int} (H : 0 ≤ nb w h c d) : ends w h (gp w h c d) = (min c (nb w h c d), max c (nb w h c d)) := by
  obtain ⟨h1, h2, h3, h4⟩ := nb_facts H
  have G := icell_gok h1
  have c16 := icell_16 h1
  refine en_all w (mem_four G).1 h (mem_four G).2 c (by simp [cells16]; omega) d (by simp; omega) H
def cut (o g : Int) : Int := setb o g false
theorem mok_cut {w h o g : Int} (M : mok w h o = true) (hg : igap w h g = true) : mok w h (cut o g) = true := mok_setb _ M hg
theorem opn_cut {o g i : Int} (hg : 0 ≤ g) (hi : 0 ≤ i) : opn (cut o g) i = if i = g then false else opn o i := opn_setb _ hg hi
theorem cp_cut {w h o g : Int} (M : mok w h o = true) (hg : igap w h g = true) (ho : opn o g = true) : cp w h (cut o g) + 1 = cp w h o := by
  have e : cut o g = flip o g := by
    have := setb_flip (mok_small M).1 (gaps_small hg).1
    rw [ho] at this; exact this
  rw [e]
  exact cp_down M hg ho
theorem st_cut {w h o g c d : Int} (hg : igap w h g = true) (H : 0 ≤ st w h o c d) (hne : gp w h c d ≠ g) : st w h (cut o g) c d = st w h o c d := by
  obtain ⟨e, p⟩ := st_nb H
  rw [e]
  unfold psg at p
  simp only [Bool.and_eq_true] at p
  have g0 := (gaps_small hg).1
  have g1 := (gaps_small p.1.2).1
  have : psg w h (cut o g) (gp w h c d) = true := by
    unfold psg
    rw [mok_cut p.1.1 hg, p.1.2, opn_cut g0 g1, if_neg hne, p.2]; rfl
  unfold st
  rw [if_pos this]
theorem lnk_cut {w h o g c d : Int} (hg : igap w h g = true) (H : 0 ≤ st w h o c d) (hne : gp w h c d ≠ g) : lnk w h (cut o g) c (st w h o c d) := by
  have e := st_cut hg H hne
  have := lnk_step (w := w) (h := h) (o := cut o g) (a := c) (d := d) (by rw [e]; exact H)
  rwa [e] at this
theorem st_ends {w h o c d : Int} (H : 0 ≤ st w h o c d) : ends w h (gp w h c d) = (min c (st w h o c d), max c (st w h o c d)) := by
  obtain ⟨e, p⟩ := st_nb H
  rw [e] at H ⊢
  exact en H
theorem lnk_round {w h o g a b : Int} (hg : igap w h g = true) (L : lnk w h (cut o g) (ends w h g).1 (ends w h g).2) (H : lnk w h o a b) : lnk w h (cut o g) a b := by
  obtain ⟨n, H⟩ := H
  induction H with
  | nil => exact lnk_refl _ _ _ _
  | @snoc n b d hw hd ih =>
    refine lnk_trans ih ?_
    by_cases e : gp w h b d = g
    · have he := st_ends hd
      rw [e] at he
      rw [he] at L
      simp only at L
      rcases Int.le_total b (st w h o b d) with q | q
      · rw [Int.min_eq_left q, Int.max_eq_right q] at L; exact L
      · rw [Int.min_eq_right q, Int.max_eq_left q] at L; exact lnk_symm L
    · exact lnk_cut hg hd e
def pg (w h o c : Int) : Int := gp w h c (fdir w h o 0 c)
theorem pg_spec {w h o c : Int} (C : conn w h o = true) (hc : icell w h c = true) (h0 : c ≠ 0) : igap w h (pg w h o c) = true ∧ opn o (pg w h o c) = true ∧ ∃ p, ends w h (pg w h o c) = (min c p, max c p) ∧ dst w h o 0 c = dst w h o 0 p + 1 := by
  obtain ⟨M, hl⟩ := conn_iff.1 C
  have G := (mok_iff.1 M).1
  have hz := icell_zero G
  have d0 := (dst_lnk hz hc).2 (hl c hc)
  have dz : dst w h o 0 c ≠ 0 := fun e => h0 ((dst_zero hz hc).1 e)
  obtain ⟨n, hn⟩ : ∃ n : Nat, dst w h o 0 c = (n : Int) + 1 := ⟨(dst w h o 0 c - 1).toNat, by omega⟩
  obtain ⟨_, f2, f3⟩ := fdir_some hz hc hn
  obtain ⟨e, p⟩ := st_nb f2
  unfold psg at p
  simp only [Bool.and_eq_true] at p
  exact ⟨p.1.2, p.2, _, st_ends f2, by rw [hn, f3]⟩
theorem pg_inj {w h o c c' : Int} (C : conn w h o = true) (hc : icell w h c = true) (h0 : c ≠ 0) (hc' : icell w h c' = true) (h0' : c' ≠ 0) (e : pg w h o c = pg w h o c') : c = c' := by
  obtain ⟨_, _, p, e1, d1⟩ := pg_spec C hc h0
  obtain ⟨_, _, p', e2, d2⟩ := pg_spec C hc' h0'
  rw [e, e2] at e1
  injection e1 with q1 q2
  by_cases h : c = c'
  · exact h
  · have a1 : c = p' := by omega
    have a2 : c' = p := by omega
    rw [← a2] at d1
    rw [← a1] at d2
    omega
theorem conn_edges {w h o : Int} (C : conn w h o = true) : cells w h - 1 ≤ cp w h o := by
  obtain ⟨M, hl⟩ := conn_iff.1 C
  have G := (mok_iff.1 M).1
  have c1 := cells_pos G
  have hN := stN_int w h
  have key := nodup_le' (l := (List.range' 1 (stN w h - 1)).map fun i : Nat => pg w h o (i : Int)) (L := ((List.range 24).filter fun i => o.toNat.testBit i).map fun i : Nat => (i : Int)) (by
    rw [List.nodup_iff_pairwise_ne, List.pairwise_map]
    refine List.Pairwise.imp_of_mem (fun {a b} ha hb hab => ?_) (List.pairwise_lt_range' (s := 1) (n := stN w h - 1))
    intro e
    have ha := List.mem_range'_1.1 ha
    have hb := List.mem_range'_1.1 hb
    have := pg_inj C (icell_iff.2 (by omega)) (by omega) (icell_iff.2 (by omega)) (by omega) e
    omega) (fun x hx => by
    obtain ⟨i, hi, rfl⟩ := List.mem_map.1 hx
    have hi := List.mem_range'_1.1 hi
    obtain ⟨a, b, _⟩ := pg_spec C (c := (i : Int)) (icell_iff.2 (by omega)) (by omega)
    have gs := gaps_small a
    refine List.mem_map.2 ⟨(pg w h o (i : Int)).toNat, List.mem_filter.2 ⟨List.mem_range.2 (by omega), b⟩, by omega⟩)
  rw [List.length_map, List.length_map, List.length_range', ← List.countP_eq_length_filter] at key
  unfold cp
  rw [if_pos M]
  unfold pcn
  omega
def prf (w h o : Int) : Bool := conn w h o && decide (cp w h o = cells w h - 1)
theorem impl_IsPerfect_eq {k : Nat} (hk : 20 ≤ k) (w h o : Int) : impl_IsPerfect.f k w h o = some (prf w h o) := by
  unfold impl_IsPerfect.f prf
  have := cells_bd w h
  rw [impl_IsConnected_eq hk, Option.bind_some]
  cases conn w h o with
  | false => rfl
  | true =>
    rw [if_pos rfl, impl_CountPassages_eq, Option.bind_some, impl_CountCells_eq, Option.bind_some, w64 (by omega) (by omega)]
    congr 1
theorem spec_IsPerfect_eq {k : Nat} (hk : 300 ≤ k) (w h o : Int) : spec_IsPerfect.f k w h o = some (prf w h o) := by
  unfold spec_IsPerfect.f prf
  have := cells_bd w h
  rw [spec_IsConnected_eq hk, Option.bind_some]
  cases conn w h o with
  | false => rfl
  | true =>
    rw [if_pos rfl, spec_CountPassages_eq (by omega), Option.bind_some, spec_CountCells_eq, Option.bind_some, w64 (by omega) (by omega)]
    congr 1
theorem prf_conn {w h o : Int} (P : prf w h o = true) : conn w h o = true := by unfold prf at P; simp only [Bool.and_eq_true] at P; exact P.1
theorem tree_cut {w h o g : Int} (P : prf w h o = true) (hg : igap w h g = true) (ho : opn o g = true) : ¬ lnk w h (cut o g) (ends w h g).1 (ends w h g).2 := by
  intro L
  have C := prf_conn P
  obtain ⟨M, hl⟩ := conn_iff.1 C
  have C' : conn w h (cut o g) = true := conn_iff.2 ⟨mok_cut M hg, fun x hx => lnk_round hg L (hl x hx)⟩
  have h1 := conn_edges C'
  have h2 := cp_cut M hg ho
  unfold prf at P
  simp only [Bool.and_eq_true, decide_eq_true_eq] at P
  omega
def gpsW (w h o : Int) : List Int → Int → List Int
  | [], _ => []
  | d :: W, c => gp w h c d :: gpsW w h o W (st w h o c d)
theorem gpsW_length (w h o : Int) : ∀ (W : List Int) (c : Int), (gpsW w h o W c).length = W.length
  | [], _ => rfl
  | d :: W, c => by simp [gpsW, gpsW_length w h o W]
theorem way_gap {w h o b : Int} (hb : icell w h b = true) : ∀ (n : Nat) (c : Int), icell w h c = true → dst w h o b c = n → ∀ x ∈ gpsW w h o (wayM w h o b n c) c, igap w h x = true ∧ opn o x = true ∧ dst w h o b (ends w h x).1 ≤ n ∧ dst w h o b (ends w h x).2 ≤ n
  | 0, c, _, _, x, hx => by simp [wayM, gpsW] at hx
  | n + 1, c, hc, hd, x, hx => by
    obtain ⟨_, f2, f3⟩ := fdir_some (n := n) hb hc (by rw [hd]; omega)
    simp only [wayM, gpsW, List.mem_cons] at hx
    rcases hx with rfl | hx
    · obtain ⟨e, p⟩ := st_nb f2
      unfold psg at p
      simp only [Bool.and_eq_true] at p
      refine ⟨p.1.2, p.2, ?_⟩
      rw [st_ends f2]
      simp only
      rcases Int.le_total c (st w h o c (fdir w h o b c)) with q | q
      · rw [Int.min_eq_left q, Int.max_eq_right q]; omega
      · rw [Int.min_eq_right q, Int.max_eq_left q]; omega
    · obtain ⟨a1, a2, a3, a4⟩ := way_gap hb n _ (st_facts f2).2.2.1 f3 x hx
      exact ⟨a1, a2, by omega, by omega⟩
theorem way_off {w h o b g : Int} (hb : icell w h b = true) (hg : igap w h g = true) : ∀ (n : Nat) (c : Int), icell w h c = true → dst w h o b c = n → g ∉ gpsW w h o (wayM w h o b n c) c → lnk w h (cut o g) c b
  | 0, c, hc, hd, _ => by
    have := (dst_zero (o := o) hb hc).1 (by rw [hd]; rfl)
    rw [this]; exact lnk_refl _ _ _ _
  | n + 1, c, hc, hd, hx => by
    obtain ⟨_, f2, f3⟩ := fdir_some (n := n) hb hc (by rw [hd]; omega)
    simp only [wayM, gpsW, List.mem_cons, not_or] at hx
    exact lnk_trans (lnk_cut hg f2 (fun e => hx.1 e.symm)) (way_off hb hg n _ (st_facts f2).2.2.1 f3 hx.2)
theorem way_on {w h o b g : Int} (hb : icell w h b = true) (hg : igap w h g = true) : ∀ (n : Nat) (c : Int), icell w h c = true → dst w h o b c = n → g ∈ gpsW w h o (wayM w h o b n c) c → ∃ e f, ends w h g = (min e f, max e f) ∧ lnk w h (cut o g) c e ∧ lnk w h (cut o g) f b
  | 0, c, hc, hd, hx => by simp [wayM, gpsW] at hx
  | n + 1, c, hc, hd, hx => by
    obtain ⟨_, f2, f3⟩ := fdir_some (n := n) hb hc (by rw [hd]; omega)
    have hp := (st_facts f2).2.2.1
    simp only [wayM, gpsW, List.mem_cons] at hx
    by_cases e : gp w h c (fdir w h o b c) = g
    · refine ⟨c, _, by rw [← e]; exact st_ends f2, lnk_refl _ _ _ _, way_off hb hg n _ hp f3 fun hm => ?_⟩
      obtain ⟨_, _, a3, a4⟩ := way_gap hb n _ hp f3 g hm
      rw [← e, st_ends f2] at a3 a4
      simp only at a3 a4
      rcases Int.le_total c (st w h o c (fdir w h o b c)) with q | q
      · rw [Int.min_eq_left q] at a3; omega
      · rw [Int.max_eq_left q] at a4; omega
    · rcases hx with hx | hx
      · exact absurd hx.symm e
      · obtain ⟨p, f, h1, h2, h3⟩ := way_on hb hg n _ hp f3 hx
        exact ⟨p, f, h1, lnk_trans (lnk_cut hg f2 e) h2, h3⟩
def gpsOn (w h o a b : Int) : List Int := gpsW w h o (wayOf w h o a b).1 a
theorem gpsOn_len {w h o a b : Int} : (gpsOn w h o a b).length ≤ 16 := by
  unfold gpsOn
  rw [gpsW_length]
  unfold wayOf
  split
  · rename_i H
    rw [wayM_length]
    have := dst_lt (o := o) (b := a) H.2.2.1
    omega
  · simp
theorem gpsOn_open {w h o a b x : Int} (hx : x ∈ gpsOn w h o a b) : igap w h x = true ∧ opn o x = true := by
  unfold gpsOn wayOf at hx
  split at hx
  · rename_i H
    obtain ⟨a1, a2, _⟩ := way_gap H.2.2.1 _ a H.2.1 (by omega) x hx
    exact ⟨a1, a2⟩
  · simp [gpsW] at hx
theorem gap_sep {w h o a b g : Int} (P : prf w h o = true) (ha : icell w h a = true) (hb : icell w h b = true) (hg : igap w h g = true) (ho : opn o g = true) : g ∈ gpsOn w h o a b ↔ ¬ lnk w h (cut o g) a b := by
  have C := prf_conn P
  have M := conn_mok C
  have hd := (dst_lnk hb ha).2 (conn_lnk C hb ha)
  have e : gpsOn w h o a b = gpsW w h o (wayM w h o b (dst w h o b a).toNat a) a := by
    unfold gpsOn wayOf
    rw [if_pos ⟨M, ha, hb, hd⟩]
  rw [e]
  constructor
  · intro hx L
    obtain ⟨p, f, h1, h2, h3⟩ := way_on hb hg _ a ha (by omega) hx
    have hpf : lnk w h (cut o g) p f := lnk_trans (lnk_symm h2) (lnk_trans L (lnk_symm h3))
    refine tree_cut P hg ho ?_
    rw [h1]
    simp only
    rcases Int.le_total p f with q | q
    · rw [Int.min_eq_left q, Int.max_eq_right q]; exact hpf
    · rw [Int.min_eq_right q, Int.max_eq_left q]; exact lnk_symm hpf
  · intro H
    apply Classical.byContradiction
    intro hx
    exact H (way_off hb hg _ a ha (by omega) hx)
theorem gapsOn_l0 {w h o : Int} {W : List Int} (hW : W.length ≤ 1000) : ∀ (d i k : Nat) (c : Int) (acc : List Int), i + d = W.length → d + 5 ≤ k → acc.length + d ≤ 1000000 → impl_gapsOn.l0 k c acc W (W.length : Int) (i : Int) w h o = some (acc ++ gpsW w h o (W.drop i) c)
  | 0, i, k, c, acc, hi, hk, ha => by
    obtain ⟨m, rfl⟩ : ∃ m, k = m + 1 := ⟨k - 1, by omega⟩
    simp only [impl_gapsOn.l0]
    rw [if_neg (by omega), List.drop_of_length_le (by omega)]
    simp [gpsW]
  | d + 1, i, k, c, acc, hi, hk, ha => by
    obtain ⟨m, rfl⟩ : ∃ m, k = m + 1 := ⟨k - 1, by omega⟩
    have hil : i < W.length := by omega
    have ih := gapsOn_l0 (w := w) (h := h) (o := o) hW d (i + 1) m (st w h o c (rd W (i : Int))) (acc ++ [gp w h c (rd W (i : Int))]) (by omega) (by omega) (by simp; omega)
    rw [Int.natCast_add] at ih
    simp only [impl_gapsOn.l0]
    rw [if_pos (by omega), if_pos (by omega), if_pos (by omega), impl_GapAt_eq (by omega), Option.bind_some, if_pos (by omega), impl_Step_eq (by omega), Option.bind_some, w64_succ hil (by omega), drop_rd hil]
    refine ih.trans ?_
    simp [gpsW]
theorem impl_gapsOn_eq {k : Nat} (hk : 400 ≤ k) (w h o a b : Int) : impl_gapsOn.f k w h o a b = some (gpsOn w h o a b) := by
  unfold impl_gapsOn.f
  have hl : (gpsOn w h o a b).length ≤ 16 := gpsOn_len
  unfold gpsOn at hl
  rw [gpsW_length] at hl
  have := gapsOn_l0 (w := w) (h := h) (o := o) (W := (wayOf w h o a b).1) (by omega) (wayOf w h o a b).1.length 0 k a [] (by omega) (by omega) (by simp; omega)
  rw [impl_WayBetween_eq (by omega), Option.bind_some]
  exact this
end Go.Proofs.Ytpeehicekddjhaa.F
end

section
namespace Go.Proofs.Ytpeehicekddjhaa.F
open Go.RowKit Go.Proofs.YtpeehicekddjhaaW.PrintWords Go.Proofs.YtpeehicekddjhaaW.PrintLast Go.Proofs.YtpeehicekddjhaaW.PrintMore
set_option linter.unusedVariables false
set_option linter.unusedSimpArgs false
def ordL (l : List Int) : List Int := Go.Lib.compact (l.mergeSort fun x y => decide (x ≤ y))
theorem impl_ordered_eq {l : List Int} (h : l.length < 4611686018427387904) : impl_ordered.f l = some (ordL l) := by unfold impl_ordered.f; rw [if_pos h]; rfl
theorem sorted_sort (l : List Int) : (l.mergeSort fun x y => decide (x ≤ y)).Pairwise (· ≤ ·) := by
  have := List.pairwise_mergeSort (le := fun x y : Int => decide (x ≤ y)) (fun a b c h1 h2 => by simp at *; omega) (fun a b => by simp; omega) l
  exact this.imp fun h => by simpa using h
theorem getB {s : List Int} {j : Nat} (hj : j < s.length) : s.toArray[j]! = s[j] := by
  rw [getElem!_pos s.toArray j (by simpa using hj)]; simp
theorem sorted_at {s : List Int} (S : s.Pairwise (· ≤ ·)) {i j : Nat} (h : i ≤ j) (hj : j < s.length) : s[i]'(by omega) ≤ s[j] := by
  rcases Nat.lt_or_ge i j with h | h
  · exact List.pairwise_iff_getElem.1 S i j (by omega) hj h
  · obtain rfl : i = j := by omega
    exact Int.le_refl _
theorem compact_lt {s : List Int} (S : s.Pairwise (· ≤ ·)) : (Go.Lib.compact s).Pairwise (· < ·) := by
  unfold Go.Lib.compact Go.Lib.compactUpTo
  rw [List.pairwise_map]
  have h1 : (List.range s.length).Pairwise (· < ·) := List.pairwise_lt_range
  have h2 := List.Pairwise.filter (Go.Lib.keeps s.toArray) h1
  refine h2.imp_of_mem fun {a b} ha hb hab => ?_
  have ha' := List.mem_filter.1 ha
  have hb' := List.mem_filter.1 hb
  have la := List.mem_range.1 ha'.1
  have lb := List.mem_range.1 hb'.1
  have hk := hb'.2
  unfold Go.Lib.keeps at hk
  simp only [decide_eq_true_eq] at hk
  rcases hk with hk | hk
  · omega
  · rw [getB lb, getB (show b - 1 < s.length by omega)] at hk
    rw [getB la, getB lb]
    have := sorted_at S (show a ≤ b - 1 by omega) (by omega)
    have := sorted_at S (show b - 1 ≤ b by omega) lb
    omega
theorem mem_compact {s : List Int} {x : Int} : x ∈ Go.Lib.compact s ↔ x ∈ s := by
  unfold Go.Lib.compact Go.Lib.compactUpTo
  rw [List.mem_map]
  constructor
  · rintro ⟨j, hj, rfl⟩
    have := List.mem_range.1 (List.mem_filter.1 hj).1
    rw [getB this]
    exact List.getElem_mem _
  · intro hx
    obtain ⟨j, hj, e⟩ := List.getElem_of_mem hx
    have key : ∀ (j : Nat) (hj : j < s.length), s[j] = x → ∃ a, a ∈ (List.range s.length).filter (Go.Lib.keeps s.toArray) ∧ s.toArray[a]! = x := by
      intro j
      induction j with
      | zero =>
        intro hj e
        exact ⟨0, List.mem_filter.2 ⟨List.mem_range.2 hj, by simp [Go.Lib.keeps]⟩, by rw [getB hj]; exact e⟩
      | succ j ih =>
        intro hj e
        by_cases h : s[j]'(by omega) = x
        · exact ih (by omega) h
        · refine ⟨j + 1, List.mem_filter.2 ⟨List.mem_range.2 hj, ?_⟩, by rw [getB hj]; exact e⟩
          unfold Go.Lib.keeps
          simp only [decide_eq_true_eq]
          right
          rw [getB hj, getB (show j + 1 - 1 < s.length by omega), e]
          exact fun q => h q.symm
    obtain ⟨a, h1, h2⟩ := key j hj e
    exact ⟨a, h1, h2⟩
theorem ordL_lt (l : List Int) : (ordL l).Pairwise (· < ·) := compact_lt (sorted_sort l)
theorem ordL_nodup (l : List Int) : (ordL l).Nodup := (ordL_lt l).imp fun h => by omega
theorem mem_ordL {l : List Int} {x : Int} : x ∈ ordL l ↔ x ∈ l := by unfold ordL; rw [mem_compact, List.mem_mergeSort]
end Go.Proofs.Ytpeehicekddjhaa.F
end

section
namespace Go.Proofs.Ytpeehicekddjhaa.F
open Go.RowKit Go.Proofs.YtpeehicekddjhaaW.PrintWords Go.Proofs.YtpeehicekddjhaaW.PrintLast Go.Proofs.YtpeehicekddjhaaW.PrintMore
set_option linter.unusedVariables false
set_option linter.unusedSimpArgs false
def betw (w h o a : Int) (l : List Int) : List Int := (l.map (gpsOn w h o a)).flatten
theorem betw_len (w h o a : Int) : ∀ l : List Int, (betw w h o a l).length ≤ 16 * l.length
  | [] => by simp [betw]
  | c :: l => by
    have := betw_len w h o a l
    have h1 : (gpsOn w h o a c).length ≤ 16 := gpsOn_len
    unfold betw at this ⊢
    rw [List.map_cons, List.flatten_cons, List.length_append, List.length_cons]
    omega
theorem impl_ts1 {w h o : Int} {l L : List Int} {n i : Int} {x : Int} {v : List Int} (hv : v.length ≤ 1048576) : ∀ (d j k : Nat) (acc : List Int), j + d = v.length → d + 401 ≤ k → acc.length + 16 * d ≤ 17000000000000 →
    impl_TreeSpan.l1 k l acc x L n i v (v.length : Int) (j : Int) w h o = (impl_ordered.f (acc ++ betw w h o x (v.drop j))).bind fun t => impl_TreeSpan.l0 (k - d - 1) l t L n (wrap64 (i + 1)) w h o
  | 0, j, k, acc, hj, hk, ha => by
    obtain ⟨m, rfl⟩ : ∃ m, k = m + 1 := ⟨k - 1, by omega⟩
    simp only [impl_TreeSpan.l1]
    rw [if_neg (by omega), List.drop_of_length_le (by omega)]
    simp [betw]
  | d + 1, j, k, acc, hj, hk, ha => by
    obtain ⟨m, rfl⟩ : ∃ m, k = m + 1 := ⟨k - 1, by omega⟩
    have hjl : j < v.length := by omega
    have h1 : (gpsOn w h o x (rd v (j : Int))).length ≤ 16 := gpsOn_len
    have ih := impl_ts1 (w := w) (h := h) (o := o) (l := l) (L := L) (n := n) (i := i) (x := x) hv d (j + 1) m (acc ++ gpsOn w h o x (rd v (j : Int))) (by omega) (by omega) (by rw [List.length_append]; omega)
    rw [Int.natCast_add] at ih
    simp only [impl_TreeSpan.l1]
    rw [if_pos (by omega), if_pos (by omega), if_pos (by omega), impl_gapsOn_eq (by omega), Option.bind_some, if_pos (by omega), w64_succ hjl (by omega), drop_rd hjl]
    refine ih.trans ?_
    rw [show m + 1 - (d + 1) - 1 = m - d - 1 by omega]
    unfold betw
    rw [List.map_cons, List.flatten_cons, List.append_assoc]
def gath (w h o : Int) (l : List Int) : Nat → List Int
  | 0 => []
  | i + 1 => ordL (gath w h o l i ++ betw w h o (rd l (i : Int)) (l.take i))
theorem betw_mem {w h o a g : Int} {l : List Int} : g ∈ betw w h o a l ↔ ∃ c ∈ l, g ∈ gpsOn w h o a c := by
  unfold betw
  rw [List.mem_flatten]
  constructor
  · rintro ⟨x, hx, hg⟩
    obtain ⟨c, hc, rfl⟩ := List.mem_map.1 hx
    exact ⟨c, hc, hg⟩
  · rintro ⟨c, hc, hg⟩
    exact ⟨_, List.mem_map.2 ⟨c, hc, rfl⟩, hg⟩
theorem gath_mem {w h o g : Int} {l : List Int} : ∀ i, g ∈ gath w h o l i ↔ ∃ a, a < i ∧ g ∈ betw w h o (rd l (a : Int)) (l.take a)
  | 0 => by simp [gath]
  | i + 1 => by
    unfold gath
    rw [mem_ordL, List.mem_append, gath_mem i]
    constructor
    · rintro (⟨a, h1, h2⟩ | h2)
      · exact ⟨a, by omega, h2⟩
      · exact ⟨i, by omega, h2⟩
    · rintro ⟨a, h1, h2⟩
      by_cases e : a = i
      · subst e; exact .inr h2
      · exact .inl ⟨a, by omega, h2⟩
theorem gath_nodup (w h o : Int) (l : List Int) : ∀ i, (gath w h o l i).Nodup
  | 0 => by simp [gath]
  | i + 1 => ordL_nodup _
theorem gath_len (w h o : Int) (l : List Int) (i : Nat) : (gath w h o l i).length ≤ 24 := by
  have := nodup_le' (gath_nodup w h o l i) (L := gaps24) fun g hg => by
    obtain ⟨a, _, h2⟩ := (gath_mem i).1 hg
    obtain ⟨c, _, h3⟩ := betw_mem.1 h2
    exact mem_gaps24 (gpsOn_open h3).1
  simpa [gaps24] using this
theorem impl_ts0 {w h o : Int} {l : List Int} (hl : l.length ≤ 1048576) {N : Nat} (hN : l.length + 403 ≤ N) : ∀ (d i k : Nat), i + d = l.length → (d + 1) * N ≤ k →
    impl_TreeSpan.l0 k l (gath w h o l i) l (l.length : Int) (i : Int) w h o = some ((gath w h o l l.length).length : Int)
  | 0, i, k, hi, hk => by
    have hk' : N ≤ k := by rw [Nat.zero_add, Nat.one_mul] at hk; exact hk
    obtain ⟨m, rfl⟩ : ∃ m, k = m + 1 := ⟨k - 1, by omega⟩
    obtain rfl : i = l.length := by omega
    simp only [impl_TreeSpan.l0]
    rw [if_neg (by omega)]
  | d + 1, i, k, hi, hk => by
    have hk' : (d + 1) * N + N ≤ k := by rw [← Nat.succ_mul]; exact hk
    obtain ⟨m, rfl⟩ : ∃ m, k = m + 1 := ⟨k - 1, by omega⟩
    have hil : i < l.length := by omega
    have ht : (l.take i).length = i := by rw [List.length_take]; omega
    have hg := gath_len w h o l i
    have hb := betw_len w h o (rd l (i : Int)) (l.take i)
    simp only [impl_TreeSpan.l0]
    rw [if_pos (by omega), if_pos (by omega), if_pos (by omega), if_pos (by omega), Int.toNat_natCast]
    have h1 := impl_ts1 (w := w) (h := h) (o := o) (l := l) (L := l) (n := (l.length : Int)) (i := (i : Int)) (x := rd l (i : Int)) (v := l.take i) (by omega) (l.take i).length 0 m (gath w h o l i) (by omega) (by omega) (by omega)
    rw [show ((0 : Nat) : Int) = 0 from rfl] at h1
    rw [h1, List.drop_zero, impl_ordered_eq (by rw [List.length_append]; omega), Option.bind_some, w64_succ hil (by omega)]
    have ih := impl_ts0 (w := w) (h := h) (o := o) hl hN d (i + 1) (m - (l.take i).length - 1) (by omega) (by omega)
    rw [Int.natCast_add] at ih
    exact ih
def sepB (w h o : Int) (l : List Int) (g : Int) : Bool := opn o g && l.any fun c => decide (dst w h (cut o g) (rd l 0) c < 0)
def tspan (w h o : Int) (l : List Int) : Int := if l = [] then 0 else (((List.range' 0 (gaps w h).toNat).countP fun g : Nat => sepB w h o l (g : Int) : Nat) : Int)
theorem gath_sep {w h o : Int} {l : List Int} (P : prf w h o = true) (hc : ∀ c ∈ l, icell w h c = true) (hne : l ≠ []) {g : Int} : g ∈ gath w h o l l.length ↔ igap w h g = true ∧ sepB w h o l g = true := by
  have hrd : ∀ i : Nat, i < l.length → rd l (i : Int) ∈ l := fun i hi => rd_memI (by omega) (by omega)
  have h0 : rd l 0 ∈ l := hrd 0 (List.length_pos_iff.2 hne)
  have c0 := hc _ h0
  rw [gath_mem]
  constructor
  · rintro ⟨a, ha, hg⟩
    obtain ⟨c, hcm, hg⟩ := betw_mem.1 hg
    obtain ⟨ig, og⟩ := gpsOn_open hg
    have hcl := List.mem_of_mem_take hcm
    have hs := (gap_sep P (hc _ (hrd a ha)) (hc c hcl) ig og).1 hg
    refine ⟨ig, ?_⟩
    unfold sepB
    rw [og, Bool.true_and, List.any_eq_true]
    by_cases q : lnk w h (cut o g) (rd l 0) c
    · refine ⟨rd l (a : Int), hrd a ha, decide_eq_true ?_⟩
      have : ¬ 0 ≤ dst w h (cut o g) (rd l 0) (rd l (a : Int)) := fun z => hs (lnk_trans (lnk_symm ((dst_lnk c0 (hc _ (hrd a ha))).1 z)) q)
      omega
    · refine ⟨c, hcl, decide_eq_true ?_⟩
      have : ¬ 0 ≤ dst w h (cut o g) (rd l 0) c := fun z => q ((dst_lnk c0 (hc c hcl)).1 z)
      omega
  · rintro ⟨ig, hs⟩
    unfold sepB at hs
    rw [Bool.and_eq_true, List.any_eq_true] at hs
    obtain ⟨og, c, hcl, hd⟩ := hs
    have hd := of_decide_eq_true hd
    have hn : ¬ lnk w h (cut o g) (rd l 0) c := fun z => by
      have := (dst_lnk c0 (hc c hcl)).2 z
      omega
    obtain ⟨a, ha, e⟩ := mem_rd hcl
    have ha0 : a ≠ 0 := fun q => by
      subst q
      rw [← e] at hn
      exact hn (lnk_refl _ _ _ _)
    refine ⟨a, ha, betw_mem.2 ⟨rd l 0, ?_, (gap_sep P (hc _ (hrd a ha)) c0 ig og).2 fun z => hn (by rw [← e]; exact lnk_symm z)⟩⟩
    have ht : 0 < (l.take a).length := by rw [List.length_take]; omega
    have : rd l 0 = rd (l.take a) 0 := by
      show l.getD 0 0 = (l.take a).getD 0 0
      rw [List.getD_eq_getElem?_getD, List.getD_eq_getElem?_getD, List.getElem?_take, if_pos (by omega)]
    rw [this]
    exact rd_memI (by omega) (by omega)
theorem gath_span {w h o : Int} {l : List Int} (P : prf w h o = true) (hc : ∀ c ∈ l, icell w h c = true) : ((gath w h o l l.length).length : Int) = tspan w h o l := by
  unfold tspan
  by_cases hne : l = []
  · subst hne; rfl
  · rw [if_neg hne, List.countP_eq_length_filter]
    have gb := gaps_bd w h
    have hL : (((List.range' 0 (gaps w h).toNat).filter fun g : Nat => sepB w h o l (g : Int)).map fun g : Nat => (g : Int)).Nodup := by
      rw [List.nodup_iff_pairwise_ne, List.pairwise_map]
      exact ((List.pairwise_lt_range' (s := 0) (n := (gaps w h).toNat)).filter _).imp fun h => by omega
    have h1 := nodup_le' (gath_nodup w h o l l.length) (L := ((List.range' 0 (gaps w h).toNat).filter fun g : Nat => sepB w h o l (g : Int)).map fun g : Nat => (g : Int)) fun g hg => by
      obtain ⟨ig, hs⟩ := (gath_sep P hc hne).1 hg
      have gi := igap_iff.1 ig
      refine List.mem_map.2 ⟨g.toNat, List.mem_filter.2 ⟨List.mem_range'_1.2 ⟨by omega, by omega⟩, by rw [show ((g.toNat : Nat) : Int) = g by omega]; exact hs⟩, by omega⟩
    have h2 := nodup_le' hL (L := gath w h o l l.length) fun g hg => by
      obtain ⟨i, hi, rfl⟩ := List.mem_map.1 hg
      obtain ⟨hi, hs⟩ := List.mem_filter.1 hi
      have hi := List.mem_range'_1.1 hi
      exact (gath_sep P hc hne).2 ⟨igap_iff.2 ⟨by omega, by omega⟩, hs⟩
    rw [List.length_map] at h1 h2
    omega
theorem impl_TreeSpan_eq {k : Nat} {l : List Int} (hl : l.length ≤ 1048576) (hk : (l.length + 1) * (l.length + 403) ≤ k) (w h o : Int) : impl_TreeSpan.f k w h o l = some (if prf w h o = true ∧ l.all (icell w h) = true then tspan w h o l else -1) := by
  unfold impl_TreeSpan.f
  have h400 : 400 ≤ k := Nat.le_trans (by rw [Nat.add_mul]; omega) hk
  rw [impl_IsPerfect_eq (by omega), Option.bind_some]
  cases P : prf w h o with
  | false => rw [if_neg Bool.false_ne_true, if_neg (by simp)]
  | true =>
    have M := conn_mok (prf_conn P)
    rw [if_pos rfl, impl_isIn_eq, Option.bind_some, M, Bool.true_and]
    cases A : l.all (icell w h) with
    | false => rw [if_neg Bool.false_ne_true, if_neg (by simp)]
    | true =>
      rw [if_pos rfl, if_pos ⟨rfl, rfl⟩]
      have := impl_ts0 (w := w) (h := h) (o := o) hl (Nat.le_refl _) l.length 0 k (by omega) hk
      rw [gath_span P (by simpa [List.all_eq_true] using A)] at this
      exact this
theorem spec_ts2 {w h o : Int} {l D : List Int} {n g : Int} (hl : l.length ≤ 1048576) (hD : (D.length : Int) = cells w h) (hc : ∀ c ∈ l, icell w h c = true) : ∀ (d i k : Nat) (b : Bool), i + d = l.length → d + 1 ≤ k →
    spec_TreeSpan.l2 k l n g D b (i : Int) w h o = spec_TreeSpan.l1 (k - d - 1) l (if (b || (l.drop i).any fun c => decide (rd D c < 0)) = true then wrap64 (n + 1) else n) (wrap64 (g + 1)) w h o
  | 0, i, k, b, hi, hk => by
    obtain ⟨m, rfl⟩ : ∃ m, k = m + 1 := ⟨k - 1, by omega⟩
    simp only [spec_TreeSpan.l2]
    rw [if_neg (by omega), List.drop_of_length_le (by omega)]
    cases b <;> simp
  | d + 1, i, k, b, hi, hk => by
    obtain ⟨m, rfl⟩ : ∃ m, k = m + 1 := ⟨k - 1, by omega⟩
    have hil : i < l.length := by omega
    have e : m + 1 - (d + 1) - 1 = m - d - 1 := by omega
    simp only [spec_TreeSpan.l2]
    rw [if_pos (by omega), w64_succ hil (by omega), e, drop_rd hil, List.any_cons]
    cases b with
    | true =>
      rw [if_pos rfl]
      have ih := spec_ts2 (o := o) (n := n) (g := g) hl hD hc d (i + 1) m true (by omega) (by omega)
      rw [Int.natCast_add] at ih
      refine ih.trans ?_
      simp
    | false =>
      have ci := icell_iff.1 (hc (rd l (i : Int)) (rd_memI (by omega) (by omega)))
      rw [if_neg Bool.false_ne_true, if_pos (by omega), if_pos ci.1, if_pos (by omega)]
      have ih := spec_ts2 (o := o) (n := n) (g := g) hl hD hc d (i + 1) m (decide (rd D (rd l (i : Int)) < 0)) (by omega) (by omega)
      rw [Int.natCast_add] at ih
      refine ih.trans ?_
      rw [Bool.false_or]
theorem spec_ts1 {w h o : Int} {l : List Int} (hl : l.length ≤ 1048576) (M : mok w h o = true) (hne : l ≠ []) (hc : ∀ c ∈ l, icell w h c = true) {N : Nat} (hN : l.length + 205 ≤ N) : ∀ (d g k : Nat) (n : Nat), (g : Int) + d = gaps w h → (d + 1) * N ≤ k → n ≤ g →
    spec_TreeSpan.l1 k l (n : Int) (g : Int) w h o = some ((n : Int) + ((List.range' g d).countP fun x : Nat => sepB w h o l (x : Int) : Nat))
  | 0, g, k, n, hg, hk, hn => by
    have hk' : N ≤ k := by rw [Nat.zero_add, Nat.one_mul] at hk; exact hk
    obtain ⟨m, rfl⟩ : ∃ m, k = m + 2 := ⟨k - 2, by omega⟩
    simp only [spec_TreeSpan.l1]
    rw [spec_CountGaps_eq, Option.bind_some, if_neg (by omega)]
    simp only [spec_TreeSpan.j2]
    rw [if_neg Bool.false_ne_true]
    simp
  | d + 1, g, k, n, hg, hk, hn => by
    have hk' : (d + 1) * N + N ≤ k := by rw [← Nat.succ_mul]; exact hk
    obtain ⟨m, rfl⟩ : ∃ m, k = m + 2 := ⟨k - 2, by omega⟩
    have gb := gaps_bd w h
    have hpos : 0 < l.length := List.length_pos_iff.2 hne
    have ig : igap w h (g : Int) = true := igap_iff.2 ⟨by omega, by omega⟩
    have ms := mok_small M
    simp only [spec_TreeSpan.l1]
    rw [spec_CountGaps_eq, Option.bind_some, if_pos (by omega), decide_eq_true (by omega)]
    simp only [spec_TreeSpan.j2]
    rw [if_pos trivial, spec_l03Bit_eq ms.1 (by omega) (by omega), Option.bind_some, List.range'_succ, List.countP_cons, w64 (x := (g : Int) + 1) (by omega) (by omega)]
    cases ho : opn o (g : Int) with
    | false =>
      rw [if_neg Bool.false_ne_true]
      have ih := spec_ts1 hl M hne hc hN d (g + 1) m n (by omega) (by omega) (by omega)
      rw [Int.natCast_add] at ih
      refine ih.trans ?_
      have : sepB w h o l (g : Int) = false := by unfold sepB; rw [ho]; rfl
      rw [this, if_neg Bool.false_ne_true]
      congr 1
    | true =>
      obtain ⟨b, e⟩ := spec_SetGap_false M ig (k := m) (by omega)
      have c0 : icell w h (rd l 0) = true := hc _ (rd_memI (by omega) (by omega))
      have hlen := dists_length (o := cut o (g : Int)) c0
      rw [if_pos rfl, e, Option.bind_some, if_pos (by omega)]
      simp only
      rw [show setb o (g : Int) false = cut o (g : Int) from rfl, spec_l04Distances_eq (by omega) c0, Option.bind_some]
      have h2 := spec_ts2 (o := o) (n := (n : Int)) (g := (g : Int)) hl hlen hc l.length 0 m false (by omega) (by omega)
      rw [show ((0 : Nat) : Int) = 0 from rfl] at h2
      rw [h2, List.drop_zero, Bool.false_or, w64 (x := (g : Int) + 1) (by omega) (by omega), w64 (x := (n : Int) + 1) (by omega) (by omega)]
      have hs : (l.any fun c => decide (rd (dists (st w h (cut o (g : Int))) (stN w h) (rd l 0)) c < 0)) = sepB w h o l (g : Int) := by
        unfold sepB dst
        rw [ho, Bool.true_and]
      rw [hs]
      cases sepB w h o l (g : Int) with
      | false =>
        rw [if_neg Bool.false_ne_true, if_neg Bool.false_ne_true]
        have ih := spec_ts1 hl M hne hc hN d (g + 1) (m - l.length - 1) n (by omega) (by omega) (by omega)
        rw [Int.natCast_add] at ih
        exact ih
      | true =>
        rw [if_pos rfl, if_pos rfl]
        have ih := spec_ts1 hl M hne hc hN d (g + 1) (m - l.length - 1) (n + 1) (by omega) (by omega) (by omega)
        rw [Int.natCast_add, Int.natCast_add] at ih
        refine ih.trans ?_
        congr 1
        omega
theorem spec_tsE {w h o : Int} {l : List Int} (hl : l.length ≤ 1048576) (M : mok w h o = true) (hne : l ≠ []) (hc : ∀ c ∈ l, icell w h c = true) {X m : Nat} (hX : l.length + 205 ≤ X) (hm : 30 * X ≤ m) :
    spec_TreeSpan.l1 m l 0 0 w h o = some (((List.range' 0 (gaps w h).toNat).countP fun g : Nat => sepB w h o l (g : Int) : Nat) : Int) := by
  have gb := gaps_bd w h
  have h1 := spec_ts1 hl M hne hc hX (gaps w h).toNat 0 m 0 (by omega) (Nat.le_trans (Nat.mul_le_mul_right X (by omega)) hm) (Nat.le_refl _)
  refine h1.trans ?_
  congr 1
  exact Int.zero_add _
theorem spec_ts0 {w h o : Int} {l : List Int} (hl : l.length ≤ 1048576) {X N : Nat} (hX : l.length + 205 ≤ X) (hN : 30 * X + 400 ≤ N) : ∀ (d i k : Nat), i + d = l.length → d + N ≤ k → spec_TreeSpan.l0 k l (i : Int) w h o =
    some (if ((l.drop i).all fun c => mok w h o && icell w h c) = true then (if prf w h o = true then (if l = [] then 0 else (((List.range' 0 (gaps w h).toNat).countP fun g : Nat => sepB w h o l (g : Int) : Nat) : Int)) else -1) else -1) ∨ ¬ ∀ c ∈ l.take i, icell w h c = true
  | 0, i, k, hi, hk => by
    by_cases hc : ∀ c ∈ l.take i, icell w h c = true
    · left
      obtain ⟨m, rfl⟩ : ∃ m, k = m + 1 := ⟨k - 1, by omega⟩
      rw [List.take_of_length_le (by omega)] at hc
      simp only [spec_TreeSpan.l0]
      rw [if_neg (by omega), List.drop_of_length_le (by omega), spec_IsPerfect_eq (by omega), Option.bind_some]
      simp only [List.all_nil, if_true]
      cases P : prf w h o with
      | false => rfl
      | true =>
        rw [if_pos rfl, if_pos rfl]
        have M := conn_mok (prf_conn P)
        have gb := gaps_bd w h
        by_cases hne : l = []
        · rw [if_pos hne]
          subst hne
          obtain ⟨q, rfl⟩ : ∃ q, m = q + 2 := ⟨m - 2, by omega⟩
          simp only [spec_TreeSpan.l1]
          rw [spec_CountGaps_eq, Option.bind_some]
          by_cases z : 0 < gaps w h
          · rw [if_pos z]; rfl
          · rw [if_neg z]; rfl
        · rw [if_neg hne]
          exact spec_tsE hl M hne hc hX (by omega)
    · exact .inr hc
  | d + 1, i, k, hi, hk => by
    by_cases hc : ∀ c ∈ l.take i, icell w h c = true
    · left
      obtain ⟨m, rfl⟩ : ∃ m, k = m + 1 := ⟨k - 1, by omega⟩
      have hil : i < l.length := by omega
      simp only [spec_TreeSpan.l0]
      rw [if_pos (by omega), if_pos (by omega), spec_l04Has_eq, Option.bind_some, drop_rd hil, List.all_cons]
      cases hh : mok w h o && icell w h (rd l (i : Int)) with
      | false => rw [if_neg Bool.false_ne_true]; simp
      | true =>
        rw [if_pos rfl, w64_succ hil (by omega), Bool.true_and]
        simp only [Bool.and_eq_true] at hh
        rcases spec_ts0 (w := w) (h := h) (o := o) hl hX hN d (i + 1) m (by omega) (by omega) with ih | ih
        · rw [Int.natCast_add] at ih
          exact ih
        · refine absurd (fun c hcm => ?_) ih
          rw [List.take_add_one, List.mem_append] at hcm
          rcases hcm with hcm | hcm
          · exact hc c hcm
          · rw [List.getElem?_eq_getElem hil] at hcm
            have : c = rd l (i : Int) := by
              rw [rd_nat, List.getD_eq_getElem?_getD, List.getElem?_eq_getElem hil]
              simpa using hcm
            rw [this]; exact hh.2
    · exact .inr hc
theorem spec_TreeSpan_eq {k : Nat} {l : List Int} (hl : l.length ≤ 1048576) (hk : 31 * (l.length + 205) + 400 ≤ k) (w h o : Int) : spec_TreeSpan.f k w h o l = some (if prf w h o = true ∧ l.all (icell w h) = true then tspan w h o l else -1) := by
  unfold spec_TreeSpan.f
  obtain ⟨X, hX⟩ : ∃ X, l.length + 205 = X := ⟨_, rfl⟩
  obtain ⟨N, hN⟩ : ∃ N, 30 * X + 400 = N := ⟨_, rfl⟩
  rw [hX] at hk
  rcases spec_ts0 (w := w) (h := h) (o := o) (X := X) (N := N) hl (by omega) (by omega) l.length 0 k (by omega) (by omega) with e | e
  · rw [show ((0 : Nat) : Int) = 0 from rfl] at e
    rw [e, List.drop_zero]
    congr 1
    cases P : prf w h o with
    | false => simp
    | true =>
      have M := conn_mok (prf_conn P)
      simp only [M, Bool.true_and, true_and, if_true]
      rfl
  · exact absurd (fun c hc => by simp at hc) e
end Go.Proofs.Ytpeehicekddjhaa.F
end

section
namespace Go.Proofs.Ytpeehicekddjhaa.F
open Go.RowKit Go.Proofs.YtpeehicekddjhaaW.PrintWords Go.Proofs.YtpeehicekddjhaaW.PrintLast Go.Proofs.YtpeehicekddjhaaW.PrintMore
set_option linter.unusedVariables false
set_option linter.unusedSimpArgs false
theorem FnExactTreeSpan_pure : ∀ (a0_0 : Int) (a0_1 : Int) (a0_2 : Int) (l1 : List (Int)), (I64 (a0_0)) → (I64 (a0_1)) → (I64 (a0_2)) → ((l1).length ≤ 9223372036854775807 ∧ ∀ y ∈ l1, I64 (y)) → ∃ k, laws_FnExactTreeSpan.f k a0_0 a0_1 a0_2 l1 = some true := by
  intro w h o l _ _ _ hl
  refine ⟨(l.length + 1) * (l.length + 403) + 31 * (l.length + 205) + 400, ?_⟩
  unfold laws_FnExactTreeSpan.f
  by_cases hs : l.length ≤ 1048576
  · generalize hk : (l.length + 1) * (l.length + 403) + 31 * (l.length + 205) + 400 = k
    rw [if_neg (by omega)]
    simp only [laws_toMaze.f, laws_toGrid.f, Option.bind_some, laws_toIntS_eq hs (show l.length + 1 ≤ k by omega), spec_TreeSpan_eq hs (show 31 * (l.length + 205) + 400 ≤ k by omega), impl_TreeSpan_eq hs (show (l.length + 1) * (l.length + 403) ≤ k by omega)]
    simp only [if_true, laws_eqIntS_refl (show l.length ≤ 9223372036854775806 by omega) (show l.length + 1 ≤ k by omega), Option.bind_some]
  · rw [if_pos (by omega)]
end Go.Proofs.Ytpeehicekddjhaa.F
end
