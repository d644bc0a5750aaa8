/- Packed by a program of the session (wip/tools/pack.py): what the claim's theorem reaches, of the texts that wip/ and the kit's printer lay. -/
import Derived.Test.YtccjanhdnheclaaPkFnExactPossibleWalkers7
import Derived.Shelf.SlSortCmp.NoneTotal
import Derived.Test.YtccjanhdnheclaaProg
import Derived.Deep.QuietTactic
import Derived.BigQuiet
import Derived.StillTailTactics
section
namespace Go.Proofs
def Try.laysSF_ren : Go.Shelf.Ren := ⟨fun | 6 => 43 | 15 => 78 | 14 => 77 | 28 => 110 | 29 => 111 | 20 => 102 | 21 => 103 | 22 => 104 | 23 => 105 | 24 => 106 | 25 => 107 | 26 => 108 | 27 => 109 | 46 => 121 | 47 => 122 | 48 => 123 | 49 => 124 | 50 => 125 | 57 => 139 | n => n, fun | 22 => 35 | 24 => 43 | 25 => 67 | 3 => 3 | 39 => 92 | 0 => 0 | 53 => 115 | 55 => 117 | 4 => 4 | 46 => 108 | 45 => 107 | 50 => 112 | 5 => 5 | 9 => 9 | 66 => 122 | 70 => 126 | 76 => 133 | 77 => 119 | n => n, fun  | n => n⟩
theorem Try.laysSF : SlLaysF0.n6 Try.prog Try.laysSF_ren := { mixed := by kernel_rfl, f6 := ⟨ "slices.SortFunc[[]loop.example/g00990/impl.Walker,loop.example/g00990/impl.Walker]", of_decide_eq_true (by kernel_rfl), Try.func43.trans (congrArg some (by kernel_rfl))⟩, f14 := ⟨ "slices.pdqsortCmpFunc[loop.example/g00990/impl.Walker]", of_decide_eq_true (by kernel_rfl), Try.func77.trans (congrArg some (by kernel_rfl))⟩, f15 := Try.func78.trans (congrArg some (by kernel_rfl)), f20 := ⟨ "slices.insertionSortCmpFunc[loop.example/g00990/impl.Walker]", of_decide_eq_true (by kernel_rfl), Try.func102.trans (congrArg some (by kernel_rfl))⟩, f21 := ⟨ "slices.heapSortCmpFunc[loop.example/g00990/impl.Walker]", of_decide_eq_true (by kernel_rfl), Try.func103.trans (congrArg some (by kernel_rfl))⟩, f22 := ⟨ "slices.breakPatternsCmpFunc[loop.example/g00990/impl.Walker]", of_decide_eq_true (by kernel_rfl), Try.func104.trans (congrArg some (by kernel_rfl))⟩, f23 := ⟨ "slices.choosePivotCmpFunc[loop.example/g00990/impl.Walker]", of_decide_eq_true (by kernel_rfl), Try.func105.trans (congrArg some (by kernel_rfl))⟩, f24 := ⟨ "slices.reverseRangeCmpFunc[loop.example/g00990/impl.Walker]", of_decide_eq_true (by kernel_rfl), Try.func106.trans (congrArg some (by kernel_rfl))⟩, f25 := ⟨ "slices.partialInsertionSortCmpFunc[loop.example/g00990/impl.Walker]", of_decide_eq_true (by kernel_rfl), Try.func107.trans (congrArg some (by kernel_rfl))⟩, f26 := ⟨ "slices.partitionEqualCmpFunc[loop.example/g00990/impl.Walker]", of_decide_eq_true (by kernel_rfl), Try.func108.trans (congrArg some (by kernel_rfl))⟩, f27 := ⟨ "slices.partitionCmpFunc[loop.example/g00990/impl.Walker]", of_decide_eq_true (by kernel_rfl), Try.func109.trans (congrArg some (by kernel_rfl))⟩, f28 := Try.func110.trans (congrArg some (by kernel_rfl)), f29 := Try.func111.trans (congrArg some (by kernel_rfl)), f46 := ⟨ "slices.siftDownCmpFunc[loop.example/g00990/impl.Walker]", of_decide_eq_true (by kernel_rfl), Try.func121.trans (congrArg some (by kernel_rfl))⟩, f47 := Try.func122.trans (congrArg some (by kernel_rfl)), f48 := Try.func123.trans (congrArg some (by kernel_rfl)), f49 := ⟨ "slices.medianAdjacentCmpFunc[loop.example/g00990/impl.Walker]", of_decide_eq_true (by kernel_rfl), Try.func124.trans (congrArg some (by kernel_rfl))⟩, f50 := ⟨ "slices.medianCmpFunc[loop.example/g00990/impl.Walker]", of_decide_eq_true (by kernel_rfl), Try.func125.trans (congrArg some (by kernel_rfl))⟩, f57 := ⟨ "slices.order2CmpFunc[loop.example/g00990/impl.Walker]", of_decide_eq_true (by kernel_rfl), Try.func139.trans (congrArg some (by kernel_rfl))⟩, t0 := Try.underlying0, a0 := Try.isAgg0, z0 := Try.sizeOf0, v0 := Try.zeroValue0, t3 := Try.underlying3, a3 := Try.isAgg3, z3 := Try.sizeOf3, v3 := Try.zeroValue3, t4 := Try.underlying4, a4 := Try.isAgg4, z4 := Try.sizeOf4, v4 := Try.zeroValue4, t5 := Try.underlying5, a5 := Try.isAgg5, z5 := Try.sizeOf5, v5 := Try.zeroValue5, t9 := Try.underlying9, a9 := Try.isAgg9, z9 := Try.sizeOf9, v9 := Try.zeroValue9, t22 := Try.underlying35, a22 := Try.isAgg35, z22 := Try.sizeOf35, v22 := Try.zeroValue35, t25 := Try.underlying67, a25 := Try.isAgg67, z25 := Try.sizeOf67, v25 := Try.zeroValue67, t39 := Try.underlying92, a39 := Try.isAgg92, z39 := Try.sizeOf92, v39 := Try.zeroValue92, t45 := Try.underlying107, a45 := Try.isAgg107, z45 := Try.sizeOf107, v45 := Try.zeroValue107, t46 := Try.underlying108, a46 := Try.isAgg108, z46 := Try.sizeOf108, v46 := Try.zeroValue108, t50 := Try.underlying112, a50 := Try.isAgg112, z50 := Try.sizeOf112, v50 := Try.zeroValue112, t53 := Try.underlying115, a53 := Try.isAgg115, z53 := Try.sizeOf115, v53 := Try.zeroValue115, t55 := Try.underlying117, a55 := Try.isAgg117, z55 := Try.sizeOf117, v55 := Try.zeroValue117, t66 := Try.underlying122, a66 := Try.isAgg122, z66 := Try.sizeOf122, v66 := Try.zeroValue122, t70 := Try.underlying126, a70 := Try.isAgg126, z70 := Try.sizeOf126, v70 := Try.zeroValue126, t76 := Try.underlying133, a76 := Try.isAgg133, z76 := Try.sizeOf133, v76 := Try.zeroValue133, t77 := Try.underlying119, a77 := Try.isAgg119, z77 := Try.sizeOf119, v77 := Try.zeroValue119 }
end Go.Proofs
end

section
namespace Go.Proofs.Ytccjanhdnheclaa.F
open Go.RowKit Go.Proofs.YtccjanhdnheclaaW.PrintWords Go.Proofs.YtccjanhdnheclaaW.PrintLast Go.Proofs.YtccjanhdnheclaaW.PrintMore
set_option linter.unusedVariables false
set_option linter.unusedSimpArgs false
attribute [local go_sem] max2_int min2_int max_two min_two
def cmpW (x y : SWalker) : Int := 4 * (x.f0 - y.f0) + x.f1 - y.f1
abbrev WkO := { x : SWalker // slices_SortFunc_impl_Walker.l1 x = true }
instance instInhabitedWkO : Inhabited WkO := ⟨⟨⟨0, 0⟩, rfl⟩⟩
theorem wkO_list : ∀ l : List SWalker, l.all slices_SortFunc_impl_Walker.l1 = true → ∃ ds : List WkO, l = ds.map Subtype.val
  | [], _ => ⟨[], rfl⟩
  | x :: l, h => by
    rw [List.all_cons, Bool.and_eq_true] at h
    obtain ⟨ds, e⟩ := wkO_list l h.2
    exact ⟨⟨x, h.1⟩ :: ds, congrArg (x :: ·) e⟩
def encWk (x : WkO) : List Value := [.int .i64 x.1.f0, .int .i64 x.1.f1]
def cfW (x y : WkO) : Int := cmpW x.1 y.1
theorem okW_of (x : WkO) : 0 ≤ x.1.f0 ∧ x.1.f0 ≤ 1000000 ∧ 0 ≤ x.1.f1 ∧ x.1.f1 ≤ 3 := of_decide_eq_true x.2
open Go.Sort in
theorem cfW_swo : SWO (ltOf cfW) where
  irrefl x := by simp [ltOf, cfW, cmpW]
  trans x y z h1 h2 := decide_eq_true (by
    have a : cfW x y < 0 := of_decide_eq_true h1
    have b : cfW y z < 0 := of_decide_eq_true h2
    simp only [cfW, cmpW] at a b ⊢
    omega)
  ntrans x y z h1 h2 := decide_eq_false (by
    have a : ¬ cfW x y < 0 := of_decide_eq_false h1
    have b : ¬ cfW y z < 0 := of_decide_eq_false h2
    simp only [cfW, cmpW] at a b ⊢
    omega)
open Go.Sort in
theorem cfW_tot (x y : WkO) (h1 : ltOf cfW x y = false) (h2 : ltOf cfW y x = false) : x = y := by
  have a := okW_of x
  have b := okW_of y
  have h1 : ¬ cfW x y < 0 := of_decide_eq_false h1
  have h2 : ¬ cfW y x < 0 := of_decide_eq_false h2
  simp only [cfW, cmpW] at h1 h2
  obtain ⟨⟨x0, x1⟩, hx⟩ := x
  obtain ⟨⟨y0, y1⟩, hy⟩ := y
  simp only at a b h1 h2
  obtain rfl : x1 = y1 := by omega
  obtain rfl : x0 = y0 := by omega
  rfl
theorem grownBy_sortedV {w : World} {g n : Nat} {os : Array Obj} (d : Array Value) : w.grownBy (Go.Sort.grow (Go.Sort.putRow id (Go.Sort.ahead w n) g 0 d) os) (some g) := by
  refine ⟨rfl, rfl, rfl, by simp, fun k hk hne => ?_⟩
  rw [Go.Sort.heap_grow_old _ _ (by simpa using hk)]
  have : g ≠ k := fun e => hne (by rw [e])
  simp [Go.Sort.putRow, Go.Sort.mapBlock, Go.Sort.ahead, Array.getElem?_modify, this]
theorem heap_sortedV {w : World} {g n : Nat} {os : Array Obj} {cur : Array Value} {e : TypeId} {fr : Nat × Nat} (d : Array Value) (hb : w.heap[g]? = some (.cells cur e fr)) :
    (Go.Sort.grow (Go.Sort.putRow id (Go.Sort.ahead w n) g 0 d) os).heap[g]? = some (.cells (Go.Sort.putCells id 0 d cur) e fr) := by
  have hg : g < w.heap.size := (Array.getElem?_eq_some_iff.1 hb).1
  rw [Go.Sort.heap_grow_old _ _ (by simpa using hg)]
  simp [Go.Sort.putRow, Go.Sort.mapBlock, Go.Sort.ahead, Array.getElem?_modify, hb, Go.Sort.onCells]
theorem take_putCellsV (cur : Array Value) (ts : Array Value) (h : ts.size ≤ cur.size) : (Go.Sort.putCells id 0 ts cur).toList.take ts.size = ts.toList := by
  apply List.ext_getElem?
  intro j
  by_cases hj : j < ts.size
  · rw [List.getElem?_take_of_lt hj, Array.getElem?_toList]
    simp [Go.Sort.putCells, hj, show j < cur.size by omega]
  · rw [List.getElem?_take_eq_none (by omega), List.getElem?_eq_none (by simp; omega)]
theorem flatK_list (ds : List WkO) : (Go.Sort.flatK encWk 2 ds.toArray).toList = ((ds.map Subtype.val).map eWalker).flatten := by
  have hl : ∀ x ∈ (ds.map Subtype.val).map eWalker, x.length = 2 := fun x hx => by
    obtain ⟨y, _, rfl⟩ := List.mem_map.1 hx
    rfl
  apply List.ext_getElem?
  intro t
  by_cases ht : t < ds.length * 2
  · have h1 := Go.Sort.get_flatK encWk 2 ds.toArray t (by simpa using ht)
    have h2 : t / 2 < ds.length := by omega
    have h3 : t % 2 < 2 := Nat.mod_lt _ (by decide)
    have h4 := flatten_at hl (i := t / 2) (j := t % 2) (by simpa using h2) (z := []) h3
    rw [show t / 2 * 2 + t % 2 = t by omega] at h4
    rw [h4, Array.getElem?_toList, Array.getElem?_eq_getElem (by simpa using ht)]
    rw [getElem!_pos _ t (by simpa using ht)] at h1
    rw [h1]
    have h5 : (ds.toArray)[t / 2]! = ds[t / 2] := by rw [getElem!_pos _ _ (by simpa using h2)]; rfl
    rw [h5]
    have h6 : (((ds.map Subtype.val).map eWalker).getD (t / 2) []) = eWalker ds[t / 2].1 := by
      rw [List.getD_eq_getElem?_getD, List.getElem?_eq_getElem (by simpa using h2)]
      simp
    rw [h6]
    rcases (show t % 2 = 0 ∨ t % 2 = 1 by omega) with q | q <;> rw [q] <;> rfl
  · rw [List.getElem?_eq_none (by simpa using ht), List.getElem?_eq_none (by rw [flatten_len hl]; simpa using ht)]
set_option maxHeartbeats 1000000 in
open Go.Sort in
theorem slices_SortFunc_impl_Walker.cmp (x y : WkO) (W : World) : Calls Try.prog 44 #[.agg #[.int .i64 x.1.f0, .int .i64 x.1.f1], .agg #[.int .i64 y.1.f0, .int .i64 y.1.f1]] W fun e w' => e = .returned (.int .i64 (cfW x y)) ∧ ∃ q os', w' = grow (W.drewN q) os' := by
 have hx := okW_of x
 have hy := okW_of y
 unfold cfW cmpW
 generalize x.1.f0 = a at hx ⊢
 generalize x.1.f1 = b at hx ⊢
 generalize y.1.f0 = c at hy ⊢
 generalize y.1.f1 = d at hy ⊢
 have e1 : IntKind.i64.wrap (a - c) = a - c := by simp [IntKind.wrap, IntKind.bits, IntKind.signed]; omega
 have e2 : IntKind.i64.wrap (4 * (a - c)) = 4 * (a - c) := by simp [IntKind.wrap, IntKind.bits, IntKind.signed]; omega
 have e3 : IntKind.i64.wrap (4 * (a - c) + b) = 4 * (a - c) + b := by simp [IntKind.wrap, IntKind.bits, IntKind.signed]; omega
 have e4 : IntKind.i64.wrap (4 * (a - c) + b - d) = 4 * (a - c) + b - d := by simp [IntKind.wrap, IntKind.bits, IntKind.signed]; omega
 clear hx hy
 go_enter Try.func44, Try.ntmps44
 go_wp2
 go_ret
 exact ⟨rfl, 0, _, by rw [alloc_eq_grow, alloc_eq_grow, grow_grow]; rfl⟩
set_option maxHeartbeats 4000000 in
open Go.Sort in
theorem slices_SortFunc_impl_Walker.sorts {l r : List SWalker} (h : slices_SortFunc_impl_Walker.f l = some r) : CtrS Try.prog 43 43 2 (l.map eWalker) [.v (.func (.func 44) #[] #[])] (r.map eWalker) := by
  unfold slices_SortFunc_impl_Walker.f at h
  obtain ⟨h1, h⟩ := ifN h
  obtain ⟨h2, h⟩ := ifN h
  obtain rfl := Option.some.inj h
  clear h
  have hok : ∀ m : List SWalker, rowOk 2 (m.map eWalker) := fun m x hx => by
    obtain ⟨z, _, rfl⟩ := List.mem_map.1 hx
    exact ⟨rfl, fun u hu => by simp [eWalker] at hu; rcases hu with rfl | rfl <;> rfl⟩
  refine ⟨enters_of Try.func43 rfl rfl, hok _, fun w B y hB ho => ?_⟩
  simp only [vluL, vlu]
  rcases ho.2 with ⟨rfl, h0⟩ | ⟨g, cap, cur, rfl, g1, g2, g3, g4, g5, g6⟩
  · rw [List.length_map] at h0
    obtain rfl : l = [] := List.eq_nil_of_length_eq_zero h0
    refine (AnyF.slices_SortFunc_none Try.laysSF none 0 _ w).mono ?_
    rintro e w' ⟨rfl, rfl⟩
    exact ⟨rfl, by simpa using ho, World.grownBy.refl _ _⟩
  · obtain ⟨ds, rfl⟩ := wkO_list l h1
    have hg : g < w.heap.size := (Array.getElem?_eq_some_iff.1 g2).1
    have hlen : ((ds.map Subtype.val).map eWalker).length = ds.length := by simp
    rw [hlen] at g3 g6 ⊢
    have hfl := flatK_list ds
    have hH : HoldsK encWk 2 w g 0 ds.toArray := by
      intro j hj
      have hj' : j < ds.length * 2 := by simpa using hj
      refine ⟨?_, by simp [World.frozen?, g2]⟩
      have q1 : (cur.toList.take (ds.length * 2))[j]? = ((flatK encWk 2 ds.toArray).toList)[j]? := by rw [g6, hfl]
      rw [List.getElem?_take_of_lt hj'] at q1
      simp only [World.cell?, g2, Nat.zero_add]
      simp only [Option.isSome_none, Bool.false_eq_true, if_false]
      rw [← Array.getElem?_toList, q1, Array.getElem?_toList, Array.getElem?_eq_getElem hj, getElem!_pos _ j hj]
      rfl
    have eg : ∀ args w, (callFunc 44 args).run Try.prog w = .ok (.enter 44 args) w := enters_of Try.func44 (by kernel_rfl) rfl
    have hcon := AnyQ.slices_SortFunc_total Try.laysSF 2 Try.isAgg43 Try.sizeOf43 encWk (fun _ => rfl) (fun x v hv => by simp [encWk] at hv; rcases hv with rfl | rfl <;> rfl) cfW cfW_swo 44 #[] g 0 cap ds.toArray w eg (fun _ _ _ _ x y => slices_SortFunc_impl_Walker.cmp x y _) hH hg (by simp at h2; simpa using h2) cfW_tot
    have hms : (ds.mergeSort fun x y => !(ltOf cfW) y x).map Subtype.val = (ds.map Subtype.val).mergeSort slices_SortFunc_impl_Walker.l2 := List.map_mergeSort fun a _ b _ => rfl
    have hml : (ds.mergeSort fun x y => !(ltOf cfW) y x).length = ds.length := List.length_mergeSort ds
    refine hcon.mono ?_
    rintro e w' ⟨rfl, n, os, rfl⟩
    refine ⟨rfl, ?_, grownBy_sortedV _⟩
    rw [← hms]
    have hf2 := flatK_list (ds.mergeSort fun x y => !(ltOf cfW) y x)
    have hsz : (flatK encWk 2 (ds.mergeSort fun x y => !(ltOf cfW) y x).toArray).size = ds.length * 2 := by simp [hml]
    have hcs : ds.length * 2 ≤ cur.size := by rw [g5]; exact Nat.mul_le_mul_right _ g3
    have hyl : (((ds.mergeSort fun x y => !(ltOf cfW) y x).map Subtype.val).map eWalker).length = ds.length := by rw [List.length_map, List.length_map, hml]
    have hyf : ((((ds.mergeSort fun x y => !(ltOf cfW) y x).map Subtype.val).map eWalker).flatten).length = ds.length * 2 := by rw [flatten_len (sz := 2) (fun x hx => (hok _ x hx).1), hyl]
    rw [hyl]
    refine ⟨hyf, .inr ⟨g, cap, _, rfl, g1, heap_sortedV _ g2, g3, g4, by simp [putCells, g5], ?_⟩⟩
    have ht := take_putCellsV cur (flatK encWk 2 (ds.mergeSort fun x y => !(ltOf cfW) y x).toArray) (by rw [hsz]; exact hcs)
    rw [hsz, hf2] at ht
    exact ht
set_option maxRecDepth 20000 in set_option maxHeartbeats 4000000 in open Nat renaming reduceAdd → p1, reduceSub → p2, reduceMul → p3, reduceDiv → p4, reduceBNe → p5, reduceBEq → p6, reduceEqDiff → p7, reduceLeDiff → p8, reduceLT → p9 in open Int renaming reduceLE → p10, reduceLT → p11, reduceEq → p12 in
theorem impl_PossibleWalkers.ctr {k : Nat} {a0_0 : Int} {a0_1 : Int} {a0_2 : Int} {l1 : List Int} {l2 : List Int} {r : List SWalker} (h : impl_PossibleWalkers.f k a0_0 a0_1 a0_2 l1 l2 = some r) : Ctr Try.prog 13 [.ag [.v (.int .i64 a0_0), .v (.int .i64 a0_1), .v (.int .i64 a0_2)], .pr 1 (l1.map eI), .pr 1 (l2.map eI)] (.ow 43 2 (r.map eWalker)) := by
  refine Ctr_of tyOk hm Try.func13 rfl rfl (by kernel_rfl) (n := 88) (rv := [.tmp 6]) rfl rfl ?_
  simp only [W, List.replicate]
  unfold impl_PossibleWalkers.f at h
  replace h := bnd h; obtain ⟨t1, A, h⟩ := h
  try simp only [W, p1, p2, p3, p4, p5, p6, p7, p8, p9, p10, p11, p12]
  refine callR (impl_MazeOk.ctr A) ?_
  replace h := ifT h; rcases h with ⟨rfl, h⟩ | ⟨rfl, h⟩
  · replace h := ifS h; rcases h with ⟨c3, h⟩ | ⟨c3, h⟩
    · replace h := bnd h; obtain ⟨t4, A, h⟩ := h
      try simp only [W, eq_true c3, p1, p2, p3, p4, p5, p6, p7, p8, p9, p10, p11, p12]
      refine callR (impl_areTurns.ctr A) ?_
      rcases k with _ | m5; · cases h
      rw [impl_PossibleWalkers.j0] at h
      replace h := ifT h; rcases h with ⟨c6, h⟩ | ⟨c6, h⟩
      · cases h
        try simp only [W, eq_true c3, c6, p1, p2, p3, p4, p5, p6, p7, p8, p9, p10, p11, p12]
      · try simp only [W, eq_true c3, c6, p1, p2, p3, p4, p5, p6, p7, p8, p9, p10, p11, p12]
        refine loopN (fun x : List Int × List Int × List (SWalker) × Int × Int × Int × Int => [.u, .pr 1 (List.map eI x.1), .pr 1 (List.map eI x.2.1), .bp 48 0, .u, .u, .u, .lo 112, .v (.int .i64 x.2.2.2.1), .u, .u, .u, .u, .u, .u, .u, .u, .u, .u, .u, .u, .u, .u, .u, .u, .u, .u, .u, .u, .u, .u, .u, .u, .u, .u, .u, .u, .u, .u, .u, .u, .u, .u, .u, .u, .u, .u, .u, .u, .u, .u, .u, .u, .u, .u, .u, .u, .u, .u, .u, .u, .u, .u, .u, .u, .u, .u, .u, .u, .u, .u, .u, .u, .u, .u, .u, .u, .u, .u, .u, .u, .u, .u, .u, .u, .u, .u, .u, .u, .u, .u]) (fun x => [(48, .box 30 [.v (.int .i64 x.2.2.2.2.1), .v (.int .i64 x.2.2.2.2.2.1), .v (.int .i64 x.2.2.2.2.2.2)]), (112, .row 43 2 (List.map eWalker x.2.2.1))]) (fun n x => impl_PossibleWalkers.l0 n x.1 x.2.1 x.2.2.1 x.2.2.2.1 x.2.2.2.2.1 x.2.2.2.2.2.1 x.2.2.2.2.2.2 = some r) (l1, l2, ([] : List (SWalker)), 0, a0_0, a0_1, a0_2) [] h (by simp only [W, p1, p2, p3, p4, p5, p6, p7, p8, p9, p10, p11, p12] <;> trivial) (by simp only [W, p1, p2, p3, p4, p5, p6, p7, p8, p9, p10, p11, p12] <;> trivial) rfl (fun _ h => by cases h) ?_
        intro n1 ⟨x7, x8, x9, x10, x11, x12, x13⟩ _ h
        simp only [impl_PossibleWalkers.l0] at h
        replace h := bnd h; obtain ⟨t14, A, h⟩ := h
        try simp only [W, p1, p2, p3, p4, p5, p6, p7, p8, p9, p10, p11, p12]
        refine callR (impl_CountCells.ctr A) ?_
        replace h := ifS h; rcases h with ⟨c15, h⟩ | ⟨c15, h⟩
        · replace h := bnd h; obtain ⟨t16, A, h⟩ := h
          try simp only [W, c15, p1, p2, p3, p4, p5, p6, p7, p8, p9, p10, p11, p12]
          refine callR (impl_PatternAt.ctr A) ?_
          replace h := ifN h; obtain ⟨c17, h⟩ := h
          try simp only [W, c15, c17, p1, p2, p3, p4, p5, p6, p7, p8, p9, p10, p11, p12]
          refine loopN (fun x : List Int × List Int × List (SWalker) × Int × Bool × Int × Int × Int × Int × Int × Int => [.u, .pr 1 (List.map eI x.1), .pr 1 (List.map eI x.2.1), .bp 48 0, .u, .u, .u, .lo 112, .v (.int .i64 x.2.2.2.1), .bp 144 0, .v (.bool x.2.2.2.2.1), .v (.int .i64 x.2.2.2.2.2.1), .u, .u, .u, .u, .u, .u, .u, .u, .u, .u, .u, .u, .u, .u, .u, .u, .u, .bp 48 0, .u, .u, .u, .u, .u, .u, .u, .u, .u, .u, .u, .u, .u, .u, .u, .u, .u, .u, .u, .u, .u, .u, .u, .u, .u, .u, .u, .u, .u, .u, .u, .u, .u, .u, .u, .u, .u, .u, .u, .u, .u, .u, .u, .u, .u, .u, .u, .u, .u, .u, .u, .u, .u, .u, .u, .u, .u, .u, .u, .u, .u]) (fun x => [(48, .box 30 [.v (.int .i64 x.2.2.2.2.2.2.1), .v (.int .i64 x.2.2.2.2.2.2.2.1), .v (.int .i64 x.2.2.2.2.2.2.2.2.1)]), (112, .row 43 2 (List.map eWalker x.2.2.1)), (144, .box 43 [.v (.int .i64 x.2.2.2.2.2.2.2.2.2.1), .v (.int .i64 x.2.2.2.2.2.2.2.2.2.2)])]) (fun n x => impl_PossibleWalkers.l1 n x.1 x.2.1 x.2.2.1 x.2.2.2.1 x.2.2.2.2.1 x.2.2.2.2.2.1 x.2.2.2.2.2.2.1 x.2.2.2.2.2.2.2.1 x.2.2.2.2.2.2.2.2.1 x.2.2.2.2.2.2.2.2.2.1 x.2.2.2.2.2.2.2.2.2.2 = some r) (x7, x8, x9, x10, (t16 == (rd x7 0)), 0, x11, x12, x13, (wrap64 (Int.tdiv x10 4)), (Int.tmod x10 4)) [] h (by simp only [W, p1, p2, p3, p4, p5, p6, p7, p8, p9, p10, p11, p12] <;> trivial) (by simp only [W, p1, p2, p3, p4, p5, p6, p7, p8, p9, p10, p11, p12] <;> trivial) rfl (fun _ h => by cases h) ?_
          intro n2 ⟨x18, x19, x20, x21, x22, x23, x24, x25, x26, x27, x28⟩ _ h
          simp only [impl_PossibleWalkers.l1] at h
          replace h := ifT h; rcases h with ⟨rfl, h⟩ | ⟨rfl, h⟩
          · rcases n2 with _ | m30; · cases h
            rw [impl_PossibleWalkers.j3] at h
            replace h := ifT h; rcases h with ⟨c31, h⟩ | ⟨c31, h⟩
            · replace h := ifN h; obtain ⟨c32, h⟩ := h
              replace h := ifN h; obtain ⟨c33, h⟩ := h
              replace h := bnd h; obtain ⟨⟨t34_1, t34_2, t34_3⟩, A, h⟩ := h
              dsimp only at h
              try simp only [W, c31, c32, c33, p1, p2, p3, p4, p5, p6, p7, p8, p9, p10, p11, p12]
              refine callR (impl_went.ctr A) ?_
              replace h := ifT h; rcases h with ⟨rfl, h⟩ | ⟨rfl, h⟩
              · replace h := bnd h; obtain ⟨t36, A, h⟩ := h
                try simp only [W, c31, c32, c33, p1, p2, p3, p4, p5, p6, p7, p8, p9, p10, p11, p12]
                refine callR (impl_PatternAt.ctr A) ?_
                replace h := ifN h; obtain ⟨c37, h⟩ := h
                replace h := ifN h; obtain ⟨c38, h⟩ := h
                try simp only [W, c31, c32, c33, c37, c38, p1, p2, p3, p4, p5, p6, p7, p8, p9, p10, p11, p12]
                exact nextN (x18, x19, x20, x21, (t36 == (rd x18 (wrap64 (x23 + 1)))), (wrap64 (x23 + 1)), x24, x25, x26, t34_1, t34_2) [] m30 (by omega) h (by simp only [W, p1, p2, p3, p4, p5, p6, p7, p8, p9, p10, p11, p12] <;> trivial) (by simp only [W, p1, p2, p3, p4, p5, p6, p7, p8, p9, p10, p11, p12] <;> trivial) rfl
              · try simp only [W, c31, c32, c33, p1, p2, p3, p4, p5, p6, p7, p8, p9, p10, p11, p12]
                exact nextN (x18, x19, x20, x21, false, (wrap64 (x23 + 1)), x24, x25, x26, t34_1, t34_2) [] m30 (by omega) h (by simp only [W, p1, p2, p3, p4, p5, p6, p7, p8, p9, p10, p11, p12] <;> trivial) (by simp only [W, p1, p2, p3, p4, p5, p6, p7, p8, p9, p10, p11, p12] <;> trivial) rfl
            · rw [if_pos rfl] at h
              replace h := bnd h; obtain ⟨t33, A, h⟩ := h
              try simp only [W, c31, p1, p2, p3, p4, p5, p6, p7, p8, p9, p10, p11, p12]
              refine callR (slices_Contains_impl_Walker.ctr A) ?_
              replace h := ifT h; rcases h with ⟨rfl, h⟩ | ⟨rfl, h⟩
              · try simp only [W, c31, p1, p2, p3, p4, p5, p6, p7, p8, p9, p10, p11, p12]
                exact nextN (x18, x19, x20, (wrap64 (x21 + 1)), x24, x25, x26) [] m30 (by omega) h (by simp only [W, p1, p2, p3, p4, p5, p6, p7, p8, p9, p10, p11, p12] <;> trivial) (by simp only [W, p1, p2, p3, p4, p5, p6, p7, p8, p9, p10, p11, p12] <;> trivial) rfl
              · replace h := ifN h; obtain ⟨c35, h⟩ := h
                try simp only [W, c31, c35, p1, p2, p3, p4, p5, p6, p7, p8, p9, p10, p11, p12]
                exact nextN (x18, x19, (x20 ++ [(⟨x27, x28⟩ : SWalker)]), (wrap64 (x21 + 1)), x24, x25, x26) [(112, 1392)] m30 (by omega) h (by simp only [W, p1, p2, p3, p4, p5, p6, p7, p8, p9, p10, p11, p12] <;> trivial) (by simp only [W, p1, p2, p3, p4, p5, p6, p7, p8, p9, p10, p11, p12] <;> trivial) rfl
          · rcases n2 with _ | m30; · cases h
            rw [impl_PossibleWalkers.j3] at h
            rw [if_neg (by decide)] at h
            rw [if_neg (by decide)] at h
            try simp only [W, p1, p2, p3, p4, p5, p6, p7, p8, p9, p10, p11, p12]
            exact nextN (x18, x19, x20, (wrap64 (x21 + 1)), x24, x25, x26) [] m30 (by omega) h (by simp only [W, p1, p2, p3, p4, p5, p6, p7, p8, p9, p10, p11, p12] <;> trivial) (by simp only [W, p1, p2, p3, p4, p5, p6, p7, p8, p9, p10, p11, p12] <;> trivial) rfl
        · replace h := bnd h; obtain ⟨t16, A, h⟩ := h
          try simp only [W, c15, p1, p2, p3, p4, p5, p6, p7, p8, p9, p10, p11, p12]
          refine callS (by simp only [W, p1, p2, p3, p4, p5, p6, p7, p8, p9, p10, p11, p12]) rfl (slices_SortFunc_impl_Walker.sorts A) ⟨_, rfl, ?_⟩
          cases h
          try simp only [W, c15, p1, p2, p3, p4, p5, p6, p7, p8, p9, p10, p11, p12]
    · rcases k with _ | m4; · cases h
      rw [impl_PossibleWalkers.j0] at h
      rw [if_pos rfl] at h
      cases h
      try simp only [W, c3, p1, p2, p3, p4, p5, p6, p7, p8, p9, p10, p11, p12]
  · rcases k with _ | m3; · cases h
    rw [impl_PossibleWalkers.j0] at h
    rw [if_pos rfl] at h
    cases h
    try simp only [W, p1, p2, p3, p4, p5, p6, p7, p8, p9, p10, p11, p12]
end Go.Proofs.Ytccjanhdnheclaa.F
end

section
namespace Go.Proofs.Ytccjanhdnheclaa.F
open Go.RowKit Go.Proofs.YtccjanhdnheclaaW.PrintWords Go.Proofs.YtccjanhdnheclaaW.PrintLast Go.Proofs.YtccjanhdnheclaaW.PrintMore
set_option linter.unusedVariables false
set_option linter.unusedSimpArgs false
def laws_FnExactPossibleWalkers.j0 : Nat → List Int → List Int → List (SWalker) → List (SWalker) → Bool → Int → Int → Int → Option (Bool)
  | 0, _, _, _, _, _, _, _, _ => none
  | k + 1, x1, x2, x7, x10, x64, x292000, x292001, x292002 => if x64 = true then (some false) else ((laws_markWalkerS.f k x10 1).bind fun bt330 => ((laws_heldWalkerS.f k bt330.2 1).bind fun t332 => (if t332 < 0 then (some false) else (if t332 = bt330.1 then ((laws_toMaze.f x292000 x292001 x292002).bind fun bt333 => ((laws_toIntS.f k x1).bind fun t336 => ((laws_toIntS.f k x2).bind fun t339 => ((impl_PossibleWalkers.f k bt333.1 bt333.2.1 bt333.2.2 t336 t339).bind fun t342 => ((laws_eqWalkerS.f k t342 x7).bind fun t345 => (if t345 = true then ((laws_heldWalkerS.f k bt330.2 1).bind fun t346 => (if t346 < 0 then (some false) else (if t346 = bt330.1 then (some true) else (some false)))) else (some false))))))) else (some false)))))
def laws_FnExactPossibleWalkers.f (k : Nat) (a0_0 : Int) (a0_1 : Int) (a0_2 : Int) (l1 : List Int) (l2 : List Int) : Option (Bool) := if (l1.length : Int) > 1048576 then (some true) else (if (l2.length : Int) > 1048576 then (some true) else ((laws_toMaze.f a0_0 a0_1 a0_2).bind fun bt292 => ((laws_toIntS.f k l1).bind fun t295 => ((laws_toIntS.f k l2).bind fun t298 => ((spec_PossibleWalkers.f k bt292.1 bt292.2.1 bt292.2.2 t295 t298).bind fun t301 => ((laws_toIntS.f k l1).bind fun t304 => ((laws_toIntS.f k l2).bind fun t307 => ((laws_toMaze.f a0_0 a0_1 a0_2).bind fun bt310 => ((impl_PossibleWalkers.f k bt310.1 bt310.2.1 bt310.2.2 t304 t307).bind fun t313 => ((laws_eqWalkerS.f k t313 t301).bind fun t316 => (if t316 = true then ((laws_toIntS.f k l1).bind fun t317 => ((laws_eqIntS.f k t304 t317).bind fun t320 => (if t320 = true then ((laws_toIntS.f k l2).bind fun t321 => ((laws_eqIntS.f k t307 t321).bind fun t324 => (if t324 = true then ((laws_markIntS.f k t304 1).bind fun bt325 => ((laws_markIntS.f k t307 bt325.1).bind fun bt327 => (if bt327.1 < 0 then (laws_FnExactPossibleWalkers.j0 k l1 l2 t301 t313 true a0_0 a0_1 a0_2) else ((laws_eqWalkerS.f k t313 t301).bind fun t329 => (laws_FnExactPossibleWalkers.j0 k l1 l2 t301 t313 (!t329) a0_0 a0_1 a0_2))))) else (some false)))) else (some false)))) else (some false))))))))))))
end Go.Proofs.Ytccjanhdnheclaa.F
end

section
namespace Go.Proofs.Ytccjanhdnheclaa.F
open Go.RowKit Go.Proofs.YtccjanhdnheclaaW.PrintWords Go.Proofs.YtccjanhdnheclaaW.PrintLast Go.Proofs.YtccjanhdnheclaaW.PrintMore
set_option linter.unusedVariables false
set_option linter.unusedSimpArgs false
attribute [local go_sem] max2_int min2_int max_two min_two
set_option maxRecDepth 20000 in set_option maxHeartbeats 4000000 in open Nat renaming reduceAdd → p1, reduceSub → p2, reduceMul → p3, reduceDiv → p4, reduceBNe → p5, reduceBEq → p6, reduceEqDiff → p7, reduceLeDiff → p8, reduceLT → p9 in open Int renaming reduceLE → p10, reduceLT → p11, reduceEq → p12 in
theorem laws_FnExactPossibleWalkers.ctr {k : Nat} {a0_0 : Int} {a0_1 : Int} {a0_2 : Int} {l1 : List Int} {l2 : List Int} {r : Bool} (h : laws_FnExactPossibleWalkers.f k a0_0 a0_1 a0_2 l1 l2 = some r) : Ctr Try.prog 4 [.ag [.v (.int .i64 a0_0), .v (.int .i64 a0_1), .v (.int .i64 a0_2)], .pr 1 (l1.map eI), .pr 1 (l2.map eI)] (.v (.bool r)) := by
  refine Ctr_of tyOk hm Try.func4 rfl rfl (by kernel_rfl) (n := 92) (rv := [.tmp 6]) rfl rfl ?_
  simp only [W, List.replicate]
  unfold laws_FnExactPossibleWalkers.f at h
  replace h := ifS h; rcases h with ⟨c1, h⟩ | ⟨c1, h⟩
  · cases h
    try simp only [W, c1, p1, p2, p3, p4, p5, p6, p7, p8, p9, p10, p11, p12]
  · replace h := ifS h; rcases h with ⟨c2, h⟩ | ⟨c2, h⟩
    · cases h
      try simp only [W, c1, c2, p1, p2, p3, p4, p5, p6, p7, p8, p9, p10, p11, p12]
    · replace h := bnd h; obtain ⟨⟨t3_1, t3_2, t3_3⟩, A, h⟩ := h
      dsimp only at h
      try simp only [W, c1, c2, p1, p2, p3, p4, p5, p6, p7, p8, p9, p10, p11, p12]
      refine callR (laws_toMaze.ctr A) ?_
      replace h := bnd h; obtain ⟨t4, A, h⟩ := h
      try simp only [W, c1, c2, p1, p2, p3, p4, p5, p6, p7, p8, p9, p10, p11, p12]
      refine callR (laws_toIntS.ctr A) ?_
      replace h := bnd h; obtain ⟨t5, A, h⟩ := h
      try simp only [W, c1, c2, p1, p2, p3, p4, p5, p6, p7, p8, p9, p10, p11, p12]
      refine callR (laws_toIntS.ctr A) ?_
      replace h := bnd h; obtain ⟨t6, A, h⟩ := h
      try simp only [W, c1, c2, p1, p2, p3, p4, p5, p6, p7, p8, p9, p10, p11, p12]
      refine callR (spec_PossibleWalkers.ctr A) ?_
      replace h := bnd h; obtain ⟨t7, A, h⟩ := h
      try simp only [W, c1, c2, p1, p2, p3, p4, p5, p6, p7, p8, p9, p10, p11, p12]
      refine callR (laws_toIntS.ctr A) ?_
      replace h := bnd h; obtain ⟨t8, A, h⟩ := h
      try simp only [W, c1, c2, p1, p2, p3, p4, p5, p6, p7, p8, p9, p10, p11, p12]
      refine callR (laws_toIntS.ctr A) ?_
      replace h := bnd h; obtain ⟨⟨t9_1, t9_2, t9_3⟩, A, h⟩ := h
      dsimp only at h
      try simp only [W, c1, c2, p1, p2, p3, p4, p5, p6, p7, p8, p9, p10, p11, p12]
      refine callR (laws_toMaze.ctr A) ?_
      replace h := bnd h; obtain ⟨t10, A, h⟩ := h
      try simp only [W, c1, c2, p1, p2, p3, p4, p5, p6, p7, p8, p9, p10, p11, p12]
      refine callR (impl_PossibleWalkers.ctr A) ?_
      replace h := bnd h; obtain ⟨t11, A, h⟩ := h
      try simp only [W, c1, c2, p1, p2, p3, p4, p5, p6, p7, p8, p9, p10, p11, p12]
      refine callR (laws_eqWalkerS.ctr A) ?_
      replace h := ifT h; rcases h with ⟨rfl, h⟩ | ⟨rfl, h⟩
      · replace h := bnd h; obtain ⟨t13, A, h⟩ := h
        try simp only [W, c1, c2, p1, p2, p3, p4, p5, p6, p7, p8, p9, p10, p11, p12]
        refine callR (laws_toIntS.ctr A) ?_
        replace h := bnd h; obtain ⟨t14, A, h⟩ := h
        try simp only [W, c1, c2, p1, p2, p3, p4, p5, p6, p7, p8, p9, p10, p11, p12]
        refine callR (laws_eqIntS.ctr A) ?_
        replace h := ifT h; rcases h with ⟨rfl, h⟩ | ⟨rfl, h⟩
        · replace h := bnd h; obtain ⟨t16, A, h⟩ := h
          try simp only [W, c1, c2, p1, p2, p3, p4, p5, p6, p7, p8, p9, p10, p11, p12]
          refine callR (laws_toIntS.ctr A) ?_
          replace h := bnd h; obtain ⟨t17, A, h⟩ := h
          try simp only [W, c1, c2, p1, p2, p3, p4, p5, p6, p7, p8, p9, p10, p11, p12]
          refine callR (laws_eqIntS.ctr A) ?_
          replace h := ifT h; rcases h with ⟨rfl, h⟩ | ⟨rfl, h⟩
          · replace h := bnd h; obtain ⟨⟨t19_1, t19_2⟩, A, h⟩ := h
            dsimp only at h
            try simp only [W, c1, c2, p1, p2, p3, p4, p5, p6, p7, p8, p9, p10, p11, p12]
            refine callM (laws_markIntS.mark A (by rfl)) (.inl rfl) (by simp only [W, p1, p2, p3, p4, p5, p6, p7, p8, p9, p10, p11, p12] <;> trivial) ?_
            try simp only [W, c1, c2, p1, p2, p3, p4, p5, p6, p7, p8, p9, p10, p11, p12]
            replace h := bnd h; obtain ⟨⟨t20_1, t20_2⟩, A, h⟩ := h
            dsimp only at h
            try simp only [W, c1, c2, p1, p2, p3, p4, p5, p6, p7, p8, p9, p10, p11, p12]
            refine callM (laws_markIntS.mark A (by rfl)) (.inl rfl) (by simp only [W, p1, p2, p3, p4, p5, p6, p7, p8, p9, p10, p11, p12] <;> trivial) ?_
            try simp only [W, c1, c2, p1, p2, p3, p4, p5, p6, p7, p8, p9, p10, p11, p12]
            replace h := ifS h; rcases h with ⟨c21, h⟩ | ⟨c21, h⟩
            · rcases k with _ | m22; · cases h
              rw [laws_FnExactPossibleWalkers.j0] at h
              rw [if_pos rfl] at h
              cases h
              try simp only [W, c1, c2, c21, p1, p2, p3, p4, p5, p6, p7, p8, p9, p10, p11, p12]
            · replace h := bnd h; obtain ⟨t22, A, h⟩ := h
              try simp only [W, c1, c2, c21, p1, p2, p3, p4, p5, p6, p7, p8, p9, p10, p11, p12]
              refine callR (laws_eqWalkerS.ctr A) ?_
              rcases k with _ | m23; · cases h
              rw [laws_FnExactPossibleWalkers.j0] at h
              replace h := ifT h; rcases h with ⟨c24, h⟩ | ⟨c24, h⟩
              · cases h
                try simp only [W, c1, c2, c21, c24, p1, p2, p3, p4, p5, p6, p7, p8, p9, p10, p11, p12]
              · replace h := bnd h; obtain ⟨⟨t25_1, t25_2⟩, A, h⟩ := h
                dsimp only at h
                try simp only [W, c1, c2, c21, c24, p1, p2, p3, p4, p5, p6, p7, p8, p9, p10, p11, p12]
                refine callM (laws_markWalkerS.mark A (by rfl)) (.inl rfl) (by simp only [W, p1, p2, p3, p4, p5, p6, p7, p8, p9, p10, p11, p12] <;> trivial) ?_
                try simp only [W, c1, c2, c21, c24, p1, p2, p3, p4, p5, p6, p7, p8, p9, p10, p11, p12]
                replace h := bnd h; obtain ⟨t26, A, h⟩ := h
                try simp only [W, c1, c2, c21, c24, p1, p2, p3, p4, p5, p6, p7, p8, p9, p10, p11, p12]
                refine callR (laws_heldWalkerS.ctr A) ?_
                replace h := ifS h; rcases h with ⟨c27, h⟩ | ⟨c27, h⟩
                · cases h
                  try simp only [W, c1, c2, c21, c24, c27, p1, p2, p3, p4, p5, p6, p7, p8, p9, p10, p11, p12]
                · replace h := ifS h; rcases h with ⟨c28, h⟩ | ⟨c28, h⟩
                  · replace h := bnd h; obtain ⟨⟨t29_1, t29_2, t29_3⟩, A, h⟩ := h
                    dsimp only at h
                    try simp only [W, c1, c2, c21, c24, c27, eq_true c28, p1, p2, p3, p4, p5, p6, p7, p8, p9, p10, p11, p12]
                    refine callR (laws_toMaze.ctr A) ?_
                    replace h := bnd h; obtain ⟨t30, A, h⟩ := h
                    try simp only [W, c1, c2, c21, c24, c27, eq_true c28, p1, p2, p3, p4, p5, p6, p7, p8, p9, p10, p11, p12]
                    refine callR (laws_toIntS.ctr A) ?_
                    replace h := bnd h; obtain ⟨t31, A, h⟩ := h
                    try simp only [W, c1, c2, c21, c24, c27, eq_true c28, p1, p2, p3, p4, p5, p6, p7, p8, p9, p10, p11, p12]
                    refine callR (laws_toIntS.ctr A) ?_
                    replace h := bnd h; obtain ⟨t32, A, h⟩ := h
                    try simp only [W, c1, c2, c21, c24, c27, eq_true c28, p1, p2, p3, p4, p5, p6, p7, p8, p9, p10, p11, p12]
                    refine callR (impl_PossibleWalkers.ctr A) ?_
                    replace h := bnd h; obtain ⟨t33, A, h⟩ := h
                    try simp only [W, c1, c2, c21, c24, c27, eq_true c28, p1, p2, p3, p4, p5, p6, p7, p8, p9, p10, p11, p12]
                    refine callR (laws_eqWalkerS.ctr A) ?_
                    replace h := ifT h; rcases h with ⟨rfl, h⟩ | ⟨rfl, h⟩
                    · replace h := bnd h; obtain ⟨t35, A, h⟩ := h
                      try simp only [W, c1, c2, c21, c24, c27, eq_true c28, p1, p2, p3, p4, p5, p6, p7, p8, p9, p10, p11, p12]
                      refine callR (laws_heldWalkerS.ctr A) ?_
                      replace h := ifS h; rcases h with ⟨c36, h⟩ | ⟨c36, h⟩
                      · cases h
                        try simp only [W, c1, c2, c21, c24, c27, eq_true c28, c36, p1, p2, p3, p4, p5, p6, p7, p8, p9, p10, p11, p12]
                      · replace h := ifS h; rcases h with ⟨c37, h⟩ | ⟨c37, h⟩
                        · cases h
                          try simp only [W, c1, c2, c21, c24, c27, eq_true c28, c36, eq_true c37, p1, p2, p3, p4, p5, p6, p7, p8, p9, p10, p11, p12]
                        · cases h
                          try simp only [W, c1, c2, c21, c24, c27, eq_true c28, c36, c37, p1, p2, p3, p4, p5, p6, p7, p8, p9, p10, p11, p12]
                    · cases h
                      try simp only [W, c1, c2, c21, c24, c27, eq_true c28, p1, p2, p3, p4, p5, p6, p7, p8, p9, p10, p11, p12]
                  · cases h
                    try simp only [W, c1, c2, c21, c24, c27, c28, p1, p2, p3, p4, p5, p6, p7, p8, p9, p10, p11, p12]
          · cases h
            try simp only [W, c1, c2, p1, p2, p3, p4, p5, p6, p7, p8, p9, p10, p11, p12]
        · cases h
          try simp only [W, c1, c2, p1, p2, p3, p4, p5, p6, p7, p8, p9, p10, p11, p12]
      · cases h
        try simp only [W, c1, c2, p1, p2, p3, p4, p5, p6, p7, p8, p9, p10, p11, p12]
theorem laws_FnExactPossibleWalkers.calls (k : Nat) (a0_0 : Int) (a0_1 : Int) (a0_2 : Int) (A1 : Option Addr) (c1 : Nat) (l1 : List Int) (A2 : Option Addr) (c2 : Nat) (l2 : List Int) (w : World) (hr1 : Kd.C (Kd.int .i64) w A1 l1.length l1) (hc1 : l1.length ≤ c1) (hr2 : Kd.C (Kd.int .i64) w A2 l2.length l2) (hc2 : l2.length ≤ c2) (h : laws_FnExactPossibleWalkers.f k a0_0 a0_1 a0_2 l1 l2 = some true) :
    Calls Try.prog 4 #[.agg #[.int .i64 a0_0, .int .i64 a0_1, .int .i64 a0_2], .slice A1 l1.length c1, .slice A2 l2.length c2] w fun e w' => e = .returned (.bool true) ∧ Below w.heap.size w w' := by
  refine ((laws_FnExactPossibleWalkers.ctr h).2 w [.agg #[.int .i64 a0_0, .int .i64 a0_1, .int .i64 a0_2], .slice A1 l1.length c1, .slice A2 l2.length c2] (by simp only [RepL, Rep]; exact ⟨_, _, rfl, ⟨_, rfl, _, _, rfl, rfl, _, _, rfl, rfl, _, _, rfl, rfl, rfl⟩, _, _, rfl, at_of_C E_eI hr1 hc1, _, _, rfl, at_of_C E_eI hr2 hc2, rfl⟩)).mono ?_
  rintro _ _ ⟨y, L, rfl, hR, _, hb⟩
  exact ⟨congrArg Ending.returned (RepR_pln rfl hR).1, hb⟩
end Go.Proofs.Ytccjanhdnheclaa.F
end

section
namespace Go.Proofs.Ytccjanhdnheclaa.F
open Go.RowKit Go.Proofs.YtccjanhdnheclaaW.PrintWords Go.Proofs.YtccjanhdnheclaaW.PrintLast Go.Proofs.YtccjanhdnheclaaW.PrintMore
set_option linter.unusedVariables false
set_option linter.unusedSimpArgs false
theorem w64 {x : Int} (h1 : -9223372036854775808 ≤ x) (h2 : x ≤ 9223372036854775807) : wrap64 x = x := by unfold wrap64; omega
theorem wrapi_nat {n : Nat} (h : n < 9223372036854775808) : IntKind.i64.wrap (n : Int) = (n : Int) := by rw [IntKind.wrap_i64]; omega
theorem bits_and_i {a b : Nat} (ha : a < 2 ^ 63) (hb : b < 2 ^ 63) : Go.bits .and .i64 (a : Int) (b : Int) = ((a &&& b : Nat) : Int) :=
  (bits_nat .i64 63 (by decide) (fun n h0 h1 => by rw [IntKind.wrap_i64]; omega) a b ha hb).1
theorem shl_one {g : Nat} (h : g < 63) : shl .i64 1 (g : Int) = ((2 ^ g : Nat) : Int) := by
  unfold shl
  have : min ((g : Int).toNat) IntKind.i64.bits = g := by simp [IntKind.bits]; omega
  rw [this, Int.one_mul]
  have hp : (2 : Nat) ^ g ≤ 2 ^ 62 := Nat.pow_le_pow_right (by decide) (by omega)
  have : ((2 : Int) ^ g) = ((2 ^ g : Nat) : Int) := by simp
  rw [this]
  exact wrapi_nat (by omega)
theorem shr_nat {a g : Nat} (ha : a < 2 ^ 63) : shr .i64 (a : Int) (g : Int) = ((a >>> g : Nat) : Int) := by
  unfold shr
  rw [Nat.shiftRight_eq_div_pow]
  by_cases hg : g ≤ 64
  · have : min ((g : Int).toNat) IntKind.i64.bits = g := by simp [IntKind.bits]; omega
    rw [this]
    have : ((2 : Int) ^ g) = ((2 ^ g : Nat) : Int) := by simp
    rw [this]
    omega
  · have : min ((g : Int).toNat) IntKind.i64.bits = 64 := by simp [IntKind.bits]; omega
    rw [this]
    have hp : (2 : Nat) ^ 64 ≤ 2 ^ g := Nat.pow_le_pow_right (by decide) (by omega)
    rw [Nat.div_eq_of_lt (by omega)]
    have : (a : Int) / 2 ^ 64 = 0 := by omega
    simpa using this
def opn (o g : Int) : Bool := o.toNat.testBit g.toNat
theorem bit_test {o g : Int} (ho : 0 ≤ o) (ho2 : o < 9223372036854775808) (hg : 0 ≤ g) : (Go.bits .and .i64 (shr .i64 o g) 1 == 1) = opn o g := by
  obtain ⟨a, rfl⟩ := Int.eq_ofNat_of_zero_le ho
  obtain ⟨n, rfl⟩ := Int.eq_ofNat_of_zero_le hg
  have ha : a < 2 ^ 63 := by omega
  rw [shr_nat ha]
  have h2 : a >>> n < 2 ^ 63 := Nat.lt_of_le_of_lt (by rw [Nat.shiftRight_eq_div_pow]; exact Nat.div_le_self _ _) ha
  unfold opn
  simp only [Int.toNat_natCast]
  rw [show ((1 : Int)) = ((1 : Nat) : Int) from rfl, bits_and_i h2 (by decide), Nat.testBit, Nat.and_one_is_mod, Nat.one_and_eq_mod_two]
  rcases Nat.mod_two_eq_zero_or_one (a >>> n) with h | h <;> simp [h]
theorem fold_loop {σ ρ : Type} {F : Nat → σ → Int → Option ρ} {n c : Nat} {step : σ → Nat → σ} {fin : σ → ρ} {I : σ → Nat → Prop}
    (hF : ∀ k s (i : Nat), c ≤ k → i < n → I s i → F (k + 1) s (i : Int) = F k (step s i) ((i : Int) + 1)) (hI : ∀ s i, i < n → I s i → I (step s i) (i + 1))
    (hE : ∀ k s, c ≤ k → I s n → F (k + 1) s (n : Int) = some (fin s)) :
    ∀ (d i : Nat) (k : Nat) (s : σ), i + d = n → d + c + 1 ≤ k → I s i → F k s (i : Int) = some (fin ((List.range' i d).foldl step s))
  | 0, i, k, s, hi, hk, h => by
    obtain ⟨m, rfl⟩ : ∃ m, k = m + 1 := ⟨k - 1, by omega⟩
    obtain rfl : i = n := by omega
    simpa using hE m s (by omega) h
  | d + 1, i, k, s, hi, hk, h => by
    obtain ⟨m, rfl⟩ : ∃ m, k = m + 1 := ⟨k - 1, by omega⟩
    rw [hF m s i (by omega) (by omega) h, List.range'_succ, List.foldl_cons]
    have := fold_loop (c := c) (step := step) (fin := fin) hF hI hE d (i + 1) m (step s i) (by omega) (by omega) (hI s i (by omega) h)
    rwa [Int.natCast_add] at this
theorem inv_loop {σ ρ : Type} {F : Nat → σ → Int → Option ρ} {n c : Nat} {fin : σ → ρ} {I : σ → Nat → Prop}
    (hF : ∀ k s (i : Nat), c ≤ k → i < n → I s i → ∃ s', I s' (i + 1) ∧ F (k + 1) s (i : Int) = F k s' ((i : Int) + 1))
    (hE : ∀ k s, c ≤ k → I s n → F (k + 1) s (n : Int) = some (fin s)) :
    ∀ (d i : Nat) (k : Nat) (s : σ), i + d = n → d + c + 1 ≤ k → I s i → ∃ s', I s' n ∧ F k s (i : Int) = some (fin s')
  | 0, i, k, s, hi, hk, h => by
    obtain ⟨m, rfl⟩ : ∃ m, k = m + 1 := ⟨k - 1, by omega⟩
    obtain rfl : i = n := by omega
    exact ⟨s, h, hE m s (by omega) h⟩
  | d + 1, i, k, s, hi, hk, h => by
    obtain ⟨m, rfl⟩ : ∃ m, k = m + 1 := ⟨k - 1, by omega⟩
    obtain ⟨s', h', e⟩ := hF m s i (by omega) (by omega) h
    obtain ⟨s2, h2, e2⟩ := inv_loop (c := c) (fin := fin) hF hE d (i + 1) m s' (by omega) (by omega) h'
    rw [Int.natCast_add] at e2
    exact ⟨s2, h2, e.trans e2⟩
theorem set_loop {α β : Type} (z : α) {F : Nat → List β → Int → Option (List β)} {l : List α} {g : α → β} {c : Nat}
    (hF : ∀ k acc (i : Nat), c ≤ k → i < l.length → acc.length = l.length → F (k + 1) acc (i : Int) = F k (acc.set i (g (l.getD i z))) ((i : Int) + 1)) (hE : ∀ k acc, c ≤ k → F (k + 1) acc (l.length : Int) = some acc) {k : Nat} (acc : List β) (ha : acc.length = l.length) (hk : l.length + c + 1 ≤ k) :
    F k acc 0 = some (l.map g) := by
  have key : ∀ (d i : Nat) (k : Nat) (acc : List β), i + d = l.length → d + c + 1 ≤ k → acc.length = l.length → F k acc (i : Int) = some (acc.take i ++ (l.drop i).map g) := by
    intro d
    induction d with
    | zero =>
      intro i k acc hi hk ha
      obtain ⟨m, rfl⟩ : ∃ m, k = m + 1 := ⟨k - 1, by omega⟩
      obtain rfl : i = l.length := by omega
      rw [hE m acc (by omega), List.take_of_length_le (by omega), List.drop_of_length_le (by omega)]
      simp
    | succ d ih =>
      intro i k acc hi hk ha
      obtain ⟨m, rfl⟩ : ∃ m, k = m + 1 := ⟨k - 1, by omega⟩
      have hil : i < l.length := by omega
      rw [hF m acc i (by omega) hil ha]
      have := ih (i + 1) m (acc.set i (g (l.getD i z))) (by omega) (by omega) (by simpa using ha)
      rw [Int.natCast_add] at this
      refine this.trans ?_
      congr 1
      rw [List.take_add_one, List.getElem?_set]
      simp [ha, hil, List.getD_eq_getElem?_getD, List.getElem?_eq_getElem hil]
      have e1 : List.drop i (List.map g l) = g l[i] :: List.drop (i + 1) (List.map g l) := by
        rw [List.drop_eq_getElem_cons (l := List.map g l) (i := i) (by simpa using hil)]
        simp
      rw [e1, List.take_set_of_le (Nat.le_refl _)]
  have := key l.length 0 k acc (by omega) (by omega) ha
  simpa using this
theorem all_loop {α : Type} (z : α) {F : Nat → Int → Option Bool} {l : List α} {p : α → Bool} {c : Nat} {b : Bool}
    (hF : ∀ k (i : Nat), c ≤ k → i < l.length → F (k + 1) (i : Int) = if p (l.getD i z) = true then F k ((i : Int) + 1) else some false) (hE : ∀ k, c ≤ k → F (k + 1) (l.length : Int) = some b) {k : Nat} (hk : l.length + c + 1 ≤ k) :
    F k 0 = some (l.all p && b) := by
  have key : ∀ (d i : Nat) (k : Nat), i + d = l.length → d + c + 1 ≤ k → F k (i : Int) = some ((l.drop i).all p && b) := by
    intro d
    induction d with
    | zero =>
      intro i k hi hk
      obtain ⟨m, rfl⟩ : ∃ m, k = m + 1 := ⟨k - 1, by omega⟩
      obtain rfl : i = l.length := by omega
      rw [hE m (by omega), List.drop_of_length_le (by omega)]
      simp
    | succ d ih =>
      intro i k hi hk
      obtain ⟨m, rfl⟩ : ∃ m, k = m + 1 := ⟨k - 1, by omega⟩
      have hil : i < l.length := by omega
      rw [hF m i (by omega) hil, List.drop_eq_getElem_cons hil, List.all_cons]
      have e : l.getD i z = l[i] := by rw [List.getD_eq_getElem?_getD, List.getElem?_eq_getElem hil]; rfl
      rw [e]
      have := ih (i + 1) m (by omega) (by omega)
      rw [Int.natCast_add] at this
      by_cases h : p l[i] = true
      · rw [if_pos h, h]
        simpa using this
      · rw [if_neg h]
        simp at h
        simp [h]
  have := key l.length 0 k (by omega) (by omega)
  simpa using this
theorem w64_succ {i n : Nat} (h : i < n) (hn : n ≤ 9223372036854775807) : wrap64 ((i : Int) + 1) = (i : Int) + 1 := w64 (by omega) (by omega)
end Go.Proofs.Ytccjanhdnheclaa.F
end

section
namespace Go.Proofs.Ytccjanhdnheclaa.F
open Go.RowKit Go.Proofs.YtccjanhdnheclaaW.PrintWords Go.Proofs.YtccjanhdnheclaaW.PrintLast Go.Proofs.YtccjanhdnheclaaW.PrintMore
set_option linter.unusedVariables false
set_option linter.unusedSimpArgs false
def gok (w h : Int) : Bool := decide (1 ≤ w ∧ w ≤ 4 ∧ 1 ≤ h ∧ h ≤ 4)
theorem gok_iff {w h : Int} : gok w h = true ↔ 1 ≤ w ∧ w ≤ 4 ∧ 1 ≤ h ∧ h ≤ 4 := by simp [gok]
theorem gok_wide {w h : Int} (H : gok w h = true) : w = 1 ∨ w = 2 ∨ w = 3 ∨ w = 4 := by rw [gok_iff] at H; omega
theorem gok_high {w h : Int} (H : gok w h = true) : h = 1 ∨ h = 2 ∨ h = 3 ∨ h = 4 := by rw [gok_iff] at H; omega
def cells (w h : Int) : Int := if gok w h then w * h else 0
def gaps (w h : Int) : Int := if gok w h then (w - 1) * h + w * (h - 1) else 0
theorem cells_bd (w h : Int) : 0 ≤ cells w h ∧ cells w h ≤ 16 := by
  unfold cells
  by_cases H : gok w h = true
  · rw [if_pos H]
    rcases gok_wide H with rfl | rfl | rfl | rfl <;> rcases gok_high H with rfl | rfl | rfl | rfl <;> omega
  · rw [if_neg H]; omega
theorem gaps_bd (w h : Int) : 0 ≤ gaps w h ∧ gaps w h ≤ 24 := by
  unfold gaps
  by_cases H : gok w h = true
  · rw [if_pos H]
    rcases gok_wide H with rfl | rfl | rfl | rfl <;> rcases gok_high H with rfl | rfl | rfl | rfl <;> omega
  · rw [if_neg H]; omega
theorem impl_GridOk_eq (w h : Int) : impl_GridOk.f w h = some (gok w h) := by
  unfold impl_GridOk.f gok
  by_cases h1 : w ≥ 1 <;> by_cases h2 : w ≤ 4 <;> by_cases h3 : h ≥ 1 <;> simp [*] <;> omega
theorem spec_l01In_eq (x a b : Int) : spec_l01In.f x a b = some (decide (a ≤ x ∧ x ≤ b)) := by
  unfold spec_l01In.f
  by_cases h1 : x ≥ a
  · simp [h1]
  · rw [if_neg h1]; simp; omega
theorem spec_GridOk_eq (w h : Int) : spec_GridOk.f w h = some (gok w h) := by
  unfold spec_GridOk.f
  simp only [spec_l01In_eq, Option.bind_some]
  unfold gok
  by_cases h1 : 1 ≤ w ∧ w ≤ 4
  · simp [h1]
  · rw [if_neg (by simpa using h1)]; simp; omega
theorem gok_mul {w h : Int} (H : gok w h = true) : 1 ≤ w * h ∧ w * h ≤ 16 ∧ 0 ≤ (w - 1) * h ∧ (w - 1) * h ≤ 12 ∧ 0 ≤ w * (h - 1) ∧ w * (h - 1) ≤ 12 := by
  rcases gok_wide H with rfl | rfl | rfl | rfl <;> rcases gok_high H with rfl | rfl | rfl | rfl <;> omega
theorem impl_CountCells_eq (w h : Int) : impl_CountCells.f w h = some (cells w h) := by
  unfold impl_CountCells.f cells
  rw [impl_GridOk_eq, Option.bind_some]
  by_cases H : gok w h = true
  · have := gok_mul H
    rw [if_pos H, if_pos H, w64 (by omega) (by omega)]
  · rw [if_neg H, if_neg H]
theorem spec_CountCells_eq (w h : Int) : spec_CountCells.f w h = some (cells w h) := by
  unfold spec_CountCells.f cells
  rw [spec_GridOk_eq, Option.bind_some]
  by_cases H : gok w h = true
  · have := gok_mul H
    rw [if_pos H, if_pos H, w64 (by omega) (by omega)]
  · rw [if_neg H, if_neg H]
theorem impl_CountGaps_eq (w h : Int) : impl_CountGaps.f w h = some (gaps w h) := by
  unfold impl_CountGaps.f gaps
  rw [impl_GridOk_eq, Option.bind_some]
  by_cases H : gok w h = true
  · have := gok_mul H
    have b := gok_iff.1 H
    rw [if_pos H, if_pos H, w64 (x := w - 1) (by omega) (by omega), w64 (x := h - 1) (by omega) (by omega), w64 (x := (w - 1) * h) (by omega) (by omega), w64 (x := w * (h - 1)) (by omega) (by omega), w64 (by omega) (by omega)]
  · rw [if_neg H, if_neg H]
theorem spec_CountGaps_eq (w h : Int) : spec_CountGaps.f w h = some (gaps w h) := by
  unfold spec_CountGaps.f spec_l02East.f gaps
  rw [spec_GridOk_eq, Option.bind_some]
  by_cases H : gok w h = true
  · have := gok_mul H
    have b := gok_iff.1 H
    rw [if_pos H, if_pos H, Option.bind_some, w64 (x := w - 1) (by omega) (by omega), w64 (x := h - 1) (by omega) (by omega), Int.mul_comm h (w - 1), w64 (x := (w - 1) * h) (by omega) (by omega), w64 (x := w * (h - 1)) (by omega) (by omega), w64 (by omega) (by omega)]
  · rw [if_neg H, if_neg H]
def icell (w h c : Int) : Bool := decide (0 ≤ c ∧ c < cells w h)
def igap (w h g : Int) : Bool := decide (0 ≤ g ∧ g < gaps w h)
theorem icell_iff {w h c : Int} : icell w h c = true ↔ 0 ≤ c ∧ c < cells w h := by simp [icell]
theorem igap_iff {w h c : Int} : igap w h c = true ↔ 0 ≤ c ∧ c < gaps w h := by simp [igap]
theorem impl_isCell_eq (w h c : Int) : impl_isCell.f w h c = some (icell w h c) := by
  unfold impl_isCell.f icell
  rw [impl_CountCells_eq]
  by_cases h1 : c ≥ 0
  · rw [if_pos h1]; simp [h1]
  · rw [if_neg h1]; simp; omega
theorem in_cells (w h c : Int) : decide (0 ≤ c ∧ c ≤ wrap64 (cells w h - 1)) = icell w h c := by
  have := cells_bd w h
  rw [w64 (by omega) (by omega)]
  unfold icell
  rw [Bool.eq_iff_iff]; simp; omega
theorem in_gaps (w h c : Int) : decide (0 ≤ c ∧ c ≤ wrap64 (gaps w h - 1)) = igap w h c := by
  have := gaps_bd w h
  rw [w64 (by omega) (by omega)]
  unfold igap
  rw [Bool.eq_iff_iff]; simp; omega
theorem icell_gok {w h c : Int} (H : icell w h c = true) : gok w h = true := by
  rw [icell_iff] at H
  unfold cells at H
  by_cases G : gok w h = true
  · exact G
  · rw [if_neg G] at H; omega
theorem icell_mul {w h c : Int} (H : icell w h c = true) : 0 ≤ c ∧ c < w * h := by
  have G := icell_gok H
  rw [icell_iff] at H
  unfold cells at H
  rwa [if_pos G] at H
def nb (w h c d : Int) : Int :=
  if icell w h c then
    (if d = 0 then (if c / w > 0 then c - w else -1) else if d = 1 then (if c % w < w - 1 then c + 1 else -1) else if d = 2 then (if c / w < h - 1 then c + w else -1) else if d = 3 then (if c % w > 0 then c - 1 else -1) else -1)
  else -1
theorem div_facts {w h c : Int} (G : gok w h = true) (H : 0 ≤ c ∧ c < w * h) : Int.tdiv c w = c / w ∧ Int.tmod c w = c % w ∧ wrap64 (c / w) = c / w ∧ 0 ≤ c / w ∧ c / w < h ∧ 0 ≤ c % w ∧ c % w < w ∧ w * (c / w) + c % w = c := by
  have b := gok_iff.1 G
  have e1 : Int.tdiv c w = c / w := Int.tdiv_eq_ediv_of_nonneg H.1
  have e2 : Int.tmod c w = c % w := Int.tmod_eq_emod_of_nonneg H.1
  have e3 : 0 ≤ c / w := Int.ediv_nonneg H.1 (by omega)
  have e4 : c / w < h := by
    apply Int.ediv_lt_of_lt_mul (by omega)
    rw [Int.mul_comm]; exact H.2
  exact ⟨e1, e2, w64 (by omega) (by omega), e3, e4, Int.emod_nonneg _ (by omega), Int.emod_lt_of_pos _ (by omega), Int.mul_ediv_add_emod c w⟩
theorem impl_Neighbor_eq {k : Nat} (hk : 3 ≤ k) (w h c d : Int) : impl_Neighbor.f k w h c d = some (nb w h c d) := by
  obtain ⟨m, rfl⟩ : ∃ m, k = m + 3 := ⟨k - 3, by omega⟩
  unfold impl_Neighbor.f nb
  rw [impl_isCell_eq, Option.bind_some]
  by_cases H : icell w h c = true
  · have G := icell_gok H
    have b := gok_iff.1 G
    have hc := icell_mul H
    have hm := gok_mul G
    obtain ⟨e1, e2, e3, y0, y1, x0, x1, hq⟩ := div_facts G hc
    rw [if_pos H, if_pos H, if_neg (by omega), e1, e2, e3]
    simp only [impl_Neighbor.j0, impl_Neighbor.j1, impl_Neighbor.j2]
    rw [w64 (x := w - 1) (by omega) (by omega), w64 (x := h - 1) (by omega) (by omega)]
    by_cases d0 : d = 0
    · subst d0
      by_cases t : c / w > 0 <;> simp [t, w64 (x := c - w) (by omega) (by omega)]
    by_cases d1 : d = 1
    · subst d1
      by_cases t : c % w < w - 1 <;> simp [t, w64 (x := c + 1) (by omega) (by omega)]
    by_cases d2 : d = 2
    · subst d2
      by_cases t : c / w < h - 1 <;> simp [t, w64 (x := c + w) (by omega) (by omega)]
    by_cases d3 : d = 3
    · subst d3
      by_cases t : c % w > 0 <;> simp [t, w64 (x := c - 1) (by omega) (by omega)]
    simp [d0, d1, d2, d3]
  · rw [if_neg H, if_neg H]
theorem spec_j0_eq {w h : Int} (G : gok w h = true) (m : Nat) {x y : Int} : spec_Neighbor.j0 (m + 1) x y w h = some (if 0 ≤ x ∧ x ≤ w - 1 ∧ 0 ≤ y ∧ y ≤ h - 1 then y * w + x else -1) := by
  have b := gok_iff.1 G
  simp only [spec_Neighbor.j0, spec_l01In_eq, Option.bind_some, decide_eq_true_eq]
  rw [w64 (x := w - 1) (by omega) (by omega), w64 (x := h - 1) (by omega) (by omega)]
  by_cases h1 : 0 ≤ x ∧ x ≤ w - 1
  · rw [if_pos h1]
    by_cases h2 : 0 ≤ y ∧ y ≤ h - 1
    · have l1 : y * w ≤ 3 * 4 := Int.mul_le_mul (by omega) (by omega) (by omega) (by omega)
      have l0 : 0 ≤ y * w := Int.mul_nonneg (by omega) (by omega)
      rw [if_pos h2, if_pos ⟨h1.1, h1.2, h2.1, h2.2⟩, w64 (x := y * w) (by omega) (by omega), w64 (by omega) (by omega)]
    · rw [if_neg h2, if_neg (fun h => h2 ⟨h.2.2.1, h.2.2.2⟩)]
  · rw [if_neg h1, if_neg (fun h => h1 ⟨h.1, h.2.1⟩)]
theorem spec_Neighbor_eq {k : Nat} (hk : 1 ≤ k) (w h c d : Int) : spec_Neighbor.f k w h c d = some (nb w h c d) := by
  obtain ⟨m, rfl⟩ : ∃ m, k = m + 1 := ⟨k - 1, by omega⟩
  unfold spec_Neighbor.f nb
  rw [spec_CountCells_eq, Option.bind_some, spec_l01In_eq, Option.bind_some, in_cells]
  by_cases H : icell w h c = true
  · have G := icell_gok H
    have b := gok_iff.1 G
    have hc := icell_mul H
    have hm := gok_mul G
    obtain ⟨e1, e2, e3, y0, y1, x0, x1, hq⟩ := div_facts G hc
    rw [if_pos H, if_pos H, if_neg (by omega), e1, e2, e3, w64 (x := c / w - 1) (by omega) (by omega), w64 (x := c / w + 1) (by omega) (by omega), w64 (x := c % w - 1) (by omega) (by omega), w64 (x := c % w + 1) (by omega) (by omega)]
    simp only [spec_j0_eq G]
    have p1 : (c / w - 1) * w = w * (c / w) - w := by rw [Int.sub_mul, Int.one_mul, Int.mul_comm]
    have p2 : (c / w + 1) * w = w * (c / w) + w := by rw [Int.add_mul, Int.one_mul, Int.mul_comm]
    have p3 : (c / w) * w = w * (c / w) := Int.mul_comm _ _
    rw [p1, p2, p3]
    by_cases d0 : d = 0
    · rw [if_pos d0, if_pos d0]
      by_cases t : c / w > 0
      · rw [if_pos (by omega), if_pos t]; congr 1; omega
      · rw [if_neg (by omega), if_neg t]
    rw [if_neg d0, if_neg d0]
    by_cases d1 : d = 1
    · rw [if_pos d1, if_pos d1]
      by_cases t : c % w < w - 1
      · rw [if_pos (by omega), if_pos t]; congr 1; omega
      · rw [if_neg (by omega), if_neg t]
    rw [if_neg d1, if_neg d1]
    by_cases d2 : d = 2
    · rw [if_pos d2, if_pos d2]
      by_cases t : c / w < h - 1
      · rw [if_pos (by omega), if_pos t]; congr 1; omega
      · rw [if_neg (by omega), if_neg t]
    rw [if_neg d2, if_neg d2]
    by_cases d3 : d = 3
    · rw [if_pos d3, if_pos d3]
      by_cases t : c % w > 0
      · rw [if_pos (by omega), if_pos t]; congr 1; omega
      · rw [if_neg (by omega), if_neg t]
    rw [if_neg d3, if_neg d3]
  · rw [if_neg H, if_neg H]
end Go.Proofs.Ytccjanhdnheclaa.F
end

section
namespace Go.Proofs.Ytccjanhdnheclaa.F
open Go.RowKit Go.Proofs.YtccjanhdnheclaaW.PrintWords Go.Proofs.YtccjanhdnheclaaW.PrintLast Go.Proofs.YtccjanhdnheclaaW.PrintMore
set_option linter.unusedVariables false
set_option linter.unusedSimpArgs false
theorem mn_min (a b : Int) : mn a b = min a b := by unfold mn; omega
theorem nb_facts {w h c d : Int} (H : 0 ≤ nb w h c d) : icell w h c = true ∧ icell w h (nb w h c d) = true ∧ 0 ≤ d ∧ d ≤ 3 := by
  unfold nb at H ⊢
  by_cases hc : icell w h c = true
  · have G := icell_gok hc
    have b := gok_iff.1 G
    have hm := icell_mul hc
    obtain ⟨_, _, _, y0, y1, x0, x1, hq⟩ := div_facts G hm
    rw [if_pos hc] at H ⊢
    have m1 : w * (c / w) ≤ w * (h - 1) := Int.mul_le_mul_of_nonneg_left (by omega) (by omega)
    have m2 : w * (h - 1) = w * h - w := by rw [Int.mul_sub, Int.mul_one]
    have ce : cells w h = w * h := by unfold cells; rw [if_pos G]
    refine ⟨hc, ?_, ?_⟩
    · rw [icell_iff, ce]
      by_cases d0 : d = 0
      · subst d0
        by_cases t : c / w > 0
        · have m3 : w * 1 ≤ w * (c / w) := Int.mul_le_mul_of_nonneg_left (by omega) (by omega)
          simp [t]; omega
        · simp [t] at H
      by_cases d1 : d = 1
      · subst d1
        by_cases t : c % w < w - 1
        · simp [t]; omega
        · simp [t] at H
      by_cases d2 : d = 2
      · subst d2
        by_cases t : c / w < h - 1
        · have m4 : w * (c / w + 1) ≤ w * (h - 1) := Int.mul_le_mul_of_nonneg_left (by omega) (by omega)
          rw [Int.mul_add, Int.mul_one] at m4
          simp [t]; omega
        · simp [t] at H
      by_cases d3 : d = 3
      · subst d3
        by_cases t : c % w > 0
        · simp [t]; omega
        · simp [t] at H
      simp [d0, d1, d2, d3] at H
    · by_cases d0 : d = 0
      · omega
      by_cases d1 : d = 1
      · omega
      by_cases d2 : d = 2
      · omega
      by_cases d3 : d = 3
      · omega
      simp [d0, d1, d2, d3] at H
  · rw [if_neg hc] at H; omega
def gp (w h c d : Int) : Int :=
  if nb w h c d < 0 then -1 else if d = 1 ∨ d = 3 then min c (nb w h c d) / w * (w - 1) + min c (nb w h c d) % w else (w - 1) * h + min c (nb w h c d)
theorem gp_neg {w h c d : Int} (H : nb w h c d < 0) : gp w h c d = -1 := by unfold gp; rw [if_pos H]
theorem min_facts {w h c d : Int} (H : 0 ≤ nb w h c d) : 0 ≤ min c (nb w h c d) ∧ min c (nb w h c d) < w * h ∧ gok w h = true := by
  obtain ⟨h1, h2, _, _⟩ := nb_facts H
  have a := icell_mul h1
  have b := icell_mul h2
  exact ⟨by omega, by omega, icell_gok h1⟩
theorem impl_GapAt_eq {k : Nat} (hk : 3 ≤ k) (w h c d : Int) : impl_GapAt.f k w h c d = some (gp w h c d) := by
  unfold impl_GapAt.f gp
  rw [impl_Neighbor_eq hk, Option.bind_some]
  by_cases H : nb w h c d < 0
  · rw [if_pos H, if_pos H]
  · have H' : 0 ≤ nb w h c d := by omega
    obtain ⟨m0, m1, G⟩ := min_facts H'
    have b := gok_iff.1 G
    have hm := gok_mul G
    rw [if_neg H, if_neg H, mn_min]
    obtain ⟨e1, e2, e3, y0, y1, x0, x1, hq⟩ := div_facts G ⟨m0, m1⟩
    have l1 : min c (nb w h c d) / w * (w - 1) ≤ 3 * 3 := Int.mul_le_mul (by omega) (by omega) (by omega) (by omega)
    have l0 : 0 ≤ min c (nb w h c d) / w * (w - 1) := Int.mul_nonneg y0 (by omega)
    have t1 : wrap64 (wrap64 (wrap64 (Int.tdiv (min c (nb w h c d)) w) * wrap64 (w - 1)) + Int.tmod (min c (nb w h c d)) w) = min c (nb w h c d) / w * (w - 1) + min c (nb w h c d) % w := by
      rw [e1, e2, e3, w64 (x := w - 1) (by omega) (by omega), w64 (x := _ * _) (by omega) (by omega), w64 (by omega) (by omega)]
    have t2 : wrap64 (wrap64 (wrap64 (w - 1) * h) + min c (nb w h c d)) = (w - 1) * h + min c (nb w h c d) := by
      rw [w64 (x := w - 1) (by omega) (by omega), w64 (x := (w - 1) * h) (by omega) (by omega), w64 (by omega) (by omega)]
    rw [t1, t2]
    by_cases d1 : d = 1
    · simp [d1]; omega
    · by_cases d3 : d = 3
      · simp [d3]; omega
      · simp [d1, d3]
theorem spec_GapAt_eq {k : Nat} (hk : 1 ≤ k) (w h c d : Int) : spec_GapAt.f k w h c d = some (gp w h c d) := by
  unfold spec_GapAt.f gp
  rw [spec_Neighbor_eq hk, Option.bind_some]
  by_cases H : nb w h c d < 0
  · rw [if_pos H, if_pos H]
  · have H' : 0 ≤ nb w h c d := by omega
    obtain ⟨m0, m1, G⟩ := min_facts H'
    have b := gok_iff.1 G
    have hm := gok_mul G
    rw [if_neg H, if_neg H, mn_min]
    obtain ⟨e1, e2, e3, y0, y1, x0, x1, hq⟩ := div_facts G ⟨m0, m1⟩
    have l1 : min c (nb w h c d) / w * (w - 1) ≤ 3 * 3 := Int.mul_le_mul (by omega) (by omega) (by omega) (by omega)
    have l0 : 0 ≤ min c (nb w h c d) / w * (w - 1) := Int.mul_nonneg y0 (by omega)
    have t1 : wrap64 (wrap64 (wrap64 (Int.tdiv (min c (nb w h c d)) w) * wrap64 (w - 1)) + Int.tmod (min c (nb w h c d)) w) = min c (nb w h c d) / w * (w - 1) + min c (nb w h c d) % w := by
      rw [e1, e2, e3, w64 (x := w - 1) (by omega) (by omega), w64 (x := _ * _) (by omega) (by omega), w64 (by omega) (by omega)]
    have t2 : wrap64 (wrap64 (h * wrap64 (w - 1)) + min c (nb w h c d)) = (w - 1) * h + min c (nb w h c d) := by
      rw [w64 (x := w - 1) (by omega) (by omega), Int.mul_comm h, w64 (x := (w - 1) * h) (by omega) (by omega), w64 (by omega) (by omega)]
    simp only [spec_l02East.f, Option.bind_some]
    rw [t1, t2]
    by_cases d1 : d = 1
    · simp [d1]; omega
    · by_cases d3 : d = 3
      · simp [d3]; omega
      · simp [d1, d3]
def mok (w h o : Int) : Bool := gok w h && decide (0 ≤ o ∧ o < 2 ^ (gaps w h).toNat)
theorem mok_iff {w h o : Int} : mok w h o = true ↔ gok w h = true ∧ 0 ≤ o ∧ o < 2 ^ (gaps w h).toNat := by simp [mok]
theorem gpow (w h : Int) : (2 : Int) ^ (gaps w h).toNat ≤ 16777216 ∧ (1 : Int) ≤ 2 ^ (gaps w h).toNat := by
  have b := gaps_bd w h
  have p : (2 : Nat) ^ (gaps w h).toNat ≤ 2 ^ 24 := Nat.pow_le_pow_right (by decide) (by omega)
  have q : 0 < (2 : Nat) ^ (gaps w h).toNat := Nat.two_pow_pos _
  have e : ((2 : Int) ^ (gaps w h).toNat) = ((2 ^ (gaps w h).toNat : Nat) : Int) := by simp
  omega
theorem mok_small {w h o : Int} (H : mok w h o = true) : 0 ≤ o ∧ o < 16777216 := by
  have := mok_iff.1 H
  have := gpow w h
  omega
theorem shl_gaps (w h : Int) : shl .i64 1 (gaps w h) = 2 ^ (gaps w h).toNat := by
  have b := gaps_bd w h
  have := shl_one (g := (gaps w h).toNat) (by omega)
  rw [show (((gaps w h).toNat : Nat) : Int) = gaps w h from Int.toNat_of_nonneg b.1] at this
  rw [this]
  simp
theorem impl_MazeOk_eq (w h o : Int) : impl_MazeOk.f w h o = some (mok w h o) := by
  unfold impl_MazeOk.f mok
  have b := gaps_bd w h
  rw [impl_GridOk_eq, impl_CountGaps_eq]
  simp only [Option.bind_some, shl_gaps]
  by_cases G : gok w h = true
  · simp only [G, if_true, Bool.true_and]
    by_cases h0 : o ≥ 0
    · rw [if_pos h0, if_pos b.1]
      simp; omega
    · rw [if_neg h0]; simp; omega
  · simp [G]
theorem spec_MazeOk_eq (w h o : Int) : spec_MazeOk.f w h o = some (mok w h o) := by
  unfold spec_MazeOk.f mok
  have b := gaps_bd w h
  have p := gpow w h
  rw [spec_GridOk_eq, spec_CountGaps_eq]
  simp only [Option.bind_some, shl_gaps, w64 (x := (2 : Int) ^ (gaps w h).toNat - 1) (by omega) (by omega)]
  by_cases G : gok w h = true
  · simp only [Option.bind_some, G, if_true, Bool.true_and, spec_l01In_eq, if_pos b.1]
    congr 2
    exact propext ⟨fun h => ⟨h.1, by omega⟩, fun h => ⟨h.1, by omega⟩⟩
  · simp [G]
theorem impl_isOpen_eq {w h o : Int} (h0 : 0 ≤ o) (h1 : o < 9223372036854775808) (g : Int) : impl_isOpen.f w h o g = some (decide (0 ≤ g) && opn o g) := by
  unfold impl_isOpen.f
  by_cases hg : g ≥ 0
  · rw [if_pos hg, if_pos (by omega), bit_test h0 h1 (by omega)]
    simp; omega
  · rw [if_neg hg]
    simp; omega
theorem spec_l03Bit_eq {o : Int} (h0 : 0 ≤ o) (h1 : o < 9223372036854775808) {g : Int} (hg : 0 ≤ g) : spec_l03Bit.f o g = some (opn o g) := by
  unfold spec_l03Bit.f
  rw [if_pos hg, bit_test h0 h1 hg]
def psg (w h o g : Int) : Bool := mok w h o && igap w h g && opn o g
theorem spec_IsPassage_eq (w h o g : Int) : spec_IsPassage.f w h o g = some (psg w h o g) := by
  unfold spec_IsPassage.f psg
  rw [spec_MazeOk_eq, spec_CountGaps_eq]
  by_cases M : mok w h o = true
  · have s := mok_small M
    simp only [Option.bind_some, M, if_true, Bool.true_and, spec_l01In_eq, in_gaps]
    by_cases g1 : igap w h g = true
    · rw [if_pos g1, spec_l03Bit_eq s.1 (by omega) (igap_iff.1 g1).1]
      simp [g1]
    · rw [if_neg g1]; simp [g1]
  · simp [M]
theorem gp_range {w h c d : Int} (H : 0 ≤ nb w h c d) : igap w h (gp w h c d) = true := by
  obtain ⟨h1, h2, d0, d3⟩ := nb_facts H
  have G := icell_gok h1
  have a := icell_mul h1
  rw [igap_iff]
  unfold gp gaps
  rw [if_neg (by omega), if_pos G]
  have hd : d = 0 ∨ d = 1 ∨ d = 2 ∨ d = 3 := by omega
  revert H
  unfold nb
  rw [if_pos h1]
  rcases gok_wide G with rfl | rfl | rfl | rfl <;> rcases gok_high G with rfl | rfl | rfl | rfl <;> rcases hd with rfl | rfl | rfl | rfl <;> simp <;> split <;> omega
def st (w h o c d : Int) : Int := if psg w h o (gp w h c d) then nb w h c d else -1
theorem st_nb {w h o c d : Int} (H : 0 ≤ st w h o c d) : st w h o c d = nb w h c d ∧ psg w h o (gp w h c d) = true := by
  unfold st at H ⊢
  by_cases p : psg w h o (gp w h c d) = true
  · rw [if_pos p]; exact ⟨rfl, p⟩
  · rw [if_neg p] at H; omega
theorem impl_Step_eq {k : Nat} (hk : 3 ≤ k) (w h o c d : Int) : impl_Step.f k w h o c d = some (st w h o c d) := by
  unfold impl_Step.f st psg
  rw [impl_MazeOk_eq]
  by_cases M : mok w h o = true
  · have s := mok_small M
    simp only [Option.bind_some, M, if_true, Bool.true_and, impl_GapAt_eq hk, impl_isOpen_eq s.1 (show o < 9223372036854775808 by omega), impl_Neighbor_eq hk]
    by_cases H : 0 ≤ nb w h c d
    · have r := gp_range H
      have := (igap_iff.1 r).1
      simp [r, this]
      split <;> rfl
    · rw [gp_neg (by omega)]
      simp [igap]
  · simp [M]
theorem spec_Step_eq {k : Nat} (hk : 1 ≤ k) (w h o c d : Int) : spec_Step.f k w h o c d = some (st w h o c d) := by
  unfold spec_Step.f st
  rw [spec_MazeOk_eq]
  by_cases M : mok w h o = true
  · simp only [Option.bind_some, M, if_true, spec_GapAt_eq hk, spec_IsPassage_eq, spec_Neighbor_eq hk]
    split <;> rfl
  · simp [M, psg]
theorem st_facts {w h o c d : Int} (H : 0 ≤ st w h o c d) : mok w h o = true ∧ icell w h c = true ∧ icell w h (st w h o c d) = true ∧ 0 ≤ d ∧ d ≤ 3 := by
  obtain ⟨e, p⟩ := st_nb H
  rw [e] at H ⊢
  obtain ⟨h1, h2, h3, h4⟩ := nb_facts H
  unfold psg at p
  simp at p
  exact ⟨p.1.1, h1, h2, h3, h4⟩
end Go.Proofs.Ytccjanhdnheclaa.F
end

section
namespace Go.Proofs.Ytccjanhdnheclaa.F
open Go.RowKit Go.Proofs.YtccjanhdnheclaaW.PrintWords Go.Proofs.YtccjanhdnheclaaW.PrintLast Go.Proofs.YtccjanhdnheclaaW.PrintMore
set_option linter.unusedVariables false
set_option linter.unusedSimpArgs false
theorem impl_isDirection_eq (d : Int) : impl_isDirection.f d = some (decide (0 ≤ d ∧ d ≤ 3)) := by
  unfold impl_isDirection.f
  by_cases h1 : d ≥ 0 <;> simp [h1] <;> omega
end Go.Proofs.Ytccjanhdnheclaa.F
end

section
namespace Go.Proofs.Ytccjanhdnheclaa.F
open Go.RowKit Go.Proofs.YtccjanhdnheclaaW.PrintWords Go.Proofs.YtccjanhdnheclaaW.PrintLast Go.Proofs.YtccjanhdnheclaaW.PrintMore
set_option linter.unusedVariables false
set_option linter.unusedSimpArgs false
theorem impl_isIn_eq (w h o : Int) (l : List Int) : impl_isIn.f w h o l = some (mok w h o && l.all (icell w h)) := by
  unfold impl_isIn.f
  rw [impl_MazeOk_eq, Option.bind_some, allO_of (p := icell w h) (fun x _ => impl_isCell_eq w h x)]
  cases mok w h o <;> simp
theorem spec_l04Has_eq (w h o c : Int) : spec_l04Has.f w h o c = some (mok w h o && icell w h c) := by
  unfold spec_l04Has.f
  rw [spec_MazeOk_eq, spec_CountCells_eq]
  simp only [Option.bind_some, spec_l01In_eq, in_cells]
  cases mok w h o <;> simp
def wok (w h o c f : Int) : Bool := mok w h o && icell w h c && decide (0 ≤ f ∧ f ≤ 3)
theorem impl_WalkerOk_eq (w h o c f : Int) : impl_WalkerOk.f w h o c f = some (wok w h o c f) := by
  unfold impl_WalkerOk.f wok
  rw [impl_isIn_eq]
  simp only [Option.bind_some, impl_isDirection_eq, List.all_cons, List.all_nil, Bool.and_true]
  cases mok w h o && icell w h c <;> simp
theorem spec_WalkerOk_eq (w h o c f : Int) : spec_WalkerOk.f w h o c f = some (wok w h o c f) := by
  unfold spec_WalkerOk.f wok
  rw [spec_l04Has_eq]
  simp only [Option.bind_some, spec_l01In_eq]
  cases mok w h o && icell w h c <;> simp
def patStep (w h o c f : Int) (s : Int) (i : Nat) : Int := if st w h o c (Int.tmod (wrap64 (f + i)) 4) ≥ 0 then Go.bits .or .i64 s (shl .i64 1 i) else s
def pat (w h o c f : Int) : Int := if wok w h o c f then (List.range' 0 4).foldl (patStep w h o c f) 0 else -1
theorem impl_PatternAt_eq {k : Nat} (hk : 8 ≤ k) (w h o c f : Int) : impl_PatternAt.f k w h o c f = some (pat w h o c f) := by
  unfold impl_PatternAt.f pat
  rw [impl_WalkerOk_eq, Option.bind_some]
  cases wok w h o c f with
  | false => simp
  | true =>
    simp only [if_true]
    have := fold_loop (n := 4) (c := 3) (F := fun k s i => impl_PatternAt.l0 k s i w h o c f) (step := patStep w h o c f) (fin := id) (I := fun _ _ => True)
      (fun k s i hk hi _ => by
        simp only [impl_PatternAt.l0]
        rw [if_pos (by omega), impl_Step_eq (by omega), Option.bind_some, w64 (x := (i : Int) + 1) (by omega) (by omega)]
        unfold patStep
        by_cases g : st w h o c (Int.tmod (wrap64 (f + i)) 4) ≥ 0
        · rw [if_pos g, if_pos (by omega), if_pos g]
        · rw [if_neg g, if_neg g])
      (fun _ _ _ _ => trivial) (fun k s _ _ => by simp only [impl_PatternAt.l0]; rw [if_neg (by omega)]; rfl) 4 0 k 0 (by omega) (by omega) trivial
    exact this
theorem spec_PatternAt_eq {k : Nat} (hk : 8 ≤ k) (w h o c f : Int) : spec_PatternAt.f k w h o c f = some (pat w h o c f) := by
  unfold spec_PatternAt.f pat
  rw [spec_WalkerOk_eq, Option.bind_some]
  cases wok w h o c f with
  | false => simp
  | true =>
    simp only [if_true]
    have := fold_loop (n := 4) (c := 3) (F := fun k s i => spec_PatternAt.l0 k s i w h o c f) (step := patStep w h o c f) (fin := id) (I := fun _ _ => True)
      (fun k s i hk hi _ => by
        simp only [spec_PatternAt.l0]
        rw [if_pos (by omega), spec_Step_eq (by omega), Option.bind_some, w64 (x := (i : Int) + 1) (by omega) (by omega)]
        unfold patStep
        by_cases g : st w h o c (Int.tmod (wrap64 (f + i)) 4) ≥ 0
        · rw [if_pos g, if_pos (by omega), if_pos g]
        · rw [if_neg g, if_neg g])
      (fun _ _ _ _ => trivial) (fun k s _ _ => by simp only [spec_PatternAt.l0]; rw [if_neg (by omega)]; rfl) 4 0 k 0 (by omega) (by omega) trivial
    exact this
end Go.Proofs.Ytccjanhdnheclaa.F
end

section
namespace Go.Proofs.Ytccjanhdnheclaa.F
open Go.RowKit Go.Proofs.YtccjanhdnheclaaW.PrintWords Go.Proofs.YtccjanhdnheclaaW.PrintLast Go.Proofs.YtccjanhdnheclaaW.PrintMore
set_option linter.unusedVariables false
set_option linter.unusedSimpArgs false
def nf (f t : Int) : Int := Int.tmod (wrap64 (f + t)) 4
def nx (w h o c f t : Int) : Int := st w h o c (nf f t)
theorem impl_went_eq {k : Nat} (hk : 3 ≤ k) (w h o c f t : Int) : impl_went.f k w h o c f t = some (nx w h o c f t, nf f t, decide (0 ≤ nx w h o c f t)) := by
  unfold impl_went.f impl_marked.f
  rw [impl_Step_eq hk]
  rfl
theorem spec_l33Turned_eq {k : Nat} (hk : 1 ≤ k) (w h o c f t : Int) : spec_l33Turned.f k w h o c f t = some (if nx w h o c f t < 0 then (c, f, false) else (nx w h o c f t, nf f t, true)) := by
  unfold spec_l33Turned.f
  rw [spec_Step_eq hk, Option.bind_some]
  show (if nx w h o c f t < 0 then _ else _) = _
  split <;> rfl
theorem wok_nx {w h o c f t : Int} (H : 0 ≤ nx w h o c f t) : wok w h o (nx w h o c f t) (nf f t) = true := by
  obtain ⟨h1, h2, h3, h4, h5⟩ := st_facts (show 0 ≤ st w h o c (nf f t) from H)
  unfold wok
  rw [h1, show icell w h (nx w h o c f t) = true from h3, decide_eq_true ⟨h4, h5⟩]
  rfl
end Go.Proofs.Ytccjanhdnheclaa.F
end

section
namespace Go.Proofs.Ytccjanhdnheclaa.F
open Go.RowKit Go.Proofs.YtccjanhdnheclaaW.PrintWords Go.Proofs.YtccjanhdnheclaaW.PrintLast Go.Proofs.YtccjanhdnheclaaW.PrintMore
set_option linter.unusedVariables false
set_option linter.unusedSimpArgs false
theorem laws_toIntS_eq {k : Nat} {l : List Int} (hl : l.length ≤ 1048576) (hk : l.length + 1 ≤ k) : laws_toIntS.f k l = some l := by
  unfold laws_toIntS.f
  rw [if_pos (by omega), if_pos (by omega)]
  have := set_loop (c := 0) (0 : Int) (F := fun k acc i => laws_toIntS.l0 k l acc i) (l := l) (g := id) (k := k)
    (fun k acc i _ hi ha => by
      simp only [laws_toIntS.l0]
      rw [if_pos (by omega), if_pos (by omega), if_pos (by omega), w64_succ hi (by omega)]
      rfl)
    (fun k acc _ => by
      simp only [laws_toIntS.l0]
      rw [if_neg (by omega)]) (List.replicate (l.length : Int).toNat 0) (by simp) (by omega)
  simpa using this
theorem laws_eqIntS_refl {k : Nat} {l : List Int} (hl : l.length ≤ 9223372036854775806) (hk : l.length + 1 ≤ k) : laws_eqIntS.f k l l = some true := by
  unfold laws_eqIntS.f
  rw [if_pos rfl]
  have := all_loop (c := 0) (0 : Int) (F := fun k i => laws_eqIntS.l0 k l l i) (p := fun _ => true) (b := true)
    (fun k i _ hi => by
      simp only [laws_eqIntS.l0]
      rw [if_pos (by omega), if_pos (by omega), if_pos (by omega), w64_succ hi (by omega)]
      all_goals simp)
    (fun k _ => by simp only [laws_eqIntS.l0]; rw [if_neg (by omega)]) hk
  rw [this]
  congr 1
  simp only [Bool.and_true, List.all_eq_true, implies_true]
end Go.Proofs.Ytccjanhdnheclaa.F
end

section
namespace Go.Proofs.Ytccjanhdnheclaa.F
open Go.RowKit Go.Proofs.YtccjanhdnheclaaW.PrintWords Go.Proofs.YtccjanhdnheclaaW.PrintLast Go.Proofs.YtccjanhdnheclaaW.PrintMore
set_option linter.unusedVariables false
set_option linter.unusedSimpArgs false
def turn4 (x : Int) : Bool := decide (0 ≤ x ∧ x ≤ 3)
theorem impl_areTurns_eq (l : List Int) (n : Int) : impl_areTurns.f l n = some (decide ((l.length : Int) ≤ n) && l.all turn4) := by
  unfold impl_areTurns.f
  by_cases h : (l.length : Int) ≤ n
  · rw [if_pos h, decide_eq_true h]; rfl
  · rw [if_neg h, decide_eq_false h]; rfl
theorem spec_l33Turns_eq {k : Nat} {l : List Int} (hl : l.length ≤ 9223372036854775806) (hk : l.length + 1 ≤ k) : spec_l33Turns.f k l = some (decide ((l.length : Int) ≤ 40) && l.all turn4) := by
  unfold spec_l33Turns.f spec_l26Turns.f
  have := all_loop (c := 0) (0 : Int) (F := fun k i => spec_l26Turns.l0 k l i) (l := l) (p := turn4) (b := decide ((l.length : Int) ≤ 400))
    (fun k i _ hi => by
      simp only [spec_l26Turns.l0, spec_l01In_eq, Option.bind_some]
      rw [if_pos (by omega), if_pos (by omega), w64_succ hi (by omega)]
      rfl)
    (fun k _ => by simp only [spec_l26Turns.l0]; rw [if_neg (by omega)]) hk
  rw [this, Option.bind_some]
  by_cases h : (l.length : Int) ≤ 40
  · rw [decide_eq_true h, decide_eq_true (show (l.length : Int) ≤ 400 by omega), Bool.and_true, Bool.true_and]
    cases l.all turn4 <;> rfl
  · rw [decide_eq_false h, Bool.false_and]
    split <;> rfl
theorem drop_step {l : List Int} {i : Nat} (hi : i < l.length) : l.drop i = rd l (i : Int) :: l.drop (i + 1) := by
  rw [List.drop_eq_getElem_cons hi]
  congr 1
  rw [rd_nat, List.getD_eq_getElem?_getD, List.getElem?_eq_getElem hi]
  rfl
end Go.Proofs.Ytccjanhdnheclaa.F
end

section
namespace Go.Proofs.Ytccjanhdnheclaa.F
open Go.RowKit Go.Proofs.YtccjanhdnheclaaW.PrintWords Go.Proofs.YtccjanhdnheclaaW.PrintLast Go.Proofs.YtccjanhdnheclaaW.PrintMore
set_option linter.unusedVariables false
set_option linter.unusedSimpArgs false
def stN (w h : Int) : Nat := (cells w h).toNat
end Go.Proofs.Ytccjanhdnheclaa.F
end

section
namespace Go.Proofs.Ytccjanhdnheclaa.F
open Go.RowKit Go.Proofs.YtccjanhdnheclaaW.PrintWords Go.Proofs.YtccjanhdnheclaaW.PrintLast Go.Proofs.YtccjanhdnheclaaW.PrintMore
set_option linter.unusedVariables false
set_option linter.unusedSimpArgs false
theorem stN_int (w h : Int) : ((stN w h : Nat) : Int) = cells w h := by have := cells_bd w h; unfold stN; omega
theorem stN_le (w h : Int) : stN w h ≤ 16 := by have := cells_bd w h; unfold stN; omega
end Go.Proofs.Ytccjanhdnheclaa.F
end

section
namespace Go.Proofs.Ytccjanhdnheclaa.F
open Go.RowKit Go.Proofs.YtccjanhdnheclaaW.PrintWords Go.Proofs.YtccjanhdnheclaaW.PrintLast Go.Proofs.YtccjanhdnheclaaW.PrintMore
set_option linter.unusedVariables false
set_option linter.unusedSimpArgs false
def stp (w h o t p : Int) (u : Int × Int) : Option (Int × Int) := if 0 ≤ nx w h o u.1 u.2 t ∧ pat w h o (nx w h o u.1 u.2 t) (nf u.2 t) = p then some (nx w h o u.1 u.2 t, nf u.2 t) else none
def rnW (w h o : Int) : List Int → List Int → Int × Int → Option (Int × Int)
  | t :: ts, p :: ps, u => (stp w h o t p u).bind (rnW w h o ts ps)
  | [], _, u => some u
  | _ :: _, [], _ => none
def endW (w h o : Int) (P T : List Int) (k : Nat) : Option (Int × Int) := if pat w h o ((k / 4 : Nat) : Int) ((k % 4 : Nat) : Int) = rd P 0 then rnW w h o T (P.drop 1) (((k / 4 : Nat) : Int), ((k % 4 : Nat) : Int)) else none
def hasW (l : List SWalker) (u : Int × Int) : Bool := l.any fun x => decide (x.f0 = u.1 ∧ x.f1 = u.2)
def adjW (l : List SWalker) : Option (Int × Int) → List SWalker
  | none => l
  | some u => if hasW l u = true then l else l ++ [⟨u.1, u.2⟩]
def rawW (w h o : Int) (P T : List Int) (n : Nat) : List SWalker := (List.range' 0 n).foldl (fun l k => adjW l (endW w h o P T k)) []
def leW (x y : SWalker) : Bool := !decide (4 * (y.f0 - x.f0) + y.f1 - x.f1 < 0)
def keyW (x : SWalker) : Int := 4 * x.f0 + x.f1
def fitW (w h o : Int) (P T : List Int) : List SWalker := (rawW w h o P T (4 * stN w h)).mergeSort leW
def pwok (w h o : Int) (P T : List Int) : Bool := mok w h o && decide ((P.length : Int) = T.length + 1) && (decide ((T.length : Int) ≤ 40) && T.all turn4)
def posW (w h o : Int) (P T : List Int) : List SWalker := if pwok w h o P T = true then fitW w h o P T else []
theorem four_split (k : Nat) : Int.tdiv (k : Int) 4 = ((k / 4 : Nat) : Int) ∧ Int.tmod (k : Int) 4 = ((k % 4 : Nat) : Int) := ⟨rfl, rfl⟩
theorem stp_good {w h o t p : Int} {u v : Int × Int} (e : stp w h o t p u = some v) : 0 ≤ v.1 ∧ v.1 < cells w h ∧ 0 ≤ v.2 ∧ v.2 ≤ 3 := by
  unfold stp at e
  split at e
  · rename_i H
    obtain rfl := Option.some.inj e
    have := wok_nx H.1
    unfold wok at this
    simp only [Bool.and_eq_true, decide_eq_true_eq] at this
    have c := icell_iff.1 this.1.2
    exact ⟨c.1, c.2, this.2.1, this.2.2⟩
  · cases e
theorem rnW_good {w h o : Int} : ∀ (ts ps : List Int) (u v : Int × Int), (0 ≤ u.1 ∧ u.1 < cells w h ∧ 0 ≤ u.2 ∧ u.2 ≤ 3) → rnW w h o ts ps u = some v → 0 ≤ v.1 ∧ v.1 < cells w h ∧ 0 ≤ v.2 ∧ v.2 ≤ 3
  | [], ps, u, v, hu, e => by rw [rnW] at e; obtain rfl := Option.some.inj e; exact hu
  | t :: ts, [], u, v, hu, e => by simp [rnW] at e
  | t :: ts, p :: ps, u, v, hu, e => by
    rw [rnW] at e
    obtain ⟨x, h1, h2⟩ := Option.bind_eq_some_iff.1 e
    exact rnW_good ts ps x v (stp_good h1) h2
theorem endW_good {w h o : Int} {P T : List Int} {k : Nat} (hk : k < 4 * stN w h) {v : Int × Int} (e : endW w h o P T k = some v) : 0 ≤ v.1 ∧ v.1 < cells w h ∧ 0 ≤ v.2 ∧ v.2 ≤ 3 := by
  have hN := stN_int w h
  unfold endW at e
  split at e
  · exact rnW_good _ _ _ _ ⟨by omega, by show ((k / 4 : Nat) : Int) < _; omega, by show 0 ≤ ((k % 4 : Nat) : Int); omega, by show ((k % 4 : Nat) : Int) ≤ 3; omega⟩ e
  · cases e
theorem hasW_iff {l : List SWalker} {u : Int × Int} : hasW l u = true ↔ (⟨u.1, u.2⟩ : SWalker) ∈ l := by
  unfold hasW
  rw [List.any_eq_true]
  constructor
  · rintro ⟨x, hx, e⟩
    have e := of_decide_eq_true e
    rw [← e.1, ← e.2]
    exact hx
  · intro hx
    exact ⟨_, hx, decide_eq_true ⟨rfl, rfl⟩⟩
theorem adjW_length (l : List SWalker) (u : Option (Int × Int)) : (adjW l u).length ≤ l.length + 1 := by
  unfold adjW
  split
  · omega
  · split <;> simp
theorem adjW_mem {l : List SWalker} {u : Option (Int × Int)} {x : SWalker} : x ∈ adjW l u ↔ x ∈ l ∨ u = some (x.f0, x.f1) := by
  unfold adjW
  split
  · simp
  · rename_i u
    split
    · rename_i H
      have := hasW_iff.1 H
      constructor
      · exact .inl
      · rintro (q | q)
        · exact q
        · obtain rfl := Option.some.inj q
          exact this
    · rw [List.mem_append, List.mem_singleton]
      constructor
      · rintro (q | rfl)
        · exact .inl q
        · exact .inr rfl
      · rintro (q | q)
        · exact .inl q
        · obtain rfl := Option.some.inj q
          exact .inr rfl
theorem adjW_nodup {l : List SWalker} {u : Option (Int × Int)} (h : l.Nodup) : (adjW l u).Nodup := by
  unfold adjW
  split
  · exact h
  · split
    · exact h
    · rename_i H
      rw [List.nodup_append]
      refine ⟨h, by simp, fun a ha b hb e => ?_⟩
      rw [List.mem_singleton] at hb
      subst hb
      rw [e] at ha
      exact H (hasW_iff.2 ha)
section
variable {w h o : Int} {P T : List Int}
theorem raw_mem {x : SWalker} : ∀ (ks : List Nat) (l : List SWalker), x ∈ ks.foldl (fun l k => adjW l (endW w h o P T k)) l ↔ x ∈ l ∨ ∃ k ∈ ks, endW w h o P T k = some (x.f0, x.f1)
  | [], l => by simp
  | k :: ks, l => by
    rw [List.foldl_cons, raw_mem ks, adjW_mem]
    constructor
    · rintro ((q | q) | ⟨j, hj, q⟩)
      · exact .inl q
      · exact .inr ⟨k, List.mem_cons_self, q⟩
      · exact .inr ⟨j, List.mem_cons_of_mem _ hj, q⟩
    · rintro (q | ⟨j, hj, q⟩)
      · exact .inl (.inl q)
      · rcases List.mem_cons.1 hj with rfl | hj
        · exact .inl (.inr q)
        · exact .inr ⟨j, hj, q⟩
theorem raw_nodup : ∀ (ks : List Nat) (l : List SWalker), l.Nodup → (ks.foldl (fun l k => adjW l (endW w h o P T k)) l).Nodup
  | [], l, hl => hl
  | k :: ks, l, hl => raw_nodup ks _ (adjW_nodup hl)
theorem raw_len : ∀ (ks : List Nat) (l : List SWalker), (ks.foldl (fun l k => adjW l (endW w h o P T k)) l).length ≤ l.length + ks.length
  | [], l => by simp
  | k :: ks, l => by
    rw [List.foldl_cons]
    have h1 := raw_len ks (adjW l (endW w h o P T k))
    have h2 := adjW_length l (endW w h o P T k)
    rw [List.length_cons]
    omega
theorem fitW_mem {x : SWalker} : x ∈ fitW w h o P T ↔ ∃ k, k < 4 * stN w h ∧ endW w h o P T k = some (x.f0, x.f1) := by
  unfold fitW rawW
  rw [(List.mergeSort_perm _ _).mem_iff, raw_mem]
  constructor
  · rintro (q | ⟨k, hk, q⟩)
    · exact (List.not_mem_nil q).elim
    · have := List.mem_range'_1.1 hk
      exact ⟨k, by omega, q⟩
  · rintro ⟨k, hk, q⟩
    exact .inr ⟨k, List.mem_range'_1.2 ⟨by omega, by omega⟩, q⟩
theorem fitW_len : (fitW w h o P T).length ≤ 64 := by
  unfold fitW rawW
  rw [List.length_mergeSort]
  have := raw_len (w := w) (h := h) (o := o) (P := P) (T := T) (List.range' 0 (4 * stN w h)) []
  have h2 := stN_le w h
  simp at this ⊢
  omega
theorem leW_iff {x y : SWalker} : leW x y = true ↔ keyW x ≤ keyW y := by
  unfold leW keyW
  rw [Bool.not_eq_true', decide_eq_false_iff_not]
  omega
theorem fitW_sorted : (fitW w h o P T).Pairwise fun x y => keyW x < keyW y := by
  have hs : (fitW w h o P T).Pairwise fun x y => leW x y = true := List.pairwise_mergeSort (fun a b c h1 h2 => by rw [leW_iff] at h1 h2 ⊢; omega) (fun a b => by rw [Bool.or_eq_true, leW_iff, leW_iff]; omega) _
  have hn : (fitW w h o P T).Nodup := (List.mergeSort_perm _ _).nodup_iff.2 (raw_nodup _ _ List.nodup_nil)
  have hg : ∀ x ∈ fitW w h o P T, 0 ≤ x.f1 ∧ x.f1 ≤ 3 := fun x hx => by
    obtain ⟨k, hk, e⟩ := fitW_mem.1 hx
    have := endW_good hk e
    exact ⟨this.2.2.1, this.2.2.2⟩
  have := List.Pairwise.and hs hn
  refine List.Pairwise.imp_of_mem (fun {a b} ha hb hab => ?_) this
  have ga := hg a ha
  have gb := hg b hb
  have h1 := leW_iff.1 hab.1
  have h2 : keyW a ≠ keyW b := fun e => hab.2 (by
    unfold keyW at e
    cases a; cases b
    simp only at e ga gb
    have e1 : ‹Int› = ‹Int› := rfl
    congr 1 <;> omega)
  omega
theorem sorted_eq {l m : List SWalker} (hl : l.Pairwise fun x y => keyW x < keyW y) (hm : m.Pairwise fun x y => keyW x < keyW y) (h : ∀ x, x ∈ l ↔ x ∈ m) : l = m := by
  induction l generalizing m with
  | nil =>
    cases m with
    | nil => rfl
    | cons y m => exact absurd ((h y).2 List.mem_cons_self) (List.not_mem_nil)
  | cons x l ih =>
    cases m with
    | nil => exact absurd ((h x).1 List.mem_cons_self) (List.not_mem_nil)
    | cons y m =>
      have hx := List.pairwise_cons.1 hl
      have hy := List.pairwise_cons.1 hm
      have e : x = y := by
        rcases List.mem_cons.1 ((h x).1 List.mem_cons_self) with q | q
        · exact q
        · rcases List.mem_cons.1 ((h y).2 List.mem_cons_self) with r | r
          · exact r.symm
          · have := hx.1 y r
            have := hy.1 x q
            omega
      subst e
      congr 1
      refine ih hx.2 hy.2 fun z => ?_
      have hz := h z
      rw [List.mem_cons, List.mem_cons] at hz
      constructor
      · intro q
        rcases hz.1 (.inr q) with rfl | r
        · have := hx.1 z q; omega
        · exact r
      · intro q
        rcases hz.2 (.inr q) with rfl | r
        · have := hy.1 z q; omega
        · exact r
end
theorem idxW_eq {l : List SWalker} {c f : Int} (hl : l.length ≤ 1000000) : ∀ (d i k : Nat), i + d = l.length → d + 1 ≤ k → ∃ r, slices_Index_impl_Walker.l0 k l (l.length : Int) (i : Int) c f = some r ∧ (0 ≤ r ↔ hasW (l.drop i) (c, f) = true)
  | 0, i, k, hi, hk => by
    obtain ⟨m, rfl⟩ : ∃ m, k = m + 1 := ⟨k - 1, by omega⟩
    refine ⟨-1, ?_, ?_⟩
    · simp only [slices_Index_impl_Walker.l0]
      rw [if_neg (by omega)]
    · rw [List.drop_of_length_le (by omega)]
      simp [hasW]
  | d + 1, i, k, hi, hk => by
    obtain ⟨m, rfl⟩ : ∃ m, k = m + 1 := ⟨k - 1, by omega⟩
    have hil : i < l.length := by omega
    have hr : rd_Walker l (i : Int) = l[i] := by
      show l.getD i zWalker = _
      rw [List.getD_eq_getElem?_getD, List.getElem?_eq_getElem hil]; rfl
    have hd : l.drop i = l[i] :: l.drop (i + 1) := List.drop_eq_getElem_cons hil
    obtain ⟨r, e, hq⟩ := idxW_eq (c := c) (f := f) hl d (i + 1) m (by omega) (by omega)
    rw [hd]
    simp only [slices_Index_impl_Walker.l0]
    rw [if_pos (by omega), if_pos (by omega), if_pos (by omega), hr, w64_succ hil (by omega)]
    by_cases z : l[i].f0 = c ∧ l[i].f1 = f
    · refine ⟨(i : Int), ?_, ?_⟩
      · rw [if_pos (by simp [z.1, z.2])]
      · have : hasW (l[i] :: l.drop (i + 1)) (c, f) = true := by unfold hasW; rw [List.any_cons, decide_eq_true z]; rfl
        rw [this]
        exact ⟨fun _ => rfl, fun _ => by omega⟩
    · refine ⟨r, ?_, ?_⟩
      · rw [if_neg (by
          intro q
          rw [Bool.and_eq_true, beq_iff_eq, beq_iff_eq] at q
          exact z ⟨q.1.symm, q.2.symm⟩)]
        rw [Int.natCast_add] at e
        exact e
      · have : hasW (l[i] :: l.drop (i + 1)) (c, f) = hasW (l.drop (i + 1)) (c, f) := by unfold hasW; rw [List.any_cons, decide_eq_false z, Bool.false_or]
        rw [this]
        exact hq
theorem conW_eq {l : List SWalker} {c f : Int} {k : Nat} (hl : l.length ≤ 1000000) (hk : l.length + 1 ≤ k) : slices_Contains_impl_Walker.f k l c f = some (hasW l (c, f)) := by
  unfold slices_Contains_impl_Walker.f slices_Index_impl_Walker.f
  obtain ⟨r, e, hq⟩ := idxW_eq (c := c) (f := f) hl l.length 0 k (by omega) hk
  have e' : slices_Index_impl_Walker.l0 k l (l.length : Int) 0 c f = some r := e
  rw [e', Option.bind_some]
  congr 1
  rw [List.drop_zero] at hq
  cases q : hasW l (c, f) with
  | true => rw [q] at hq; exact decide_eq_true (hq.2 rfl)
  | false => rw [q] at hq; exact decide_eq_false fun z => Bool.false_ne_true (hq.1 z)
section
variable {w h o : Int} {P T : List Int}
theorem pw_inner {R : Option (List SWalker)} {acc : List SWalker} {i : Nat} (hi : i < 64) (hT : T.length ≤ 40) (hP : P.length = T.length + 1) (ha : acc.length ≤ 64) {N : Nat} (hN : 100 ≤ N) :
    ∀ (d j k : Nat) (ok : Bool) (c f : Int), j + d = T.length → 2 * d + N + 3 ≤ k → (∀ k', N ≤ k' → impl_PossibleWalkers.l0 k' P T (adjW acc (if ok = true then rnW w h o (T.drop j) (P.drop (j + 1)) (c, f) else none)) ((i : Int) + 1) w h o = R) →
    impl_PossibleWalkers.l1 k P T acc (i : Int) ok (j : Int) w h o c f = R := by
  have stop : ∀ (j k : Nat) (ok : Bool) (c f : Int), N + 2 ≤ k → (∀ k', N ≤ k' → impl_PossibleWalkers.l0 k' P T (adjW acc (if ok = true then some (c, f) else none)) ((i : Int) + 1) w h o = R) → impl_PossibleWalkers.j3 k P T acc (i : Int) ok (j : Int) false w h o c f = R := by
    intro j k ok c f hk hR
    obtain ⟨m, rfl⟩ : ∃ m, k = m + 1 := ⟨k - 1, by omega⟩
    simp only [impl_PossibleWalkers.j3]
    rw [if_neg (by decide), w64 (x := (i : Int) + 1) (by omega) (by omega)]
    cases ok with
    | false =>
      have := hR m (by omega)
      rw [if_neg (by decide)] at this
      rw [if_neg (by decide)]
      exact this
    | true =>
      have := hR m (by omega)
      rw [if_pos rfl] at this
      rw [if_pos rfl, conW_eq (by omega) (by omega), Option.bind_some]
      unfold adjW at this
      by_cases q : hasW acc (c, f) = true
      · rw [if_pos q]; simp only [if_pos q] at this; exact this
      · rw [if_neg q, if_pos (by omega)]; simp only [if_neg q] at this; exact this
  intro d
  induction d with
  | zero =>
    intro j k ok c f hj hk hR
    obtain ⟨m, rfl⟩ : ∃ m, k = m + 1 := ⟨k - 1, by omega⟩
    have hd : T.drop j = [] := List.drop_of_length_le (by omega)
    simp only [impl_PossibleWalkers.l1]
    have e : decide ((j : Int) < (T.length : Int)) = false := decide_eq_false (by omega)
    have := stop j m ok c f (by omega) (fun k' hk' => by have := hR k' hk'; rw [hd] at this; simpa [rnW] using this)
    cases ok with
    | false => rw [if_neg (by decide)]; exact this
    | true => rw [if_pos rfl, e]; exact this
  | succ d ih =>
    intro j k ok c f hj hk hR
    obtain ⟨m, rfl⟩ : ∃ m, k = m + 1 := ⟨k - 1, by omega⟩
    simp only [impl_PossibleWalkers.l1]
    cases ok with
    | false =>
      rw [if_neg (by decide)]
      exact stop j m false c f (by omega) (fun k' hk' => by have := hR k' hk'; simpa using this)
    | true =>
      have hjl : j < T.length := by omega
      rw [if_pos rfl, decide_eq_true (show (j : Int) < (T.length : Int) by omega)]
      obtain ⟨m, rfl⟩ : ∃ m', m = m' + 1 := ⟨m - 1, by omega⟩
      simp only [impl_PossibleWalkers.j3]
      have hTd : T.drop j = rd T (j : Int) :: T.drop (j + 1) := drop_step hjl
      have hPd : P.drop (j + 1) = rd P ((j : Int) + 1) :: P.drop (j + 1 + 1) := by
        have := drop_step (l := P) (i := j + 1) (by omega)
        rwa [Int.natCast_add] at this
      rw [if_pos trivial, if_pos (by omega), if_pos (by omega), impl_went_eq (by omega), Option.bind_some]
      simp only
      have hw : wrap64 ((j : Int) + 1) = ((j + 1 : Nat) : Int) := by rw [w64 (by omega) (by omega), Int.natCast_add]; rfl
      rw [hTd, hPd] at hR
      simp only [rnW, stp, if_true] at hR
      by_cases q : 0 ≤ nx w h o c f (rd T (j : Int))
      · rw [if_pos (decide_eq_true q), impl_PatternAt_eq (by omega), Option.bind_some, hw, if_pos (by omega), if_pos (by omega)]
        refine ih (j + 1) m _ _ _ (by omega) (by omega) fun k' hk' => ?_
        have := hR k' hk'
        have ej : (((j + 1 : Nat) : Int)) = (j : Int) + 1 := by omega
        rw [ej]
        by_cases z : pat w h o (nx w h o c f (rd T (j : Int))) (nf f (rd T (j : Int))) = rd P ((j : Int) + 1)
        · rw [if_pos ⟨q, z⟩, Option.bind_some] at this
          rw [if_pos (by rw [beq_iff_eq]; exact z)]
          exact this
        · rw [if_neg (fun y => z y.2), Option.bind_none] at this
          rw [if_neg (by rw [beq_iff_eq]; exact z)]
          exact this
      · rw [if_neg (by rw [decide_eq_true_eq]; exact q), hw]
        refine ih (j + 1) m _ _ _ (by omega) (by omega) fun k' hk' => ?_
        have := hR k' hk'
        rw [if_neg (fun y => q y.1), Option.bind_none] at this
        rw [decide_eq_false q, if_neg (by decide)]
        exact this
theorem pw_fuel {t d m : Nat} (ht : t ≤ 40) (hk : 100 * (d + 1) + 300 ≤ m + 1) : 2 * t + (100 * d + 300) + 3 ≤ m ∧ 100 * d + 399 ≤ m := by omega
theorem pw_outer (hT : T.length ≤ 40) (hP : P.length = T.length + 1) : ∀ (d i k : Nat) (acc : List SWalker), i + d = 4 * stN w h → 100 * d + 300 ≤ k → acc.length ≤ i →
    impl_PossibleWalkers.l0 k P T acc (i : Int) w h o = (slices_SortFunc_impl_Walker.f ((List.range' i d).foldl (fun l k => adjW l (endW w h o P T k)) acc)).bind fun t => some t
  | 0, i, k, acc, hi, hk, ha => by
    obtain ⟨m, rfl⟩ : ∃ m, k = m + 1 := ⟨k - 1, by omega⟩
    have hN := stN_int w h
    have hN2 := stN_le w h
    simp only [impl_PossibleWalkers.l0]
    rw [impl_CountCells_eq, Option.bind_some, w64 (by omega) (by omega), if_neg (by omega)]
    rfl
  | d + 1, i, k, acc, hi, hk, ha => by
    obtain ⟨m, rfl⟩ : ∃ m, k = m + 1 := ⟨k - 1, by omega⟩
    obtain ⟨hfu, hm1⟩ := pw_fuel hT hk
    clear hk
    have hN := stN_int w h
    have hN2 := stN_le w h
    obtain ⟨f1, f2⟩ := four_split i
    simp only [impl_PossibleWalkers.l0]
    rw [impl_CountCells_eq, Option.bind_some, w64 (x := 4 * cells w h) (by omega) (by omega), if_pos (by omega), f1, f2, w64 (x := ((i / 4 : Nat) : Int)) (by omega) (by omega), impl_PatternAt_eq (by omega), Option.bind_some, if_pos (by omega), List.range'_succ, List.foldl_cons]
    refine pw_inner (N := 100 * d + 300) (by omega) hT hP (by omega) (by omega) T.length 0 m _ _ _ (Nat.zero_add _) hfu fun k' hk' => ?_
    have e : (if (pat w h o ((i / 4 : Nat) : Int) ((i % 4 : Nat) : Int) == rd P 0) = true then rnW w h o (T.drop 0) (P.drop (0 + 1)) (((i / 4 : Nat) : Int), ((i % 4 : Nat) : Int)) else none) = endW w h o P T i := by
      unfold endW
      simp only [beq_iff_eq, List.drop_zero, Nat.zero_add]
    rw [e]
    have al := adjW_length acc (endW w h o P T i)
    have := pw_outer hT hP d (i + 1) k' (adjW acc (endW w h o P T i)) (by omega) (by omega) (by omega)
    rw [Int.natCast_add] at this
    exact this
theorem impl_PossibleWalkers_eq {k : Nat} (hPl : P.length ≤ 1048576) (hTl : T.length ≤ 1048576) (hk : 7000 ≤ k) : impl_PossibleWalkers.f k w h o P T = some (posW w h o P T) := by
  have hN2 := stN_le w h
  obtain ⟨m, rfl⟩ : ∃ m, k = m + 1 := ⟨k - 1, by omega⟩
  have no : impl_PossibleWalkers.j0 (m + 1) P T true w h o = some [] := by
    simp only [impl_PossibleWalkers.j0]
    rw [if_pos trivial]
  unfold impl_PossibleWalkers.f posW pwok
  rw [impl_MazeOk_eq, Option.bind_some]
  cases M : mok w h o with
  | false => rw [if_neg (by decide)]; simpa using no
  | true =>
    rw [if_pos rfl, w64 (by omega) (by omega)]
    by_cases hP : (P.length : Int) = (T.length : Int) + 1
    · rw [if_pos hP, impl_areTurns_eq, Option.bind_some, decide_eq_true hP]
      simp only [Bool.true_and]
      cases ht : decide ((T.length : Int) ≤ 40) && T.all turn4 with
      | false => rw [if_neg (by decide)]; exact no
      | true =>
        rw [if_pos rfl]
        rw [Bool.and_eq_true, decide_eq_true_eq] at ht
        simp only [impl_PossibleWalkers.j0, Bool.not_true]
        rw [if_neg (by decide)]
        have := pw_outer (w := w) (h := h) (o := o) (P := P) (T := T) (by omega) (by omega) (4 * stN w h) 0 m [] (by omega) (by omega) (by simp)
        refine this.trans ?_
        have hl := raw_len (w := w) (h := h) (o := o) (P := P) (T := T) (List.range' 0 (4 * stN w h)) []
        unfold slices_SortFunc_impl_Walker.f
        rw [if_pos, if_pos]
        · rfl
        · simp at hl; omega
        · rw [List.all_eq_true]
          intro x hx
          rcases (raw_mem _ _).1 hx with q | ⟨k, hk, q⟩
          · exact (List.not_mem_nil q).elim
          · have hk := List.mem_range'_1.1 hk
            have g := endW_good (by omega) q
            have := cells_bd w h
            unfold slices_SortFunc_impl_Walker.l1
            exact decide_eq_true ⟨g.1, by have := g.2.1; simp only at this; omega, g.2.2.1, g.2.2.2⟩
    · rw [if_neg hP, decide_eq_false hP]
      simpa using no
end
end Go.Proofs.Ytccjanhdnheclaa.F
end

section
namespace Go.Proofs.Ytccjanhdnheclaa.F
open Go.RowKit Go.Proofs.YtccjanhdnheclaaW.PrintWords Go.Proofs.YtccjanhdnheclaaW.PrintLast Go.Proofs.YtccjanhdnheclaaW.PrintMore
set_option linter.unusedVariables false
set_option linter.unusedSimpArgs false
def atB (B : List Bool) (j : Nat) : Bool := B.getD j false
theorem rdOf_at (B : List Bool) (j : Nat) : rdOf false B (j : Int) = atB B j := rfl
theorem atB_set {B : List Bool} {i : Nat} (hi : i < B.length) (b : Bool) (j : Nat) : atB (B.set i b) j = if j = i then b else atB B j := by
  unfold atB
  rw [List.getD_eq_getElem?_getD, List.getD_eq_getElem?_getD, List.getElem?_set]
  by_cases e : i = j
  · subst e; rw [if_pos rfl, if_pos hi, if_pos rfl]; rfl
  · rw [if_neg e, if_neg (fun q => e q.symm)]
theorem atB_rep (n j : Nat) : atB (List.replicate n false) j = false := by
  unfold atB
  rw [List.getD_eq_getElem?_getD, List.getElem?_replicate]
  split <;> rfl
theorem w64_q {i : Nat} (h : i < 1000) : wrap64 ((i / 4 : Nat) : Int) = ((i / 4 : Nat) : Int) := by
  have : i / 4 < 1000 := Nat.lt_of_le_of_lt (Nat.div_le_self _ _) h
  generalize i / 4 = q at this ⊢
  exact w64 (by omega) (by omega)
def plcW (j : Nat) : Int × Int := (((j / 4 : Nat) : Int), ((j % 4 : Nat) : Int))
section
variable {w h o : Int} {P T : List Int} {R : Option (List SWalker)} {n : Nat}
theorem sp_l0 (hn : n ≤ 64) (hP0 : 0 < P.length) {N : Nat} (hN : 100 ≤ N) (hR : ∀ k B, N ≤ k → B.length = n → (∀ j, j < n → (atB B j = true ↔ pat w h o (plcW j).1 (plcW j).2 = rd P 0)) → spec_PossibleWalkers.l1 k P T [] (n : Int) B 0 w h o = R) :
    ∀ (d i k : Nat) (B : List Bool), i + d = n → d + N + 1 ≤ k → B.length = n → (∀ j, j < i → (atB B j = true ↔ pat w h o (plcW j).1 (plcW j).2 = rd P 0)) → spec_PossibleWalkers.l0 k P T [] (n : Int) B (i : Int) w h o = R
  | 0, i, k, B, hi, hk, hB, hv => by
    obtain ⟨m, rfl⟩ : ∃ m, k = m + 1 := ⟨k - 1, by omega⟩
    obtain rfl : i = n := by omega
    simp only [spec_PossibleWalkers.l0]
    rw [if_neg (by omega)]
    exact hR m B (by omega) hB hv
  | d + 1, i, k, B, hi, hk, hB, hv => by
    obtain ⟨m, rfl⟩ : ∃ m, k = m + 1 := ⟨k - 1, by omega⟩
    simp only [spec_PossibleWalkers.l0]
    rw [if_pos (by omega), (four_split i).1, (four_split i).2, w64_q (show i < 1000 by omega), spec_PatternAt_eq (by omega), Option.bind_some, if_pos (by omega), if_pos (by omega), if_pos (by omega), Int.toNat_natCast, w64 (x := (i : Int) + 1) (by omega) (by omega)]
    have := sp_l0 hn hP0 hN hR d (i + 1) m (B.set i (pat w h o ((i / 4 : Nat) : Int) ((i % 4 : Nat) : Int) == rd P 0)) (by omega) (by omega) (by simp [hB]) (fun j hj => by
      rw [atB_set (by omega)]
      by_cases e : j = i
      · rw [if_pos e, e, beq_iff_eq]; exact Iff.rfl
      · rw [if_neg e]; exact hv j (by omega))
    rw [Int.natCast_add] at this
    exact this
theorem sp_l3 {B : List Bool} (hn : n ≤ 64) (hB : B.length = n) : ∀ (d i k : Nat) (acc : List SWalker), i + d = n → d + 1 ≤ k → acc.length ≤ i → spec_PossibleWalkers.l3 k acc (n : Int) B (i : Int) = some (acc ++ ((List.range' i d).filter (atB B)).map fun j => ⟨(plcW j).1, (plcW j).2⟩)
  | 0, i, k, acc, hi, hk, ha => by
    obtain ⟨m, rfl⟩ : ∃ m, k = m + 1 := ⟨k - 1, by omega⟩
    simp only [spec_PossibleWalkers.l3]
    rw [if_neg (by omega)]
    simp
  | d + 1, i, k, acc, hi, hk, ha => by
    obtain ⟨m, rfl⟩ : ∃ m, k = m + 1 := ⟨k - 1, by omega⟩
    simp only [spec_PossibleWalkers.l3]
    rw [if_pos (by omega), if_pos (by omega), if_pos (by omega), rdOf_at, (four_split i).1, (four_split i).2, w64_q (show i < 1000 by omega), w64 (x := (i : Int) + 1) (by omega) (by omega), List.range'_succ, List.filter_cons]
    by_cases q : atB B i = true
    · rw [if_pos q, if_pos (by omega), if_pos q, List.map_cons]
      have := sp_l3 hn hB d (i + 1) m (acc ++ [⟨(plcW i).1, (plcW i).2⟩]) (by omega) (by omega) (by simp; omega)
      rw [Int.natCast_add] at this
      refine this.trans ?_
      simp
    · rw [if_neg q, if_neg q]
      have := sp_l3 hn hB d (i + 1) m acc (by omega) (by omega) (by omega)
      rw [Int.natCast_add] at this
      exact this
def setW (w h o t p : Int) (B C : List Bool) (i : Nat) : List Bool := if atB B i = true then (match stp w h o t p (plcW i) with | some v => C.set (4 * v.1 + v.2).toNat true | none => C) else C
theorem sp_step {B C : List Bool} {t i m : Nat} (hn : n = 4 * stN w h) (hB : B.length = n) (hC : C.length = n) (ht : t < T.length) (hT : T.length ≤ 40) (hP : P.length = T.length + 1) (hi : i < n) (hm : 50 ≤ m) :
    spec_PossibleWalkers.l2 (m + 1) P T [] (n : Int) B (t : Int) C (i : Int) w h o = spec_PossibleWalkers.l2 m P T [] (n : Int) B (t : Int) (setW w h o (rd T (t : Int)) (rd P ((t : Int) + 1)) B C i) ((i + 1 : Nat) : Int) w h o := by
  have hN1 := stN_int w h
  have hN2 := stN_le w h
  have i1 : i < 1000 := by omega
  have c1 : (i : Int) < (n : Int) := by omega
  have c2 : (0 : Int) ≤ (t : Int) := by omega
  have c3 : (t : Int) < (T.length : Int) := by omega
  have c4 : (0 : Int) ≤ (i : Int) := by omega
  have c5 : (i : Int) < (B.length : Int) := by omega
  have c6 : (0 : Int) ≤ (t : Int) + 1 := by omega
  have c7 : (t : Int) + 1 < (P.length : Int) := by omega
  have e1 := spec_l33Turned_eq (k := m) (by omega) w h o ((i / 4 : Nat) : Int) ((i % 4 : Nat) : Int) (rd T (t : Int))
  have e2 := fun c f => spec_PatternAt_eq (k := m) (by omega) w h o c f
  have es : stp w h o (rd T (t : Int)) (rd P ((t : Int) + 1)) (plcW i) = if 0 ≤ nx w h o ((i / 4 : Nat) : Int) ((i % 4 : Nat) : Int) (rd T (t : Int)) ∧ pat w h o (nx w h o ((i / 4 : Nat) : Int) ((i % 4 : Nat) : Int) (rd T (t : Int))) (nf ((i % 4 : Nat) : Int) (rd T (t : Int))) = rd P ((t : Int) + 1) then some (nx w h o ((i / 4 : Nat) : Int) ((i % 4 : Nat) : Int) (rd T (t : Int)), nf ((i % 4 : Nat) : Int) (rd T (t : Int))) else none := rfl
  have g : ∀ v : Int × Int, stp w h o (rd T (t : Int)) (rd P ((t : Int) + 1)) (plcW i) = some v → 0 ≤ v.1 ∧ v.1 < cells w h ∧ 0 ≤ v.2 ∧ v.2 ≤ 3 := fun v e => stp_good e
  have t1 : t < 1000 := by omega
  have hs1 : ∀ x : Nat, x < 1000 → wrap64 ((x : Int) + 1) = ((x + 1 : Nat) : Int) := fun x hx => by rw [w64 (by omega) (by omega)]; rfl
  have ht' : wrap64 ((t : Int) + 1) = (t : Int) + 1 := hs1 t t1
  have hi' := hs1 i i1
  have h4 : wrap64 ((i / 4 : Nat) : Int) = ((i / 4 : Nat) : Int) := w64_q i1
  simp only [spec_PossibleWalkers.l2]
  rw [(four_split i).1, (four_split i).2, h4, e1, hi', ht', Option.bind_some, rdOf_at]
  rw [if_pos c1, if_pos c2, if_pos c3, if_pos c4, if_pos c5]
  clear ht' hi' h4 hs1
  unfold setW
  generalize nx w h o ((i / 4 : Nat) : Int) ((i % 4 : Nat) : Int) (rd T (t : Int)) = c at es ⊢
  generalize nf ((i % 4 : Nat) : Int) (rd T (t : Int)) = f at es ⊢
  generalize stp w h o (rd T (t : Int)) (rd P ((t : Int) + 1)) (plcW i) = S at es g ⊢
  by_cases q : atB B i = true
  · rw [if_pos q, if_pos q]
    by_cases z : c < 0
    · rw [if_pos z, if_neg (by simp)]
      rw [if_neg (by omega)] at es
      rw [es]
    · rw [if_neg z, if_pos rfl, e2, Option.bind_some, if_pos c6, if_pos c7]
      by_cases y : pat w h o c f = rd P ((t : Int) + 1)
      · rw [if_pos ⟨by omega, y⟩] at es
        rw [if_pos y, es]
        obtain ⟨g1, g2, g3, g4⟩ := g _ es
        have hw : wrap64 (wrap64 (4 * c) + f) = 4 * c + f := by rw [w64 (x := 4 * c) (by omega) (by omega), w64 (by omega) (by omega)]
        rw [hw, if_pos (by omega), if_pos (by omega)]
      · rw [if_neg (fun x => y x.2)] at es
        rw [if_neg y, es]
  · rw [if_neg q, if_neg q]
theorem setW_length (w h o t p : Int) (B C : List Bool) (i : Nat) : (setW w h o t p B C i).length = C.length := by
  unfold setW
  split
  · split <;> simp
  · rfl
theorem setW_at {t p : Int} {B C : List Bool} {i : Nat} (hn : n = 4 * stN w h) (hC : C.length = n) (hi : i < n) {x : Nat} (hx : x < n) : atB (setW w h o t p B C i) x = true ↔ atB C x = true ∨ atB B i = true ∧ ∃ v, stp w h o t p (plcW i) = some v ∧ 4 * v.1 + v.2 = x := by
  have hN1 := stN_int w h
  unfold setW
  by_cases q : atB B i = true
  · rw [if_pos q]
    cases e : stp w h o t p (plcW i) with
    | none =>
      simp only
      exact ⟨.inl, fun r => r.elim id fun ⟨_, v, y, _⟩ => by cases y⟩
    | some v =>
      have g := stp_good e
      simp only
      rw [atB_set (by omega)]
      by_cases z : x = (4 * v.1 + v.2).toNat
      · rw [if_pos z]
        exact ⟨fun _ => .inr ⟨q, v, rfl, by omega⟩, fun _ => rfl⟩
      · rw [if_neg z]
        refine ⟨.inl, fun r => r.elim id fun ⟨_, u, y, k⟩ => ?_⟩
        obtain rfl := Option.some.inj y
        omega
  · rw [if_neg q]
    exact ⟨.inl, fun r => r.elim id fun r => absurd r.1 q⟩
theorem sp_l2 {B : List Bool} {t : Nat} (hn : n = 4 * stN w h) (hB : B.length = n) (ht : t < T.length) (hT : T.length ≤ 40) (hP : P.length = T.length + 1) {N : Nat} (hN : 100 ≤ N)
    (hR : ∀ k B', N ≤ k → B'.length = n → (∀ x, x < n → (atB B' x = true ↔ ∃ j, j < n ∧ atB B j = true ∧ ∃ v, stp w h o (rd T (t : Int)) (rd P ((t : Int) + 1)) (plcW j) = some v ∧ 4 * v.1 + v.2 = x)) → spec_PossibleWalkers.l1 k P T [] (n : Int) B' ((t : Int) + 1) w h o = R) (d : Nat) :
    ∀ (i k : Nat) (C : List Bool), i + d = n → d + N + 1 ≤ k → C.length = n → (∀ x, x < n → (atB C x = true ↔ ∃ j, j < i ∧ atB B j = true ∧ ∃ v, stp w h o (rd T (t : Int)) (rd P ((t : Int) + 1)) (plcW j) = some v ∧ 4 * v.1 + v.2 = x)) →
    spec_PossibleWalkers.l2 k P T [] (n : Int) B (t : Int) C (i : Int) w h o = R := by
  induction d with
  | zero =>
    intro i k C hi hk hC hv
    obtain ⟨m, rfl⟩ : ∃ m, k = m + 1 := ⟨k - 1, by omega⟩
    obtain rfl : i = n := by omega
    have ht' : wrap64 ((t : Int) + 1) = (t : Int) + 1 := w64 (by omega) (by omega)
    simp only [spec_PossibleWalkers.l2]
    rw [if_neg (by omega), ht']
    exact hR m C (by omega) hC hv
  | succ d ih =>
    intro i k C hi hk hC hv
    obtain ⟨m, rfl⟩ : ∃ m, k = m + 1 := ⟨k - 1, by omega⟩
    have hin : i < n := by omega
    rw [sp_step hn hB hC ht hT hP hin (by omega)]
    refine ih (i + 1) m _ (by omega) (by omega) (by rw [setW_length, hC]) fun x hx => ?_
    rw [setW_at hn hC hin hx, hv x hx]
    constructor
    · rintro (⟨j, hj, r⟩ | ⟨q, v, e, z⟩)
      · exact ⟨j, by omega, r⟩
      · exact ⟨i, by omega, q, v, e, z⟩
    · rintro ⟨j, hj, q, v, e, z⟩
      by_cases ji : j = i
      · subst ji; exact .inr ⟨q, v, e, z⟩
      · exact .inl ⟨j, by omega, q, v, e, z⟩
theorem sp_l1 (hn : n = 4 * stN w h) (hT : T.length ≤ 40) (hP : P.length = T.length + 1) {N : Nat} (hN : 100 ≤ N) : ∀ (d t k : Nat) (B : List Bool), t + d = T.length → 200 * d + N + 1 ≤ k → B.length = n →
    (∀ k' B', N ≤ k' → B'.length = n → (∀ x, x < n → (atB B' x = true ↔ ∃ j, j < n ∧ atB B j = true ∧ ∃ v, rnW w h o (T.drop t) (P.drop (t + 1)) (plcW j) = some v ∧ 4 * v.1 + v.2 = x)) → spec_PossibleWalkers.l3 k' [] (n : Int) B' 0 = R) →
    spec_PossibleWalkers.l1 k P T [] (n : Int) B (t : Int) w h o = R
  | 0, t, k, B, ht, hk, hB, hR => by
    obtain ⟨m, rfl⟩ : ∃ m, k = m + 1 := ⟨k - 1, by omega⟩
    have hN2 := stN_le w h
    simp only [spec_PossibleWalkers.l1]
    rw [if_neg (by omega)]
    refine hR m B (by omega) hB fun x hx => ?_
    rw [List.drop_of_length_le (by omega)]
    simp only [rnW]
    have key : ∀ j : Nat, 4 * (plcW j).1 + (plcW j).2 = (j : Int) := fun j => by simp only [plcW]; omega
    constructor
    · intro q
      exact ⟨x, hx, q, _, rfl, key x⟩
    · rintro ⟨j, hj, q, v, e, z⟩
      obtain rfl := Option.some.inj e
      rw [key j] at z
      obtain rfl : j = x := by omega
      exact q
  | d + 1, t, k, B, ht, hk, hB, hR => by
    obtain ⟨m, rfl⟩ : ∃ m, k = m + 1 := ⟨k - 1, by omega⟩
    have hN2 := stN_le w h
    have htl : t < T.length := by omega
    have hTd : T.drop t = rd T (t : Int) :: T.drop (t + 1) := drop_step htl
    have hPd : P.drop (t + 1) = rd P ((t : Int) + 1) :: P.drop (t + 1 + 1) := by
      have := drop_step (l := P) (i := t + 1) (by omega)
      rwa [Int.natCast_add] at this
    simp only [spec_PossibleWalkers.l1]
    rw [if_pos (by omega), if_pos (by omega), if_pos (by rw [Int.toNat_natCast]; omega), Int.toNat_natCast]
    refine sp_l2 (N := 200 * d + N + 1) hn hB htl hT hP (by omega) (fun k' B' hk' hB' hv => ?_) n 0 m (List.replicate n false) (by omega) (by omega) (by simp) (fun x hx => by
      rw [atB_rep]
      exact ⟨fun q => absurd q Bool.false_ne_true, fun ⟨j, hj, _⟩ => absurd hj (Nat.not_lt_zero _)⟩)
    have := sp_l1 hn hT hP hN d (t + 1) k' B' (by omega) (by omega) hB' (fun k2 B2 hk2 hB2 hv2 => hR k2 B2 hk2 hB2 fun x hx => by
      rw [hv2 x hx, hTd, hPd]
      simp only [rnW]
      constructor
      · rintro ⟨j, hj, q, v, e, z⟩
        obtain ⟨i, hi, q', u, e', z'⟩ := (hv j hj).1 q
        have g := stp_good e'
        have hu : plcW j = u := by
          unfold plcW
          obtain ⟨u1, u2⟩ := u
          simp only at g z'
          congr 1 <;> omega
        exact ⟨i, hi, q', v, by rw [e', Option.bind_some, ← hu]; exact e, z⟩
      · rintro ⟨i, hi, q, v, e, z⟩
        obtain ⟨u, e1, e2⟩ := Option.bind_eq_some_iff.1 e
        have g := stp_good e1
        have hN1 := stN_int w h
        obtain ⟨u1, u2⟩ := u
        simp only at g
        obtain ⟨a, rfl⟩ : ∃ a : Nat, u1 = a := ⟨u1.toNat, by omega⟩
        obtain ⟨b, rfl⟩ : ∃ b : Nat, u2 = b := ⟨u2.toNat, by omega⟩
        have hlt : 4 * a + b < n := by omega
        have hu : plcW (4 * a + b) = ((a : Int), (b : Int)) := by
          unfold plcW
          congr 1 <;> omega
        exact ⟨4 * a + b, hlt, (hv _ hlt).2 ⟨i, hi, q, _, e1, by simp only; omega⟩, v, by rw [hu]; exact e2, z⟩)
    rw [Int.natCast_add] at this
    exact this
theorem spec_PossibleWalkers_eq {k : Nat} (hPl : P.length ≤ 1048576) (hTl : T.length ≤ 1048576) (hk : T.length + 9000 ≤ k) : spec_PossibleWalkers.f k w h o P T = some (posW w h o P T) := by
  have hN1 := stN_int w h
  have hN2 := stN_le w h
  obtain ⟨m, rfl⟩ : ∃ m, k = m + 1 := ⟨k - 1, by omega⟩
  have no : spec_PossibleWalkers.j0 (m + 1) P T [] true w h o = some [] := by
    simp only [spec_PossibleWalkers.j0]
    rw [if_pos trivial]
  unfold spec_PossibleWalkers.f posW pwok
  rw [Option.bind_some, spec_MazeOk_eq, Option.bind_some]
  cases M : mok w h o with
  | false => rw [if_neg (by decide)]; simpa using no
  | true =>
    rw [if_pos rfl, w64 (by omega) (by omega)]
    by_cases hP : (P.length : Int) = (T.length : Int) + 1
    · rw [if_pos hP, spec_l33Turns_eq (by omega) (by omega), Option.bind_some, decide_eq_true hP]
      simp only [Bool.true_and]
      cases ht : decide ((T.length : Int) ≤ 40) && T.all turn4 with
      | false => rw [if_neg (by decide)]; exact no
      | true =>
        rw [if_pos rfl]
        rw [Bool.and_eq_true, decide_eq_true_eq] at ht
        simp only [spec_PossibleWalkers.j0, Bool.not_true]
        have hc : wrap64 (4 * cells w h) = ((4 * stN w h : Nat) : Int) := by rw [w64 (by omega) (by omega)]; omega
        rw [if_neg (by decide), spec_CountCells_eq, Option.bind_some, hc, if_pos (by omega), if_pos (by rw [Int.toNat_natCast]; omega), Int.toNat_natCast]
        refine sp_l0 (N := 8500) (by omega) (by omega) (by omega) (fun k' B hk' hB hv => ?_) (4 * stN w h) 0 m _ (by omega) (by omega) (by simp) (fun j hj => absurd hj (Nat.not_lt_zero _))
        refine sp_l1 (N := 200) rfl (by omega) (by omega) (by omega) T.length 0 k' B (by omega) (by omega) hB (fun k2 B2 hk2 hB2 hv2 => ?_)
        have e3 := sp_l3 (B := B2) (n := 4 * stN w h) (by omega) hB2 (4 * stN w h) 0 k2 [] (by omega) (by omega) (by simp)
        refine Eq.trans e3 ?_
        rw [List.nil_append]
        congr 1
        have key : ∀ j : Nat, keyW ⟨(plcW j).1, (plcW j).2⟩ = (j : Int) := fun j => by simp only [plcW, keyW]; omega
        refine sorted_eq ?_ fitW_sorted fun x => ?_
        · rw [List.pairwise_map]
          refine ((List.pairwise_lt_range' (s := 0) (n := 4 * stN w h)).filter _).imp fun {a b} hab => ?_
          rw [key, key]
          omega
        · rw [fitW_mem, List.mem_map]
          constructor
          · rintro ⟨j, hj, rfl⟩
            obtain ⟨hj, q⟩ := List.mem_filter.1 hj
            have hj := List.mem_range'_1.1 hj
            obtain ⟨i, hi, q', v, e, z⟩ := (hv2 j (by omega)).1 q
            have hb := (hv i hi).1 q'
            refine ⟨i, hi, ?_⟩
            have ee : endW w h o P T i = some v := by
              unfold endW
              rw [if_pos (show pat w h o ((i / 4 : Nat) : Int) ((i % 4 : Nat) : Int) = rd P 0 from hb)]
              simpa [plcW] using e
            rw [ee]
            have g := endW_good hi ee
            obtain ⟨v1, v2⟩ := v
            simp only at g z
            simp only [plcW]
            congr 2 <;> omega
          · rintro ⟨i, hi, e⟩
            have g := endW_good hi e
            simp only at g
            obtain ⟨x0, x1⟩ := x
            simp only at g e
            obtain ⟨a, rfl⟩ : ∃ a : Nat, x0 = a := ⟨x0.toNat, by omega⟩
            obtain ⟨b, rfl⟩ : ∃ b : Nat, x1 = b := ⟨x1.toNat, by omega⟩
            have hlt : 4 * a + b < 4 * stN w h := by omega
            unfold endW at e
            split at e
            · rename_i hb
              refine ⟨4 * a + b, List.mem_filter.2 ⟨List.mem_range'_1.2 ⟨by omega, by omega⟩, (hv2 _ hlt).2 ⟨i, hi, (hv i hi).2 hb, _, by simpa [plcW] using e, by simp only; omega⟩⟩, ?_⟩
              simp only [plcW]
              congr 1 <;> omega
            · cases e
    · rw [if_neg hP, decide_eq_false hP]
      simpa using no
end
end Go.Proofs.Ytccjanhdnheclaa.F
end

section
namespace Go.Proofs.Ytccjanhdnheclaa.F
open Go.RowKit Go.Proofs.YtccjanhdnheclaaW.PrintWords Go.Proofs.YtccjanhdnheclaaW.PrintLast Go.Proofs.YtccjanhdnheclaaW.PrintMore
set_option linter.unusedVariables false
set_option linter.unusedSimpArgs false
theorem markI_len {k : Nat} {l : List Int} {a : Int} (h0 : 0 ≤ a) (h1 : a ≤ 1000000000) (hl : l.length ≤ 1000000000) (hk : l.length + 1 ≤ k) : ∃ l', laws_markIntS.f k l a = some (a + l.length, l') := by
  obtain ⟨s, ⟨e1, e2⟩, e4⟩ := inv_loop (n := l.length) (c := 0) (F := fun k (s : List Int × Int) i => laws_markIntS.l0 k s.1 s.2 i) (fin := fun s => (s.2, s.1))
    (I := fun s i => s.1.length = l.length ∧ s.2 = a + i)
    (fun k s i _ hi ⟨i1, i2⟩ => ⟨(s.1.set i s.2, s.2 + 1), ⟨by simpa using i1, by simp only; omega⟩, by
        simp only [laws_markIntS.l0]
        rw [if_pos (by omega), if_pos (by omega), w64_succ hi (by omega), w64 (by omega) (by omega)]
        rfl⟩)
    (fun k s _ h => by
      simp only [laws_markIntS.l0]
      rw [if_neg (by omega)]) l.length 0 k (l, a) (by omega) (by omega) ⟨rfl, by simp⟩
  exact ⟨s.1, by rw [← e2]; exact e4⟩
theorem eqW_refl {k : Nat} {l : List SWalker} (hl : l.length ≤ 9223372036854775806) (hk : l.length + 1 ≤ k) : laws_eqWalkerS.f k l l = some true := by
  unfold laws_eqWalkerS.f
  rw [if_pos rfl]
  have := all_loop (c := 0) zWalker (F := fun k i => laws_eqWalkerS.l0 k l l i) (p := fun _ => true) (b := true)
    (fun k i _ hi => by
      simp only [laws_eqWalkerS.l0, laws_eqWalker.f]
      rw [if_pos (by omega), if_pos (by omega), if_pos (by omega), w64_succ hi (by omega)]
      simp)
    (fun k _ => by simp only [laws_eqWalkerS.l0]; rw [if_neg (by omega)]) hk
  rw [this]
  congr 1
  simp only [Bool.and_true, List.all_eq_true, implies_true]
theorem markW_held {k : Nat} {l : List SWalker} {a : Int} (h0 : 0 ≤ a) (h1 : a ≤ 1000000000) (hl : l.length ≤ 1000000) (hk : l.length + 1 ≤ k) :
    ∃ l', laws_markWalkerS.f k l a = some (a + 2 * l.length, l') ∧ ∀ k', l.length + 1 ≤ k' → laws_heldWalkerS.f k' l' a = some (a + 2 * l.length) := by
  obtain ⟨s, ⟨e1, e2, e3⟩, e4⟩ := inv_loop (n := l.length) (c := 0) (F := fun k (s : List SWalker × Int) i => laws_markWalkerS.l0 k s.1 s.2 i) (fin := fun s => (s.2, s.1))
    (I := fun s i => s.1.length = l.length ∧ s.2 = a + 2 * i ∧ ∀ j : Nat, j < i → rd_Walker s.1 (j : Int) = ⟨a + 2 * j, a + 2 * j + 1⟩)
    (fun k s i _ hi ⟨i1, i2, i3⟩ => by
      obtain ⟨y, hy⟩ : ∃ y : List SWalker, y = s.1.set i ⟨s.2, (rd_Walker s.1 (i : Int)).f1⟩ := ⟨_, rfl⟩
      have hr : ∀ j : Nat, rd_Walker (y.set i ⟨(rd_Walker y (i : Int)).f0, s.2 + 1⟩) (j : Int) = if i = j then ⟨s.2, s.2 + 1⟩ else rd_Walker s.1 (j : Int) := fun j => by
        show (y.set i _).getD j zWalker = if i = j then _ else s.1.getD j zWalker
        have hyi : rd_Walker y (i : Int) = ⟨s.2, (rd_Walker s.1 (i : Int)).f1⟩ := by
          show y.getD i zWalker = _
          rw [hy, List.getD_eq_getElem?_getD, List.getElem?_set, if_pos rfl, if_pos (by omega)]
          rfl
        rw [hyi, List.getD_eq_getElem?_getD, List.getElem?_set]
        by_cases e : i = j
        · subst e
          rw [if_pos rfl, if_pos (by rw [hy]; simp; omega), if_pos rfl]
          rfl
        · rw [if_neg e, if_neg e, hy, List.getElem?_set, if_neg e, List.getD_eq_getElem?_getD]
      refine ⟨(y.set i ⟨(rd_Walker y (i : Int)).f0, s.2 + 1⟩, s.2 + 2), ⟨by rw [hy]; simpa using i1, by simp only; omega, fun j hj => ?_⟩, ?_⟩
      · simp only
        rw [hr j]
        by_cases e : i = j
        · rw [if_pos e, i2, ← e]
        · rw [if_neg e]; exact i3 j (by omega)
      · simp only [laws_markWalkerS.l0]
        rw [if_pos (by omega), if_pos (by omega), Option.bind_some, w64_succ hi (by omega), w64 (x := s.2 + 1) (by omega) (by omega), w64 (by omega) (by omega), show s.2 + 1 + 1 = s.2 + 2 by omega, Int.toNat_natCast, ← hy])
    (fun k s _ h => by
      simp only [laws_markWalkerS.l0]
      rw [if_neg (by omega)]) l.length 0 k (l, a) (by omega) (by omega) ⟨rfl, by simp, fun j hj => by omega⟩
  refine ⟨s.1, ?_, fun k' hk' => ?_⟩
  · rw [← e2]
    exact e4
  · obtain ⟨s', e5, e6⟩ := inv_loop (n := l.length) (c := 0) (F := fun k (x : Int) i => laws_heldWalkerS.l0 k s.1 x i) (fin := fun x => x) (I := fun x i => x = a + 2 * i)
      (fun k x i _ hi hx => ⟨x + 2, by omega, by
        have h3 := e3 i hi
        simp only [laws_heldWalkerS.l0]
        rw [if_pos (by omega), if_pos (by omega), if_pos (by rw [h3, hx]), w64 (x := x + 1) (by omega) (by omega), if_pos (by rw [h3, hx]), w64_succ hi (by omega), w64 (by omega) (by omega), show x + 1 + 1 = x + 2 by omega]⟩)
      (fun k x _ _ => by
        simp only [laws_heldWalkerS.l0]
        rw [if_neg (by omega)]) l.length 0 k' a (by omega) (by omega) (by simp)
    rw [← e5]
    exact e6
theorem posW_len (w h o : Int) (P T : List Int) : (posW w h o P T).length ≤ 64 := by
  unfold posW
  split
  · exact fitW_len
  · simp
end Go.Proofs.Ytccjanhdnheclaa.F
end

section
namespace Go.Proofs.Ytccjanhdnheclaa.F
open Go.RowKit Go.Proofs.YtccjanhdnheclaaW.PrintWords Go.Proofs.YtccjanhdnheclaaW.PrintLast Go.Proofs.YtccjanhdnheclaaW.PrintMore
set_option linter.unusedVariables false
set_option linter.unusedSimpArgs false
theorem FnExactPossibleWalkers_pure : ∀ (a0_0 : Int) (a0_1 : Int) (a0_2 : Int) (l1 : List (Int)) (l2 : List (Int)), (I64 (a0_0)) → (I64 (a0_1)) → (I64 (a0_2)) → ((l1).length ≤ 9223372036854775807 ∧ ∀ y ∈ l1, I64 (y)) → ((l2).length ≤ 9223372036854775807 ∧ ∀ y ∈ l2, I64 (y)) → ∃ k, laws_FnExactPossibleWalkers.f k a0_0 a0_1 a0_2 l1 l2 = some true := by
  intro w h o P T _ _ _ _ _
  obtain ⟨K, hK⟩ : ∃ K, K = P.length + T.length + 9000 := ⟨_, rfl⟩
  refine ⟨K + 1, ?_⟩
  unfold laws_FnExactPossibleWalkers.f
  by_cases b1 : (P.length : Int) > 1048576
  · rw [if_pos b1]
  · by_cases b2 : (T.length : Int) > 1048576
    · rw [if_neg b1, if_pos b2]
    · have hl := posW_len w h o P T
      have t1 : ∀ k, K ≤ k → laws_toIntS.f k P = some P := fun k hk => laws_toIntS_eq (by omega) (by omega)
      have t2 : ∀ k, K ≤ k → laws_toIntS.f k T = some T := fun k hk => laws_toIntS_eq (by omega) (by omega)
      have q1 : laws_eqIntS.f (K + 1) P P = some true := laws_eqIntS_refl (by omega) (by omega)
      have q2 : laws_eqIntS.f (K + 1) T T = some true := laws_eqIntS_refl (by omega) (by omega)
      have s1 : spec_PossibleWalkers.f (K + 1) w h o P T = some (posW w h o P T) := spec_PossibleWalkers_eq (by omega) (by omega) (by omega)
      have i1 : ∀ k, K ≤ k → impl_PossibleWalkers.f k w h o P T = some (posW w h o P T) := fun k hk => impl_PossibleWalkers_eq (by omega) (by omega) (by omega)
      have r1 : ∀ k, K ≤ k → laws_eqWalkerS.f k (posW w h o P T) (posW w h o P T) = some true := fun k hk => eqW_refl (by omega) (by omega)
      obtain ⟨m1, e1⟩ := markI_len (k := K + 1) (l := P) (a := 1) (by decide) (by decide) (by omega) (by omega)
      obtain ⟨m2, e2⟩ := markI_len (k := K + 1) (l := T) (a := 1 + (P.length : Int)) (by omega) (by omega) (by omega) (by omega)
      obtain ⟨m3, e3, e4⟩ := markW_held (k := K) (l := posW w h o P T) (a := 1) (by decide) (by decide) (by omega) (by omega)
      have n1 : ¬ (1 + (P.length : Int) + (T.length : Int) < 0) := by omega
      have n2 : ¬ (1 + 2 * ((posW w h o P T).length : Int) < 0) := by omega
      rw [if_neg b1, if_neg b2]
      simp only [laws_toMaze.f, laws_toGrid.f, Option.bind_some, t1 (K + 1) (by omega), t2 (K + 1) (by omega), s1, i1 (K + 1) (by omega), r1 (K + 1) (by omega), q1, q2, if_true, e1, e2, if_neg n1]
      simp only [laws_FnExactPossibleWalkers.j0, Bool.not_true, Bool.false_eq_true, if_false, e3, Option.bind_some, e4 K (by omega), if_neg n2, if_true, laws_toMaze.f, laws_toGrid.f, t1 K (by omega), t2 K (by omega), i1 K (by omega), r1 K (by omega)]
end Go.Proofs.Ytccjanhdnheclaa.F
end
