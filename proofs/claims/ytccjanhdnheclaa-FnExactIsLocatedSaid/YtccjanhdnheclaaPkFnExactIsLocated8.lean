/- Packed by a program of the session (wip/tools/pack.py): what the claim's theorem reaches, of the texts that wip/ and the kit's printer lay. -/
import Derived.Test.YtccjanhdnheclaaPkFnExactIsLocated7
section
namespace Go.Proofs.Ytccjanhdnheclaa.F
open Go.RowKit Go.Proofs.YtccjanhdnheclaaW.PrintWords Go.Proofs.YtccjanhdnheclaaW.PrintLast Go.Proofs.YtccjanhdnheclaaW.PrintMore
set_option linter.unusedVariables false
set_option linter.unusedSimpArgs false
def stp (w h o t p : Int) (u : Int × Int) : Option (Int × Int) := if 0 ≤ nx w h o u.1 u.2 t ∧ pat w h o (nx w h o u.1 u.2 t) (nf u.2 t) = p then some (nx w h o u.1 u.2 t, nf u.2 t) else none
def rnW (w h o : Int) : List Int → List Int → Int × Int → Option (Int × Int)
  | t :: ts, p :: ps, u => (stp w h o t p u).bind (rnW w h o ts ps)
  | [], _, u => some u
  | _ :: _, [], _ => none
def endW (w h o : Int) (P T : List Int) (k : Nat) : Option (Int × Int) := if pat w h o ((k / 4 : Nat) : Int) ((k % 4 : Nat) : Int) = rd P 0 then rnW w h o T (P.drop 1) (((k / 4 : Nat) : Int), ((k % 4 : Nat) : Int)) else none
def hasW (l : List SWalker) (u : Int × Int) : Bool := l.any fun x => decide (x.f0 = u.1 ∧ x.f1 = u.2)
def adjW (l : List SWalker) : Option (Int × Int) → List SWalker
  | none => l
  | some u => if hasW l u = true then l else l ++ [⟨u.1, u.2⟩]
def rawW (w h o : Int) (P T : List Int) (n : Nat) : List SWalker := (List.range' 0 n).foldl (fun l k => adjW l (endW w h o P T k)) []
def leW (x y : SWalker) : Bool := !decide (4 * (y.f0 - x.f0) + y.f1 - x.f1 < 0)
def keyW (x : SWalker) : Int := 4 * x.f0 + x.f1
def fitW (w h o : Int) (P T : List Int) : List SWalker := (rawW w h o P T (4 * stN w h)).mergeSort leW
def pwok (w h o : Int) (P T : List Int) : Bool := mok w h o && decide ((P.length : Int) = T.length + 1) && (decide ((T.length : Int) ≤ 40) && T.all turn4)
def posW (w h o : Int) (P T : List Int) : List SWalker := if pwok w h o P T = true then fitW w h o P T else []
theorem four_split (k : Nat) : Int.tdiv (k : Int) 4 = ((k / 4 : Nat) : Int) ∧ Int.tmod (k : Int) 4 = ((k % 4 : Nat) : Int) := ⟨rfl, rfl⟩
theorem stp_good {w h o t p : Int} {u v : Int × Int} (e : stp w h o t p u = some v) : 0 ≤ v.1 ∧ v.1 < cells w h ∧ 0 ≤ v.2 ∧ v.2 ≤ 3 := by
  unfold stp at e
  split at e
  · rename_i H
    obtain rfl := Option.some.inj e
    have := wok_nx H.1
    unfold wok at this
    simp only [Bool.and_eq_true, decide_eq_true_eq] at this
    have c := icell_iff.1 this.1.2
    exact ⟨c.1, c.2, this.2.1, this.2.2⟩
  · cases e
theorem rnW_good {w h o : Int} : ∀ (ts ps : List Int) (u v : Int × Int), (0 ≤ u.1 ∧ u.1 < cells w h ∧ 0 ≤ u.2 ∧ u.2 ≤ 3) → rnW w h o ts ps u = some v → 0 ≤ v.1 ∧ v.1 < cells w h ∧ 0 ≤ v.2 ∧ v.2 ≤ 3
  | [], ps, u, v, hu, e => by rw [rnW] at e; obtain rfl := Option.some.inj e; exact hu
  | t :: ts, [], u, v, hu, e => by simp [rnW] at e
  | t :: ts, p :: ps, u, v, hu, e => by
    rw [rnW] at e
    obtain ⟨x, h1, h2⟩ := Option.bind_eq_some_iff.1 e
    exact rnW_good ts ps x v (stp_good h1) h2
theorem endW_good {w h o : Int} {P T : List Int} {k : Nat} (hk : k < 4 * stN w h) {v : Int × Int} (e : endW w h o P T k = some v) : 0 ≤ v.1 ∧ v.1 < cells w h ∧ 0 ≤ v.2 ∧ v.2 ≤ 3 := by
  have hN := stN_int w h
  unfold endW at e
  split at e
  · exact rnW_good _ _ _ _ ⟨by omega, by show ((k / 4 : Nat) : Int) < _; omega, by show 0 ≤ ((k % 4 : Nat) : Int); omega, by show ((k % 4 : Nat) : Int) ≤ 3; omega⟩ e
  · cases e
theorem hasW_iff {l : List SWalker} {u : Int × Int} : hasW l u = true ↔ (⟨u.1, u.2⟩ : SWalker) ∈ l := by
  unfold hasW
  rw [List.any_eq_true]
  constructor
  · rintro ⟨x, hx, e⟩
    have e := of_decide_eq_true e
    rw [← e.1, ← e.2]
    exact hx
  · intro hx
    exact ⟨_, hx, decide_eq_true ⟨rfl, rfl⟩⟩
theorem adjW_length (l : List SWalker) (u : Option (Int × Int)) : (adjW l u).length ≤ l.length + 1 := by
  unfold adjW
  split
  · omega
  · split <;> simp
theorem adjW_mem {l : List SWalker} {u : Option (Int × Int)} {x : SWalker} : x ∈ adjW l u ↔ x ∈ l ∨ u = some (x.f0, x.f1) := by
  unfold adjW
  split
  · simp
  · rename_i u
    split
    · rename_i H
      have := hasW_iff.1 H
      constructor
      · exact .inl
      · rintro (q | q)
        · exact q
        · obtain rfl := Option.some.inj q
          exact this
    · rw [List.mem_append, List.mem_singleton]
      constructor
      · rintro (q | rfl)
        · exact .inl q
        · exact .inr rfl
      · rintro (q | q)
        · exact .inl q
        · obtain rfl := Option.some.inj q
          exact .inr rfl
theorem adjW_nodup {l : List SWalker} {u : Option (Int × Int)} (h : l.Nodup) : (adjW l u).Nodup := by
  unfold adjW
  split
  · exact h
  · split
    · exact h
    · rename_i H
      rw [List.nodup_append]
      refine ⟨h, by simp, fun a ha b hb e => ?_⟩
      rw [List.mem_singleton] at hb
      subst hb
      rw [e] at ha
      exact H (hasW_iff.2 ha)
section
variable {w h o : Int} {P T : List Int}
theorem raw_mem {x : SWalker} : ∀ (ks : List Nat) (l : List SWalker), x ∈ ks.foldl (fun l k => adjW l (endW w h o P T k)) l ↔ x ∈ l ∨ ∃ k ∈ ks, endW w h o P T k = some (x.f0, x.f1)
  | [], l => by simp
  | k :: ks, l => by
    rw [List.foldl_cons, raw_mem ks, adjW_mem]
    constructor
    · rintro ((q | q) | ⟨j, hj, q⟩)
      · exact .inl q
      · exact .inr ⟨k, List.mem_cons_self, q⟩
      · exact .inr ⟨j, List.mem_cons_of_mem _ hj, q⟩
    · rintro (q | ⟨j, hj, q⟩)
      · exact .inl (.inl q)
      · rcases List.mem_cons.1 hj with rfl | hj
        · exact .inl (.inr q)
        · exact .inr ⟨j, hj, q⟩
theorem raw_nodup : ∀ (ks : List Nat) (l : List SWalker), l.Nodup → (ks.foldl (fun l k => adjW l (endW w h o P T k)) l).Nodup
  | [], l, hl => hl
  | k :: ks, l, hl => raw_nodup ks _ (adjW_nodup hl)
theorem raw_len : ∀ (ks : List Nat) (l : List SWalker), (ks.foldl (fun l k => adjW l (endW w h o P T k)) l).length ≤ l.length + ks.length
  | [], l => by simp
  | k :: ks, l => by
    rw [List.foldl_cons]
    have h1 := raw_len ks (adjW l (endW w h o P T k))
    have h2 := adjW_length l (endW w h o P T k)
    rw [List.length_cons]
    omega
theorem fitW_mem {x : SWalker} : x ∈ fitW w h o P T ↔ ∃ k, k < 4 * stN w h ∧ endW w h o P T k = some (x.f0, x.f1) := by
  unfold fitW rawW
  rw [(List.mergeSort_perm _ _).mem_iff, raw_mem]
  constructor
  · rintro (q | ⟨k, hk, q⟩)
    · exact (List.not_mem_nil q).elim
    · have := List.mem_range'_1.1 hk
      exact ⟨k, by omega, q⟩
  · rintro ⟨k, hk, q⟩
    exact .inr ⟨k, List.mem_range'_1.2 ⟨by omega, by omega⟩, q⟩
theorem leW_iff {x y : SWalker} : leW x y = true ↔ keyW x ≤ keyW y := by
  unfold leW keyW
  rw [Bool.not_eq_true', decide_eq_false_iff_not]
  omega
theorem fitW_sorted : (fitW w h o P T).Pairwise fun x y => keyW x < keyW y := by
  have hs : (fitW w h o P T).Pairwise fun x y => leW x y = true := List.pairwise_mergeSort (fun a b c h1 h2 => by rw [leW_iff] at h1 h2 ⊢; omega) (fun a b => by rw [Bool.or_eq_true, leW_iff, leW_iff]; omega) _
  have hn : (fitW w h o P T).Nodup := (List.mergeSort_perm _ _).nodup_iff.2 (raw_nodup _ _ List.nodup_nil)
  have hg : ∀ x ∈ fitW w h o P T, 0 ≤ x.f1 ∧ x.f1 ≤ 3 := fun x hx => by
    obtain ⟨k, hk, e⟩ := fitW_mem.1 hx
    have := endW_good hk e
    exact ⟨this.2.2.1, this.2.2.2⟩
  have := List.Pairwise.and hs hn
  refine List.Pairwise.imp_of_mem (fun {a b} ha hb hab => ?_) this
  have ga := hg a ha
  have gb := hg b hb
  have h1 := leW_iff.1 hab.1
  have h2 : keyW a ≠ keyW b := fun e => hab.2 (by
    unfold keyW at e
    cases a; cases b
    simp only at e ga gb
    have e1 : ‹Int› = ‹Int› := rfl
    congr 1 <;> omega)
  omega
theorem sorted_eq {l m : List SWalker} (hl : l.Pairwise fun x y => keyW x < keyW y) (hm : m.Pairwise fun x y => keyW x < keyW y) (h : ∀ x, x ∈ l ↔ x ∈ m) : l = m := by
  induction l generalizing m with
  | nil =>
    cases m with
    | nil => rfl
    | cons y m => exact absurd ((h y).2 List.mem_cons_self) (List.not_mem_nil)
  | cons x l ih =>
    cases m with
    | nil => exact absurd ((h x).1 List.mem_cons_self) (List.not_mem_nil)
    | cons y m =>
      have hx := List.pairwise_cons.1 hl
      have hy := List.pairwise_cons.1 hm
      have e : x = y := by
        rcases List.mem_cons.1 ((h x).1 List.mem_cons_self) with q | q
        · exact q
        · rcases List.mem_cons.1 ((h y).2 List.mem_cons_self) with r | r
          · exact r.symm
          · have := hx.1 y r
            have := hy.1 x q
            omega
      subst e
      congr 1
      refine ih hx.2 hy.2 fun z => ?_
      have hz := h z
      rw [List.mem_cons, List.mem_cons] at hz
      constructor
      · intro q
        rcases hz.1 (.inr q) with rfl | r
        · have := hx.1 z q; omega
        · exact r
      · intro q
        rcases hz.2 (.inr q) with rfl | r
        · have := hy.1 z q; omega
        · exact r
end
theorem idxW_eq {l : List SWalker} {c f : Int} (hl : l.length ≤ 1000000) : ∀ (d i k : Nat), i + d = l.length → d + 1 ≤ k → ∃ r, slices_Index_impl_Walker.l0 k l (l.length : Int) (i : Int) c f = some r ∧ (0 ≤ r ↔ hasW (l.drop i) (c, f) = true)
  | 0, i, k, hi, hk => by
    obtain ⟨m, rfl⟩ : ∃ m, k = m + 1 := ⟨k - 1, by omega⟩
    refine ⟨-1, ?_, ?_⟩
    · simp only [slices_Index_impl_Walker.l0]
      rw [if_neg (by omega)]
    · rw [List.drop_of_length_le (by omega)]
      simp [hasW]
  | d + 1, i, k, hi, hk => by
    obtain ⟨m, rfl⟩ : ∃ m, k = m + 1 := ⟨k - 1, by omega⟩
    have hil : i < l.length := by omega
    have hr : rd_Walker l (i : Int) = l[i] := by
      show l.getD i zWalker = _
      rw [List.getD_eq_getElem?_getD, List.getElem?_eq_getElem hil]; rfl
    have hd : l.drop i = l[i] :: l.drop (i + 1) := List.drop_eq_getElem_cons hil
    obtain ⟨r, e, hq⟩ := idxW_eq (c := c) (f := f) hl d (i + 1) m (by omega) (by omega)
    rw [hd]
    simp only [slices_Index_impl_Walker.l0]
    rw [if_pos (by omega), if_pos (by omega), if_pos (by omega), hr, w64_succ hil (by omega)]
    by_cases z : l[i].f0 = c ∧ l[i].f1 = f
    · refine ⟨(i : Int), ?_, ?_⟩
      · rw [if_pos (by simp [z.1, z.2])]
      · have : hasW (l[i] :: l.drop (i + 1)) (c, f) = true := by unfold hasW; rw [List.any_cons, decide_eq_true z]; rfl
        rw [this]
        exact ⟨fun _ => rfl, fun _ => by omega⟩
    · refine ⟨r, ?_, ?_⟩
      · rw [if_neg (by
          intro q
          rw [Bool.and_eq_true, beq_iff_eq, beq_iff_eq] at q
          exact z ⟨q.1.symm, q.2.symm⟩)]
        rw [Int.natCast_add] at e
        exact e
      · have : hasW (l[i] :: l.drop (i + 1)) (c, f) = hasW (l.drop (i + 1)) (c, f) := by unfold hasW; rw [List.any_cons, decide_eq_false z, Bool.false_or]
        rw [this]
        exact hq
theorem conW_eq {l : List SWalker} {c f : Int} {k : Nat} (hl : l.length ≤ 1000000) (hk : l.length + 1 ≤ k) : slices_Contains_impl_Walker.f k l c f = some (hasW l (c, f)) := by
  unfold slices_Contains_impl_Walker.f slices_Index_impl_Walker.f
  obtain ⟨r, e, hq⟩ := idxW_eq (c := c) (f := f) hl l.length 0 k (by omega) hk
  have e' : slices_Index_impl_Walker.l0 k l (l.length : Int) 0 c f = some r := e
  rw [e', Option.bind_some]
  congr 1
  rw [List.drop_zero] at hq
  cases q : hasW l (c, f) with
  | true => rw [q] at hq; exact decide_eq_true (hq.2 rfl)
  | false => rw [q] at hq; exact decide_eq_false fun z => Bool.false_ne_true (hq.1 z)
section
variable {w h o : Int} {P T : List Int}
theorem pw_inner {R : Option (List SWalker)} {acc : List SWalker} {i : Nat} (hi : i < 64) (hT : T.length ≤ 40) (hP : P.length = T.length + 1) (ha : acc.length ≤ 64) {N : Nat} (hN : 100 ≤ N) :
    ∀ (d j k : Nat) (ok : Bool) (c f : Int), j + d = T.length → 2 * d + N + 3 ≤ k → (∀ k', N ≤ k' → impl_PossibleWalkers.l0 k' P T (adjW acc (if ok = true then rnW w h o (T.drop j) (P.drop (j + 1)) (c, f) else none)) ((i : Int) + 1) w h o = R) →
    impl_PossibleWalkers.l1 k P T acc (i : Int) ok (j : Int) w h o c f = R := by
  have stop : ∀ (j k : Nat) (ok : Bool) (c f : Int), N + 2 ≤ k → (∀ k', N ≤ k' → impl_PossibleWalkers.l0 k' P T (adjW acc (if ok = true then some (c, f) else none)) ((i : Int) + 1) w h o = R) → impl_PossibleWalkers.j3 k P T acc (i : Int) ok (j : Int) false w h o c f = R := by
    intro j k ok c f hk hR
    obtain ⟨m, rfl⟩ : ∃ m, k = m + 1 := ⟨k - 1, by omega⟩
    simp only [impl_PossibleWalkers.j3]
    rw [if_neg (by decide), w64 (x := (i : Int) + 1) (by omega) (by omega)]
    cases ok with
    | false =>
      have := hR m (by omega)
      rw [if_neg (by decide)] at this
      rw [if_neg (by decide)]
      exact this
    | true =>
      have := hR m (by omega)
      rw [if_pos rfl] at this
      rw [if_pos rfl, conW_eq (by omega) (by omega), Option.bind_some]
      unfold adjW at this
      by_cases q : hasW acc (c, f) = true
      · rw [if_pos q]; simp only [if_pos q] at this; exact this
      · rw [if_neg q, if_pos (by omega)]; simp only [if_neg q] at this; exact this
  intro d
  induction d with
  | zero =>
    intro j k ok c f hj hk hR
    obtain ⟨m, rfl⟩ : ∃ m, k = m + 1 := ⟨k - 1, by omega⟩
    have hd : T.drop j = [] := List.drop_of_length_le (by omega)
    simp only [impl_PossibleWalkers.l1]
    have e : decide ((j : Int) < (T.length : Int)) = false := decide_eq_false (by omega)
    have := stop j m ok c f (by omega) (fun k' hk' => by have := hR k' hk'; rw [hd] at this; simpa [rnW] using this)
    cases ok with
    | false => rw [if_neg (by decide)]; exact this
    | true => rw [if_pos rfl, e]; exact this
  | succ d ih =>
    intro j k ok c f hj hk hR
    obtain ⟨m, rfl⟩ : ∃ m, k = m + 1 := ⟨k - 1, by omega⟩
    simp only [impl_PossibleWalkers.l1]
    cases ok with
    | false =>
      rw [if_neg (by decide)]
      exact stop j m false c f (by omega) (fun k' hk' => by have := hR k' hk'; simpa using this)
    | true =>
      have hjl : j < T.length := by omega
      rw [if_pos rfl, decide_eq_true (show (j : Int) < (T.length : Int) by omega)]
      obtain ⟨m, rfl⟩ : ∃ m', m = m' + 1 := ⟨m - 1, by omega⟩
      simp only [impl_PossibleWalkers.j3]
      have hTd : T.drop j = rd T (j : Int) :: T.drop (j + 1) := drop_step hjl
      have hPd : P.drop (j + 1) = rd P ((j : Int) + 1) :: P.drop (j + 1 + 1) := by
        have := drop_step (l := P) (i := j + 1) (by omega)
        rwa [Int.natCast_add] at this
      rw [if_pos trivial, if_pos (by omega), if_pos (by omega), impl_went_eq (by omega), Option.bind_some]
      simp only
      have hw : wrap64 ((j : Int) + 1) = ((j + 1 : Nat) : Int) := by rw [w64 (by omega) (by omega), Int.natCast_add]; rfl
      rw [hTd, hPd] at hR
      simp only [rnW, stp, if_true] at hR
      by_cases q : 0 ≤ nx w h o c f (rd T (j : Int))
      · rw [if_pos (decide_eq_true q), impl_PatternAt_eq (by omega), Option.bind_some, hw, if_pos (by omega), if_pos (by omega)]
        refine ih (j + 1) m _ _ _ (by omega) (by omega) fun k' hk' => ?_
        have := hR k' hk'
        have ej : (((j + 1 : Nat) : Int)) = (j : Int) + 1 := by omega
        rw [ej]
        by_cases z : pat w h o (nx w h o c f (rd T (j : Int))) (nf f (rd T (j : Int))) = rd P ((j : Int) + 1)
        · rw [if_pos ⟨q, z⟩, Option.bind_some] at this
          rw [if_pos (by rw [beq_iff_eq]; exact z)]
          exact this
        · rw [if_neg (fun y => z y.2), Option.bind_none] at this
          rw [if_neg (by rw [beq_iff_eq]; exact z)]
          exact this
      · rw [if_neg (by rw [decide_eq_true_eq]; exact q), hw]
        refine ih (j + 1) m _ _ _ (by omega) (by omega) fun k' hk' => ?_
        have := hR k' hk'
        rw [if_neg (fun y => q y.1), Option.bind_none] at this
        rw [decide_eq_false q, if_neg (by decide)]
        exact this
theorem pw_fuel {t d m : Nat} (ht : t ≤ 40) (hk : 100 * (d + 1) + 300 ≤ m + 1) : 2 * t + (100 * d + 300) + 3 ≤ m ∧ 100 * d + 399 ≤ m := by omega
theorem pw_outer (hT : T.length ≤ 40) (hP : P.length = T.length + 1) : ∀ (d i k : Nat) (acc : List SWalker), i + d = 4 * stN w h → 100 * d + 300 ≤ k → acc.length ≤ i →
    impl_PossibleWalkers.l0 k P T acc (i : Int) w h o = (slices_SortFunc_impl_Walker.f ((List.range' i d).foldl (fun l k => adjW l (endW w h o P T k)) acc)).bind fun t => some t
  | 0, i, k, acc, hi, hk, ha => by
    obtain ⟨m, rfl⟩ : ∃ m, k = m + 1 := ⟨k - 1, by omega⟩
    have hN := stN_int w h
    have hN2 := stN_le w h
    simp only [impl_PossibleWalkers.l0]
    rw [impl_CountCells_eq, Option.bind_some, w64 (by omega) (by omega), if_neg (by omega)]
    rfl
  | d + 1, i, k, acc, hi, hk, ha => by
    obtain ⟨m, rfl⟩ : ∃ m, k = m + 1 := ⟨k - 1, by omega⟩
    obtain ⟨hfu, hm1⟩ := pw_fuel hT hk
    clear hk
    have hN := stN_int w h
    have hN2 := stN_le w h
    obtain ⟨f1, f2⟩ := four_split i
    simp only [impl_PossibleWalkers.l0]
    rw [impl_CountCells_eq, Option.bind_some, w64 (x := 4 * cells w h) (by omega) (by omega), if_pos (by omega), f1, f2, w64 (x := ((i / 4 : Nat) : Int)) (by omega) (by omega), impl_PatternAt_eq (by omega), Option.bind_some, if_pos (by omega), List.range'_succ, List.foldl_cons]
    refine pw_inner (N := 100 * d + 300) (by omega) hT hP (by omega) (by omega) T.length 0 m _ _ _ (Nat.zero_add _) hfu fun k' hk' => ?_
    have e : (if (pat w h o ((i / 4 : Nat) : Int) ((i % 4 : Nat) : Int) == rd P 0) = true then rnW w h o (T.drop 0) (P.drop (0 + 1)) (((i / 4 : Nat) : Int), ((i % 4 : Nat) : Int)) else none) = endW w h o P T i := by
      unfold endW
      simp only [beq_iff_eq, List.drop_zero, Nat.zero_add]
    rw [e]
    have al := adjW_length acc (endW w h o P T i)
    have := pw_outer hT hP d (i + 1) k' (adjW acc (endW w h o P T i)) (by omega) (by omega) (by omega)
    rw [Int.natCast_add] at this
    exact this
theorem impl_PossibleWalkers_eq {k : Nat} (hPl : P.length ≤ 1048576) (hTl : T.length ≤ 1048576) (hk : 7000 ≤ k) : impl_PossibleWalkers.f k w h o P T = some (posW w h o P T) := by
  have hN2 := stN_le w h
  obtain ⟨m, rfl⟩ : ∃ m, k = m + 1 := ⟨k - 1, by omega⟩
  have no : impl_PossibleWalkers.j0 (m + 1) P T true w h o = some [] := by
    simp only [impl_PossibleWalkers.j0]
    rw [if_pos trivial]
  unfold impl_PossibleWalkers.f posW pwok
  rw [impl_MazeOk_eq, Option.bind_some]
  cases M : mok w h o with
  | false => rw [if_neg (by decide)]; simpa using no
  | true =>
    rw [if_pos rfl, w64 (by omega) (by omega)]
    by_cases hP : (P.length : Int) = (T.length : Int) + 1
    · rw [if_pos hP, impl_areTurns_eq, Option.bind_some, decide_eq_true hP]
      simp only [Bool.true_and]
      cases ht : decide ((T.length : Int) ≤ 40) && T.all turn4 with
      | false => rw [if_neg (by decide)]; exact no
      | true =>
        rw [if_pos rfl]
        rw [Bool.and_eq_true, decide_eq_true_eq] at ht
        simp only [impl_PossibleWalkers.j0, Bool.not_true]
        rw [if_neg (by decide)]
        have := pw_outer (w := w) (h := h) (o := o) (P := P) (T := T) (by omega) (by omega) (4 * stN w h) 0 m [] (by omega) (by omega) (by simp)
        refine this.trans ?_
        have hl := raw_len (w := w) (h := h) (o := o) (P := P) (T := T) (List.range' 0 (4 * stN w h)) []
        unfold slices_SortFunc_impl_Walker.f
        rw [if_pos, if_pos]
        · rfl
        · simp at hl; omega
        · rw [List.all_eq_true]
          intro x hx
          rcases (raw_mem _ _).1 hx with q | ⟨k, hk, q⟩
          · exact (List.not_mem_nil q).elim
          · have hk := List.mem_range'_1.1 hk
            have g := endW_good (by omega) q
            have := cells_bd w h
            unfold slices_SortFunc_impl_Walker.l1
            exact decide_eq_true ⟨g.1, by have := g.2.1; simp only at this; omega, g.2.2.1, g.2.2.2⟩
    · rw [if_neg hP, decide_eq_false hP]
      simpa using no
end
end Go.Proofs.Ytccjanhdnheclaa.F
end

section
namespace Go.Proofs.Ytccjanhdnheclaa.F
open Go.RowKit Go.Proofs.YtccjanhdnheclaaW.PrintWords Go.Proofs.YtccjanhdnheclaaW.PrintLast Go.Proofs.YtccjanhdnheclaaW.PrintMore
set_option linter.unusedVariables false
set_option linter.unusedSimpArgs false
def atB (B : List Bool) (j : Nat) : Bool := B.getD j false
theorem rdOf_at (B : List Bool) (j : Nat) : rdOf false B (j : Int) = atB B j := rfl
theorem atB_set {B : List Bool} {i : Nat} (hi : i < B.length) (b : Bool) (j : Nat) : atB (B.set i b) j = if j = i then b else atB B j := by
  unfold atB
  rw [List.getD_eq_getElem?_getD, List.getD_eq_getElem?_getD, List.getElem?_set]
  by_cases e : i = j
  · subst e; rw [if_pos rfl, if_pos hi, if_pos rfl]; rfl
  · rw [if_neg e, if_neg (fun q => e q.symm)]
theorem atB_rep (n j : Nat) : atB (List.replicate n false) j = false := by
  unfold atB
  rw [List.getD_eq_getElem?_getD, List.getElem?_replicate]
  split <;> rfl
theorem w64_q {i : Nat} (h : i < 1000) : wrap64 ((i / 4 : Nat) : Int) = ((i / 4 : Nat) : Int) := by
  have : i / 4 < 1000 := Nat.lt_of_le_of_lt (Nat.div_le_self _ _) h
  generalize i / 4 = q at this ⊢
  exact w64 (by omega) (by omega)
def plcW (j : Nat) : Int × Int := (((j / 4 : Nat) : Int), ((j % 4 : Nat) : Int))
section
variable {w h o : Int} {P T : List Int} {R : Option (List SWalker)} {n : Nat}
theorem sp_l0 (hn : n ≤ 64) (hP0 : 0 < P.length) {N : Nat} (hN : 100 ≤ N) (hR : ∀ k B, N ≤ k → B.length = n → (∀ j, j < n → (atB B j = true ↔ pat w h o (plcW j).1 (plcW j).2 = rd P 0)) → spec_PossibleWalkers.l1 k P T [] (n : Int) B 0 w h o = R) :
    ∀ (d i k : Nat) (B : List Bool), i + d = n → d + N + 1 ≤ k → B.length = n → (∀ j, j < i → (atB B j = true ↔ pat w h o (plcW j).1 (plcW j).2 = rd P 0)) → spec_PossibleWalkers.l0 k P T [] (n : Int) B (i : Int) w h o = R
  | 0, i, k, B, hi, hk, hB, hv => by
    obtain ⟨m, rfl⟩ : ∃ m, k = m + 1 := ⟨k - 1, by omega⟩
    obtain rfl : i = n := by omega
    simp only [spec_PossibleWalkers.l0]
    rw [if_neg (by omega)]
    exact hR m B (by omega) hB hv
  | d + 1, i, k, B, hi, hk, hB, hv => by
    obtain ⟨m, rfl⟩ : ∃ m, k = m + 1 := ⟨k - 1, by omega⟩
    simp only [spec_PossibleWalkers.l0]
    rw [if_pos (by omega), (four_split i).1, (four_split i).2, w64_q (show i < 1000 by omega), spec_PatternAt_eq (by omega), Option.bind_some, if_pos (by omega), if_pos (by omega), if_pos (by omega), Int.toNat_natCast, w64 (x := (i : Int) + 1) (by omega) (by omega)]
    have := sp_l0 hn hP0 hN hR d (i + 1) m (B.set i (pat w h o ((i / 4 : Nat) : Int) ((i % 4 : Nat) : Int) == rd P 0)) (by omega) (by omega) (by simp [hB]) (fun j hj => by
      rw [atB_set (by omega)]
      by_cases e : j = i
      · rw [if_pos e, e, beq_iff_eq]; exact Iff.rfl
      · rw [if_neg e]; exact hv j (by omega))
    rw [Int.natCast_add] at this
    exact this
theorem sp_l3 {B : List Bool} (hn : n ≤ 64) (hB : B.length = n) : ∀ (d i k : Nat) (acc : List SWalker), i + d = n → d + 1 ≤ k → acc.length ≤ i → spec_PossibleWalkers.l3 k acc (n : Int) B (i : Int) = some (acc ++ ((List.range' i d).filter (atB B)).map fun j => ⟨(plcW j).1, (plcW j).2⟩)
  | 0, i, k, acc, hi, hk, ha => by
    obtain ⟨m, rfl⟩ : ∃ m, k = m + 1 := ⟨k - 1, by omega⟩
    simp only [spec_PossibleWalkers.l3]
    rw [if_neg (by omega)]
    simp
  | d + 1, i, k, acc, hi, hk, ha => by
    obtain ⟨m, rfl⟩ : ∃ m, k = m + 1 := ⟨k - 1, by omega⟩
    simp only [spec_PossibleWalkers.l3]
    rw [if_pos (by omega), if_pos (by omega), if_pos (by omega), rdOf_at, (four_split i).1, (four_split i).2, w64_q (show i < 1000 by omega), w64 (x := (i : Int) + 1) (by omega) (by omega), List.range'_succ, List.filter_cons]
    by_cases q : atB B i = true
    · rw [if_pos q, if_pos (by omega), if_pos q, List.map_cons]
      have := sp_l3 hn hB d (i + 1) m (acc ++ [⟨(plcW i).1, (plcW i).2⟩]) (by omega) (by omega) (by simp; omega)
      rw [Int.natCast_add] at this
      refine this.trans ?_
      simp
    · rw [if_neg q, if_neg q]
      have := sp_l3 hn hB d (i + 1) m acc (by omega) (by omega) (by omega)
      rw [Int.natCast_add] at this
      exact this
def setW (w h o t p : Int) (B C : List Bool) (i : Nat) : List Bool := if atB B i = true then (match stp w h o t p (plcW i) with | some v => C.set (4 * v.1 + v.2).toNat true | none => C) else C
theorem sp_step {B C : List Bool} {t i m : Nat} (hn : n = 4 * stN w h) (hB : B.length = n) (hC : C.length = n) (ht : t < T.length) (hT : T.length ≤ 40) (hP : P.length = T.length + 1) (hi : i < n) (hm : 50 ≤ m) :
    spec_PossibleWalkers.l2 (m + 1) P T [] (n : Int) B (t : Int) C (i : Int) w h o = spec_PossibleWalkers.l2 m P T [] (n : Int) B (t : Int) (setW w h o (rd T (t : Int)) (rd P ((t : Int) + 1)) B C i) ((i + 1 : Nat) : Int) w h o := by
  have hN1 := stN_int w h
  have hN2 := stN_le w h
  have i1 : i < 1000 := by omega
  have c1 : (i : Int) < (n : Int) := by omega
  have c2 : (0 : Int) ≤ (t : Int) := by omega
  have c3 : (t : Int) < (T.length : Int) := by omega
  have c4 : (0 : Int) ≤ (i : Int) := by omega
  have c5 : (i : Int) < (B.length : Int) := by omega
  have c6 : (0 : Int) ≤ (t : Int) + 1 := by omega
  have c7 : (t : Int) + 1 < (P.length : Int) := by omega
  have e1 := spec_l33Turned_eq (k := m) (by omega) w h o ((i / 4 : Nat) : Int) ((i % 4 : Nat) : Int) (rd T (t : Int))
  have e2 := fun c f => spec_PatternAt_eq (k := m) (by omega) w h o c f
  have es : stp w h o (rd T (t : Int)) (rd P ((t : Int) + 1)) (plcW i) = if 0 ≤ nx w h o ((i / 4 : Nat) : Int) ((i % 4 : Nat) : Int) (rd T (t : Int)) ∧ pat w h o (nx w h o ((i / 4 : Nat) : Int) ((i % 4 : Nat) : Int) (rd T (t : Int))) (nf ((i % 4 : Nat) : Int) (rd T (t : Int))) = rd P ((t : Int) + 1) then some (nx w h o ((i / 4 : Nat) : Int) ((i % 4 : Nat) : Int) (rd T (t : Int)), nf ((i % 4 : Nat) : Int) (rd T (t : Int))) else none := rfl
  have g : ∀ v : Int × Int, stp w h o (rd T (t : Int)) (rd P ((t : Int) + 1)) (plcW i) = some v → 0 ≤ v.1 ∧ v.1 < cells w h ∧ 0 ≤ v.2 ∧ v.2 ≤ 3 := fun v e => stp_good e
  have t1 : t < 1000 := by omega
  have hs1 : ∀ x : Nat, x < 1000 → wrap64 ((x : Int) + 1) = ((x + 1 : Nat) : Int) := fun x hx => by rw [w64 (by omega) (by omega)]; rfl
  have ht' : wrap64 ((t : Int) + 1) = (t : Int) + 1 := hs1 t t1
  have hi' := hs1 i i1
  have h4 : wrap64 ((i / 4 : Nat) : Int) = ((i / 4 : Nat) : Int) := w64_q i1
  simp only [spec_PossibleWalkers.l2]
  rw [(four_split i).1, (four_split i).2, h4, e1, hi', ht', Option.bind_some, rdOf_at]
  rw [if_pos c1, if_pos c2, if_pos c3, if_pos c4, if_pos c5]
  clear ht' hi' h4 hs1
  unfold setW
  generalize nx w h o ((i / 4 : Nat) : Int) ((i % 4 : Nat) : Int) (rd T (t : Int)) = c at es ⊢
  generalize nf ((i % 4 : Nat) : Int) (rd T (t : Int)) = f at es ⊢
  generalize stp w h o (rd T (t : Int)) (rd P ((t : Int) + 1)) (plcW i) = S at es g ⊢
  by_cases q : atB B i = true
  · rw [if_pos q, if_pos q]
    by_cases z : c < 0
    · rw [if_pos z, if_neg (by simp)]
      rw [if_neg (by omega)] at es
      rw [es]
    · rw [if_neg z, if_pos rfl, e2, Option.bind_some, if_pos c6, if_pos c7]
      by_cases y : pat w h o c f = rd P ((t : Int) + 1)
      · rw [if_pos ⟨by omega, y⟩] at es
        rw [if_pos y, es]
        obtain ⟨g1, g2, g3, g4⟩ := g _ es
        have hw : wrap64 (wrap64 (4 * c) + f) = 4 * c + f := by rw [w64 (x := 4 * c) (by omega) (by omega), w64 (by omega) (by omega)]
        rw [hw, if_pos (by omega), if_pos (by omega)]
      · rw [if_neg (fun x => y x.2)] at es
        rw [if_neg y, es]
  · rw [if_neg q, if_neg q]
theorem setW_length (w h o t p : Int) (B C : List Bool) (i : Nat) : (setW w h o t p B C i).length = C.length := by
  unfold setW
  split
  · split <;> simp
  · rfl
theorem setW_at {t p : Int} {B C : List Bool} {i : Nat} (hn : n = 4 * stN w h) (hC : C.length = n) (hi : i < n) {x : Nat} (hx : x < n) : atB (setW w h o t p B C i) x = true ↔ atB C x = true ∨ atB B i = true ∧ ∃ v, stp w h o t p (plcW i) = some v ∧ 4 * v.1 + v.2 = x := by
  have hN1 := stN_int w h
  unfold setW
  by_cases q : atB B i = true
  · rw [if_pos q]
    cases e : stp w h o t p (plcW i) with
    | none =>
      simp only
      exact ⟨.inl, fun r => r.elim id fun ⟨_, v, y, _⟩ => by cases y⟩
    | some v =>
      have g := stp_good e
      simp only
      rw [atB_set (by omega)]
      by_cases z : x = (4 * v.1 + v.2).toNat
      · rw [if_pos z]
        exact ⟨fun _ => .inr ⟨q, v, rfl, by omega⟩, fun _ => rfl⟩
      · rw [if_neg z]
        refine ⟨.inl, fun r => r.elim id fun ⟨_, u, y, k⟩ => ?_⟩
        obtain rfl := Option.some.inj y
        omega
  · rw [if_neg q]
    exact ⟨.inl, fun r => r.elim id fun r => absurd r.1 q⟩
theorem sp_l2 {B : List Bool} {t : Nat} (hn : n = 4 * stN w h) (hB : B.length = n) (ht : t < T.length) (hT : T.length ≤ 40) (hP : P.length = T.length + 1) {N : Nat} (hN : 100 ≤ N)
    (hR : ∀ k B', N ≤ k → B'.length = n → (∀ x, x < n → (atB B' x = true ↔ ∃ j, j < n ∧ atB B j = true ∧ ∃ v, stp w h o (rd T (t : Int)) (rd P ((t : Int) + 1)) (plcW j) = some v ∧ 4 * v.1 + v.2 = x)) → spec_PossibleWalkers.l1 k P T [] (n : Int) B' ((t : Int) + 1) w h o = R) (d : Nat) :
    ∀ (i k : Nat) (C : List Bool), i + d = n → d + N + 1 ≤ k → C.length = n → (∀ x, x < n → (atB C x = true ↔ ∃ j, j < i ∧ atB B j = true ∧ ∃ v, stp w h o (rd T (t : Int)) (rd P ((t : Int) + 1)) (plcW j) = some v ∧ 4 * v.1 + v.2 = x)) →
    spec_PossibleWalkers.l2 k P T [] (n : Int) B (t : Int) C (i : Int) w h o = R := by
  induction d with
  | zero =>
    intro i k C hi hk hC hv
    obtain ⟨m, rfl⟩ : ∃ m, k = m + 1 := ⟨k - 1, by omega⟩
    obtain rfl : i = n := by omega
    have ht' : wrap64 ((t : Int) + 1) = (t : Int) + 1 := w64 (by omega) (by omega)
    simp only [spec_PossibleWalkers.l2]
    rw [if_neg (by omega), ht']
    exact hR m C (by omega) hC hv
  | succ d ih =>
    intro i k C hi hk hC hv
    obtain ⟨m, rfl⟩ : ∃ m, k = m + 1 := ⟨k - 1, by omega⟩
    have hin : i < n := by omega
    rw [sp_step hn hB hC ht hT hP hin (by omega)]
    refine ih (i + 1) m _ (by omega) (by omega) (by rw [setW_length, hC]) fun x hx => ?_
    rw [setW_at hn hC hin hx, hv x hx]
    constructor
    · rintro (⟨j, hj, r⟩ | ⟨q, v, e, z⟩)
      · exact ⟨j, by omega, r⟩
      · exact ⟨i, by omega, q, v, e, z⟩
    · rintro ⟨j, hj, q, v, e, z⟩
      by_cases ji : j = i
      · subst ji; exact .inr ⟨q, v, e, z⟩
      · exact .inl ⟨j, by omega, q, v, e, z⟩
theorem sp_l1 (hn : n = 4 * stN w h) (hT : T.length ≤ 40) (hP : P.length = T.length + 1) {N : Nat} (hN : 100 ≤ N) : ∀ (d t k : Nat) (B : List Bool), t + d = T.length → 200 * d + N + 1 ≤ k → B.length = n →
    (∀ k' B', N ≤ k' → B'.length = n → (∀ x, x < n → (atB B' x = true ↔ ∃ j, j < n ∧ atB B j = true ∧ ∃ v, rnW w h o (T.drop t) (P.drop (t + 1)) (plcW j) = some v ∧ 4 * v.1 + v.2 = x)) → spec_PossibleWalkers.l3 k' [] (n : Int) B' 0 = R) →
    spec_PossibleWalkers.l1 k P T [] (n : Int) B (t : Int) w h o = R
  | 0, t, k, B, ht, hk, hB, hR => by
    obtain ⟨m, rfl⟩ : ∃ m, k = m + 1 := ⟨k - 1, by omega⟩
    have hN2 := stN_le w h
    simp only [spec_PossibleWalkers.l1]
    rw [if_neg (by omega)]
    refine hR m B (by omega) hB fun x hx => ?_
    rw [List.drop_of_length_le (by omega)]
    simp only [rnW]
    have key : ∀ j : Nat, 4 * (plcW j).1 + (plcW j).2 = (j : Int) := fun j => by simp only [plcW]; omega
    constructor
    · intro q
      exact ⟨x, hx, q, _, rfl, key x⟩
    · rintro ⟨j, hj, q, v, e, z⟩
      obtain rfl := Option.some.inj e
      rw [key j] at z
      obtain rfl : j = x := by omega
      exact q
  | d + 1, t, k, B, ht, hk, hB, hR => by
    obtain ⟨m, rfl⟩ : ∃ m, k = m + 1 := ⟨k - 1, by omega⟩
    have hN2 := stN_le w h
    have htl : t < T.length := by omega
    have hTd : T.drop t = rd T (t : Int) :: T.drop (t + 1) := drop_step htl
    have hPd : P.drop (t + 1) = rd P ((t : Int) + 1) :: P.drop (t + 1 + 1) := by
      have := drop_step (l := P) (i := t + 1) (by omega)
      rwa [Int.natCast_add] at this
    simp only [spec_PossibleWalkers.l1]
    rw [if_pos (by omega), if_pos (by omega), if_pos (by rw [Int.toNat_natCast]; omega), Int.toNat_natCast]
    refine sp_l2 (N := 200 * d + N + 1) hn hB htl hT hP (by omega) (fun k' B' hk' hB' hv => ?_) n 0 m (List.replicate n false) (by omega) (by omega) (by simp) (fun x hx => by
      rw [atB_rep]
      exact ⟨fun q => absurd q Bool.false_ne_true, fun ⟨j, hj, _⟩ => absurd hj (Nat.not_lt_zero _)⟩)
    have := sp_l1 hn hT hP hN d (t + 1) k' B' (by omega) (by omega) hB' (fun k2 B2 hk2 hB2 hv2 => hR k2 B2 hk2 hB2 fun x hx => by
      rw [hv2 x hx, hTd, hPd]
      simp only [rnW]
      constructor
      · rintro ⟨j, hj, q, v, e, z⟩
        obtain ⟨i, hi, q', u, e', z'⟩ := (hv j hj).1 q
        have g := stp_good e'
        have hu : plcW j = u := by
          unfold plcW
          obtain ⟨u1, u2⟩ := u
          simp only at g z'
          congr 1 <;> omega
        exact ⟨i, hi, q', v, by rw [e', Option.bind_some, ← hu]; exact e, z⟩
      · rintro ⟨i, hi, q, v, e, z⟩
        obtain ⟨u, e1, e2⟩ := Option.bind_eq_some_iff.1 e
        have g := stp_good e1
        have hN1 := stN_int w h
        obtain ⟨u1, u2⟩ := u
        simp only at g
        obtain ⟨a, rfl⟩ : ∃ a : Nat, u1 = a := ⟨u1.toNat, by omega⟩
        obtain ⟨b, rfl⟩ : ∃ b : Nat, u2 = b := ⟨u2.toNat, by omega⟩
        have hlt : 4 * a + b < n := by omega
        have hu : plcW (4 * a + b) = ((a : Int), (b : Int)) := by
          unfold plcW
          congr 1 <;> omega
        exact ⟨4 * a + b, hlt, (hv _ hlt).2 ⟨i, hi, q, _, e1, by simp only; omega⟩, v, by rw [hu]; exact e2, z⟩)
    rw [Int.natCast_add] at this
    exact this
theorem spec_PossibleWalkers_eq {k : Nat} (hPl : P.length ≤ 1048576) (hTl : T.length ≤ 1048576) (hk : T.length + 9000 ≤ k) : spec_PossibleWalkers.f k w h o P T = some (posW w h o P T) := by
  have hN1 := stN_int w h
  have hN2 := stN_le w h
  obtain ⟨m, rfl⟩ : ∃ m, k = m + 1 := ⟨k - 1, by omega⟩
  have no : spec_PossibleWalkers.j0 (m + 1) P T [] true w h o = some [] := by
    simp only [spec_PossibleWalkers.j0]
    rw [if_pos trivial]
  unfold spec_PossibleWalkers.f posW pwok
  rw [Option.bind_some, spec_MazeOk_eq, Option.bind_some]
  cases M : mok w h o with
  | false => rw [if_neg (by decide)]; simpa using no
  | true =>
    rw [if_pos rfl, w64 (by omega) (by omega)]
    by_cases hP : (P.length : Int) = (T.length : Int) + 1
    · rw [if_pos hP, spec_l33Turns_eq (by omega) (by omega), Option.bind_some, decide_eq_true hP]
      simp only [Bool.true_and]
      cases ht : decide ((T.length : Int) ≤ 40) && T.all turn4 with
      | false => rw [if_neg (by decide)]; exact no
      | true =>
        rw [if_pos rfl]
        rw [Bool.and_eq_true, decide_eq_true_eq] at ht
        simp only [spec_PossibleWalkers.j0, Bool.not_true]
        have hc : wrap64 (4 * cells w h) = ((4 * stN w h : Nat) : Int) := by rw [w64 (by omega) (by omega)]; omega
        rw [if_neg (by decide), spec_CountCells_eq, Option.bind_some, hc, if_pos (by omega), if_pos (by rw [Int.toNat_natCast]; omega), Int.toNat_natCast]
        refine sp_l0 (N := 8500) (by omega) (by omega) (by omega) (fun k' B hk' hB hv => ?_) (4 * stN w h) 0 m _ (by omega) (by omega) (by simp) (fun j hj => absurd hj (Nat.not_lt_zero _))
        refine sp_l1 (N := 200) rfl (by omega) (by omega) (by omega) T.length 0 k' B (by omega) (by omega) hB (fun k2 B2 hk2 hB2 hv2 => ?_)
        have e3 := sp_l3 (B := B2) (n := 4 * stN w h) (by omega) hB2 (4 * stN w h) 0 k2 [] (by omega) (by omega) (by simp)
        refine Eq.trans e3 ?_
        rw [List.nil_append]
        congr 1
        have key : ∀ j : Nat, keyW ⟨(plcW j).1, (plcW j).2⟩ = (j : Int) := fun j => by simp only [plcW, keyW]; omega
        refine sorted_eq ?_ fitW_sorted fun x => ?_
        · rw [List.pairwise_map]
          refine ((List.pairwise_lt_range' (s := 0) (n := 4 * stN w h)).filter _).imp fun {a b} hab => ?_
          rw [key, key]
          omega
        · rw [fitW_mem, List.mem_map]
          constructor
          · rintro ⟨j, hj, rfl⟩
            obtain ⟨hj, q⟩ := List.mem_filter.1 hj
            have hj := List.mem_range'_1.1 hj
            obtain ⟨i, hi, q', v, e, z⟩ := (hv2 j (by omega)).1 q
            have hb := (hv i hi).1 q'
            refine ⟨i, hi, ?_⟩
            have ee : endW w h o P T i = some v := by
              unfold endW
              rw [if_pos (show pat w h o ((i / 4 : Nat) : Int) ((i % 4 : Nat) : Int) = rd P 0 from hb)]
              simpa [plcW] using e
            rw [ee]
            have g := endW_good hi ee
            obtain ⟨v1, v2⟩ := v
            simp only at g z
            simp only [plcW]
            congr 2 <;> omega
          · rintro ⟨i, hi, e⟩
            have g := endW_good hi e
            simp only at g
            obtain ⟨x0, x1⟩ := x
            simp only at g e
            obtain ⟨a, rfl⟩ : ∃ a : Nat, x0 = a := ⟨x0.toNat, by omega⟩
            obtain ⟨b, rfl⟩ : ∃ b : Nat, x1 = b := ⟨x1.toNat, by omega⟩
            have hlt : 4 * a + b < 4 * stN w h := by omega
            unfold endW at e
            split at e
            · rename_i hb
              refine ⟨4 * a + b, List.mem_filter.2 ⟨List.mem_range'_1.2 ⟨by omega, by omega⟩, (hv2 _ hlt).2 ⟨i, hi, (hv i hi).2 hb, _, by simpa [plcW] using e, by simp only; omega⟩⟩, ?_⟩
              simp only [plcW]
              congr 1 <;> omega
            · cases e
    · rw [if_neg hP, decide_eq_false hP]
      simpa using no
end
end Go.Proofs.Ytccjanhdnheclaa.F
end

section
namespace Go.Proofs.Ytccjanhdnheclaa.F
open Go.RowKit Go.Proofs.YtccjanhdnheclaaW.PrintWords Go.Proofs.YtccjanhdnheclaaW.PrintLast Go.Proofs.YtccjanhdnheclaaW.PrintMore
set_option linter.unusedVariables false
set_option linter.unusedSimpArgs false
theorem impl_IsLocated_eq {k : Nat} {w h o : Int} {P T : List Int} (hPl : P.length ≤ 1048576) (hTl : T.length ≤ 1048576) (hk : 7000 ≤ k) : impl_IsLocated.f k w h o P T = some (((posW w h o P T).length : Int) == 1) := by
  unfold impl_IsLocated.f
  rw [impl_PossibleWalkers_eq hPl hTl hk, Option.bind_some]
theorem spec_IsLocated_eq {k : Nat} {w h o : Int} {P T : List Int} (hPl : P.length ≤ 1048576) (hTl : T.length ≤ 1048576) (hk : T.length + 9000 ≤ k) : spec_IsLocated.f k w h o P T = some (((posW w h o P T).length : Int) == 1) := by
  unfold spec_IsLocated.f
  rw [spec_PossibleWalkers_eq hPl hTl hk, Option.bind_some]
end Go.Proofs.Ytccjanhdnheclaa.F
end

section
namespace Go.Proofs.Ytccjanhdnheclaa.F
open Go.RowKit Go.Proofs.YtccjanhdnheclaaW.PrintWords Go.Proofs.YtccjanhdnheclaaW.PrintLast Go.Proofs.YtccjanhdnheclaaW.PrintMore
set_option linter.unusedVariables false
set_option linter.unusedSimpArgs false
theorem FnExactIsLocated_pure : ∀ (a0_0 : Int) (a0_1 : Int) (a0_2 : Int) (l1 : List (Int)) (l2 : List (Int)), (I64 (a0_0)) → (I64 (a0_1)) → (I64 (a0_2)) → ((l1).length ≤ 9223372036854775807 ∧ ∀ y ∈ l1, I64 (y)) → ((l2).length ≤ 9223372036854775807 ∧ ∀ y ∈ l2, I64 (y)) → ∃ k, laws_FnExactIsLocated.f k a0_0 a0_1 a0_2 l1 l2 = some true := by
  intro w h o P T _ _ _ _ _
  obtain ⟨K, hK⟩ : ∃ K, K = P.length + T.length + 9000 := ⟨_, rfl⟩
  refine ⟨K, ?_⟩
  unfold laws_FnExactIsLocated.f
  by_cases b1 : (P.length : Int) > 1048576
  · rw [if_pos b1]
  · by_cases b2 : (T.length : Int) > 1048576
    · rw [if_neg b1, if_pos b2]
    · have t1 : laws_toIntS.f K P = some P := laws_toIntS_eq (by omega) (by omega)
      have t2 : laws_toIntS.f K T = some T := laws_toIntS_eq (by omega) (by omega)
      have q1 : laws_eqIntS.f K P P = some true := laws_eqIntS_refl (by omega) (by omega)
      have q2 : laws_eqIntS.f K T T = some true := laws_eqIntS_refl (by omega) (by omega)
      have s1 : spec_IsLocated.f K w h o P T = _ := spec_IsLocated_eq (by omega) (by omega) (by omega)
      have i1 : impl_IsLocated.f K w h o P T = _ := impl_IsLocated_eq (by omega) (by omega) (by omega)
      rw [if_neg b1, if_neg b2]
      simp only [laws_toMaze.f, laws_toGrid.f, Option.bind_some, t1, t2, s1, i1, q1, q2, bne_self_eq_false, Bool.false_eq_true, if_false, if_true]
end Go.Proofs.Ytccjanhdnheclaa.F
end
