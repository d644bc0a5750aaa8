/- Packed by a program of the session (wip/tools/pack.py): what the claim's theorem reaches, of the texts that wip/ and the kit's printer lay. -/
import Derived.Test.YtimejdhglmajdaaPkFnExactGoalsFor8
section
namespace Go.Proofs.Ytimejdhglmajdaa.F
open Go.RowKit Go.Proofs.YtimejdhglmajdaaW.PrintWords Go.Proofs.YtimejdhglmajdaaW.PrintLast Go.Proofs.YtimejdhglmajdaaW.PrintMore
set_option linter.unusedVariables false
set_option linter.unusedSimpArgs false
def toS (x : SlaSign) : SSign := ⟨x.f0, x.f1⟩
theorem laws_toSignS_eq {k : Nat} {l : List SlaSign} (hl : l.length ≤ 1048576) (hk : l.length + 1 ≤ k) : laws_toSignS.f k l = some (l.map toS) := by
  unfold laws_toSignS.f
  rw [if_pos (by omega), if_pos (by omega)]
  refine set_loop (c := 0) zlaSign (F := fun k acc i => laws_toSignS.l0 k l acc i) ?_ ?_ _ (by simp) (by omega)
  · intro k acc i _ hi ha
    simp only [laws_toSignS.l0, laws_toSign.f, Option.bind_some]
    rw [if_pos (by omega), if_pos (by omega), if_pos (by omega), w64_succ hi (by omega)]
    rfl
  · intro k acc _
    simp only [laws_toSignS.l0]
    rw [if_neg (by omega)]
theorem laws_eqSignS_refl {k : Nat} {l : List SSign} (hl : l.length ≤ 9223372036854775806) (hk : l.length + 1 ≤ k) : laws_eqSignS.f k l l = some true := by
  unfold laws_eqSignS.f
  rw [if_pos rfl]
  have := all_loop (c := 0) zSign (F := fun k i => laws_eqSignS.l0 k l l i) (p := fun _ => true) (b := true)
    (fun k i _ hi => by
      simp only [laws_eqSignS.l0, laws_eqSign.f]
      rw [if_pos (by omega), if_pos (by omega), if_pos (by omega), w64_succ hi (by omega)]
      simp)
    (fun k _ => by simp only [laws_eqSignS.l0]; rw [if_neg (by omega)]) hk
  rw [this]
  congr 1
  simp only [Bool.and_true, List.all_eq_true, implies_true]
theorem sz_Sign {l : List SlaSign} (hl : l.length ≤ 9223372036854775807) : laws_szSignS.f l 1048576 = some (if l.length ≤ 1048576 then 1048576 - (l.length : Int) else -1) := by
  unfold laws_szSignS.f
  rw [w64 (by omega) (by omega)]
  by_cases h : l.length ≤ 1048576
  · rw [if_neg (by omega), if_pos h]
  · rw [if_pos (by omega), if_neg h]
def lieStep (w h o g : Int) (s : Int) (x : SSign) : Int := if isT w h o x.f0 x.f1 g then s else s + 1
def lies (w h o g : Int) (l : List SSign) : Int := l.foldl (lieStep w h o g) 0
theorem spec_CountLies_eq {k : Nat} {l : List SSign} (hl : l.length ≤ 1048576) (hk : l.length + 220 ≤ k) (w h o g : Int) : spec_CountLies.f k w h o l g = some (lies w h o g l) := by
  have key := fold_loop (n := l.length) (c := 210) (F := fun k s i => spec_CountLies.l0 k l g s i w h o) (step := fun s i => lieStep w h o g s (l.getD i zSign)) (fin := id) (I := fun s i => 0 ≤ s ∧ s ≤ i)
    (fun k s i hk hi hs => by
      simp only [spec_CountLies.l0]
      rw [if_pos (by omega), if_pos (by omega), spec_IsTrue_eq hk, Option.bind_some, w64_succ hi (by omega), w64 (x := s + 1) (by omega) (by omega)]
      show _ = spec_CountLies.l0 k l g (lieStep w h o g s (rd_Sign l i)) _ w h o
      unfold lieStep
      split <;> rfl)
    (fun s i _ hs => by unfold lieStep; split <;> omega)
    (fun k s _ _ => by simp only [spec_CountLies.l0]; rw [if_neg (by omega)]; rfl) l.length 0 k 0 (by omega) (by omega) (by omega)
  rw [range'_zero_foldl zSign (lieStep w h o g)] at key
  exact key
theorem impl_CountLies_eq {k : Nat} {l : List SSign} (hl : l.length ≤ 1048576) (hk : l.length + 220 ≤ k) (w h o g : Int) : impl_CountLies.f k w h o l g = some (lies w h o g l) := by
  have key := fold_loop (n := l.length) (c := 210) (F := fun k s i => impl_CountLies.l0 k g s l (l.length : Int) i w h o) (step := fun s i => lieStep w h o g s (l.getD i zSign)) (fin := id) (I := fun s i => 0 ≤ s ∧ s ≤ i)
    (fun k s i hk hi hs => by
      simp only [impl_CountLies.l0]
      rw [if_pos (by omega), if_pos (by omega), if_pos (by omega), impl_IsTrue_eq hk, Option.bind_some, w64_succ hi (by omega), w64 (x := s + 1) (by omega) (by omega)]
      show _ = impl_CountLies.l0 k g (lieStep w h o g s (rd_Sign l i)) l _ _ w h o
      unfold lieStep
      split <;> rfl)
    (fun s i _ hs => by unfold lieStep; split <;> omega)
    (fun k s _ _ => by simp only [impl_CountLies.l0]; rw [if_neg (by omega)]; rfl) l.length 0 k 0 (by omega) (by omega) (by omega)
  rw [range'_zero_foldl zSign (lieStep w h o g)] at key
  exact key
end Go.Proofs.Ytimejdhglmajdaa.F
end

section
namespace Go.Proofs.Ytimejdhglmajdaa.F
open Go.RowKit Go.Proofs.YtimejdhglmajdaaW.PrintWords Go.Proofs.YtimejdhglmajdaaW.PrintLast Go.Proofs.YtimejdhglmajdaaW.PrintMore
set_option linter.unusedVariables false
set_option linter.unusedSimpArgs false
theorem laws_eqIntS_refl {k : Nat} {l : List Int} (hl : l.length ≤ 9223372036854775806) (hk : l.length + 1 ≤ k) : laws_eqIntS.f k l l = some true := by
  unfold laws_eqIntS.f
  rw [if_pos rfl]
  have := all_loop (c := 0) (0 : Int) (F := fun k i => laws_eqIntS.l0 k l l i) (p := fun _ => true) (b := true)
    (fun k i _ hi => by
      simp only [laws_eqIntS.l0]
      rw [if_pos (by omega), if_pos (by omega), if_pos (by omega), w64_succ hi (by omega)]
      all_goals simp)
    (fun k _ => by simp only [laws_eqIntS.l0]; rw [if_neg (by omega)]) hk
  rw [this]
  congr 1
  simp only [Bool.and_true, List.all_eq_true, implies_true]
theorem mark_held {k : Nat} {l : List Int} {a : Int} (h0 : 0 ≤ a) (h1 : a ≤ 1000000000) (hl : l.length ≤ 1000000000) (hk : l.length + 1 ≤ k) :
    ∃ l', laws_markIntS.f k l a = some (a + l.length, l') ∧ l'.length = l.length ∧ ∀ k', l.length + 1 ≤ k' → laws_heldIntS.f k' l' a = some (a + l.length) := by
  obtain ⟨s, ⟨e1, e2, e3⟩, e4⟩ := inv_loop (n := l.length) (c := 0) (F := fun k (s : List Int × Int) i => laws_markIntS.l0 k s.1 s.2 i) (fin := fun s => (s.2, s.1))
    (I := fun s i => s.1.length = l.length ∧ s.2 = a + i ∧ ∀ j : Nat, j < i → rd s.1 (j : Int) = a + j)
    (fun k s i _ hi ⟨i1, i2, i3⟩ => ⟨(s.1.set i s.2, s.2 + 1), ⟨by simpa using i1, by simp only; omega, fun j hj => by
        rw [rd_nat, List.getD_eq_getElem?_getD, List.getElem?_set]
        by_cases e : i = j
        · subst e
          rw [if_pos rfl, if_pos (by omega)]
          simpa using i2
        · rw [if_neg e]
          have := i3 j (by omega)
          rwa [rd_nat, List.getD_eq_getElem?_getD] at this⟩, by
        simp only [laws_markIntS.l0]
        rw [if_pos (by omega), if_pos (by omega), w64_succ hi (by omega), w64 (by omega) (by omega)]
        rfl⟩)
    (fun k s _ h => by
      simp only [laws_markIntS.l0]
      rw [if_neg (by omega)]) l.length 0 k (l, a) (by omega) (by omega) ⟨rfl, by simp, fun j hj => by omega⟩
  refine ⟨s.1, ?_, e1, fun k' hk' => ?_⟩
  · rw [← e2]
    exact e4
  · obtain ⟨s', e5, e6⟩ := inv_loop (n := l.length) (c := 0) (F := fun k (x : Int) i => laws_heldIntS.l0 k s.1 x i) (fin := fun x => x) (I := fun x i => x = a + i)
      (fun k x i _ hi hx => ⟨x + 1, by omega, by
        simp only [laws_heldIntS.l0]
        rw [if_pos (by omega), if_pos (by omega), if_pos (by rw [e3 i hi, hx]), w64_succ hi (by omega), w64 (by omega) (by omega)]⟩)
      (fun k x _ _ => by
        simp only [laws_heldIntS.l0]
        rw [if_neg (by omega)]) l.length 0 k' a (by omega) (by omega) (by simp)
    rw [e5] at e6
    exact e6
end Go.Proofs.Ytimejdhglmajdaa.F
end

section
namespace Go.Proofs.Ytimejdhglmajdaa.F
open Go.RowKit Go.Proofs.YtimejdhglmajdaaW.PrintWords Go.Proofs.YtimejdhglmajdaaW.PrintLast Go.Proofs.YtimejdhglmajdaaW.PrintMore
set_option linter.unusedVariables false
set_option linter.unusedSimpArgs false
theorem markS_some {k : Nat} {l : List SSign} {a : Int} (h0 : 0 ≤ a) (h1 : a ≤ 1000000000) (hl : l.length ≤ 100000000) (hk : l.length + 1 ≤ k) :
    ∃ l', laws_markSignS.f k l a = some (a + 2 * l.length, l') := by
  obtain ⟨s, ⟨e1, e2⟩, e4⟩ := inv_loop (n := l.length) (c := 0) (F := fun k (s : List SSign × Int) i => laws_markSignS.l0 k s.1 s.2 i) (fin := fun s => (s.2, s.1))
    (I := fun s i => s.1.length = l.length ∧ s.2 = a + 2 * i)
    (fun k s i _ hi ⟨i1, i2⟩ => by
      obtain ⟨y, hy⟩ : ∃ y : List SSign, y = s.1.set i ⟨s.2, (rd_Sign s.1 (i : Int)).f1⟩ := ⟨_, rfl⟩
      refine ⟨(y.set i ⟨(rd_Sign y (i : Int)).f0, s.2 + 1⟩, s.2 + 2), ⟨by rw [hy]; simpa using i1, by simp only; omega⟩, ?_⟩
      · simp only [laws_markSignS.l0]
        rw [if_pos (by omega), if_pos (by omega), Option.bind_some, w64_succ hi (by omega), w64 (x := s.2 + 1) (by omega) (by omega), w64 (by omega) (by omega), show s.2 + 1 + 1 = s.2 + 2 by omega, Int.toNat_natCast, ← hy])
    (fun k s _ h => by
      simp only [laws_markSignS.l0]
      rw [if_neg (by omega)]) l.length 0 k (l, a) (by omega) (by omega) ⟨rfl, by simp⟩
  exact ⟨s.1, by rw [← e2]; exact e4⟩
def sgs (w h o : Int) (l : List SSign) : Bool := l.all fun x => decide (0 ≤ st w h o x.f0 x.f1)
theorem impl_areSigns_eq {k : Nat} (hk : 3 ≤ k) (w h o : Int) (l : List SSign) : impl_areSigns.f k w h o l = some (sgs w h o l) := by
  unfold impl_areSigns.f sgs
  exact allO_of fun x _ => impl_SignOk_eq hk w h o x.f0 x.f1
theorem spec_l32Signs_eq {k : Nat} {l : List SSign} (hl : l.length ≤ 1048576) (hk : l.length + 5 ≤ k) (w h o : Int) : spec_l32Signs.f k w h o l = some (sgs w h o l && mok w h o) := by
  unfold spec_l32Signs.f
  have key : ∀ (d i k : Nat), i + d = l.length → d + 3 ≤ k → spec_l32Signs.l0 k l (i : Int) w h o = some (sgs w h o (l.drop i) && mok w h o) := by
    intro d
    induction d with
    | zero =>
      intro i k hi hk
      obtain ⟨m, rfl⟩ : ∃ m, k = m + 1 := ⟨k - 1, by omega⟩
      simp only [spec_l32Signs.l0]
      rw [if_neg (by omega), spec_MazeOk_eq, Option.bind_some, List.drop_of_length_le (by omega)]
      simp [sgs]
    | succ d ih =>
      intro i k hi hk
      obtain ⟨m, rfl⟩ : ∃ m, k = m + 1 := ⟨k - 1, by omega⟩
      have hil : i < l.length := by omega
      have e : rd_Sign l (i : Int) = l[i] := by show l.getD i zSign = _; rw [List.getD_eq_getElem?_getD, List.getElem?_eq_getElem hil]; rfl
      simp only [spec_l32Signs.l0]
      rw [if_pos (by omega), if_pos (by omega), e, spec_SignOk_eq (by omega), Option.bind_some, w64_succ hil (by omega), List.drop_eq_getElem_cons hil]
      unfold sgs
      rw [List.all_cons]
      by_cases c : 0 ≤ st w h o l[i].f0 l[i].f1
      · rw [if_pos (decide_eq_true c), decide_eq_true c, Bool.true_and]
        have := ih (i + 1) m (by omega) (by omega)
        rwa [Int.natCast_add] at this
      · rw [if_neg (by simpa using c)]
        simp [c]
  have := key l.length 0 k (by omega) (by omega)
  simpa using this
end Go.Proofs.Ytimejdhglmajdaa.F
end

section
namespace Go.Proofs.Ytimejdhglmajdaa.F
open Go.RowKit Go.Proofs.YtimejdhglmajdaaW.PrintWords Go.Proofs.YtimejdhglmajdaaW.PrintLast Go.Proofs.YtimejdhglmajdaaW.PrintMore
set_option linter.unusedVariables false
set_option linter.unusedSimpArgs false
def ints (n : Nat) : List Int := (List.range n).map fun (j : Nat) => (j : Int)
theorem ints_succ (n : Nat) : ints (n + 1) = ints n ++ [(n : Int)] := by
  unfold ints
  rw [List.range_succ, List.map_append]
  rfl
theorem ints_length (n : Nat) : (ints n).length = n := by simp [ints]
theorem impl_upTo_eq {n k : Nat} (hn : n ≤ 1000) (hk : n + 1 ≤ k) : impl_upTo.f k (n : Int) = some (ints n) := by
  unfold impl_upTo.f
  obtain ⟨s, hs, e⟩ := inv_loop (F := fun k (s : List Int) i => impl_upTo.l0 k (n : Int) s i) (n := n) (c := 0) (fin := fun s => s) (I := fun s i => s = ints i)
    (fun k s i _ hi hs => ⟨ints (i + 1), rfl, by
      subst hs
      simp only [impl_upTo.l0]
      rw [if_pos (by omega), if_pos (by rw [ints_length]; omega), ints_succ, w64 (by omega) (by omega)]⟩)
    (fun k s _ hs => by
      simp only [impl_upTo.l0]
      rw [if_neg (by omega)]) n 0 k [] (by omega) (by omega) rfl
  subst hs
  exact e
theorem stN_int (w h : Int) : ((stN w h : Nat) : Int) = cells w h := by have := cells_bd w h; unfold stN; omega
theorem stN_le (w h : Int) : stN w h ≤ 16 := by have := cells_bd w h; unfold stN; omega
end Go.Proofs.Ytimejdhglmajdaa.F
end

section
namespace Go.Proofs.Ytimejdhglmajdaa.F
open Go.RowKit Go.Proofs.YtimejdhglmajdaaW.PrintWords Go.Proofs.YtimejdhglmajdaaW.PrintLast Go.Proofs.YtimejdhglmajdaaW.PrintMore
set_option linter.unusedVariables false
set_option linter.unusedSimpArgs false
def gfor (w h o : Int) (l : List SSign) (n : Int) : List Int := if (mok w h o && sgs w h o l && decide (l.length ≤ 20)) = true then (ints (stN w h)).filter fun x => !decide (lies w h o x l > n) else []
theorem gfor_len (w h o : Int) (l : List SSign) (n : Int) : (gfor w h o l n).length ≤ 16 := by
  unfold gfor
  split
  · exact Nat.le_trans (List.length_filter_le _ _) (by rw [ints_length]; exact stN_le w h)
  · simp
theorem impl_GoalsFor_eq (w h o : Int) (l : List SSign) (n : Int) : impl_GoalsFor.f w h o l n = some (gfor w h o l n) := by
  unfold impl_GoalsFor.f gfor
  rw [impl_MazeOk_eq, Option.bind_some]
  by_cases M : mok w h o = true
  · rw [if_pos M]
    by_cases hl : l.length ≤ 20
    · rw [if_pos hl, impl_areSigns_eq (by decide), Option.bind_some]
      by_cases S : sgs w h o l = true
      · have hN := stN_int w h
        have hL := stN_le w h
        have hc : ∀ x, impl_CountLies.f 1000 w h o l x = some (lies w h o x l) := fun x => impl_CountLies_eq (by omega) (by omega) w h o x
        have g := mok_iff.1 M
        have hpos : 0 < stN w h := by
          have := gok_iff.1 g.1
          have h1 : 0 < w * h := Int.mul_pos (by omega) (by omega)
          have h2 : cells w h = w * h := by unfold cells; rw [if_pos g.1]
          omega
        rw [if_pos S, if_pos (by simp [M, S, hl]), impl_CountCells_eq, Option.bind_some, ← hN, impl_upTo_eq (by omega) (by omega), Option.bind_some, if_pos]
        · congr 1
          refine List.filter_congr fun x _ => ?_
          rw [hc]
          rfl
        · refine ⟨List.all_eq_true.2 fun x hx => by rw [hc]; rfl, by rw [ints_length]; exact hpos⟩
      · rw [if_neg S, if_neg (by simp [S])]
    · rw [if_neg hl, if_neg (by simp [hl])]
  · rw [if_neg M, if_neg (by simp [M])]
theorem spec_goals1 {w h o n : Int} {l : List SSign} (hl : l.length ≤ 20) (M : mok w h o = true) (S : sgs w h o l = true) {m i : Nat} {acc : List Int} (hm : 300 ≤ m) (hi : i < stN w h) (ha : acc.length ≤ 100) :
    spec_GoalsFor.l0 (m + 2) l n acc (i : Int) w h o = spec_GoalsFor.l0 m l n (acc ++ if !decide (lies w h o (i : Int) l > n) then [(i : Int)] else []) ((i : Int) + 1) w h o := by
  have hN := stN_int w h
  have hL := stN_le w h
  rw [show m + 2 = (m + 1) + 1 from rfl]
  simp only [spec_GoalsFor.l0]
  rw [spec_CountCells_eq, Option.bind_some, if_pos (by omega), spec_l32Signs_eq (by omega) (by omega), Option.bind_some, if_pos (by simp [M, S])]
  simp only [spec_GoalsFor.j1]
  rw [if_pos (by simp; omega), spec_CountLies_eq (by omega) (by omega), Option.bind_some, w64 (x := (i : Int) + 1) (by omega) (by omega)]
  by_cases q : lies w h o (i : Int) l > n
  · rw [if_neg (by omega), if_neg (by simp [q]), List.append_nil]
  · rw [if_pos (by omega), if_pos (by omega), if_pos (by simp; omega)]
theorem spec_goals0 {w h o n : Int} {l : List SSign} {m : Nat} {i : Int} {acc : List Int} (hm : l.length + 10 ≤ m) (hl : l.length ≤ 1048576) (H : ¬ (i < cells w h ∧ mok w h o = true ∧ sgs w h o l = true ∧ l.length ≤ 20)) : spec_GoalsFor.l0 (m + 2) l n acc i w h o = some acc := by
  rw [show m + 2 = (m + 1) + 1 from rfl]
  simp only [spec_GoalsFor.l0, spec_GoalsFor.j1]
  rw [spec_CountCells_eq, Option.bind_some]
  by_cases h1 : i < cells w h
  · rw [if_pos h1, spec_l32Signs_eq hl (by omega), Option.bind_some]
    by_cases h2 : (sgs w h o l && mok w h o) = true
    · rw [if_pos h2, if_neg]
      simp only [Bool.and_eq_true] at h2
      simp only [decide_eq_true_eq]
      exact fun q => H ⟨h1, h2.2, h2.1, by omega⟩
    · rw [if_neg h2]
      simp
  · rw [if_neg h1]
    simp
theorem spec_GoalsFor_eq {k : Nat} {l : List SSign} (hl : l.length ≤ 1048576) (hk : l.length + 400 ≤ k) (w h o n : Int) : spec_GoalsFor.f k w h o l n = some (gfor w h o l n) := by
  have hN := stN_int w h
  have hL := stN_le w h
  refine at_rounds (g := fun k => spec_GoalsFor.f k w h o l n) (fun k => spec_GoalsFor.mono w h o l n k) (k := 2 * (stN w h + 1) + (300 + l.length)) (by omega) ?_
  show spec_GoalsFor.l0 _ l n [] 0 w h o = _
  unfold gfor
  by_cases H : (mok w h o && sgs w h o l && decide (l.length ≤ 20)) = true
  · rw [if_pos H]
    simp only [Bool.and_eq_true, decide_eq_true_eq] at H
    obtain ⟨⟨M, S⟩, h20⟩ := H
    obtain ⟨s, hs, e⟩ := inv_loop (F := fun k (s : List Int) i => spec_GoalsFor.l0 (2 * k + (300 + l.length)) l n s i w h o) (n := stN w h) (c := 0) (fin := fun s => s) (I := fun s i => s = (ints i).filter fun x => !decide (lies w h o x l > n))
      (fun k s i _ hi hs => ⟨(ints (i + 1)).filter fun x => !decide (lies w h o x l > n), rfl, by
        subst hs
        have hle : ((ints i).filter fun x => !decide (lies w h o x l > n)).length ≤ 16 := Nat.le_trans (List.length_filter_le _ _) (by rw [ints_length]; omega)
        have := spec_goals1 (n := n) h20 M S (m := 2 * k + (300 + l.length)) (by omega) hi (acc := (ints i).filter fun x => !decide (lies w h o x l > n)) (by omega)
        rw [show 2 * (k + 1) + (300 + l.length) = 2 * k + (300 + l.length) + 2 by omega, this, ints_succ, List.filter_append]
        congr 2
        rw [List.filter_cons, List.filter_nil]⟩)
      (fun k s _ hs => by
        have := spec_goals0 (n := n) (m := 2 * k + (300 + l.length)) (i := (stN w h : Int)) (acc := s) (w := w) (h := h) (o := o) (l := l) (by omega) hl (fun q => by omega)
        rw [show 2 * (k + 1) + (300 + l.length) = 2 * k + (300 + l.length) + 2 by omega, this]) (stN w h) 0 (stN w h + 1) [] (by omega) (by omega) rfl
    subst hs
    exact e
  · rw [if_neg H]
    have := spec_goals0 (n := n) (m := 2 * stN w h + (300 + l.length)) (i := 0) (acc := []) (w := w) (h := h) (o := o) (l := l) (by omega) hl (fun q => H (by simp [q.2.1, q.2.2.1, q.2.2.2]))
    rw [show 2 * (stN w h + 1) + (300 + l.length) = 2 * stN w h + (300 + l.length) + 2 by omega]
    exact this
end Go.Proofs.Ytimejdhglmajdaa.F
end

section
namespace Go.Proofs.Ytimejdhglmajdaa.F
open Go.RowKit Go.Proofs.YtimejdhglmajdaaW.PrintWords Go.Proofs.YtimejdhglmajdaaW.PrintLast Go.Proofs.YtimejdhglmajdaaW.PrintMore
set_option linter.unusedVariables false
set_option linter.unusedSimpArgs false
theorem FnExactGoalsFor_pure : ∀ (a0_0 : Int) (a0_1 : Int) (a0_2 : Int) (l1 : List (SlaSign)) (a2 : Int), (I64 (a0_0)) → (I64 (a0_1)) → (I64 (a0_2)) → ((l1).length ≤ 9223372036854775807 ∧ ∀ y ∈ l1, (I64 (y.f0)) ∧ (I64 (y.f1))) → (I64 (a2)) → ∃ k, laws_FnExactGoalsFor.f k a0_0 a0_1 a0_2 l1 a2 = some true := by
  intro w h o l c _ _ _ hl _
  refine ⟨20 * l.length + 1200 + 1, ?_⟩
  unfold laws_FnExactGoalsFor.f
  rw [sz_Sign hl.1, Option.bind_some]
  by_cases hb : l.length ≤ 1048576
  · rw [if_pos hb, if_neg (by omega)]
    have hf := gfor_len w h o (l.map toS) c
    obtain ⟨ls, s1⟩ := markS_some (k := 20 * l.length + 1200 + 1) (l := l.map toS) (a := 1) (by decide) (by decide) (by rw [List.length_map]; omega) (by rw [List.length_map]; omega)
    obtain ⟨l', e1, e2, e3⟩ := mark_held (k := 20 * l.length + 1200) (l := gfor w h o (l.map toS) c) (a := 1) (by decide) (by decide) (by omega) (by omega)
    have q1 : laws_eqIntS.f (20 * l.length + 1200 + 1) (gfor w h o (l.map toS) c) (gfor w h o (l.map toS) c) = some true := laws_eqIntS_refl (by omega) (by omega)
    have q2 : laws_eqIntS.f (20 * l.length + 1200) (gfor w h o (l.map toS) c) (gfor w h o (l.map toS) c) = some true := laws_eqIntS_refl (by omega) (by omega)
    have t1 : laws_toSignS.f (20 * l.length + 1200 + 1) l = some (l.map toS) := laws_toSignS_eq hb (by omega)
    have t2 : laws_toSignS.f (20 * l.length + 1200) l = some (l.map toS) := laws_toSignS_eq hb (by omega)
    have g1 : laws_eqSignS.f (20 * l.length + 1200 + 1) (l.map toS) (l.map toS) = some true := laws_eqSignS_refl (by simp; omega) (by rw [List.length_map]; omega)
    have p1 : spec_GoalsFor.f (20 * l.length + 1200 + 1) w h o (l.map toS) c = some (gfor w h o (l.map toS) c) := spec_GoalsFor_eq (by simpa using hb) (by rw [List.length_map]; omega) w h o c
    have hn : ¬ (1 + ((gfor w h o (l.map toS) c).length : Int) < 0) := by omega
    have hn2 : ¬ (1 + 2 * ((l.map toS).length : Int) < 0) := by omega
    simp only [laws_toMaze.f, laws_toGrid.f, Option.bind_some, t1, p1, impl_GoalsFor_eq, q1, if_true, g1, s1, if_neg hn2, laws_FnExactGoalsFor.j0, Bool.not_true, Bool.false_eq_true, if_false, e1, e3 (20 * l.length + 1200) (by omega), if_neg hn, t2, q2]
  · rw [if_neg hb, if_pos (by omega)]
end Go.Proofs.Ytimejdhglmajdaa.F
end
