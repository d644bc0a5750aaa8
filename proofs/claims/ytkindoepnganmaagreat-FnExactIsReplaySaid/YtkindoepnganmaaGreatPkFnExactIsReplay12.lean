/- Packed by a program of the session (wip/tools/pack.py): what the claim's theorem reaches, of the texts that wip/ and the kit's printer lay. -/
import Derived.Test.YtkindoepnganmaaGreatPkFnExactIsReplay10
import Derived.Test.YtkindoepnganmaaGreatPkFnExactIsReplay11
section
namespace Go.Proofs.YtkindoepnganmaaGreat.F
open Go.RowKit Go.Proofs.YtkindoepnganmaaGreatW.PrintWords Go.Proofs.YtkindoepnganmaaGreatW.PrintLast Go.Proofs.YtkindoepnganmaaGreatW.PrintMore
set_option linter.unusedVariables false
set_option linter.unusedSimpArgs false
abbrev T9i := Int × Int × Int × List Int × Int × Int × List Int × Int × Int
def dn (x : T9) : T9i := (x.1, x.2.1, x.2.2.1, x.2.2.2.1, x.2.2.2.2.1, x.2.2.2.2.2.1, x.2.2.2.2.2.2.1, x.2.2.2.2.2.2.2.1, if x.2.2.2.2.2.2.2.2 = true then 1 else 0)
def farN (w h o e : Int) (V : List Int) : Int := V.foldl (fun n c => max n (dd w h o c e)) 0
def doR (w h o : Int) (G : List Int) (m e : Int) (V : List Int) (d t a b : Int) : T9i :=
  if (gdok w h o G m e V d && aok t a b) = true then
    (if t = 1 then dn (dayR w h o G m e V d a) else if t = 2 then dn (entR w h o G m e V d) else if t = 3 then dn (wlkR w h o G m e V d a b) else if t = 4 then dn (lvR w h o G m e V d) else if t = 5 then dn (gdR w h o G m e V d a) else (w, h, o, G, m, e, V, d, farN w h (onow o G m) e V))
  else (w, h, o, G, m, e, V, d, -1)
theorem impl_done_eq (w h o : Int) (G : List Int) (m e : Int) (V : List Int) (d : Int) (b : Bool) : impl_done.f w h o G m e V d b = some (w, h, o, G, m, e, V, d, if b = true then 1 else 0) := by
  unfold impl_done.f; cases b <;> rfl
theorem spec_l39Bool_eq (b : Bool) : spec_l39Bool.f b = some (if b = true then 1 else 0) := by
  unfold spec_l39Bool.f; cases b <;> rfl
theorem aok_kind {t a b : Int} (H : aok t a b = true) : 1 ≤ t ∧ t ≤ 6 := by
  unfold aok at H
  by_cases h1 : t = 1
  · omega
  · rw [if_neg h1] at H
    by_cases h2 : t = 3
    · omega
    · rw [if_neg h2] at H
      by_cases h3 : t = 5
      · omega
      · rw [if_neg h3] at H
        by_cases h4 : t = 2 ∨ t = 4 ∨ t = 6
        · omega
        · rw [if_neg h4] at H; cases H
theorem impl_far {w h o m e d : Int} {G V : List Int} (K : gdok w h o G m e V d = true) {k : Nat} (hk : 400 ≤ k) : impl_DoAct.l0 k 0 V (V.length : Int) 0 w h o G m e V d = some (w, h, o, G, m, e, V, d, farN w h (onow o G m) e V) := by
  have hl := gdok_len K
  have := list_loop (0 : Int) (l := V) (c := 300) (F := fun k s i => impl_DoAct.l0 k s V (V.length : Int) i w h o G m e V d) (step := fun n c => max n (dd w h (onow o G m) c e)) (fin := fun s => (w, h, o, G, m, e, V, d, s))
    (fun k s i hk hi => by
      simp only [impl_DoAct.l0]
      rw [if_pos (by omega), if_pos (by omega), if_pos (by omega), impl_OpenNow_eq (by omega), Option.bind_some, gdok_onw K]
      simp only
      rw [impl_DistanceOf_dd (by omega), Option.bind_some, w64_succ hi (by omega), mx_max, rd_nat])
    (fun k s hk => by
      simp only [impl_DoAct.l0]
      rw [if_neg (by omega), impl_copyGarden_eq (by omega) (by omega), Option.bind_some]) (k := k) (0 : Int) (by omega)
  exact this
theorem spec_far {w h o m e d : Int} {G V : List Int} (K : gdok w h o G m e V d = true) {k : Nat} (hk : 500 ≤ k) : spec_l39Far.f k w h o G m e V d = some (farN w h (onow o G m) e V) := by
  have hl := gdok_len K
  unfold spec_l39Far.f
  have := list_loop (0 : Int) (l := V) (c := 300) (F := fun k s i => spec_l39Far.l0 k s i w h o G m e V d) (step := fun n c => max n (dd w h (onow o G m) c e)) (fin := fun s => s)
    (fun k s i hk hi => by
      simp only [spec_l39Far.l0]
      rw [if_pos (by omega), spec_OpenNow_eq (by omega) (by omega), Option.bind_some, if_pos (by omega), gdok_onw K]
      simp only
      rw [spec_DistanceOf_eq (by omega), Option.bind_some, w64_succ hi (by omega), mx_max, rd_nat])
    (fun k s hk => by
      simp only [spec_l39Far.l0]
      rw [if_neg (by omega)]) (k := k) (0 : Int) (by omega)
  exact this
theorem impl_DoAct_eq {k : Nat} {G V : List Int} (hG : G.length ≤ 1048576) (hV : V.length ≤ 1048576) (hk : G.length + 2 * V.length + 2000 ≤ k) (w h o m e d t a b : Int) : impl_DoAct.f k w h o G m e V d t a b = some (doR w h o G m e V d t a b) := by
  obtain ⟨k, rfl⟩ : ∃ j, k = j + 1 := ⟨k - 1, by omega⟩
  unfold impl_DoAct.f doR
  rw [impl_GardenOk_eq (by omega), Option.bind_some]
  simp only [impl_DoAct.j0]
  cases K : gdok w h o G m e V d with
  | false => rw [if_neg Bool.false_ne_true, if_pos trivial, impl_copyGarden_eq (by omega) (by omega), Option.bind_some]; rfl
  | true =>
    rw [if_pos rfl, impl_ActOk_eq (by omega), Option.bind_some, Bool.true_and]
    cases A : aok t a b with
    | false => rw [Bool.not_false, if_pos rfl, impl_copyGarden_eq (by omega) (by omega), Option.bind_some]; rfl
    | true =>
      rw [Bool.not_true, if_neg Bool.false_ne_true, if_pos rfl]
      by_cases h1 : t = 1
      · rw [if_pos h1, if_pos h1, impl_NextDay_eq hG hV (by omega), Option.bind_some, impl_done_eq, Option.bind_some]; rfl
      · rw [if_neg h1, if_neg h1]
        by_cases h2 : t = 2
        · rw [if_pos h2, if_pos h2, impl_Enter_eq hG hV (by omega), Option.bind_some, impl_done_eq, Option.bind_some]; rfl
        · rw [if_neg h2, if_neg h2]
          by_cases h3 : t = 3
          · rw [if_pos h3, if_pos h3, impl_WalkIn_eq hG hV (by omega), Option.bind_some, impl_done_eq, Option.bind_some]; rfl
          · rw [if_neg h3, if_neg h3]
            by_cases h4 : t = 4
            · rw [if_pos h4, if_pos h4, impl_Leave_eq hG hV (by omega), Option.bind_some, impl_done_eq, Option.bind_some]; rfl
            · rw [if_neg h4, if_neg h4]
              by_cases h5 : t = 5
              · rw [if_pos h5, if_pos h5, impl_Guide_eq hG hV (by omega), Option.bind_some, impl_done_eq, Option.bind_some]; rfl
              · rw [if_neg h5, if_neg h5, impl_far K (by omega)]
theorem spec_DoAct_eq {k : Nat} {G V : List Int} (hG : G.length ≤ 1048576) (hV : V.length ≤ 1048576) (hk : G.length + 2 * V.length + 2000 ≤ k) (w h o m e d t a b : Int) : spec_DoAct.f k w h o G m e V d t a b = some (doR w h o G m e V d t a b) := by
  obtain ⟨k, rfl⟩ : ∃ j, k = j + 1 := ⟨k - 1, by omega⟩
  unfold spec_DoAct.f doR
  rw [spec_l38_eq (by omega) (by omega), Option.bind_some, spec_GardenOk_eq hG hV (by omega), Option.bind_some]
  simp only [spec_DoAct.j0]
  cases K : gdok w h o G m e V d with
  | false => rw [if_neg Bool.false_ne_true, if_pos trivial]; rfl
  | true =>
    rw [if_pos rfl, spec_ActOk_eq (by omega), Option.bind_some, Bool.true_and]
    cases A : aok t a b with
    | false => rw [Bool.not_false, if_pos rfl]; rfl
    | true =>
      have hA := aok_kind A
      rw [Bool.not_true, if_neg Bool.false_ne_true, if_pos rfl]
      by_cases h1 : t = 1
      · rw [if_pos h1, if_pos h1, spec_NextDay_eq hG hV (by omega), Option.bind_some, spec_l39Bool_eq, Option.bind_some]; rfl
      · rw [if_neg h1, if_neg h1]
        by_cases h2 : t = 2
        · rw [if_pos h2, if_pos h2, spec_Enter_eq hG hV (by omega), Option.bind_some, spec_l39Bool_eq, Option.bind_some]; rfl
        · rw [if_neg h2, if_neg h2]
          by_cases h3 : t = 3
          · rw [if_pos h3, if_pos h3, spec_WalkIn_eq hG hV (by omega), Option.bind_some, spec_l39Bool_eq, Option.bind_some]; rfl
          · rw [if_neg h3, if_neg h3]
            by_cases h4 : t = 4
            · rw [if_pos h4, if_pos h4, spec_Leave_eq hG hV (by omega), Option.bind_some, spec_l39Bool_eq, Option.bind_some]; rfl
            · rw [if_neg h4, if_neg h4]
              by_cases h5 : t = 5
              · rw [if_pos h5, if_pos h5, spec_Guide_eq hG hV (by omega), Option.bind_some, spec_l39Bool_eq, Option.bind_some]; rfl
              · rw [if_neg h5, if_neg h5, if_pos (by omega), spec_far K (by omega), Option.bind_some]
theorem do_ok {w h o m e d t a b : Int} {G V : List Int} (K : gdok w h o G m e V d = true) : ∃ G' V' d' n, doR w h o G m e V d t a b = (w, h, o, G', m, e, V', d', n) ∧ gdok w h o G' m e V' d' = true := by
  unfold doR
  rw [K, Bool.true_and]
  by_cases A : aok t a b = true
  · rw [if_pos A]
    by_cases h1 : t = 1
    · rw [if_pos h1]
      unfold dayR
      by_cases q : dayOk w h o G m e V d a = true
      · rw [if_pos q]
        unfold dayOk at q
        simp only [Bool.and_eq_true, decide_eq_true_eq, Bool.not_eq_true', beq_eq_false_iff_ne] at q
        exact ⟨_, _, _, _, rfl, (dayR_ok K q.1.2 q.2).2⟩
      · rw [if_neg q]; exact ⟨_, _, _, _, rfl, K⟩
    · rw [if_neg h1]
      by_cases h2 : t = 2
      · rw [if_pos h2]
        unfold entR
        by_cases q : (gdok w h o G m e V d && gdok w h o G m e (V ++ [e]) d) = true
        · rw [if_pos q]; exact ⟨_, _, _, _, rfl, (Bool.and_eq_true _ _ ▸ q).2⟩
        · rw [if_neg q]; exact ⟨_, _, _, _, rfl, K⟩
      · rw [if_neg h2]
        by_cases h3 : t = 3
        · rw [if_pos h3]; unfold wlkR; rw [if_pos K]; exact ⟨_, _, _, _, rfl, wlk_ok K⟩
        · rw [if_neg h3]
          by_cases h4 : t = 4
          · rw [if_pos h4]
            unfold lvR
            split
            · exact ⟨_, _, _, _, rfl, lv_ok K⟩
            · exact ⟨_, _, _, _, rfl, K⟩
          · rw [if_neg h4]
            by_cases h5 : t = 5
            · rw [if_pos h5]
              unfold gdR
              split
              · split
                · exact ⟨_, _, _, _, rfl, K⟩
                · unfold wlkR; rw [if_pos K]; exact ⟨_, _, _, _, rfl, wlk_ok K⟩
              · exact ⟨_, _, _, _, rfl, K⟩
            · rw [if_neg h5]; exact ⟨_, _, _, _, rfl, K⟩
  · rw [if_neg A]; exact ⟨_, _, _, _, rfl, K⟩
abbrev T9l := Int × Int × Int × List Int × Int × Int × List Int × Int × List Int
def runL (w h o m e : Int) : List SAct → List Int → List Int → List Int → Int → T9l
  | [], n, G, V, d => (w, h, o, G, m, e, V, d, n)
  | x :: l, n, G, V, d => runL w h o m e l (n ++ [(doR w h o G m e V d x.f0 x.f1 x.f2).2.2.2.2.2.2.2.2]) (doR w h o G m e V d x.f0 x.f1 x.f2).2.2.2.1 (doR w h o G m e V d x.f0 x.f1 x.f2).2.2.2.2.2.2.1 (doR w h o G m e V d x.f0 x.f1 x.f2).2.2.2.2.2.2.2.1
def runR (w h o : Int) (G : List Int) (m e : Int) (V : List Int) (d : Int) (l : List SAct) : T9l :=
  if (gdok w h o G m e V d && decide (l.length ≤ 40)) = true then runL w h o m e l [] G V d else (w, h, o, G, m, e, V, d, [])
theorem run_ok {w h o m e : Int} : ∀ (l : List SAct) (n G V : List Int) (d : Int), gdok w h o G m e V d = true → ∃ G' V' d' n', runL w h o m e l n G V d = (w, h, o, G', m, e, V', d', n') ∧ gdok w h o G' m e V' d' = true ∧ n'.length = n.length + l.length
  | [], n, G, V, d, K => ⟨G, V, d, n, rfl, K, rfl⟩
  | x :: l, n, G, V, d, K => by
    obtain ⟨G', V', d', n', e1, K'⟩ := do_ok (t := x.f0) (a := x.f1) (b := x.f2) K
    unfold runL
    rw [e1]
    obtain ⟨G2, V2, d2, n2, e2, K2, hn⟩ := run_ok l (n ++ [n']) G' V' d' K'
    exact ⟨G2, V2, d2, n2, e2, K2, by rw [hn]; simp; omega⟩
theorem impl_run {w h o m e : Int} {L : List SAct} (hL : L.length ≤ 40) : ∀ (r i k : Nat) (n G V : List Int) (d : Int), i + r = L.length → r + 3000 ≤ k → n.length ≤ i → gdok w h o G m e V d = true → impl_RunActs.l0 k n L (L.length : Int) (i : Int) w h o G m e V d = some (runL w h o m e (L.drop i) n G V d)
  | 0, i, k, n, G, V, d, hi, hk, hn, K => by
    obtain ⟨k, rfl⟩ : ∃ j, k = j + 1 := ⟨k - 1, by omega⟩
    simp only [impl_RunActs.l0]
    rw [if_neg (by omega), List.drop_of_length_le (by omega)]; rfl
  | r + 1, i, k, n, G, V, d, hi, hk, hn, K => by
    obtain ⟨k, rfl⟩ : ∃ j, k = j + 1 := ⟨k - 1, by omega⟩
    have hil : i < L.length := by omega
    have hl := gdok_len K
    obtain ⟨G', V', d', n', e1, K'⟩ := do_ok (t := L[i].f0) (a := L[i].f1) (b := L[i].f2) K
    have ih := impl_run hL r (i + 1) k (n ++ [n']) G' V' d' (by omega) (by omega) (by simp; omega) K'
    rw [Int.natCast_add] at ih
    have hr : rd_Act L (i : Int) = L[i] := by unfold rd_Act; simp [List.getD_eq_getElem?_getD, List.getElem?_eq_getElem hil]
    simp only [impl_RunActs.l0]
    rw [if_pos (by omega), if_pos (by omega), if_pos (by omega), hr, impl_DoAct_eq (by omega) (by omega) (by omega), Option.bind_some, if_pos (by omega), w64_succ hil (by omega), List.drop_eq_getElem_cons hil]
    unfold runL
    rw [e1]
    exact ih
theorem spec_run {w h o m e : Int} {L : List SAct} (hL : L.length ≤ 40) : ∀ (r i k : Nat) (n G V : List Int) (d : Int), i + r = L.length → r + 3000 ≤ k → n.length ≤ i → gdok w h o G m e V d = true → spec_RunActs.l0 k L n (i : Int) w h o G m e V d = some (runL w h o m e (L.drop i) n G V d)
  | 0, i, k, n, G, V, d, hi, hk, hn, K => by
    obtain ⟨k, rfl⟩ : ∃ j, k = j + 1 := ⟨k - 1, by omega⟩
    simp only [spec_RunActs.l0]
    rw [if_neg (by omega), List.drop_of_length_le (by omega)]; rfl
  | r + 1, i, k, n, G, V, d, hi, hk, hn, K => by
    obtain ⟨k, rfl⟩ : ∃ j, k = j + 1 := ⟨k - 1, by omega⟩
    have hil : i < L.length := by omega
    have hl := gdok_len K
    obtain ⟨G', V', d', n', e1, K'⟩ := do_ok (t := L[i].f0) (a := L[i].f1) (b := L[i].f2) K
    have ih := spec_run hL r (i + 1) k (n ++ [n']) G' V' d' (by omega) (by omega) (by simp; omega) K'
    rw [Int.natCast_add] at ih
    have hr : rd_Act L (i : Int) = L[i] := by unfold rd_Act; simp [List.getD_eq_getElem?_getD, List.getElem?_eq_getElem hil]
    simp only [spec_RunActs.l0]
    rw [if_pos (by omega), if_pos (by omega), hr, spec_DoAct_eq (by omega) (by omega) (by omega), Option.bind_some, if_pos (by omega), w64_succ hil (by omega), List.drop_eq_getElem_cons hil]
    unfold runL
    rw [e1]
    exact ih
theorem impl_RunActs_eq {k : Nat} {G V : List Int} (hG : G.length ≤ 1048576) (hV : V.length ≤ 1048576) (hk : 4000 ≤ k) (w h o m e d : Int) {L : List SAct} : impl_RunActs.f k w h o G m e V d L = some (runR w h o G m e V d L) := by
  obtain ⟨k, rfl⟩ : ∃ j, k = j + 1 := ⟨k - 1, by omega⟩
  unfold impl_RunActs.f runR
  rw [impl_copyGarden_eq (by omega) (by omega), Option.bind_some, impl_GardenOk_eq (by omega), Option.bind_some]
  simp only [impl_RunActs.j0]
  cases K : gdok w h o G m e V d with
  | false => rw [if_neg Bool.false_ne_true, if_pos trivial]; rfl
  | true =>
    rw [if_pos rfl, Bool.true_and]
    by_cases hL : L.length ≤ 40
    · rw [decide_eq_false (by omega), if_neg Bool.false_ne_true, decide_eq_true hL, if_pos rfl]
      exact impl_run hL L.length 0 k [] G V d (by omega) (by omega) (by simp) K
    · rw [decide_eq_true (by omega), if_pos rfl, decide_eq_false hL]; rfl
theorem spec_RunActs_eq {k : Nat} {G V : List Int} (hG : G.length ≤ 1048576) (hV : V.length ≤ 1048576) (hk : G.length + 2 * V.length + 4000 ≤ k) (w h o m e d : Int) {L : List SAct} : spec_RunActs.f k w h o G m e V d L = some (runR w h o G m e V d L) := by
  obtain ⟨k, rfl⟩ : ∃ j, k = j + 1 := ⟨k - 1, by omega⟩
  unfold spec_RunActs.f runR
  rw [spec_l38_eq (by omega) (by omega), Option.bind_some, Option.bind_some, spec_GardenOk_eq hG hV (by omega), Option.bind_some]
  simp only [spec_RunActs.j0]
  cases K : gdok w h o G m e V d with
  | false => rw [if_neg Bool.false_ne_true, if_pos trivial]; rfl
  | true =>
    rw [if_pos rfl, Bool.true_and]
    by_cases hL : L.length ≤ 40
    · rw [decide_eq_false (by omega), if_neg Bool.false_ne_true, decide_eq_true hL, if_pos rfl]
      exact spec_run hL L.length 0 k [] G V d (by omega) (by omega) (by simp) K
    · rw [decide_eq_true (by omega), if_pos rfl, decide_eq_false hL]; rfl
theorem runR_num {w h o m e d : Int} {G V : List Int} {L : List SAct} : (runR w h o G m e V d L).2.2.2.2.2.2.2.2.length ≤ 40 := by
  unfold runR
  split
  · rename_i q
    simp only [Bool.and_eq_true, decide_eq_true_eq] at q
    obtain ⟨G', V', d', n', e1, _, hn⟩ := run_ok (w := w) (h := h) (o := o) (m := m) (e := e) L [] G V d q.1
    rw [e1]; simp only; simp at hn; omega
  · exact Nat.zero_le _
theorem eq_from {a b : List Int} {n i : Nat} (hi : i < a.length) (hj : i < b.length) : (a.drop i == b.drop i) = ((a[i] == b[i]) && (a.drop (i + 1) == b.drop (i + 1))) := by
  rw [List.drop_eq_getElem_cons hi, List.drop_eq_getElem_cons hj]; rfl
theorem slices_Equal_eq {a b : List Int} {k : Nat} (ha : a.length ≤ 1000000000) (hk : a.length + 1 ≤ k) : slices_Equal_int.f k a b = some (a == b) := by
  unfold slices_Equal_int.f
  by_cases hl : a.length = b.length
  · rw [if_pos (by omega)]
    have key : ∀ (d i k : Nat), i + d = a.length → d + 1 ≤ k → slices_Equal_int.l0 k a b (a.length : Int) (i : Int) = some (a.drop i == b.drop i) := by
      intro d
      induction d with
      | zero =>
        intro i k hi hk
        obtain ⟨k, rfl⟩ : ∃ j, k = j + 1 := ⟨k - 1, by omega⟩
        simp only [slices_Equal_int.l0]
        rw [if_neg (by omega), List.drop_of_length_le (by omega), List.drop_of_length_le (by omega)]; rfl
      | succ d ih =>
        intro i k hi hk
        obtain ⟨k, rfl⟩ : ∃ j, k = j + 1 := ⟨k - 1, by omega⟩
        have h1 : i < a.length := by omega
        have h2 : i < b.length := by omega
        have := ih (i + 1) k (by omega) (by omega)
        rw [Int.natCast_add] at this
        simp only [slices_Equal_int.l0]
        rw [if_pos (by omega), if_pos (by omega), if_pos (by omega), if_pos (by omega), rd_nat, rd_nat, List.getD_eq_getElem?_getD, List.getD_eq_getElem?_getD, List.getElem?_eq_getElem h1, List.getElem?_eq_getElem h2, Option.getD_some, Option.getD_some, w64_succ h1 (by omega), eq_from (n := 0) h1 h2]
        by_cases q : a[i] = b[i]
        · rw [if_pos q, show (a[i] == b[i]) = true by simpa using q, Bool.true_and]; exact this
        · rw [if_neg q, show (a[i] == b[i]) = false by simpa using q, Bool.false_and]
    have := key a.length 0 k (by omega) hk
    simpa using this
  · rw [if_neg (by omega), show (a == b) = false by rw [beq_eq_false_iff_ne]; rintro rfl; exact hl rfl]
theorem spec_l39Ints_eq {a b : List Int} {k : Nat} (ha : a.length ≤ 1000000000) (hk : a.length + 1 ≤ k) : spec_l39Ints.f k a b = some (a == b) := by
  unfold spec_l39Ints.f
  by_cases hl : a.length = b.length
  · rw [if_pos (by omega)]
    have key : ∀ (d i k : Nat), i + d = a.length → d + 1 ≤ k → spec_l39Ints.l0 k a b (i : Int) = some (a.drop i == b.drop i) := by
      intro d
      induction d with
      | zero =>
        intro i k hi hk
        obtain ⟨k, rfl⟩ : ∃ j, k = j + 1 := ⟨k - 1, by omega⟩
        simp only [spec_l39Ints.l0]
        rw [if_neg (by omega), List.drop_of_length_le (by omega), List.drop_of_length_le (by omega)]; rfl
      | succ d ih =>
        intro i k hi hk
        obtain ⟨k, rfl⟩ : ∃ j, k = j + 1 := ⟨k - 1, by omega⟩
        have h1 : i < a.length := by omega
        have h2 : i < b.length := by omega
        have := ih (i + 1) k (by omega) (by omega)
        rw [Int.natCast_add] at this
        simp only [spec_l39Ints.l0]
        rw [if_pos (by omega), if_pos (by omega), if_pos (by omega), rd_nat, rd_nat, List.getD_eq_getElem?_getD, List.getD_eq_getElem?_getD, List.getElem?_eq_getElem h1, List.getElem?_eq_getElem h2, Option.getD_some, Option.getD_some, w64_succ h1 (by omega), eq_from (n := 0) h1 h2]
        by_cases q : a[i] = b[i]
        · rw [if_pos q, show (a[i] == b[i]) = true by simpa using q, Bool.true_and]; exact this
        · rw [if_neg q, show (a[i] == b[i]) = false by simpa using q, Bool.false_and]
    have := key a.length 0 k (by omega) hk
    simpa using this
  · rw [if_neg (by omega), show (a == b) = false by rw [beq_eq_false_iff_ne]; rintro rfl; exact hl rfl]
def repR (w h o : Int) (G : List Int) (m e : Int) (V : List Int) (d : Int) (l : List SAct) (n : List Int) : Bool :=
  gdok w h o G m e V d && decide (l.length ≤ 40) && ((runR w h o G m e V d l).2.2.2.2.2.2.2.2 == n)
theorem impl_IsReplay_eq {k : Nat} {G V : List Int} (hG : G.length ≤ 1048576) (hV : V.length ≤ 1048576) (hk : 5000 ≤ k) (w h o m e d : Int) {L : List SAct} {n : List Int} : impl_IsReplay.f k w h o G m e V d L n = some (repR w h o G m e V d L n) := by
  obtain ⟨k, rfl⟩ : ∃ j, k = j + 1 := ⟨k - 1, by omega⟩
  have hr := runR_num (w := w) (h := h) (o := o) (m := m) (e := e) (d := d) (G := G) (V := V) (L := L)
  unfold impl_IsReplay.f repR
  rw [impl_GardenOk_eq (by omega), Option.bind_some]
  simp only [impl_IsReplay.j0]
  cases K : gdok w h o G m e V d with
  | false => rw [if_neg Bool.false_ne_true, if_pos trivial]; rfl
  | true =>
    rw [if_pos rfl, Bool.true_and]
    by_cases hL : L.length ≤ 40
    · rw [decide_eq_false (by omega), if_neg Bool.false_ne_true, decide_eq_true hL, impl_RunActs_eq hG hV (by omega), Option.bind_some, slices_Equal_eq (by omega) (by omega), Option.bind_some, Bool.true_and]
    · rw [decide_eq_true (by omega), if_pos rfl, decide_eq_false hL]; rfl
theorem spec_IsReplay_eq {k : Nat} {G V : List Int} (hG : G.length ≤ 1048576) (hV : V.length ≤ 1048576) (hk : G.length + 2 * V.length + 5000 ≤ k) (w h o m e d : Int) {L : List SAct} {n : List Int} : spec_IsReplay.f k w h o G m e V d L n = some (repR w h o G m e V d L n) := by
  obtain ⟨k, rfl⟩ : ∃ j, k = j + 1 := ⟨k - 1, by omega⟩
  have hr := runR_num (w := w) (h := h) (o := o) (m := m) (e := e) (d := d) (G := G) (V := V) (L := L)
  unfold spec_IsReplay.f repR
  rw [spec_GardenOk_eq hG hV (by omega), Option.bind_some]
  simp only [spec_IsReplay.j0]
  cases K : gdok w h o G m e V d with
  | false => rw [if_neg Bool.false_ne_true, if_pos trivial]; rfl
  | true =>
    rw [if_pos rfl, Bool.true_and]
    by_cases hL : L.length ≤ 40
    · rw [decide_eq_false (by omega), if_neg Bool.false_ne_true, decide_eq_true hL, spec_RunActs_eq hG hV (by omega), Option.bind_some, spec_l39Ints_eq (by omega) (by omega), Option.bind_some, Bool.true_and]
    · rw [decide_eq_true (by omega), if_pos rfl, decide_eq_false hL]; rfl
end Go.Proofs.YtkindoepnganmaaGreat.F
end

section
namespace Go.Proofs.YtkindoepnganmaaGreat.F
open Go.RowKit Go.Proofs.YtkindoepnganmaaGreatW.PrintWords Go.Proofs.YtkindoepnganmaaGreatW.PrintLast Go.Proofs.YtkindoepnganmaaGreatW.PrintMore
set_option linter.unusedVariables false
set_option linter.unusedSimpArgs false
def toA (s : SlaAct) : SAct := ⟨s.f0, s.f1, s.f2⟩
theorem laws_toActS_eq {k : Nat} {l : List SlaAct} (hl : l.length ≤ 1048576) (hk : l.length + 1 ≤ k) : laws_toActS.f k l = some (l.map toA) := by
  unfold laws_toActS.f
  rw [if_pos (by omega), Int.toNat_natCast, if_pos (by omega)]
  exact set_loop (z := zlaAct) (l := l) (F := fun k acc i => laws_toActS.l0 k l acc i) (g := toA) (c := 0)
    (fun k acc i _ hi ha => by
      simp only [laws_toActS.l0]
      rw [if_pos (by omega), if_pos (by omega)]
      simp only [laws_toAct.f, Option.bind_some]
      rw [if_pos (by omega), w64_succ hi (by omega)]
      rfl)
    (fun k acc _ => by simp only [laws_toActS.l0]; rw [if_neg (by omega)]) (List.replicate l.length zAct) (by simp) (by omega)
theorem laws_eqActS_refl {k : Nat} {l : List SAct} (hl : l.length ≤ 9223372036854775806) (hk : l.length + 1 ≤ k) : laws_eqActS.f k l l = some true := by
  unfold laws_eqActS.f
  rw [if_pos rfl]
  have := all_loop (z := zAct) (F := fun k i => laws_eqActS.l0 k l l i) (l := l) (p := fun _ => true) (c := 0) (b := true)
    (fun k i _ hi => by
      simp only [laws_eqActS.l0]
      rw [if_pos (by omega), if_pos (by omega), if_pos (by omega), w64_succ hi (by omega)]
      simp [laws_eqAct.f])
    (fun k _ => by simp only [laws_eqActS.l0]; rw [if_neg (by omega)]) (k := k) (by omega)
  rw [this]
  simp
theorem sz_acts {a : Int} {l : List SlaAct} (h0 : 0 ≤ a) (h1 : a ≤ 1048576) (hl : l.length ≤ 9223372036854775807) : ∃ r, laws_szActS.f l a = some r ∧ (¬ r < 0 → l.length ≤ 1048576) := by
  unfold laws_szActS.f
  rw [w64 (by omega) (by omega)]
  by_cases h : a - (l.length : Int) < 0
  · rw [if_pos h]; exact ⟨_, rfl, fun h => by omega⟩
  · rw [if_neg h]; exact ⟨_, rfl, fun _ => by omega⟩
theorem sz_garden2 {G V : List Int} (hG : G.length ≤ 9223372036854775807) (hV : V.length ≤ 9223372036854775807) (w h o m e d : Int) : ∃ r, laws_szGarden.f w h o G m e V d 1048576 = some r ∧ (¬ r < 0 → 0 ≤ r ∧ r ≤ 1048576 ∧ G.length ≤ 1048576 ∧ V.length ≤ 1048576) := by
  unfold laws_szGarden.f laws_szHedge.f
  rw [sz_ints (by omega) (by omega) hG, Option.bind_some]
  by_cases h1 : (G.length : Int) ≤ 1048576
  · rw [if_pos h1, if_neg (by omega), Option.bind_some, if_neg (by omega), sz_ints (by omega) (by omega) hV, Option.bind_some]
    by_cases h2 : (V.length : Int) ≤ 1048576 - G.length
    · rw [if_pos h2, if_neg (by omega)]; exact ⟨_, rfl, fun _ => by omega⟩
    · rw [if_neg h2, if_pos (by omega)]; exact ⟨_, rfl, fun h => by omega⟩
  · rw [if_neg h1, if_pos (by omega), Option.bind_some, if_pos (by omega)]; exact ⟨_, rfl, fun h => by omega⟩
end Go.Proofs.YtkindoepnganmaaGreat.F
end

section
namespace Go.Proofs.YtkindoepnganmaaGreat.F
open Go.RowKit Go.Proofs.YtkindoepnganmaaGreatW.PrintWords Go.Proofs.YtkindoepnganmaaGreatW.PrintLast Go.Proofs.YtkindoepnganmaaGreatW.PrintMore
set_option linter.unusedVariables false
set_option linter.unusedSimpArgs false
theorem FnExactIsReplay_pure : ∀ (a0_0 : Int) (a0_1 : Int) (a0_2 : Int) (l0_3 : List (Int)) (a0_4 : Int) (a0_5 : Int) (l0_6 : List (Int)) (a0_7 : Int) (l1 : List (SlaAct)) (l2 : List (Int)), (I64 (a0_0)) → (I64 (a0_1)) → (I64 (a0_2)) → ((l0_3).length ≤ 9223372036854775807 ∧ ∀ y ∈ l0_3, I64 (y)) → (I64 (a0_4)) → (I64 (a0_5)) → ((l0_6).length ≤ 9223372036854775807 ∧ ∀ y ∈ l0_6, I64 (y)) → (I64 (a0_7)) → ((l1).length ≤ 9223372036854775807 ∧ ∀ y ∈ l1, (I64 (y.f0)) ∧ (I64 (y.f1)) ∧ (I64 (y.f2))) → ((l2).length ≤ 9223372036854775807 ∧ ∀ y ∈ l2, I64 (y)) → ∃ k, laws_FnExactIsReplay.f k a0_0 a0_1 a0_2 l0_3 a0_4 a0_5 l0_6 a0_7 l1 l2 = some true := by
  intro w h o G m e V d L n _ _ _ hG _ _ hV _ hL hn
  obtain ⟨K, hK⟩ : ∃ K, K = G.length + 2 * V.length + 4000000 := ⟨_, rfl⟩
  refine ⟨K, ?_⟩
  unfold laws_FnExactIsReplay.f
  by_cases h0 : (n.length : Int) > 1048576
  · rw [if_pos h0]
  · rw [if_neg h0]
    obtain ⟨r, e1, e2⟩ := sz_garden2 hG.1 hV.1 w h o m e d
    rw [e1, Option.bind_some]
    by_cases hr : r < 0
    · rw [if_pos hr]
    · obtain ⟨r0, r1, g1, g2⟩ := e2 hr
      obtain ⟨s, e3, e4⟩ := sz_acts r0 r1 hL.1
      rw [if_neg hr, e3, Option.bind_some]
      by_cases hs : s < 0
      · rw [if_pos hs]
      · have g3 := e4 hs
        rw [if_neg hs]
        have tG : laws_toGarden.f K w h o G m e V d = some (w, h, o, G, m, e, V, d) := laws_toGarden_eq g1 g2 (by omega) w h o m e d
        have tA : laws_toActS.f K L = some (L.map toA) := laws_toActS_eq g3 (by omega)
        have tI : laws_toIntS.f K n = some n := laws_toIntS_eq (by omega) (by omega)
        have eA : laws_eqGarden.f K w h o G m e V d w h o G m e V d = some true := laws_eqGarden_refl (by omega) (by omega) (by omega) w h o m e d
        have eL : laws_eqActS.f K (L.map toA) (L.map toA) = some true := laws_eqActS_refl (by simp; omega) (by simp; omega)
        have eI : laws_eqIntS.f K n n = some true := laws_eqIntS_refl (by omega) (by omega)
        have sp : spec_IsReplay.f K w h o G m e V d (L.map toA) n = some (repR w h o G m e V d (L.map toA) n) := spec_IsReplay_eq g1 g2 (by omega) w h o m e d
        have im : impl_IsReplay.f K w h o G m e V d (L.map toA) n = some (repR w h o G m e V d (L.map toA) n) := impl_IsReplay_eq g1 g2 (by omega) w h o m e d
        simp only [tG, tA, tI, eA, eL, eI, sp, im, Option.bind_some, if_true, if_false, bne_self_eq_false, Bool.false_eq_true]
end Go.Proofs.YtkindoepnganmaaGreat.F
end
