/- What the exact laws do with lists of whole numbers: copies, comparisons, marks. -/
import Derived.Test.YtiiflckblilhiaaP0
import Derived.Test.YtiiflckblilhiaaDx250f53
import Derived.Test.YtiiflckblilhiaaDx2dff9c
import Derived.Test.YtiiflckblilhiaaDx7fb8f2
namespace Go.Proofs.Ytiiflckblilhiaa.F
open Go.RowKit Go.Proofs.YtiiflckblilhiaaW.PrintWords Go.Proofs.YtiiflckblilhiaaW.PrintLast Go.Proofs.YtiiflckblilhiaaW.PrintMore
set_option linter.unusedVariables false
set_option linter.unusedSimpArgs false

theorem laws_toIntS_eq {k : Nat} {l : List Int} (hl : l.length ≤ 1048576) (hk : l.length + 1 ≤ k) : laws_toIntS.f k l = some l := by
  unfold laws_toIntS.f
  rw [if_pos (by omega), if_pos (by omega)]
  have := set_loop (c := 0) (0 : Int) (F := fun k acc i => laws_toIntS.l0 k l acc i) (l := l) (g := id) (k := k)
    (fun k acc i _ hi ha => by
      simp only [laws_toIntS.l0]
      rw [if_pos (by omega), if_pos (by omega), if_pos (by omega), w64_succ hi (by omega)]
      rfl)
    (fun k acc _ => by
      simp only [laws_toIntS.l0]
      rw [if_neg (by omega)]) (List.replicate (l.length : Int).toNat 0) (by simp) (by omega)
  simpa using this
theorem laws_eqIntS_refl {k : Nat} {l : List Int} (hl : l.length ≤ 9223372036854775806) (hk : l.length + 1 ≤ k) : laws_eqIntS.f k l l = some true := by
  unfold laws_eqIntS.f
  rw [if_pos rfl]
  have := all_loop (c := 0) (0 : Int) (F := fun k i => laws_eqIntS.l0 k l l i) (p := fun _ => true) (b := true)
    (fun k i _ hi => by
      simp only [laws_eqIntS.l0]
      rw [if_pos (by omega), if_pos (by omega), if_pos (by omega), w64_succ hi (by omega)]
      all_goals simp)
    (fun k _ => by simp only [laws_eqIntS.l0]; rw [if_neg (by omega)]) hk
  rw [this]
  congr 1
  simp only [Bool.and_true, List.all_eq_true, implies_true]
/-- The marks 1, 2, .. -/
theorem mark_held {k : Nat} {l : List Int} {a : Int} (h0 : 0 ≤ a) (h1 : a ≤ 1000000000) (hl : l.length ≤ 1000000000) (hk : l.length + 1 ≤ k) :
    ∃ l', laws_markIntS.f k l a = some (a + l.length, l') ∧ l'.length = l.length ∧ ∀ k', l.length + 1 ≤ k' → laws_heldIntS.f k' l' a = some (a + l.length) := by
  obtain ⟨s, ⟨e1, e2, e3⟩, e4⟩ := inv_loop (n := l.length) (c := 0) (F := fun k (s : List Int × Int) i => laws_markIntS.l0 k s.1 s.2 i) (fin := fun s => (s.2, s.1))
    (I := fun s i => s.1.length = l.length ∧ s.2 = a + i ∧ ∀ j : Nat, j < i → rd s.1 (j : Int) = a + j)
    (fun k s i _ hi ⟨i1, i2, i3⟩ => ⟨(s.1.set i s.2, s.2 + 1), ⟨by simpa using i1, by simp only; omega, fun j hj => by
        rw [rd_nat, List.getD_eq_getElem?_getD, List.getElem?_set]
        by_cases e : i = j
        · subst e
          rw [if_pos rfl, if_pos (by omega)]
          simpa using i2
        · rw [if_neg e]
          have := i3 j (by omega)
          rwa [rd_nat, List.getD_eq_getElem?_getD] at this⟩, by
        simp only [laws_markIntS.l0]
        rw [if_pos (by omega), if_pos (by omega), w64_succ hi (by omega), w64 (by omega) (by omega)]
        rfl⟩)
    (fun k s _ h => by
      simp only [laws_markIntS.l0]
      rw [if_neg (by omega)]) l.length 0 k (l, a) (by omega) (by omega) ⟨rfl, by simp, fun j hj => by omega⟩
  refine ⟨s.1, ?_, e1, fun k' hk' => ?_⟩
  · rw [← e2]
    exact e4
  · obtain ⟨s', e5, e6⟩ := inv_loop (n := l.length) (c := 0) (F := fun k (x : Int) i => laws_heldIntS.l0 k s.1 x i) (fin := fun x => x) (I := fun x i => x = a + i)
      (fun k x i _ hi hx => ⟨x + 1, by omega, by
        simp only [laws_heldIntS.l0]
        rw [if_pos (by omega), if_pos (by omega), if_pos (by rw [e3 i hi, hx]), w64_succ hi (by omega), w64 (by omega) (by omega)]⟩)
      (fun k x _ _ => by
        simp only [laws_heldIntS.l0]
        rw [if_neg (by omega)]) l.length 0 k' a (by omega) (by omega) (by simp)
    rw [e5] at e6
    exact e6
end Go.Proofs.Ytiiflckblilhiaa.F
