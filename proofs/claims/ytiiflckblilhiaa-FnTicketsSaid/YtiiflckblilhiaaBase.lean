/- Plain words of the session's own, over lists and whole numbers. -/
import Derived.Test.YtiiflckblilhiaaWMore
namespace Go.Proofs.Ytiiflckblilhiaa.F
open Go.RowKit Go.Proofs.YtiiflckblilhiaaW.PrintWords Go.Proofs.YtiiflckblilhiaaW.PrintLast Go.Proofs.YtiiflckblilhiaaW.PrintMore
set_option linter.unusedVariables false
set_option linter.unusedSimpArgs false

/-- A number of 64 bits. -/
def I64 (n : Int) : Prop := -9223372036854775808 ≤ n ∧ n ≤ 9223372036854775807

/-- The index of the first element of which p holds, or -1. -/
def idxF {α : Type} (p : α → Bool) (l : List α) : Int := match l.findIdx? p with
  | some i => (i : Int)
  | none => -1
theorem idxF_hit {α : Type} {z : α} (p : α → Bool) (l : List α) (k : Nat) (hlt : k < l.length) (h : p (l.getD k z) = true) (hm : ∀ j, j < k → p (l.getD j z) = false) : idxF p l = k := by
  unfold idxF
  have e : ∀ j (hj : j < l.length), l.getD j z = l[j] := fun j hj => by rw [List.getD_eq_getElem?_getD, List.getElem?_eq_getElem hj]; rfl
  have : l.findIdx? p = some k := by
    rw [List.findIdx?_eq_some_iff_getElem]
    refine ⟨hlt, by rw [← e k hlt]; exact h, fun j hj => ?_⟩
    rw [← e j (by omega), hm j hj]
    simp
  rw [this]
theorem idxF_miss {α : Type} {z : α} (p : α → Bool) (l : List α) (hm : ∀ j, j < l.length → p (l.getD j z) = false) : idxF p l = -1 := by
  unfold idxF
  have : l.findIdx? p = none := by
    rw [List.findIdx?_eq_none_iff]
    intro x hx
    obtain ⟨j, hj, rfl⟩ := List.getElem_of_mem hx
    have := hm j hj
    rwa [List.getD_eq_getElem?_getD, List.getElem?_eq_getElem hj] at this
  rw [this]
theorem idxF_any {α : Type} (p : α → Bool) (l : List α) : decide (0 ≤ idxF p l) = l.any p := by
  unfold idxF
  cases h : l.findIdx? p with
  | some i =>
    rw [List.findIdx?_eq_some_iff_getElem] at h
    obtain ⟨hi, hp, _⟩ := h
    have : l.any p = true := List.any_eq_true.2 ⟨l[i], List.getElem_mem hi, hp⟩
    rw [this]
    simp
  | none =>
    rw [List.findIdx?_eq_none_iff] at h
    have : l.any p = false := by
      rw [List.any_eq_false]
      intro x hx
      rw [h x hx]
      simp
    rw [this]
    simp
theorem rd_nat (l : List Int) (j : Nat) : rd l (j : Int) = l.getD j 0 := rfl
theorem rd_mem {l : List Int} {j : Nat} (h : j < l.length) : rd l (j : Int) ∈ l := by
  rw [rd_nat, List.getD_eq_getElem?_getD, List.getElem?_eq_getElem h]
  exact List.getElem_mem h

/-- Of all elements: none where one of the answers is none. -/
def allO {α : Type} (f : α → Option Bool) (l : List α) : Option Bool := (l.mapM f).bind fun bs => some (bs.all id)
theorem allO_some {α : Type} {f : α → Option Bool} : ∀ {l : List α} {r : Bool}, allO f l = some r → (∀ x ∈ l, ∃ v, f x = some v) ∧ r = !(l.any fun x => !((f x).getD false)) := by
  intro l
  unfold allO
  induction l with
  | nil => intro r h; simp at h; simp [h]
  | cons x l ih =>
    intro r h
    rw [List.mapM_cons] at h
    obtain ⟨bs, h1, h2⟩ := Option.bind_eq_some_iff.1 h
    obtain ⟨v, hv, h3⟩ := Option.bind_eq_some_iff.1 h1
    obtain ⟨vs, hvs, h4⟩ := Option.bind_eq_some_iff.1 h3
    simp at h4 h2
    subst h4
    obtain ⟨i1, i2⟩ := ih (r := vs.all id) (by rw [hvs]; rfl)
    refine ⟨fun y hy => ?_, ?_⟩
    · rcases List.mem_cons.1 hy with rfl | hy
      · exact ⟨v, hv⟩
      · exact i1 y hy
    · simp only [List.any_cons, hv, Option.getD_some, ← h2, List.all_cons, id]
      have i3 : (vs.all fun x => x) = vs.all id := rfl
      rw [Bool.not_or, Bool.not_not, ← i2]
theorem allO_of {α : Type} {f : α → Option Bool} {p : α → Bool} : ∀ {l : List α}, (∀ x ∈ l, f x = some (p x)) → allO f l = some (l.all p) := by
  intro l
  unfold allO
  induction l with
  | nil => intro _; rfl
  | cons x l ih =>
    intro h
    have i1 := ih (fun y hy => h y (List.mem_cons_of_mem _ hy))
    obtain ⟨vs, hvs, h4⟩ := Option.bind_eq_some_iff.1 i1
    rw [List.mapM_cons, h x (List.mem_cons_self ..), hvs]
    simp at h4
    simp [h4]
end Go.Proofs.Ytiiflckblilhiaa.F
