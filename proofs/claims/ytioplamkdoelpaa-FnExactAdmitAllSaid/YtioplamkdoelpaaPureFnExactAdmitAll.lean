/- For all tickets, the program's AdmitAll and the reference's tell the same list, in memory of its own. -/
import Derived.Test.YtioplamkdoelpaaPT4
import Derived.Test.YtioplamkdoelpaaDLFnExactAdmitAll
import Derived.Test.YtioplamkdoelpaaDx8a5191
import Derived.Test.YtioplamkdoelpaaDxdf8394
namespace Go.Proofs.Ytioplamkdoelpaa.F
open Go.RowKit Go.Proofs.YtioplamkdoelpaaW.PrintWords Go.Proofs.YtioplamkdoelpaaW.PrintLast Go.Proofs.YtioplamkdoelpaaW.PrintMore
set_option linter.unusedVariables false
set_option linter.unusedSimpArgs false

theorem FnExactAdmitAll_pure : ∀ (l0 : List (SlaTicket)) (a1 : Int), ((l0).length ≤ 9223372036854775807 ∧ ∀ y ∈ l0, (I64 (y.f0)) ∧ (I64 (y.f1))) → (I64 (a1)) → ∃ k, laws_FnExactAdmitAll.f k l0 a1 = some true := by
  intro l m hl _
  by_cases h : l.length ≤ 1048576
  · obtain ⟨k, hk⟩ : ∃ k, k = 4 * l.length + 100 := ⟨_, rfl⟩
    refine ⟨k + 1, ?_⟩
    have ht : ∀ k', k ≤ k' → laws_toTicketS.f k' l = some (l.map toT) := fun k' h' => laws_toTicketS_eq h (by omega)
    have hn := admAll_length (l.map toT) m
    have hs : ∀ k', k ≤ k' → spec_AdmitAll.f k' (l.map toT) m = some (admAll (l.map toT) m) := fun k' h' => spec_AdmitAll_eq (by simpa using h) (by simp; omega) m
    have hi : ∀ k', k ≤ k' → impl_AdmitAll.f k' (l.map toT) m = some (admAll (l.map toT) m) := fun k' h' => impl_AdmitAll_eq (by simpa using h) (by simp; omega) m
    have he : ∀ k', k ≤ k' → laws_eqIntS.f k' (admAll (l.map toT) m) (admAll (l.map toT) m) = some true := fun k' h' => laws_eqIntS_refl (by omega) (by omega)
    have hq : laws_eqTicketS.f (k + 1) (l.map toT) (l.map toT) = some true := laws_eqTicketS_refl (by simp; omega) (by simp; omega)
    obtain ⟨l', e1, e2, e3⟩ := mark_held (k := k) (l := admAll (l.map toT) m) (a := 1) (by decide) (by decide) (by omega) (by omega)
    obtain ⟨lt, hm⟩ := laws_markTicketS_eq (k := k + 1) (l := l.map toT) (a := 1) (by decide) (by decide) (by simpa using h) (by simp; omega)
    unfold laws_FnExactAdmitAll.f
    rw [sz_Ticket hl.1, Option.bind_some, if_pos h, if_neg (by omega), ht _ (by omega)]
    simp only [Option.bind_some]
    rw [hs _ (by omega), hi _ (by omega)]
    simp only [Option.bind_some]
    rw [he _ (by omega)]
    simp only [Option.bind_some, if_true]
    rw [hq, hm]
    simp only [Option.bind_some, if_true]
    rw [if_neg (by simp; omega)]
    simp only [Bool.not_true, laws_FnExactAdmitAll.j0, Bool.false_eq_true, if_false, e1, Option.bind_some, e3 k (by omega)]
    have hn' : ¬ (1 + ((admAll (l.map toT) m).length : Int) < 0) := by omega
    rw [if_neg hn', if_true, ht _ (Nat.le_refl _)]
    simp only [Option.bind_some]
    rw [hi _ (Nat.le_refl _)]
    simp only [Option.bind_some]
    rw [he _ (Nat.le_refl _)]
    simp only [Option.bind_some, if_true, if_neg hn']
  · refine ⟨0, ?_⟩
    unfold laws_FnExactAdmitAll.f
    rw [sz_Ticket hl.1, Option.bind_some, if_neg h, if_pos (by omega)]
end Go.Proofs.Ytioplamkdoelpaa.F
