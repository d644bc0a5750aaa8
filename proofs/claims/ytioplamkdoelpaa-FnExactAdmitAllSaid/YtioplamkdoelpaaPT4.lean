/- Tickets: all that may come in, one after the other. -/
import Derived.Test.YtioplamkdoelpaaPT3
import Derived.Test.YtioplamkdoelpaaPI
import Derived.Test.YtioplamkdoelpaaDxdf8394
namespace Go.Proofs.Ytioplamkdoelpaa.F
open Go.RowKit Go.Proofs.YtioplamkdoelpaaW.PrintWords Go.Proofs.YtioplamkdoelpaaW.PrintLast Go.Proofs.YtioplamkdoelpaaW.PrintMore
set_option linter.unusedVariables false
set_option linter.unusedSimpArgs false

def admStep (m : Int) (l : List STicket) (s : List Int × List STicket) (i : Nat) : List Int × List STicket := if canT s.2 (l.getD i zTicket) m then (s.1 ++ [(i : Int)], s.2 ++ [l.getD i zTicket]) else s
def admAll (l : List STicket) (m : Int) : List Int := if l.length ≤ 40 then ((List.range' 0 l.length).foldl (admStep m l) ([], [])).1 else []
theorem adm_inv (m : Int) (l : List STicket) (s : List Int × List STicket) (i : Nat) (h : s.1.length ≤ i ∧ s.2.length ≤ i) : (admStep m l s i).1.length ≤ i + 1 ∧ (admStep m l s i).2.length ≤ i + 1 := by
  unfold admStep
  split
  · simp only [List.length_append, List.length_singleton]; omega
  · omega
theorem admAll_length (l : List STicket) (m : Int) : (admAll l m).length ≤ 40 := by
  unfold admAll
  by_cases h : l.length ≤ 40
  · rw [if_pos h]
    have : ∀ (d i : Nat) (s : List Int × List STicket), s.1.length ≤ i ∧ s.2.length ≤ i → ((List.range' i d).foldl (admStep m l) s).1.length ≤ i + d := by
      intro d
      induction d with
      | zero => intro i s h; simpa using h.1
      | succ d ih => intro i s h; rw [List.range'_succ, List.foldl_cons]; have := ih (i + 1) _ (adm_inv m l s i h); omega
    have := this l.length 0 ([], []) ⟨Nat.le_refl _, Nat.le_refl _⟩
    omega
  · rw [if_neg h]; exact Nat.zero_le _
theorem impl_AdmitAll_eq {k : Nat} {l : List STicket} (hl : l.length ≤ 1048576) (hk : 3 * l.length + 10 ≤ k) (m : Int) : impl_AdmitAll.f k l m = some (admAll l m) := by
  unfold impl_AdmitAll.f admAll
  by_cases h : l.length ≤ 40
  · rw [if_neg (by omega), if_pos h]
    exact fold_loop (n := l.length) (c := 2 * l.length + 6) (F := fun k (s : List Int × List STicket) i => impl_AdmitAll.l0 k m s.1 s.2 l (l.length : Int) i) (step := admStep m l) (fin := fun s => s.1) (I := fun s i => s.1.length ≤ i ∧ s.2.length ≤ i)
      (fun k s i hk hi hs => by
        simp only [impl_AdmitAll.l0]
        rw [if_pos (by omega), if_pos (by omega), if_pos (by omega), impl_CanAdmit_eq (by omega) (by omega), Option.bind_some, w64_succ hi (by omega)]
        unfold admStep
        show _ = _
        cases hc : canT s.2 (l.getD i zTicket) m with
        | true =>
          rw [if_pos (show canT s.2 (rd_Ticket l i) m = true from hc)]
          simp only [Option.bind_some, List.length_singleton]
          rw [if_pos (by omega), if_pos (by omega)]
          rfl
        | false =>
          rw [if_neg (by rw [show canT s.2 (rd_Ticket l i) m = false from hc]; decide)]
          rfl)
      (fun s i _ hs => adm_inv m l s i hs)
      (fun k s _ _ => by simp only [impl_AdmitAll.l0]; rw [if_neg (by omega)]) l.length 0 k ([], []) (by omega) (by omega) ⟨Nat.le_refl _, Nat.le_refl _⟩
  · rw [if_pos (by omega), if_neg h]
theorem spec_AdmitAll_eq {k : Nat} {l : List STicket} (hl : l.length ≤ 1048576) (hk : 4 * l.length + 20 ≤ k) (m : Int) : spec_AdmitAll.f k l m = some (admAll l m) := by
  refine at_rounds (g := fun k => spec_AdmitAll.f k l m) (fun k => spec_AdmitAll.mono l m k) (k := 2 * (l.length + 1) + (2 * l.length + 8)) (by omega) ?_
  show spec_AdmitAll.f _ l m = _
  unfold spec_AdmitAll.f admAll
  by_cases h : l.length ≤ 40
  · rw [if_pos h]
    exact fold_loop (n := l.length) (c := 0) (F := fun k (s : List Int × List STicket) i => spec_AdmitAll.l0 (2 * k + (2 * l.length + 8)) l m s.1 s.2 i) (step := admStep m l) (fin := fun s => s.1) (I := fun s i => s.1.length ≤ i ∧ s.2.length ≤ i)
      (fun k s i hk hi hs => by
        rw [show 2 * (k + 1) + (2 * l.length + 8) = (2 * k + (2 * l.length + 8)) + 1 + 1 by omega]
        obtain ⟨q, hq⟩ : ∃ q, q = 2 * k + (2 * l.length + 8) := ⟨_, rfl⟩
        rw [← hq]
        have hq2 : 2 * l.length + 8 ≤ q := by omega
        clear hq
        simp only [spec_AdmitAll.l0, spec_AdmitAll.j1]
        rw [if_pos (by omega), if_pos (by simp; omega), if_pos (by omega), if_pos (by omega), spec_CanAdmit_eq (by omega) (by omega), Option.bind_some, w64_succ hi (by omega)]
        unfold admStep
        cases hc : canT s.2 (l.getD i zTicket) m with
        | true =>
          rw [if_pos (show canT s.2 (rd_Ticket l i) m = true from hc)]
          rw [if_pos (by omega), if_pos (by omega)]
          rfl
        | false =>
          rw [if_neg (by rw [show canT s.2 (rd_Ticket l i) m = false from hc]; decide)]
          rfl)
      (fun s i _ hs => adm_inv m l s i hs)
      (fun k s _ _ => by
        rw [show 2 * (k + 1) + (2 * l.length + 8) = (2 * k + (2 * l.length + 8)) + 1 + 1 by omega]
        obtain ⟨q, hq⟩ : ∃ q, q = 2 * k + (2 * l.length + 8) := ⟨_, rfl⟩
        rw [← hq]
        simp only [spec_AdmitAll.l0, spec_AdmitAll.j1]
        rw [if_neg (by omega)]
        simp) l.length 0 (l.length + 1) ([], []) (by omega) (by omega) ⟨Nat.le_refl _, Nat.le_refl _⟩
  · rw [if_neg h]
    rw [show 2 * (l.length + 1) + (2 * l.length + 8) = (2 * l.length + (2 * l.length + 8)) + 1 + 1 by omega]
    obtain ⟨q, hq⟩ : ∃ q, q = 2 * l.length + (2 * l.length + 8) := ⟨_, rfl⟩
    rw [← hq]
    simp only [spec_AdmitAll.l0, spec_AdmitAll.j1]
    rw [if_pos (by omega), if_neg (by simp; omega)]
theorem laws_markTicketS_eq {k : Nat} {l : List STicket} {a : Int} (h0 : 0 ≤ a) (h1 : a ≤ 1000000000) (hl : l.length ≤ 1048576) (hk : l.length + 1 ≤ k) : ∃ l', laws_markTicketS.f k l a = some (a + 2 * l.length, l') := by
  obtain ⟨s, ⟨e1, e2⟩, e4⟩ := inv_loop (n := l.length) (c := 0) (F := fun k (s : List STicket × Int) i => laws_markTicketS.l0 k s.1 s.2 i) (fin := fun s => (s.2, s.1))
    (I := fun s i => s.1.length = l.length ∧ s.2 = a + 2 * i)
    (fun k s i _ hi ⟨i1, i2⟩ => by
      obtain ⟨y, hy⟩ : ∃ y : List STicket, y = s.1.set i ⟨s.2, (rd_Ticket s.1 (i : Int)).f1⟩ := ⟨_, rfl⟩
      refine ⟨(y.set i ⟨(rd_Ticket y (i : Int)).f0, s.2 + 1⟩, s.2 + 2), ⟨by rw [hy]; simpa using i1, by simp only; omega⟩, ?_⟩
      simp only [laws_markTicketS.l0]
      rw [if_pos (by omega), if_pos (by omega), Option.bind_some, w64_succ hi (by omega), w64 (x := s.2 + 1) (by omega) (by omega), w64 (by omega) (by omega), show s.2 + 1 + 1 = s.2 + 2 by omega, Int.toNat_natCast, ← hy])
    (fun k s _ h => by
      simp only [laws_markTicketS.l0]
      rw [if_neg (by omega)]) l.length 0 k (l, a) (by omega) (by omega) ⟨rfl, by simp⟩
  refine ⟨s.1, ?_⟩
  rw [← e2]
  exact e4
end Go.Proofs.Ytioplamkdoelpaa.F
