/- The reference's drawn tickets. -/
import Derived.Test.YtiiflckblilhiaaPD
import Derived.Test.YtiiflckblilhiaaPT
import Derived.Test.YtiiflckblilhiaaDxa115a5
namespace Go.Proofs.Ytiiflckblilhiaa.F
open Go.RowKit Go.Proofs.YtiiflckblilhiaaW.PrintWords Go.Proofs.YtiiflckblilhiaaW.PrintLast Go.Proofs.YtiiflckblilhiaaW.PrintMore
set_option linter.unusedVariables false
set_option linter.unusedSimpArgs false

def dtok (x : STicket) : Prop := 0 ≤ x.f0 ∧ x.f0 ≤ 19 ∧ x.f0 < x.f1 ∧ x.f1 ≤ 40
theorem ticket_draw {l : List Int} {i h : Int} (hi : 0 ≤ i) (hl : l.length ≤ 1048576) : ∃ (a b i' h' : Int), spec_l35Ticket.f l i h = some (a, b, i', h') ∧ dtok ⟨a, b⟩ ∧ 0 ≤ i' := by
  unfold spec_l35Ticket.f
  obtain ⟨a, i1, h1, e1, a0, a1, j1⟩ := below_draw (h := h) hi hl (n := 20) (by decide) (by decide)
  obtain ⟨b, i2, h2, e2, b0, b1, j2⟩ := below_draw (h := h1) j1 hl (n := 8) (by decide) (by decide)
  rw [e1]
  simp only [Option.bind_some]
  rw [e2]
  simp only [Option.bind_some]
  refine ⟨_, _, _, _, rfl, ?_, j2⟩
  rw [w64 (x := a + 1) (by omega) (by omega), w64 (x := a + 1 + b) (by omega) (by omega)]
  exact ⟨by simp only; omega, by simp only; omega, by simp only; omega, by simp only; omega⟩
theorem tickets_draw {k : Nat} {l : List Int} (hl : l.length ≤ 1048576) (hk : l.length + 20 ≤ k) : ∃ t, spec_DrawTickets.f k l = some t ∧ t.length ≤ 8 ∧ ∀ x ∈ t, dtok x := by
  obtain ⟨h, e⟩ := new_draw hl (k := k) (by omega)
  unfold spec_DrawTickets.f spec_l35List.f
  rw [e]
  simp only [Option.bind_some]
  obtain ⟨n, i1, h1, e1, n0, n1, j1⟩ := below_draw (l := l) (i := 0) (h := h) (by decide) hl (n := 9) (by decide) (by decide)
  rw [e1]
  simp only [Option.bind_some]
  obtain ⟨m, rfl⟩ : ∃ m : Nat, (m : Int) = n := ⟨n.toNat, by omega⟩
  obtain ⟨s, ⟨p1, p2, p3⟩, q⟩ := inv_loop (n := m) (c := 0) (F := fun k (s : List STicket × Int × Int) i => spec_l35List.l0 k s.1 (m : Int) i l s.2.1 s.2.2) (fin := fun s => (s.1, s.2.1, s.2.2)) (I := fun s i => s.1.length = i ∧ (∀ x ∈ s.1, dtok x) ∧ 0 ≤ s.2.1)
    (fun k s i _ hi ⟨p1, p2, p3⟩ => by
      obtain ⟨a, b, i', h', e, d, j⟩ := ticket_draw (h := s.2.2) p3 hl
      refine ⟨(s.1 ++ [⟨a, b⟩], i', h'), ⟨by simp; omega, fun x hx => ?_, j⟩, ?_⟩
      · rcases List.mem_append.1 hx with hx | hx
        · exact p2 x hx
        · rw [List.mem_singleton.1 hx]; exact d
      · simp only [spec_l35List.l0]
        rw [if_pos (by omega), e, Option.bind_some, if_pos (by omega), w64_succ hi (by omega)])
    (fun k s _ _ => by
      simp only [spec_l35List.l0]
      rw [if_neg (by omega)]) m 0 k ([], i1, h1) (by omega) (by omega) ⟨rfl, by simp, j1⟩
  refine ⟨s.1, ?_, by omega, p2⟩
  have q' : spec_l35List.l0 k [] (m : Int) 0 l i1 h1 = some (s.1, s.2.1, s.2.2) := q
  rw [q']
  rfl
end Go.Proofs.Ytiiflckblilhiaa.F
