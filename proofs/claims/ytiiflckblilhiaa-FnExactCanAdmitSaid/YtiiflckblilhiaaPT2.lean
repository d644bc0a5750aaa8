/- Tickets: the greatest number inside. -/
import Derived.Test.YtiiflckblilhiaaPT
import Derived.Test.YtiiflckblilhiaaDx1caa52
import Derived.Test.YtiiflckblilhiaaDx3d1d2a
import Derived.Test.YtiiflckblilhiaaDx46d74b
namespace Go.Proofs.Ytiiflckblilhiaa.F
open Go.RowKit Go.Proofs.YtiiflckblilhiaaW.PrintWords Go.Proofs.YtiiflckblilhiaaW.PrintLast Go.Proofs.YtiiflckblilhiaaW.PrintMore
set_option linter.unusedVariables false
set_option linter.unusedSimpArgs false

theorem impl_areTickets_eq (l : List STicket) : impl_areTickets.f l = some (l.all tok) := by
  unfold impl_areTickets.f
  exact allO_of fun x _ => impl_TicketOk_eq x
theorem spec_l35Ok_eq {k : Nat} {l : List STicket} (hl : l.length ≤ 9223372036854775806) (hk : l.length + 1 ≤ k) : spec_l35Ok.f k l = some (l.all tok) := by
  unfold spec_l35Ok.f
  have := all_loop (c := 0) zTicket (F := fun k i => spec_l35Ok.l0 k l i) (p := tok) (b := true)
    (fun k i _ hi => by
      simp only [spec_l35Ok.l0, spec_TicketOk_eq, Option.bind_some]
      rw [if_pos (by omega), if_pos (by omega), w64_succ hi (by omega)]
      rfl)
    (fun k _ => by simp only [spec_l35Ok.l0]; rw [if_neg (by omega)]) hk
  rw [this]
  simp
def mostStep (l : List STicket) (s : Int × Int) (x : STicket) : Int × Int :=
  if inside l x.f0 > s.1 then (inside l x.f0, x.f0) else if inside l x.f0 = s.1 ∧ x.f0 < s.2 then (inside l x.f0, x.f0) else s
def mostT (l : List STicket) : Int × Int := l.foldl (mostStep l) (0, 0)
theorem impl_most_eq {k : Nat} {l : List STicket} (hl : l.length ≤ 9223372036854775806) (hk : 2 * l.length + 2 ≤ k) : impl_most.f k l = some (mostT l) := by
  unfold impl_most.f
  have := list_loop (c := l.length + 1) zTicket (F := fun k (s : Int × Int) i => impl_most.l0 k l s.1 s.2 l (l.length : Int) i) (l := l) (step := mostStep l) (fin := id)
    (fun k s i hk hi => by
      simp only [impl_most.l0]
      rw [if_pos (by omega), if_pos (by omega), if_pos (by omega), impl_InsideAt_eq hl (by omega), Option.bind_some, w64_succ hi (by omega)]
      show _ = impl_most.l0 k l (mostStep l s (rd_Ticket l i)).1 (mostStep l s (rd_Ticket l i)).2 l _ _
      unfold mostStep
      by_cases h1 : inside l (rd_Ticket l i).f0 > s.1
      · rw [if_pos h1, if_pos h1]
      · rw [if_neg h1, if_neg h1]
        by_cases h2 : inside l (rd_Ticket l i).f0 = s.1
        · rw [if_pos h2]
          by_cases h3 : (rd_Ticket l i).f0 < s.2
          · rw [if_pos h3, if_pos ⟨h2, h3⟩]
          · rw [if_neg h3, if_neg (fun h => h3 h.2)]
        · rw [if_neg h2, if_neg (fun h => h2 h.1)])
    (fun k s hk => by
      simp only [impl_most.l0]
      rw [if_neg (by omega)]
      rfl) (0, 0) (by omega : l.length + (l.length + 1) + 1 ≤ k)
  exact this
/-- The greatest number inside, and its first moment; (0, 0) where the list is not valid. -/
def mostI (l : List STicket) : Int × Int := if l.length ≤ 40 ∧ l.all tok = true then mostT l else (0, 0)
theorem impl_MostInside_eq {k : Nat} {l : List STicket} (hl : l.length ≤ 9223372036854775806) (hk : 2 * l.length + 2 ≤ k) : impl_MostInside.f k l = some (mostI l) := by
  unfold impl_MostInside.f mostI
  rw [impl_areTickets_eq, impl_most_eq hl hk]
  by_cases h : l.length ≤ 40
  · rw [if_neg (by omega)]
    simp only [Option.bind_some]
    by_cases h2 : l.all tok = true
    · rw [if_pos h2, if_pos ⟨h, h2⟩]
    · rw [if_neg h2, if_neg (fun q => h2 q.2)]
  · rw [if_pos (by omega), if_neg (fun q => h q.1)]
theorem spec_MostInside_eq {k : Nat} {l : List STicket} (hl : l.length ≤ 9223372036854775806) (hk : 3 * l.length + 10 ≤ k) : spec_MostInside.f k l = some (mostI l) := by
  refine at_rounds (g := fun k => spec_MostInside.f k l) (fun k => spec_MostInside.mono l k) (k := 2 * (l.length + 1) + (l.length + 3)) (by omega) ?_
  show spec_MostInside.f _ l = _
  unfold spec_MostInside.f mostI
  by_cases h : l.length ≤ 40 ∧ l.all tok = true
  · rw [if_pos h]
    have := list_loop (c := 0) (k := l.length + 1) zTicket (F := fun k (s : Int × Int) i => spec_MostInside.l0 (2 * k + (l.length + 3)) l s.1 s.2 i) (l := l) (step := mostStep l) (fin := id)
      (fun k s i hk hi => by
        rw [show 2 * (k + 1) + (l.length + 3) = (2 * k + (l.length + 3)) + 1 + 1 by omega]
        obtain ⟨q, hq⟩ : ∃ q, q = 2 * k + (l.length + 3) := ⟨_, rfl⟩
        rw [← hq]
        have hq2 : l.length + 3 ≤ q := by omega
        clear hq
        simp only [spec_MostInside.l0, spec_MostInside.j1]
        rw [if_pos (by omega), spec_l35Ok_eq hl (by omega), Option.bind_some, if_pos h.2, if_pos (by simp; omega), if_pos (by omega), if_pos (by omega), spec_InsideAt_eq hl (by omega), Option.bind_some, w64_succ hi (by omega)]
        show _ = spec_MostInside.l0 q l (mostStep l s (rd_Ticket l i)).1 (mostStep l s (rd_Ticket l i)).2 _
        unfold mostStep
        by_cases h1 : inside l (rd_Ticket l i).f0 > s.1
        · rw [if_pos h1, if_pos h1]
        · rw [if_neg h1, if_neg h1]
          by_cases h2 : inside l (rd_Ticket l i).f0 = s.1
          · rw [if_pos h2]
            by_cases h3 : (rd_Ticket l i).f0 < s.2
            · rw [if_pos h3, if_pos ⟨h2, h3⟩]
            · rw [if_neg h3, if_neg (fun h => h3 h.2)]
          · rw [if_neg h2, if_neg (fun h => h2 h.1)])
      (fun k s hk => by
        rw [show 2 * (k + 1) + (l.length + 3) = (2 * k + (l.length + 3)) + 1 + 1 by omega]
        obtain ⟨q, hq⟩ : ∃ q, q = 2 * k + (l.length + 3) := ⟨_, rfl⟩
        rw [← hq]
        have hq2 : l.length + 3 ≤ q := by omega
        clear hq
        simp only [spec_MostInside.l0, spec_MostInside.j1]
        rw [if_neg (by omega)]
        simp) (0, 0) (by omega)
    exact this
  · rw [if_neg h]
    rw [show 2 * (l.length + 1) + (l.length + 3) = (2 * l.length + (l.length + 3)) + 1 + 1 by omega]
    obtain ⟨q, hq⟩ : ∃ q, q = 2 * l.length + (l.length + 3) := ⟨_, rfl⟩
    rw [← hq]
    have hq2 : l.length + 3 ≤ q := by omega
    clear hq
    simp only [spec_MostInside.l0, spec_MostInside.j1]
    by_cases h0 : (0 : Int) < l.length
    · rw [if_pos h0, spec_l35Ok_eq hl (by omega), Option.bind_some]
      by_cases h2 : l.all tok = true
      · rw [if_pos h2, if_neg (by have : ¬ l.length ≤ 40 := fun hh => h ⟨hh, h2⟩; simp; omega)]
      · rw [if_neg h2]; simp
    · rw [if_neg h0]; simp
end Go.Proofs.Ytiiflckblilhiaa.F
