/- Tickets: the greatest number inside. -/
import Derived.Test.YtioplamkdoelpaaPT
import Derived.Test.YtioplamkdoelpaaDxdf8394
namespace Go.Proofs.Ytioplamkdoelpaa.F
open Go.RowKit Go.Proofs.YtioplamkdoelpaaW.PrintWords Go.Proofs.YtioplamkdoelpaaW.PrintLast Go.Proofs.YtioplamkdoelpaaW.PrintMore
set_option linter.unusedVariables false
set_option linter.unusedSimpArgs false

theorem impl_areTickets_eq (l : List STicket) : impl_areTickets.f l = some (l.all tok) := by
  unfold impl_areTickets.f
  exact allO_of fun x _ => impl_TicketOk_eq x
theorem spec_l35Ok_eq {k : Nat} {l : List STicket} (hl : l.length ≤ 9223372036854775806) (hk : l.length + 1 ≤ k) : spec_l35Ok.f k l = some (l.all tok) := by
  unfold spec_l35Ok.f
  have := all_loop (c := 0) zTicket (F := fun k i => spec_l35Ok.l0 k l i) (p := tok) (b := true)
    (fun k i _ hi => by
      simp only [spec_l35Ok.l0, spec_TicketOk_eq, Option.bind_some]
      rw [if_pos (by omega), if_pos (by omega), w64_succ hi (by omega)]
      rfl)
    (fun k _ => by simp only [spec_l35Ok.l0]; rw [if_neg (by omega)]) hk
  rw [this]
  simp
def mostStep (l : List STicket) (s : Int × Int) (x : STicket) : Int × Int :=
  if inside l x.f0 > s.1 then (inside l x.f0, x.f0) else if inside l x.f0 = s.1 ∧ x.f0 < s.2 then (inside l x.f0, x.f0) else s
def mostT (l : List STicket) : Int × Int := l.foldl (mostStep l) (0, 0)
theorem impl_most_eq {k : Nat} {l : List STicket} (hl : l.length ≤ 9223372036854775806) (hk : 2 * l.length + 2 ≤ k) : impl_most.f k l = some (mostT l) := by
  unfold impl_most.f
  have := list_loop (c := l.length + 1) zTicket (F := fun k (s : Int × Int) i => impl_most.l0 k l s.1 s.2 l (l.length : Int) i) (l := l) (step := mostStep l) (fin := id)
    (fun k s i hk hi => by
      simp only [impl_most.l0]
      rw [if_pos (by omega), if_pos (by omega), if_pos (by omega), impl_InsideAt_eq hl (by omega), Option.bind_some, w64_succ hi (by omega)]
      show _ = impl_most.l0 k l (mostStep l s (rd_Ticket l i)).1 (mostStep l s (rd_Ticket l i)).2 l _ _
      unfold mostStep
      by_cases h1 : inside l (rd_Ticket l i).f0 > s.1
      · rw [if_pos h1, if_pos h1]
      · rw [if_neg h1, if_neg h1]
        by_cases h2 : inside l (rd_Ticket l i).f0 = s.1
        · rw [if_pos h2]
          by_cases h3 : (rd_Ticket l i).f0 < s.2
          · rw [if_pos h3, if_pos ⟨h2, h3⟩]
          · rw [if_neg h3, if_neg (fun h => h3 h.2)]
        · rw [if_neg h2, if_neg (fun h => h2 h.1)])
    (fun k s hk => by
      simp only [impl_most.l0]
      rw [if_neg (by omega)]
      rfl) (0, 0) (by omega : l.length + (l.length + 1) + 1 ≤ k)
  exact this
/-- The greatest number inside, and its first moment; (0, 0) where the list is not valid. -/
def mostI (l : List STicket) : Int × Int := if l.length ≤ 40 ∧ l.all tok = true then mostT l else (0, 0)
end Go.Proofs.Ytioplamkdoelpaa.F
