/- Tickets: may one more come in? -/
import Derived.Test.YtioplamkdoelpaaPT2
import Derived.Test.YtioplamkdoelpaaDxdf8394
namespace Go.Proofs.Ytioplamkdoelpaa.F
open Go.RowKit Go.Proofs.YtioplamkdoelpaaW.PrintWords Go.Proofs.YtioplamkdoelpaaW.PrintLast Go.Proofs.YtioplamkdoelpaaW.PrintMore
set_option linter.unusedVariables false
set_option linter.unusedSimpArgs false

theorem mostStep_fst (l : List STicket) (s : Int × Int) (x : STicket) : (mostStep l s x).1 = max s.1 (inside l x.f0) := by
  unfold mostStep
  split
  · simp only; omega
  · split
    · simp only; omega
    · omega
theorem mostT_fold (l : List STicket) : ∀ (m : List STicket) (s : Int × Int), (m.foldl (mostStep l) s).1 = m.foldl (fun a x => max a (inside l x.f0)) s.1 := by
  intro m
  induction m with
  | nil => intro s; rfl
  | cons x m ih => intro s; rw [List.foldl_cons, List.foldl_cons, ih, mostStep_fst]
theorem mx_eq (a b : Int) : mx a b = max a b := by unfold mx; omega
theorem spec_l35Most_eq {k : Nat} {l : List STicket} (hl : l.length ≤ 9223372036854775806) (hk : 2 * l.length + 2 ≤ k) : spec_l35Most.f k l = some (mostT l).1 := by
  unfold spec_l35Most.f mostT
  rw [mostT_fold]
  exact list_loop (c := l.length + 1) zTicket (F := fun k s i => spec_l35Most.l0 k l s i) (l := l) (step := fun a x => max a (inside l x.f0)) (fin := id)
    (fun k s i hk hi => by
      simp only [spec_l35Most.l0]
      rw [if_pos (by omega), if_pos (by omega), spec_InsideAt_eq hl (by omega), Option.bind_some, w64_succ hi (by omega), mx_eq]
      rfl)
    (fun k s hk => by
      simp only [spec_l35Most.l0]
      rw [if_neg (by omega)]
      rfl) 0 (by omega : l.length + (l.length + 1) + 1 ≤ k)
/-- May one more come in? -/
def canT (l : List STicket) (x : STicket) (m : Int) : Bool := (l ++ [x]).all tok && decide ((mostT (l ++ [x])).1 ≤ m)
theorem spec_CanAdmit_eq {k : Nat} {l : List STicket} (hl : l.length ≤ 1048577) (hk : 2 * l.length + 6 ≤ k) (x : STicket) (m : Int) : spec_CanAdmit.f k l x.f0 x.f1 m = some (canT l x m) := by
  unfold spec_CanAdmit.f canT
  have h1 : spec_l35Ok.f k (l ++ [⟨x.f0, x.f1⟩]) = some ((l ++ [x]).all tok) := spec_l35Ok_eq (by simp; omega) (by simp; omega)
  have h2 : spec_l35Most.f k (l ++ [⟨x.f0, x.f1⟩]) = some (mostT (l ++ [x])).1 := spec_l35Most_eq (by simp; omega) (by simp; omega)
  simp only [Option.bind_some, List.nil_append, List.length_nil, List.length_singleton]
  rw [if_pos (by omega), if_pos (by omega), h1, h2]
  simp only [Option.bind_some]
  cases h : (l ++ [x]).all tok <;> simp
theorem impl_CanAdmit_eq {k : Nat} {l : List STicket} (hl : l.length ≤ 1048577) (hk : 2 * l.length + 6 ≤ k) (x : STicket) (m : Int) : impl_CanAdmit.f k l x.f0 x.f1 m = some (canT l x m) := by
  unfold impl_CanAdmit.f canT impl_greatest.f
  rw [impl_TicketOk_eq, impl_areTickets_eq]
  simp only [Option.bind_some, List.all_append, List.all_cons, List.all_nil, Bool.and_true]
  have hc : slices_Clone_impl_Ticket.f l = some l := by rw [slices_Clone_impl_Ticket.f, if_pos (by omega)]
  have hm : impl_most.f k (l ++ [⟨x.f0, x.f1⟩]) = some (mostT (l ++ [x])) := impl_most_eq (by simp; omega) (by simp; omega)
  rw [hc]
  simp only [Option.bind_some, List.length_singleton]
  rw [if_pos (by omega : l.length + 1 < 8796093022208), hm]
  cases tok x <;> cases l.all tok <;> simp
end Go.Proofs.Ytioplamkdoelpaa.F
