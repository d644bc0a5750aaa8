/- Tickets: who is inside when. -/
import Derived.Test.YtiiflckblilhiaaP0
import Derived.Test.YtiiflckblilhiaaDx0ae7e7
import Derived.Test.YtiiflckblilhiaaDx46d74b
import Derived.Test.YtiiflckblilhiaaDx538800
import Derived.Test.YtiiflckblilhiaaDxbfdc49
import Derived.Test.YtiiflckblilhiaaDxc23560
namespace Go.Proofs.Ytiiflckblilhiaa.F
open Go.RowKit Go.Proofs.YtiiflckblilhiaaW.PrintWords Go.Proofs.YtiiflckblilhiaaW.PrintLast Go.Proofs.YtiiflckblilhiaaW.PrintMore
set_option linter.unusedVariables false
set_option linter.unusedSimpArgs false

def tok (x : STicket) : Bool := decide (0 ≤ x.f0 ∧ x.f1 ≤ 10000 ∧ x.f0 < x.f1)
theorem impl_TicketOk_eq (x : STicket) : impl_TicketOk.f x.f0 x.f1 = some (tok x) := by
  unfold impl_TicketOk.f tok
  by_cases h1 : x.f0 ≥ 0 <;> by_cases h2 : x.f1 ≤ 10000 <;> simp [*] <;> omega
theorem spec_TicketOk_eq (x : STicket) : spec_TicketOk.f x.f0 x.f1 = some (tok x) := by
  unfold spec_TicketOk.f spec_l01In.f tok
  by_cases h1 : x.f0 ≥ 0 <;> by_cases h2 : x.f0 ≤ 10000 <;> by_cases h3 : x.f1 ≥ 0 <;> by_cases h4 : x.f1 ≤ 10000 <;> simp [*] <;> omega
def toT (x : SlaTicket) : STicket := ⟨x.f0, x.f1⟩
def small (n : Nat) : Prop := n ≤ 1048576

theorem laws_toTicketS_eq {k : Nat} {l : List SlaTicket} (hl : l.length ≤ 1048576) (hk : l.length + 1 ≤ k) : laws_toTicketS.f k l = some (l.map toT) := by
  unfold laws_toTicketS.f
  rw [if_pos (by omega), if_pos (by omega)]
  refine set_loop (c := 0) zlaTicket (F := fun k acc i => laws_toTicketS.l0 k l acc i) ?_ ?_ _ (by simp) (by omega)
  · intro k acc i _ hi ha
    simp only [laws_toTicketS.l0, laws_toTicket.f, Option.bind_some]
    rw [if_pos (by omega), if_pos (by omega), if_pos (by omega), w64_succ hi (by omega)]
    rfl
  · intro k acc _
    simp only [laws_toTicketS.l0]
    rw [if_neg (by omega)]

/-- Is the visitor inside? -/
def isin (m : Int) (x : STicket) : Bool := decide (x.f0 ≤ m ∧ m < x.f1)
def inside (l : List STicket) (m : Int) : Int := l.countP (isin m)
theorem inside_bd (l : List STicket) (m : Int) : 0 ≤ inside l m ∧ inside l m ≤ l.length := by
  unfold inside
  have := List.countP_le_length (p := isin m) (l := l)
  omega
def insStep (m : Int) (s : Int) (x : STicket) : Int := if isin m x then s + 1 else s
theorem insFold (m : Int) : ∀ (l : List STicket) (s : Int), l.foldl (insStep m) s = s + inside l m := by
  intro l
  unfold inside
  induction l with
  | nil => intro s; simp
  | cons x l ih =>
    intro s
    rw [List.foldl_cons, ih, List.countP_cons]
    unfold insStep
    by_cases h : isin m x = true <;> simp [h]; omega

theorem spec_InsideAt_eq {k : Nat} {l : List STicket} (hl : l.length ≤ 9223372036854775806) (hk : l.length + 1 ≤ k) (m : Int) : spec_InsideAt.f k l m = some (inside l m) := by
  have key := fold_loop (n := l.length) (c := 0) (F := fun k s i => spec_InsideAt.l0 k l m s i) (step := fun s i => insStep m s (l.getD i zTicket)) (fin := id) (I := fun s i => 0 ≤ s ∧ s ≤ i)
    (fun k s i _ hi hs => by
      simp only [spec_InsideAt.l0]
      rw [if_pos (by omega), if_pos (by omega), w64_succ hi (by omega), w64 (x := s + 1) (by omega) (by omega)]
      show _ = spec_InsideAt.l0 k l m (insStep m s (rd_Ticket l i)) _
      unfold insStep isin
      by_cases h1 : (rd_Ticket l i).f0 ≤ m <;> by_cases h2 : m < (rd_Ticket l i).f1 <;> simp [h1, h2])
    (fun s i _ hs => by unfold insStep; split <;> omega)
    (fun k s _ _ => by simp only [spec_InsideAt.l0]; rw [if_neg (by omega)]; rfl) l.length 0 k 0 (by omega) (by omega) (by omega)
  rw [range'_zero_foldl zTicket (insStep m), insFold] at key
  simpa [spec_InsideAt.f] using key
theorem impl_InsideAt_eq {k : Nat} {l : List STicket} (hl : l.length ≤ 9223372036854775806) (hk : l.length + 1 ≤ k) (m : Int) : impl_InsideAt.f k l m = some (inside l m) := by
  have key := fold_loop (n := l.length) (c := 0) (F := fun k s i => impl_InsideAt.l0 k m s l (l.length : Int) i) (step := fun s i => insStep m s (l.getD i zTicket)) (fin := id) (I := fun s i => 0 ≤ s ∧ s ≤ i)
    (fun k s i _ hi hs => by
      simp only [impl_InsideAt.l0]
      rw [if_pos (by omega), if_pos (by omega), if_pos (by omega), w64_succ hi (by omega), w64 (x := s + 1) (by omega) (by omega)]
      show _ = impl_InsideAt.l0 k m (insStep m s (rd_Ticket l i)) l _ _
      unfold insStep isin
      by_cases h1 : (rd_Ticket l i).f0 ≤ m <;> by_cases h2 : m < (rd_Ticket l i).f1 <;> simp [h1, h2])
    (fun s i _ hs => by unfold insStep; split <;> omega)
    (fun k s _ _ => by simp only [impl_InsideAt.l0]; rw [if_neg (by omega)]; rfl) l.length 0 k 0 (by omega) (by omega) (by omega)
  rw [range'_zero_foldl zTicket (insStep m), insFold] at key
  simpa [impl_InsideAt.f] using key

theorem laws_eqTicketS_refl {k : Nat} {l : List STicket} (hl : l.length ≤ 9223372036854775806) (hk : l.length + 1 ≤ k) : laws_eqTicketS.f k l l = some true := by
  unfold laws_eqTicketS.f
  rw [if_pos rfl]
  have := all_loop (c := 0) zTicket (F := fun k i => laws_eqTicketS.l0 k l l i) (p := fun _ => true) (b := true)
    (fun k i _ hi => by
      simp only [laws_eqTicketS.l0, laws_eqTicket.f]
      rw [if_pos (by omega), if_pos (by omega), if_pos (by omega), w64_succ hi (by omega)]
      simp)
    (fun k _ => by simp only [laws_eqTicketS.l0]; rw [if_neg (by omega)]) hk
  rw [this]
  congr 1
  simp only [Bool.and_true, List.all_eq_true, implies_true]
theorem sz_Ticket {l : List SlaTicket} (hl : l.length ≤ 9223372036854775807) : laws_szTicketS.f l 1048576 = some (if l.length ≤ 1048576 then 1048576 - (l.length : Int) else -1) := by
  unfold laws_szTicketS.f
  rw [w64 (by omega) (by omega)]
  by_cases h : l.length ≤ 1048576
  · rw [if_neg (by omega), if_pos h]
  · rw [if_pos (by omega), if_neg h]
end Go.Proofs.Ytiiflckblilhiaa.F
