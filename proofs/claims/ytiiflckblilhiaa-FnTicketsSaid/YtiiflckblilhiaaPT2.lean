/- Tickets: the greatest number inside. -/
import Derived.Test.YtiiflckblilhiaaPT
import Derived.Test.YtiiflckblilhiaaPI
import Derived.Test.YtiiflckblilhiaaDx1caa52
import Derived.Test.YtiiflckblilhiaaDx3d1d2a
import Derived.Test.YtiiflckblilhiaaDx400215
import Derived.Test.YtiiflckblilhiaaDx46d74b
import Derived.Test.YtiiflckblilhiaaDxa115a5
import Derived.Test.YtiiflckblilhiaaDxbae494
namespace Go.Proofs.Ytiiflckblilhiaa.F
open Go.RowKit Go.Proofs.YtiiflckblilhiaaW.PrintWords Go.Proofs.YtiiflckblilhiaaW.PrintLast Go.Proofs.YtiiflckblilhiaaW.PrintMore
set_option linter.unusedVariables false
set_option linter.unusedSimpArgs false

theorem impl_areTickets_eq (l : List STicket) : impl_areTickets.f l = some (l.all tok) := by
  unfold impl_areTickets.f
  exact allO_of fun x _ => impl_TicketOk_eq x
theorem spec_l35Ok_eq {k : Nat} {l : List STicket} (hl : l.length ≤ 9223372036854775806) (hk : l.length + 1 ≤ k) : spec_l35Ok.f k l = some (l.all tok) := by
  unfold spec_l35Ok.f
  have := all_loop (c := 0) zTicket (F := fun k i => spec_l35Ok.l0 k l i) (p := tok) (b := true)
    (fun k i _ hi => by
      simp only [spec_l35Ok.l0, spec_TicketOk_eq, Option.bind_some]
      rw [if_pos (by omega), if_pos (by omega), w64_succ hi (by omega)]
      rfl)
    (fun k _ => by simp only [spec_l35Ok.l0]; rw [if_neg (by omega)]) hk
  rw [this]
  simp
def mostStep (l : List STicket) (s : Int × Int) (x : STicket) : Int × Int :=
  if inside l x.f0 > s.1 then (inside l x.f0, x.f0) else if inside l x.f0 = s.1 ∧ x.f0 < s.2 then (inside l x.f0, x.f0) else s
def mostT (l : List STicket) : Int × Int := l.foldl (mostStep l) (0, 0)
theorem impl_most_eq {k : Nat} {l : List STicket} (hl : l.length ≤ 9223372036854775806) (hk : 2 * l.length + 2 ≤ k) : impl_most.f k l = some (mostT l) := by
  unfold impl_most.f
  have := list_loop (c := l.length + 1) zTicket (F := fun k (s : Int × Int) i => impl_most.l0 k l s.1 s.2 l (l.length : Int) i) (l := l) (step := mostStep l) (fin := id)
    (fun k s i hk hi => by
      simp only [impl_most.l0]
      rw [if_pos (by omega), if_pos (by omega), if_pos (by omega), impl_InsideAt_eq hl (by omega), Option.bind_some, w64_succ hi (by omega)]
      show _ = impl_most.l0 k l (mostStep l s (rd_Ticket l i)).1 (mostStep l s (rd_Ticket l i)).2 l _ _
      unfold mostStep
      by_cases h1 : inside l (rd_Ticket l i).f0 > s.1
      · rw [if_pos h1, if_pos h1]
      · rw [if_neg h1, if_neg h1]
        by_cases h2 : inside l (rd_Ticket l i).f0 = s.1
        · rw [if_pos h2]
          by_cases h3 : (rd_Ticket l i).f0 < s.2
          · rw [if_pos h3, if_pos ⟨h2, h3⟩]
          · rw [if_neg h3, if_neg (fun h => h3 h.2)]
        · rw [if_neg h2, if_neg (fun h => h2 h.1)])
    (fun k s hk => by
      simp only [impl_most.l0]
      rw [if_neg (by omega)]
      rfl) (0, 0) (by omega : l.length + (l.length + 1) + 1 ≤ k)
  exact this
/-- The greatest number inside, and its first moment; (0, 0) where the list is not valid. -/
def mostI (l : List STicket) : Int × Int := if l.length ≤ 40 ∧ l.all tok = true then mostT l else (0, 0)
theorem impl_MostInside_eq {k : Nat} {l : List STicket} (hl : l.length ≤ 9223372036854775806) (hk : 2 * l.length + 2 ≤ k) : impl_MostInside.f k l = some (mostI l) := by
  unfold impl_MostInside.f mostI
  rw [impl_areTickets_eq, impl_most_eq hl hk]
  by_cases h : l.length ≤ 40
  · rw [if_neg (by omega)]
    simp only [Option.bind_some]
    by_cases h2 : l.all tok = true
    · rw [if_pos h2, if_pos ⟨h, h2⟩]
    · rw [if_neg h2, if_neg (fun q => h2 q.2)]
  · rw [if_pos (by omega), if_neg (fun q => h q.1)]
theorem spec_MostInside_eq {k : Nat} {l : List STicket} (hl : l.length ≤ 9223372036854775806) (hk : 3 * l.length + 10 ≤ k) : spec_MostInside.f k l = some (mostI l) := by
  refine at_rounds (g := fun k => spec_MostInside.f k l) (fun k => spec_MostInside.mono l k) (k := 2 * (l.length + 1) + (l.length + 3)) (by omega) ?_
  show spec_MostInside.f _ l = _
  unfold spec_MostInside.f mostI
  by_cases h : l.length ≤ 40 ∧ l.all tok = true
  · rw [if_pos h]
    have := list_loop (c := 0) (k := l.length + 1) zTicket (F := fun k (s : Int × Int) i => spec_MostInside.l0 (2 * k + (l.length + 3)) l s.1 s.2 i) (l := l) (step := mostStep l) (fin := id)
      (fun k s i hk hi => by
        rw [show 2 * (k + 1) + (l.length + 3) = (2 * k + (l.length + 3)) + 1 + 1 by omega]
        obtain ⟨q, hq⟩ : ∃ q, q = 2 * k + (l.length + 3) := ⟨_, rfl⟩
        rw [← hq]
        have hq2 : l.length + 3 ≤ q := by omega
        clear hq
        simp only [spec_MostInside.l0, spec_MostInside.j1]
        rw [if_pos (by omega), spec_l35Ok_eq hl (by omega), Option.bind_some, if_pos h.2, if_pos (by simp; omega), if_pos (by omega), if_pos (by omega), spec_InsideAt_eq hl (by omega), Option.bind_some, w64_succ hi (by omega)]
        show _ = spec_MostInside.l0 q l (mostStep l s (rd_Ticket l i)).1 (mostStep l s (rd_Ticket l i)).2 _
        unfold mostStep
        by_cases h1 : inside l (rd_Ticket l i).f0 > s.1
        · rw [if_pos h1, if_pos h1]
        · rw [if_neg h1, if_neg h1]
          by_cases h2 : inside l (rd_Ticket l i).f0 = s.1
          · rw [if_pos h2]
            by_cases h3 : (rd_Ticket l i).f0 < s.2
            · rw [if_pos h3, if_pos ⟨h2, h3⟩]
            · rw [if_neg h3, if_neg (fun h => h3 h.2)]
          · rw [if_neg h2, if_neg (fun h => h2 h.1)])
      (fun k s hk => by
        rw [show 2 * (k + 1) + (l.length + 3) = (2 * k + (l.length + 3)) + 1 + 1 by omega]
        obtain ⟨q, hq⟩ : ∃ q, q = 2 * k + (l.length + 3) := ⟨_, rfl⟩
        rw [← hq]
        have hq2 : l.length + 3 ≤ q := by omega
        clear hq
        simp only [spec_MostInside.l0, spec_MostInside.j1]
        rw [if_neg (by omega)]
        simp) (0, 0) (by omega)
    exact this
  · rw [if_neg h]
    rw [show 2 * (l.length + 1) + (l.length + 3) = (2 * l.length + (l.length + 3)) + 1 + 1 by omega]
    obtain ⟨q, hq⟩ : ∃ q, q = 2 * l.length + (l.length + 3) := ⟨_, rfl⟩
    rw [← hq]
    have hq2 : l.length + 3 ≤ q := by omega
    clear hq
    simp only [spec_MostInside.l0, spec_MostInside.j1]
    by_cases h0 : (0 : Int) < l.length
    · rw [if_pos h0, spec_l35Ok_eq hl (by omega), Option.bind_some]
      by_cases h2 : l.all tok = true
      · rw [if_pos h2, if_neg (by have : ¬ l.length ≤ 40 := fun hh => h ⟨hh, h2⟩; simp; omega)]
      · rw [if_neg h2]; simp
    · rw [if_neg h0]; simp

theorem mostStep_fst (l : List STicket) (s : Int × Int) (x : STicket) : (mostStep l s x).1 = max s.1 (inside l x.f0) := by
  unfold mostStep
  split
  · simp only; omega
  · split
    · simp only; omega
    · omega
theorem mostT_fold (l : List STicket) : ∀ (m : List STicket) (s : Int × Int), (m.foldl (mostStep l) s).1 = m.foldl (fun a x => max a (inside l x.f0)) s.1 := by
  intro m
  induction m with
  | nil => intro s; rfl
  | cons x m ih => intro s; rw [List.foldl_cons, List.foldl_cons, ih, mostStep_fst]
theorem mx_eq (a b : Int) : mx a b = max a b := by unfold mx; omega
theorem spec_l35Most_eq {k : Nat} {l : List STicket} (hl : l.length ≤ 9223372036854775806) (hk : 2 * l.length + 2 ≤ k) : spec_l35Most.f k l = some (mostT l).1 := by
  unfold spec_l35Most.f mostT
  rw [mostT_fold]
  exact list_loop (c := l.length + 1) zTicket (F := fun k s i => spec_l35Most.l0 k l s i) (l := l) (step := fun a x => max a (inside l x.f0)) (fin := id)
    (fun k s i hk hi => by
      simp only [spec_l35Most.l0]
      rw [if_pos (by omega), if_pos (by omega), spec_InsideAt_eq hl (by omega), Option.bind_some, w64_succ hi (by omega), mx_eq]
      rfl)
    (fun k s hk => by
      simp only [spec_l35Most.l0]
      rw [if_neg (by omega)]
      rfl) 0 (by omega : l.length + (l.length + 1) + 1 ≤ k)
/-- May one more come in? -/
def canT (l : List STicket) (x : STicket) (m : Int) : Bool := (l ++ [x]).all tok && decide ((mostT (l ++ [x])).1 ≤ m)
theorem spec_CanAdmit_eq {k : Nat} {l : List STicket} (hl : l.length ≤ 1048577) (hk : 2 * l.length + 6 ≤ k) (x : STicket) (m : Int) : spec_CanAdmit.f k l x.f0 x.f1 m = some (canT l x m) := by
  unfold spec_CanAdmit.f canT
  have h1 : spec_l35Ok.f k (l ++ [⟨x.f0, x.f1⟩]) = some ((l ++ [x]).all tok) := spec_l35Ok_eq (by simp; omega) (by simp; omega)
  have h2 : spec_l35Most.f k (l ++ [⟨x.f0, x.f1⟩]) = some (mostT (l ++ [x])).1 := spec_l35Most_eq (by simp; omega) (by simp; omega)
  simp only [Option.bind_some, List.nil_append, List.length_nil, List.length_singleton]
  rw [if_pos (by omega), if_pos (by omega), h1, h2]
  simp only [Option.bind_some]
  cases h : (l ++ [x]).all tok <;> simp
theorem impl_CanAdmit_eq {k : Nat} {l : List STicket} (hl : l.length ≤ 1048577) (hk : 2 * l.length + 6 ≤ k) (x : STicket) (m : Int) : impl_CanAdmit.f k l x.f0 x.f1 m = some (canT l x m) := by
  unfold impl_CanAdmit.f canT impl_greatest.f
  rw [impl_TicketOk_eq, impl_areTickets_eq]
  simp only [Option.bind_some, List.all_append, List.all_cons, List.all_nil, Bool.and_true]
  have hc : slices_Clone_impl_Ticket.f l = some l := by rw [slices_Clone_impl_Ticket.f, if_pos (by omega)]
  have hm : impl_most.f k (l ++ [⟨x.f0, x.f1⟩]) = some (mostT (l ++ [x])) := impl_most_eq (by simp; omega) (by simp; omega)
  rw [hc]
  simp only [Option.bind_some, List.length_singleton]
  rw [if_pos (by omega : l.length + 1 < 8796093022208), hm]
  cases tok x <;> cases l.all tok <;> simp

def admStep (m : Int) (l : List STicket) (s : List Int × List STicket) (i : Nat) : List Int × List STicket := if canT s.2 (l.getD i zTicket) m then (s.1 ++ [(i : Int)], s.2 ++ [l.getD i zTicket]) else s
def admAll (l : List STicket) (m : Int) : List Int := if l.length ≤ 40 then ((List.range' 0 l.length).foldl (admStep m l) ([], [])).1 else []
theorem adm_inv (m : Int) (l : List STicket) (s : List Int × List STicket) (i : Nat) (h : s.1.length ≤ i ∧ s.2.length ≤ i) : (admStep m l s i).1.length ≤ i + 1 ∧ (admStep m l s i).2.length ≤ i + 1 := by
  unfold admStep
  split
  · simp only [List.length_append, List.length_singleton]; omega
  · omega
theorem admAll_length (l : List STicket) (m : Int) : (admAll l m).length ≤ 40 := by
  unfold admAll
  by_cases h : l.length ≤ 40
  · rw [if_pos h]
    have : ∀ (d i : Nat) (s : List Int × List STicket), s.1.length ≤ i ∧ s.2.length ≤ i → ((List.range' i d).foldl (admStep m l) s).1.length ≤ i + d := by
      intro d
      induction d with
      | zero => intro i s h; simpa using h.1
      | succ d ih => intro i s h; rw [List.range'_succ, List.foldl_cons]; have := ih (i + 1) _ (adm_inv m l s i h); omega
    have := this l.length 0 ([], []) ⟨Nat.le_refl _, Nat.le_refl _⟩
    omega
  · rw [if_neg h]; exact Nat.zero_le _
theorem impl_AdmitAll_eq {k : Nat} {l : List STicket} (hl : l.length ≤ 1048576) (hk : 3 * l.length + 10 ≤ k) (m : Int) : impl_AdmitAll.f k l m = some (admAll l m) := by
  unfold impl_AdmitAll.f admAll
  by_cases h : l.length ≤ 40
  · rw [if_neg (by omega), if_pos h]
    exact fold_loop (n := l.length) (c := 2 * l.length + 6) (F := fun k (s : List Int × List STicket) i => impl_AdmitAll.l0 k m s.1 s.2 l (l.length : Int) i) (step := admStep m l) (fin := fun s => s.1) (I := fun s i => s.1.length ≤ i ∧ s.2.length ≤ i)
      (fun k s i hk hi hs => by
        simp only [impl_AdmitAll.l0]
        rw [if_pos (by omega), if_pos (by omega), if_pos (by omega), impl_CanAdmit_eq (by omega) (by omega), Option.bind_some, w64_succ hi (by omega)]
        unfold admStep
        show _ = _
        cases hc : canT s.2 (l.getD i zTicket) m with
        | true =>
          rw [if_pos (show canT s.2 (rd_Ticket l i) m = true from hc)]
          simp only [Option.bind_some, List.length_singleton]
          rw [if_pos (by omega), if_pos (by omega)]
          rfl
        | false =>
          rw [if_neg (by rw [show canT s.2 (rd_Ticket l i) m = false from hc]; decide)]
          rfl)
      (fun s i _ hs => adm_inv m l s i hs)
      (fun k s _ _ => by simp only [impl_AdmitAll.l0]; rw [if_neg (by omega)]) l.length 0 k ([], []) (by omega) (by omega) ⟨Nat.le_refl _, Nat.le_refl _⟩
  · rw [if_pos (by omega), if_neg h]
theorem foldmax_le {α : Type} (f : α → Int) (n : Int) : ∀ (l : List α) (s : Int), s ≤ n → (∀ x ∈ l, f x ≤ n) → l.foldl (fun a x => max a (f x)) s ≤ n := by
  intro l
  induction l with
  | nil => intro s h _; exact h
  | cons x l ih => intro s h hx; rw [List.foldl_cons]; exact ih _ (by have := hx x (List.mem_cons_self ..); omega) (fun y hy => hx y (List.mem_cons_of_mem _ hy))
theorem le_foldmax {α : Type} (f : α → Int) : ∀ (l : List α) (s : Int), s ≤ l.foldl (fun a x => max a (f x)) s ∧ ∀ x ∈ l, f x ≤ l.foldl (fun a x => max a (f x)) s := by
  intro l
  induction l with
  | nil => intro s; exact ⟨Int.le_refl _, by simp⟩
  | cons x l ih =>
    intro s
    rw [List.foldl_cons]
    obtain ⟨h1, h2⟩ := ih (max s (f x))
    refine ⟨by omega, fun y hy => ?_⟩
    rcases List.mem_cons.1 hy with rfl | hy
    · omega
    · exact h2 y hy
theorem mostT_fst (l : List STicket) : (mostT l).1 = l.foldl (fun a x => max a (inside l x.f0)) 0 := mostT_fold l l (0, 0)
theorem mostT_le {l : List STicket} {n : Int} (h0 : 0 ≤ n) (h : ∀ x ∈ l, inside l x.f0 ≤ n) : (mostT l).1 ≤ n := by
  rw [mostT_fst]; exact foldmax_le _ n l 0 h0 h
theorem le_mostT {l : List STicket} {x : STicket} (h : x ∈ l) : inside l x.f0 ≤ (mostT l).1 := by
  rw [mostT_fst]; exact (le_foldmax (fun x : STicket => inside l x.f0) l 0).2 x h
theorem mostT_nonneg (l : List STicket) : 0 ≤ (mostT l).1 := by rw [mostT_fst]; exact (le_foldmax (fun x : STicket => inside l x.f0) l 0).1
theorem inside_mono {l : List STicket} {p q : Int} (h : ∀ x ∈ l, isin p x = true → isin q x = true) : inside l p ≤ inside l q := by
  unfold inside
  exact Int.ofNat_le.2 (List.countP_mono_left h)
/-- Some ticket's coming in sees as many inside as any moment. -/
theorem inside_at_in {l : List STicket} {m : Int} (h : 0 < inside l m) : ∃ x ∈ l, x.f0 ≤ m ∧ inside l m ≤ inside l x.f0 := by
  obtain ⟨x, hx, hm⟩ : ∃ x ∈ l, isin m x = true := List.countP_pos_iff.1 (by unfold inside at h; omega)
  -- the latest of those that are inside
  have key : ∀ (l' : List STicket), (∃ x ∈ l', isin m x = true) → ∃ x ∈ l', isin m x = true ∧ ∀ y ∈ l', isin m y = true → y.f0 ≤ x.f0 := by
    intro l'
    induction l' with
    | nil => rintro ⟨x, hx, _⟩; exact absurd hx (by simp)
    | cons y l' ih =>
      rintro ⟨x, hx, hm⟩
      by_cases hr : ∃ x ∈ l', isin m x = true
      · obtain ⟨z, hz, hzm, hzb⟩ := ih hr
        by_cases hy : isin m y = true ∧ z.f0 < y.f0
        · refine ⟨y, List.mem_cons_self .., hy.1, fun w hw hwm => ?_⟩
          rcases List.mem_cons.1 hw with rfl | hw
          · omega
          · have := hzb w hw hwm; omega
        · refine ⟨z, List.mem_cons_of_mem _ hz, hzm, fun w hw hwm => ?_⟩
          rcases List.mem_cons.1 hw with rfl | hw
          · have : ¬ z.f0 < w.f0 := fun q => hy ⟨hwm, q⟩
            omega
          · exact hzb w hw hwm
      · refine ⟨x, hx, hm, fun w hw hwm => ?_⟩
        rcases List.mem_cons.1 hx with rfl | hx'
        · rcases List.mem_cons.1 hw with rfl | hw'
          · omega
          · exact absurd ⟨w, hw', hwm⟩ hr
        · exact absurd ⟨x, hx', hm⟩ hr
  obtain ⟨z, hz, hzm, hzb⟩ := key l ⟨x, hx, hm⟩
  unfold isin at hzm
  have hz2 := of_decide_eq_true hzm
  refine ⟨z, hz, hz2.1, inside_mono fun y hy hym => ?_⟩
  have hb := hzb y hy hym
  have hy2 := of_decide_eq_true (show decide (y.f0 ≤ m ∧ m < y.f1) = true from hym)
  exact decide_eq_true ⟨hb, by omega⟩
theorem inside_le_most (l : List STicket) (m : Int) : inside l m ≤ (mostT l).1 := by
  by_cases h : 0 < inside l m
  · obtain ⟨x, hx, _, h2⟩ := inside_at_in h
    have := le_mostT hx
    omega
  · have := mostT_nonneg l
    omega
/-- What the fold over a list has come to: the first moment so far. -/
def FirstI (l m : List STicket) (s : Int × Int) : Prop :=
  (s = (0, 0) ∨ inside l s.2 = s.1) ∧ (0 < s.1 → ∀ x ∈ m, inside l x.f0 = s.1 → s.2 ≤ x.f0)
theorem first_fold {l : List STicket} (hin : ∀ x ∈ l, 0 < inside l x.f0) : ∀ (m d : List STicket) (s : Int × Int), (∀ x ∈ m, x ∈ l) → 0 ≤ s.1 → (s.1 = 0 → d = [] ∧ s = (0, 0)) → (s.1 ≠ 0 → inside l s.2 = s.1) → (∀ x ∈ d, inside l x.f0 ≤ s.1 ∧ (inside l x.f0 = s.1 → s.2 ≤ x.f0)) →
    let r := m.foldl (mostStep l) s
    0 ≤ r.1 ∧ (r.1 = 0 → d ++ m = [] ∧ r = (0, 0)) ∧ (r.1 ≠ 0 → inside l r.2 = r.1) ∧ (∀ x ∈ d ++ m, inside l x.f0 ≤ r.1 ∧ (inside l x.f0 = r.1 → r.2 ≤ x.f0)) := by
  intro m
  induction m with
  | nil => intro d s _ h0 h1 h2 h3; simpa using ⟨h0, h1, h2, h3⟩
  | cons x m ih =>
    intro d s hm h0 h1 h2 h3
    have hx := hin x (hm x (List.mem_cons_self ..))
    have := ih (d ++ [x]) (mostStep l s x) (fun y hy => hm y (List.mem_cons_of_mem _ hy)) ?_ ?_ ?_ ?_
    · rw [List.foldl_cons]; simpa using this
    · rw [mostStep_fst]; omega
    · intro h; rw [mostStep_fst] at h; omega
    · intro _
      unfold mostStep
      split
      · rfl
      · split
        · rfl
        · exact h2 (by omega)
    · intro y hy
      have hs : ∀ z, z ∈ d → inside l z.f0 ≤ s.1 ∧ (inside l z.f0 = s.1 → s.2 ≤ z.f0) := h3
      unfold mostStep
      rcases List.mem_append.1 hy with hy | hy
      · obtain ⟨a, b⟩ := hs y hy
        split
        · exact ⟨by simp only; omega, by simp only; omega⟩
        · split
          · rename_i c1 c2; exact ⟨by simp only; omega, fun e => by have := b (by simp only at e; omega); simp only; omega⟩
          · exact ⟨a, b⟩
      · rw [List.mem_singleton.1 hy]
        split
        · exact ⟨by simp only; omega, fun _ => by simp only; omega⟩
        · split
          · exact ⟨by simp only; omega, fun _ => by simp only; omega⟩
          · rename_i c1 c2; exact ⟨by omega, fun e => by have : ¬ (x.f0 < s.2) := fun q => c2 ⟨e, q⟩; omega⟩
theorem mostT_first {l : List STicket} (hv : ∀ x ∈ l, x.f0 < x.f1) : inside l (mostT l).2 = (mostT l).1 ∧ ∀ m, inside l m = (mostT l).1 → 0 < (mostT l).1 → (mostT l).2 ≤ m := by
  have hin : ∀ x ∈ l, 0 < inside l x.f0 := fun x hx => by
    have : 0 < l.countP (isin x.f0) := List.countP_pos_iff.2 ⟨x, hx, decide_eq_true ⟨Int.le_refl _, hv x hx⟩⟩
    unfold inside; omega
  obtain ⟨h0, h1, h2, h3⟩ := first_fold hin l [] (0, 0) (fun x h => h) (by decide) (fun _ => ⟨rfl, rfl⟩) (fun h => absurd rfl h) (by simp)
  rw [List.nil_append] at h1 h3
  change 0 ≤ (mostT l).1 at h0
  change (mostT l).1 = 0 → l = [] ∧ mostT l = (0, 0) at h1
  change (mostT l).1 ≠ 0 → inside l (mostT l).2 = (mostT l).1 at h2
  change ∀ x ∈ l, inside l x.f0 ≤ (mostT l).1 ∧ (inside l x.f0 = (mostT l).1 → (mostT l).2 ≤ x.f0) at h3
  refine ⟨?_, fun m hm hp => ?_⟩
  · by_cases h : (mostT l).1 = 0
    · obtain ⟨rfl, e⟩ := h1 h
      rw [e]; rfl
    · exact h2 h
  · obtain ⟨x, hx, hle, hi⟩ := inside_at_in (l := l) (m := m) (by omega)
    have := (h3 x hx).2 (by have := (h3 x hx).1; omega)
    omega
theorem inside_sub {a b : List STicket} (h : a.Sublist b) (m : Int) : inside a m ≤ inside b m := by
  unfold inside; exact Int.ofNat_le.2 (List.Sublist.countP_le h)
theorem inside_perm {a b : List STicket} (h : a.Perm b) (m : Int) : inside a m = inside b m := by
  unfold inside; rw [h.countP_eq]
theorem most_perm {a b : List STicket} (h : a.Perm b) : (mostT a).1 ≤ (mostT b).1 :=
  mostT_le (mostT_nonneg b) fun x hx => by rw [inside_perm h]; exact le_mostT (h.mem_iff.1 hx)
theorem most_sub {a b : List STicket} (h : a.Sublist b) : (mostT a).1 ≤ (mostT b).1 :=
  mostT_le (mostT_nonneg b) fun x hx => by have := inside_sub h x.f0; have := le_mostT (h.subset hx); omega
/-- Where the admitting has come to. -/
structure AdmI (l : List STicket) (m : Int) (s : List Int × List STicket) (i : Nat) : Prop where
  len : s.1.length = s.2.length
  le : s.1.length ≤ i
  idx : ∀ j : Nat, j < s.1.length → 0 ≤ rd s.1 j ∧ rd s.1 j < i ∧ s.2.getD j zTicket = rd_Ticket l (rd s.1 j) ∧ (0 < j → rd s.1 ((j : Int) - 1) < rd s.1 j)
  sub : s.2.Sublist (l.take i)
  ok : (mostT s.2).1 ≤ m
  full : (mostT l).1 ≤ m → s.2 = l.take i
theorem getD_app {α : Type} (z : α) (l : List α) (x : α) (j : Nat) : (l ++ [x]).getD j z = if j < l.length then l.getD j z else if j = l.length then x else z := by
  rw [List.getD_eq_getElem?_getD, List.getD_eq_getElem?_getD]
  by_cases h : j < l.length
  · rw [if_pos h, List.getElem?_append_left h]
  · rw [if_neg h, List.getElem?_append_right (by omega)]
    by_cases e : j = l.length
    · rw [if_pos e, e]; simp
    · rw [if_neg e, List.getElem?_eq_none (by simp; omega)]; rfl
theorem adm_step {l : List STicket} {m : Int} (hv : l.all tok = true) {s : List Int × List STicket} {i : Nat} (hi : i < l.length) (h : AdmI l m s i) : AdmI l m (admStep m l s i) (i + 1) := by
  have ht : l.take (i + 1) = l.take i ++ [l.getD i zTicket] := by
    rw [List.take_add_one, List.getD_eq_getElem?_getD, List.getElem?_eq_getElem hi]; rfl
  have hmem : l.getD i zTicket ∈ l := by rw [List.getD_eq_getElem?_getD, List.getElem?_eq_getElem hi]; exact List.getElem_mem _
  unfold admStep
  cases hc : canT s.2 (l.getD i zTicket) m with
  | true =>
    rw [if_pos rfl]
    unfold canT at hc
    rw [Bool.and_eq_true, decide_eq_true_eq] at hc
    refine ⟨by simp [h.len], by simp only [List.length_append, List.length_singleton]; have := h.le; omega, fun j hj => ?_, ?_, hc.2, fun hf => ?_⟩
    · simp only [List.length_append, List.length_singleton] at hj
      have hr : ∀ j' : Nat, rd (s.1 ++ [(i : Int)]) (j' : Int) = if j' < s.1.length then rd s.1 (j' : Int) else if j' = s.1.length then (i : Int) else 0 := fun j' => by rw [rd_nat, rd_nat, getD_app]
      simp only
      rw [getD_app, ← h.len]
      by_cases hj' : j < s.1.length
      · obtain ⟨q0, q1, q2, q3⟩ := h.idx j hj'
        rw [hr j, if_pos hj', if_pos hj']
        refine ⟨q0, by omega, q2, fun hp => ?_⟩
        obtain ⟨j0, rfl⟩ : ∃ j0, j = j0 + 1 := ⟨j - 1, by omega⟩
        rw [show ((j0 + 1 : Nat) : Int) - 1 = (j0 : Int) by omega, hr j0, if_pos (by omega)]
        have := q3 hp
        rwa [show ((j0 + 1 : Nat) : Int) - 1 = (j0 : Int) by omega] at this
      · have e : j = s.1.length := by omega
        rw [hr j, if_neg hj', if_pos e, if_neg hj', if_pos e]
        refine ⟨by omega, by omega, rfl, fun hp => ?_⟩
        obtain ⟨j0, rfl⟩ : ∃ j0, j = j0 + 1 := ⟨j - 1, by omega⟩
        rw [show ((j0 + 1 : Nat) : Int) - 1 = (j0 : Int) by omega, hr j0, if_pos (by omega)]
        exact (h.idx j0 (by omega)).2.1
    · simp only; rw [ht]; exact h.sub.append (List.Sublist.refl _)
    · simp only; rw [ht, h.full hf]
  | false =>
    rw [if_neg Bool.false_ne_true]
    refine ⟨h.len, by have := h.le; omega, fun j hj => ?_, ?_, h.ok, fun hf => ?_⟩
    · obtain ⟨q0, q1, q2, q3⟩ := h.idx j hj
      exact ⟨q0, by omega, q2, q3⟩
    · rw [ht]; exact h.sub.trans (List.sublist_append_left _ _)
    · exfalso
      have e := h.full hf
      have : canT s.2 (l.getD i zTicket) m = true := by
        unfold canT
        rw [e, ← ht, Bool.and_eq_true, decide_eq_true_eq]
        refine ⟨List.all_eq_true.2 fun x hx => List.all_eq_true.1 hv x (List.mem_of_mem_take hx), ?_⟩
        have := most_sub (List.take_sublist (i + 1) l)
        omega
      rw [this] at hc
      exact absurd hc (by decide)
theorem adm_all {l : List STicket} {m : Int} (hm : 0 ≤ m) (hl : l.length ≤ 40) (hv : l.all tok = true) : ∃ c, AdmI l m (admAll l m, c) l.length := by
  have key : ∀ (d i : Nat) (s : List Int × List STicket), i + d = l.length → AdmI l m s i → AdmI l m ((List.range' i d).foldl (admStep m l) s) l.length := by
    intro d
    induction d with
    | zero => intro i s hi h; rw [← hi]; exact h
    | succ d ih => intro i s hi h; rw [List.range'_succ, List.foldl_cons]; exact ih (i + 1) _ (by omega) (adm_step hv (by omega) h)
  have := key l.length 0 ([], []) (by omega) ⟨rfl, Nat.le_refl _, fun j hj => absurd hj (Nat.not_lt_zero _), by simp, by show (0 : Int) ≤ m; exact hm, fun _ => by simp⟩
  unfold admAll
  rw [if_pos hl]
  exact ⟨_, this⟩
end Go.Proofs.Ytiiflckblilhiaa.F
