/- For every code: never are more inside than allowed, and all are let in where there is room. -/
import Derived.Test.YtiiflckblilhiaaPT2
import Derived.Test.YtiiflckblilhiaaPDT
import Derived.Test.YtiiflckblilhiaaDLFnTickets
import Derived.Test.YtiiflckblilhiaaDx1caa52
import Derived.Test.YtiiflckblilhiaaDxa115a5
namespace Go.Proofs.Ytiiflckblilhiaa.F
open Go.RowKit Go.Proofs.YtiiflckblilhiaaW.PrintWords Go.Proofs.YtiiflckblilhiaaW.PrintLast Go.Proofs.YtiiflckblilhiaaW.PrintMore
set_option linter.unusedVariables false
set_option linter.unusedSimpArgs false

theorem tickets_end {k : Nat} {t c : List STicket} {m : Int} {ins : List Int} (hk : 100 ≤ k) (hl : t.length ≤ 8) (hv : t.all tok = true) (hA : AdmI t m (ins, c) t.length) (hm : 0 ≤ m) : laws_FnTickets.l1 k t m ins (mostT t).1 (mostT t).2 (mostI c).1 0 = some true := by
  have hd : ∀ x ∈ t, x.f0 < x.f1 := fun x hx => by
    have := List.all_eq_true.1 hv x hx
    unfold tok at this
    exact (of_decide_eq_true this).2.2
  obtain ⟨f1, f2⟩ := mostT_first hd
  have hI : t.length ≤ 9223372036854775806 := by omega
  obtain ⟨s, _, e⟩ := inv_loop (n := 40) (c := 50) (F := fun k (s : Unit) i => laws_FnTickets.l1 k t m ins (mostT t).1 (mostT t).2 (mostI c).1 i) (fin := fun _ => true) (I := fun _ _ => True)
    (fun k s i hk hi _ => ⟨(), trivial, by
      simp only [laws_FnTickets.l1]
      have hle := inside_le_most t (i : Int)
      rw [if_pos (by omega), impl_InsideAt_eq hI (by omega), Option.bind_some, if_neg (by omega), Option.bind_some, w64_succ hi (by omega)]
      by_cases h1 : inside t (i : Int) = (mostT t).1
      · rw [if_pos h1]
        by_cases h2 : (mostT t).1 > 0
        · rw [if_pos h2, if_neg (by have := f2 i h1 h2; omega)]
        · rw [if_neg h2]
      · rw [if_neg h1]⟩)
    (fun k s hk _ => by
      simp only [laws_FnTickets.l1]
      have hc : (mostI c).1 ≤ m := by
        unfold mostI
        split
        · exact hA.ok
        · exact hm
      rw [if_neg (by omega), if_pos hc]
      have hlen : (((ins.length : Int) == (t.length : Int)) == (decide ((mostT t).1 ≤ m))) = true := by
        by_cases h : (mostT t).1 ≤ m
        · have h1 := hA.full h
          have h2 := hA.len
          simp only at h1 h2
          rw [h1, List.take_length] at h2
          rw [decide_eq_true h, show ((ins.length : Int) == (t.length : Int)) = true by rw [h2]; simp]
          rfl
        · rw [decide_eq_false h]
          have : ¬ ins.length = t.length := fun q => by
            have h2 := hA.len
            have h3 := hA.sub
            simp only [List.take_length] at h2 h3
            have h4 := h3.eq_of_length (by omega)
            have h5 := hA.ok
            simp only [h4] at h5
            exact h h5
          rw [show ((ins.length : Int) == (t.length : Int)) = false by simp; omega]
          rfl
      rw [if_pos hlen, impl_InsideAt_eq hI (by omega), Option.bind_some, if_pos f1]
      have hmI : mostI t = mostT t := by unfold mostI; rw [if_pos ⟨by omega, hv⟩]
      have hfr : impl_FewestRooms.f k t = some (mostT t).1 := by
        unfold impl_FewestRooms.f
        rw [impl_MostInside_eq hI (by omega), hmI]
        rfl
      rw [hfr, Option.bind_some, if_pos rfl]
      by_cases h0 : (t.length : Int) = 0
      · rw [if_pos h0]
      · rw [if_neg h0, if_pos (by omega), if_pos (by omega)]
        have hca := impl_CanAdmit_eq (k := k) (l := t.drop 1) (by simp; omega) (by simp; omega) (rd_Ticket t 0) (mostT t).1
        rw [hca, Option.bind_some]
        congr 1
        cases t with
        | nil => exact absurd rfl h0
        | cons x t =>
          have hx : rd_Ticket (x :: t) 0 = x := rfl
          have hp : (t ++ [x]).Perm (x :: t) := List.perm_append_singleton x t
          unfold canT
          rw [hx, List.drop_one, List.tail_cons, Bool.and_eq_true, decide_eq_true_eq]
          exact ⟨List.all_eq_true.2 fun y hy => List.all_eq_true.1 hv y (hp.mem_iff.1 hy), most_perm hp⟩) 40 0 k () (by omega) (by omega) trivial
  exact e

theorem FnTickets_pure : ∀ (l0 : List (Int)), ((l0).length ≤ 9223372036854775807 ∧ ∀ y ∈ l0, 0 ≤ y ∧ y ≤ 255) → ∃ k, laws_FnTickets.f k l0 = some true := by
  intro l hl
  refine ⟨l.length + 1000, ?_⟩
  unfold laws_FnTickets.f laws_big.f
  rw [Option.bind_some]
  by_cases hbig : (l.length : Int) > 1048576
  · rw [if_pos (by simpa using hbig)]
  · rw [if_neg (by simpa using hbig)]
    obtain ⟨t, et, tl, td⟩ := tickets_draw (k := l.length + 1000) (l := l) (by omega) (by omega)
    obtain ⟨b, eb, b0, b1⟩ := at_draw (l := l) (a := 0) (by decide) (by decide) (by omega) hl.2
    have hm0 : 0 ≤ Int.tmod b 5 := Int.tmod_nonneg _ b0
    have hm1 : Int.tmod b 5 < 5 := Int.tmod_lt_of_pos _ (by decide)
    have hv : t.all tok = true := List.all_eq_true.2 fun x hx => by
      obtain ⟨d0, d1, d2, d3⟩ := td x hx
      exact decide_eq_true ⟨d0, by omega, d2⟩
    obtain ⟨c, hA⟩ := adm_all hm0 (by omega) hv
    rw [et, Option.bind_some, eb, Option.bind_some, impl_AdmitAll_eq (by omega) (by omega), Option.bind_some]
    generalize Int.tmod b 5 = m at hm0 hm1 hA ⊢
    generalize admAll t m = ins at hA ⊢
    have hlen := hA.len
    have hle := hA.le
    simp only at hlen hle
    obtain ⟨s, _, e⟩ := inv_loop (n := ins.length) (c := 500) (F := fun k (s : List STicket) i => laws_FnTickets.l0 k t m ins s i) (fin := fun _ => true) (I := fun s i => s = c.take i)
      (fun k s i hk hi hs => by
        refine ⟨c.take (i + 1), rfl, ?_⟩
        obtain ⟨q0, q1, q2, q3⟩ := hA.idx i hi
        simp only at q0 q1 q2 q3
        have ht : c.take (i + 1) = s ++ [⟨(rd_Ticket t (rd ins (i : Int))).f0, (rd_Ticket t (rd ins (i : Int))).f1⟩] := by
          rw [List.take_add_one, ← hs, List.getElem?_eq_getElem (by omega)]
          congr 1
          rw [List.getD_eq_getElem?_getD, List.getElem?_eq_getElem (by omega)] at q2
          simp only [Option.getD_some] at q2
          simp only [Option.toList_some, q2]
        have hsl : s.length ≤ 8 := by rw [hs]; simp; omega
        simp only [laws_FnTickets.l0]
        rw [if_pos (by omega), if_pos (by omega), if_neg (by omega), if_neg (by omega), w64_succ hi (by omega), ← ht]
        by_cases h0 : (i : Int) > 0
        · rw [if_pos h0, w64 (x := (i : Int) - 1) (by omega) (by omega), if_pos (by omega), if_pos (by omega), if_neg (by have := q3 (by omega); omega), if_pos q0, if_pos (by omega), if_pos (by omega)]
        · rw [if_neg h0, if_pos q0, if_pos (by omega), if_pos (by omega)])
      (fun k s hk hs => by
        have hs' : s = c := by rw [hs, hlen, List.take_length]
        simp only [laws_FnTickets.l0]
        rw [if_neg (by omega), impl_MostInside_eq (by omega) (by omega), Option.bind_some, hs', impl_MostInside_eq (by omega) (by omega), Option.bind_some]
        have hmI : mostI t = mostT t := by unfold mostI; rw [if_pos ⟨by omega, hv⟩]
        rw [hmI]
        exact tickets_end (by omega) tl hv hA hm0) ins.length 0 (l.length + 1000) [] (by omega) (by omega) (by simp)
    exact e
end Go.Proofs.Ytiiflckblilhiaa.F
