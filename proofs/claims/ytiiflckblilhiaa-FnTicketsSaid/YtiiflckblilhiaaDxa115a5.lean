/- Written by a program of the session (wip/tools/mk.py): functions of the program as plain Lean. -/
import Derived.Test.YtiiflckblilhiaaD
import Derived.Test.YtiiflckblilhiaaDx400215
namespace Go.Proofs.Ytiiflckblilhiaa.F
open Go.RowKit Go.Proofs.YtiiflckblilhiaaW.PrintWords Go.Proofs.YtiiflckblilhiaaW.PrintLast Go.Proofs.YtiiflckblilhiaaW.PrintMore
set_option linter.unusedVariables false
set_option linter.unusedSimpArgs false
def laws_big.f (l0 : List Int) : Option (Bool) := some (decide ((l0.length : Int) > 1048576))
def spec_l01Byte.f (s0_0 : List Int) (s0_1 : Int) (s0_2 : Int) : Option (Int × Int × Int) := if s0_1 < (s0_0.length : Int) then (if 0 ≤ s0_1 then (some (Go.bits .and .i64 (wrap64 ((Go.bits .and .i64 (Go.bits .xor .i64 ((wrap64 ((wrap64 (s0_2 * 6364136223846793005)) + 1442695040888963407)) / 8589934592) ((wrap64 ((wrap64 (s0_2 * 6364136223846793005)) + 1442695040888963407)) / 35184372088832)) 255) + (wrap64 (rd s0_0 s0_1)))) 255, wrap64 (s0_1 + 1), wrap64 ((wrap64 (s0_2 * 6364136223846793005)) + 1442695040888963407))) else (none)) else (some (Go.bits .and .i64 (Go.bits .xor .i64 ((wrap64 ((wrap64 (s0_2 * 6364136223846793005)) + 1442695040888963407)) / 8589934592) ((wrap64 ((wrap64 (s0_2 * 6364136223846793005)) + 1442695040888963407)) / 35184372088832)) 255, s0_1, wrap64 ((wrap64 (s0_2 * 6364136223846793005)) + 1442695040888963407)))
def spec_l01Below.f (s0_0 : List Int) (s0_1 : Int) (s0_2 : Int) (a1 : Int) : Option (Int × Int × Int) := if a1 ≤ 0 then (some (0, s0_1, s0_2)) else (if a1 ≤ 256 then ((spec_l01Byte.f s0_0 s0_1 s0_2).bind fun bt414 => (if a1 = 0 then (none) else (some (Int.tmod bt414.1 a1, bt414.2.1, bt414.2.2)))) else ((spec_l01Byte.f s0_0 s0_1 s0_2).bind fun bt417 => ((spec_l01Byte.f s0_0 bt417.2.1 bt417.2.2).bind fun bt420 => ((spec_l01Byte.f s0_0 bt420.2.1 bt420.2.2).bind fun bt423 => ((spec_l01Byte.f s0_0 bt423.2.1 bt423.2.2).bind fun bt426 => (if a1 = 0 then (none) else (some (Int.tmod (wrap64 ((wrap64 ((wrap64 ((wrap64 (bt417.1 * 16777216)) + (wrap64 (bt420.1 * 65536)))) + (wrap64 (bt423.1 * 256)))) + bt426.1)) a1, bt426.2.1, bt426.2.2))))))))
def spec_l35Ticket.f (s0_0 : List Int) (s0_1 : Int) (s0_2 : Int) : Option (Int × Int × Int × Int) := (spec_l01Below.f s0_0 s0_1 s0_2 20).bind fun bt430 => ((spec_l01Below.f s0_0 bt430.2.1 bt430.2.2 8).bind fun bt433 => (some (bt430.1, wrap64 ((wrap64 (bt430.1 + 1)) + bt433.1), bt433.2.1, bt433.2.2)))
def spec_l35List.l0 : Nat → List (STicket) → Int → Int → List Int → Int → Int → Option ((List (STicket)) × Int × Int)
  | 0, _, _, _, _, _, _ => none
  | k + 1, x3, x4, x5, x1000, x1001, x1002 => if x5 < x4 then ((spec_l35Ticket.f x1000 x1001 x1002).bind fun bt442 => (if x3.length < 8796093022208 then (spec_l35List.l0 k (x3 ++ [(⟨bt442.1, bt442.2.1⟩ : STicket)]) x4 (wrap64 (x5 + 1)) x1000 bt442.2.2.1 bt442.2.2.2) else (none))) else (some (x3, x1001, x1002))
def spec_l35List.f (k : Nat) (s0_0 : List Int) (s0_1 : Int) (s0_2 : Int) : Option ((List (STicket)) × Int × Int) := (spec_l01Below.f s0_0 s0_1 s0_2 9).bind fun bt439 => (spec_l35List.l0 k (([] : List (STicket))) bt439.1 0 s0_0 bt439.2.1 bt439.2.2)
theorem spec_l35List.mono_l : ∀ k, (∀ y0 y1 y2 y3 y4 y5, LeO (spec_l35List.l0 k y0 y1 y2 y3 y4 y5) (spec_l35List.l0 (k + 1) y0 y1 y2 y3 y4 y5))
  | 0 => fun _ _ _ _ _ _ r h => by simp [spec_l35List.l0] at h
  | k + 1 => by
    have ih0 := spec_l35List.mono_l k
    · intro y0 y1 y2 y3 y4 y5
      unfold spec_l35List.l0
      repeat' first
      | (with_reducible exact ih0 _ _ _ _ _ _)
      | (with_reducible exact LeO.refl _)
      | (with_reducible exact LeO.none _)
      | (with_reducible refine LeO.ite ?_ ?_)
      | (with_reducible refine LeO.bind ?_ (fun _ => ?_))
      | exact ih0 _ _ _ _ _ _
      | exact LeO.none _
      | refine LeO.ite ?_ ?_
      | refine LeO.bind ?_ (fun _ => ?_)
theorem spec_l35List.mono : ∀ a0 a1 a2 k, LeO (spec_l35List.f k a0 a1 a2) (spec_l35List.f (k + 1) a0 a1 a2) := by
  intro a0 a1 a2 k
  have ih0 := spec_l35List.mono_l k
  unfold spec_l35List.f
  repeat' first
      | (with_reducible exact ih0 _ _ _ _ _ _)
      | (with_reducible exact LeO.refl _)
      | (with_reducible exact LeO.none _)
      | (with_reducible refine LeO.ite ?_ ?_)
      | (with_reducible refine LeO.bind ?_ (fun _ => ?_))
      | exact ih0 _ _ _ _ _ _
      | exact LeO.none _
      | refine LeO.ite ?_ ?_
      | refine LeO.bind ?_ (fun _ => ?_)
def spec_l01New.l0 : Nat → List Int → Int → Int → Option (List Int × Int × Int)
  | 0, _, _, _ => none
  | k + 1, x0, x3, x4 => if x4 < (x0.length : Int) then (if x4 < 4000 then (if 0 ≤ x4 then (spec_l01New.l0 k x0 (Go.bits .and .i64 (wrap64 ((wrap64 ((wrap64 (x3 * 131)) + (wrap64 (rd x0 x4)))) + 7)) 1073741823) (wrap64 (x4 + 1))) else (none)) else (some (x0, 0, x3))) else (some (x0, 0, x3))
def spec_l01New.f (k : Nat) (l0 : List Int) : Option (List Int × Int × Int) := spec_l01New.l0 k l0 (wrap64 (99041 + (l0.length : Int))) 0
theorem spec_l01New.mono_l : ∀ k, (∀ y0 y1 y2, LeO (spec_l01New.l0 k y0 y1 y2) (spec_l01New.l0 (k + 1) y0 y1 y2))
  | 0 => fun _ _ _ r h => by simp [spec_l01New.l0] at h
  | k + 1 => by
    have ih0 := spec_l01New.mono_l k
    · intro y0 y1 y2
      unfold spec_l01New.l0
      repeat' first
      | (with_reducible exact ih0 _ _ _)
      | (with_reducible exact LeO.refl _)
      | (with_reducible exact LeO.none _)
      | (with_reducible refine LeO.ite ?_ ?_)
      | (with_reducible refine LeO.bind ?_ (fun _ => ?_))
      | exact ih0 _ _ _
      | exact LeO.none _
      | refine LeO.ite ?_ ?_
      | refine LeO.bind ?_ (fun _ => ?_)
theorem spec_l01New.mono : ∀ a0 k, LeO (spec_l01New.f k a0) (spec_l01New.f (k + 1) a0) := by
  intro a0 k
  have ih0 := spec_l01New.mono_l k
  unfold spec_l01New.f
  repeat' first
      | (with_reducible exact ih0 _ _ _)
      | (with_reducible exact LeO.refl _)
      | (with_reducible exact LeO.none _)
      | (with_reducible refine LeO.ite ?_ ?_)
      | (with_reducible refine LeO.bind ?_ (fun _ => ?_))
      | exact ih0 _ _ _
      | exact LeO.none _
      | refine LeO.ite ?_ ?_
      | refine LeO.bind ?_ (fun _ => ?_)
def spec_DrawTickets.f (k : Nat) (l0 : List Int) : Option ((List (STicket))) := (spec_l01New.f k l0).bind fun bt453 => ((spec_l35List.f k bt453.1 bt453.2.1 bt453.2.2).bind fun bt457 => (some bt457.1))
theorem spec_DrawTickets.mono : ∀ a0 k, LeO (spec_DrawTickets.f k a0) (spec_DrawTickets.f (k + 1) a0) := by
  intro a0 k
  unfold spec_DrawTickets.f
  repeat' first
      | (with_reducible exact spec_l01New.mono _ _)
      | (with_reducible exact spec_l35List.mono _ _ _ _)
      | (with_reducible exact LeO.refl _)
      | (with_reducible exact LeO.none _)
      | (with_reducible refine LeO.ite ?_ ?_)
      | (with_reducible refine LeO.bind ?_ (fun _ => ?_))
      | exact spec_l01New.mono _ _
      | exact spec_l35List.mono _ _ _ _
      | exact LeO.none _
      | refine LeO.ite ?_ ?_
      | refine LeO.bind ?_ (fun _ => ?_)
def laws_at.f (l0 : List Int) (a1 : Int) : Option (Int) := if (l0.length : Int) = 0 then (some 0) else (if 0 ≤ (Int.tmod (wrap64 ((wrap64 (a1 * 5)) + 1)) (l0.length : Int)) then (if (Int.tmod (wrap64 ((wrap64 (a1 * 5)) + 1)) (l0.length : Int)) < (l0.length : Int) then (some (wrap64 (rd l0 (Int.tmod (wrap64 ((wrap64 (a1 * 5)) + 1)) (l0.length : Int))))) else (none)) else (none))
def impl_AdmitAll.l0 : Nat → Int → List Int → List (STicket) → List (STicket) → Int → Int → Option (List Int)
  | 0, _, _, _, _, _, _ => none
  | k + 1, x1, x5, x6, x12, x13, x14 => if x14 < x13 then (if 0 ≤ x14 then (if x14 < (x12.length : Int) then ((impl_CanAdmit.f k x6 ((rd_Ticket x12 x14).f0) ((rd_Ticket x12 x14).f1) x1).bind fun t465 => (if t465 = true then ((some (([x14] : List Int) : List Int)).bind fun y466 => (if x5.length + y466.length < 17592186044416 then ((some (([(⟨(rd_Ticket x12 x14).f0, (rd_Ticket x12 x14).f1⟩ : STicket)] : List (STicket)) : List (STicket))).bind fun y472 => (if x6.length + y472.length < 8796093022208 then (impl_AdmitAll.l0 k x1 (x5 ++ y466) (x6 ++ y472) x12 x13 (wrap64 (x14 + 1))) else (none))) else (none))) else (impl_AdmitAll.l0 k x1 x5 x6 x12 x13 (wrap64 (x14 + 1))))) else (none)) else (none)) else (some x5)
def impl_AdmitAll.f (k : Nat) (l0 : List (STicket)) (a1 : Int) : Option (List Int) := if (l0.length : Int) > 40 then (some ([] : List Int)) else (impl_AdmitAll.l0 k a1 ([] : List Int) ([] : List (STicket)) l0 (l0.length : Int) 0)
theorem impl_AdmitAll.mono_l : ∀ k, (∀ y0 y1 y2 y3 y4 y5, LeO (impl_AdmitAll.l0 k y0 y1 y2 y3 y4 y5) (impl_AdmitAll.l0 (k + 1) y0 y1 y2 y3 y4 y5))
  | 0 => fun _ _ _ _ _ _ r h => by simp [impl_AdmitAll.l0] at h
  | k + 1 => by
    have ih0 := impl_AdmitAll.mono_l k
    · intro y0 y1 y2 y3 y4 y5
      unfold impl_AdmitAll.l0
      repeat' first
      | (with_reducible exact ih0 _ _ _ _ _ _)
      | (with_reducible exact impl_CanAdmit.mono _ _ _ _ _)
      | (with_reducible exact LeO.refl _)
      | (with_reducible exact LeO.none _)
      | (with_reducible refine LeO.ite ?_ ?_)
      | (with_reducible refine LeO.bind ?_ (fun _ => ?_))
      | exact ih0 _ _ _ _ _ _
      | exact impl_CanAdmit.mono _ _ _ _ _
      | exact LeO.none _
      | refine LeO.ite ?_ ?_
      | refine LeO.bind ?_ (fun _ => ?_)
theorem impl_AdmitAll.mono : ∀ a0 a1 k, LeO (impl_AdmitAll.f k a0 a1) (impl_AdmitAll.f (k + 1) a0 a1) := by
  intro a0 a1 k
  have ih0 := impl_AdmitAll.mono_l k
  unfold impl_AdmitAll.f
  repeat' first
      | (with_reducible exact ih0 _ _ _ _ _ _)
      | (with_reducible exact impl_CanAdmit.mono _ _ _ _ _)
      | (with_reducible exact LeO.refl _)
      | (with_reducible exact LeO.none _)
      | (with_reducible refine LeO.ite ?_ ?_)
      | (with_reducible refine LeO.bind ?_ (fun _ => ?_))
      | exact ih0 _ _ _ _ _ _
      | exact impl_CanAdmit.mono _ _ _ _ _
      | exact LeO.none _
      | refine LeO.ite ?_ ?_
      | refine LeO.bind ?_ (fun _ => ?_)
end Go.Proofs.Ytiiflckblilhiaa.F
