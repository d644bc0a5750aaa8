/- Written by a program of the session (wip/tools/mk.py): functions of the program as plain Lean. -/
import Derived.Test.YtioplamkdoelpaaD
import Derived.Test.YtioplamkdoelpaaDx8a5191
import Derived.Test.YtioplamkdoelpaaDx9338f3
import Derived.Test.YtioplamkdoelpaaDxdf8394
namespace Go.Proofs.Ytioplamkdoelpaa.F
open Go.RowKit Go.Proofs.YtioplamkdoelpaaW.PrintWords Go.Proofs.YtioplamkdoelpaaW.PrintLast Go.Proofs.YtioplamkdoelpaaW.PrintMore
set_option linter.unusedVariables false
set_option linter.unusedSimpArgs false
def laws_FnExactAdmitAll.j0 : Nat → List (SlaTicket) → Int → List Int → List Int → Bool → Option (Bool)
  | 0, _, _, _, _, _ => none
  | k + 1, x0, x1, x6, x8, x46 => if x46 = true then (some false) else ((laws_markIntS.f k x8 1).bind fun bt220 => ((laws_heldIntS.f k bt220.2 1).bind fun t222 => (if t222 < 0 then (some false) else (if t222 = bt220.1 then ((laws_toTicketS.f k x0).bind fun t223 => ((impl_AdmitAll.f k t223 x1).bind fun t226 => ((laws_eqIntS.f k t226 x6).bind fun t229 => (if t229 = true then ((laws_heldIntS.f k bt220.2 1).bind fun t230 => (if t230 < 0 then (some false) else (if t230 = bt220.1 then (some true) else (some false)))) else (some false))))) else (some false)))))
def laws_FnExactAdmitAll.f (k : Nat) (l0 : List (SlaTicket)) (a1 : Int) : Option (Bool) := (laws_szTicketS.f l0 1048576).bind fun t199 => (if t199 < 0 then (some true) else ((laws_toTicketS.f k l0).bind fun t200 => ((spec_AdmitAll.f k t200 a1).bind fun t203 => ((laws_toTicketS.f k l0).bind fun t206 => ((impl_AdmitAll.f k t206 a1).bind fun t209 => ((laws_eqIntS.f k t209 t203).bind fun t212 => (if t212 = true then ((laws_toTicketS.f k l0).bind fun t213 => ((laws_eqTicketS.f k t206 t213).bind fun t216 => (if t216 = true then ((laws_markTicketS.f k t206 1).bind fun bt217 => (if bt217.1 < 0 then (laws_FnExactAdmitAll.j0 k l0 a1 t203 t209 true) else ((laws_eqIntS.f k t209 t203).bind fun t219 => (laws_FnExactAdmitAll.j0 k l0 a1 t203 t209 (!t219))))) else (some false)))) else (some false))))))))
theorem laws_FnExactAdmitAll.mono_l : ∀ k, (∀ y0 y1 y2 y3 y4, LeO (laws_FnExactAdmitAll.j0 k y0 y1 y2 y3 y4) (laws_FnExactAdmitAll.j0 (k + 1) y0 y1 y2 y3 y4))
  | 0 => fun _ _ _ _ _ r h => by simp [laws_FnExactAdmitAll.j0] at h
  | k + 1 => by
    have ih0 := laws_FnExactAdmitAll.mono_l k
    · intro y0 y1 y2 y3 y4
      unfold laws_FnExactAdmitAll.j0
      repeat' first
      | (with_reducible exact ih0 _ _ _ _ _)
      | (with_reducible exact impl_AdmitAll.mono _ _ _)
      | (with_reducible exact laws_eqIntS.mono _ _ _)
      | (with_reducible exact laws_eqTicketS.mono _ _ _)
      | (with_reducible exact laws_heldIntS.mono _ _ _)
      | (with_reducible exact laws_markIntS.mono _ _ _)
      | (with_reducible exact laws_markTicketS.mono _ _ _)
      | (with_reducible exact laws_toTicketS.mono _ _)
      | (with_reducible exact spec_AdmitAll.mono _ _ _)
      | (with_reducible exact LeO.refl _)
      | (with_reducible exact LeO.none _)
      | (with_reducible refine LeO.ite ?_ ?_)
      | (with_reducible refine LeO.bind ?_ (fun _ => ?_))
      | exact ih0 _ _ _ _ _
      | exact impl_AdmitAll.mono _ _ _
      | exact laws_eqIntS.mono _ _ _
      | exact laws_eqTicketS.mono _ _ _
      | exact laws_heldIntS.mono _ _ _
      | exact laws_markIntS.mono _ _ _
      | exact laws_markTicketS.mono _ _ _
      | exact laws_toTicketS.mono _ _
      | exact spec_AdmitAll.mono _ _ _
      | exact LeO.none _
      | refine LeO.ite ?_ ?_
      | refine LeO.bind ?_ (fun _ => ?_)
theorem laws_FnExactAdmitAll.mono : ∀ a0 a1 k, LeO (laws_FnExactAdmitAll.f k a0 a1) (laws_FnExactAdmitAll.f (k + 1) a0 a1) := by
  intro a0 a1 k
  have ih0 := laws_FnExactAdmitAll.mono_l k
  unfold laws_FnExactAdmitAll.f
  repeat' first
      | (with_reducible exact ih0 _ _ _ _ _)
      | (with_reducible exact impl_AdmitAll.mono _ _ _)
      | (with_reducible exact laws_eqIntS.mono _ _ _)
      | (with_reducible exact laws_eqTicketS.mono _ _ _)
      | (with_reducible exact laws_heldIntS.mono _ _ _)
      | (with_reducible exact laws_markIntS.mono _ _ _)
      | (with_reducible exact laws_markTicketS.mono _ _ _)
      | (with_reducible exact laws_toTicketS.mono _ _)
      | (with_reducible exact spec_AdmitAll.mono _ _ _)
      | (with_reducible exact LeO.refl _)
      | (with_reducible exact LeO.none _)
      | (with_reducible refine LeO.ite ?_ ?_)
      | (with_reducible refine LeO.bind ?_ (fun _ => ?_))
      | exact ih0 _ _ _ _ _
      | exact impl_AdmitAll.mono _ _ _
      | exact laws_eqIntS.mono _ _ _
      | exact laws_eqTicketS.mono _ _ _
      | exact laws_heldIntS.mono _ _ _
      | exact laws_markIntS.mono _ _ _
      | exact laws_markTicketS.mono _ _ _
      | exact laws_toTicketS.mono _ _
      | exact spec_AdmitAll.mono _ _ _
      | exact LeO.none _
      | refine LeO.ite ?_ ?_
      | refine LeO.bind ?_ (fun _ => ?_)
end Go.Proofs.Ytioplamkdoelpaa.F
