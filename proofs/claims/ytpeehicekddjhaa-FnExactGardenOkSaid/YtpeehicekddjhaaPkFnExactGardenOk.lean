/- The law FnExactGardenOk: for every input it answers true. -/
import Derived.Test.YtpeehicekddjhaaPkFnExactGardenOk8
import Derived.Test.YtpeehicekddjhaaRows
import Derived.WalkKit
import Derived.ProofKit
import Derived.OpenShut
import Derived.ShutString
import Derived.ChangeOld
import Derived.Below
import Derived.SizedLaws
import Derived.Laws.StructEq
namespace Go.Proofs.Ytpeehicekddjhaa.fnExactGardenOk
open Go.ChangeShapes Go.WideShapes Go.ChangeAt Go.RowKit Go.Proofs.Ytpeehicekddjhaa.F Go.Proofs.YtpeehicekddjhaaW.PrintWords
open Go.ChangeMaps (open_string shut_string)
theorem own : ownKnob Try.prog.godebug = none := by kernel_rfl
theorem laidOut : laidOutB Try.prog = true := by kernel_rfl
theorem opens_55 : Opens Try.prog 55 k55 (fun x : SlaGrid => (I64 (x.f0)) ∧ (I64 (x.f1))) := opens_iso (fun x : SlaGrid => (x.f0, x.f1)) (fun a => ⟨a.1, a.2⟩) (fun _ => rfl) (opens_struct Try.underlying55 (by kernel_rfl) (opensF_cons rfl (by kernel_rfl) (opens_i64 Try.underlying3) (opensF_last rfl (by kernel_rfl) (opens_i64 Try.underlying3))))
theorem opens_57 : Opens Try.prog 57 k57 (fun x : SlaMaze => ((I64 (x.f0.f0)) ∧ (I64 (x.f0.f1))) ∧ (I64 (x.f1))) := opens_iso (fun x : SlaMaze => (x.f0, x.f1)) (fun a => ⟨a.1, a.2⟩) (fun _ => rfl) (opens_struct Try.underlying57 (by kernel_rfl) (opensF_cons rfl (by kernel_rfl) opens_55 (opensF_last rfl (by kernel_rfl) (opens_i64 Try.underlying3))))
theorem opens_39 : Opens Try.prog 39 (Kd.slice 3 (Kd.int .i64)) (fun x : List (Int) => (x).length ≤ 9223372036854775807 ∧ ∀ y ∈ x, I64 (y)) := opens_slice 3 (0 : Int) Try.underlying39 (by kernel_rfl) (opens_i64 Try.underlying3)
theorem opens_76 : Opens Try.prog 76 k76 (fun x : SlaHedge => (((I64 (x.f0.f0.f0)) ∧ (I64 (x.f0.f0.f1))) ∧ (I64 (x.f0.f1))) ∧ ((x.f1).length ≤ 9223372036854775807 ∧ ∀ y ∈ x.f1, I64 (y)) ∧ (I64 (x.f2))) := opens_iso (fun x : SlaHedge => (x.f0, x.f1, x.f2)) (fun a => ⟨a.1, a.2.1, a.2.2⟩) (fun _ => rfl) (opens_struct Try.underlying76 (by kernel_rfl) (opensF_cons rfl (by kernel_rfl) opens_57 (opensF_cons rfl (by kernel_rfl) opens_39 (opensF_last rfl (by kernel_rfl) (opens_i64 Try.underlying3)))))
theorem opens_78 : Opens Try.prog 78 k78 (fun x : SlaGarden => ((((I64 (x.f0.f0.f0.f0)) ∧ (I64 (x.f0.f0.f0.f1))) ∧ (I64 (x.f0.f0.f1))) ∧ ((x.f0.f1).length ≤ 9223372036854775807 ∧ ∀ y ∈ x.f0.f1, I64 (y)) ∧ (I64 (x.f0.f2))) ∧ (I64 (x.f1)) ∧ ((x.f2).length ≤ 9223372036854775807 ∧ ∀ y ∈ x.f2, I64 (y)) ∧ (I64 (x.f3))) := opens_iso (fun x : SlaGarden => (x.f0, x.f1, x.f2, x.f3)) (fun a => ⟨a.1, a.2.1, a.2.2.1, a.2.2.2⟩) (fun _ => rfl) (opens_struct Try.underlying78 (by kernel_rfl) (opensF_cons rfl (by kernel_rfl) opens_76 (opensF_cons rfl (by kernel_rfl) (opens_i64 Try.underlying3) (opensF_cons rfl (by kernel_rfl) opens_39 (opensF_last rfl (by kernel_rfl) (opens_i64 Try.underlying3))))))
set_option maxRecDepth 100000 in
theorem lifted (os : Os) (started : os.Started) (H : Type) (enc : TypeId × Value → H) :
    ReturnsInHanded {} Try.checked os 8 .any (Rows.fnExactGardenOkSpec.pre6 enc Try.prog Try.f8 Rows.fnExactGardenOkRow.domain false) (Rows.fnExactGardenOkSpec.post enc Try.prog Try.f8 false true false false) := by
  refine returnsInHanded_of_change_sized (C := Try.checked) own started (by kernel_rfl) Try.func8
    (ChangeSpec.witness6 (enc := enc) (C := Try.checked) false ⟨#[], #[.agg #[.int .i64 0, .int .i64 0, .int .i64 0, .slice none 0 0, .int .i64 0, .int .i64 0, .slice none 0 0, .int .i64 0]], []⟩ 8 (by kernel_rfl) (by kernel_rfl) (by kernel_rfl) (by kernel_rfl)) ?_
  intro W base args ds gs before hval0 hW hcnd hsz0 _
  have hval : ∀ (j : Nat) t v, Try.f8.params[j]? = some t → args[j]? = some v → Value.okWide Try.prog W .any base t v := hval0
  have hW' := hW
  obtain ⟨p, q, hA0, hV, rfl, hfz, hnd⟩ := hW
  have hA : DataW.TrodAll enc Try.prog W 0 (fun _ => true) true Try.f8.params.toList args.toList ds p := hA0
  rw [Try.params8] at hA hval
  obtain ⟨v0, vs0, d0, ds0, p0, q0, hargs, rfl, rfl, h0, r0⟩ := trodAll_cons hA
  obtain ⟨rfl, rfl, rfl⟩ := trodAll_nil r0
  obtain rfl : args = #[v0] := by cases args; simp_all
  obtain ⟨rfl, rfl⟩ := trodVars_none hV
  have k0 := h0
  have lt0 : ∀ x ∈ p0, x.block < W.heap.size := by obtain ⟨m, hm⟩ := k0; exact DataW.trod_lt m _ _ _ hm
  obtain ⟨cs0, rfl, hz0⟩ := okWide_struct Try.underlying78 (hval 0 78 v0 rfl rfl)
  obtain ⟨fu0, hf0⟩ := h0
  obtain ⟨x0, hK0, hw0⟩ := opens_78 _ _ _ _ _ _ _ hf0
  obtain ⟨A0_3, c0_3, A0_6, c0_6, hcs0, l0_3, g0_3, l0_6, g0_6⟩ := k78_open hK0
  obtain rfl : cs0 = #[.int .i64 x0.f0.f0.f0.f0, .int .i64 x0.f0.f0.f0.f1, .int .i64 x0.f0.f0.f1, .slice A0_3 (x0.f0.f1).length c0_3, .int .i64 x0.f0.f2, .int .i64 x0.f1, .slice A0_6 (x0.f2).length c0_6, .int .i64 x0.f3] := by apply Array.ext'; simpa [Value.cells] using hcs0
  clear hA0 hval0 hsz0
  obtain ⟨k, h⟩ := FnExactGardenOk_pure x0.f0.f0.f0.f0 x0.f0.f0.f0.f1 x0.f0.f0.f1 x0.f0.f1 x0.f0.f2 x0.f1 x0.f2 x0.f3 hw0.1.1.1.1 hw0.1.1.1.2 hw0.1.1.2 hw0.1.2.1 hw0.1.2.2 hw0.2.1 hw0.2.2.1 hw0.2.2.2
  refine (laws_FnExactGardenOk.calls k x0.f0.f0.f0.f0 x0.f0.f0.f0.f1 x0.f0.f0.f1 _ _ x0.f0.f1 x0.f0.f2 x0.f1 _ _ x0.f2 x0.f3 W g0_3 l0_3 g0_6 l0_6 h).mono fun e W' ⟨he, bel⟩ => ?_
  subst he
  exact ⟨_, rfl, _, _, _, [], _, [], hW', trodAll_mk1 (shut_bool Try.underlying4 _), (trodAll_cons_mk (Below.trod laidOut (by kernel_rfl) (of_decide_eq_true (by kernel_rfl)) k0 bel lt0) trodAll_mk0), rfl, bel.frame _, fun h => by cases h⟩
theorem over : Rows.fnExactGardenOkRow.holds Try.pinned (OpenSpec.ofChange Rows.fnExactGardenOkSpec) :=
  OpenClaim.holds_of_wide 8 Try.f8 rfl rfl rfl rfl rfl rfl rfl ⟨rfl, rfl, rfl, rfl, rfl⟩ rfl rfl rfl rfl rfl (by kernel_rfl) Try.func8 (by kernel_rfl)
    (of_decide_eq_true (by kernel_rfl)) (by unfold Func.isWrapper; first | (rw [if_pos (by decide +kernel)]; kernel_rfl) | (rw [if_neg (by decide +kernel)]; exact ⟨rfl, rfl⟩))
    (fun os started H enc _ => lifted os started H enc)
theorem proved : Rows.FnExactGardenOkSaid := over
end Go.Proofs.Ytpeehicekddjhaa.fnExactGardenOk
namespace Go.Proofs.Ytpeehicekddjhaa
theorem fnExactGardenOk_holds : Rows.FnExactGardenOkSaid := fnExactGardenOk.proved
end Go.Proofs.Ytpeehicekddjhaa
