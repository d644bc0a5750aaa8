/- The law FnExactBetweenCells: for every input it answers true. -/
import Derived.Test.YtimejdhglmajdaaPkFnExactBetweenCells9
import Derived.Test.YtimejdhglmajdaaPkFnExactBetweenCells10
import Derived.Test.YtimejdhglmajdaaRows
import Derived.WalkKit
import Derived.ProofKit
import Derived.OpenShut
import Derived.ShutString
import Derived.ChangeOld
import Derived.Below
import Derived.SizedLaws
import Derived.Laws.StructEq
namespace Go.Proofs.Ytimejdhglmajdaa.fnExactBetweenCells
open Go.ChangeShapes Go.WideShapes Go.ChangeAt Go.RowKit Go.Proofs.Ytimejdhglmajdaa.F Go.Proofs.YtimejdhglmajdaaW.PrintWords
open Go.ChangeMaps (open_string shut_string)
theorem own : ownKnob Try.prog.godebug = none := by kernel_rfl
theorem laidOut : laidOutB Try.prog = true := by kernel_rfl
theorem opens_23 : Opens Try.prog 23 k23 (fun x : SlaGrid => (I64 (x.f0)) ∧ (I64 (x.f1))) := opens_iso (fun x : SlaGrid => (x.f0, x.f1)) (fun a => ⟨a.1, a.2⟩) (fun _ => rfl) (opens_struct Try.underlying23 (by kernel_rfl) (opensF_cons rfl (by kernel_rfl) (opens_i64 Try.underlying3) (opensF_last rfl (by kernel_rfl) (opens_i64 Try.underlying3))))
theorem opens_25 : Opens Try.prog 25 k25 (fun x : SlaMaze => ((I64 (x.f0.f0)) ∧ (I64 (x.f0.f1))) ∧ (I64 (x.f1))) := opens_iso (fun x : SlaMaze => (x.f0, x.f1)) (fun a => ⟨a.1, a.2⟩) (fun _ => rfl) (opens_struct Try.underlying25 (by kernel_rfl) (opensF_cons rfl (by kernel_rfl) opens_23 (opensF_last rfl (by kernel_rfl) (opens_i64 Try.underlying3))))
theorem opens_139 : Opens Try.prog 139 k139 (fun x : SlaGate => (I64 (x.f0)) ∧ (I64 (x.f1))) := opens_iso (fun x : SlaGate => (x.f0, x.f1)) (fun a => ⟨a.1, a.2⟩) (fun _ => rfl) (opens_struct Try.underlying139 (by kernel_rfl) (opensF_cons rfl (by kernel_rfl) (opens_i64 Try.underlying3) (opensF_last rfl (by kernel_rfl) (opens_i64 Try.underlying3))))
theorem opens_49 : Opens Try.prog 49 (Kd.slice 139 k139) (fun x : List (SlaGate) => (x).length ≤ 9223372036854775807 ∧ ∀ y ∈ x, (I64 (y.f0)) ∧ (I64 (y.f1))) := opens_slice 139 zlaGate Try.underlying49 (by kernel_rfl) opens_139
theorem opens_51 : Opens Try.prog 51 k51 (fun x : SlaTimed => (((I64 (x.f0.f0.f0)) ∧ (I64 (x.f0.f0.f1))) ∧ (I64 (x.f0.f1))) ∧ (I64 (x.f1)) ∧ ((x.f2).length ≤ 9223372036854775807 ∧ ∀ y ∈ x.f2, (I64 (y.f0)) ∧ (I64 (y.f1)))) := opens_iso (fun x : SlaTimed => (x.f0, x.f1, x.f2)) (fun a => ⟨a.1, a.2.1, a.2.2⟩) (fun _ => rfl) (opens_struct Try.underlying51 (by kernel_rfl) (opensF_cons rfl (by kernel_rfl) opens_25 (opensF_cons rfl (by kernel_rfl) (opens_i64 Try.underlying3) (opensF_last rfl (by kernel_rfl) opens_49))))
theorem opens_53 : Opens Try.prog 53 k53 (fun x : SlaEntry => (I64 (x.f0)) ∧ (I64 (x.f1))) := opens_iso (fun x : SlaEntry => (x.f0, x.f1)) (fun a => ⟨a.1, a.2⟩) (fun _ => rfl) (opens_struct Try.underlying53 (by kernel_rfl) (opensF_cons rfl (by kernel_rfl) (opens_i64 Try.underlying3) (opensF_last rfl (by kernel_rfl) (opens_i64 Try.underlying3))))
set_option maxRecDepth 100000 in
theorem lifted (os : Os) (started : os.Started) (H : Type) (enc : TypeId × Value → H) :
    ReturnsInHanded {} Try.checked os 14 .any (Rows.fnExactBetweenCellsSpec.pre6 enc Try.prog Try.f14 Rows.fnExactBetweenCellsRow.domain false) (Rows.fnExactBetweenCellsSpec.post enc Try.prog Try.f14 false true false false) := by
  refine returnsInHanded_of_change_sized (C := Try.checked) own started (by kernel_rfl) Try.func14
    (ChangeSpec.witness6 (enc := enc) (C := Try.checked) false ⟨#[], #[.agg #[.int .i64 0, .int .i64 0, .int .i64 0, .int .i64 0, .slice none 0 0], .agg #[.int .i64 0, .int .i64 0], .agg #[.int .i64 0, .int .i64 0], .int .i64 0], []⟩ 8 (by kernel_rfl) (by kernel_rfl) (by kernel_rfl) (by kernel_rfl)) ?_
  intro W base args ds gs before hval0 hW hcnd hsz0 _
  have hval : ∀ (j : Nat) t v, Try.f14.params[j]? = some t → args[j]? = some v → Value.okWide Try.prog W .any base t v := hval0
  have hW' := hW
  obtain ⟨p, q, hA0, hV, rfl, hfz, hnd⟩ := hW
  have hA : DataW.TrodAll enc Try.prog W 0 (fun _ => true) true Try.f14.params.toList args.toList ds p := hA0
  rw [Try.params14] at hA hval
  obtain ⟨v0, vs0, d0, ds0, p0, q0, hargs, rfl, rfl, h0, r0⟩ := trodAll_cons hA
  obtain ⟨v1, vs1, d1, ds1, p1, q1, rfl, rfl, rfl, h1, r1⟩ := trodAll_cons r0
  obtain ⟨v2, vs2, d2, ds2, p2, q2, rfl, rfl, rfl, h2, r2⟩ := trodAll_cons r1
  obtain ⟨v3, vs3, d3, ds3, p3, q3, rfl, rfl, rfl, h3, r3⟩ := trodAll_cons r2
  obtain ⟨rfl, rfl, rfl⟩ := trodAll_nil r3
  obtain rfl : args = #[v0, v1, v2, v3] := by cases args; simp_all
  obtain ⟨rfl, rfl⟩ := trodVars_none hV
  have k0 := h0
  have lt0 : ∀ x ∈ p0, x.block < W.heap.size := by obtain ⟨m, hm⟩ := k0; exact DataW.trod_lt m _ _ _ hm
  obtain ⟨cs0, rfl, hz0⟩ := okWide_struct Try.underlying51 (hval 0 51 v0 rfl rfl)
  obtain ⟨fu0, hf0⟩ := h0
  obtain ⟨x0, hK0, hw0⟩ := opens_51 _ _ _ _ _ _ _ hf0
  obtain ⟨A0_4, c0_4, hcs0, l0_4, g0_4⟩ := k51_open hK0
  obtain rfl : cs0 = #[.int .i64 x0.f0.f0.f0, .int .i64 x0.f0.f0.f1, .int .i64 x0.f0.f1, .int .i64 x0.f1, .slice A0_4 (x0.f2).length c0_4] := by apply Array.ext'; simpa [Value.cells] using hcs0
  have k1 := h1
  have lt1 : ∀ x ∈ p1, x.block < W.heap.size := by obtain ⟨m, hm⟩ := k1; exact DataW.trod_lt m _ _ _ hm
  obtain ⟨cs1, rfl, hz1⟩ := okWide_struct Try.underlying53 (hval 1 53 v1 rfl rfl)
  obtain ⟨fu1, hf1⟩ := h1
  obtain ⟨x1, hK1, hw1⟩ := opens_53 _ _ _ _ _ _ _ hf1
  have hcs1 := k53_open hK1
  obtain rfl : cs1 = #[.int .i64 x1.f0, .int .i64 x1.f1] := by apply Array.ext'; simpa [Value.cells] using hcs1
  have k2 := h2
  have lt2 : ∀ x ∈ p2, x.block < W.heap.size := by obtain ⟨m, hm⟩ := k2; exact DataW.trod_lt m _ _ _ hm
  obtain ⟨cs2, rfl, hz2⟩ := okWide_struct Try.underlying53 (hval 2 53 v2 rfl rfl)
  obtain ⟨fu2, hf2⟩ := h2
  obtain ⟨x2, hK2, hw2⟩ := opens_53 _ _ _ _ _ _ _ hf2
  have hcs2 := k53_open hK2
  obtain rfl : cs2 = #[.int .i64 x2.f0, .int .i64 x2.f1] := by apply Array.ext'; simpa [Value.cells] using hcs2
  have k3 := h3
  have lt3 : ∀ x ∈ p3, x.block < W.heap.size := by obtain ⟨m, hm⟩ := k3; exact DataW.trod_lt m _ _ _ hm
  obtain ⟨x3, rfl, rfl, rfl, hw3⟩ := open_int Try.underlying3 (hval 3 3 v3 rfl rfl) h3
  clear hA0 hval0 hsz0
  obtain ⟨k, h⟩ := FnExactBetweenCells_pure x0.f0.f0.f0 x0.f0.f0.f1 x0.f0.f1 x0.f1 x0.f2 x1.f0 x1.f1 x2.f0 x2.f1 x3 hw0.1.1.1 hw0.1.1.2 hw0.1.2 hw0.2.1 hw0.2.2 hw1.1 hw1.2 hw2.1 hw2.2 (i64_of_wf hw3)
  refine (laws_FnExactBetweenCells.calls k x0.f0.f0.f0 x0.f0.f0.f1 x0.f0.f1 x0.f1 _ _ x0.f2 x1.f0 x1.f1 x2.f0 x2.f1 x3 W g0_4 l0_4 h).mono fun e W' ⟨he, bel⟩ => ?_
  subst he
  exact ⟨_, rfl, _, _, _, [], _, [], hW', trodAll_mk1 (shut_bool Try.underlying4 _), (trodAll_cons_mk (Below.trod laidOut (by kernel_rfl) (of_decide_eq_true (by kernel_rfl)) k0 bel lt0) (trodAll_cons_mk (Below.trod laidOut (by kernel_rfl) (of_decide_eq_true (by kernel_rfl)) k1 bel lt1) (trodAll_cons_mk (Below.trod laidOut (by kernel_rfl) (of_decide_eq_true (by kernel_rfl)) k2 bel lt2) (trodAll_cons_mk (Below.trod laidOut (by kernel_rfl) (of_decide_eq_true (by kernel_rfl)) k3 bel lt3) trodAll_mk0)))), rfl, bel.frame _, fun h => by cases h⟩
theorem over : Rows.fnExactBetweenCellsRow.holds Try.pinned (OpenSpec.ofChange Rows.fnExactBetweenCellsSpec) :=
  OpenClaim.holds_of_wide 14 Try.f14 rfl rfl rfl rfl rfl rfl rfl ⟨rfl, rfl, rfl, rfl, rfl⟩ rfl rfl rfl rfl rfl (by kernel_rfl) Try.func14 (by kernel_rfl)
    (of_decide_eq_true (by kernel_rfl)) (by unfold Func.isWrapper; first | (rw [if_pos (by decide +kernel)]; kernel_rfl) | (rw [if_neg (by decide +kernel)]; exact ⟨rfl, rfl⟩))
    (fun os started H enc _ => lifted os started H enc)
theorem proved : Rows.FnExactBetweenCellsSaid := over
end Go.Proofs.Ytimejdhglmajdaa.fnExactBetweenCells
namespace Go.Proofs.Ytimejdhglmajdaa
theorem fnExactBetweenCells_holds : Rows.FnExactBetweenCellsSaid := fnExactBetweenCells.proved
end Go.Proofs.Ytimejdhglmajdaa
