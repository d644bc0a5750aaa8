/- The law FnExactRunActs: for every input it answers true. -/
import Derived.Test.YtkindoepnganmaaGreatPkFnExactRunActs12
import Derived.Test.YtkindoepnganmaaGreatPkFnExactRunActs13
import Derived.Test.YtkindoepnganmaaGreatRows
import Derived.WalkKit
import Derived.ProofKit
import Derived.OpenShut
import Derived.ShutString
import Derived.ChangeOld
import Derived.Below
import Derived.SizedLaws
namespace Go.Proofs.YtkindoepnganmaaGreat.fnExactRunActs
open Go.ChangeShapes Go.WideShapes Go.ChangeAt Go.RowKit Go.Proofs.YtkindoepnganmaaGreat.F Go.Proofs.YtkindoepnganmaaGreatW.PrintWords
open Go.ChangeMaps (open_string shut_string)
theorem own : ownKnob Tryz.prog.godebug = none := by kernel_rfl
theorem laidOut : laidOutB Tryz.prog = true := by kernel_rfl
theorem opens_23 : Opens Tryz.prog 23 k23 (fun x : SlaGrid => (I64 (x.f0)) ∧ (I64 (x.f1))) := opens_iso (fun x : SlaGrid => (x.f0, x.f1)) (fun a => ⟨a.1, a.2⟩) (fun _ => rfl) (opens_struct Tryz.underlying23 (by kernel_rfl) (opensF_cons rfl (by kernel_rfl) (opens_i64 Tryz.underlying3) (opensF_last rfl (by kernel_rfl) (opens_i64 Tryz.underlying3))))
theorem opens_25 : Opens Tryz.prog 25 k25 (fun x : SlaMaze => ((I64 (x.f0.f0)) ∧ (I64 (x.f0.f1))) ∧ (I64 (x.f1))) := opens_iso (fun x : SlaMaze => (x.f0, x.f1)) (fun a => ⟨a.1, a.2⟩) (fun _ => rfl) (opens_struct Tryz.underlying25 (by kernel_rfl) (opensF_cons rfl (by kernel_rfl) opens_23 (opensF_last rfl (by kernel_rfl) (opens_i64 Tryz.underlying3))))
theorem opens_26 : Opens Tryz.prog 26 (Kd.slice 3 (Kd.int .i64)) (fun x : List (Int) => (x).length ≤ 9223372036854775807 ∧ ∀ y ∈ x, I64 (y)) := opens_slice 3 (0 : Int) Tryz.underlying26 (by kernel_rfl) (opens_i64 Tryz.underlying3)
theorem opens_28 : Opens Tryz.prog 28 k28 (fun x : SlaHedge => (((I64 (x.f0.f0.f0)) ∧ (I64 (x.f0.f0.f1))) ∧ (I64 (x.f0.f1))) ∧ ((x.f1).length ≤ 9223372036854775807 ∧ ∀ y ∈ x.f1, I64 (y)) ∧ (I64 (x.f2))) := opens_iso (fun x : SlaHedge => (x.f0, x.f1, x.f2)) (fun a => ⟨a.1, a.2.1, a.2.2⟩) (fun _ => rfl) (opens_struct Tryz.underlying28 (by kernel_rfl) (opensF_cons rfl (by kernel_rfl) opens_25 (opensF_cons rfl (by kernel_rfl) opens_26 (opensF_last rfl (by kernel_rfl) (opens_i64 Tryz.underlying3)))))
theorem opens_30 : Opens Tryz.prog 30 k30 (fun x : SlaGarden => ((((I64 (x.f0.f0.f0.f0)) ∧ (I64 (x.f0.f0.f0.f1))) ∧ (I64 (x.f0.f0.f1))) ∧ ((x.f0.f1).length ≤ 9223372036854775807 ∧ ∀ y ∈ x.f0.f1, I64 (y)) ∧ (I64 (x.f0.f2))) ∧ (I64 (x.f1)) ∧ ((x.f2).length ≤ 9223372036854775807 ∧ ∀ y ∈ x.f2, I64 (y)) ∧ (I64 (x.f3))) := opens_iso (fun x : SlaGarden => (x.f0, x.f1, x.f2, x.f3)) (fun a => ⟨a.1, a.2.1, a.2.2.1, a.2.2.2⟩) (fun _ => rfl) (opens_struct Tryz.underlying30 (by kernel_rfl) (opensF_cons rfl (by kernel_rfl) opens_28 (opensF_cons rfl (by kernel_rfl) (opens_i64 Tryz.underlying3) (opensF_cons rfl (by kernel_rfl) opens_26 (opensF_last rfl (by kernel_rfl) (opens_i64 Tryz.underlying3))))))
theorem opens_50 : Opens Tryz.prog 50 k50 (fun x : SlaAct => (I64 (x.f0)) ∧ (I64 (x.f1)) ∧ (I64 (x.f2))) := opens_iso (fun x : SlaAct => (x.f0, x.f1, x.f2)) (fun a => ⟨a.1, a.2.1, a.2.2⟩) (fun _ => rfl) (opens_struct Tryz.underlying50 (by kernel_rfl) (opensF_cons rfl (by kernel_rfl) (opens_i64 Tryz.underlying3) (opensF_cons rfl (by kernel_rfl) (opens_i64 Tryz.underlying3) (opensF_last rfl (by kernel_rfl) (opens_i64 Tryz.underlying3)))))
theorem opens_56 : Opens Tryz.prog 56 (Kd.slice 50 k50) (fun x : List (SlaAct) => (x).length ≤ 9223372036854775807 ∧ ∀ y ∈ x, (I64 (y.f0)) ∧ (I64 (y.f1)) ∧ (I64 (y.f2))) := opens_slice 50 zlaAct Tryz.underlying56 (by kernel_rfl) opens_50
set_option maxRecDepth 100000 in
theorem lifted (os : Os) (started : os.Started) (H : Type) (enc : TypeId × Value → H) :
    ReturnsInHanded {} Tryz.checked os 9 .any (Rows.fnExactRunActsSpec.pre6 enc Tryz.prog Tryz.f9 Rows.fnExactRunActsRow.domain false) (Rows.fnExactRunActsSpec.post enc Tryz.prog Tryz.f9 false true false false) := by
  refine returnsInHanded_of_change_sized (C := Tryz.checked) own started (by kernel_rfl) Tryz.func9
    (ChangeSpec.witness6 (enc := enc) (C := Tryz.checked) false ⟨#[], #[.agg #[.int .i64 0, .int .i64 0, .int .i64 0, .slice none 0 0, .int .i64 0, .int .i64 0, .slice none 0 0, .int .i64 0], .slice none 0 0], []⟩ 8 (by kernel_rfl) (by kernel_rfl) (by kernel_rfl) (by kernel_rfl)) ?_
  intro W base args ds gs before hval0 hW hcnd hsz0 _
  have hval : ∀ (j : Nat) t v, Tryz.f9.params[j]? = some t → args[j]? = some v → Value.okWide Tryz.prog W .any base t v := hval0
  have hW' := hW
  obtain ⟨p, q, hA0, hV, rfl, hfz, hnd⟩ := hW
  have hA : DataW.TrodAll enc Tryz.prog W 0 (fun _ => true) true Tryz.f9.params.toList args.toList ds p := hA0
  rw [Tryz.params9] at hA hval
  obtain ⟨v0, vs0, d0, ds0, p0, q0, hargs, rfl, rfl, h0, r0⟩ := trodAll_cons hA
  obtain ⟨v1, vs1, d1, ds1, p1, q1, rfl, rfl, rfl, h1, r1⟩ := trodAll_cons r0
  obtain ⟨rfl, rfl, rfl⟩ := trodAll_nil r1
  obtain rfl : args = #[v0, v1] := by cases args; simp_all
  obtain ⟨rfl, rfl⟩ := trodVars_none hV
  have k0 := h0
  have lt0 : ∀ x ∈ p0, x.block < W.heap.size := by obtain ⟨m, hm⟩ := k0; exact DataW.trod_lt m _ _ _ hm
  obtain ⟨cs0, rfl, hz0⟩ := okWide_struct Tryz.underlying30 (hval 0 30 v0 rfl rfl)
  obtain ⟨fu0, hf0⟩ := h0
  obtain ⟨x0, hK0, hw0⟩ := opens_30 _ _ _ _ _ _ _ hf0
  obtain ⟨A0_3, c0_3, A0_6, c0_6, hcs0, l0_3, g0_3, l0_6, g0_6⟩ := k30_open hK0
  obtain rfl : cs0 = #[.int .i64 x0.f0.f0.f0.f0, .int .i64 x0.f0.f0.f0.f1, .int .i64 x0.f0.f0.f1, .slice A0_3 (x0.f0.f1).length c0_3, .int .i64 x0.f0.f2, .int .i64 x0.f1, .slice A0_6 (x0.f2).length c0_6, .int .i64 x0.f3] := by apply Array.ext'; simpa [Value.cells] using hcs0
  have k1 := h1
  have lt1 : ∀ x ∈ p1, x.block < W.heap.size := by obtain ⟨m, hm⟩ := k1; exact DataW.trod_lt m _ _ _ hm
  obtain ⟨a1, len1, cap1, rfl⟩ := okWide_slice Tryz.underlying56 (hval 1 56 v1 rfl rfl)
  obtain ⟨fu1, hf1⟩ := h1
  obtain ⟨x1, ⟨A1, c1, he1, l1, g1⟩, hw1⟩ := opens_56 _ _ _ _ _ _ _ hf1
  simp [Value.cells] at he1
  obtain ⟨rfl, rfl, rfl⟩ := he1
  clear hA0 hval0 hsz0
  obtain ⟨k, h⟩ := FnExactRunActs_pure x0.f0.f0.f0.f0 x0.f0.f0.f0.f1 x0.f0.f0.f1 x0.f0.f1 x0.f0.f2 x0.f1 x0.f2 x0.f3 x1 hw0.1.1.1.1 hw0.1.1.1.2 hw0.1.1.2 hw0.1.2.1 hw0.1.2.2 hw0.2.1 hw0.2.2.1 hw0.2.2.2 hw1
  refine (laws_FnExactRunActs.calls k x0.f0.f0.f0.f0 x0.f0.f0.f0.f1 x0.f0.f0.f1 _ _ x0.f0.f1 x0.f0.f2 x0.f1 _ _ x0.f2 x0.f3 _ _ x1 W g0_3 l0_3 g0_6 l0_6 g1 l1 h).mono fun e W' ⟨he, bel⟩ => ?_
  subst he
  exact ⟨_, rfl, _, _, _, [], _, [], hW', trodAll_mk1 (shut_bool Tryz.underlying4 _), (trodAll_cons_mk (Below.trod laidOut (by kernel_rfl) (of_decide_eq_true (by kernel_rfl)) k0 bel lt0) (trodAll_cons_mk (Below.trod laidOut (by kernel_rfl) (of_decide_eq_true (by kernel_rfl)) k1 bel lt1) trodAll_mk0)), rfl, bel.frame _, fun h => by cases h⟩
theorem over : Rows.fnExactRunActsRow.holds Tryz.pinned (OpenSpec.ofChange Rows.fnExactRunActsSpec) :=
  OpenClaim.holds_of_wide 9 Tryz.f9 rfl rfl rfl rfl rfl rfl rfl ⟨rfl, rfl, rfl, rfl, rfl⟩ rfl rfl rfl rfl rfl (by kernel_rfl) Tryz.func9 (by kernel_rfl)
    (of_decide_eq_true (by kernel_rfl)) (by unfold Func.isWrapper; first | (rw [if_pos (by decide +kernel)]; kernel_rfl) | (rw [if_neg (by decide +kernel)]; exact ⟨rfl, rfl⟩))
    (fun os started H enc _ => lifted os started H enc)
theorem proved : Rows.FnExactRunActsSaid := over
end Go.Proofs.YtkindoepnganmaaGreat.fnExactRunActs
namespace Go.Proofs.YtkindoepnganmaaGreat
theorem fnExactRunActs_holds : Rows.FnExactRunActsSaid := fnExactRunActs.proved
end Go.Proofs.YtkindoepnganmaaGreat
