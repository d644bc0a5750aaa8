/- For all two mazes, the program's ChangesBetween and the reference's tell the same list, in memory of its own. -/
import Derived.Test.YtiiflckblilhiaaP6
namespace Go.Proofs.Ytiiflckblilhiaa.F
open Go.RowKit Go.Proofs.YtiiflckblilhiaaW.PrintWords Go.Proofs.YtiiflckblilhiaaW.PrintLast Go.Proofs.YtiiflckblilhiaaW.PrintMore
set_option linter.unusedVariables false
set_option linter.unusedSimpArgs false

theorem FnExactChangesBetween_pure : ∀ (a0_0 : Int) (a0_1 : Int) (a0_2 : Int) (a1_0 : Int) (a1_1 : Int) (a1_2 : Int), (I64 (a0_0)) → (I64 (a0_1)) → (I64 (a0_2)) → (I64 (a1_0)) → (I64 (a1_1)) → (I64 (a1_2)) → ∃ k, laws_FnExactChangesBetween.f k a0_0 a0_1 a0_2 a1_0 a1_1 a1_2 = some true := by
  intro w h o w2 h2 o2 _ _ _ _ _ _
  refine ⟨60, ?_⟩
  have hl := diff_length w h o w2 h2 o2
  obtain ⟨l', e1, e2, e3⟩ := mark_held (k := 60) (l := diff w h o w2 h2 o2) (a := 1) (by decide) (by decide) (by omega) (by omega)
  unfold laws_FnExactChangesBetween.f
  simp only [laws_toMaze.f, laws_toGrid.f, Option.bind_some, spec_ChangesBetween_eq (show 60 ≤ 60 by decide), impl_ChangesBetween_eq (show 30 ≤ 60 by decide), laws_eqIntS_refl (show (diff w h o w2 h2 o2).length ≤ 9223372036854775806 by omega) (show (diff w h o w2 h2 o2).length + 1 ≤ 60 by omega), if_true, e1, e3 60 (by omega)]
  have hn : ¬ (1 + ((diff w h o w2 h2 o2).length : Int) < 0) := by omega
  simp only [if_neg hn]
end Go.Proofs.Ytiiflckblilhiaa.F
