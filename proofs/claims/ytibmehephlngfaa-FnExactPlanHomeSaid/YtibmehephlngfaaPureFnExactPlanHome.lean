/- The program's PlanHome and the reference's answer alike. -/
import Derived.Test.YtibmehephlngfaaQ0
import Derived.Test.YtibmehephlngfaaQ3
import Derived.Test.YtibmehephlngfaaQ6
import Derived.Test.YtibmehephlngfaaQ28
import Derived.Test.YtibmehephlngfaaGPlan
import Derived.Test.YtibmehephlngfaaPCourse
import Derived.Test.YtibmehephlngfaaPHome
import Derived.Test.YtibmehephlngfaaPList
import Derived.Test.YtibmehephlngfaaPPlan
namespace Go.Proofs.Ytibmehephlngfaa.Pure
open Go.RowKit Go.Proofs.Ytibmehephlngfaa.Q Go.Proofs.YtibmehephlngfaaW.PrintWords Go.Proofs.YtibmehephlngfaaW.PrintLast
set_option linter.unusedVariables false
set_option linter.unusedSimpArgs false

theorem FnExactPlanHome (a b o h t : Int) (_ : (Lit.int .i64 a).wf = true) (_ : (Lit.int .i64 b).wf = true) (_ : (Lit.int .i64 o).wf = true) (_ : (Lit.int .i64 h).wf = true) (_ : (Lit.int .i64 t).wf = true) :
    ∃ k, laws_FnExactPlanHome.f k a b o h t = some true := by
  obtain ⟨r, q, K, hr, ei, es⟩ := plan_both a b o h t
  have hbb : (q != q) = false := by cases q <;> rfl
  refine ⟨K + 102, ?_⟩
  unfold laws_FnExactPlanHome.f laws_toLimits.f laws_toCourse.f
  simp only [Option.bind_some]
  rw [es (K + 102) (by omega), Option.bind_some, ei]
  simp only [Option.bind_some]
  rw [eqInts_self (K + 102) r (by omega) (by omega)]
  simp only [Option.bind_some, if_true, hbb]
  rw [laws_FnExactPlanHome.j0, if_neg (by simp), mark_eq (K + 101) r (by omega) (by omega)]
  simp only [Option.bind_some]
  rw [held_eq (K + 101) r.length (by omega) (by omega)]
  simp only [Option.bind_some]
  rw [if_neg (by omega)]
  simp only [if_true, laws_toLimits.f, laws_toCourse.f, Option.bind_some]
  rw [ei]
  simp only [Option.bind_some]
  rw [eqInts_self (K + 101) r (by omega) (by omega)]
  simp only [Option.bind_some, if_true, hbb]
  rw [laws_FnExactPlanHome.j1, if_neg (by simp), held_eq (K + 100) r.length (by omega) (by omega)]
  simp only [Option.bind_some]
  rw [if_neg (by omega)]
  simp only [if_true]

end Go.Proofs.Ytibmehephlngfaa.Pure
