/- The program's BuildRing and the reference's answer alike for every machine and every ring. -/
import Derived.Test.YthlbcjoogcanmaaQ0
import Derived.Test.YthlbcjoogcanmaaQ5
import Derived.Test.YthlbcjoogcanmaaQ8
import Derived.Test.YthlbcjoogcanmaaQ15
import Derived.Test.YthlbcjoogcanmaaQ27
import Derived.Test.YthlbcjoogcanmaaQ42
import Derived.Test.YthlbcjoogcanmaaGBuildRing
import Derived.Test.YthlbcjoogcanmaaPBuild
import Derived.Test.YthlbcjoogcanmaaPEqPose
namespace Go.Proofs.Ythlbcjoogcanmaa.Pure
open Go.RowKit Go.Proofs.Ythlbcjoogcanmaa.Q Go.Proofs.YthlbcjoogcanmaaW.PrintWords Go.Proofs.YthlbcjoogcanmaaW.PrintLast
set_option linter.unusedVariables false
set_option linter.unusedSimpArgs false

theorem FnExactBuildRing (a0 a1 a2 a3 a4 a5 a6 a7 a8 x y : Int) (_ : (Lit.int .i64 a0).wf = true) (_ : (Lit.int .i64 a1).wf = true) (_ : (Lit.int .i64 a2).wf = true) (_ : (Lit.int .i64 a3).wf = true) (_ : (Lit.int .i64 a4).wf = true) (_ : (Lit.int .i64 a5).wf = true) (_ : (Lit.int .i64 a6).wf = true) (_ : (Lit.int .i64 a7).wf = true) (_ : (Lit.int .i64 a8).wf = true) (_ : (Lit.int .i64 x).wf = true) (_ : (Lit.int .i64 y).wf = true) : ∃ k, laws_FnExactBuildRing.f k a0 a1 a2 a3 a4 a5 a6 a7 a8 x y = some true := by
  refine ⟨6, ?_⟩
  have key : ∃ r, spec_BuildRing.f 6 a0 a1 a2 a3 a4 a5 a6 a7 a8 x y = some r ∧ impl_BuildRing.f 6 a0 a1 a2 a3 a4 a5 a6 a7 a8 x y = some r := by
    unfold spec_BuildRing.f
    rw [smach_eq a0 a1 a2 a3 a4 a5 a6 a7 a8 0]
    simp only [Option.bind_some]
    cases hr : ringB x y with
    | true =>
      obtain ⟨u, v, e1, e2⟩ := build_yes a0 a1 a2 a3 a4 a5 a6 a7 a8 x y hr
      have e1' : spec_l04Build.f 6 a0 a1 a2 a3 a4 a5 a6 a7 a8 x y = some (buildT a0 a1 a2 a3 a4 a5 a6 a7 a8 u v) := e1 0
      rw [e1']
      cases hm : machB a0 a1 a2 a3 a4 a5 a6 a7 a8 with
      | true =>
        exact ⟨buildT a0 a1 a2 a3 a4 a5 a6 a7 a8 u v, rfl, e2 hm 5⟩
      | false =>
        exact ⟨(0, 0, 0, 0, 0, 0, 0, 0, 0, false), rfl, ibuild_no a0 a1 a2 a3 a4 a5 a6 a7 a8 x y 5 (by rw [hm]; rfl)⟩
    | false =>
      rw [sbuild_no a0 a1 a2 a3 a4 a5 a6 a7 a8 x y 6 hr]
      refine ⟨(0, 0, 0, 0, 0, 0, 0, 0, 0, false), ?_, ibuild_no a0 a1 a2 a3 a4 a5 a6 a7 a8 x y 5 (by rw [hr, Bool.and_false])⟩
      cases machB a0 a1 a2 a3 a4 a5 a6 a7 a8 <;> rfl
  obtain ⟨r, r1, r2⟩ := key
  have hbb : (r.2.2.2.2.2.2.2.2.2 != r.2.2.2.2.2.2.2.2.2) = false := by cases r.2.2.2.2.2.2.2.2.2 <;> rfl
  unfold laws_FnExactBuildRing.f laws_toMachine.f laws_toPose.f laws_toRing.f
  simp only [Option.bind_some, r1, r2]
  unfold laws_eqMachine.f
  simp only [eqPose_self, Option.bind_some, if_true, hbb]
  simp

end Go.Proofs.Ythlbcjoogcanmaa.Pure
