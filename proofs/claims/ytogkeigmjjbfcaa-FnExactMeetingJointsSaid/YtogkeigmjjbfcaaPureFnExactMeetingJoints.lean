/- The program's MeetingJoints and the reference's answer alike. -/
import Derived.Test.YtogkeigmjjbfcaaQ0
import Derived.Test.YtogkeigmjjbfcaaQ2
import Derived.Test.YtogkeigmjjbfcaaQ17
import Derived.Test.YtogkeigmjjbfcaaQ22
import Derived.Test.YtogkeigmjjbfcaaPMeet
import Derived.Test.YtogkeigmjjbfcaaPList
namespace Go.Proofs.Ytogkeigmjjbfcaa.Pure
open Go.RowKit Go.Proofs.Ytogkeigmjjbfcaa.Q Go.Proofs.YtogkeigmjjbfcaaW.PrintWords Go.Proofs.YtogkeigmjjbfcaaW.PrintLast
set_option linter.unusedVariables false
set_option linter.unusedSimpArgs false

theorem meet_M (a b c d : Int) : ∃ (r : List Int) (q : Bool), r.length ≤ 7 ∧ ∀ k, 150 < k → spec_MeetingJoints.f k a b c d = some (r, q) ∧ impl_MeetingJoints.f k a b c d = some (r, q) := by
  cases h : ringB a b with
  | false =>
    refine ⟨[], false, by simp, fun k hk => ⟨?_, ?_⟩⟩
    · unfold spec_MeetingJoints.f; rw [sring_eq, h]; rfl
    · unfold impl_MeetingJoints.f; rw [iring_eq, h]; rfl
  | true =>
    cases h' : ringB c d with
    | false =>
      refine ⟨[], false, by simp, fun k hk => ⟨?_, ?_⟩⟩
      · unfold spec_MeetingJoints.f; rw [sring_eq, sring_eq, h, h']; rfl
      · unfold impl_MeetingJoints.f; rw [iring_eq, iring_eq, h, h']; rfl
    | true =>
      refine ⟨mt b d, true, by have := (meet_both h h' (Nat.le_refl 100)).2.2; omega, fun k hk => ?_⟩
      obtain ⟨h1, h2, _⟩ := meet_both h h' (k := k) (by omega)
      constructor
      · unfold spec_MeetingJoints.f; rw [sring_eq, sring_eq, h, h', Option.bind_some, if_pos rfl, Option.bind_some, if_pos rfl, h1]; rfl
      · unfold impl_MeetingJoints.f; rw [iring_eq, iring_eq, h, h', Option.bind_some, if_pos rfl, Option.bind_some, if_pos rfl, h2]; rfl

theorem FnExactMeetingJoints (a b c d : Int) (_ : (Lit.int .i64 a).wf = true) (_ : (Lit.int .i64 b).wf = true) (_ : (Lit.int .i64 c).wf = true) (_ : (Lit.int .i64 d).wf = true) :
    ∃ k, laws_FnExactMeetingJoints.f k a b c d = some true := by
  obtain ⟨r, q, hr, e⟩ := meet_M a b c d
  have hbb : (q != q) = false := by cases q <;> rfl
  refine ⟨202, ?_⟩
  unfold laws_FnExactMeetingJoints.f
  simp only [laws_toRing.f, Option.bind_some]
  rw [(e 202 (by omega)).1, Option.bind_some, (e 202 (by omega)).2]
  simp only [Option.bind_some]
  rw [eqInts_self 202 r (by omega) (by omega)]
  simp only [Option.bind_some, if_true, hbb]
  rw [laws_FnExactMeetingJoints.j0, if_neg (by simp), mark_eq 201 r (by omega) (by omega)]
  simp only [Option.bind_some]
  rw [held_eq 201 r.length (by omega) (by omega)]
  simp only [Option.bind_some]
  rw [if_neg (by omega)]
  simp only [if_true, laws_toRing.f, Option.bind_some]
  rw [(e 201 (by omega)).2]
  simp only [Option.bind_some]
  rw [eqInts_self 201 r (by omega) (by omega)]
  simp only [Option.bind_some, if_true, hbb]
  rw [laws_FnExactMeetingJoints.j1, if_neg (by simp), held_eq 200 r.length (by omega) (by omega)]
  simp only [Option.bind_some]
  rw [if_neg (by omega)]
  simp only [if_true]

end Go.Proofs.Ytogkeigmjjbfcaa.Pure
