/- The program's StrokesOf and the reference's answer alike for every machine, and the result is new memory. -/
import Derived.Test.YthlbcjoogcanmaaQ0
import Derived.Test.YthlbcjoogcanmaaQ5
import Derived.Test.YthlbcjoogcanmaaQ6
import Derived.Test.YthlbcjoogcanmaaQ8
import Derived.Test.YthlbcjoogcanmaaQ22
import Derived.Test.YthlbcjoogcanmaaQ36
import Derived.Test.YthlbcjoogcanmaaPMach
import Derived.Test.YthlbcjoogcanmaaPList
namespace Go.Proofs.Ythlbcjoogcanmaa.Pure
open Go.RowKit Go.Proofs.Ythlbcjoogcanmaa.Q Go.Proofs.YthlbcjoogcanmaaW.PrintWords Go.Proofs.YthlbcjoogcanmaaW.PrintLast
set_option linter.unusedVariables false
set_option linter.unusedSimpArgs false

theorem FnExactStrokesOf (a0 a1 a2 a3 a4 a5 a6 a7 a8 : Int) (_ : (Lit.int .i64 a0).wf = true) (_ : (Lit.int .i64 a1).wf = true) (_ : (Lit.int .i64 a2).wf = true) (_ : (Lit.int .i64 a3).wf = true) (_ : (Lit.int .i64 a4).wf = true) (_ : (Lit.int .i64 a5).wf = true) (_ : (Lit.int .i64 a6).wf = true) (_ : (Lit.int .i64 a7).wf = true) (_ : (Lit.int .i64 a8).wf = true) : ∃ k, laws_FnExactStrokesOf.f k a0 a1 a2 a3 a4 a5 a6 a7 a8 = some true := by
  refine ⟨20, ?_⟩
  have hm := smach_eq a0 a1 a2 a3 a4 a5 a6 a7 a8 14
  have hi := imach_eq a0 a1 a2 a3 a4 a5 a6 a7 a8
  unfold laws_FnExactStrokesOf.f laws_toMachine.f laws_toPose.f spec_StrokesOf.f impl_StrokesOf.f
  simp only [Option.bind_some]
  rw [hm, hi]
  simp only [Option.bind_some]
  cases hb : machB a0 a1 a2 a3 a4 a5 a6 a7 a8 with
  | true =>
    have hp : poseB a0 a1 a2 a3 = true ∧ poseB a4 a5 a6 a7 = true := by
      unfold machB at hb
      simp only [Bool.and_eq_true] at hb
      exact ⟨hb.1, hb.2.1⟩
    have hs : spec_l04Strokes.f a0 a1 a2 a3 a4 a5 a6 a7 a8 = some (strokesL a0 a1 a2 a3 a4 a5 a6 a7 a8) := sstrokes_eq a0 a1 a2 a3 a4 a5 a6 a7 a8 hp.1 hp.2
    have hl : (strokesL a0 a1 a2 a3 a4 a5 a6 a7 a8).length = 4 := rfl
    have e20 := eqInts_self 20 (strokesL a0 a1 a2 a3 a4 a5 a6 a7 a8) (by rw [hl]; decide) (by rw [hl]; decide)
    have e19 := eqInts_self 19 (strokesL a0 a1 a2 a3 a4 a5 a6 a7 a8) (by rw [hl]; decide) (by rw [hl]; decide)
    have m19 := mark_eq 19 (strokesL a0 a1 a2 a3 a4 a5 a6 a7 a8) (by rw [hl]; decide) (by rw [hl]; decide)
    have h19 := held_eq 19 4 (by decide) (by decide)
    have h18 := held_eq 18 4 (by decide) (by decide)
    rw [hl] at m19
    rw [hs]
    simp only [if_true, Option.bind_some, istrokes_eq, e20, bne_self_eq_false]
    rw [laws_FnExactStrokesOf.j0]
    unfold laws_toMachine.f laws_toPose.f impl_StrokesOf.f
    simp only [Option.bind_some, m19, h19, hi, hb, if_true, istrokes_eq, e19, bne_self_eq_false, Bool.false_eq_true, if_false]
    rw [laws_FnExactStrokesOf.j1]
    simp only [h18, Option.bind_some, Bool.false_eq_true, if_false]
    rfl
  | false =>
    have e20 := eqInts_self 20 ([] : List Int) (by decide) (by decide)
    have e19 := eqInts_self 19 ([] : List Int) (by decide) (by decide)
    have m19 := mark_eq 19 ([] : List Int) (by decide) (by decide)
    have h19 := held_eq 19 0 (by decide) (by decide)
    have h18 := held_eq 18 0 (by decide) (by decide)
    simp only [List.length_nil] at m19
    simp only [Bool.false_eq_true, if_false, if_true, Option.bind_some, e20, bne_self_eq_false]
    rw [laws_FnExactStrokesOf.j0]
    unfold laws_toMachine.f laws_toPose.f impl_StrokesOf.f
    simp only [Option.bind_some, m19, h19, hi, hb, if_true, e19, bne_self_eq_false, Bool.false_eq_true, if_false]
    rw [laws_FnExactStrokesOf.j1]
    simp only [h18, Option.bind_some, Bool.false_eq_true, if_false]
    rfl

end Go.Proofs.Ythlbcjoogcanmaa.Pure
