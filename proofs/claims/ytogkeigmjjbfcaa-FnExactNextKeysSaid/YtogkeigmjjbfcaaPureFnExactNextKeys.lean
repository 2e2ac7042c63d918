/- The program's NextKeys and the reference's answer alike. -/
import Derived.Test.YtogkeigmjjbfcaaQ0
import Derived.Test.YtogkeigmjjbfcaaQ2
import Derived.Test.YtogkeigmjjbfcaaQ16
import Derived.Test.YtogkeigmjjbfcaaQ21
import Derived.Test.YtogkeigmjjbfcaaPNextK
import Derived.Test.YtogkeigmjjbfcaaPList
namespace Go.Proofs.Ytogkeigmjjbfcaa.Pure
open Go.RowKit Go.Proofs.Ytogkeigmjjbfcaa.Q Go.Proofs.YtogkeigmjjbfcaaW.PrintWords Go.Proofs.YtogkeigmjjbfcaaW.PrintLast
set_option linter.unusedVariables false
set_option linter.unusedSimpArgs false

theorem next_M (a b : Int) : ∃ (r : List Int) (q : Bool), r.length ≤ 7 ∧ ∀ k, 150 < k → spec_NextKeys.f k a b = some (r, q) ∧ impl_NextKeys.f k a b = some (r, q) := by
  cases h : ringB a b with
  | false =>
    refine ⟨[], false, by simp, fun k hk => ⟨?_, ?_⟩⟩
    · unfold spec_NextKeys.f; rw [sring_eq, h]; rfl
    · unfold impl_NextKeys.f; rw [iring_eq, h]; rfl
  | true =>
    refine ⟨nt b, true, by rw [(next_both h (Nat.le_refl 120)).2.2]; omega, fun k hk => ?_⟩
    obtain ⟨h1, h2, _⟩ := next_both h (k := k) (by omega)
    constructor
    · unfold spec_NextKeys.f; rw [sring_eq, h, Option.bind_some, if_pos rfl, h1]; rfl
    · exact h2

theorem FnExactNextKeys (a b : Int) (_ : (Lit.int .i64 a).wf = true) (_ : (Lit.int .i64 b).wf = true) :
    ∃ k, laws_FnExactNextKeys.f k a b = some true := by
  obtain ⟨r, q, hr, e⟩ := next_M a b
  have hbb : (q != q) = false := by cases q <;> rfl
  refine ⟨202, ?_⟩
  unfold laws_FnExactNextKeys.f
  simp only [laws_toRing.f, Option.bind_some]
  rw [(e 202 (by omega)).1, Option.bind_some, (e 202 (by omega)).2]
  simp only [Option.bind_some]
  rw [eqInts_self 202 r (by omega) (by omega)]
  simp only [Option.bind_some, if_true, hbb]
  rw [laws_FnExactNextKeys.j0, if_neg (by simp), mark_eq 201 r (by omega) (by omega)]
  simp only [Option.bind_some]
  rw [held_eq 201 r.length (by omega) (by omega)]
  simp only [Option.bind_some]
  rw [if_neg (by omega)]
  simp only [if_true, laws_toRing.f, Option.bind_some]
  rw [(e 201 (by omega)).2]
  simp only [Option.bind_some]
  rw [eqInts_self 201 r (by omega) (by omega)]
  simp only [Option.bind_some, if_true, hbb]
  rw [laws_FnExactNextKeys.j1, if_neg (by simp), held_eq 200 r.length (by omega) (by omega)]
  simp only [Option.bind_some]
  rw [if_neg (by omega)]
  simp only [if_true]

end Go.Proofs.Ytogkeigmjjbfcaa.Pure
