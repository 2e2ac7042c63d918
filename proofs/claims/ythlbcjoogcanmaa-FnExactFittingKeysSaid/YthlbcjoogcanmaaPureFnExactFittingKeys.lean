/- The program's FittingKeys and the reference's answer alike for every machine. -/
import Derived.Test.YthlbcjoogcanmaaQ0
import Derived.Test.YthlbcjoogcanmaaQ5
import Derived.Test.YthlbcjoogcanmaaQ8
import Derived.Test.YthlbcjoogcanmaaQ44
import Derived.Test.YthlbcjoogcanmaaPBuild
import Derived.Test.YthlbcjoogcanmaaPList
namespace Go.Proofs.Ythlbcjoogcanmaa.Pure
open Go.RowKit Go.Proofs.Ythlbcjoogcanmaa.Q Go.Proofs.YthlbcjoogcanmaaW.PrintWords Go.Proofs.YthlbcjoogcanmaaW.PrintLast
set_option linter.unusedVariables false
set_option linter.unusedSimpArgs false

section
variable (a0 a1 a2 a3 a4 a5 a6 a7 a8 : Int)
theorem fit_both (h : machB a0 a1 a2 a3 a4 a5 a6 a7 a8 = true) (d : Nat) : ∀ (pre : List Int) (i : Int), 0 ≤ i → i + d = 16 → (pre.length : Int) ≤ i →
    ∃ r : List Int, r.length ≤ 16 ∧ ∀ k, d + 7 ≤ k → spec_l04Fitting.l0 k pre i a0 a1 a2 a3 a4 a5 a6 a7 a8 = some r ∧ impl_FittingKeys.l0 k pre i a0 a1 a2 a3 a4 a5 a6 a7 a8 = some (r, true) := by
  induction d with
  | zero =>
    intro pre i h0 hd hl
    have hn : ¬ (i < 16) := by omega
    refine ⟨pre, by omega, fun k hk => ?_⟩
    obtain ⟨k, rfl⟩ : ∃ m, k = m + 1 := ⟨k - 1, by omega⟩
    exact ⟨by rw [spec_l04Fitting.l0, if_neg hn], by rw [impl_FittingKeys.l0, if_neg hn]⟩
  | succ d ih =>
    intro pre i h0 hd hl
    have hlt : i < 16 := by omega
    have hr : ringB 1 i = true := by simp [ringB, inR]; omega
    have hpl : pre.length < 17592186044416 := by omega
    have hw : wrap64 (i + 1) = i + 1 := w64 (by omega)
    obtain ⟨u, v, e1, e2⟩ := build_yes a0 a1 a2 a3 a4 a5 a6 a7 a8 1 i hr
    have e2 := e2 h
    cases hc : (buildT a0 a1 a2 a3 a4 a5 a6 a7 a8 u v).2.2.2.2.2.2.2.2.2 with
    | true =>
      obtain ⟨r, r1, r2⟩ := ih (pre ++ [i]) (i + 1) (by omega) (by omega) (by simp; omega)
      refine ⟨r, r1, fun k hk => ?_⟩
      obtain ⟨k, rfl⟩ : ∃ m, k = m + 7 := ⟨k - 7, by omega⟩
      obtain ⟨s1, s2⟩ := r2 (k + 6) (by omega)
      constructor
      · rw [spec_l04Fitting.l0, if_pos hlt, e1 k]
        simp only [Option.bind_some, hc, if_true]
        rw [if_pos hpl, hw]
        exact s1
      · rw [impl_FittingKeys.l0, if_pos hlt, e2 (k + 5)]
        simp only [Option.bind_some, hc, if_true]
        rw [if_pos hpl, hw]
        exact s2
    | false =>
      obtain ⟨r, r1, r2⟩ := ih pre (i + 1) (by omega) (by omega) (by omega)
      refine ⟨r, r1, fun k hk => ?_⟩
      obtain ⟨k, rfl⟩ : ∃ m, k = m + 7 := ⟨k - 7, by omega⟩
      obtain ⟨s1, s2⟩ := r2 (k + 6) (by omega)
      constructor
      · rw [spec_l04Fitting.l0, if_pos hlt, e1 k]
        simp only [Option.bind_some, hc, Bool.false_eq_true, if_false]
        rw [hw]
        exact s1
      · rw [impl_FittingKeys.l0, if_pos hlt, e2 (k + 5)]
        simp only [Option.bind_some, hc, Bool.false_eq_true, if_false]
        rw [hw]
        exact s2
theorem fit_law : ∃ (r : List Int) (b : Bool), r.length ≤ 16 ∧ ∀ k, 24 ≤ k → spec_FittingKeys.f k a0 a1 a2 a3 a4 a5 a6 a7 a8 = some (r, b) ∧ impl_FittingKeys.f k a0 a1 a2 a3 a4 a5 a6 a7 a8 = some (r, b) := by
  cases h : machB a0 a1 a2 a3 a4 a5 a6 a7 a8 with
  | true =>
    obtain ⟨r, r1, r2⟩ := fit_both a0 a1 a2 a3 a4 a5 a6 a7 a8 h 16 [] 0 (by omega) (by omega) (by simp)
    refine ⟨r, true, r1, fun k hk => ?_⟩
    obtain ⟨s1, s2⟩ := r2 k (by omega)
    obtain ⟨k, rfl⟩ : ∃ m, k = m + 6 := ⟨k - 6, by omega⟩
    constructor
    · unfold spec_FittingKeys.f spec_l04Fitting.f
      rw [smach_eq, h]
      simp only [Option.bind_some, if_true, s1]
    · unfold impl_FittingKeys.f
      rw [imach_eq, h]
      simp only [Option.bind_some, if_true, s2]
  | false =>
    refine ⟨[], false, by simp, fun k hk => ?_⟩
    obtain ⟨k, rfl⟩ : ∃ m, k = m + 6 := ⟨k - 6, by omega⟩
    constructor
    · unfold spec_FittingKeys.f
      rw [smach_eq, h]
      simp
    · unfold impl_FittingKeys.f
      rw [imach_eq, h]
      simp
end

theorem FnExactFittingKeys (a0 a1 a2 a3 a4 a5 a6 a7 a8 : Int) (_ : (Lit.int .i64 a0).wf = true) (_ : (Lit.int .i64 a1).wf = true) (_ : (Lit.int .i64 a2).wf = true) (_ : (Lit.int .i64 a3).wf = true) (_ : (Lit.int .i64 a4).wf = true) (_ : (Lit.int .i64 a5).wf = true) (_ : (Lit.int .i64 a6).wf = true) (_ : (Lit.int .i64 a7).wf = true) (_ : (Lit.int .i64 a8).wf = true) : ∃ k, laws_FnExactFittingKeys.f k a0 a1 a2 a3 a4 a5 a6 a7 a8 = some true := by
  refine ⟨100, ?_⟩
  obtain ⟨r, b, hr, e⟩ := fit_law a0 a1 a2 a3 a4 a5 a6 a7 a8
  obtain ⟨s1, i1⟩ := e 100 (by omega)
  obtain ⟨s2, i2⟩ := e 99 (by omega)
  have hbb : (b != b) = false := by cases b <;> rfl
  unfold laws_FnExactFittingKeys.f laws_toMachine.f laws_toPose.f
  simp only [Option.bind_some, s1, i1]
  rw [eqInts_self 100 r (by omega) (by omega)]
  simp only [Option.bind_some, if_true]
  rw [hbb, laws_FnExactFittingKeys.j0, if_neg (by simp), mark_eq 99 r (by omega) (by omega)]
  simp only [Option.bind_some]
  rw [held_eq 99 r.length (by omega) (by omega)]
  simp only [Option.bind_some]
  rw [if_neg (by omega)]
  simp only [if_true]
  unfold laws_toMachine.f laws_toPose.f
  simp only [Option.bind_some, i2]
  rw [eqInts_self 99 r (by omega) (by omega)]
  simp only [Option.bind_some, if_true]
  rw [hbb, laws_FnExactFittingKeys.j1, if_neg (by simp), held_eq 98 r.length (by omega) (by omega)]
  simp only [Option.bind_some]
  rw [if_neg (by omega)]
  simp only [if_true]

end Go.Proofs.Ythlbcjoogcanmaa.Pure
