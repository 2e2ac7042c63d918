/- The program's DivRound and the reference's answer alike. -/
import Derived.Test.YtecengjkpcbbaaaQ0
import Derived.Test.YtecengjkpcbbaaaQ3
import Derived.Test.YtecengjkpcbbaaaQ6
import Derived.Test.YtecengjkpcbbaaaPZero
namespace Go.Proofs.Ytecengjkpcbbaaa.Pure
open Go.RowKit Go.Proofs.Ytecengjkpcbbaaa.Q Go.Proofs.YtecengjkpcbbaaaW.PrintWords Go.Proofs.YtecengjkpcbbaaaW.PrintLast
set_option linter.unusedVariables false
set_option linter.unusedSimpArgs false

def divB (a b : Int) : Bool := inR (-1000000000000000000) 1000000000000000000 a && inR 1 1000000000 b
theorem sratio_eq (a b : Int) : spec_l01Ratio.f a b = some (divB a b) := by
  unfold spec_l01Ratio.f divB
  simp only [in_eq, Option.bind_some, and_some]
theorem idiv_eq (a b : Int) : impl_isDivision.f a b = some (divB a b) := by
  unfold impl_isDivision.f divB
  simp only [within_eq, Option.bind_some, and_some]

theorem round_eq (k : Nat) (a b : Int) (ha : -1000000000000000000 ≤ a ∧ a ≤ 1000000000000000000) (hb : 1 ≤ b ∧ b ≤ 1000000000) :
    ∃ r, spec_l01Round.f (k + 2) a b = some r ∧ impl_roundOf.f (k + 2) a b = some r := by
  have hb0 : b ≠ 0 := by omega
  unfold spec_l01Round.f
  simp only [if_neg hb0]
  by_cases h : a < 0
  · have hn : (-a).tdiv b = -(a.tdiv b) := Int.neg_tdiv _ _
    have hm : (-a).tmod b = -(a.tmod b) := Int.neg_tmod _ _
    have hq0 : 0 ≤ (-a).tdiv b := Int.tdiv_nonneg (by omega) (by omega)
    have hq1 : (-a).tdiv b ≤ -a := Int.tdiv_le_self _ (by omega)
    have hr0 : 0 ≤ (-a).tmod b := Int.tmod_nonneg _ (by omega)
    have hr1 : (-a).tmod b < b := Int.tmod_lt_of_pos _ (by omega)
    have hwa : wrap64 (-a) = -a := w64 (by omega)
    have hna : ¬ (-a < 0) := by omega
    have himpl : impl_roundOf.f (k + 2) a b = (impl_roundOf.f (k + 1) (-a) b).bind fun t115 => (some (wrap64 (-t115))) := by
      rw [impl_roundOf.f, if_pos h, hwa]
    have himpl2 : impl_roundOf.f (k + 1) (-a) b = (if (-a).tmod b ≥ wrap64 (b - (-a).tmod b) then (some (wrap64 ((wrap64 ((-a).tdiv b)) + 1))) else (some (wrap64 ((-a).tdiv b)))) := by
      rw [impl_roundOf.f, if_neg hna, if_neg hb0]
    rw [himpl, himpl2]
    clear himpl himpl2
    generalize hQ : (-a).tdiv b = Q at *
    generalize hR : (-a).tmod b = R at *
    have e1 : a.tdiv b = -Q := by omega
    have e2 : a.tmod b = -R := by omega
    rw [e1, e2, w64 (x := Q) (by omega), w64 (x := b - R) (by omega), w64 (x := -Q) (by omega)]
    by_cases hz : R = 0
    · subst hz
      have g1 : -(0 : Int) ≥ 0 := by omega
      have g2 : ¬ ((0 : Int) ≥ b - 0) := by omega
      have g3 : ¬ (-(0 : Int) < 0) := by omega
      have g4 : decide (-(0 : Int) ≥ wrap64 (b - -(0 : Int))) = false := by rw [w64 (by omega)]; exact decide_eq_false (by omega)
      refine ⟨-Q, ?_, ?_⟩
      · rw [if_pos g1, spec_l01Round.j0, if_neg (by rw [g4]; simp), if_neg g3]
      · rw [if_neg g2, Option.bind_some, w64 (by omega)]
    · have g1 : ¬ (-R ≥ 0) := by omega
      have g3 : -R < 0 := by omega
      rw [if_neg g1, spec_l01Round.j0, if_neg (by simp), if_pos g3, w64 (x := - -R) (by omega), w64 (x := b + -R) (by omega)]
      by_cases hc : R ≥ b - R
      · have hc' : - -R ≥ b + -R := by omega
        refine ⟨-Q - 1, ?_, ?_⟩
        · rw [if_pos hc', w64 (by omega)]
        · rw [if_pos hc, Option.bind_some, w64 (x := Q + 1) (by omega), w64 (by omega)]
          congr 1
          omega
      · have hc' : ¬ (- -R ≥ b + -R) := by omega
        refine ⟨-Q, ?_, ?_⟩
        · rw [if_neg hc']
        · rw [if_neg hc, Option.bind_some, w64 (by omega)]
  · have hq0 : 0 ≤ a.tdiv b := Int.tdiv_nonneg (by omega) (by omega)
    have hq1 : a.tdiv b ≤ a := Int.tdiv_le_self _ (by omega)
    have hr0 : 0 ≤ a.tmod b := Int.tmod_nonneg _ (by omega)
    have hr1 : a.tmod b < b := Int.tmod_lt_of_pos _ (by omega)
    have himpl : impl_roundOf.f (k + 2) a b = (if a.tmod b ≥ wrap64 (b - a.tmod b) then (some (wrap64 ((wrap64 (a.tdiv b)) + 1))) else (some (wrap64 (a.tdiv b)))) := by
      rw [impl_roundOf.f, if_neg h, if_neg hb0]
    rw [himpl]
    clear himpl
    generalize hQ : a.tdiv b = Q at *
    generalize hR : a.tmod b = R at *
    have g1 : R ≥ 0 := by omega
    have g3 : ¬ (R < 0) := by omega
    rw [if_pos g1, w64 (x := Q) (by omega), w64 (x := b - R) (by omega), spec_l01Round.j0]
    by_cases hc : R ≥ b - R
    · refine ⟨Q + 1, ?_, ?_⟩
      · rw [if_pos (decide_eq_true hc), w64 (by omega)]
      · rw [if_pos hc, w64 (by omega)]
    · refine ⟨Q, ?_, ?_⟩
      · rw [if_neg (by rw [decide_eq_false hc]; simp), if_neg g3]
      · rw [if_neg hc]

theorem FnExactDivRound (a b : Int) (_ : (Lit.int .i64 a).wf = true) (_ : (Lit.int .i64 b).wf = true) : ∃ k, laws_FnExactDivRound.f k a b = some true := by
  refine ⟨2, ?_⟩
  unfold laws_FnExactDivRound.f spec_DivRound.f impl_DivRound.f
  simp only [sratio_eq, idiv_eq, Option.bind_some]
  cases h : divB a b with
  | true =>
    obtain ⟨h1, h2⟩ := Bool.and_eq_true_iff.1 h
    obtain ⟨r, e1, e2⟩ := round_eq 0 a b (inR_iff h1) (inR_iff h2)
    simp only [if_true]
    rw [show (2 : Nat) = 0 + 2 from rfl, e1, e2]
    simp
  | false => simp

end Go.Proofs.Ytecengjkpcbbaaa.Pure
