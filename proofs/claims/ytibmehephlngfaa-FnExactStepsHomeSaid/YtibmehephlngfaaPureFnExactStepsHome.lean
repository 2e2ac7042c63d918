/- The program's StepsHome and the reference's answer alike. -/
import Derived.Test.YtibmehephlngfaaQ0
import Derived.Test.YtibmehephlngfaaQ2
import Derived.Test.YtibmehephlngfaaQ5
import Derived.Test.YtibmehephlngfaaQ11
import Derived.Test.YtibmehephlngfaaQ24
import Derived.Test.YtibmehephlngfaaGSteps
import Derived.Test.YtibmehephlngfaaPCourse
import Derived.Test.YtibmehephlngfaaPHome
namespace Go.Proofs.Ytibmehephlngfaa.Pure
open Go.RowKit Go.Proofs.Ytibmehephlngfaa.Q Go.Proofs.YtibmehephlngfaaW.PrintWords Go.Proofs.YtibmehephlngfaaW.PrintLast
set_option linter.unusedVariables false
set_option linter.unusedSimpArgs false

theorem ssteps_eq (a b o h t : Int) : ∃ (r : Int × Bool) (K : Nat), impl_StepsHome.f a b o h t = some r ∧ ∀ k, K ≤ k → spec_StepsHome.f k a b o h t = some r := by
  cases hv : valB a b o h t with
  | false =>
    refine ⟨(0, false), 0, ?_, fun k _ => ?_⟩
    · unfold impl_StepsHome.f
      rw [ivalc_eq, hv]
      rfl
    · unfold spec_StepsHome.f
      rw [sis_eq, hv]
      rfl
  | true =>
    obtain ⟨ha, hb, ho, hh, ht⟩ := valB_iff hv
    obtain ⟨K, T, hT, e⟩ := home_eq ha hb
    have hc : insS a ⟨o, h, t⟩ = true := insS_iff.2 ⟨ho, hh, ht⟩
    refine ⟨mgo (mget (distD a b) ⟨o, h, t⟩), K, ?_, fun k hk => ?_⟩
    · unfold impl_StepsHome.f
      rw [ivalc_eq, hv]
      rfl
    · have hs : spec_l05Spot.f o h t = some (spotN ⟨o, h, t⟩ : Int) := spot_eq ha hc
      have hl := spotN_lt ha.2 hc
      have hl2 := hT.1
      have hr := hT.2 _ hc
      unfold spec_StepsHome.f
      rw [sis_eq, hv, Option.bind_some, if_pos rfl, e k hk, Option.bind_some, hs, Option.bind_some, if_pos (by omega), if_pos (by omega), hr]
      unfold tv mgo
      cases hm : mget (distD a b) ⟨o, h, t⟩ with
      | none =>
        show (spec_l00Max.f (wrap64 (0 - 1)) 0).bind _ = _
        rw [w64 (by omega)]
        unfold spec_l00Max.f
        rw [if_neg (by omega)]
        rfl
      | some n =>
        have hn := (dist_inv ha b).2 _ _ hm
        show (spec_l00Max.f (wrap64 (n + 1 - 1)) 0).bind _ = _
        rw [w64 (by omega), show n + 1 - 1 = n from by omega]
        unfold spec_l00Max.f
        by_cases h0 : n > 0
        · rw [if_pos h0, Option.bind_some]
          have : decide (n + 1 > 0) = true := decide_eq_true (by omega)
          simp only [this]
          rfl
        · have : n = 0 := by omega
          subst this
          rfl

theorem FnExactStepsHome (a b o h t : Int) (_ : (Lit.int .i64 a).wf = true) (_ : (Lit.int .i64 b).wf = true) (_ : (Lit.int .i64 o).wf = true) (_ : (Lit.int .i64 h).wf = true) (_ : (Lit.int .i64 t).wf = true) :
    ∃ k, laws_FnExactStepsHome.f k a b o h t = some true := by
  obtain ⟨r, K, e1, e2⟩ := ssteps_eq a b o h t
  refine ⟨K, ?_⟩
  unfold laws_FnExactStepsHome.f laws_toLimits.f laws_toCourse.f
  simp only [Option.bind_some]
  rw [e2 K (Nat.le_refl _), Option.bind_some, e1]
  have hbb : (r.2 != r.2) = false := by cases r.2 <;> rfl
  simp only [Option.bind_some, if_true, hbb]
  simp

end Go.Proofs.Ytibmehephlngfaa.Pure
