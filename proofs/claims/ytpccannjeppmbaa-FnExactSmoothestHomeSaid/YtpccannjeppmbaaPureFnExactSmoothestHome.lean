/- The program's SmoothestHome and the reference's answer alike. -/
import Derived.Test.YtpccannjeppmbaaQ0
import Derived.Test.YtpccannjeppmbaaQ3
import Derived.Test.YtpccannjeppmbaaQ4
import Derived.Test.YtpccannjeppmbaaQ6
import Derived.Test.YtpccannjeppmbaaQ8
import Derived.Test.YtpccannjeppmbaaQ9
import Derived.Test.YtpccannjeppmbaaSmH
import Derived.Test.YtpccannjeppmbaaScH
import Derived.Test.YtpccannjeppmbaaSmT
import Derived.Test.YtpccannjeppmbaaPList
namespace Go.Proofs.Ytpccannjeppmbaa.Pure
open Go.RowKit Go.Proofs.Ytpccannjeppmbaa.Q Go.Proofs.YtpccannjeppmbaaW.PrintWords Go.Proofs.YtpccannjeppmbaaW.PrintLast
set_option linter.unusedVariables false
set_option linter.unusedSimpArgs false

def valC (a b : Int) (c : S31) : Bool := decide (1 ≤ a ∧ a ≤ 3) && (decide (1 ≤ b ∧ b ≤ 6) && insS a c)
theorem sIs_eq (a b o h t : Int) : spec_l05Is.f a b o h t = some (valC a b ⟨o, h, t⟩) := by
  unfold spec_l05Is.f spec_l05Limits.f valC
  simp only [cin_eq, Option.bind_some]
  by_cases ha : 1 ≤ a ∧ a ≤ 3
  · by_cases hb : 1 ≤ b ∧ b ≤ 6
    · rw [decide_eq_true ha, if_pos rfl, decide_eq_true hb, cins_eq ha]
      simp
    · rw [decide_eq_true ha, if_pos rfl, decide_eq_false hb]
      simp
  · rw [decide_eq_false ha]
    simp
theorem iIs_eq (a b o h t : Int) : impl_ValidCourse.f a b o h t = some (valC a b ⟨o, h, t⟩) := by
  unfold impl_ValidCourse.f impl_ValidLimits.f valC
  simp only [dwithin, Option.bind_some]
  by_cases ha : 1 ≤ a ∧ a ≤ 3
  · by_cases hb : 1 ≤ b ∧ b ≤ 6
    · rw [decide_eq_true ha, if_pos rfl, decide_eq_true hb, dcourse ha]
      simp
    · rw [decide_eq_true ha, if_pos rfl, decide_eq_false hb]
      simp
  · rw [decide_eq_false ha]
    simp
theorem smooth_both (a b o h t k : Int) : ∃ r : List Int, ∃ s : Int, ∃ q : Bool, spec_SmoothestHome.f a b o h t k = some (r, s, q) ∧ impl_SmoothestHome.f a b o h t k = some (r, s, q) ∧ r.length ≤ 8 := by
  unfold spec_SmoothestHome.f impl_SmoothestHome.f
  rw [sIs_eq, iIs_eq]
  simp only [Option.bind_some]
  cases hv : valC a b ⟨o, h, t⟩ with
  | false => exact ⟨[], 0, false, by simp, by simp, by simp⟩
  | true =>
    obtain ⟨h1, h2⟩ := Bool.and_eq_true_iff.1 hv
    obtain ⟨h2, h3⟩ := Bool.and_eq_true_iff.1 h2
    have ha := of_decide_eq_true h1
    rw [if_pos rfl, if_pos rfl]
    by_cases hk : 0 ≤ k ∧ k ≤ 8
    · rw [if_pos hk, if_pos hk, ansC_eq ha hk h3]
      have hl := (smP_fair (b := b) ha k.toNat _ h3).2.2
      unfold outS
      by_cases ho : (smP a b k.toNat ⟨o, h, t⟩).2.2 = true
      · rw [if_pos ho]
        exact ⟨_, _, _, rfl, rfl, by omega⟩
      · rw [if_neg ho]
        exact ⟨[], 0, false, rfl, rfl, by simp⟩
    · rw [if_neg hk, if_neg hk]
      exact ⟨[], 0, false, rfl, rfl, by simp⟩

theorem FnExactSmoothestHome (a b o h t k : Int) (_ : (Lit.int .i64 a).wf = true) (_ : (Lit.int .i64 b).wf = true) (_ : (Lit.int .i64 o).wf = true) (_ : (Lit.int .i64 h).wf = true) (_ : (Lit.int .i64 t).wf = true) (_ : (Lit.int .i64 k).wf = true) :
    ∃ n, laws_FnExactSmoothestHome.f n a b o h t k = some true := by
  obtain ⟨r, s, q, es, ei, hl⟩ := smooth_both a b o h t k
  have hbb : (q != q) = false := by cases q <;> rfl
  refine ⟨100, ?_⟩
  unfold laws_FnExactSmoothestHome.f laws_toLimits.f laws_toCourse.f
  simp only [Option.bind_some]
  rw [es, Option.bind_some, ei]
  simp only [Option.bind_some]
  rw [eqInts_self 100 r (by omega) (by omega)]
  simp only [Option.bind_some, if_true, hbb]
  rw [laws_FnExactSmoothestHome.j0, if_neg (by simp), mark_eq 99 r (by omega) (by omega)]
  simp only [Option.bind_some]
  rw [held_eq 99 r.length (by omega) (by omega)]
  simp only [Option.bind_some]
  rw [if_neg (by omega)]
  simp only [if_true, laws_toLimits.f, laws_toCourse.f, Option.bind_some]
  rw [ei]
  simp only [Option.bind_some]
  rw [eqInts_self 99 r (by omega) (by omega)]
  simp only [Option.bind_some, if_true, hbb]
  rw [laws_FnExactSmoothestHome.j1, if_neg (by simp), held_eq 98 r.length (by omega) (by omega)]
  simp only [Option.bind_some]
  rw [if_neg (by omega)]
  simp only [if_true]

end Go.Proofs.Ytpccannjeppmbaa.Pure
