/- Plain lemmas by hand: what the printed functions on limits, courses and the next course compute. -/
import Derived.Test.YtibmehephlngfaaQ0
import Derived.Test.YtibmehephlngfaaQ4
import Derived.Test.YtibmehephlngfaaQ5
import Derived.Test.YtibmehephlngfaaQ6
import Derived.Test.YtibmehephlngfaaQ7
import Derived.Test.YtibmehephlngfaaQ8
import Derived.Test.YtibmehephlngfaaPZero
namespace Go.Proofs.Ytibmehephlngfaa.Pure
open Go.RowKit Go.Proofs.Ytibmehephlngfaa.Q Go.Proofs.YtibmehephlngfaaW.PrintWords Go.Proofs.YtibmehephlngfaaW.PrintLast
set_option linter.unusedVariables false
set_option linter.unusedSimpArgs false

def insB (mo o h t : Int) : Bool := inR (-40) 40 o && (inR (-10) 10 h && inR (wrap64 (-mo)) mo t)
def limB (a b : Int) : Bool := inR 1 3 a && inR 1 6 b
theorem b_self (t : Bool) : (if t = true then some true else some false) = some t := by cases t <;> rfl
theorem sinside_eq (mo o h t : Int) : spec_l05Inside.f mo o h t = some (insB mo o h t) := by
  unfold spec_l05Inside.f insB
  simp only [in_eq, Option.bind_some, and_some]
theorem icourse_eq (a b o h t : Int) : impl_Limits_isCourse.f a b o h t = some (insB a o h t) := by
  unfold impl_Limits_isCourse.f insB
  simp only [within_eq, Option.bind_some, and_some]
theorem slim_eq (a b : Int) : spec_l05Limits.f a b = some (limB a b) := by
  unfold spec_l05Limits.f limB
  simp only [in_eq, Option.bind_some, and_some]
theorem ilim_eq (a b : Int) : impl_ValidLimits.f a b = some (limB a b) := by
  unfold impl_ValidLimits.f limB
  simp only [within_eq, Option.bind_some, and_some]
def valB (a b o h t : Int) : Bool := limB a b && insB a o h t
theorem sis_eq (a b o h t : Int) : spec_l05Is.f a b o h t = some (valB a b o h t) := by
  unfold spec_l05Is.f valB
  simp only [slim_eq, sinside_eq, Option.bind_some, and_some]
theorem ivalc_eq (a b o h t : Int) : impl_ValidCourse.f a b o h t = some (valB a b o h t) := by
  unfold impl_ValidCourse.f valB
  simp only [ilim_eq, icourse_eq, Option.bind_some, and_some]
theorem valB_iff {a b o h t : Int} (hv : valB a b o h t = true) : (1 ≤ a ∧ a ≤ 3) ∧ (1 ≤ b ∧ b ≤ 6) ∧ (-40 ≤ o ∧ o ≤ 40) ∧ (-10 ≤ h ∧ h ≤ 10) ∧ (-a ≤ t ∧ t ≤ a) := by
  simp only [valB, limB, insB, Bool.and_eq_true] at hv
  obtain ⟨⟨h1, h2⟩, h3, h4, h5⟩ := hv
  have h1 := inR_iff h1
  have h2 := inR_iff h2
  have h5 := inR_iff h5
  rw [w64 (by omega)] at h5
  exact ⟨h1, h2, inR_iff h3, inR_iff h4, h5⟩

/-- Whether there is a next course. -/
def okN (a b o h t u : Int) : Bool := inR (wrap64 (-a)) a u && (inR (wrap64 (-b)) b (wrap64 (u - t)) && insB a (wrap64 (o + h)) (wrap64 (h + u)) u)
def nextT (a b o h t u : Int) : Int × Int × Int × Bool := if okN a b o h t u = true then (wrap64 (o + h), wrap64 (h + u), u, true) else (0, 0, 0, false)
theorem nextT_ok (a b o h t u : Int) : (nextT a b o h t u).2.2.2 = okN a b o h t u := by
  unfold nextT
  cases hk : okN a b o h t u <;> rfl
theorem snext_eq (k : Nat) (a b o h t u : Int) : spec_l05Next.f (k + 1) a b o h t u = some (nextT a b o h t u) := by
  unfold spec_l05Next.f nextT okN
  simp only [in_eq, sinside_eq, Option.bind_some, spec_l05Next.j0]
  cases inR (wrap64 (-a)) a u <;> cases inR (wrap64 (-b)) b (wrap64 (u - t)) <;> cases insB a (wrap64 (o + h)) (wrap64 (h + u)) u <;> rfl
theorem abs_in {b d : Int} (h1 : 1 ≤ b ∧ b ≤ 6) (hd : -100 ≤ d ∧ d ≤ 100) : decide (mx d (wrap64 (-d)) > b) = !(inR (wrap64 (-b)) b d) := by
  rw [w64 (x := -b) (by omega), w64 (x := -d) (by omega)]
  unfold mx inR
  by_cases c1 : -b ≤ d <;> by_cases c2 : d ≤ b <;> simp [c1, c2] <;> (try split) <;> omega
theorem inext_eq (k : Nat) {a b o h t u : Int} (hv : valB a b o h t = true) : impl_Limits_next.f (k + 1) a b o h t u = some (nextT a b o h t u) := by
  obtain ⟨ha, hb, ho, hh, ht⟩ := valB_iff hv
  unfold impl_Limits_next.f nextT okN
  simp only [within_eq, icourse_eq, Option.bind_some, impl_Limits_next.j0, impl_abs.f]
  cases hu : inR (wrap64 (-a)) a u with
  | false => rfl
  | true =>
    have hu' := inR_iff hu
    rw [w64 (by omega)] at hu'
    rw [if_pos rfl, w64 (x := u - t) (by omega), abs_in hb (by omega)]
    cases inR (wrap64 (-b)) b (u - t) <;> cases insB a (wrap64 (o + h)) (wrap64 (h + u)) u <;> rfl
theorem okN_iff {a b o h t u : Int} (hv : valB a b o h t = true) (hk : okN a b o h t u = true) : nextT a b o h t u = (o + h, h + u, u, true) ∧ valB a b (o + h) (h + u) u = true := by
  obtain ⟨ha, hb, ho, hh, ht⟩ := valB_iff hv
  have hk' := hk
  simp only [okN, Bool.and_eq_true] at hk'
  obtain ⟨k1, k2, k3⟩ := hk'
  have k1 := inR_iff k1
  rw [w64 (by omega)] at k1
  rw [w64 (x := o + h) (by omega), w64 (x := h + u) (by omega)] at k3
  refine ⟨?_, ?_⟩
  · unfold nextT
    rw [if_pos hk, w64 (x := o + h) (by omega), w64 (x := h + u) (by omega)]
  · simp only [valB, Bool.and_eq_true] at hv ⊢
    exact ⟨hv.1, k3⟩

end Go.Proofs.Ytibmehephlngfaa.Pure
