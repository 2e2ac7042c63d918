/- The program's DivFloor and the reference's answer alike. -/
import Derived.Test.YtecengjkpcbbaaaQ0
import Derived.Test.YtecengjkpcbbaaaQ3
import Derived.Test.YtecengjkpcbbaaaQ5
import Derived.Test.YtecengjkpcbbaaaPZero
namespace Go.Proofs.Ytecengjkpcbbaaa.Pure
open Go.RowKit Go.Proofs.Ytecengjkpcbbaaa.Q Go.Proofs.YtecengjkpcbbaaaW.PrintWords Go.Proofs.YtecengjkpcbbaaaW.PrintLast
set_option linter.unusedVariables false
set_option linter.unusedSimpArgs false

def divB (a b : Int) : Bool := inR (-1000000000000000000) 1000000000000000000 a && inR 1 1000000000 b
theorem sratio_eq (a b : Int) : spec_l01Ratio.f a b = some (divB a b) := by
  unfold spec_l01Ratio.f divB
  simp only [in_eq, Option.bind_some, and_some]
theorem idiv_eq (a b : Int) : impl_isDivision.f a b = some (divB a b) := by
  unfold impl_isDivision.f divB
  simp only [within_eq, Option.bind_some, and_some]

theorem FnExactDivFloor (a b : Int) (_ : (Lit.int .i64 a).wf = true) (_ : (Lit.int .i64 b).wf = true) : laws_FnExactDivFloor.f a b = some true := by
  unfold laws_FnExactDivFloor.f spec_DivFloor.f impl_DivFloor.f
  simp only [sratio_eq, idiv_eq, Option.bind_some]
  cases h : divB a b with
  | true =>
    have hb : b ≠ 0 := by have := inR_iff (Bool.and_eq_true_iff.1 h).2; omega
    obtain ⟨r, hr⟩ : ∃ r, impl_floorOf.f a b = some r := by
      unfold impl_floorOf.f
      rw [if_neg hb]
      by_cases h2 : Int.tmod a b < 0
      · exact ⟨_, if_pos h2⟩
      · exact ⟨_, if_neg h2⟩
    have e : spec_l01Floor.f a b = impl_floorOf.f a b := rfl
    simp [e, hr]
  | false => simp

end Go.Proofs.Ytecengjkpcbbaaa.Pure
