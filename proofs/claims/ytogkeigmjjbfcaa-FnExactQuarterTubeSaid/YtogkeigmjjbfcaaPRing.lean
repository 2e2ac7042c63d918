/- Plain lemmas by hand: the turns of all rings, in the program and in the reference. -/
import Derived.Test.YtogkeigmjjbfcaaQ0
import Derived.Test.YtogkeigmjjbfcaaQ1
import Derived.Test.YtogkeigmjjbfcaaQ2
import Derived.Test.YtogkeigmjjbfcaaQ10
import Derived.Test.YtogkeigmjjbfcaaPZero
import Derived.Test.YtogkeigmjjbfcaaGTurn
namespace Go.Proofs.Ytogkeigmjjbfcaa.Pure
open Go.RowKit Go.Proofs.Ytogkeigmjjbfcaa.Q Go.Proofs.YtogkeigmjjbfcaaW.PrintWords Go.Proofs.YtogkeigmjjbfcaaW.PrintLast
set_option linter.unusedVariables false
set_option linter.unusedSimpArgs false

def ringB (a b : Int) : Bool := inR 0 1 a && inR 0 15 b
theorem sring_eq (a b : Int) : spec_l03Is.f a b = some (ringB a b) := by
  unfold spec_l03Is.f ringB
  simp only [in_eq, Option.bind_some, and_some]
theorem iring_eq (a b : Int) : impl_ValidRing.f a b = some (ringB a b) := by
  unfold impl_ValidRing.f ringB
  simp only [within_eq, Option.bind_some, and_some]
theorem ring_fin {a b : Int} (h : ringB a b = true) : ∃ (x : Fin 2) (y : Fin 16), a = (x.val : Int) ∧ b = (y.val : Int) := by
  simp only [ringB, Bool.and_eq_true] at h
  have h1 := inR_iff h.1
  have h2 := inR_iff h.2
  exact ⟨⟨a.toNat, by omega⟩, ⟨b.toNat, by omega⟩, by simp; omega, by simp; omega⟩
theorem turn_fin : ∀ (x : Fin 2) (y : Fin 16), ∃ r, spec_l03Turn.f (x.val : Int) (y.val : Int) = some r ∧ impl_Ring_turn.f (x.val : Int) (y.val : Int) = some r := by
  intro x y
  have h : spec_l03Turn.f (x.val : Int) (y.val : Int) = impl_Ring_turn.f (x.val : Int) (y.val : Int) ∧ (impl_Ring_turn.f (x.val : Int) (y.val : Int)).isSome = true := by
    revert x y
    decide +kernel
  obtain ⟨r, hr⟩ := Option.isSome_iff_exists.1 h.2
  exact ⟨r, h.1.trans hr, hr⟩
theorem turn_both {a b : Int} (h : ringB a b = true) : ∃ r, spec_l03Turn.f a b = some r ∧ impl_Ring_turn.f a b = some r := by
  obtain ⟨x, y, rfl, rfl⟩ := ring_fin h
  exact turn_fin x y

end Go.Proofs.Ytogkeigmjjbfcaa.Pure
