/- Plain lemmas by hand: the turns of all rings, in the program and in the reference. -/
import Derived.Test.YtlmdoapjcnaflaaDoorQ0
import Derived.Test.YtlmdoapjcnaflaaDoorQ9
import Derived.Test.YtlmdoapjcnaflaaDoorPZero
namespace Go.Proofs.YtlmdoapjcnaflaaDoor.Pure
open Go.RowKit Go.Proofs.YtlmdoapjcnaflaaDoor.Q Go.Proofs.YtlmdoapjcnaflaaDoorW.PrintWords Go.Proofs.YtlmdoapjcnaflaaDoorW.PrintLast
set_option linter.unusedVariables false
set_option linter.unusedSimpArgs false

def ringB (a b : Int) : Bool := inR 0 1 a && inR 0 15 b
theorem sring_eq (a b : Int) : spec_l03Is.f a b = some (ringB a b) := by
  unfold spec_l03Is.f ringB
  simp only [in_eq, Option.bind_some, and_some]
theorem iring_eq (a b : Int) : impl_ValidRing.f a b = some (ringB a b) := by
  unfold impl_ValidRing.f ringB
  simp only [within_eq, Option.bind_some, and_some]
theorem ring_fin {a b : Int} (h : ringB a b = true) : ∃ (x : Fin 2) (y : Fin 16), a = (x.val : Int) ∧ b = (y.val : Int) := by
  simp only [ringB, Bool.and_eq_true] at h
  have h1 := inR_iff h.1
  have h2 := inR_iff h.2
  exact ⟨⟨a.toNat, by omega⟩, ⟨b.toNat, by omega⟩, by simp; omega, by simp; omega⟩
end Go.Proofs.YtlmdoapjcnaflaaDoor.Pure
