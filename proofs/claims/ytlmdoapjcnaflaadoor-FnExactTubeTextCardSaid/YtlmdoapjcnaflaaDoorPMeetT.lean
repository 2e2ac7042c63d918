/- Plain lemmas by hand: the joints of all rings, where two rings meet, and which keys may follow, in the program and in the reference: all closed, reckoned by the kernel. -/
import Derived.Test.YtlmdoapjcnaflaaDoorQ0
import Derived.Test.YtlmdoapjcnaflaaDoorQ9
import Derived.Test.YtlmdoapjcnaflaaDoorPRingT
import Derived.Test.YtlmdoapjcnaflaaDoorGSort
namespace Go.Proofs.YtlmdoapjcnaflaaDoor.Pure
open Go.RowKit Go.Proofs.YtlmdoapjcnaflaaDoor.Q Go.Proofs.YtlmdoapjcnaflaaDoorW.PrintWords Go.Proofs.YtlmdoapjcnaflaaDoorW.PrintLast
set_option linter.unusedVariables false
set_option linter.unusedSimpArgs false

def jt (y : Int) : List Int := (spec_l03Joints.f 100 y).getD []
def mt (x y : Int) : List Int := (spec_l03Meet.f 100 x y).getD []
theorem joints_fin : ∀ (x : Fin 2) (y : Fin 16), spec_l03Joints.f 100 (y.val : Int) = some (jt (y.val : Int)) ∧ impl_Ring_joints.f 100 (x.val : Int) (y.val : Int) = some (jt (y.val : Int)) ∧ (jt (y.val : Int)).length = 6 := by decide +kernel
theorem meet_fin : ∀ (a b : Fin 2) (x y : Fin 16), spec_l03Meet.f 100 (x.val : Int) (y.val : Int) = some (mt (x.val : Int) (y.val : Int)) ∧ impl_meeting.f 100 (a.val : Int) (x.val : Int) (b.val : Int) (y.val : Int) = some (mt (x.val : Int) (y.val : Int)) ∧ (mt (x.val : Int) (y.val : Int)).length ≤ 6 := by decide +kernel
theorem joints_both {a b : Int} (h : ringB a b = true) {k : Nat} (hk : 100 ≤ k) : spec_l03Joints.f k b = some (jt b) ∧ impl_Ring_joints.f k a b = some (jt b) ∧ (jt b).length = 6 := by
  obtain ⟨x, y, rfl, rfl⟩ := ring_fin h
  obtain ⟨h1, h2, h3⟩ := joints_fin x y
  exact ⟨at_rounds (g := fun k => spec_l03Joints.f k (y.val : Int)) (fun k => spec_l03Joints.mono _ k) hk h1, at_rounds (g := fun k => impl_Ring_joints.f k (x.val : Int) (y.val : Int)) (fun k => impl_Ring_joints.mono _ _ k) hk h2, h3⟩
theorem meet_both {a b c d : Int} (h : ringB a b = true) (h' : ringB c d = true) {k : Nat} (hk : 100 ≤ k) : spec_l03Meet.f k b d = some (mt b d) ∧ impl_meeting.f k a b c d = some (mt b d) ∧ (mt b d).length ≤ 6 := by
  obtain ⟨x, y, rfl, rfl⟩ := ring_fin h
  obtain ⟨x', y', rfl, rfl⟩ := ring_fin h'
  obtain ⟨h1, h2, h3⟩ := meet_fin x x' y y'
  exact ⟨at_rounds (g := fun k => spec_l03Meet.f k (y.val : Int) (y'.val : Int)) (fun k => spec_l03Meet.mono _ _ k) hk h1, at_rounds (g := fun k => impl_meeting.f k (x.val : Int) (y.val : Int) (x'.val : Int) (y'.val : Int)) (fun k => impl_meeting.mono _ _ _ _ k) hk h2, h3⟩

end Go.Proofs.YtlmdoapjcnaflaaDoor.Pure
