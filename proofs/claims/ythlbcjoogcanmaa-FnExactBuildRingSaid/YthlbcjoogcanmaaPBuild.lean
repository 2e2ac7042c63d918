/- Plain lemmas by hand: what a built ring makes of a machine, in the program and in the reference. -/
import Derived.Test.YthlbcjoogcanmaaQ0
import Derived.Test.YthlbcjoogcanmaaQ7
import Derived.Test.YthlbcjoogcanmaaQ9
import Derived.Test.YthlbcjoogcanmaaQ27
import Derived.Test.YthlbcjoogcanmaaPValid
namespace Go.Proofs.Ythlbcjoogcanmaa.Pure
open Go.RowKit Go.Proofs.Ythlbcjoogcanmaa.Q Go.Proofs.YthlbcjoogcanmaaW.PrintWords Go.Proofs.YthlbcjoogcanmaaW.PrintLast
set_option linter.unusedVariables false
set_option linter.unusedSimpArgs false

def ringB (x y : Int) : Bool := inR 0 1 x && inR 0 15 y
theorem sring_eq (x y : Int) : spec_l03Is.f x y = some (ringB x y) := by
  unfold spec_l03Is.f ringB
  simp only [in_eq, Option.bind_some, and_some]
theorem iring_eq (x y : Int) : impl_ValidRing.f x y = some (ringB x y) := by
  unfold impl_ValidRing.f ringB
  simp only [within_eq, Option.bind_some, and_some]
theorem turn_same (x y : Int) (h : ringB x y = true) : ∃ u v, spec_l03Turn.f x y = some (u, v) ∧ impl_Ring_turn.f x y = some (u, v) := by
  obtain ⟨h1, h2⟩ := Bool.and_eq_true_iff.1 h
  have p1 := inR_iff h1
  have p2 := inR_iff h2
  have hx : x = 0 ∨ x = 1 := by omega
  rcases hx with rfl | rfl
  · exact ⟨0, 0, rfl, rfl⟩
  · have hy : y = 0 ∨ y = 1 ∨ y = 2 ∨ y = 3 ∨ y = 4 ∨ y = 5 ∨ y = 6 ∨ y = 7 ∨ y = 8 ∨ y = 9 ∨ y = 10 ∨ y = 11 ∨ y = 12 ∨ y = 13 ∨ y = 14 ∨ y = 15 := by omega
    rcases hy with rfl | rfl | rfl | rfl | rfl | rfl | rfl | rfl | rfl | rfl | rfl | rfl | rfl | rfl | rfl | rfl <;> (refine ⟨_, _, ?_, rfl⟩; simp [spec_l03Turn.f, rd, wrap64])

/-- A machine with a ring built. -/
def buildT (a0 a1 a2 a3 a4 a5 a6 a7 a8 u v : Int) : Int × Int × Int × Int × Int × Int × Int × Int × Int × Bool :=
  if machB a0 a1 a2 a3 (wrap64 (a4 + a6)) (wrap64 (a5 + a7)) (wrap64 (a6 + u)) (wrap64 (a7 + v)) (wrap64 (a8 - 1500)) = true
  then (a0, a1, a2, a3, wrap64 (a4 + a6), wrap64 (a5 + a7), wrap64 (a6 + u), wrap64 (a7 + v), wrap64 (a8 - 1500), true) else (0, 0, 0, 0, 0, 0, 0, 0, 0, false)
section
variable (a0 a1 a2 a3 a4 a5 a6 a7 a8 x y : Int)
theorem sbuild_no (k : Nat) (h : ringB x y = false) : spec_l04Build.f k a0 a1 a2 a3 a4 a5 a6 a7 a8 x y = some (0, 0, 0, 0, 0, 0, 0, 0, 0, false) := by
  unfold spec_l04Build.f
  rw [sring_eq, h]
  rfl
theorem ibuild_no (k : Nat) (h : (machB a0 a1 a2 a3 a4 a5 a6 a7 a8 && ringB x y) = false) : impl_BuildRing.f (k + 1) a0 a1 a2 a3 a4 a5 a6 a7 a8 x y = some (0, 0, 0, 0, 0, 0, 0, 0, 0, false) := by
  unfold impl_BuildRing.f
  rw [imach_eq, iring_eq]
  simp only [Option.bind_some, impl_BuildRing.j0]
  cases h1 : machB a0 a1 a2 a3 a4 a5 a6 a7 a8 <;> cases h2 : ringB x y <;> simp_all
theorem build_yes (h : ringB x y = true) : ∃ u v, (∀ k, spec_l04Build.f (k + 6) a0 a1 a2 a3 a4 a5 a6 a7 a8 x y = some (buildT a0 a1 a2 a3 a4 a5 a6 a7 a8 u v)) ∧
    (machB a0 a1 a2 a3 a4 a5 a6 a7 a8 = true → ∀ k, impl_BuildRing.f (k + 1) a0 a1 a2 a3 a4 a5 a6 a7 a8 x y = some (buildT a0 a1 a2 a3 a4 a5 a6 a7 a8 u v)) := by
  obtain ⟨u, v, e1, e2⟩ := turn_same x y h
  refine ⟨u, v, fun k => ?_, fun hm k => ?_⟩
  · unfold spec_l04Build.f buildT spec_l02Next.f
    rw [sring_eq, h, e1]
    simp only [Option.bind_some, if_true, smach_eq]
    by_cases c : machB a0 a1 a2 a3 (wrap64 (a4 + a6)) (wrap64 (a5 + a7)) (wrap64 (a6 + u)) (wrap64 (a7 + v)) (wrap64 (a8 - 1500)) = true
    · rw [if_pos c, if_pos c]
    · rw [if_neg c, if_neg c]
  · unfold impl_BuildRing.f buildT
    rw [imach_eq, iring_eq, hm, h]
    simp only [Option.bind_some, if_true, impl_BuildRing.j0, e2, impl_Pose_next.f, ivalid_eq, Bool.not_true, Bool.false_eq_true, if_false]
end

end Go.Proofs.Ythlbcjoogcanmaa.Pure
