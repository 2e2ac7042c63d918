/- Plain lemmas by hand: gaps, strokes and validity of a machine as the program and the reference compute them. -/
import Derived.Test.YthjcoobgibdpcaaQ0
import Derived.Test.YthjcoobgibdpcaaQ6
import Derived.Test.YthjcoobgibdpcaaQ7
import Derived.Test.YthjcoobgibdpcaaQ8
import Derived.Test.YthjcoobgibdpcaaPBaseM
namespace Go.Proofs.Ythjcoobgibdpcaa.Pure
open Go.RowKit Go.Proofs.Ythjcoobgibdpcaa.Q Go.Proofs.YthjcoobgibdpcaaW.PrintWords Go.Proofs.YthjcoobgibdpcaaW.PrintLast
set_option linter.unusedVariables false
set_option linter.unusedSimpArgs false

def offS (t s h : Int) : Int := wrap64 (wrap64 (t - s) + wrap64 (2 * h))
def gapsL (a0 a1 a2 a3 a4 a5 a6 a7 a8 : Int) : List Int := [wrap64 (40 - offS a4 a0 a2), wrap64 (40 - offS a5 a1 a3), wrap64 (40 + offS a4 a0 a2), wrap64 (40 + offS a5 a1 a3)]
def strokesL (a0 a1 a2 a3 a4 a5 a6 a7 a8 : Int) : List Int := [wrap64 (a8 - wrap64 (2 * wrap64 (a2 - a6))), wrap64 (a8 - wrap64 (2 * wrap64 (a3 - a7))), wrap64 (a8 + wrap64 (2 * wrap64 (a2 - a6))), wrap64 (a8 + wrap64 (2 * wrap64 (a3 - a7)))]
def pos (g : Int) : Bool := decide (0 ≤ g)
def machB (a0 a1 a2 a3 a4 a5 a6 a7 a8 : Int) : Bool :=
  poseB a0 a1 a2 a3 && (poseB a4 a5 a6 a7 && (inR 0 2400 a8 && ((gapsL a0 a1 a2 a3 a4 a5 a6 a7 a8).all pos && (strokesL a0 a1 a2 a3 a4 a5 a6 a7 a8).all (inR 0 2400))))

section
variable (a0 a1 a2 a3 a4 a5 a6 a7 a8 : Int)
theorem igaps_eq : impl_Machine_gaps.f a0 a1 a2 a3 a4 a5 a6 a7 a8 = some (gapsL a0 a1 a2 a3 a4 a5 a6 a7 a8) := rfl
theorem istrokes_eq : impl_Machine_strokes.f a0 a1 a2 a3 a4 a5 a6 a7 a8 = some (strokesL a0 a1 a2 a3 a4 a5 a6 a7 a8) := rfl
theorem sgaps_eq : spec_l04Gaps.f a0 a1 a2 a3 a4 a5 a6 a7 a8 = some (gapsL a0 a1 a2 a3 a4 a5 a6 a7 a8) := rfl
theorem half4 (x : Int) (h : -800 ≤ x ∧ x ≤ 800) : wrap64 (Int.tdiv (wrap64 (4 * wrap64 x)) 2) = wrap64 (2 * wrap64 x) := by
  rw [w64 (x := x) (by omega), w64 (x := 4 * x) (by omega), w64 (x := 2 * x) (by omega)]
  have e : Int.tdiv (4 * x) 2 = 2 * x := by
    rw [show 4 * x = (2 * x) * 2 by omega]
    exact Int.mul_tdiv_cancel _ (by decide)
  rw [e, w64 (by omega)]
theorem sstrokes_eq (h1 : poseB a0 a1 a2 a3 = true) (h2 : poseB a4 a5 a6 a7 = true) : spec_l04Strokes.f a0 a1 a2 a3 a4 a5 a6 a7 a8 = some (strokesL a0 a1 a2 a3 a4 a5 a6 a7 a8) := by
  have p1 := poseB_iff h1
  have p2 := poseB_iff h2
  unfold spec_l04Strokes.f strokesL
  rw [half4 (a2 - a6) (by omega), half4 (a3 - a7) (by omega)]
end

theorem minFrom_pos (xs : List Int) : ∀ m, (0 ≤ minFrom xs m ↔ 0 ≤ m ∧ xs.all pos = true) := by
  induction xs with
  | nil => intro m; simp [minFrom]
  | cons x xs ih =>
    intro m
    rw [minFrom, ih, List.all_cons]
    unfold mn pos
    by_cases h : x < m
    · rw [if_pos h]; simp; omega
    · rw [if_neg h]; simp; omega

section
variable (a0 a1 a2 a3 a4 a5 a6 a7 a8 : Int)
theorem imin_eq : ∃ m, slices_Min_int64_int64.f (gapsL a0 a1 a2 a3 a4 a5 a6 a7 a8) = some m ∧ decide (m ≥ 0) = (gapsL a0 a1 a2 a3 a4 a5 a6 a7 a8).all pos := by
  refine ⟨_, rfl, ?_⟩
  have := minFrom_pos [wrap64 (40 - offS a5 a1 a3), wrap64 (40 + offS a4 a0 a2), wrap64 (40 + offS a5 a1 a3)] (wrap64 (40 - offS a4 a0 a2))
  rw [Bool.eq_iff_iff, decide_eq_true_iff]
  refine this.trans ?_
  simp [gapsL, pos]
theorem imach_eq : impl_ValidMachine.f a0 a1 a2 a3 a4 a5 a6 a7 a8 = some (machB a0 a1 a2 a3 a4 a5 a6 a7 a8) := by
  unfold impl_ValidMachine.f machB
  obtain ⟨m, hm, hd⟩ := imin_eq a0 a1 a2 a3 a4 a5 a6 a7 a8
  simp only [ipose_eq, within_eq, igaps_eq, istrokes_eq, aw_eq, hm, Option.bind_some]
  rw [← hd]
  by_cases h : m ≥ 0
  · simp only [if_pos h, decide_eq_true h, Bool.true_and, and_some]
  · simp only [if_neg h, decide_eq_false h, Bool.false_and, Bool.and_false, and_some]

theorem is_step (k : Nat) (gs ss : List Int) (hg : gs.length = 4) (hs : ss.length = 4) (i : Int) (h0 : 0 ≤ i) (h4 : i < 4) :
    spec_l04Is.l0 (k + 1) gs ss i = if (pos (rd gs i) && inR 0 2400 (rd ss i)) = true then spec_l04Is.l0 k gs ss (i + 1) else some false := by
  have hg' : i < (gs.length : Int) := by omega
  have hs' : i < (ss.length : Int) := by omega
  simp only [spec_l04Is.l0, if_pos h4, if_pos h0, if_pos hg', if_pos hs', in_eq, Option.bind_some]
  rw [w64 (x := i + 1) (by omega)]
  by_cases c : rd gs i < 0
  · rw [if_pos c, pos, decide_eq_false (by omega), Bool.false_and, if_neg (by simp)]
  · rw [if_neg c, pos, decide_eq_true (by omega), Bool.true_and]
theorem is_end (k : Nat) (gs ss : List Int) : spec_l04Is.l0 (k + 1) gs ss 4 = some true := by
  simp only [spec_l04Is.l0]
  rw [if_neg (by omega)]
theorem is_all (k : Nat) (g0 g1 g2 g3 s0 s1 s2 s3 : Int) : spec_l04Is.l0 (k + 5) [g0, g1, g2, g3] [s0, s1, s2, s3] 0 = some ([g0, g1, g2, g3].all pos && [s0, s1, s2, s3].all (inR 0 2400)) := by
  rw [is_step _ _ _ rfl rfl 0 (by omega) (by omega), is_step _ _ _ rfl rfl (0 + 1) (by omega) (by omega), is_step _ _ _ rfl rfl (0 + 1 + 1) (by omega) (by omega), is_step _ _ _ rfl rfl (0 + 1 + 1 + 1) (by omega) (by omega),
    show (0 + 1 + 1 + 1 + 1 : Int) = 4 by omega, is_end]
  have r0 : rd [g0, g1, g2, g3] 0 = g0 := rfl
  have r1 : rd [g0, g1, g2, g3] (0 + 1) = g1 := rfl
  have r2 : rd [g0, g1, g2, g3] (0 + 1 + 1) = g2 := rfl
  have r3 : rd [g0, g1, g2, g3] (0 + 1 + 1 + 1) = g3 := rfl
  have t0 : rd [s0, s1, s2, s3] 0 = s0 := rfl
  have t1 : rd [s0, s1, s2, s3] (0 + 1) = s1 := rfl
  have t2 : rd [s0, s1, s2, s3] (0 + 1 + 1) = s2 := rfl
  have t3 : rd [s0, s1, s2, s3] (0 + 1 + 1 + 1) = s3 := rfl
  rw [r0, r1, r2, r3, t0, t1, t2, t3]
  simp only [List.all_cons, List.all_nil, Bool.and_true]
  cases pos g0 <;> cases pos g1 <;> cases pos g2 <;> cases pos g3 <;> cases inR 0 2400 s0 <;> cases inR 0 2400 s1 <;> cases inR 0 2400 s2 <;> cases inR 0 2400 s3 <;> rfl
theorem smach_eq (k : Nat) : spec_l04Is.f (k + 6) a0 a1 a2 a3 a4 a5 a6 a7 a8 = some (machB a0 a1 a2 a3 a4 a5 a6 a7 a8) := by
  unfold spec_l04Is.f machB
  simp only [spose_eq, in_eq, Option.bind_some, spec_l04Is.j0, sgaps_eq]
  by_cases h1 : poseB a0 a1 a2 a3 = true
  · by_cases h2 : poseB a4 a5 a6 a7 = true
    · rw [sstrokes_eq a0 a1 a2 a3 a4 a5 a6 a7 a8 h1 h2]
      simp only [h1, h2, if_true, Bool.true_and, Option.bind_some]
      have this : spec_l04Is.l0 (k + 5) (gapsL a0 a1 a2 a3 a4 a5 a6 a7 a8) (strokesL a0 a1 a2 a3 a4 a5 a6 a7 a8) 0 = some ((gapsL a0 a1 a2 a3 a4 a5 a6 a7 a8).all pos && (strokesL a0 a1 a2 a3 a4 a5 a6 a7 a8).all (inR 0 2400)) := is_all k (wrap64 (40 - offS a4 a0 a2)) (wrap64 (40 - offS a5 a1 a3)) (wrap64 (40 + offS a4 a0 a2)) (wrap64 (40 + offS a5 a1 a3)) (wrap64 (a8 - wrap64 (2 * wrap64 (a2 - a6)))) (wrap64 (a8 - wrap64 (2 * wrap64 (a3 - a7)))) (wrap64 (a8 + wrap64 (2 * wrap64 (a2 - a6)))) (wrap64 (a8 + wrap64 (2 * wrap64 (a3 - a7))))
      cases inR 0 2400 a8 with
      | true => simpa using this
      | false => simp
    · simp [h1, h2]
  · simp [h1]
end

end Go.Proofs.Ythjcoobgibdpcaa.Pure
