/- A machine and its mirror image: mirrored twice it is itself; gaps and strokes to the right and to the left are exchanged. -/
import Derived.Test.YthlbcjoogcanmaaQ0
import Derived.Test.YthlbcjoogcanmaaQ17
import Derived.Test.YthlbcjoogcanmaaQ21
import Derived.Test.YthlbcjoogcanmaaQ22
import Derived.Test.YthlbcjoogcanmaaQ23
import Derived.Test.YthlbcjoogcanmaaQ26
import Derived.Test.YthlbcjoogcanmaaQ40
import Derived.Test.YthlbcjoogcanmaaPDraw
namespace Go.Proofs.Ythlbcjoogcanmaa.Pure
open Go.RowKit Go.Proofs.Ythlbcjoogcanmaa.Q Go.Proofs.YthlbcjoogcanmaaW.PrintWords Go.Proofs.YthlbcjoogcanmaaW.PrintLast
set_option linter.unusedVariables false
set_option linter.unusedSimpArgs false

section
variable (a0 a1 a2 a3 a4 a5 a6 a7 a8 : Int)
theorem mach_parts (h : machB a0 a1 a2 a3 a4 a5 a6 a7 a8 = true) : poseB a0 a1 a2 a3 = true ∧ poseB a4 a5 a6 a7 = true ∧ (0 ≤ a8 ∧ a8 ≤ 2400) := by
  unfold machB at h
  simp only [Bool.and_eq_true] at h
  exact ⟨h.1, h.2.1, inR_iff h.2.2.1⟩
theorem offS_neg (t s y : Int) (ht : -100000 ≤ t ∧ t ≤ 100000) (hs : -100000 ≤ s ∧ s ≤ 100000) (hy : -400 ≤ y ∧ y ≤ 400) : offS (-t) (-s) (-y) = - offS t s y ∧ (-300000 ≤ offS t s y ∧ offS t s y ≤ 300000) := by
  unfold offS
  rw [w64 (x := -t - -s) (by omega), w64 (x := 2 * -y) (by omega), w64 (x := t - s) (by omega), w64 (x := 2 * y) (by omega), w64 (by omega), w64 (by omega)]
  omega
theorem mirror_gaps (h : machB a0 a1 a2 a3 a4 a5 a6 a7 a8 = true) : ∃ g0 g1 g2 g3, gapsL a0 a1 a2 a3 a4 a5 a6 a7 a8 = [g0, g1, g2, g3] ∧ gapsL (-a0) a1 (-a2) a3 (-a4) a5 (-a6) a7 a8 = [g2, g1, g0, g3] := by
  obtain ⟨h1, h2, h3⟩ := mach_parts a0 a1 a2 a3 a4 a5 a6 a7 a8 h
  have p1 := poseB_iff h1
  have p2 := poseB_iff h2
  obtain ⟨e, b1, b2⟩ := offS_neg a4 a0 a2 p2.1 p1.1 p1.2.2.1
  refine ⟨_, _, _, _, rfl, ?_⟩
  unfold gapsL
  rw [e]
  have e1 : (40 : Int) - -offS a4 a0 a2 = 40 + offS a4 a0 a2 := by omega
  have e2 : (40 : Int) + -offS a4 a0 a2 = 40 - offS a4 a0 a2 := by omega
  rw [e1, e2]
theorem mirror_strokes (h : machB a0 a1 a2 a3 a4 a5 a6 a7 a8 = true) : ∃ g0 g1 g2 g3, strokesL a0 a1 a2 a3 a4 a5 a6 a7 a8 = [g0, g1, g2, g3] ∧ strokesL (-a0) a1 (-a2) a3 (-a4) a5 (-a6) a7 a8 = [g2, g1, g0, g3] := by
  obtain ⟨h1, h2, h3⟩ := mach_parts a0 a1 a2 a3 a4 a5 a6 a7 a8 h
  have p1 := poseB_iff h1
  have p2 := poseB_iff h2
  refine ⟨_, _, _, _, rfl, ?_⟩
  unfold strokesL
  have e : wrap64 (2 * wrap64 (-a2 - -a6)) = - wrap64 (2 * wrap64 (a2 - a6)) := by
    rw [w64 (x := -a2 - -a6) (by omega), w64 (x := a2 - a6) (by omega), w64 (by omega), w64 (by omega)]
    omega
  rw [e]
  have e1 : a8 - -wrap64 (2 * wrap64 (a2 - a6)) = a8 + wrap64 (2 * wrap64 (a2 - a6)) := by omega
  have e2 : a8 + -wrap64 (2 * wrap64 (a2 - a6)) = a8 - wrap64 (2 * wrap64 (a2 - a6)) := by omega
  rw [e1, e2]
theorem pose_neg (a b c d : Int) : poseB (-a) b (-c) d = poseB a b c d := by
  have h : ∀ x m : Int, inR (-m) m (-x) = inR (-m) m x := by
    intro x m
    rw [Bool.eq_iff_iff]
    simp only [inR, Bool.and_eq_true, decide_eq_true_eq]
    omega
  unfold poseB
  rw [h a 100000, h c 400]
theorem mirror_mach (h : machB a0 a1 a2 a3 a4 a5 a6 a7 a8 = true) : machB (-a0) a1 (-a2) a3 (-a4) a5 (-a6) a7 a8 = true := by
  obtain ⟨g0, g1, g2, g3, e1, e2⟩ := mirror_gaps a0 a1 a2 a3 a4 a5 a6 a7 a8 h
  obtain ⟨s0, s1, s2, s3, f1, f2⟩ := mirror_strokes a0 a1 a2 a3 a4 a5 a6 a7 a8 h
  unfold machB at h ⊢
  rw [e1, f1] at h
  rw [e2, f2, pose_neg, pose_neg]
  simp only [List.all_cons, List.all_nil, Bool.and_true, Bool.and_eq_true] at h ⊢
  obtain ⟨u1, u2, u3, ⟨u4, u5, u6, u7⟩, u8, u9, u10, u11⟩ := h
  exact ⟨u1, u2, u3, ⟨u6, u5, u4, u7⟩, u10, u9, u8, u11⟩
theorem wneg (x : Int) (h : -100000 ≤ x ∧ x ≤ 100000) : wrap64 (-x) = -x := w64 (by omega)
theorem imirror_eq (h : machB a0 a1 a2 a3 a4 a5 a6 a7 a8 = true) : impl_MirrorMachine.f a0 a1 a2 a3 a4 a5 a6 a7 a8 = some (-a0, a1, -a2, a3, -a4, a5, -a6, a7, a8, true) := by
  obtain ⟨h1, h2, h3⟩ := mach_parts a0 a1 a2 a3 a4 a5 a6 a7 a8 h
  have p1 := poseB_iff h1
  have p2 := poseB_iff h2
  unfold impl_MirrorMachine.f impl_Pose_mirrored.f
  rw [imach_eq, h]
  simp only [Option.bind_some, if_true]
  rw [wneg a0 (by omega), wneg a2 (by omega), wneg a4 (by omega), wneg a6 (by omega)]
theorem igapsof_eq (h : machB a0 a1 a2 a3 a4 a5 a6 a7 a8 = true) : impl_GapsOf.f a0 a1 a2 a3 a4 a5 a6 a7 a8 = some (gapsL a0 a1 a2 a3 a4 a5 a6 a7 a8, true) := by
  unfold impl_GapsOf.f
  rw [imach_eq, h]
  simp only [Option.bind_some, if_true, igaps_eq]
theorem istrokesof_eq (h : machB a0 a1 a2 a3 a4 a5 a6 a7 a8 = true) : impl_StrokesOf.f a0 a1 a2 a3 a4 a5 a6 a7 a8 = some (strokesL a0 a1 a2 a3 a4 a5 a6 a7 a8, true) := by
  unfold impl_StrokesOf.f
  rw [imach_eq, h]
  simp only [Option.bind_some, if_true, istrokes_eq]
end

theorem loop_all (k : Nat) (g0 g1 g2 g3 s0 s1 s2 s3 : Int) : laws_FnMirrored.l0 (k + 5) [g0, g1, g2, g3] [g2, g1, g0, g3] [s0, s1, s2, s3] [s2, s1, s0, s3] 0 = some true := by
  have w1 : wrap64 (0 + 1) = 1 := w64 (by omega)
  have w2 : wrap64 (1 + 1) = 2 := w64 (by omega)
  have w3 : wrap64 (2 + 1) = 3 := w64 (by omega)
  have w4 : wrap64 (3 + 1) = 4 := w64 (by omega)
  have v0 : wrap64 (2 - 0) = 2 := w64 (by omega)
  have v2 : wrap64 (2 - 2) = 0 := w64 (by omega)
  have t0 : Int.tmod 0 2 = 0 := rfl
  have t1 : ¬ (Int.tmod 1 2 = 0) := by decide
  have t2 : Int.tmod 2 2 = 0 := rfl
  have t3 : ¬ (Int.tmod 3 2 = 0) := by decide
  have r : ∀ x0 x1 x2 x3 : Int, rd [x0, x1, x2, x3] 0 = x0 ∧ rd [x0, x1, x2, x3] 1 = x1 ∧ rd [x0, x1, x2, x3] 2 = x2 ∧ rd [x0, x1, x2, x3] 3 = x3 := fun _ _ _ _ => ⟨rfl, rfl, rfl, rfl⟩
  have len : ∀ x0 x1 x2 x3 : Int, (([x0, x1, x2, x3] : List Int).length : Int) = 4 := fun _ _ _ _ => rfl
  have c03 : (0 : Int) < 4 := by omega
  have c13 : (1 : Int) < 4 := by omega
  have c23 : (2 : Int) < 4 := by omega
  have c33 : (3 : Int) < 4 := by omega
  have c43 : ¬ ((4 : Int) < 4) := by omega
  have n0 : (0 : Int) ≤ 0 := by omega
  have n1 : (0 : Int) ≤ 1 := by omega
  have n2 : (0 : Int) ≤ 2 := by omega
  have n3 : (0 : Int) ≤ 3 := by omega
  rw [laws_FnMirrored.l0]
  simp only [len, if_pos c03, if_pos t0, if_pos n0, v0, if_pos n2, if_pos c23, (r _ _ _ _).1, (r _ _ _ _).2.2.1, if_true, w1]
  rw [laws_FnMirrored.l0]
  simp only [len, if_pos c13, if_neg t1, if_pos n1, (r _ _ _ _).2.1, if_true, w2]
  rw [laws_FnMirrored.l0]
  simp only [len, if_pos c23, if_pos t2, if_pos n2, v2, if_pos n0, if_pos c03, (r _ _ _ _).1, (r _ _ _ _).2.2.1, if_true, w3]
  rw [laws_FnMirrored.l0]
  simp only [len, if_pos c33, if_neg t3, if_pos n3, (r _ _ _ _).2.2.2, if_true, w4]
  rw [laws_FnMirrored.l0, if_neg c43]

theorem FnMirrored (l0 l1 : List Int) (hm0 : l0.length ≤ 9223372036854775807) (hw0 : ∀ z ∈ l0, (Lit.int .u8 z).wf = true) (hm1 : l1.length ≤ 9223372036854775807) (hw1 : ∀ z ∈ l1, (Lit.int .u8 z).wf = true) : ∃ k, laws_FnMirrored.f k l0 l1 = some true := by
  refine ⟨20, ?_⟩
  unfold laws_FnMirrored.f laws_r8Long.f
  by_cases hs : (l0.length : Int) > 48
  · rw [if_pos hs]; rfl
  · rw [if_neg hs]
    simp only [Option.bind_some]
    by_cases hs1 : (l1.length : Int) > 48
    · rw [decide_eq_true hs1]; rfl
    · rw [decide_eq_false hs1, if_neg (by simp)]
      have hb : Bytes l0 := ⟨by omega, fun z hz => by
        have := hw0 z hz
        have m0 : IntKind.u8.min = 0 := rfl
        have m1 : IntKind.u8.max = 255 := rfl
        simp only [Lit.wf, m0, m1, Bool.and_eq_true, decide_eq_true_eq] at this
        omega⟩
      obtain ⟨a0, a1, a2, a3, a4, a5, a6, a7, a8, e, hv⟩ := machine_drawn hb 12
      have hv' := mirror_mach a0 a1 a2 a3 a4 a5 a6 a7 a8 hv
      have hback := imirror_eq (-a0) a1 (-a2) a3 (-a4) a5 (-a6) a7 a8 hv'
      simp only [Int.neg_neg] at hback
      obtain ⟨g0, g1, g2, g3, e1, e2⟩ := mirror_gaps a0 a1 a2 a3 a4 a5 a6 a7 a8 hv
      obtain ⟨s0, s1, s2, s3, f1, f2⟩ := mirror_strokes a0 a1 a2 a3 a4 a5 a6 a7 a8 hv
      have e0 : spec_R8Machine.f 20 l0 = some (a0, a1, a2, a3, a4, a5, a6, a7, a8) := e
      rw [e0]
      simp only [Option.bind_some, imirror_eq a0 a1 a2 a3 a4 a5 a6 a7 a8 hv, hback, igapsof_eq a0 a1 a2 a3 a4 a5 a6 a7 a8 hv, istrokesof_eq a0 a1 a2 a3 a4 a5 a6 a7 a8 hv, igapsof_eq _ _ _ _ _ _ _ _ _ hv', istrokesof_eq _ _ _ _ _ _ _ _ _ hv', if_true, e1, e2, f1, f2]
      have len : ∀ x0 x1 x2 x3 : Int, (([x0, x1, x2, x3] : List Int).length : Int) = 4 := fun _ _ _ _ => rfl
      simp only [beq_self_eq_true, Bool.not_true, Bool.or_self, Bool.false_eq_true, if_false, len, if_true, bne_self_eq_false]
      rw [laws_FnMirrored.j0, if_neg (by simp)]
      exact loop_all 14 g0 g1 g2 g3 s0 s1 s2 s3

end Go.Proofs.Ythlbcjoogcanmaa.Pure
