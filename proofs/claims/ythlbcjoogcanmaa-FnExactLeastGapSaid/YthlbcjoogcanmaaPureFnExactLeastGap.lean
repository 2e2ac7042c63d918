/- The program's LeastGap and the reference's answer alike for every machine. -/
import Derived.Test.YthlbcjoogcanmaaQ0
import Derived.Test.YthlbcjoogcanmaaQ5
import Derived.Test.YthlbcjoogcanmaaQ8
import Derived.Test.YthlbcjoogcanmaaQ34
import Derived.Test.YthlbcjoogcanmaaPMach
namespace Go.Proofs.Ythlbcjoogcanmaa.Pure
open Go.RowKit Go.Proofs.Ythlbcjoogcanmaa.Q Go.Proofs.YthlbcjoogcanmaaW.PrintWords Go.Proofs.YthlbcjoogcanmaaW.PrintLast
set_option linter.unusedVariables false
set_option linter.unusedSimpArgs false

theorem least_step (k : Nat) (gs : List Int) (hg : gs.length = 4) (b i : Int) (hb : 0 ≤ b) (hb4 : b < 4) (h0 : 0 ≤ i) (h4 : i < 4) :
    spec_l04Least.l0 (k + 1) gs b i = if rd gs i < rd gs b then spec_l04Least.l0 k gs i (i + 1) else spec_l04Least.l0 k gs b (i + 1) := by
  have h1 : i < (gs.length : Int) := by omega
  have h2 : b < (gs.length : Int) := by omega
  simp only [spec_l04Least.l0, if_pos h4, if_pos h0, if_pos h1, if_pos hb, if_pos h2]
  rw [w64 (x := i + 1) (by omega)]
theorem least_end (k : Nat) (gs : List Int) (b : Int) : spec_l04Least.l0 (k + 1) gs b 4 = some b := by
  simp only [spec_l04Least.l0]
  rw [if_neg (by omega)]
theorem index_step (k : Nat) (gs : List Int) (hg : gs.length = 4) (m i : Int) (h0 : 0 ≤ i) (h4 : i < 4) :
    slices_Index_int64_int64.l0 (k + 1) gs m 4 i = if m = rd gs i then some i else slices_Index_int64_int64.l0 k gs m 4 (i + 1) := by
  have h1 : i < (gs.length : Int) := by omega
  simp only [slices_Index_int64_int64.l0, if_pos h4, if_pos h0, if_pos h1]
  rw [w64 (x := i + 1) (by omega)]
theorem least_all (g0 g1 g2 g3 : Int) (k k' : Nat) : ∃ b : Int, 0 ≤ b ∧ b < 4 ∧ spec_l04Least.l0 (k + 4) [g0, g1, g2, g3] 0 1 = some b ∧
    slices_Index_int64_int64.l0 (k' + 4) [g0, g1, g2, g3] (minFrom [g1, g2, g3] g0) 4 0 = some b ∧ rd [g0, g1, g2, g3] b = minFrom [g1, g2, g3] g0 := by
  have r0 : rd [g0, g1, g2, g3] 0 = g0 := rfl
  have r1 : rd [g0, g1, g2, g3] 1 = g1 := rfl
  have r2 : rd [g0, g1, g2, g3] 2 = g2 := rfl
  have r3 : rd [g0, g1, g2, g3] 3 = g3 := rfl
  have s1 : ∀ q b, 0 ≤ b → b < 4 → spec_l04Least.l0 (q + 1) [g0, g1, g2, g3] b 1 = if g1 < rd [g0, g1, g2, g3] b then spec_l04Least.l0 q [g0, g1, g2, g3] 1 2 else spec_l04Least.l0 q [g0, g1, g2, g3] b 2 := fun q b h h' => least_step q _ rfl b 1 h h' (by omega) (by omega)
  have s2 : ∀ q b, 0 ≤ b → b < 4 → spec_l04Least.l0 (q + 1) [g0, g1, g2, g3] b 2 = if g2 < rd [g0, g1, g2, g3] b then spec_l04Least.l0 q [g0, g1, g2, g3] 2 3 else spec_l04Least.l0 q [g0, g1, g2, g3] b 3 := fun q b h h' => least_step q _ rfl b 2 h h' (by omega) (by omega)
  have s3 : ∀ q b, 0 ≤ b → b < 4 → spec_l04Least.l0 (q + 1) [g0, g1, g2, g3] b 3 = if g3 < rd [g0, g1, g2, g3] b then spec_l04Least.l0 q [g0, g1, g2, g3] 3 4 else spec_l04Least.l0 q [g0, g1, g2, g3] b 4 := fun q b h h' => least_step q _ rfl b 3 h h' (by omega) (by omega)
  have i0 : ∀ q m, slices_Index_int64_int64.l0 (q + 1) [g0, g1, g2, g3] m 4 0 = if m = g0 then some 0 else slices_Index_int64_int64.l0 q [g0, g1, g2, g3] m 4 1 := fun q m => index_step q _ rfl m 0 (by omega) (by omega)
  have i1 : ∀ q m, slices_Index_int64_int64.l0 (q + 1) [g0, g1, g2, g3] m 4 1 = if m = g1 then some 1 else slices_Index_int64_int64.l0 q [g0, g1, g2, g3] m 4 2 := fun q m => index_step q _ rfl m 1 (by omega) (by omega)
  have i2 : ∀ q m, slices_Index_int64_int64.l0 (q + 1) [g0, g1, g2, g3] m 4 2 = if m = g2 then some 2 else slices_Index_int64_int64.l0 q [g0, g1, g2, g3] m 4 3 := fun q m => index_step q _ rfl m 2 (by omega) (by omega)
  have i3 : ∀ q m, slices_Index_int64_int64.l0 (q + 1) [g0, g1, g2, g3] m 4 3 = if m = g3 then some 3 else slices_Index_int64_int64.l0 q [g0, g1, g2, g3] m 4 4 := fun q m => index_step q _ rfl m 3 (by omega) (by omega)
  have e : minFrom [g1, g2, g3] g0 = mn (mn (mn g0 g1) g2) g3 := rfl
  rw [s1 _ 0 (by omega) (by omega), r0, e]
  by_cases c1 : g1 < g0
  · have m1 : mn g0 g1 = g1 := by unfold mn; rw [if_pos c1]
    rw [if_pos c1, s2 _ 1 (by omega) (by omega), r1, m1]
    by_cases c2 : g2 < g1
    · have m2 : mn g1 g2 = g2 := by unfold mn; rw [if_pos c2]
      rw [if_pos c2, s3 _ 2 (by omega) (by omega), r2, m2]
      by_cases c3 : g3 < g2
      · have m3 : mn g2 g3 = g3 := by unfold mn; rw [if_pos c3]
        rw [if_pos c3, least_end, m3, i0, i1, i2, i3, if_neg (by omega), if_neg (by omega), if_neg (by omega), if_pos rfl]
        exact ⟨3, by omega, by omega, rfl, rfl, r3⟩
      · have m3 : mn g2 g3 = g2 := by unfold mn; rw [if_neg c3]
        rw [if_neg c3, least_end, m3, i0, i1, i2, i3, if_neg (by omega), if_neg (by omega), if_pos rfl]
        exact ⟨2, by omega, by omega, rfl, rfl, r2⟩
    · have m2 : mn g1 g2 = g1 := by unfold mn; rw [if_neg c2]
      rw [if_neg c2, s3 _ 1 (by omega) (by omega), r1, m2]
      by_cases c3 : g3 < g1
      · have m3 : mn g1 g3 = g3 := by unfold mn; rw [if_pos c3]
        rw [if_pos c3, least_end, m3, i0, i1, i2, i3, if_neg (by omega), if_neg (by omega), if_neg (by omega), if_pos rfl]
        exact ⟨3, by omega, by omega, rfl, rfl, r3⟩
      · have m3 : mn g1 g3 = g1 := by unfold mn; rw [if_neg c3]
        rw [if_neg c3, least_end, m3, i0, i1, i2, i3, if_neg (by omega), if_pos rfl]
        exact ⟨1, by omega, by omega, rfl, rfl, r1⟩
  · have m1 : mn g0 g1 = g0 := by unfold mn; rw [if_neg c1]
    rw [if_neg c1, s2 _ 0 (by omega) (by omega), r0, m1]
    by_cases c2 : g2 < g0
    · have m2 : mn g0 g2 = g2 := by unfold mn; rw [if_pos c2]
      rw [if_pos c2, s3 _ 2 (by omega) (by omega), r2, m2]
      by_cases c3 : g3 < g2
      · have m3 : mn g2 g3 = g3 := by unfold mn; rw [if_pos c3]
        rw [if_pos c3, least_end, m3, i0, i1, i2, i3, if_neg (by omega), if_neg (by omega), if_neg (by omega), if_pos rfl]
        exact ⟨3, by omega, by omega, rfl, rfl, r3⟩
      · have m3 : mn g2 g3 = g2 := by unfold mn; rw [if_neg c3]
        rw [if_neg c3, least_end, m3, i0, i1, i2, i3, if_neg (by omega), if_neg (by omega), if_pos rfl]
        exact ⟨2, by omega, by omega, rfl, rfl, r2⟩
    · have m2 : mn g0 g2 = g0 := by unfold mn; rw [if_neg c2]
      rw [if_neg c2, s3 _ 0 (by omega) (by omega), r0, m2]
      by_cases c3 : g3 < g0
      · have m3 : mn g0 g3 = g3 := by unfold mn; rw [if_pos c3]
        rw [if_pos c3, least_end, m3, i0, i1, i2, i3, if_neg (by omega), if_neg (by omega), if_neg (by omega), if_pos rfl]
        exact ⟨3, by omega, by omega, rfl, rfl, r3⟩
      · have m3 : mn g0 g3 = g0 := by unfold mn; rw [if_neg c3]
        rw [if_neg c3, least_end, m3, i0, i1, i2, i3, if_pos rfl]
        exact ⟨0, by omega, by omega, rfl, rfl, r0⟩

theorem FnExactLeastGap (a0 a1 a2 a3 a4 a5 a6 a7 a8 : Int) (_ : (Lit.int .i64 a0).wf = true) (_ : (Lit.int .i64 a1).wf = true) (_ : (Lit.int .i64 a2).wf = true) (_ : (Lit.int .i64 a3).wf = true) (_ : (Lit.int .i64 a4).wf = true) (_ : (Lit.int .i64 a5).wf = true) (_ : (Lit.int .i64 a6).wf = true) (_ : (Lit.int .i64 a7).wf = true) (_ : (Lit.int .i64 a8).wf = true) : ∃ k, laws_FnExactLeastGap.f k a0 a1 a2 a3 a4 a5 a6 a7 a8 = some true := by
  refine ⟨20, ?_⟩
  unfold laws_FnExactLeastGap.f laws_toMachine.f laws_toPose.f spec_LeastGap.f impl_LeastGap.f spec_l04Least.f slices_Index_int64_int64.f
  simp only [Option.bind_some]
  rw [smach_eq a0 a1 a2 a3 a4 a5 a6 a7 a8 14, imach_eq]
  cases h : machB a0 a1 a2 a3 a4 a5 a6 a7 a8 with
  | true =>
    obtain ⟨b, hb0, hb4, h1, h2, h3⟩ := least_all (wrap64 (40 - offS a4 a0 a2)) (wrap64 (40 - offS a5 a1 a3)) (wrap64 (40 + offS a4 a0 a2)) (wrap64 (40 + offS a5 a1 a3)) 16 16
    have h1' : spec_l04Least.l0 20 (gapsL a0 a1 a2 a3 a4 a5 a6 a7 a8) 0 1 = some b := h1
    have hmin : slices_Min_int64_int64.f (gapsL a0 a1 a2 a3 a4 a5 a6 a7 a8) = some (minFrom [wrap64 (40 - offS a5 a1 a3), wrap64 (40 + offS a4 a0 a2), wrap64 (40 + offS a5 a1 a3)] (wrap64 (40 - offS a4 a0 a2))) := rfl
    have hlen : ((gapsL a0 a1 a2 a3 a4 a5 a6 a7 a8).length : Int) = 4 := rfl
    have h2' : slices_Index_int64_int64.l0 20 (gapsL a0 a1 a2 a3 a4 a5 a6 a7 a8) (minFrom [wrap64 (40 - offS a5 a1 a3), wrap64 (40 + offS a4 a0 a2), wrap64 (40 + offS a5 a1 a3)] (wrap64 (40 - offS a4 a0 a2))) 4 0 = some b := h2
    have h3' : rd (gapsL a0 a1 a2 a3 a4 a5 a6 a7 a8) b = minFrom [wrap64 (40 - offS a5 a1 a3), wrap64 (40 + offS a4 a0 a2), wrap64 (40 + offS a5 a1 a3)] (wrap64 (40 - offS a4 a0 a2)) := h3
    simp only [Option.bind_some, if_true, sgaps_eq, igaps_eq, h1', hmin, hlen, h2', if_pos hb0, if_pos hb4, h3']
    simp
  | false => simp

end Go.Proofs.Ythlbcjoogcanmaa.Pure
